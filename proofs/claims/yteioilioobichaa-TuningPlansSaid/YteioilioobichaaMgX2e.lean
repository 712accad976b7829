/- A contract out of two runs: first with one row of a shared table told exactly, then with the table as it is shared. -/
import Derived.Test.YteioilioobichaaMgX2c
import Derived.Test.YteioilioobichaaMgX2d
import Derived.Test.YteioilioobichaaRows
/- A contract out of two runs: first with one row of a shared table told exactly, then with the table as it is shared. -/
set_option linter.all false
namespace Go.Vx
open Go.RowKit
section
variable {P : Program} {E : Env}

theorem vcode_seq_inv {c : Code} {a b : VC} (h : vcode P c = some (.seq a b)) : ∃ x y, c = .seq x y ∧ vcode P x = some a ∧ vcode P y = some b := by
  unfold vcode at h
  split at h
  · cases h
  · split at h
    · cases h' : drawC P ‹_› with
      | seq => unfold drawC at h'; split at h'
               · cases h'
               · split at h' <;> cases h'
      | _ => rw [h'] at h; cases h
    · split at h <;> cases h
  · simp only [Option.bind_eq_some_iff, Option.map_eq_some_iff] at h
    obtain ⟨_, _, _, _, _, _, h⟩ := h
    cases h
  · rename_i x y
    obtain ⟨x', hx, h⟩ := Option.bind_eq_some_iff.1 h
    obtain ⟨y', hy, h⟩ := Option.map_eq_some_iff.1 h
    cases h
    exact ⟨x, y, rfl, hx, hy⟩
  · simp only [Option.bind_eq_some_iff, Option.map_eq_some_iff] at h
    obtain ⟨_, _, _, _, _, _, h⟩ := h
    cases h
  all_goals first
    | (cases h; done)
    | (obtain ⟨_, _, h⟩ := Option.map_eq_some_iff.1 h; cases h; done)

section
variable {w : World} {bs : List BK} {B : Bd}
theorem xcons_inv {x : SV} {l : List SV} {vs : List Value} (h : XRepL w bs B (x :: l) vs) : ∃ v vs', vs = v :: vs' ∧ XRep w bs B x v ∧ XRepL w bs B l vs' := by
  cases h with | cons _ v _ vs h h' => exact ⟨v, vs, rfl, h, h'⟩
theorem xnil_inv {vs : List Value} (h : XRepL w bs B [] vs) : vs = [] := by cases h; rfl
theorem xint_inv {k : IntKind} {x : Int} {v : Value} (h : XRep w bs B (.int k x) v) : v = .int k x := by cases h; rfl
theorem xval_inv {u v : Value} (h : XRep w bs B (.val u) v) : v = u := by cases h; rfl
theorem xxp_inv {t : Bool} {cs : List SV} {v : Value} (h : XRep w bs B (.xp t cs) v) : ∃ ad vals, v = .pointer (some ad) ∧ ad.spot = none ∧ Fr B bs ad.block ∧ (t = true → B ≤ ad.block) ∧ Cells w ad.block ad.off vals ∧ XRepL w bs B cs vals := by
  cases h with | xp _ _ ad vals hs hf ht hc h => exact ⟨ad, vals, rfl, hs, hf, ht, hc, h⟩
theorem xvs_inv {t z : Bool} {n size : Nat} {get : Nat → List SV} {v : Value} (h : XRep w bs B (.vs t z n size get) v) : ∃ (a : Option Addr) (cap : Nat) (vals : Nat → List Value), v = .slice a n cap ∧ z = a.isNone ∧ n ≤ cap ∧ (a = none → n = 0 ∧ cap = 0) ∧
    (∀ k, k < n → ∃ ad, a = some ad ∧ ad.spot = none ∧ Fr B bs ad.block ∧ (t = true → B ≤ ad.block) ∧ (vals k).length = size ∧ Cells w ad.block (ad.off + k * size) (vals k)) ∧ ∀ k, k < n → XRepL w bs B (get k) (vals k) := by
  cases h with | vs _ _ _ _ _ a cap vals hz hc hn hcell h => exact ⟨a, cap, vals, rfl, hz, hc, hn, hcell, h⟩
theorem xrow_inv {n : Nat} {C : Nat → Int → Prop} {v : Value} (h : XRep w bs B (.row n C) v) : ∃ b cap, v = .slice (some ⟨b, 0, none⟩) n cap ∧ B.I b = some (.ints n C) ∧ n ≤ cap := by
  cases h with | row _ _ b cap h hc => exact ⟨b, cap, rfl, h, hc⟩
theorem rep_xp_inv {t : Bool} {cs : List SV} {v : Value} (h : Rep w bs B (.xp t cs) v) : XRep w bs B (.xp t cs) v := by cases h; assumption
theorem rep_int_inv {k : IntKind} {x : Int} {v : Value} (h : Rep w bs B (.int k x) v) : v = .int k x := by cases h; exact xint_inv ‹_›
theorem blankL_ok : ∀ {n : Nat} {vs : List Value}, RepL w bs B (blankL n) vs → ∀ {B' : Bd}, RepL w bs B' (blankL n) vs
  | 0, _, h, _ => by rw [RepL.nil_inv h]; exact .nil
  | n + 1, _, h, _ => by
    obtain ⟨v, vs', rfl, _, h2⟩ := RepL.cons_inv h
    exact .cons _ _ _ _ (.x _ _ (.junk _)) (blankL_ok h2)
end

def pinA (t tz zk : Bool) (N m S p : Nat) (u0 u1 : Value) (r : Nat → Value) (C1 : Nat → Int → Prop) : List SV :=
  [.xp t [.val u0, .val u1, .vs tz zk N 1 (fun d => if d = S then [.row m C1] else [.val (r d)])], .int .i64 S, .int .i64 p]

theorem contract_pin {f : FuncId} {fn : Func} {vf : VF} (hf : P.funcs[f]? = some fn) (hvf : vfunc P fn = some vf) (hE : EnvOk P E) {v1 v2 v3 : VC} (hb : vf.body = .seq v1 (.seq v2 v3)) (hnt3 : 3 ≤ vf.ntmps) (n n2 : Nat) (c : Ctr)
    (h : ∀ (args : List SV) (k : SV → List HO → Prop), CSat (c.of args) k → ∃ (t tz zk : Bool) (N m S p : Nat) (get : Nat → List SV) (C : Nat → Nat → Int → Prop) (x0 x1 mv wk : SV),
      (args = [.xp t [x0, x1, .vs tz zk N 1 get], .int .i64 S, .int .i64 p] ∧ leX x0 mv ∧ leX x1 wk ∧ (∀ d, d < N → leXL (get d) [.row m (C d)]) ∧ S < N ∧ p < m) ∧
      (∀ (u0 u1 : Value) (r : Nat → Value) (x : Int) (C1 : Nat → Int → Prop), C S p x → (∀ v, C1 p v ↔ v = x) →
        run E (fun r _ => ∃ y, r = .int .i64 y ∧ k (.int .i64 y) []) vf.res n [.code v1, .code v2, .inLoop (fun s => leS s { fr := padL vf.ntmps (pinA t tz zk N m S p u0 u1 r C1), saved := [], hp := [] })] { fr := padL vf.ntmps (pinA t tz zk N m S p u0 u1 r C1), saved := [], hp := [] }) ∧
      run E (answers c.alias k) vf.res n2 [.code v3] { fr := padL vf.ntmps [.xp t [mv, wk, .vs tz zk N 1 (fun d => [.row m (C d)])], .int .i64 S, .int .i64 p], saved := [], hp := [] }) : c.ok P f := by
  intro args vs z k hsat hx hc
  obtain ⟨t, tz, zk, N, m, S, p, get, C, x0, x1, mv, wk, ⟨rfl, l0, l1, lg, hS, hp⟩, hpre, hmain⟩ := h args k hc
  obtain ⟨vA, vs1, rfl, hA, hx1⟩ := xcons_inv hx
  obtain ⟨vB, vs2, rfl, hB, hx2⟩ := xcons_inv hx1
  obtain ⟨vC, vs3, rfl, hC, hx3⟩ := xcons_inv hx2
  obtain rfl := xnil_inv hx3
  obtain rfl := xint_inv hB
  obtain rfl := xint_inv hC
  obtain ⟨ad, vals, rfl, hs, hF, ht, hcl, hv⟩ := xxp_inv hA
  obtain ⟨u0, vals1, rfl, h0, hv1⟩ := xcons_inv hv
  obtain ⟨u1, vals2, rfl, h1, hv2⟩ := xcons_inv hv1
  obtain ⟨u2, vals3, rfl, h2, hv3⟩ := xcons_inv hv2
  obtain rfl := xnil_inv hv3
  obtain ⟨a, cap, rv, rfl, hz, hcap, hnil, hcell, hget⟩ := xvs_inv h2
  obtain ⟨r, hrd⟩ : ∃ r : Nat → Value, r = fun d => (rv d).headD undef := ⟨_, rfl⟩
  have hrow : ∀ d, d < N → rv d = [r d] ∧ XRep z.toWorld [] z.bd (.row m (C d)) (r d) := fun d hd => by
    obtain ⟨v, vs', e, g1, g2⟩ := xcons_inv (leXL_ok (hget d hd) _ (lg d hd))
    obtain rfl := xnil_inv g2
    have : r d = v := by rw [hrd]; simp only [e, List.headD_cons]
    rw [this]
    exact ⟨e, g1⟩
  obtain ⟨b, capS, hrS, hI, hcS⟩ := xrow_inv (hrow S hS).2
  have hI : z.I b = some (.ints m (C S)) := hI
  obtain ⟨o, ho, hok⟩ := hsat b _ hI
  obtain ⟨cs, T, rfl, hsz, hcv⟩ := hok
  obtain ⟨wv, hwv⟩ : ∃ wv : Nat → Int, ∀ k, k < m → cs[k]? = some (.int .i64 (wv k)) ∧ C S k (wv k) :=
    ⟨fun k => if hk : k < m then Classical.choose (hcv k hk) else 0, fun k hk => by simp only [dif_pos hk]; exact Classical.choose_spec (hcv k hk)⟩
  obtain ⟨C1, hC1⟩ : ∃ C1 : Nat → Int → Prop, C1 = fun k v => if k < m then v = wv k else ¬ (match z.I (k - m) with | some (.ints _ C') => C' k v | _ => False) := ⟨_, rfl⟩
  have hC1m : ∀ k, k < m → ∀ v, C1 k v ↔ v = wv k := fun k hk v => by rw [hC1]; simp only [if_pos hk]
  have hne : ∀ j n', z.I j ≠ some (.ints n' C1) := fun j n' hj => by
    have e : C1 (m + j) 0 = ¬ C1 (m + j) 0 := by
      have e1 : C1 (m + j) 0 = ¬ (match z.I (m + j - m) with | some (.ints _ C') => C' (m + j) 0 | _ => False) := by
        conv => lhs; rw [hC1]
        simp only [if_neg (by omega : ¬ m + j < m)]
      rw [Nat.add_sub_cancel_left, hj] at e1
      exact e1
    by_cases hh : C1 (m + j) 0
    · exact (e ▸ hh : ¬ C1 (m + j) 0) hh
    · exact hh (e ▸ hh)
  let z1 : Cx0 := { toWorld := z.toWorld, F := z.F, I := fun j => if j = b then some (.ints m C1) else z.I j,
                    up := fun j hj hn => by
                      by_cases hjb : j = b
                      · rw [if_pos hjb] at hn; cases hn
                      · rw [if_neg hjb] at hn; exact z.up j hj hn
                    ex := fun j hj => by
                      have := z.ex j hj
                      rw [if_neg (fun e => by rw [e, hI] at this; cases this)]; exact this }
  have hz1b : z1.I b = some (.ints m C1) := if_pos rfl
  have hz1j : ∀ j, j ≠ b → z1.I j = z.I j := fun j hj => if_neg hj
  have hnone : ∀ j, z.I j = none → z1.I j = none := fun j hj => by
    rw [hz1j j (fun e => by rw [e, hI] at hj; cases hj)]; exact hj
  have hbelow : ∀ {w' : World}, BelowI z1.bd z1.toWorld w' → BelowI z.bd z.toWorld w' := fun hb => ⟨hb.os, hb.tape, hb.output, hb.size, fun j hj hn => hb.block j hj (hnone j hn)⟩
  -- what pinned blocks hold
  have hpin : ∀ {o' : Obj}, (IK.ints m C1).ok o' → (IK.ints m (C S)).ok o' := by
    rintro o' ⟨vs', T', rfl, g1, g2⟩
    refine ⟨vs', T', rfl, g1, fun k hk => ?_⟩
    obtain ⟨v, e, hv⟩ := g2 k hk
    rw [hC1m k hk] at hv
    subst hv
    exact ⟨_, e, (hwv k hk).2⟩
  -- the registry behind the first run
  have hreg : ∀ {D : Nat → Option IK} (hD : Ext z1 D) {w' : World} {bs : List BK} {hp : List HO}, Hp w' bs (z1.wI D hD).bd hp → ∃ J0 : Nat → Option IK, ∃ hJ : Ext z J0, (∀ j K, J0 j = some K → ∃ o, w'.heap[j]? = some o ∧ K.ok o) ∧ (∀ j, D j = none → J0 j = none) ∧ (∀ j, D j = some (.ints m C1) → J0 j = some (.ints m (C S))) := by
    classical
    intro D hD w' bs hp hH
    refine ⟨fun j => if D j = some (.ints m C1) then some (.ints m (C S)) else D j, ⟨fun j hj => ?_, fun j K hj => ?_⟩, fun j K hj => ?_, fun j hj => ?_, fun j hj => if_pos hj⟩
    · have e : D j = z1.I j := hD.old j hj
      by_cases hjb : j = b
      · subst hjb
        show (if D j = _ then _ else _) = _
        rw [e, hz1b, if_pos rfl, hI]
      · show (if D j = _ then _ else _) = _
        rw [e, hz1j j hjb, if_neg (hne j m)]
    · by_cases hjb : j = b
      · subst hjb
        have e : D j = _ := hD.sub j _ hz1b
        show (if D j = _ then _ else _) = _
        rw [e, if_pos rfl, ← hI, hj]
      · have e : D j = _ := hD.sub j K ((hz1j j hjb).trans hj)
        show (if D j = _ then _ else _) = _
        rw [e, if_neg (fun e2 => hne j m (hj.trans e2))]
    · have hj : (if D j = some (.ints m C1) then some (.ints m (C S)) else D j) = some K := hj
      by_cases hd : D j = some (.ints m C1)
      · rw [if_pos hd] at hj
        cases hj
        obtain ⟨_, o, ho, hk⟩ := hH.reg j _ hd
        exact ⟨o, ho, hpin hk⟩
      · rw [if_neg hd] at hj
        exact (hH.reg j _ hj).2
    · show (if D j = _ then _ else _) = _
      rw [hj, if_neg (by simp)]
  obtain ⟨body, hbody, hcode, hres, hnt⟩ := vfunc_inv hvf
  rw [hb] at hcode
  obtain ⟨x, y, rfl, hcx, hcy⟩ := vcode_seq_inv hcode
  obtain ⟨y1, y2, rfl, hcy1, hcy2⟩ := vcode_seq_inv hcy
  refine calls_of_wd (n := 0) (in_frame (b := vf.body) hf hbody ?_)
  let R : Ending → World → Prop := fun e w' => ∃ r hs v bs, ∃ J, ∃ hJ : Ext z J, k r hs ∧ e = .returned v ∧ Rep w' bs (z.wI J hJ).bd r v ∧ Hp w' bs (z.wI J hJ).bd hs ∧ BelowI z.bd z.toWorld w' ∧ (c.alias = false → freshS r ∧ freshH hs)
  have hpost : ∀ r hp v w' bs D (hD : Ext z D), answers c.alias k r hp → Rep w' bs (z.wI D hD).bd r v → Hp w' bs (z.wI D hD).bd hp → BelowI z.bd z.toWorld w' → R (.returned v) w' := by
    rintro r hp v w' bs D hD ⟨r', hk, hle, hfr⟩ hr hH hb
    exact ⟨r', [], v, [], D, hD, hk, rfl, le_ok cut_nil _ _ hle (.x _ _ (expo_ok hH hr)), hp0 fun b K hb => (hH.reg b K hb).2, hb, fun ha => ⟨hfr ha, trivial⟩⟩
  have hpost1 : ∀ r hp v w' bs D (hD : Ext z1 D), (∃ y, r = .int .i64 y ∧ k (.int .i64 y) []) → Rep w' bs (z1.wI D hD).bd r v → Hp w' bs (z1.wI D hD).bd hp → BelowI z1.bd z1.toWorld w' → R (.returned v) w' := by
    rintro r hp v w' bs D hD ⟨y, rfl, hk⟩ hr hH hb
    obtain rfl := rep_int_inv hr
    obtain ⟨J0, hJ, g1, _, _⟩ := hreg hD hH
    exact ⟨.int .i64 y, [], _, [], J0, hJ, hk, rfl, .x _ _ (.int _ _), hp0 g1, hbelow hb, fun _ => ⟨trivial, trivial⟩⟩
  obtain ⟨κ0, hκ0⟩ : ∃ κ0, κ0 = bodyPostM (Wd none) 0 P fn R := ⟨_, rfl⟩
  show (Code.seq x (Code.seq y1 y2)).wpIn (Wd none) 0 P (bodyPostM (Wd none) 0 P fn R) _ _
  rw [← hκ0]
  refine wpIn_seq ?_
  obtain ⟨nt, hntq⟩ : ∃ nt, vf.ntmps = nt + 3 := ⟨vf.ntmps - 3, by omega⟩
  have hpadA : ∀ u0 u1 r C1, padL vf.ntmps (pinA t tz zk N m S p u0 u1 r C1) = .xp t [.val u0, .val u1, .vs tz zk N 1 (fun d => if d = S then [.row m C1] else [.val (r d)])] :: .int .i64 S :: .int .i64 p :: blankL nt := fun u0 u1 r C1 => by rw [hntq]; cases nt <;> rfl
  have hpadB : padL vf.ntmps [.xp t [mv, wk, .vs tz zk N 1 (fun d => [.row m (C d)])], .int .i64 S, .int .i64 p] = .xp t [mv, wk, .vs tz zk N 1 (fun d => [.row m (C d)])] :: .int .i64 S :: .int .i64 p :: blankL nt := by rw [hntq]; cases nt <;> rfl
  have hJ : ∀ (s : Go.Vx.S) (a' : Act) (w' : World) (D : Nat → Option IK) (hD : Ext z1 D), leS s { fr := padL vf.ntmps (pinA t tz zk N m S p u0 u1 r C1), saved := [], hp := [] } → Rl ⟨z1.wI D hD, []⟩ s a' [] w' → y2.wpIn (Wd none) 0 P κ0 a' w' := by
    intro s a' w' D hD hle hR
    obtain ⟨bs, hfr, hsv, hH, hbl, hoth⟩ := leS_ok hle hR
    have hbs : bs = [] := List.eq_nil_of_length_eq_zero hH.len
    subst hbs
    obtain ⟨J0, hJ0, g1, g2, g3⟩ := hreg hD hH
    have hbl : BelowI z1.bd z1.toWorld w' := ⟨hbl.os, hbl.tape, hbl.output, hbl.size, fun j hj hn => hbl.block j hj ((hD.old j hj).trans hn)⟩
    have hkp : KeepsG z.toWorld [] z.bd w' [] (z.wI J0 hJ0).bd := ⟨rfl, fun j K hj => hJ0.sub j K hj, fun j hj cs' T' fz' ho' => by
      have hlt : j < z.heap.size := by
        rcases Nat.lt_or_ge j z.heap.size with h' | h'
        · exact h'
        · rw [Array.getElem?_eq_none h'] at ho'; cases ho'
      have hn : z.I j = none := z.ex j hj.2
      refine ⟨(hbl.block j hlt (hnone j hn)).trans ho', free_nil, hj.2, g2 j ?_⟩
      exact (hD.old j hlt).trans (hnone j hn)⟩
    have hFr : ∀ j, Fr (z1.wI D hD).bd [] j → Fr (z.wI J0 hJ0).bd [] j := fun j hj => ⟨free_nil, hj.2.1, g2 j hj.2.2⟩
    have hslot : RepL w' [] (z.wI J0 hJ0).bd (padL vf.ntmps [.xp t [mv, wk, .vs tz zk N 1 (fun d => [.row m (C d)])], .int .i64 S, .int .i64 p]) a'.tmps.toList := by
      rw [hpadB]
      rw [hpadA] at hfr
      obtain ⟨t0, ts0, e0, f0, hq1⟩ := RepL.cons_inv hfr
      obtain ⟨t1, ts1, rfl, f1, hq2⟩ := RepL.cons_inv hq1
      obtain ⟨t2, ts2, rfl, f2, hq3⟩ := RepL.cons_inv hq2
      obtain rfl := rep_int_inv f1
      obtain rfl := rep_int_inv f2
      rw [e0]
      refine .cons _ _ _ _ (.x _ _ ?_) (.cons _ _ _ _ (.x _ _ (.int _ _)) (.cons _ _ _ _ (.x _ _ (.int _ _)) (blankL_ok hq3)))
      obtain ⟨ad', vals', rfl, hs', hF', ht', hcl', hv'⟩ := xxp_inv (rep_xp_inv f0)
      obtain ⟨q0, qs, rfl, d0, hv'⟩ := xcons_inv hv'
      obtain ⟨q1, qs, rfl, d1, hv'⟩ := xcons_inv hv'
      obtain ⟨q2, qs, rfl, d2, hv'⟩ := xcons_inv hv'
      obtain rfl := xnil_inv hv'
      obtain rfl := xval_inv d0
      obtain rfl := xval_inv d1
      obtain ⟨a2, cap2, rv2, rfl, hz2, hcap2, hnil2, hcell2, hget2⟩ := xvs_inv d2
      refine .xp _ _ _ _ hs' (hFr _ hF') ht' hcl' (.cons _ _ _ _ ((leX_ok h0 _ l0).keepG hkp) (.cons _ _ _ _ ((leX_ok h1 _ l1).keepG hkp) (.cons _ _ _ _ (.vs _ _ _ _ _ _ _ rv2 hz2 hcap2 hnil2 (fun d hd => ?_) (fun d hd => ?_)) .nil)))
      · obtain ⟨ad2, e1, e2, e3, e4, e5, e6⟩ := hcell2 d hd
        exact ⟨ad2, e1, e2, hFr _ e3, e4, e5, e6⟩
      · have hg := hget2 d hd
        by_cases hdS : d = S
        · subst hdS
          simp only [if_true] at hg
          obtain ⟨v, vs', e, i1, i2⟩ := xcons_inv hg
          obtain rfl := xnil_inv i2
          obtain ⟨b2, cap3, rfl, hI2, hc2⟩ := xrow_inv i1
          rw [e]
          exact .cons _ _ _ _ (.row _ _ _ _ (g3 b2 hI2) hc2) .nil
        · simp only [if_neg hdS] at hg
          obtain ⟨v, vs', e, i1, i2⟩ := xcons_inv hg
          obtain rfl := xnil_inv i2
          obtain rfl := xval_inv i1
          rw [e]
          exact .cons _ _ _ _ ((hrow d hd).2.keepG hkp) .nil
    have := run_sound (w0 := z) (fn0 := fn) (R0 := R) hE hres hpost n2 _ _ hmain [] [] none _ a' w' (.code y2 v3 [] [] [] none _ hcy2 .nil) (D := J0) (hD := hJ0) ⟨[], hslot, .nil, hp0 (hJ := hJ0) g1, (by have hz := hbelow hbl; exact ⟨hz.os, hz.tape, hz.output, hz.size, fun j hj hn => hz.block j hj ((hJ0.old j hj).symm.trans hn)⟩), ⟨hoth.kn, hoth.nd, hoth.ms⟩⟩
    rw [← hκ0] at this
    exact this
  have hpre1 := hpre u0 u1 r (wv p) C1 (hwv p hp).2 (hC1m p hp)
  have hrl : Rl ⟨z1.wI z1.I (ext_refl z1), []⟩ { fr := padL vf.ntmps (pinA t tz zk N m S p u0 u1 r C1), saved := [], hp := [] } { tmps := [Value.pointer (some ad), .int .i64 S, .int .i64 p].toArray ++ Array.replicate (fn.ntmps - [Value.pointer (some ad), .int .i64 S, .int .i64 p].toArray.size) undef, defers := [] } [] z.toWorld := by
    refine ⟨[], ?_, .nil, hp0 (hJ := ext_refl z1) fun j K hj => ?_, BelowI.refl _ _, ⟨fun _ h => (by cases h), .nil, [[]], rfl, by simp, fun _ h => (by simp at h)⟩⟩
    · have hF1 : ∀ j, Fr z.bd [] j → Fr (z1.wI z1.I (ext_refl z1)).bd [] j := fun j hj => ⟨free_nil, hj.2, z1.ex j hj.2⟩
      have hargs : RepL z.toWorld [] (z1.wI z1.I (ext_refl z1)).bd (pinA t tz zk N m S p u0 u1 r C1) [Value.pointer (some ad), .int .i64 S, .int .i64 p] := by
        refine .cons _ _ _ _ (.x _ _ (.xp _ _ _ _ hs (hF1 _ hF) ht hcl (.cons _ _ _ _ (.val _) (.cons _ _ _ _ (.val _) (.cons _ _ _ _ (.vs _ _ _ _ _ _ _ rv hz hcap hnil (fun d hd => ?_) (fun d hd => ?_)) .nil))))) (.cons _ _ _ _ (.x _ _ (.int _ _)) (.cons _ _ _ _ (.x _ _ (.int _ _)) .nil))
        · obtain ⟨ad2, e1, e2, e3, e4, e5, e6⟩ := hcell d hd
          exact ⟨ad2, e1, e2, hF1 _ e3, e4, e5, e6⟩
        · rw [(hrow d hd).1]
          by_cases hdS : d = S
          · subst hdS
            simp only [if_true]
            rw [hrS]
            exact .cons _ _ _ _ (.row _ _ _ _ hz1b hcS) .nil
          · simp only [if_neg hdS]
            exact .cons _ _ _ _ (.val _) .nil
      have := padL_ok (n := fn.ntmps) hargs
      rw [hnt]
      simpa using this
    · by_cases hjb : j = b
      · subst hjb
        have e : K = .ints m C1 := by
          have hj : z1.I j = some K := hj
          rw [hz1b] at hj; cases hj; rfl
        subst e
        exact ⟨_, ho, cs, T, rfl, hsz, fun k hk => ⟨wv k, (hwv k hk).1, (hC1m k hk _).2 rfl⟩⟩
      · have hj : z1.I j = some K := hj
        rw [hz1j j hjb] at hj
        exact hsat j K hj
  have pre := run_sound (w0 := z1) (fn0 := fn) (R0 := R) hE hres hpost1 n _ _ hpre1 [] [] none _ _ z.toWorld (.code x v1 _ [] [] none _ hcx (.code y1 v2 _ [] [] none _ hcy1 (.inLoop _ (fun a w => y2.wpIn (Wd none) 0 P κ0 a w) [] [] [] none _ hJ .nil))) (D := z1.I) (hD := ext_refl z1) hrl
  rw [← hκ0] at pre
  refine wpIn_mono pre fun e a w hq => ?_
  cases e with
  | normal => exact wpIn_seq hq
  | _ => exact hq
end
end Go.Vx

/- Tuning, walked: the reference's fewest. -/
/- Tuning, walked: the reference's fewest. -/
set_option linter.all false
namespace Go.Proofs.Yteioilioobichaa
open Go Go.Vx
set_option maxRecDepth 100000
set_option maxHeartbeats 4000000

/-- What the table holds for a set. -/
def KC (h : Hal) (l : List Wk) (d : Nat) : Nat → Int → Prop := fun p v => v = -1 ∨ v = (Few h l d (p : Int)).1
def tabP (h : Hal) (l : List Wk) (n sz : Nat) (get : Nat → List SV) : Prop := sz = 1 ∧ n = 2 ^ l.length ∧ ∀ d, d < 2 ^ l.length → leXL (get d) [.row h.length (KC h l d)]
def rfeC (N : Nat) : Ctr := { alias := false, of := fun l => match l with
  | [.xp _ [.vs _ _ n sz get, .vs _ _ n' sz' get', .vs _ _ n2 sz2 get2], .int .i64 s, .int .i64 p] => .ex Hal fun h => .ex (List Wk) fun l => .ex Nat fun S => .ex Nat fun q => .pre (lsP 1 encR n sz get h ∧ lsP 4 encK n' sz' get' l ∧ tabP h l n2 sz2 get2 ∧ (s = S ∧ p = q) ∧ feP h l S q ∧ leftN S l.length < N) (.fin (.int .i64 (Few h l S q).1) [])
  | _ => noC }
def rfeE (N : Nat) : Env := { ct := fun n => match n with | 37 => some (rfeC N) | 38 => some rmayC | _ => none, fn := fun _ => none, meth := fun _ _ => none }
theorem rfeE_ct (N : Nat) : (rfeE N).ct 37 = some (rfeC N) := rfl
theorem rfeE_may (N : Nat) : (rfeE N).ct 38 = some rmayC := rfl
theorem rfeE_ok {N : Nat} (hN : (rfeC N).ok Try.prog 37) : EnvOk Try.prog (rfeE N) := by
  refine ⟨fun f c h => ?_, fun f vf h => ?_, (fun _ _ _ h => by cases h), by kernel_rfl⟩
  · simp only [rfeE] at h
    split at h
    · cases h; exact ⟨hN, Try.f37, Try.func37, by kernel_rfl, by kernel_rfl⟩
    · cases h; exact ⟨rmay_ok, Try.f38, Try.func38, by kernel_rfl, by kernel_rfl⟩
    · cases h
  · cases h
/-- The least so far, -1 if there is none. -/
def bstF (h : Hal) (l : List Wk) (s : Nat) (p : Int) (i : Nat) : Int := if (fRow h l (fun s p => (Few h l s p).1) s p i).2 < 0 then -1 else (fRow h l (fun s p => (Few h l s p).1) s p i).1
theorem bst_step {h : Hal} {l : List Wk} {s : Nat} {p : Int} {i : Nat} (h0 : 0 ≤ (fRow h l (fun s p => (Few h l s p).1) s p i).1) :
    (mayF l s i = true → bstF h l s p (i + 1) = if bstF h l s p i < 0 ∨ cnd h l s p i < bstF h l s p i then cnd h l s p i else bstF h l s p i) ∧ (mayF l s i = false → bstF h l s p (i + 1) = bstF h l s p i) := by
  unfold bstF cnd cndG
  obtain ⟨G, hG⟩ : ∃ G, G = fRow h l (fun s p => (Few h l s p).1) s p i := ⟨_, rfl⟩
  have hfr : fRow h l (fun s p => (Few h l s p).1) s p (i + 1) = if mayF l s i = true then (if G.2 < 0 ∨ (Few h l (s ||| 2 ^ i) (l.getD i default).pl).1 + costF h p (l.getD i default).pl < G.1 then ((Few h l (s ||| 2 ^ i) (l.getD i default).pl).1 + costF h p (l.getD i default).pl, (i : Int)) else G) else G := by rw [hG]; rfl
  rw [← hG] at h0 ⊢
  constructor
  · intro hm
    rw [hfr, if_pos hm]
    obtain ⟨c, hc⟩ : ∃ c, c = (Few h l (s ||| 2 ^ i) (l.getD i default).pl).1 + costF h p (l.getD i default).pl := ⟨_, rfl⟩
    simp only [← hc]
    by_cases h1 : G.2 < 0 ∨ c < G.1
    · rw [if_pos h1]
      show (if (i : Int) < 0 then -1 else c) = _
      rw [if_neg (by omega)]
      by_cases h3 : G.2 < 0
      · rw [if_pos h3, if_pos (Or.inl (by omega))]
      · rw [if_neg h3, if_pos (Or.inr (by omega))]
    · rw [if_neg h1, if_neg (by omega), if_neg (by omega)]
  · intro hm
    simp only [hfr, hm, Bool.false_eq_true, if_false]
theorem i64_or {S i : Nat} (hS : S < 2 ^ 12) (hi : i < 12) : bitI Bit.or IntKind.i64 (S : Int) (IntKind.i64.wrap (1 * 2 ^ min (IntKind.u64.wrap (i : Int)).toNat 64)) = ((S ||| 2 ^ i : Nat) : Int) := by
  have e0 : IntKind.u64.wrap (i : Int) = (i : Int) := IntWalk.u64_in _ (by omega)
  have e1 : min i 64 = i := by omega
  have hp : 2 ^ i < 2 ^ 12 := Nat.pow_lt_pow_right (by omega) hi
  have e2 : ((2 : Int) ^ i) = ((2 ^ i : Nat) : Int) := by norm_cast
  have h := Nat.or_lt_two_pow hS hp
  rw [e0, Int.toNat_natCast, e1, Int.one_mul, e2]
  obtain ⟨t, ht⟩ : ∃ t, t = 2 ^ i := ⟨_, rfl⟩
  rw [← ht] at hp h ⊢
  rw [IntWalk.i64_in (t : Int) (by omega)]
  simp only [bitI]
  have e3 : (BitVec.ofInt IntKind.i64.bits (S : Int)).toNat = S := by
    rw [show IntKind.i64.bits = 64 from rfl, BitVec.toNat_ofInt]; omega
  have e4 : (BitVec.ofInt IntKind.i64.bits (t : Int)).toNat = t := by
    rw [show IntKind.i64.bits = 64 from rfl, BitVec.toNat_ofInt]; omega
  rw [BitVec.toNat_or, e3, e4]
  exact IntWalk.i64_in _ (by omega)
theorem rfew_step {N : Nat} (hN : (rfeC N).ok Try.prog 37) : (rfeC (N + 1)).ok Try.prog 37 := by
  refine contract_pin Try.func37 v37_is (rfeE_ok hN) rfl (by decide) 100 300 (rfeC (N + 1)) fun args k h => ?_
  simp only [rfeC] at h
  split at h
  · rename_i t tz z n sz get tz' z' n' sz' get' tz2 z2 n2 sz2 get2 s p
    obtain ⟨h0, l, S, q, ⟨⟨rfl, rfl, hg⟩, ⟨rfl, rfl, hg'⟩, ⟨rfl, rfl, hg2⟩, ⟨rfl, rfl⟩, hP, hlt⟩, h⟩ := h
    obtain ⟨⟨hS, hp0, hp1⟩, hgood, hh12, hl12, hw⟩ := hP
    have h : k _ [] := h
    refine ⟨t, tz2, z2, 2 ^ l.length, h0.length, S, q, get2, KC h0 l, _, _, .vs false z h0.length 1 (fun k => encR (h0.getD k default)), .vs false z' l.length 4 (fun k => encK (l.getD k default)), ⟨rfl, ⟨fun h => (by cases h), rfl, rfl, rfl, hg⟩, ⟨fun h => (by cases h), rfl, rfl, rfl, hg'⟩, hg2, hS, by omega⟩, fun u0 u1 r x C1 hx hC1 => ?_, ?_⟩
    · dsimp only [v37, pinA, go_sem, Option.bind, Option.map, List.append_nil, Nat.beq, List.cons_append, List.nil_append, List.append_eq, List.map_cons, List.map_nil, ite_self, reduceIte]
      simp only [true_and, and_true, imp_self, implies_true, decide_eq_true_eq, decide_eq_false_iff_not, Nat.reduceAdd, Nat.reduceLeDiff, Bool.not_not, reduceCtorEq, false_imp_iff, Bool.not_eq_true', Bool.not_eq_false', Bool.false_eq_true, and_self, forall_const, ne_eq, not_false_eq_true, Nat.reduceEqDiff, Int.toNat_natCast, if_true]
      dsimp only [go_sem, Option.bind, Option.map, List.append_nil, Nat.beq, List.cons_append, List.nil_append, List.append_eq, List.map_cons, List.map_nil, ite_self, reduceIte]
      simp only [true_and, and_true, imp_self, implies_true, decide_eq_true_eq, decide_eq_false_iff_not, Nat.reduceAdd, Nat.reduceLeDiff, Bool.not_not, reduceCtorEq, false_imp_iff, Bool.not_eq_true', Bool.not_eq_false', Bool.false_eq_true, and_self, forall_const, ne_eq, not_false_eq_true, Nat.reduceEqDiff, Int.toNat_natCast, if_true]
      dsimp only [go_sem, Option.bind, Option.map, List.append_nil, Nat.beq, List.cons_append, List.nil_append, List.append_eq, List.map_cons, List.map_nil, ite_self, reduceIte]
      simp only [true_and, and_true, imp_self, implies_true, decide_eq_true_eq, decide_eq_false_iff_not, Nat.reduceAdd, Nat.reduceLeDiff, Bool.not_not, reduceCtorEq, false_imp_iff, Bool.not_eq_true', Bool.not_eq_false', Bool.false_eq_true, and_self, forall_const, ne_eq, not_false_eq_true, Nat.reduceEqDiff, Int.toNat_natCast, if_true]
      have hS' : (S : Int) < ((2 ^ l.length : Nat) : Int) := Int.ofNat_lt.2 hS
      refine ⟨⟨by omega, hS'⟩, ⟨hp0, hp1⟩, fun v hv => ⟨fun hv0 => ⟨⟨by omega, hS'⟩, ⟨hp0, hp1⟩, fun v' hv' => ⟨v', rfl, ?_⟩⟩, fun _ => ?_⟩⟩
      · have e1 := (hC1 v).1 hv
        have e2 := (hC1 v').1 hv'
        have e3 : v' = (Few h0 l S (q : Int)).1 := by
          rcases hx with h1 | h1 <;> omega
        rw [e3]; exact h
      · simp only [leS_mk, leL_cons, leL_nil, le_junk, le_int, le_bool, le_nil, leLL_nil, leLL_cons, leH_cons, leH_nil, leH1_box, leH1_own, leH1_gone, le_vs, le_agg, le_tup, le_ptr, le_own, le_xp, le_fn, le_opt, le_val, le_elem, le_nil_own, le_nil_vs, leH_ghost, leL_chunk, leXL_id, bnd_int, bnd_bool, bnd_val, bnd_nil, bnd_junk, bnd_vs, bnd_xp, bnd_agg, bnd_tup, bnd_ptr, bnd_own, bnd_elem, bnd_fn, bnd_iface, bnd_opt, bnd_row, bnd_rcell, bnd_imap, bnd_smp, le_row, le_rcell, le_imap, le_smp, leH1_smap, bndL_nil, bndL_cons, lenH_cons, lenH_nil, imp_self, implies_true, true_and, and_true]
    · dsimp only [v37, go_sem, Option.bind, Option.map, List.append_nil, Nat.beq, List.cons_append, List.nil_append, List.append_eq, List.map_cons, List.map_nil, ite_self, reduceIte]
      simp only [true_and, and_true, imp_self, implies_true, decide_eq_true_eq, decide_eq_false_iff_not, Nat.reduceAdd, Nat.reduceLeDiff, Bool.not_not, reduceCtorEq, false_imp_iff, Bool.not_eq_true', Bool.not_eq_false', Bool.false_eq_true, and_self, forall_const, ne_eq, not_false_eq_true, Nat.reduceEqDiff, Int.toNat_natCast]
      have hsm := aft_small (aft_of_good hgood) hl12
      refine Loop.keep [0, 0, 0] Nat (fun i => [(7, .int .i64 (bstF h0 l S q i)), (8, .int .i64 i)]) (fun _ => []) [] (fun i => i ≤ l.length) (fun i => l.length - i) ?_ ?_
      · refine ⟨0, Nat.zero_le _, ?_⟩
        dsimp only [go_sem, Option.bind, Option.map, List.append_nil, Nat.beq, List.cons_append, List.nil_append, List.append_eq, List.map_cons, List.map_nil, ite_self, reduceIte]
        simp only [leS_mk, leL_cons, leL_nil, le_junk, le_int, le_bool, le_nil, leLL_nil, leLL_cons, leH_cons, leH_nil, leH1_box, leH1_own, leH1_gone, le_vs, le_agg, le_tup, le_ptr, le_own, le_xp, le_fn, le_opt, le_val, le_elem, le_nil_own, le_nil_vs, leH_ghost, leL_chunk, leXL_id, bnd_int, bnd_bool, bnd_val, bnd_nil, bnd_junk, bnd_vs, bnd_xp, bnd_agg, bnd_tup, bnd_ptr, bnd_own, bnd_elem, bnd_fn, bnd_iface, bnd_opt, bnd_row, bnd_rcell, bnd_imap, bnd_smp, le_row, le_rcell, le_imap, le_smp, leH1_smap, bndL_nil, bndL_cons, lenH_cons, lenH_nil, imp_self, implies_true, true_and, and_true]
        simp [bstF, fRow]
      · rintro i hi
        dsimp only [rfeE_ct, rfeE_may, rfeC, rmayC, encR, encK, enc1, go_sem, Option.bind, Option.map, List.append_nil, Nat.beq, List.cons_append, List.nil_append, List.append_eq, List.map_cons, List.map_nil, ite_self, reduceIte]
        simp only [true_and, and_true, imp_self, implies_true, decide_eq_true_eq, decide_eq_false_iff_not, Nat.reduceAdd, Nat.reduceLeDiff, Bool.not_not, reduceCtorEq, false_imp_iff, Bool.not_eq_true', Bool.not_eq_false', Bool.false_eq_true, and_self, forall_const, ne_eq, not_false_eq_true, Nat.reduceEqDiff, Int.toNat_natCast]
        refine ⟨fun hlt' => ?_, fun hge => ?_⟩
        · have hi' : i < l.length := by omega
          have hpl := good_pl hgood hi'
          have hrow := good_row hgood (by omega : q < h0.length)
          have hcost := hrow.2 (l.getD i default).pl.toNat (by omega)
          have haft := aft_of_good hgood
          have hGr := fRow_rng (s := S) hgood hp0 hp1 (B := 1000 * l.length) (by omega) (G := fun s p => (Few h0 l s p).1) (fun j hj _ => by
            have hp := good_pl hgood hj
            exact FF_rng hgood l.length _ _ hp.1 hp.2) i hi
          have hcol : (l.getD i default).pl < ((h0.getD q default).v.length : Int) := by rw [hrow.1]; exact hpl.2
          have hor : bitI Bit.or IntKind.i64 (S : Int) (IntKind.i64.wrap (1 * 2 ^ min (IntKind.u64.wrap (i : Int)).toNat 64)) = ((S ||| 2 ^ i : Nat) : Int) := i64_or (Nat.lt_of_lt_of_le hS (Nat.pow_le_pow_right (by omega) (by omega))) (by omega)
          have hb0 := bst_step (h := h0) (l := l) (s := S) (p := (q : Int)) (i := i) hGr.1.1
          refine ⟨l, S, i, ⟨⟨rfl, rfl, fun k _ => leXL_self _⟩, ⟨rfl, hS⟩, ⟨rfl, hi'⟩, hl12, hw, haft⟩, fun hm => ⟨⟨hp0, hp1⟩, ⟨by omega, hlt'⟩, ⟨hpl.1, hcol⟩, by rw [IntWalk.u64_in _ (by omega)]; omega, ⟨by omega, hlt'⟩, h0, l, S ||| 2 ^ i, (l.getD i default).pl.toNat, ?_⟩, fun hm => ?_⟩
          · have hP' : feP h0 l (S ||| 2 ^ i) (((l.getD i default).pl.toNat : Nat) : Int) := ⟨⟨Nat.or_lt_two_pow hS (Nat.pow_lt_pow_right (by omega) hi'), by omega, by omega⟩, hgood, hh12, hl12, hw⟩
            have hlft := leftN_step hi' hm
            refine ⟨⟨⟨rfl, rfl, fun k _ => leXL_self _⟩, ⟨rfl, rfl, fun k _ => leXL_self _⟩, ⟨rfl, rfl, fun d _ => leXL_self _⟩, ⟨hor, by omega⟩, hP', by omega⟩, ?_⟩
            have epl : (((l.getD i default).pl.toNat : Nat) : Int) = (l.getD i default).pl := by omega
            rw [epl]
            have hrng := FF_rng hgood l.length (S ||| 2 ^ i) (l.getD i default).pl hpl.1 hpl.2
            have hrng : 0 ≤ (Few h0 l (S ||| 2 ^ i) (l.getD i default).pl).1 ∧ (Few h0 l (S ||| 2 ^ i) (l.getD i default).pl).1 ≤ 1000 * l.length := hrng
            have ew : IntKind.i64.wrap ((h0.getD q default).v.getD (l.getD i default).pl.toNat default + (Few h0 l (S ||| 2 ^ i) (l.getD i default).pl).1) = cnd h0 l S (q : Int) i := by
              rw [w6_raw (by omega) (by omega), Int.add_comm]; rfl
            simp only [ew]
            have hb1 := hb0.1 hm
            refine ⟨fun hc => ⟨i + 1, by omega, by omega, ?_⟩, fun hc => ⟨i + 1, by omega, by omega, ?_⟩⟩
            · rw [Bool.or_eq_true, decide_eq_true_eq, decide_eq_true_eq] at hc
              rw [hb1, if_pos hc]
              simp only [leS_mk, leL_cons, leL_nil, le_junk, le_int, le_bool, le_nil, leLL_nil, leLL_cons, leH_cons, leH_nil, leH1_box, leH1_own, leH1_gone, le_vs, le_agg, le_tup, le_ptr, le_own, le_xp, le_fn, le_opt, le_val, le_elem, le_nil_own, le_nil_vs, leH_ghost, leL_chunk, leXL_id, bnd_int, bnd_bool, bnd_val, bnd_nil, bnd_junk, bnd_vs, bnd_xp, bnd_agg, bnd_tup, bnd_ptr, bnd_own, bnd_elem, bnd_fn, bnd_iface, bnd_opt, bnd_row, bnd_rcell, bnd_imap, bnd_smp, le_row, le_rcell, le_imap, le_smp, leH1_smap, bndL_nil, bndL_cons, lenH_cons, lenH_nil, imp_self, implies_true, true_and, and_true]
              exact w_succ hi' (by omega)
            · rw [Bool.or_eq_false_iff, decide_eq_false_iff_not, decide_eq_false_iff_not] at hc
              rw [hb1, if_neg (by omega)]
              simp only [leS_mk, leL_cons, leL_nil, le_junk, le_int, le_bool, le_nil, leLL_nil, leLL_cons, leH_cons, leH_nil, leH1_box, leH1_own, leH1_gone, le_vs, le_agg, le_tup, le_ptr, le_own, le_xp, le_fn, le_opt, le_val, le_elem, le_nil_own, le_nil_vs, leH_ghost, leL_chunk, leXL_id, bnd_int, bnd_bool, bnd_val, bnd_nil, bnd_junk, bnd_vs, bnd_xp, bnd_agg, bnd_tup, bnd_ptr, bnd_own, bnd_elem, bnd_fn, bnd_iface, bnd_opt, bnd_row, bnd_rcell, bnd_imap, bnd_smp, le_row, le_rcell, le_imap, le_smp, leH1_smap, bndL_nil, bndL_cons, lenH_cons, lenH_nil, imp_self, implies_true, true_and, and_true]
              exact w_succ hi' (by omega)
          · refine ⟨i + 1, by omega, by omega, ?_⟩
            rw [hb0.2 hm]
            simp only [leS_mk, leL_cons, leL_nil, le_junk, le_int, le_bool, le_nil, leLL_nil, leLL_cons, leH_cons, leH_nil, leH1_box, leH1_own, leH1_gone, le_vs, le_agg, le_tup, le_ptr, le_own, le_xp, le_fn, le_opt, le_val, le_elem, le_nil_own, le_nil_vs, leH_ghost, leL_chunk, leXL_id, bnd_int, bnd_bool, bnd_val, bnd_nil, bnd_junk, bnd_vs, bnd_xp, bnd_agg, bnd_tup, bnd_ptr, bnd_own, bnd_elem, bnd_fn, bnd_iface, bnd_opt, bnd_row, bnd_rcell, bnd_imap, bnd_smp, le_row, le_rcell, le_imap, le_smp, leH1_smap, bndL_nil, bndL_cons, lenH_cons, lenH_nil, imp_self, implies_true, true_and, and_true]
            exact w_succ hi' (by omega)
        · obtain rfl : i = l.length := by omega
          have hend : max (bstF h0 l S (q : Int) l.length) 0 = (Few h0 l S (q : Int)).1 := by
            have hr := FF_rng hgood l.length S (q : Int) hp0 hp1
            have hr : 0 ≤ (Few h0 l S (q : Int)).1 := hr.1
            unfold bstF
            rw [← Few_eq]
            rcases few_spec (h := h0) (l := l) (s := S) (p := (q : Int)) with ⟨e1, e2, _⟩ | ⟨a, _, e1, _⟩
            · rw [if_pos (by omega), e2]; rfl
            · rw [if_neg (by omega)]; omega
          rw [hend]
          exact ⟨⟨by omega, Int.ofNat_lt.2 hS⟩, ⟨hp0, hp1⟩, .inr rfl, ans_int h⟩
  · exact h.1.elim
theorem rfew_zero : (rfeC 0).ok Try.prog 37 := by
  intro args vs w F up k hc fs
  simp only [rfeC] at hc
  split at hc
  · obtain ⟨h0, l, S, q, ⟨_, _, _, _, _, hm⟩, _⟩ := hc
    omega
  · exact hc.1.elim
theorem rfew_all : ∀ N, (rfeC N).ok Try.prog 37
  | 0 => rfew_zero
  | N + 1 => rfew_step (rfew_all N)
def rfewC : Ctr := rfeC 13
theorem rfew_ok : rfewC.ok Try.prog 37 := rfew_all 13
end Go.Proofs.Yteioilioobichaa

/- Tuning, walked: best of the reference. -/
/- Tuning, walked: best of the reference. -/
set_option linter.all false
namespace Go.Proofs.Yteioilioobichaa
open Go Go.Vx
set_option maxRecDepth 100000
set_option maxHeartbeats 4000000

def v34 : VF := { ntmps := 125, res := [.tmp 8, .tmp 9], body :=
 (.seq (.region [u1 4 .box [.tm 0],
 u1 8 .mov [.cn .nil],
 u1 9 .mov [.cn (.int .i64 0)]])
 (.seq (.draw [] [w1 17 (.load true 1) [.tm 4],
 w1 18 .mov [.tm 1],
 w1 19 .mov [.tm 1],
 w1 20 .len [.tm 19],
 w1 21 (.conv .u64) [.tm 20],
 w1 22 .shl [.cn (.int .i64 1), .tm 21],
 w1 23 (.make 1 24 [.nil]) [.tm 22, .tm 22],
 w1 24 (.build [.nil, .nil, .nil] [(0, 1), (1, 1), (2, 1)]) [.tm 17, .tm 18, .tm 23],
 w1 25 .box [.tm 24],
 w1 10 .mov [.tm 25]])
 (.seq (.seq (.region [u1 11 .mov [.cn (.int .i64 0)]])
 (.block 0 (.loop (.seq (.seq (.region [u1 26 .mov [.tm 11],
 u1 27 .mov [.tm 10],
 u1 28 .nilCheck [.tm 27],
 u1 29 (.fieldAddr 2) [.tm 28],
 u1 30 (.load false 1) [.tm 29],
 u1 31 .len [.tm 30],
 u1 32 (.cmp .lss) [.tm 26, .tm 31]])
 (.cond (.tm 32) .skip
  (.exit 0)))
 (.seq (.block 1 (.seq (.region [u1 12 .mov [.cn (.int .i64 0)]])
 (.block 2 (.loop (.seq (.seq (.region [u1 35 .mov [.tm 12],
 u1 36 (.fieldAddr 0) [.tm 4],
 u1 37 (.load false 1) [.tm 36],
 u1 38 .len [.tm 37],
 u1 39 (.cmp .lss) [.tm 35, .tm 38]])
 (.cond (.tm 39) .skip
  (.exit 2)))
 (.seq (.block 3 (.draw [] [w1 42 .mov [.tm 10],
 w1 43 .nilCheck [.tm 42],
 w1 44 (.fieldAddr 2) [.tm 43],
 w1 45 (.load false 1) [.tm 44],
 w1 46 .mov [.tm 11],
 w1 47 .mov [.tm 10],
 w1 48 .nilCheck [.tm 47],
 w1 49 (.fieldAddr 2) [.tm 48],
 w1 50 (.load false 1) [.tm 49],
 w1 51 .mov [.tm 11],
 w1 52 (.idxAddr 1) [.tm 50, .tm 51],
 w1 53 (.load false 1) [.tm 52],
 w1 54 (.buildSlice 1 1 [(.int .i64 0)] [(0, 1)]) [.cn (.int .i64 (-1))],
 ⟨u1 55 (.append 1 8 [(.int .i64 0)]) [.tm 53, .tm 54], [.tm 10, .tm 42, .tm 42, .tm 43, .tm 43, .tm 44, .tm 44, .tm 45, .tm 11, .tm 46]⟩,
 w1 56 (.idxAddr 1) [.tm 45, .tm 46],
 w0 (.store 1) [.tm 56, .tm 55]]))
 (.region [u1 40 .mov [.tm 12],
 u1 41 (.ari .add) [.tm 40, .cn (.int .i64 1)],
 u1 12 .mov [.tm 41]])))))))
 (.region [u1 33 .mov [.tm 11],
 u1 34 (.ari .add) [.tm 33, .cn (.int .i64 1)],
 u1 11 .mov [.tm 34]]))))))
 (.seq (.region [u1 57 .mov [.tm 10],
 u1 58 .mov [.tm 3],
 u1 59 .mov [.tm 2],
 u1 60 (.call 37) [.tm 57, .tm 58, .tm 59],
 u1 13 .mov [.tm 60]])
 (.seq (.region [u1 14 .mov [.cn .nil]])
 (.seq (.seq (.region [u1 15 .mov [.cn (.int .i64 0)]])
 (.block 4 (.loop (.seq (.seq (.region [u1 61 .mov [.tm 15],
 u1 62 .mov [.tm 1],
 u1 63 .len [.tm 62],
 u1 64 (.cmp .lss) [.tm 61, .tm 63]])
 (.cond (.tm 64) .skip
  (.exit 4)))
 (.seq (.block 5 (.seq (.region [u1 16 .mov [.cn (.int .i64 0)]])
 (.block 6 (.loop (.seq (.seq (.region [u1 67 .mov [.tm 16],
 u1 68 .mov [.tm 1],
 u1 69 .len [.tm 68],
 u1 70 (.cmp .lss) [.tm 67, .tm 69]])
 (.cond (.tm 70) .skip
  (.exit 6)))
 (.seq (.block 7 (.seq (.draw [] [w1 73 .mov [.tm 10],
 w1 74 .mov [.tm 3],
 w1 75 .mov [.tm 16],
 w1 76 (.call 38) [.tm 73, .tm 74, .tm 75],
 w1 77 .mov [.tm 76],
 ⟨u2 78 77 true (.fieldAddr 0) [.tm 4], []⟩,
 ⟨u2 79 77 true (.load false 1) [.tm 78], []⟩,
 ⟨u2 80 77 true .mov [.tm 2], []⟩,
 ⟨u2 81 77 true (.idxAddr 1) [.tm 79, .tm 80], []⟩,
 ⟨u2 82 77 true (.load false 1) [.tm 81], []⟩,
 ⟨u2 83 77 true .mov [.tm 1], []⟩,
 ⟨u2 84 77 true .mov [.tm 16], []⟩,
 ⟨u2 85 77 true (.idxAddr 4) [.tm 83, .tm 84], []⟩,
 ⟨u2 86 77 true (.fieldAddr 1) [.tm 85], []⟩,
 ⟨u2 87 77 true (.load false 1) [.tm 86], []⟩,
 ⟨u2 88 77 true (.idxAddr 1) [.tm 82, .tm 87], []⟩,
 ⟨u2 89 77 true (.load false 1) [.tm 88], []⟩,
 ⟨u2 90 77 true .mov [.tm 10], []⟩,
 ⟨u2 91 77 true .mov [.tm 3], []⟩,
 ⟨u2 92 77 true .mov [.tm 16], []⟩,
 ⟨u2 93 77 true (.conv .u64) [.tm 92], []⟩,
 ⟨u2 94 77 true .shl [.cn (.int .i64 1), .tm 93], []⟩,
 ⟨u2 95 77 true (.bit .or) [.tm 91, .tm 94], []⟩,
 ⟨u2 96 77 true .mov [.tm 1], []⟩,
 ⟨u2 97 77 true .mov [.tm 16], []⟩,
 ⟨u2 98 77 true (.idxAddr 4) [.tm 96, .tm 97], []⟩,
 ⟨u2 99 77 true (.fieldAddr 1) [.tm 98], []⟩,
 ⟨u2 100 77 true (.load false 1) [.tm 99], []⟩,
 ⟨u2 103 77 true .mov [.tm 10], []⟩,
 ⟨u2 104 77 true .mov [.tm 3], []⟩,
 ⟨u2 105 77 true .mov [.tm 2], []⟩,
 ⟨u2 101 77 true (.call 37) [.tm 90, .tm 95, .tm 100], []⟩,
 ⟨u2 102 77 true (.ari .add) [.tm 89, .tm 101], []⟩,
 ⟨u2 106 77 true (.call 37) [.tm 103, .tm 104, .tm 105], []⟩,
 ⟨u2 107 77 true (.cmp .eql) [.tm 102, .tm 106], []⟩,
 w1 108 .and [.tm 77, .tm 107]])
 (.cond (.tm 108) (.seq (.region [u1 109 .mov [.tm 14],
 u1 110 .mov [.tm 16],
 u1 111 (.buildSlice 1 1 [(.int .i64 0)] [(0, 1)]) [.tm 110],
 u1 112 (.append 1 8 [(.int .i64 0)]) [.tm 109, .tm 111],
 u1 14 .mov [.tm 112]])
 (.seq (.draw [] [w1 113 .mov [.tm 3],
 w1 114 .mov [.tm 16],
 w1 115 (.conv .u64) [.tm 114],
 w1 116 .shl [.cn (.int .i64 1), .tm 115],
 w1 117 (.bit .or) [.tm 113, .tm 116],
 w1 118 .mov [.tm 1],
 w1 119 .mov [.tm 16],
 w1 120 (.idxAddr 4) [.tm 118, .tm 119],
 w1 121 (.fieldAddr 1) [.tm 120],
 w1 122 (.load false 1) [.tm 121],
 w1 3 .mov [.tm 117],
 w1 2 .mov [.tm 122]])
 (.exit 6)))
  .skip)))
 (.region [u1 71 .mov [.tm 16],
 u1 72 (.ari .add) [.tm 71, .cn (.int .i64 1)],
 u1 16 .mov [.tm 72]])))))))
 (.region [u1 65 .mov [.tm 15],
 u1 66 (.ari .add) [.tm 65, .cn (.int .i64 1)],
 u1 15 .mov [.tm 66]]))))))
 (.seq (.region [u1 123 .mov [.tm 14],
 u1 124 .mov [.tm 13],
 u1 8 .mov [.tm 123],
 u1 9 .mov [.tm 124]])
 .ret))))))) }
theorem v34_is : vfunc Try.prog Try.f34 = some v34 := by kernel_rfl

theorem pathG_len {h : Hal} {l : List Wk} : ∀ (n s : Nat) (p : Int), (pathG h l n s p).length ≤ n
  | 0, _, _ => by simp [pathG]
  | n + 1, s, p => by
    simp only [pathG]
    split
    · simp
    · simp only [List.length_cons]
      have := pathG_len (h := h) (l := l) n (s ||| 2 ^ (Few h l s p).2.toNat) (plF l (Few h l s p).2)
      omega
theorem next_at {h : Hal} {l : List Wk} {s : Nat} {p : Int} {j : Nat} (hj : j < l.length) (hm : mayF l s j = true) (hc : cnd h l s p j = (Few h l s p).1) (hja : ∀ j', j' < j → mayF l s j' = true → cnd h l s p j' ≠ (Few h l s p).1) : (Few h l s p).2 = (j : Int) := by
  rcases few_spec (h := h) (l := l) (s := s) (p := p) with ⟨e1, e2, e3⟩ | ⟨a, h1, h2, h3, h4, h5, h6⟩
  · rw [e3 j hj] at hm; cases hm
  · rcases Nat.lt_trichotomy a j with h' | h' | h'
    · exact absurd h4.symm (hja a h' h3)
    · rw [h2, h']
    · have := h6 j h' hm; omega
theorem next_none {h : Hal} {l : List Wk} {s : Nat} {p : Int} (hja : ∀ j', j' < l.length → mayF l s j' = true → cnd h l s p j' ≠ (Few h l s p).1) : (Few h l s p).2 < 0 := by
  rcases few_spec (h := h) (l := l) (s := s) (p := p) with ⟨e1, e2, e3⟩ | ⟨a, h1, h2, h3, h4, h5, h6⟩
  · omega
  · exact absurd h4.symm (hja a h1 h3)
def besC : Ctr := { alias := false, of := fun l => match l with
  | [.agg [.vs _ _ n sz get], .vs _ _ n' sz' get', .int .i64 p, .int .i64 s] => .ex Hal fun h => .ex (List Wk) fun l => .ex Nat fun S => .pre (lsP 1 encR n sz get h ∧ lsP 4 encK n' sz' get' l ∧ s = S ∧ feP h l S p) (.all Bool fun z => .fin (.tup [.vs true z (pathF h l S p).length 1 (fun k => enc1 ((pathF h l S p).getD k default)), .int .i64 (Few h l S p).1]) [])
  | _ => noC }
def TR0 : Env := { ct := fun n => match n with | 37 => some rfewC | 38 => some rmayC | _ => none, fn := fun _ => none, meth := fun _ _ => none }
theorem TR0_ct37 : TR0.ct 37 = some rfewC := rfl
theorem TR0_ct38 : TR0.ct 38 = some rmayC := rfl
theorem TR0_ok : EnvOk Try.prog TR0 := by
  refine ⟨fun f c h => ?_, fun f vf h => ?_, (fun _ _ _ h => by cases h), by kernel_rfl⟩
  · simp only [TR0] at h
    split at h
    · cases h; exact ⟨rfew_ok, Try.f37, Try.func37, by kernel_rfl, by kernel_rfl⟩
    · cases h; exact ⟨rmay_ok, Try.f38, Try.func38, by kernel_rfl, by kernel_rfl⟩
    · cases h
  · cases h

theorem bes_ok : besC.ok Try.prog 34 := by
  refine contract Try.func34 v34_is TR0_ok 600 besC fun args k h => ?_
  simp only [besC] at h
  split at h
  · rename_i t z n sz get t' z' n' sz' get' p s
    obtain ⟨h0, l, S, ⟨⟨rfl, rfl, hg⟩, ⟨rfl, rfl, hg'⟩, rfl, hP⟩, h⟩ := h
    have hP0 := hP
    obtain ⟨⟨hS, hp0, hp1⟩, hgood, hh12, hl12, hw⟩ := hP
    have h : ∀ z : Bool, k (.tup [.vs true z (pathF h0 l S p).length 1 (fun k => enc1 ((pathF h0 l S p).getD k default)), .int .i64 (Few h0 l S p).1]) [] := h
    refine ⟨[.agg [.vs false z h0.length 1 (fun k => encR (h0.getD k default))], .vs false z' l.length 4 (fun k => encK (l.getD k default)), .int .i64 p, .int .i64 S], ⟨⟨⟨fun h => (by cases h), rfl, rfl, rfl, hg⟩, trivial⟩, ⟨fun h => (by cases h), rfl, rfl, rfl, hg'⟩, ⟨rfl, rfl⟩, ⟨rfl, rfl⟩, trivial⟩, ?_⟩
    have hsm := aft_small (aft_of_good hgood) hl12
    dsimp only [v34, go_sem, Option.bind, Option.map, List.append_nil, Nat.beq, List.cons_append, List.nil_append, List.append_eq, List.map_cons, List.map_nil, ite_self, reduceIte]
    simp only [true_and, and_true, imp_self, implies_true, decide_eq_true_eq, decide_eq_false_iff_not, Nat.reduceAdd, Nat.reduceLeDiff, Bool.not_not, reduceCtorEq, false_imp_iff, Bool.not_eq_true', Bool.not_eq_false', Bool.false_eq_true, and_self, forall_const, ne_eq, not_false_eq_true, Nat.reduceEqDiff, Int.toNat_natCast]
    have hh0 : 0 < h0.length := by omega
    have hpow : 2 ^ l.length ≤ 2 ^ 12 := Nat.pow_le_pow_right (by omega) hl12
    have hN : IntKind.i64.wrap (1 * 2 ^ min (IntKind.u64.wrap (l.length : Int)).toNat 64) = ((2 ^ l.length : Nat) : Int) := by
      have e0 : IntKind.u64.wrap (l.length : Int) = (l.length : Int) := IntWalk.u64_in _ (by omega)
      have e1 : min l.length 64 = l.length := by omega
      have e2 : ((2 : Int) ^ l.length) = ((2 ^ l.length : Nat) : Int) := by norm_cast
      rw [e0, Int.toNat_natCast, e1, Int.one_mul, e2]
      obtain ⟨t, ht⟩ : ∃ t, t = 2 ^ l.length := ⟨_, rfl⟩
      rw [← ht] at hpow ⊢
      exact w6_raw (by omega) (by omega)
    simp only [hN, Int.toNat_natCast]
    obtain ⟨N, hNN⟩ : ∃ N, N = 2 ^ l.length := ⟨_, rfl⟩
    rw [← hNN] at hpow hS
    simp only [← hNN]
    refine ⟨by rw [IntWalk.u64_in _ (by omega)]; omega, ⟨by decide, by omega, by omega, by unfold capOk; omega⟩, ?_⟩
    refine Loop.keepG [1, 0, 0, 0, 5] Nat (fun i => [(11, .int .i64 i)]) (fun i => [(1, .own false 1 N (fun k => if k < i then [.row h0.length (KC h0 l k)] else [.nil]))]) [] (fun i => i ≤ N) (fun i => N - i) ?_ ?_
    · refine ⟨0, Nat.zero_le _, [], trivial, [], trivial, ?_⟩
      dsimp only [go_sem, Option.bind, Option.map, List.append_nil, Nat.beq, List.cons_append, List.nil_append, List.append_eq, List.map_cons, List.map_nil, ite_self, reduceIte]
      simp only [leS_mk, leL_cons, leL_nil, le_junk, le_int, le_bool, le_nil, leLL_nil, leLL_cons, leH_cons, leH_nil, leH1_box, leH1_own, leH1_gone, le_vs, le_agg, le_tup, le_ptr, le_own, le_xp, le_fn, le_opt, le_val, le_elem, le_nil_own, le_nil_vs, leH_ghost, leL_chunk, leXL_id, bnd_int, bnd_bool, bnd_val, bnd_nil, bnd_junk, bnd_vs, bnd_xp, bnd_agg, bnd_tup, bnd_ptr, bnd_own, bnd_elem, bnd_fn, bnd_iface, bnd_opt, bnd_row, bnd_rcell, bnd_imap, bnd_smp, le_row, le_rcell, le_imap, le_smp, leH1_smap, bndL_nil, bndL_cons, lenH_cons, lenH_nil, imp_self, implies_true, true_and, and_true]
      simp [leL, le, bnd]
    · rintro i hi
      dsimp only [TR0_ct37, rfewC, rfeC, go_sem, Option.bind, Option.map, List.append_nil, Nat.beq, List.cons_append, List.nil_append, List.append_eq, List.map_cons, List.map_nil, ite_self, reduceIte]
      simp only [true_and, and_true, imp_self, implies_true, decide_eq_true_eq, decide_eq_false_iff_not, Nat.reduceAdd, Nat.reduceLeDiff, Bool.not_not, reduceCtorEq, false_imp_iff, Bool.not_eq_true', Bool.not_eq_false', Bool.false_eq_true, and_self, forall_const, ne_eq, not_false_eq_true, Nat.reduceEqDiff, Int.toNat_natCast]
      refine ⟨fun hlt => ?_, fun hge => ?_⟩
      · have hi' : i < N := by omega
        refine Loop.keep [1, 0, 0, 0, 5, 0] Nat (fun q => [(12, .int .i64 q)]) (fun q => [(1, .own false 1 N (fun k => if k < i then [.row h0.length (KC h0 l k)] else if k = i then [.own 3 0 q 1] else [.nil])), (3, .own (decide (q = 0)) 1 q (fun _ => enc1 (-1)))]) [.gone] (fun q => q ≤ h0.length) (fun q => h0.length - q) ?_ ?_
        · refine ⟨0, Nat.zero_le _, ?_⟩
          dsimp only [go_sem, Option.bind, Option.map, List.append_nil, Nat.beq, List.cons_append, List.nil_append, List.append_eq, List.map_cons, List.map_nil, ite_self, reduceIte]
          simp only [leH_ghost, leS_mk, leL_cons, leL_nil, le_junk, le_int, le_bool, le_nil, leLL_nil, leLL_cons, leH_cons, leH_nil, leH1_box, leH1_own, leH1_gone, le_vs, le_agg, le_tup, le_ptr, le_own, le_xp, le_fn, le_opt, le_val, le_elem, le_nil_own, le_nil_vs, leH_ghost, leL_chunk, leXL_id, bnd_int, bnd_bool, bnd_val, bnd_nil, bnd_junk, bnd_vs, bnd_xp, bnd_agg, bnd_tup, bnd_ptr, bnd_own, bnd_elem, bnd_fn, bnd_iface, bnd_opt, bnd_row, bnd_rcell, bnd_imap, bnd_smp, le_row, le_rcell, le_imap, le_smp, leH1_smap, bndL_nil, bndL_cons, lenH_cons, lenH_nil, imp_self, implies_true, true_and, and_true]
          refine ⟨⟨by omega, by omega, rfl⟩, fun k hk => ?_, by omega, by simp⟩
          by_cases h1 : k < i
          · rw [if_pos h1, if_pos h1]; simp [leL, le, bnd]
          · rw [if_neg h1, if_neg h1]
            by_cases h2 : k = i
            · rw [if_pos h2]; simp [leL, le, bnd]
            · rw [if_neg h2]; simp [leL, le, bnd]
        · rintro q hq
          dsimp only [enc1, go_sem, Option.bind, Option.map, List.append_nil, Nat.beq, List.cons_append, List.nil_append, List.append_eq, List.map_cons, List.map_nil, ite_self, reduceIte]
          simp only [true_and, and_true, imp_self, implies_true, decide_eq_true_eq, decide_eq_false_iff_not, Nat.reduceAdd, Nat.reduceLeDiff, Bool.not_not, reduceCtorEq, false_imp_iff, Bool.not_eq_true', Bool.not_eq_false', Bool.false_eq_true, and_self, forall_const, ne_eq, not_false_eq_true, Nat.reduceEqDiff, Int.toNat_natCast, Nat.lt_irrefl, if_false, if_true]
          dsimp only [go_sem, Option.bind, Option.map, List.append_nil, Nat.beq, List.cons_append, List.nil_append, List.append_eq, List.map_cons, List.map_nil, ite_self, reduceIte]
          simp only [true_and, and_true, imp_self, implies_true, decide_eq_true_eq, decide_eq_false_iff_not, Nat.reduceAdd, Nat.reduceLeDiff, Bool.not_not, reduceCtorEq, false_imp_iff, Bool.not_eq_true', Bool.not_eq_false', Bool.false_eq_true, and_self, forall_const, ne_eq, not_false_eq_true, Nat.reduceEqDiff, Int.toNat_natCast, Nat.lt_irrefl, if_false, if_true]
          refine ⟨fun hlt2 => ?_, fun hge2 => ?_⟩
          · refine ⟨⟨by omega, by omega⟩, hi', Nat.one_pos, ⟨by unfold capOk; omega, fun k hk => ?_⟩, ⟨by omega, by omega⟩, hi', q + 1, by omega, by omega, ?_⟩
            · obtain rfl : k = 0 := by omega
              simp [takeL, dropL, lenL, ones, one]
            · simp only [leS_mk, leL_cons, leL_nil, le_junk, le_int, le_bool, le_nil, leLL_nil, leLL_cons, leH_cons, leH_nil, leH1_box, leH1_own, leH1_gone, le_vs, le_agg, le_tup, le_ptr, le_own, le_xp, le_fn, le_opt, le_val, le_elem, le_nil_own, le_nil_vs, leH_ghost, leL_chunk, leXL_id, bnd_int, bnd_bool, bnd_val, bnd_nil, bnd_junk, bnd_vs, bnd_xp, bnd_agg, bnd_tup, bnd_ptr, bnd_own, bnd_elem, bnd_fn, bnd_iface, bnd_opt, bnd_row, bnd_rcell, bnd_imap, bnd_smp, le_row, le_rcell, le_imap, le_smp, leH1_smap, bndL_nil, bndL_cons, lenH_cons, lenH_nil, imp_self, implies_true, true_and, and_true]
              refine ⟨⟨by omega, by omega, w_succ (by omega : q < h0.length) (by omega)⟩, fun k hk => ?_, by omega, by simp, fun k hk => ?_⟩
              · by_cases h2 : k = i
                · subst h2
                  simp [spliceL, purgeL, leL, le, bnd, takeL, dropL]
                · by_cases h1 : k < i
                  · simp [h1, h2, purgeL, purge, refs, leL, le, bnd]
                  · simp [h1, h2, purgeL, purge, refs, leL, le, bnd]
              · by_cases h1 : k < q
                · rw [if_pos h1]; simp [leL, le]
                · obtain rfl : k = q := by omega
                  rw [if_neg h1]; simp [takeL, dropL, purgeL, purge, refs, leL, le]
          · obtain rfl : q = h0.length := by omega
            refine ⟨i + 1, by omega, by omega, [(3, h0.length, KC h0 l i)], ?_, [], trivial, ?_⟩
            · exact ⟨⟨⟨rfl, rfl, hh0⟩, fun k hk => .inl rfl⟩, trivial⟩
            · dsimp only [go_sem, Option.bind, Option.map, List.append_nil, Nat.beq, List.cons_append, List.nil_append, List.append_eq, List.map_cons, List.map_nil, ite_self, reduceIte]
              simp only [leS_mk, leL_cons, leL_nil, le_junk, le_int, le_bool, le_nil, leLL_nil, leLL_cons, leH_cons, leH_nil, leH1_box, leH1_own, leH1_gone, le_vs, le_agg, le_tup, le_ptr, le_own, le_xp, le_fn, le_opt, le_val, le_elem, le_nil_own, le_nil_vs, leH_ghost, leL_chunk, leXL_id, bnd_int, bnd_bool, bnd_val, bnd_nil, bnd_junk, bnd_vs, bnd_xp, bnd_agg, bnd_tup, bnd_ptr, bnd_own, bnd_elem, bnd_fn, bnd_iface, bnd_opt, bnd_row, bnd_rcell, bnd_imap, bnd_smp, le_row, le_rcell, le_imap, le_smp, leH1_smap, bndL_nil, bndL_cons, lenH_cons, lenH_nil, imp_self, implies_true, true_and, and_true]
              refine ⟨⟨by omega, by omega, w_succ hi' (by omega)⟩, fun k hk => ?_, by omega⟩
              by_cases h1 : k < i
              · rw [if_pos h1, if_pos (by omega)]; simp [pubL, pubV, leL, le, bnd]
              · rw [if_neg h1]
                by_cases h2 : k = i
                · subst h2
                  simp [pubL, pubV, leL, le, bnd, cond]
                · rw [if_neg h2, if_neg (by omega)]; simp [pubL, pubV, leL, le, bnd]
      · obtain rfl : i = N := by omega
        have hp2 : ((p.toNat : Nat) : Int) = p := by omega
        refine ⟨h0, l, S, p.toNat, ⟨⟨rfl, rfl, fun k _ => ?_⟩, ⟨rfl, rfl, fun k _ => ?_⟩, ⟨rfl, hNN, fun d hd => ?_⟩, ⟨rfl, hp2.symm⟩, by rw [hp2]; exact hP0, by have := leftN_le (s := S) l.length; omega⟩, ?_⟩
        · simp [encR, enc1, viewL, view, leXL, leX, andT]
        · simp [encK, enc1, viewL, view, leXL, leX, andT]
        · have hd' : d < i := by omega
          simp only [if_pos hd']
          simp [viewL, view, leXL, leX]
        rw [hp2]
        have hpl0 : (pathF h0 l S p).length ≤ 12 := by
          have h1 := pathG_len (h := h0) (l := l) (leftN S l.length) S p
          have h2 := leftN_le (s := S) l.length
          unfold pathF; omega
        refine Loop.keep [1, 2, 5, 2] (Nat × List Int × Nat × Int) (fun x => [(2, .int .i64 x.2.2.2), (3, .int .i64 x.2.2.1), (14, .own 3 0 x.2.1.length 1), (15, .int .i64 x.1)]) (fun x => [(1, .own false 1 i (fun k => [.row h0.length (KC h0 l k)])), (3, .own (decide (x.2.1.length = 0)) 1 x.2.1.length (fun k => enc1 (x.2.1.getD k default)))]) [.gone] (fun x => x.1 ≤ l.length ∧ x.2.1 ++ pathF h0 l x.2.2.1 x.2.2.2 = pathF h0 l S p ∧ feP h0 l x.2.2.1 x.2.2.2 ∧ (leftN x.2.2.1 l.length + x.1 ≤ l.length ∨ (Few h0 l x.2.2.1 x.2.2.2).2 < 0)) (fun x => l.length - x.1) ?_ ?_
        · refine ⟨(0, [], S, p), ⟨Nat.zero_le _, rfl, hP0, .inl (by have := leftN_le (s := S) l.length; omega)⟩, ?_⟩
          dsimp only [List.length_nil, go_sem, Option.bind, Option.map, List.append_nil, Nat.beq, List.cons_append, List.nil_append, List.append_eq, List.map_cons, List.map_nil, ite_self, reduceIte]
          simp only [leH_ghost, leS_mk, leL_cons, leL_nil, le_junk, le_int, le_bool, le_nil, leLL_nil, leLL_cons, leH_cons, leH_nil, leH1_box, leH1_own, leH1_gone, le_vs, le_agg, le_tup, le_ptr, le_own, le_xp, le_fn, le_opt, le_val, le_elem, le_nil_own, le_nil_vs, leH_ghost, leL_chunk, leXL_id, bnd_int, bnd_bool, bnd_val, bnd_nil, bnd_junk, bnd_vs, bnd_xp, bnd_agg, bnd_tup, bnd_ptr, bnd_own, bnd_elem, bnd_fn, bnd_iface, bnd_opt, bnd_row, bnd_rcell, bnd_imap, bnd_smp, le_row, le_rcell, le_imap, le_smp, leH1_smap, bndL_nil, bndL_cons, lenH_cons, lenH_nil, imp_self, implies_true, true_and, and_true]
          refine ⟨⟨by omega, by omega, ⟨by omega, by omega⟩, rfl⟩, fun k hk => ?_, by omega, by simp⟩
          rw [if_pos hk]; simp [leL, le, bnd]
        · rintro ⟨r, out, s, q⟩ ⟨hr, hout, hP, hleft⟩
          simp only at hr hout hP hleft
          dsimp only [go_sem, Option.bind, Option.map, List.append_nil, Nat.beq, List.cons_append, List.nil_append, List.append_eq, List.map_cons, List.map_nil, ite_self, reduceIte]
          simp only [true_and, and_true, imp_self, implies_true, decide_eq_true_eq, decide_eq_false_iff_not, Nat.reduceAdd, Nat.reduceLeDiff, Bool.not_not, reduceCtorEq, false_imp_iff, Bool.not_eq_true', Bool.not_eq_false', Bool.false_eq_true, and_self, forall_const, ne_eq, not_false_eq_true, Nat.reduceEqDiff, Int.toNat_natCast]
          refine ⟨fun hlt => ?_, fun hge => ?_⟩
          · have hr' : r < l.length := by omega
            refine Loop.keep [1, 0, 0, 0, 5, 2, 0, 0] Nat (fun j => [(16, .int .i64 j)]) (fun _ => []) [] (fun j => j ≤ l.length ∧ ∀ j', j' < j → mayF l s j' = true → cnd h0 l s q j' ≠ (Few h0 l s q).1) (fun j => l.length - j) ?_ ?_
            · refine ⟨0, ⟨Nat.zero_le _, fun j hj => by omega⟩, ?_⟩
              dsimp only [go_sem, Option.bind, Option.map, List.append_nil, Nat.beq, List.cons_append, List.nil_append, List.append_eq, List.map_cons, List.map_nil, ite_self, reduceIte]
              simp only [leS_mk, leL_cons, leL_nil, le_junk, le_int, le_bool, le_nil, leLL_nil, leLL_cons, leH_cons, leH_nil, leH1_box, leH1_own, leH1_gone, le_vs, le_agg, le_tup, le_ptr, le_own, le_xp, le_fn, le_opt, le_val, le_elem, le_nil_own, le_nil_vs, leH_ghost, leL_chunk, leXL_id, bnd_int, bnd_bool, bnd_val, bnd_nil, bnd_junk, bnd_vs, bnd_xp, bnd_agg, bnd_tup, bnd_ptr, bnd_own, bnd_elem, bnd_fn, bnd_iface, bnd_opt, bnd_row, bnd_rcell, bnd_imap, bnd_smp, le_row, le_rcell, le_imap, le_smp, leH1_smap, bndL_nil, bndL_cons, lenH_cons, lenH_nil, imp_self, implies_true, true_and, and_true]
              exact ⟨⟨by omega, by omega, by omega, rfl⟩, by omega, fun k _ => leL_self [.int _ _] ⟨trivial, trivial⟩⟩
            · rintro j ⟨hj, hja⟩
              dsimp only [TR0_ct37, TR0_ct38, rmayC, rfewC, rfeC, encR, encK, enc1, go_sem, Option.bind, Option.map, List.append_nil, Nat.beq, List.cons_append, List.nil_append, List.append_eq, List.map_cons, List.map_nil, ite_self, reduceIte]
              simp only [true_and, and_true, imp_self, implies_true, decide_eq_true_eq, decide_eq_false_iff_not, Nat.reduceAdd, Nat.reduceLeDiff, Bool.not_not, reduceCtorEq, false_imp_iff, Bool.not_eq_true', Bool.not_eq_false', Bool.false_eq_true, and_self, forall_const, ne_eq, not_false_eq_true, Nat.reduceEqDiff, Int.toNat_natCast]
              obtain ⟨⟨hs, hq0, hq1⟩, _⟩ := hP
              refine ⟨fun hltj => ?_, fun hgej => ?_⟩
              · have hj' : j < l.length := by omega
                have hpl := good_pl hgood hj'
                have hrow := good_row hgood (by omega : q.toNat < h0.length)
                have hcost := hrow.2 (l.getD j default).pl.toNat (by omega)
                have haft := aft_of_good hgood
                have hcol : (l.getD j default).pl < ((h0.getD q.toNat default).v.length : Int) := by rw [hrow.1]; exact hpl.2
                have hor : bitI Bit.or IntKind.i64 (s : Int) (IntKind.i64.wrap (1 * 2 ^ min (IntKind.u64.wrap (j : Int)).toNat 64)) = ((s ||| 2 ^ j : Nat) : Int) := i64_or (Nat.lt_of_lt_of_le hs (Nat.pow_le_pow_right (by omega) (by omega))) (by omega)
                have epl : (((l.getD j default).pl.toNat : Nat) : Int) = (l.getD j default).pl := by omega
                have eq2 : ((q.toNat : Nat) : Int) = q := by omega
                have hP' : feP h0 l (s ||| 2 ^ j) (((l.getD j default).pl.toNat : Nat) : Int) := ⟨⟨Nat.or_lt_two_pow hs (Nat.pow_lt_pow_right (by omega) hj'), by omega, by omega⟩, hgood, hh12, hl12, hw⟩
                have htab : tabP h0 l i 1 fun k => [SV.row h0.length (KC h0 l k)] := ⟨rfl, hNN, fun d _ => leXL_self _⟩
                have hl1 := leftN_le (s := s ||| 2 ^ j) l.length
                have hl2 := leftN_le (s := s) l.length
                have hu : 0 ≤ IntKind.u64.wrap (j : Int) := by rw [IntWalk.u64_in _ (by omega)]; omega
                refine ⟨l, s, j, ⟨⟨rfl, rfl, fun k _ => leXL_self _⟩, ⟨rfl, hs⟩, ⟨rfl, hj'⟩, hl12, hw, haft⟩, fun _ => ⟨hq0, hq1⟩, fun _ => ⟨by omega, hltj⟩, fun _ => ⟨hpl.1, hcol⟩, fun _ => hu, fun _ => ⟨by omega, hltj⟩, h0, l, s ||| 2 ^ j, (l.getD j default).pl.toNat, fun _ => ⟨⟨rfl, rfl, fun k _ => leXL_self _⟩, ⟨rfl, rfl, fun k _ => leXL_self _⟩, htab, ⟨hor, epl.symm⟩, hP', by omega⟩, h0, l, s, q.toNat, fun _ => ⟨⟨rfl, rfl, fun k _ => leXL_self _⟩, ⟨rfl, rfl, fun k _ => leXL_self _⟩, htab, ⟨rfl, eq2.symm⟩, ⟨⟨hs, by omega, by omega⟩, hgood, hh12, hl12, hw⟩, by omega⟩, ?_⟩
                have hrng := FF_rng hgood l.length (s ||| 2 ^ j) (l.getD j default).pl hpl.1 hpl.2
                have hrng : 0 ≤ (Few h0 l (s ||| 2 ^ j) (l.getD j default).pl).1 ∧ (Few h0 l (s ||| 2 ^ j) (l.getD j default).pl).1 ≤ 1000 * l.length := hrng
                have ew : IntKind.i64.wrap ((h0.getD q.toNat default).v.getD (l.getD j default).pl.toNat default + (Few h0 l (s ||| 2 ^ j) (l.getD j default).pl).1) = cnd h0 l s q j := by
                  rw [w6_raw (by omega) (by omega), Int.add_comm]; rfl
                rw [epl, eq2]
                simp only [ew, hor]
                refine ⟨fun hc => ?_, fun hc => ?_⟩
                · rw [Bool.and_eq_true, decide_eq_true_eq] at hc
                  obtain ⟨hm, hce⟩ := hc
                  have hnx := next_at hj' hm hce hja
                  have hcons := path_cons (h := h0) (l := l) (s := s) (p := q) (by omega)
                  rw [hnx] at hcons
                  simp only [Int.toNat_natCast] at hcons
                  have hlft := leftN_step hj' hm
                  have holen : out.length ≤ 12 := by
                    have := congrArg List.length hout
                    rw [List.length_append] at this
                    omega
                  refine ⟨Nat.one_pos, ⟨by unfold capOk; omega, fun k hk => ?_⟩, hu, ⟨by omega, hltj⟩, (r + 1, out ++ [(j : Int)], s ||| 2 ^ j, (l.getD j default).pl), ⟨by simp only; omega, ?_, by rw [epl] at hP'; exact hP', .inl ?_⟩, by simp only; omega, ?_⟩
                  · obtain rfl : k = 0 := by omega
                    simp [takeL, dropL, lenL, ones, one]
                  · rw [← hout, hcons, List.append_assoc]; rfl
                  · rcases hleft with h1 | h1
                    · simp only; omega
                    · omega
                  · simp only [List.length_append, List.length_cons, List.length_nil, leS_mk, leL_cons, leL_nil, le_junk, le_int, le_bool, le_nil, leLL_nil, leLL_cons, leH_cons, leH_nil, leH1_box, leH1_own, leH1_gone, le_vs, le_agg, le_tup, le_ptr, le_own, le_xp, le_fn, le_opt, le_val, le_elem, le_nil_own, le_nil_vs, leH_ghost, leL_chunk, leXL_id, bnd_int, bnd_bool, bnd_val, bnd_nil, bnd_junk, bnd_vs, bnd_xp, bnd_agg, bnd_tup, bnd_ptr, bnd_own, bnd_elem, bnd_fn, bnd_iface, bnd_opt, bnd_row, bnd_rcell, bnd_imap, bnd_smp, le_row, le_rcell, le_imap, le_smp, leH1_smap, bndL_nil, bndL_cons, lenH_cons, lenH_nil, imp_self, implies_true, true_and, and_true]
                    refine ⟨⟨by omega, by omega, by omega, w_succ hr' (by omega)⟩, by omega, by simp, fun k hk => ?_⟩
                    by_cases hko : k < out.length
                    · rw [if_pos hko]
                      simp [List.getElem?_append, hko, leL, le]
                    · obtain rfl : k = out.length := by omega
                      rw [if_neg hko]
                      simp [takeL, dropL, purgeL, purge, refs, leL, le]
                · refine ⟨j + 1, ⟨by omega, ?_⟩, by omega, ?_⟩
                  · intro j' hj2 hm hce
                    rcases Nat.lt_or_ge j' j with h' | h'
                    · exact hja j' h' hm hce
                    · obtain rfl : j' = j := by omega
                      rw [hm, decide_eq_true hce] at hc
                      cases hc
                  · simp only [leS_mk, leL_cons, leL_nil, le_junk, le_int, le_bool, le_nil, leLL_nil, leLL_cons, leH_cons, leH_nil, leH1_box, leH1_own, leH1_gone, le_vs, le_agg, le_tup, le_ptr, le_own, le_xp, le_fn, le_opt, le_val, le_elem, le_nil_own, le_nil_vs, leH_ghost, leL_chunk, leXL_id, bnd_int, bnd_bool, bnd_val, bnd_nil, bnd_junk, bnd_vs, bnd_xp, bnd_agg, bnd_tup, bnd_ptr, bnd_own, bnd_elem, bnd_fn, bnd_iface, bnd_opt, bnd_row, bnd_rcell, bnd_imap, bnd_smp, le_row, le_rcell, le_imap, le_smp, leH1_smap, bndL_nil, bndL_cons, lenH_cons, lenH_nil, imp_self, implies_true, true_and, and_true]
                    exact ⟨⟨by omega, by omega, by omega, w_succ hj' (by omega)⟩, by omega⟩
              · obtain rfl : j = l.length := by omega
                have hnone := next_none hja
                refine ⟨(r + 1, out, s, q), ⟨by simp only; omega, hout, ⟨⟨hs, hq0, hq1⟩, hgood, hh12, hl12, hw⟩, .inr hnone⟩, by simp only; omega, ?_⟩
                simp only [leS_mk, leL_cons, leL_nil, le_junk, le_int, le_bool, le_nil, leLL_nil, leLL_cons, leH_cons, leH_nil, leH1_box, leH1_own, leH1_gone, le_vs, le_agg, le_tup, le_ptr, le_own, le_xp, le_fn, le_opt, le_val, le_elem, le_nil_own, le_nil_vs, leH_ghost, leL_chunk, leXL_id, bnd_int, bnd_bool, bnd_val, bnd_nil, bnd_junk, bnd_vs, bnd_xp, bnd_agg, bnd_tup, bnd_ptr, bnd_own, bnd_elem, bnd_fn, bnd_iface, bnd_opt, bnd_row, bnd_rcell, bnd_imap, bnd_smp, le_row, le_rcell, le_imap, le_smp, leH1_smap, bndL_nil, bndL_cons, lenH_cons, lenH_nil, imp_self, implies_true, true_and, and_true]
                exact ⟨⟨by omega, by omega, by omega, w_succ hr' (by omega)⟩, by omega⟩
          · obtain rfl : r = l.length := by omega
            have hnil : pathF h0 l s q = [] := by
              rcases hleft with h1 | h1
              · unfold pathF
                rw [show leftN s l.length = 0 by omega]; rfl
              · exact path_nil h1
            rw [hnil, List.append_nil] at hout
            rw [← hout] at h
            refine ans_le (h (decide (out.length = 0))) ?_ (fun _ => by simp [freshS, freshL, enc1])
            dsimp only [expo, enc1, go_sem, Option.bind, Option.map, List.append_nil, Nat.beq, List.cons_append, List.nil_append, List.append_eq, List.map_cons, List.map_nil, ite_self, reduceIte]
            simp only [leS_mk, leL_cons, leL_nil, le_junk, le_int, le_bool, le_nil, leLL_nil, leLL_cons, leH_cons, leH_nil, leH1_box, leH1_own, leH1_gone, le_vs, le_agg, le_tup, le_ptr, le_own, le_xp, le_fn, le_opt, le_val, le_elem, le_nil_own, le_nil_vs, leH_ghost, leL_chunk, leXL_id, bnd_int, bnd_bool, bnd_val, bnd_nil, bnd_junk, bnd_vs, bnd_xp, bnd_agg, bnd_tup, bnd_ptr, bnd_own, bnd_elem, bnd_fn, bnd_iface, bnd_opt, bnd_row, bnd_rcell, bnd_imap, bnd_smp, le_row, le_rcell, le_imap, le_smp, leH1_smap, bndL_nil, bndL_cons, lenH_cons, lenH_nil, imp_self, implies_true, true_and, and_true]
  · exact h.1.elim
end Go.Proofs.Yteioilioobichaa

/- Tuning, walked: Rest and Plan of the reference. -/
/- Tuning, walked: Rest and Plan of the reference. -/
set_option linter.all false
namespace Go.Proofs.Yteioilioobichaa
open Go Go.Vx
set_option maxRecDepth 100000
set_option maxHeartbeats 4000000

def v19 : VF := { ntmps := 113, res := [.tmp 8, .tmp 9, .tmp 10], body :=
 (.seq (.region [u1 4 .box [.tm 0],
 u1 8 .mov [.cn .nil],
 u1 9 .mov [.cn (.int .i64 0)],
 u1 10 .mov [.cn (.int .i64 0)]])
 (.seq (.region [u1 19 (.load true 1) [.tm 4],
 u1 20 .mov [.tm 1],
 u1 21 (.call 14) [.tm 19, .tm 20],
 u1 11 .mov [.tm 21]])
 (.seq (.seq (.region [u1 22 .mov [.tm 11],
 u1 23 (.cmp .neq) [.tm 22, .cn (.int .i64 0)]])
 (.cond (.tm 23) (.seq (.region [u1 24 .mov [.tm 11],
 u1 8 .mov [.cn .nil],
 u1 9 .mov [.cn (.int .i64 0)],
 u1 10 .mov [.tm 24]])
 .ret)
  .skip))
 (.seq (.seq (.region [u1 25 .mov [.tm 2],
 u1 26 (.cmp .lss) [.tm 25, .cn (.int .i64 0)],
 u1 27 .mov [.tm 26],
 u2 28 27 false .mov [.tm 2],
 u2 29 27 false (.fieldAddr 0) [.tm 4],
 u2 30 27 false (.load false 1) [.tm 29],
 u2 31 27 false .len [.tm 30],
 u2 32 27 false (.cmp .geq) [.tm 28, .tm 31],
 u1 33 .or [.tm 27, .tm 32]])
 (.cond (.tm 33) (.seq (.region [u1 8 .mov [.cn .nil],
 u1 9 .mov [.cn (.int .i64 0)],
 u1 10 .mov [.cn (.int .i64 2)]])
 .ret)
  .skip))
 (.seq (.region [u1 12 .mov [.cn (.int .i64 0)]])
 (.seq (.seq (.region [u1 13 .mov [.cn (.int .i64 0)]])
 (.block 0 (.loop (.seq (.seq (.region [u1 34 .mov [.tm 13],
 u1 35 .mov [.tm 3],
 u1 36 .len [.tm 35],
 u1 37 (.cmp .lss) [.tm 34, .tm 36]])
 (.cond (.tm 37) .skip
  (.exit 0)))
 (.seq (.block 1 (.seq (.seq (.region [u1 40 .mov [.tm 3],
 u1 41 .mov [.tm 13],
 u1 42 (.idxAddr 1) [.tm 40, .tm 41],
 u1 43 (.load false 1) [.tm 42],
 u1 44 (.cmp .lss) [.tm 43, .cn (.int .i64 0)],
 u1 45 .mov [.tm 44],
 u2 46 45 false .mov [.tm 3],
 u2 47 45 false .mov [.tm 13],
 u2 48 45 false (.idxAddr 1) [.tm 46, .tm 47],
 u2 49 45 false (.load false 1) [.tm 48],
 u2 50 45 false .mov [.tm 1],
 u2 51 45 false .len [.tm 50],
 u2 52 45 false (.cmp .geq) [.tm 49, .tm 51],
 u1 53 .or [.tm 45, .tm 52],
 u1 54 .mov [.tm 53],
 u2 55 54 false .mov [.tm 12],
 u2 56 54 false .mov [.tm 3],
 u2 57 54 false .mov [.tm 13],
 u2 58 54 false (.idxAddr 1) [.tm 56, .tm 57],
 u2 59 54 false (.load false 1) [.tm 58],
 u2 60 54 false (.conv .u64) [.tm 59],
 u2 61 54 false .shr [.tm 55, .tm 60],
 u2 62 54 false (.bit .and) [.tm 61, .cn (.int .i64 1)],
 u2 63 54 false (.cmp .eql) [.tm 62, .cn (.int .i64 1)],
 u1 64 .or [.tm 54, .tm 63]])
 (.cond (.tm 64) (.seq (.region [u1 8 .mov [.cn .nil],
 u1 9 .mov [.cn (.int .i64 0)],
 u1 10 .mov [.cn (.int .i64 2)]])
 .ret)
  .skip))
 (.region [u1 65 .mov [.tm 12],
 u1 66 .mov [.tm 3],
 u1 67 .mov [.tm 13],
 u1 68 (.idxAddr 1) [.tm 66, .tm 67],
 u1 69 (.load false 1) [.tm 68],
 u1 70 (.conv .u64) [.tm 69],
 u1 71 .shl [.cn (.int .i64 1), .tm 70],
 u1 72 (.bit .or) [.tm 65, .tm 71],
 u1 12 .mov [.tm 72]])))
 (.region [u1 38 .mov [.tm 13],
 u1 39 (.ari .add) [.tm 38, .cn (.int .i64 1)],
 u1 13 .mov [.tm 39]]))))))
 (.seq (.seq (.region [u1 14 .mov [.cn (.int .i64 0)]])
 (.block 2 (.loop (.seq (.seq (.region [u1 73 .mov [.tm 14],
 u1 74 .mov [.tm 3],
 u1 75 .len [.tm 74],
 u1 76 (.cmp .lss) [.tm 73, .tm 75]])
 (.cond (.tm 76) .skip
  (.exit 2)))
 (.seq (.block 3 (.seq (.region [u1 79 .mov [.tm 1],
 u1 80 .mov [.tm 3],
 u1 81 .mov [.tm 14],
 u1 82 (.idxAddr 1) [.tm 80, .tm 81],
 u1 83 (.load false 1) [.tm 82],
 u1 84 (.idxAddr 4) [.tm 79, .tm 83],
 u1 85 (.load true 4) [.tm 84],
 u1 15 (.alloc [(.val (.string ⟨#[]⟩)), (.int .i64 0), .nil, (.int .i64 0)]) [],
 u0 (.store 4) [.tm 15, .tm 85]])
 (.seq (.region [u1 16 .mov [.cn (.int .i64 0)]])
 (.block 4 (.loop (.seq (.seq (.region [u1 86 .mov [.tm 16],
 u1 87 (.fieldAddr 2) [.tm 15],
 u1 88 (.load false 1) [.tm 87],
 u1 89 .len [.tm 88],
 u1 90 (.cmp .lss) [.tm 86, .tm 89]])
 (.cond (.tm 90) .skip
  (.exit 4)))
 (.seq (.block 5 (.seq (.region [u1 93 .mov [.tm 12],
 u1 94 (.fieldAddr 2) [.tm 15],
 u1 95 (.load false 1) [.tm 94],
 u1 96 .mov [.tm 16],
 u1 97 (.idxAddr 1) [.tm 95, .tm 96],
 u1 98 (.load false 1) [.tm 97],
 u1 99 (.conv .u64) [.tm 98],
 u1 100 .shr [.tm 93, .tm 99],
 u1 101 (.bit .and) [.tm 100, .cn (.int .i64 1)],
 u1 102 (.cmp .eql) [.tm 101, .cn (.int .i64 0)]])
 (.cond (.tm 102) (.seq (.region [u1 8 .mov [.cn .nil],
 u1 9 .mov [.cn (.int .i64 0)],
 u1 10 .mov [.cn (.int .i64 4)]])
 .ret)
  .skip)))
 (.region [u1 91 .mov [.tm 16],
 u1 92 (.ari .add) [.tm 91, .cn (.int .i64 1)],
 u1 16 .mov [.tm 92]]))))))))
 (.region [u1 77 .mov [.tm 14],
 u1 78 (.ari .add) [.tm 77, .cn (.int .i64 1)],
 u1 14 .mov [.tm 78]]))))))
 (.seq (.region [u1 104 (.load true 1) [.tm 4],
 u1 105 .mov [.tm 1],
 u1 106 .mov [.tm 2],
 u1 107 .mov [.tm 12],
 u1 108 (.call 34) [.tm 104, .tm 105, .tm 106, .tm 107],
 u1 103 .mov [.tm 108],
 u1 109 (.ext 0) [.tm 103],
 u1 110 (.ext 1) [.tm 103],
 u1 17 .mov [.tm 109],
 u1 18 .mov [.tm 110]])
 (.seq (.region [u1 111 .mov [.tm 17],
 u1 112 .mov [.tm 18],
 u1 8 .mov [.tm 111],
 u1 9 .mov [.tm 112],
 u1 10 .mov [.cn (.int .i64 0)]])
 .ret))))))))) }
theorem v19_is : vfunc Try.prog Try.f19 = some v19 := by kernel_rfl
def v17 : VF := { ntmps := 16, res := [.tmp 6, .tmp 7, .tmp 8], body :=
 (.seq (.region [u1 3 .box [.tm 0],
 u1 6 .mov [.cn .nil],
 u1 7 .mov [.cn (.int .i64 0)],
 u1 8 .mov [.cn (.int .i64 0)]])
 (.seq (.region [u1 9 (.load true 1) [.tm 3],
 u1 10 .mov [.tm 1],
 u1 11 .mov [.tm 2],
 u1 12 (.call 19) [.tm 9, .tm 10, .tm 11, .cn .nil],
 u1 13 (.ext 0) [.tm 12],
 u1 14 (.ext 1) [.tm 12],
 u1 15 (.ext 2) [.tm 12],
 u1 6 .mov [.tm 13],
 u1 7 .mov [.tm 14],
 u1 8 .mov [.tm 15]])
 .ret)) }
theorem v17_is : vfunc Try.prog Try.f17 = some v17 := by kernel_rfl

def TS0 : Env := { ct := fun n => match n with | 14 => some chkC | 34 => some besC | _ => none, fn := fun _ => none, meth := fun _ _ => none }
theorem TS0_ct14 : TS0.ct 14 = some chkC := rfl
theorem TS0_ct34 : TS0.ct 34 = some besC := rfl
theorem TS0_ok : EnvOk Try.prog TS0 := by
  refine ⟨fun f c h => ?_, fun f vf h => ?_, (fun _ _ _ h => by cases h), by kernel_rfl⟩
  · simp only [TS0] at h
    split at h
    · cases h; exact ⟨rchk_ok, Try.f14, Try.func14, by kernel_rfl, by kernel_rfl⟩
    · cases h; exact ⟨bes_ok, Try.f34, Try.func34, by kernel_rfl, by kernel_rfl⟩
    · cases h
  · cases h

theorem i64_or' {S : Nat} {a : Int} (hS : S < 2 ^ 12) (a0 : 0 ≤ a) (a1 : a < 12) : bitI Bit.or IntKind.i64 (S : Int) (IntKind.i64.wrap (1 * 2 ^ min (IntKind.u64.wrap a).toNat 64)) = ((S ||| 2 ^ a.toNat : Nat) : Int) := by
  have := i64_or (S := S) (i := a.toNat) hS (by omega)
  rwa [show ((a.toNat : Nat) : Int) = a by omega] at this
theorem rRest_run {k : SV → List HO → Prop} {z z' z'' : Bool} {place : Int} {h0 : Hal} {l : List Wk} {o : List Int} (hl : h0.length ≤ 1000000000000 ∧ l.length ≤ 1000000000000) (hh : ∀ x ∈ h0, x.v.length ≤ 1000000000000) (hw : okW l) (ho : o.length ≤ 1000000000000)
    (h : ∀ z : Bool, k (.tup [.vs true z (RestF h0 l place o).1.length 1 (fun k => enc1 ((RestF h0 l place o).1.getD k default)), .int .i64 (RestF h0 l place o).2.1, .int .i64 (RestF h0 l place o).2.2]) []) :
    run TS0 (answers RestC.alias k) v19.res 300 [.code v19.body] { fr := padL v19.ntmps [.agg [.vs false z h0.length 1 (fun k => encR (h0.getD k default))], .vs false z' l.length 4 (fun k => encK (l.getD k default)), .int .i64 place, .vs false z'' o.length 1 (fun k => enc1 (o.getD k default))], saved := [], hp := [] } := by
  dsimp only [v19, TS0_ct14, chkC, encK, go_sem, Option.bind, Option.map, List.append_nil, Nat.beq, List.cons_append, List.nil_append, List.append_eq, List.map_cons, List.map_nil, ite_self, reduceIte]
  simp only [true_and, and_true, imp_self, implies_true, decide_eq_true_eq, decide_eq_false_iff_not, Nat.reduceAdd, Nat.reduceLeDiff, Bool.not_not, reduceCtorEq, false_imp_iff, Bool.not_eq_true', Bool.not_eq_false', Bool.false_eq_true, and_self, forall_const, ne_eq, not_false_eq_true, Nat.reduceEqDiff]
  unfold RestF at h
  refine ⟨h0, l, ⟨⟨rfl, rfl, fun k _ => leXL_self _⟩, ⟨rfl, rfl, fun k _ => leXL_self _⟩, hl, hh, hw⟩, fun hc => ?_, fun hc => ?_⟩
  · rw [if_pos hc] at h
    exact ans_le (h true) (by simp [expo, view, viewL, leL, le]) (fun _ => by simp [freshS, freshL])
  rw [if_neg (by omega)] at h
  obtain ⟨c1, c2, c3, c4, c5⟩ := chk_facts hc
  have haft := aft_of_good c3
  have hsm := aft_small haft c2
  refine ⟨fun hp => ?_, fun hp => ?_⟩
  · rw [Bool.or_eq_true, decide_eq_true_eq, decide_eq_true_eq] at hp
    rw [show befF h0 l place o = none from if_pos hp] at h
    exact ans_le (h true) (by simp [expo, view, viewL, leL, le]) (fun _ => by simp [freshS, freshL])
  rw [Bool.or_eq_false_iff, decide_eq_false_iff_not, decide_eq_false_iff_not] at hp
  have hbf : befF h0 l place o = dGo l o := if_neg (by omega)
  rw [hbf] at h
  refine Loop.keep [1, 0, 0, 0] (Nat × Nat) (fun p => [(12, .int .i64 p.2), (13, .int .i64 p.1)]) (fun _ => []) [] (fun p => p.1 ≤ o.length ∧ dGo l (o.take p.1) = some p.2 ∧ p.2 < 2 ^ l.length) (fun p => o.length - p.1) ?_ ?_
  · refine ⟨(0, 0), ⟨Nat.zero_le _, rfl, Nat.pow_pos (by omega)⟩, ?_⟩
    dsimp only [go_sem, Option.bind, Option.map, List.append_nil, Nat.beq, List.cons_append, List.nil_append, List.append_eq, List.map_cons, List.map_nil, ite_self, reduceIte]
    simp only [leS_mk, leL_cons, leL_nil, le_junk, le_int, le_bool, le_nil, leLL_nil, leLL_cons, leH_cons, leH_nil, leH1_box, leH1_own, leH1_gone, le_vs, le_agg, le_tup, le_ptr, le_own, le_xp, le_fn, le_opt, le_val, le_elem, le_nil_own, le_nil_vs, leH_ghost, leL_chunk, leXL_id, bnd_int, bnd_bool, bnd_val, bnd_nil, bnd_junk, bnd_vs, bnd_xp, bnd_agg, bnd_tup, bnd_ptr, bnd_own, bnd_elem, bnd_fn, bnd_iface, bnd_opt, bnd_row, bnd_rcell, bnd_imap, bnd_smp, le_row, le_rcell, le_imap, le_smp, leH1_smap, bndL_nil, bndL_cons, lenH_cons, lenH_nil, imp_self, implies_true, true_and, and_true]
    simp
  · rintro ⟨i, s⟩ ⟨hi, hgo, hs⟩
    simp only at hi hgo hs
    have hs12 : s < 2 ^ 12 := Nat.lt_of_lt_of_le hs (Nat.pow_le_pow_right (by omega) c2)
    have hs62 : s < 2 ^ 62 := Nat.lt_of_lt_of_le hs12 (by decide)
    dsimp only [encK, enc1, go_sem, Option.bind, Option.map, List.append_nil, Nat.beq, List.cons_append, List.nil_append, List.append_eq, List.map_cons, List.map_nil, ite_self, reduceIte]
    simp only [true_and, and_true, imp_self, implies_true, decide_eq_true_eq, decide_eq_false_iff_not, Nat.reduceAdd, Nat.reduceLeDiff, Bool.not_not, reduceCtorEq, false_imp_iff, Bool.not_eq_true', Bool.not_eq_false', Bool.false_eq_true, and_self, forall_const, ne_eq, not_false_eq_true, Nat.reduceEqDiff, Int.toNat_natCast]
    refine ⟨fun hlt => ?_, fun hge => ?_⟩
    · have hi' : i < o.length := by omega
      obtain ⟨a, ha⟩ : ∃ a, a = o.getD i default := ⟨_, rfl⟩
      simp only [← ha]
      have hu : 0 ≤ a → a < (l.length : Int) → 0 ≤ IntKind.u64.wrap a := fun h0 h1 => by rw [IntWalk.u64_in _ (by omega)]; omega
      have hin : (decide (a < 0) || decide ((l.length : Int) ≤ a)) = false → 0 ≤ a ∧ a < (l.length : Int) := fun hc => by
        simp only [Bool.or_eq_false_iff, decide_eq_false_iff_not] at hc; omega
      refine ⟨⟨by omega, hlt⟩, fun _ => ⟨by omega, hlt⟩, fun _ => ⟨by omega, hlt⟩, fun hb => hu (hin hb).1 (hin hb).2, fun hb => ?_, fun hb => ?_⟩
      · have hno : dGo l o = none := by
          refine dGo_at hi' hgo ?_
          rw [← ha]
          by_cases h1 : a < 0
          · exact .inl h1
          · by_cases h2 : (l.length : Int) ≤ a
            · exact .inr (.inl h2)
            · rw [decide_eq_false h1, decide_eq_false h2, bit_and hs62 (by omega) (by omega)] at hb
              refine .inr (.inr ?_)
              cases hb2 : s.testBit a.toNat with
              | true => rfl
              | false => rw [hb2] at hb; simp at hb
        rw [hno] at h
        exact ans_le (h true) (by simp [expo, view, viewL, leL, le]) (fun _ => by simp [freshS, freshL])
      · rw [Bool.or_eq_false_iff] at hb
        obtain ⟨a0, a1⟩ := hin hb.1
        have hbit : s.testBit a.toNat = false := by
          have := hb.2
          rw [bit_and hs62 a0 (by omega)] at this
          cases hb2 : s.testBit a.toNat with
          | false => rfl
          | true => rw [hb2] at this; simp at this
        refine ⟨⟨by omega, hlt⟩, hu a0 a1, (i + 1, s ||| 2 ^ a.toNat), ⟨by omega, ?_, or_lt hs a0 a1⟩, by simp only; omega, ?_⟩
        · rw [ha]
          exact dGo_yes hi' hgo (ha ▸ a0) (ha ▸ a1) (by rw [← ha]; exact hbit)
        · rw [i64_or' hs12 a0 (by omega)]
          simp only [leS_mk, leL_cons, leL_nil, le_junk, le_int, le_bool, le_nil, leLL_nil, leLL_cons, leH_cons, leH_nil, leH1_box, leH1_own, leH1_gone, le_vs, le_agg, le_tup, le_ptr, le_own, le_xp, le_fn, le_opt, le_val, le_elem, le_nil_own, le_nil_vs, leH_ghost, leL_chunk, leXL_id, bnd_int, bnd_bool, bnd_val, bnd_nil, bnd_junk, bnd_vs, bnd_xp, bnd_agg, bnd_tup, bnd_ptr, bnd_own, bnd_elem, bnd_fn, bnd_iface, bnd_opt, bnd_row, bnd_rcell, bnd_imap, bnd_smp, le_row, le_rcell, le_imap, le_smp, leH1_smap, bndL_nil, bndL_cons, lenH_cons, lenH_nil, imp_self, implies_true, true_and, and_true]
          exact ⟨by omega, w_succ hi' (by omega)⟩
    · obtain rfl : i = o.length := by omega
      rw [List.take_length] at hgo
      rw [hgo] at h
      have hor := dGo_rng hgo
      refine Loop.keep [1, 0, 0, 0, 7] Nat (fun i => [(14, .int .i64 i)]) (fun _ => []) [] (fun i => i ≤ o.length ∧ ∀ j, j < i → s &&& maskF (l.getD (o.getD j default).toNat default).af.v = maskF (l.getD (o.getD j default).toNat default).af.v) (fun i => o.length - i) ?_ ?_
      · refine ⟨0, ⟨Nat.zero_le _, fun j hj => by omega⟩, ?_⟩
        dsimp only [go_sem, Option.bind, Option.map, List.append_nil, Nat.beq, List.cons_append, List.nil_append, List.append_eq, List.map_cons, List.map_nil, ite_self, reduceIte]
        simp only [leS_mk, leL_cons, leL_nil, le_junk, le_int, le_bool, le_nil, leLL_nil, leLL_cons, leH_cons, leH_nil, leH1_box, leH1_own, leH1_gone, le_vs, le_agg, le_tup, le_ptr, le_own, le_xp, le_fn, le_opt, le_val, le_elem, le_nil_own, le_nil_vs, leH_ghost, leL_chunk, leXL_id, bnd_int, bnd_bool, bnd_val, bnd_nil, bnd_junk, bnd_vs, bnd_xp, bnd_agg, bnd_tup, bnd_ptr, bnd_own, bnd_elem, bnd_fn, bnd_iface, bnd_opt, bnd_row, bnd_rcell, bnd_imap, bnd_smp, le_row, le_rcell, le_imap, le_smp, leH1_smap, bndL_nil, bndL_cons, lenH_cons, lenH_nil, imp_self, implies_true, true_and, and_true]
        simp
      · rintro i ⟨hi, hia⟩
        dsimp only [TS0_ct34, besC, encK, enc1, go_sem, Option.bind, Option.map, List.append_nil, Nat.beq, List.cons_append, List.nil_append, List.append_eq, List.map_cons, List.map_nil, ite_self, reduceIte]
        simp only [true_and, and_true, imp_self, implies_true, decide_eq_true_eq, decide_eq_false_iff_not, Nat.reduceAdd, Nat.reduceLeDiff, Bool.not_not, reduceCtorEq, false_imp_iff, Bool.not_eq_true', Bool.not_eq_false', Bool.false_eq_true, and_self, forall_const, ne_eq, not_false_eq_true, Nat.reduceEqDiff, Int.toNat_natCast]
        refine ⟨fun hlt => ?_, fun hge2 => ?_⟩
        · have hi' : i < o.length := by omega
          obtain ⟨a0, a1⟩ := hor i hi'
          have hm := getD_mem (by omega : (o.getD i default).toNat < l.length)
          obtain ⟨A, hA⟩ : ∃ A, A = (l.getD (o.getD i default).toNat default).af.v := ⟨_, rfl⟩
          have hAl : A.length ≤ 1000000000000 := by rw [hA]; exact (hw _ hm).1
          have hAr : ∀ x ∈ A, 0 ≤ x ∧ x < (l.length : Int) := by rw [hA]; exact haft _ hm
          have hAs : smallL A := by rw [hA]; exact hsm _ hm
          simp only [← hA]
          refine ⟨⟨by omega, hlt⟩, ⟨a0, a1⟩, rfl, ?_⟩
          refine Loop.keep [1, 0, 0, 0, 7, 1, 0] Nat (fun q => [(16, .int .i64 q)]) (fun _ => []) [] (fun q => q ≤ A.length ∧ ∀ j, j < q → s.testBit (A.getD j default).toNat = true) (fun q => A.length - q) ?_ ?_
          · refine ⟨0, ⟨Nat.zero_le _, fun j hj => by omega⟩, ?_⟩
            dsimp only [go_sem, Option.bind, Option.map, List.append_nil, Nat.beq, List.cons_append, List.nil_append, List.append_eq, List.map_cons, List.map_nil, ite_self, reduceIte]
            simp only [leS_mk, leL_cons, leL_nil, le_junk, le_int, le_bool, le_nil, leLL_nil, leLL_cons, leH_cons, leH_nil, leH1_box, leH1_own, leH1_gone, le_vs, le_agg, le_tup, le_ptr, le_own, le_xp, le_fn, le_opt, le_val, le_elem, le_nil_own, le_nil_vs, leH_ghost, leL_chunk, leXL_id, bnd_int, bnd_bool, bnd_val, bnd_nil, bnd_junk, bnd_vs, bnd_xp, bnd_agg, bnd_tup, bnd_ptr, bnd_own, bnd_elem, bnd_fn, bnd_iface, bnd_opt, bnd_row, bnd_rcell, bnd_imap, bnd_smp, le_row, le_rcell, le_imap, le_smp, leH1_smap, bndL_nil, bndL_cons, lenH_cons, lenH_nil, imp_self, implies_true, true_and, and_true]
            exact ⟨by omega, by omega, rfl⟩
          · rintro q ⟨hq, hqa⟩
            dsimp only [encK, enc1, go_sem, Option.bind, Option.map, List.append_nil, Nat.beq, List.cons_append, List.nil_append, List.append_eq, List.map_cons, List.map_nil, ite_self, reduceIte]
            simp only [true_and, and_true, imp_self, implies_true, decide_eq_true_eq, decide_eq_false_iff_not, Nat.reduceAdd, Nat.reduceLeDiff, Bool.not_not, reduceCtorEq, false_imp_iff, Bool.not_eq_true', Bool.not_eq_false', Bool.false_eq_true, and_self, forall_const, ne_eq, not_false_eq_true, Nat.reduceEqDiff, Int.toNat_natCast]
            refine ⟨fun hltq => ?_, fun hgeq => ?_⟩
            · have hq' : q < A.length := by omega
              obtain ⟨b0, b1⟩ := hAr _ (getD_mem hq')
              have hbt := bit_and hs62 b0 (by omega)
              simp only [hbt]
              refine ⟨⟨by omega, hltq⟩, by rw [IntWalk.u64_in _ (by omega)]; omega, fun hb2 => ?_, fun hb2 => ?_⟩
              · have hno : needB l s o = false := by
                  unfold needB
                  rw [List.all_eq_false]
                  refine ⟨_, getD_mem hi', fun hb3 => ?_⟩
                  have hb3 := of_decide_eq_true hb3
                  have := (need_iff (hsm _ hm)).1 hb3 _ (by rw [← hA]; exact getD_mem hq')
                  rw [this] at hb2
                  simp at hb2
                simp only [hno] at h
                exact ans_le (h true) (by simp [expo, view, viewL, leL, le]) (fun _ => by simp [freshS, freshL])
              · refine ⟨q + 1, ⟨by omega, lt_succ_all hqa ?_⟩, by omega, ?_⟩
                · cases hb3 : s.testBit (A.getD q default).toNat with
                  | true => rfl
                  | false => rw [hb3] at hb2; exact absurd rfl hb2
                · simp only [leS_mk, leL_cons, leL_nil, le_junk, le_int, le_bool, le_nil, leLL_nil, leLL_cons, leH_cons, leH_nil, leH1_box, leH1_own, leH1_gone, le_vs, le_agg, le_tup, le_ptr, le_own, le_xp, le_fn, le_opt, le_val, le_elem, le_nil_own, le_nil_vs, leH_ghost, leL_chunk, leXL_id, bnd_int, bnd_bool, bnd_val, bnd_nil, bnd_junk, bnd_vs, bnd_xp, bnd_agg, bnd_tup, bnd_ptr, bnd_own, bnd_elem, bnd_fn, bnd_iface, bnd_opt, bnd_row, bnd_rcell, bnd_imap, bnd_smp, le_row, le_rcell, le_imap, le_smp, leH1_smap, bndL_nil, bndL_cons, lenH_cons, lenH_nil, imp_self, implies_true, true_and, and_true]
                  exact ⟨by omega, by omega, w_succ hq' (by omega)⟩
            · obtain rfl : q = A.length := by omega
              refine ⟨i + 1, ⟨by omega, lt_succ_all hia ?_⟩, by omega, ?_⟩
              · refine (need_iff (hsm _ hm)).2 fun x hx => ?_
                rw [← hA] at hx
                obtain ⟨j, hj, rfl⟩ := mem_getD hx
                exact hqa j hj
              · simp only [leS_mk, leL_cons, leL_nil, le_junk, le_int, le_bool, le_nil, leLL_nil, leLL_cons, leH_cons, leH_nil, leH1_box, leH1_own, leH1_gone, le_vs, le_agg, le_tup, le_ptr, le_own, le_xp, le_fn, le_opt, le_val, le_elem, le_nil_own, le_nil_vs, leH_ghost, leL_chunk, leXL_id, bnd_int, bnd_bool, bnd_val, bnd_nil, bnd_junk, bnd_vs, bnd_xp, bnd_agg, bnd_tup, bnd_ptr, bnd_own, bnd_elem, bnd_fn, bnd_iface, bnd_opt, bnd_row, bnd_rcell, bnd_imap, bnd_smp, le_row, le_rcell, le_imap, le_smp, leH1_smap, bndL_nil, bndL_cons, lenH_cons, lenH_nil, imp_self, implies_true, true_and, and_true]
                exact ⟨by omega, w_succ hi' (by omega)⟩
        · obtain rfl : i = o.length := by omega
          have hneed : needB l s o = true := by
            unfold needB
            rw [List.all_eq_true]
            intro x hx
            obtain ⟨j, hj, rfl⟩ := mem_getD hx
            exact decide_eq_true (hia j hj)
          simp only [hneed, if_true] at h
          refine ⟨h0, l, s, ⟨⟨rfl, rfl, fun k _ => encR_view⟩, ⟨rfl, rfl, fun k _ => leXL_self _⟩, rfl, ⟨hs, by omega, by omega⟩, c3, c1, c2, hw⟩, fun z3 => ⟨by decide, by decide, ?_⟩⟩
          refine ans_le (h z3) ?_ (fun _ => by simp [freshS, freshL, enc1])
          dsimp only [expo, enc1, go_sem, Option.bind, Option.map, List.append_nil, Nat.beq, List.cons_append, List.nil_append, List.append_eq, List.map_cons, List.map_nil, ite_self, reduceIte]
          simp only [leS_mk, leL_cons, leL_nil, le_junk, le_int, le_bool, le_nil, leLL_nil, leLL_cons, leH_cons, leH_nil, leH1_box, leH1_own, leH1_gone, le_vs, le_agg, le_tup, le_ptr, le_own, le_xp, le_fn, le_opt, le_val, le_elem, le_nil_own, le_nil_vs, leH_ghost, leL_chunk, leXL_id, bnd_int, bnd_bool, bnd_val, bnd_nil, bnd_junk, bnd_vs, bnd_xp, bnd_agg, bnd_tup, bnd_ptr, bnd_own, bnd_elem, bnd_fn, bnd_iface, bnd_opt, bnd_row, bnd_rcell, bnd_imap, bnd_smp, le_row, le_rcell, le_imap, le_smp, leH1_smap, bndL_nil, bndL_cons, lenH_cons, lenH_nil, imp_self, implies_true, true_and, and_true]
theorem rRest_ok : RestC.ok Try.prog 19 := by
  refine contract Try.func19 v19_is TS0_ok 300 RestC fun args k h => ?_
  simp only [RestC] at h
  split at h
  · rename_i t z n sz get t' z' n' sz' get' place t'' z'' n'' sz'' get''
    obtain ⟨h0, l, o, ⟨⟨rfl, rfl, hg⟩, ⟨rfl, rfl, hg'⟩, ⟨rfl, rfl, hg''⟩, ⟨hl, hh, hw⟩, ho⟩, h⟩ := h
    exact ⟨[.agg [.vs false z h0.length 1 (fun k => encR (h0.getD k default))], .vs false z' l.length 4 (fun k => encK (l.getD k default)), .int .i64 place, .vs false z'' o.length 1 (fun k => enc1 (o.getD k default))], ⟨⟨⟨fun h => (by cases h), rfl, rfl, rfl, hg⟩, trivial⟩, ⟨fun h => (by cases h), rfl, rfl, rfl, hg'⟩, ⟨rfl, rfl⟩, ⟨fun h => (by cases h), rfl, rfl, rfl, hg''⟩, trivial⟩, rRest_run (z := z) (z' := z') (z'' := z'') hl hh hw ho h⟩
  · rename_i t z n sz get t' z' n' sz' get' place
    obtain ⟨h0, l, ⟨⟨rfl, rfl, hg⟩, ⟨rfl, rfl, hg'⟩, ⟨hl, hh, hw⟩⟩, h⟩ := h
    exact ⟨[.agg [.vs false z h0.length 1 (fun k => encR (h0.getD k default))], .vs false z' l.length 4 (fun k => encK (l.getD k default)), .int .i64 place, .vs false true ([] : List Int).length 1 (fun k => enc1 (([] : List Int).getD k default))], ⟨⟨⟨fun h => (by cases h), rfl, rfl, rfl, hg⟩, trivial⟩, ⟨fun h => (by cases h), rfl, rfl, rfl, hg'⟩, ⟨rfl, rfl⟩, ⟨rfl, rfl⟩, trivial⟩, rRest_run (z := z) (z' := z') (z'' := true) (o := []) hl hh hw (by simp) h⟩
  · exact h.1.elim
def TT0 : Env := { ct := fun n => match n with | 19 => some RestC | _ => none, fn := fun _ => none, meth := fun _ _ => none }
theorem TT0_ct19 : TT0.ct 19 = some RestC := rfl
theorem TT0_ok : EnvOk Try.prog TT0 := by
  refine ⟨fun f c h => ?_, fun f vf h => ?_, (fun _ _ _ h => by cases h), by kernel_rfl⟩
  · simp only [TT0] at h
    split at h
    · cases h; exact ⟨rRest_ok, Try.f19, Try.func19, by kernel_rfl, by kernel_rfl⟩
    · cases h
  · cases h

theorem rPlan_ok : PlanC.ok Try.prog 17 := by
  refine contract Try.func17 v17_is TT0_ok 300 PlanC fun args k h => ?_
  simp only [PlanC] at h
  split at h
  · rename_i t z n sz get t' z' n' sz' get' place
    obtain ⟨h0, l, ⟨⟨rfl, rfl, hg⟩, ⟨rfl, rfl, hg'⟩, ⟨hl, hh, hw⟩⟩, h⟩ := h
    have h : ∀ z : Bool, k (.tup [.vs true z (RestF h0 l place []).1.length 1 (fun k => enc1 ((RestF h0 l place []).1.getD k default)), .int .i64 (RestF h0 l place []).2.1, .int .i64 (RestF h0 l place []).2.2]) [] := h
    refine ⟨[.agg [.vs false z h0.length 1 (fun k => encR (h0.getD k default))], .vs false z' l.length 4 (fun k => encK (l.getD k default)), .int .i64 place], ⟨⟨⟨fun h => (by cases h), rfl, rfl, rfl, hg⟩, trivial⟩, ⟨fun h => (by cases h), rfl, rfl, rfl, hg'⟩, ⟨rfl, rfl⟩, trivial⟩, ?_⟩
    dsimp only [v17, TT0_ct19, RestC, encK, go_sem, Option.bind, Option.map, List.append_nil, Nat.beq, List.cons_append, List.nil_append, List.append_eq, List.map_cons, List.map_nil, ite_self, reduceIte]
    simp only [true_and, and_true, imp_self, implies_true, decide_eq_true_eq, decide_eq_false_iff_not, Nat.reduceAdd, Nat.reduceLeDiff, Bool.not_not, reduceCtorEq, false_imp_iff, Bool.not_eq_true', Bool.not_eq_false', Bool.false_eq_true, and_self, forall_const, ne_eq, not_false_eq_true, Nat.reduceEqDiff]
    refine ⟨h0, l, ⟨⟨rfl, rfl, fun k _ => leXL_self _⟩, ⟨rfl, rfl, fun k _ => leXL_self _⟩, hl, hh, hw⟩, fun z => ?_⟩
    refine ⟨by decide, by decide, by decide, ?_⟩
    refine ans_le (h z) ?_ (fun _ => by simp [freshS, freshL, enc1])
    dsimp only [expo, enc1, go_sem, Option.bind, Option.map, List.append_nil, Nat.beq, List.cons_append, List.nil_append, List.append_eq, List.map_cons, List.map_nil, ite_self, reduceIte]
    simp only [leS_mk, leL_cons, leL_nil, le_junk, le_int, le_bool, le_nil, leLL_nil, leLL_cons, leH_cons, leH_nil, leH1_box, leH1_own, leH1_gone, le_vs, le_agg, le_tup, le_ptr, le_own, le_xp, le_fn, le_opt, le_val, le_elem, le_nil_own, le_nil_vs, leH_ghost, leL_chunk, leXL_id, bnd_int, bnd_bool, bnd_val, bnd_nil, bnd_junk, bnd_vs, bnd_xp, bnd_agg, bnd_tup, bnd_ptr, bnd_own, bnd_elem, bnd_fn, bnd_iface, bnd_opt, bnd_row, bnd_rcell, bnd_imap, bnd_smp, le_row, le_rcell, le_imap, le_smp, leH1_smap, bndL_nil, bndL_cons, lenH_cons, lenH_nil, imp_self, implies_true, true_and, and_true]
  · exact h.1.elim
end Go.Proofs.Yteioilioobichaa

/- Tuning, walked: the laws' helpers. -/
/- Tuning, walked: the laws' helpers. -/
set_option linter.all false
namespace Go.Proofs.Yteioilioobichaa
open Go Go.Vx
set_option maxRecDepth 100000
set_option maxHeartbeats 4000000

def v20 : VF := { ntmps := 32, res := [.tmp 4], body :=
 (.seq (.region [u1 4 .mov [.cn (.bool false)]])
 (.seq (.seq (.region [u1 5 .mov [.cn (.int .i64 0)]])
 (.block 0 (.loop (.seq (.seq (.region [u1 6 .mov [.tm 5],
 u1 7 .mov [.tm 0],
 u1 8 .len [.tm 7],
 u1 9 (.cmp .lss) [.tm 6, .tm 8],
 u1 10 .mov [.tm 9],
 u2 11 10 true .mov [.tm 5],
 u2 12 10 true .mov [.tm 1],
 u2 13 10 true .len [.tm 12],
 u2 14 10 true (.cmp .lss) [.tm 11, .tm 13],
 u1 15 .and [.tm 10, .tm 14]])
 (.cond (.tm 15) .skip
  (.exit 0)))
 (.seq (.block 1 (.seq (.draw [] [w1 18 .mov [.tm 0],
 w1 19 .mov [.tm 5],
 w1 20 (.idxAddr 1) [.tm 18, .tm 19],
 w1 21 (.load false 1) [.tm 20],
 w1 22 .mov [.tm 1],
 w1 23 .mov [.tm 5],
 w1 24 (.idxAddr 1) [.tm 22, .tm 23],
 w1 25 (.load false 1) [.tm 24],
 w1 26 (.cmp .neq) [.tm 21, .tm 25]])
 (.cond (.tm 26) (.seq (.region [u1 4 .mov [.cn (.bool false)]])
 .ret)
  .skip)))
 (.region [u1 16 .mov [.tm 5],
 u1 17 (.ari .add) [.tm 16, .cn (.int .i64 1)],
 u1 5 .mov [.tm 17]]))))))
 (.seq (.region [u1 27 .mov [.tm 0],
 u1 28 .len [.tm 27],
 u1 29 .mov [.tm 1],
 u1 30 .len [.tm 29],
 u1 31 (.cmp .eql) [.tm 28, .tm 30],
 u1 4 .mov [.tm 31]])
 .ret))) }
theorem v20_is : vfunc Try.prog Try.f20 = some v20 := by kernel_rfl
def v15 : VF := { ntmps := 32, res := [.tmp 4], body :=
 (.seq (.region [u1 4 .mov [.cn (.bool false)]])
 (.seq (.seq (.region [u1 5 .mov [.cn (.int .i64 0)]])
 (.block 0 (.loop (.seq (.seq (.region [u1 6 .mov [.tm 5],
 u1 7 .mov [.tm 0],
 u1 8 .len [.tm 7],
 u1 9 (.cmp .lss) [.tm 6, .tm 8],
 u1 10 .mov [.tm 9],
 u2 11 10 true .mov [.tm 5],
 u2 12 10 true .mov [.tm 1],
 u2 13 10 true .len [.tm 12],
 u2 14 10 true (.cmp .lss) [.tm 11, .tm 13],
 u1 15 .and [.tm 10, .tm 14]])
 (.cond (.tm 15) .skip
  (.exit 0)))
 (.seq (.block 1 (.seq (.draw [] [w1 18 .mov [.tm 0],
 w1 19 .mov [.tm 5],
 w1 20 (.idxAddr 2) [.tm 18, .tm 19],
 w1 21 (.load true 2) [.tm 20],
 w1 22 .mov [.tm 1],
 w1 23 .mov [.tm 5],
 w1 24 (.idxAddr 2) [.tm 22, .tm 23],
 w1 25 (.load true 2) [.tm 24],
 w1 26 (.eqv true [true, true]) [.tm 21, .tm 25]])
 (.cond (.tm 26) (.seq (.region [u1 4 .mov [.cn (.bool false)]])
 .ret)
  .skip)))
 (.region [u1 16 .mov [.tm 5],
 u1 17 (.ari .add) [.tm 16, .cn (.int .i64 1)],
 u1 5 .mov [.tm 17]]))))))
 (.seq (.region [u1 27 .mov [.tm 0],
 u1 28 .len [.tm 27],
 u1 29 .mov [.tm 1],
 u1 30 .len [.tm 29],
 u1 31 (.cmp .eql) [.tm 28, .tm 30],
 u1 4 .mov [.tm 31]])
 .ret))) }
theorem v15_is : vfunc Try.prog Try.f15 = some v15 := by kernel_rfl
def v7 : VF := { ntmps := 52, res := [.tmp 4], body :=
 (.seq (.region [u1 2 .box [.tm 0],
 u1 4 .mov [.cn (.bool false)]])
 (.seq (.seq (.region [u1 7 (.fieldAddr 0) [.tm 2],
 u1 8 (.load false 1) [.tm 7],
 u1 9 .len [.tm 8],
 u1 10 (.cmp .gtr) [.tm 9, .cn (.int .i64 100)],
 u1 11 .mov [.tm 10],
 u2 12 11 false .mov [.tm 1],
 u2 13 11 false .len [.tm 12],
 u2 14 11 false (.cmp .gtr) [.tm 13, .cn (.int .i64 100)],
 u1 15 .or [.tm 11, .tm 14]])
 (.cond (.tm 15) (.seq (.region [u1 4 .mov [.cn (.bool true)]])
 .ret)
  .skip))
 (.seq (.seq (.region [u1 5 .mov [.cn (.int .i64 0)]])
 (.block 0 (.loop (.seq (.seq (.region [u1 16 .mov [.tm 5],
 u1 17 (.fieldAddr 0) [.tm 2],
 u1 18 (.load false 1) [.tm 17],
 u1 19 .len [.tm 18],
 u1 20 (.cmp .lss) [.tm 16, .tm 19]])
 (.cond (.tm 20) .skip
  (.exit 0)))
 (.seq (.block 1 (.seq (.region [u1 23 (.fieldAddr 0) [.tm 2],
 u1 24 (.load false 1) [.tm 23],
 u1 25 .mov [.tm 5],
 u1 26 (.idxAddr 1) [.tm 24, .tm 25],
 u1 27 (.load false 1) [.tm 26],
 u1 28 .len [.tm 27],
 u1 29 (.cmp .gtr) [.tm 28, .cn (.int .i64 100)]])
 (.cond (.tm 29) (.seq (.region [u1 4 .mov [.cn (.bool true)]])
 .ret)
  .skip)))
 (.region [u1 21 .mov [.tm 5],
 u1 22 (.ari .add) [.tm 21, .cn (.int .i64 1)],
 u1 5 .mov [.tm 22]]))))))
 (.seq (.seq (.region [u1 6 .mov [.cn (.int .i64 0)]])
 (.block 2 (.loop (.seq (.seq (.region [u1 30 .mov [.tm 6],
 u1 31 .mov [.tm 1],
 u1 32 .len [.tm 31],
 u1 33 (.cmp .lss) [.tm 30, .tm 32]])
 (.cond (.tm 33) .skip
  (.exit 2)))
 (.seq (.block 3 (.seq (.region [u1 36 .mov [.tm 1],
 u1 37 .mov [.tm 6],
 u1 38 (.idxAddr 4) [.tm 36, .tm 37],
 u1 39 (.fieldAddr 2) [.tm 38],
 u1 40 (.load false 1) [.tm 39],
 u1 41 .len [.tm 40],
 u1 42 (.cmp .gtr) [.tm 41, .cn (.int .i64 100)],
 u1 43 .mov [.tm 42],
 u2 44 43 false .mov [.tm 1],
 u2 45 43 false .mov [.tm 6],
 u2 46 43 false (.idxAddr 4) [.tm 44, .tm 45],
 u2 47 43 false (.fieldAddr 0) [.tm 46],
 u2 48 43 false (.load false 1) [.tm 47],
 u2 49 43 false .lenStr [.tm 48],
 u2 50 43 false (.cmp .gtr) [.tm 49, .cn (.int .i64 1000)],
 u1 51 .or [.tm 43, .tm 50]])
 (.cond (.tm 51) (.seq (.region [u1 4 .mov [.cn (.bool true)]])
 .ret)
  .skip)))
 (.region [u1 34 .mov [.tm 6],
 u1 35 (.ari .add) [.tm 34, .cn (.int .i64 1)],
 u1 6 .mov [.tm 35]]))))))
 (.seq (.region [u1 4 .mov [.cn (.bool false)]])
 .ret))))) }
theorem v7_is : vfunc Try.prog Try.f7 = some v7 := by kernel_rfl
def v22 : VF := { ntmps := 12, res := [.cell 0 true 1, .tmp 1], body :=
 (.seq (.region [u1 0 (.alloc [.nil]) [],
 u1 1 .mov [.cn .nil]])
 (.seq (.region [u1 2 (.buildSlice 1 3 [(.int .i64 0)] [(0, 1), (1, 1), (2, 1)]) [.cn (.int .i64 0), .cn (.int .i64 2), .cn (.int .i64 5)],
 u1 3 (.buildSlice 1 3 [(.int .i64 0)] [(0, 1), (1, 1), (2, 1)]) [.cn (.int .i64 2), .cn (.int .i64 0), .cn (.int .i64 1)],
 u1 4 (.buildSlice 1 3 [(.int .i64 0)] [(0, 1), (1, 1), (2, 1)]) [.cn (.int .i64 5), .cn (.int .i64 1), .cn (.int .i64 0)],
 u1 5 (.buildSlice 1 3 [.nil] [(0, 1), (1, 1), (2, 1)]) [.tm 2, .tm 3, .tm 4],
 u1 6 (.build [.nil] [(0, 1)]) [.tm 5],
 u1 7 (.build [(.val (.string ⟨#[]⟩)), (.int .i64 0), .nil, (.int .i64 0)] [(0, 1), (1, 1), (3, 1)]) [.cn (.val (.string ⟨#[103, 114, 101, 97, 116]⟩)), .cn (.int .i64 0), .cn (.int .i64 30)],
 u1 8 (.buildSlice 1 1 [(.int .i64 0)] [(0, 1)]) [.cn (.int .i64 0)],
 u1 9 (.build [(.val (.string ⟨#[]⟩)), (.int .i64 0), .nil, (.int .i64 0)] [(0, 1), (1, 1), (2, 1), (3, 1)]) [.cn (.val (.string ⟨#[115, 119, 101, 108, 108]⟩)), .cn (.int .i64 2), .tm 8, .cn (.int .i64 20)],
 u1 10 (.build [(.val (.string ⟨#[]⟩)), (.int .i64 0), .nil, (.int .i64 0)] [(0, 1), (1, 1), (3, 1)]) [.cn (.val (.string ⟨#[114, 101, 101, 100, 115]⟩)), .cn (.int .i64 1), .cn (.int .i64 10)],
 u1 11 (.buildSlice 4 3 [(.val (.string ⟨#[]⟩)), (.int .i64 0), .nil, (.int .i64 0)] [(0, 4), (4, 4), (8, 4)]) [.tm 7, .tm 9, .tm 10],
 u0 (.store 1) [.tm 0, .tm 6],
 u1 1 .mov [.tm 11]])
 .ret)) }
theorem v22_is : vfunc Try.prog Try.f22 = some v22 := by kernel_rfl

def samC : Ctr := { alias := false, of := fun l => match l with
  | [.vs _ _ n sz get, .vs _ _ n' sz' get'] => .ex (List Int) fun a => .ex (List Int) fun b => .pre (lsP 1 enc1 n sz get a ∧ lsP 1 enc1 n' sz' get' b ∧ a.length ≤ 1000000000000) (.fin (.bool (decide (a = b))) [])
  | _ => noC }
def TM0 : Env := { ct := fun _ => none, fn := fun _ => none, meth := fun _ _ => none }
theorem TM0_ok : EnvOk Try.prog TM0 := by
  refine ⟨fun f c h => ?_, fun f vf h => ?_, (fun _ _ _ h => by cases h), by kernel_rfl⟩
  · cases h
  · cases h

theorem eq_fst {α : Type} [Inhabited α] {a b : List α} (h : ∀ j, j < a.length → j < b.length → a.getD j default = b.getD j default) : (a = b) ↔ (a.length : Int) = b.length := by
  constructor
  · rintro rfl; rfl
  · intro hl
    exact list_ext (by omega) fun i hi => h i hi (by omega)
theorem sam_ok : samC.ok Try.prog 20 := by
  refine contract Try.func20 v20_is TM0_ok 200 samC fun args k h => ?_
  simp only [samC] at h
  split at h
  · rename_i t z n sz get t' z' n' sz' get'
    obtain ⟨a, b, ⟨⟨rfl, rfl, hg⟩, ⟨rfl, rfl, hg'⟩, hl⟩, h⟩ := h
    have h : k _ [] := h
    refine ⟨[.vs false z a.length 1 (fun k => enc1 (a.getD k default)), .vs false z' b.length 1 (fun k => enc1 (b.getD k default))], ⟨⟨fun h => (by cases h), rfl, rfl, rfl, hg⟩, ⟨fun h => (by cases h), rfl, rfl, rfl, hg'⟩, trivial⟩, ?_⟩
    dsimp only [v20, go_sem, Option.bind, Option.map, List.append_nil, Nat.beq, List.cons_append, List.nil_append, List.append_eq, List.map_cons, List.map_nil, ite_self, reduceIte]
    simp only [true_and, and_true, imp_self, implies_true, decide_eq_true_eq, decide_eq_false_iff_not, Nat.reduceAdd, Nat.reduceLeDiff, Bool.not_not, reduceCtorEq, false_imp_iff, Bool.not_eq_true', Bool.not_eq_false', Bool.false_eq_true, and_self, forall_const, ne_eq, not_false_eq_true, Nat.reduceEqDiff]
    refine Loop.keep [0, 0] Nat (fun i => [(4, .bool false), (5, .int .i64 i)]) (fun _ => []) [] (fun i => i ≤ a.length ∧ i ≤ b.length ∧ ∀ j, j < i → a.getD j default = b.getD j default) (fun i => a.length - i) ?_ ?_
    · refine ⟨0, ⟨Nat.zero_le _, Nat.zero_le _, fun j hj => by omega⟩, ?_⟩
      dsimp only [go_sem, Option.bind, Option.map, List.append_nil, Nat.beq, List.cons_append, List.nil_append, List.append_eq, List.map_cons, List.map_nil, ite_self, reduceIte]
      simp only [leS_mk, leL_cons, leL_nil, le_junk, le_int, le_bool, le_nil, leLL_nil, leLL_cons, leH_cons, leH_nil, leH1_box, leH1_own, leH1_gone, le_vs, le_agg, le_tup, le_ptr, le_own, le_xp, le_fn, le_opt, le_val, le_elem, le_nil_own, le_nil_vs, leH_ghost, leL_chunk, leXL_id, bnd_int, bnd_bool, bnd_val, bnd_nil, bnd_junk, bnd_vs, bnd_xp, bnd_agg, bnd_tup, bnd_ptr, bnd_own, bnd_elem, bnd_fn, bnd_iface, bnd_opt, bnd_row, bnd_rcell, bnd_imap, bnd_smp, le_row, le_rcell, le_imap, le_smp, leH1_smap, bndL_nil, bndL_cons, lenH_cons, lenH_nil, imp_self, implies_true, true_and, and_true]
      simp
    · rintro i ⟨hi, hi2, hia⟩
      dsimp only [enc1, go_sem, Option.bind, Option.map, List.append_nil, Nat.beq, List.cons_append, List.nil_append, List.append_eq, List.map_cons, List.map_nil, ite_self, reduceIte]
      simp only [true_and, and_true, imp_self, implies_true, decide_eq_true_eq, decide_eq_false_iff_not, Nat.reduceAdd, Nat.reduceLeDiff, Bool.not_not, reduceCtorEq, false_imp_iff, Bool.not_eq_true', Bool.not_eq_false', Bool.false_eq_true, and_self, forall_const, ne_eq, not_false_eq_true, Nat.reduceEqDiff, Int.toNat_natCast]
      refine ⟨fun hc => ?_, fun hc => ?_⟩
      · rw [Bool.and_eq_true, decide_eq_true_eq, decide_eq_true_eq] at hc
        refine ⟨⟨by omega, hc.1⟩, ⟨by omega, hc.2⟩, fun hn => ?_, fun he => ?_⟩
        · rw [decide_eq_false (fun e => hn (by rw [e]))] at h
          exact ans_bool h
        · refine ⟨i + 1, ⟨by omega, by omega, lt_succ_all hia he⟩, by omega, ?_⟩
          simp only [leS_mk, leL_cons, leL_nil, le_junk, le_int, le_bool, le_nil, leLL_nil, leLL_cons, leH_cons, leH_nil, leH1_box, leH1_own, leH1_gone, le_vs, le_agg, le_tup, le_ptr, le_own, le_xp, le_fn, le_opt, le_val, le_elem, le_nil_own, le_nil_vs, leH_ghost, leL_chunk, leXL_id, bnd_int, bnd_bool, bnd_val, bnd_nil, bnd_junk, bnd_vs, bnd_xp, bnd_agg, bnd_tup, bnd_ptr, bnd_own, bnd_elem, bnd_fn, bnd_iface, bnd_opt, bnd_row, bnd_rcell, bnd_imap, bnd_smp, le_row, le_rcell, le_imap, le_smp, leH1_smap, bndL_nil, bndL_cons, lenH_cons, lenH_nil, imp_self, implies_true, true_and, and_true]
          exact w_succ (by omega : i < a.length) (by omega)
      · rw [Bool.and_eq_false_iff, decide_eq_false_iff_not, decide_eq_false_iff_not] at hc
        rw [decide_eq_decide.2 (eq_fst fun j hj hj2 => hia j (by omega))] at h
        exact ans_bool h
  · exact h.1.elim
def enc0 (x : Int) : List SV := [.int .i64 0, .int .i64 x]
def sivC : Ctr := { alias := false, of := fun l => match l with
  | [.vs _ _ n sz get, .vs _ _ n' sz' get'] => .ex (List Int) fun a => .ex (List Int) fun b => .pre (lsP 2 enc0 n sz get a ∧ lsP 2 enc0 n' sz' get' b ∧ a.length ≤ 1000000000000) (.fin (.bool (decide (a = b))) [])
  | _ => noC }
theorem siv_ok : sivC.ok Try.prog 15 := by
  refine contract Try.func15 v15_is TM0_ok 200 sivC fun args k h => ?_
  simp only [sivC] at h
  split at h
  · rename_i t z n sz get t' z' n' sz' get'
    obtain ⟨a, b, ⟨⟨rfl, rfl, hg⟩, ⟨rfl, rfl, hg'⟩, hl⟩, h⟩ := h
    have h : k _ [] := h
    refine ⟨[.vs false z a.length 2 (fun k => enc0 (a.getD k default)), .vs false z' b.length 2 (fun k => enc0 (b.getD k default))], ⟨⟨fun h => (by cases h), rfl, rfl, rfl, hg⟩, ⟨fun h => (by cases h), rfl, rfl, rfl, hg'⟩, trivial⟩, ?_⟩
    dsimp only [v15, go_sem, Option.bind, Option.map, List.append_nil, Nat.beq, List.cons_append, List.nil_append, List.append_eq, List.map_cons, List.map_nil, ite_self, reduceIte]
    simp only [true_and, and_true, imp_self, implies_true, decide_eq_true_eq, decide_eq_false_iff_not, Nat.reduceAdd, Nat.reduceLeDiff, Bool.not_not, reduceCtorEq, false_imp_iff, Bool.not_eq_true', Bool.not_eq_false', Bool.false_eq_true, and_self, forall_const, ne_eq, not_false_eq_true, Nat.reduceEqDiff]
    refine Loop.keep [0, 0] Nat (fun i => [(4, .bool false), (5, .int .i64 i)]) (fun _ => []) [] (fun i => i ≤ a.length ∧ i ≤ b.length ∧ ∀ j, j < i → a.getD j default = b.getD j default) (fun i => a.length - i) ?_ ?_
    · refine ⟨0, ⟨Nat.zero_le _, Nat.zero_le _, fun j hj => by omega⟩, ?_⟩
      dsimp only [go_sem, Option.bind, Option.map, List.append_nil, Nat.beq, List.cons_append, List.nil_append, List.append_eq, List.map_cons, List.map_nil, ite_self, reduceIte]
      simp only [leS_mk, leL_cons, leL_nil, le_junk, le_int, le_bool, le_nil, leLL_nil, leLL_cons, leH_cons, leH_nil, leH1_box, leH1_own, leH1_gone, le_vs, le_agg, le_tup, le_ptr, le_own, le_xp, le_fn, le_opt, le_val, le_elem, le_nil_own, le_nil_vs, leH_ghost, leL_chunk, leXL_id, bnd_int, bnd_bool, bnd_val, bnd_nil, bnd_junk, bnd_vs, bnd_xp, bnd_agg, bnd_tup, bnd_ptr, bnd_own, bnd_elem, bnd_fn, bnd_iface, bnd_opt, bnd_row, bnd_rcell, bnd_imap, bnd_smp, le_row, le_rcell, le_imap, le_smp, leH1_smap, bndL_nil, bndL_cons, lenH_cons, lenH_nil, imp_self, implies_true, true_and, and_true]
      simp
    · rintro i ⟨hi, hi2, hia⟩
      dsimp only [enc0, go_sem, Option.bind, Option.map, List.append_nil, Nat.beq, List.cons_append, List.nil_append, List.append_eq, List.map_cons, List.map_nil, ite_self, reduceIte]
      simp only [true_and, and_true, imp_self, implies_true, decide_eq_true_eq, decide_eq_false_iff_not, Nat.reduceAdd, Nat.reduceLeDiff, Bool.not_not, reduceCtorEq, false_imp_iff, Bool.not_eq_true', Bool.not_eq_false', Bool.false_eq_true, and_self, forall_const, ne_eq, not_false_eq_true, Nat.reduceEqDiff, Int.toNat_natCast]
      refine ⟨fun hc => ?_, fun hc => ?_⟩
      · rw [Bool.and_eq_true, decide_eq_true_eq, decide_eq_true_eq] at hc
        refine ⟨⟨by omega, hc.1⟩, ⟨by omega, hc.2⟩, fun hn => ?_, fun he => ?_⟩
        · rw [decide_eq_false (fun e => by rw [e] at hn; simp at hn)] at h
          exact ans_bool h
        · refine ⟨i + 1, ⟨by omega, by omega, lt_succ_all hia (by simpa using he)⟩, by omega, ?_⟩
          simp only [leS_mk, leL_cons, leL_nil, le_junk, le_int, le_bool, le_nil, leLL_nil, leLL_cons, leH_cons, leH_nil, leH1_box, leH1_own, leH1_gone, le_vs, le_agg, le_tup, le_ptr, le_own, le_xp, le_fn, le_opt, le_val, le_elem, le_nil_own, le_nil_vs, leH_ghost, leL_chunk, leXL_id, bnd_int, bnd_bool, bnd_val, bnd_nil, bnd_junk, bnd_vs, bnd_xp, bnd_agg, bnd_tup, bnd_ptr, bnd_own, bnd_elem, bnd_fn, bnd_iface, bnd_opt, bnd_row, bnd_rcell, bnd_imap, bnd_smp, le_row, le_rcell, le_imap, le_smp, leH1_smap, bndL_nil, bndL_cons, lenH_cons, lenH_nil, imp_self, implies_true, true_and, and_true]
          exact w_succ (by omega : i < a.length) (by omega)
      · rw [Bool.and_eq_false_iff, decide_eq_false_iff_not, decide_eq_false_iff_not] at hc
        rw [decide_eq_decide.2 (eq_fst fun j hj hj2 => hia j (by omega))] at h
        exact ans_bool h
  · exact h.1.elim
def longW (x : Wk) : Bool := decide (100 < (x.af.v.length : Int)) || decide (1000 < (x.nm.size : Int))
def farF (h : Hal) (l : List Wk) : Bool := decide (100 < (h.length : Int)) || decide (100 < (l.length : Int)) || h.any (fun x => decide (100 < (x.v.length : Int))) || l.any longW
def farC : Ctr := { alias := false, of := fun l => match l with
  | [.agg [.vs _ _ n sz get], .vs _ _ n' sz' get'] => .ex Hal fun h => .ex (List Wk) fun l => .pre (lsP 1 encR n sz get h ∧ lsP 4 encK n' sz' get' l) (.fin (.bool (farF h l)) [])
  | _ => noC }
theorem any_no {α : Type} [Inhabited α] {l : List α} {f : α → Bool} (h : ∀ j, j < l.length → f (l.getD j default) = false) : l.any f = false := by
  rw [List.any_eq_false]
  intro x hx
  obtain ⟨j, hj, rfl⟩ := mem_getD hx
  rw [h j hj]; simp
theorem any_yes {α : Type} [Inhabited α] {l : List α} {f : α → Bool} {j : Nat} (hj : j < l.length) (h : f (l.getD j default) = true) : l.any f = true :=
  List.any_eq_true.2 ⟨_, getD_mem hj, h⟩
theorem far_ok : farC.ok Try.prog 7 := by
  refine contract Try.func7 v7_is TM0_ok 300 farC fun args k h => ?_
  simp only [farC] at h
  split at h
  · rename_i t z n sz get t' z' n' sz' get'
    obtain ⟨h0, l, ⟨⟨rfl, rfl, hg⟩, ⟨rfl, rfl, hg'⟩⟩, h⟩ := h
    have h : k _ [] := h
    refine ⟨[.agg [.vs false z h0.length 1 (fun k => encR (h0.getD k default))], .vs false z' l.length 4 (fun k => encK (l.getD k default))], ⟨⟨⟨fun h => (by cases h), rfl, rfl, rfl, hg⟩, trivial⟩, ⟨fun h => (by cases h), rfl, rfl, rfl, hg'⟩, trivial⟩, ?_⟩
    dsimp only [v7, go_sem, Option.bind, Option.map, List.append_nil, Nat.beq, List.cons_append, List.nil_append, List.append_eq, List.map_cons, List.map_nil, ite_self, reduceIte]
    simp only [true_and, and_true, imp_self, implies_true, decide_eq_true_eq, decide_eq_false_iff_not, Nat.reduceAdd, Nat.reduceLeDiff, Bool.not_not, reduceCtorEq, false_imp_iff, Bool.not_eq_true', Bool.not_eq_false', Bool.false_eq_true, and_self, forall_const, ne_eq, not_false_eq_true, Nat.reduceEqDiff]
    refine ⟨fun hc => ?_, fun hc => ?_⟩
    · unfold farF at h
      rw [hc, Bool.true_or, Bool.true_or] at h
      exact ans_bool h
    have hc' := hc
    simp only [Bool.or_eq_false_iff, decide_eq_false_iff_not] at hc'
    refine Loop.keep [1, 0] Nat (fun i => [(4, .bool false), (5, .int .i64 i)]) (fun _ => []) [] (fun i => i ≤ h0.length ∧ ∀ j, j < i → ¬ (100 < ((h0.getD j default).v.length : Int))) (fun i => h0.length - i) ?_ ?_
    · refine ⟨0, ⟨Nat.zero_le _, fun j hj => by omega⟩, ?_⟩
      dsimp only [go_sem, Option.bind, Option.map, List.append_nil, Nat.beq, List.cons_append, List.nil_append, List.append_eq, List.map_cons, List.map_nil, ite_self, reduceIte]
      simp only [leS_mk, leL_cons, leL_nil, le_junk, le_int, le_bool, le_nil, leLL_nil, leLL_cons, leH_cons, leH_nil, leH1_box, leH1_own, leH1_gone, le_vs, le_agg, le_tup, le_ptr, le_own, le_xp, le_fn, le_opt, le_val, le_elem, le_nil_own, le_nil_vs, leH_ghost, leL_chunk, leXL_id, bnd_int, bnd_bool, bnd_val, bnd_nil, bnd_junk, bnd_vs, bnd_xp, bnd_agg, bnd_tup, bnd_ptr, bnd_own, bnd_elem, bnd_fn, bnd_iface, bnd_opt, bnd_row, bnd_rcell, bnd_imap, bnd_smp, le_row, le_rcell, le_imap, le_smp, leH1_smap, bndL_nil, bndL_cons, lenH_cons, lenH_nil, imp_self, implies_true, true_and, and_true]
      simp
    · rintro i ⟨hi, hia⟩
      dsimp only [encR, encK, enc1, go_sem, Option.bind, Option.map, List.append_nil, Nat.beq, List.cons_append, List.nil_append, List.append_eq, List.map_cons, List.map_nil, ite_self, reduceIte]
      simp only [true_and, and_true, imp_self, implies_true, decide_eq_true_eq, decide_eq_false_iff_not, Nat.reduceAdd, Nat.reduceLeDiff, Bool.not_not, reduceCtorEq, false_imp_iff, Bool.not_eq_true', Bool.not_eq_false', Bool.false_eq_true, and_self, forall_const, ne_eq, not_false_eq_true, Nat.reduceEqDiff, Int.toNat_natCast]
      refine ⟨fun hlt => ⟨⟨by omega, hlt⟩, fun hb => ?_, fun hb => ?_⟩, fun hge => ?_⟩
      · unfold farF at h
        rw [any_yes (l := h0) (j := i) (f := fun x => decide (100 < (x.v.length : Int))) (by omega) (decide_eq_true hb), Bool.or_true, Bool.true_or] at h
        exact ans_bool h
      · refine ⟨i + 1, ⟨by omega, fun j hj => by
          rcases Nat.lt_or_ge j i with h' | h'
          · exact hia j h'
          · obtain rfl : j = i := by omega
            exact hb⟩, by omega, ?_⟩
        simp only [leS_mk, leL_cons, leL_nil, le_junk, le_int, le_bool, le_nil, leLL_nil, leLL_cons, leH_cons, leH_nil, leH1_box, leH1_own, leH1_gone, le_vs, le_agg, le_tup, le_ptr, le_own, le_xp, le_fn, le_opt, le_val, le_elem, le_nil_own, le_nil_vs, leH_ghost, leL_chunk, leXL_id, bnd_int, bnd_bool, bnd_val, bnd_nil, bnd_junk, bnd_vs, bnd_xp, bnd_agg, bnd_tup, bnd_ptr, bnd_own, bnd_elem, bnd_fn, bnd_iface, bnd_opt, bnd_row, bnd_rcell, bnd_imap, bnd_smp, le_row, le_rcell, le_imap, le_smp, leH1_smap, bndL_nil, bndL_cons, lenH_cons, lenH_nil, imp_self, implies_true, true_and, and_true]
        exact ⟨by omega, w_succ (by omega : i < h0.length) (by omega)⟩
      · obtain rfl : i = h0.length := by omega
        refine Loop.keep [1, 0] Nat (fun i => [(4, .bool false), (6, .int .i64 i)]) (fun _ => []) [] (fun i => i ≤ l.length ∧ ∀ j, j < i → longW (l.getD j default) = false) (fun i => l.length - i) ?_ ?_
        · refine ⟨0, ⟨Nat.zero_le _, fun j hj => by omega⟩, ?_⟩
          dsimp only [go_sem, Option.bind, Option.map, List.append_nil, Nat.beq, List.cons_append, List.nil_append, List.append_eq, List.map_cons, List.map_nil, ite_self, reduceIte]
          simp only [leS_mk, leL_cons, leL_nil, le_junk, le_int, le_bool, le_nil, leLL_nil, leLL_cons, leH_cons, leH_nil, leH1_box, leH1_own, leH1_gone, le_vs, le_agg, le_tup, le_ptr, le_own, le_xp, le_fn, le_opt, le_val, le_elem, le_nil_own, le_nil_vs, leH_ghost, leL_chunk, leXL_id, bnd_int, bnd_bool, bnd_val, bnd_nil, bnd_junk, bnd_vs, bnd_xp, bnd_agg, bnd_tup, bnd_ptr, bnd_own, bnd_elem, bnd_fn, bnd_iface, bnd_opt, bnd_row, bnd_rcell, bnd_imap, bnd_smp, le_row, le_rcell, le_imap, le_smp, leH1_smap, bndL_nil, bndL_cons, lenH_cons, lenH_nil, imp_self, implies_true, true_and, and_true]
          simp
        · rintro i ⟨hi, hib⟩
          dsimp only [encR, encK, enc1, go_sem, Option.bind, Option.map, List.append_nil, Nat.beq, List.cons_append, List.nil_append, List.append_eq, List.map_cons, List.map_nil, ite_self, reduceIte]
          simp only [true_and, and_true, imp_self, implies_true, decide_eq_true_eq, decide_eq_false_iff_not, Nat.reduceAdd, Nat.reduceLeDiff, Bool.not_not, reduceCtorEq, false_imp_iff, Bool.not_eq_true', Bool.not_eq_false', Bool.false_eq_true, and_self, forall_const, ne_eq, not_false_eq_true, Nat.reduceEqDiff, Int.toNat_natCast]
          refine ⟨fun hlt => ⟨⟨by omega, hlt⟩, fun _ => ⟨by omega, hlt⟩, fun hb => ?_, fun hb => ?_⟩, fun hge => ?_⟩
          · unfold farF at h
            rw [any_yes (l := l) (j := i) (f := longW) (by omega) hb, Bool.or_true] at h
            exact ans_bool h
          · refine ⟨i + 1, ⟨by omega, lt_succ_all hib hb⟩, by omega, ?_⟩
            simp only [leS_mk, leL_cons, leL_nil, le_junk, le_int, le_bool, le_nil, leLL_nil, leLL_cons, leH_cons, leH_nil, leH1_box, leH1_own, leH1_gone, le_vs, le_agg, le_tup, le_ptr, le_own, le_xp, le_fn, le_opt, le_val, le_elem, le_nil_own, le_nil_vs, leH_ghost, leL_chunk, leXL_id, bnd_int, bnd_bool, bnd_val, bnd_nil, bnd_junk, bnd_vs, bnd_xp, bnd_agg, bnd_tup, bnd_ptr, bnd_own, bnd_elem, bnd_fn, bnd_iface, bnd_opt, bnd_row, bnd_rcell, bnd_imap, bnd_smp, le_row, le_rcell, le_imap, le_smp, leH1_smap, bndL_nil, bndL_cons, lenH_cons, lenH_nil, imp_self, implies_true, true_and, and_true]
            exact ⟨by omega, w_succ (by omega : i < l.length) (by omega)⟩
          · obtain rfl : i = l.length := by omega
            have e1 : h0.any (fun x => decide (100 < (x.v.length : Int))) = false := any_no fun j hj => decide_eq_false (hia j hj)
            unfold farF at h
            rw [hc, e1, any_no hib] at h
            exact ans_bool h
  · exact h.1.elim

def exH : Hal := [⟨false, [0, 2, 5]⟩, ⟨false, [2, 0, 1]⟩, ⟨false, [5, 1, 0]⟩]
def exW : List Wk := [⟨⟨#[103, 114, 101, 97, 116]⟩, 0, ⟨true, []⟩, 30⟩, ⟨⟨#[115, 119, 101, 108, 108]⟩, 2, ⟨false, [0]⟩, 20⟩, ⟨⟨#[114, 101, 101, 100, 115]⟩, 1, ⟨true, []⟩, 10⟩]
def encRT (x : Rw) : List SV := [.vs true x.z x.v.length 1 (fun k => enc1 (x.v.getD k default))]
def encKT (x : Wk) : List SV := [.val (.string x.nm), .int .i64 x.pl, .vs true x.af.z x.af.v.length 1 (fun k => enc1 (x.af.v.getD k default)), .int .i64 x.mi]
def exC : Ctr := { alias := false, of := fun l => match l with
  | [] => .fin (.tup [.agg [.vs true false 3 1 (fun k => encRT (exH.getD k default))], .vs true false 3 4 (fun k => encKT (exW.getD k default))]) []
  | _ => noC }
theorem ex_ok : exC.ok Try.prog 22 := by
  refine contract Try.func22 v22_is TM0_ok 200 exC fun args k h => ?_
  simp only [exC] at h
  split at h
  · have h : k _ [] := h
    refine ⟨[], trivial, ?_⟩
    dsimp only [v22, go_sem, Option.bind, Option.map, List.append_nil, Nat.beq, List.cons_append, List.nil_append, List.append_eq, List.map_cons, List.map_nil, ite_self, reduceIte]
    simp only [true_and, and_true, imp_self, implies_true, decide_eq_true_eq, decide_eq_false_iff_not, Nat.reduceAdd, Nat.reduceLeDiff, Bool.not_not, reduceCtorEq, false_imp_iff, Bool.not_eq_true', Bool.not_eq_false', Bool.false_eq_true, and_self, forall_const, ne_eq, not_false_eq_true, Nat.reduceEqDiff]
    refine ⟨by decide, by decide, by decide, by decide, rfl, by decide, rfl, rfl, ⟨⟨rfl, rfl, rfl⟩, by decide⟩, ans_le h ?_ (fun _ => by simp [freshS, freshL, encRT, encKT, enc1])⟩
    dsimp only [expo, go_sem, Option.bind, Option.map, List.append_nil, Nat.beq, List.cons_append, List.nil_append, List.append_eq, List.map_cons, List.map_nil, ite_self, reduceIte]
    simp only [leS_mk, leL_cons, leL_nil, le_junk, le_int, le_bool, le_nil, leLL_nil, leLL_cons, leH_cons, leH_nil, leH1_box, leH1_own, leH1_gone, le_vs, le_agg, le_tup, le_ptr, le_own, le_xp, le_fn, le_opt, le_val, le_elem, le_nil_own, le_nil_vs, leH_ghost, leL_chunk, leXL_id, bnd_int, bnd_bool, bnd_val, bnd_nil, bnd_junk, bnd_vs, bnd_xp, bnd_agg, bnd_tup, bnd_ptr, bnd_own, bnd_elem, bnd_fn, bnd_iface, bnd_opt, bnd_row, bnd_rcell, bnd_imap, bnd_smp, le_row, le_rcell, le_imap, le_smp, leH1_smap, bndL_nil, bndL_cons, lenH_cons, lenH_nil, imp_self, implies_true, true_and, and_true]
    refine ⟨fun k hk => ?_, fun k hk => ?_⟩
    · rcases k with _ | _ | _ | k
      · simp [encRT, exH, enc1, takeL, dropL, viewL, view, getH, leXL, leX, chunk]
        intro k hk
        rcases k with _ | _ | _ | k <;> first | omega | skip
        all_goals simp [addLo, takeL, dropL, viewL, view, leXL, leX]
      · simp [encRT, exH, enc1, takeL, dropL, viewL, view, getH, leXL, leX, chunk]
        intro k hk
        rcases k with _ | _ | _ | k <;> first | omega | skip
        all_goals simp [addLo, takeL, dropL, viewL, view, leXL, leX]
      · simp [encRT, exH, enc1, takeL, dropL, viewL, view, getH, leXL, leX, chunk]
        intro k hk
        rcases k with _ | _ | _ | k <;> first | omega | skip
        all_goals simp [addLo, takeL, dropL, viewL, view, leXL, leX]
      · omega
    · rcases k with _ | _ | _ | k
      · simp [encKT, exW, enc1, addLo, takeL, dropL, viewL, view, getH, leXL, leX, chunk]
      · simp [encKT, exW, enc1, addLo, takeL, dropL, viewL, view, getH, leXL, leX, chunk]
      · simp [encKT, exW, enc1, addLo, takeL, dropL, viewL, view, getH, leXL, leX, chunk]
      · omega
  · exact h.1.elim
end Go.Proofs.Yteioilioobichaa

/- Tuning, walked: the document's example. -/
/- Tuning, walked: the document's example. -/
set_option linter.all false
namespace Go.Proofs.Yteioilioobichaa
open Go Go.Vx
set_option maxRecDepth 100000
set_option maxHeartbeats 4000000

def v8 : VF := { ntmps := 124, res := [.tmp 0], body :=
 (.seq (.region [u1 0 .mov [.cn (.bool false)]])
 (.seq (.region [u1 19 (.call 22) [],
 u1 18 .mov [.tm 19],
 u1 20 (.ext 0) [.tm 18],
 u1 21 (.ext 1) [.tm 18],
 u1 1 (.alloc [.nil]) [],
 u0 (.store 1) [.tm 1, .tm 20],
 u1 2 .mov [.tm 21]])
 (.seq (.region [u1 23 (.load true 1) [.tm 1],
 u1 24 .mov [.tm 2],
 u1 25 (.call 16) [.tm 23, .tm 24, .cn (.int .i64 0)],
 u1 22 .mov [.tm 25],
 u1 26 (.ext 0) [.tm 22],
 u1 27 (.ext 1) [.tm 22],
 u1 28 (.ext 2) [.tm 22],
 u1 3 .mov [.tm 26],
 u1 4 .mov [.tm 27],
 u1 5 .mov [.tm 28]])
 (.seq (.region [u1 30 (.load true 1) [.tm 1],
 u1 31 .mov [.tm 2],
 u1 32 (.call 16) [.tm 30, .tm 31, .cn (.int .i64 1)],
 u1 29 .mov [.tm 32],
 u1 33 (.ext 0) [.tm 29],
 u1 34 (.ext 1) [.tm 29],
 u1 35 (.ext 2) [.tm 29],
 u1 6 .mov [.tm 33],
 u1 7 .mov [.tm 34],
 u1 8 .mov [.tm 35]])
 (.seq (.region [u1 37 (.load true 1) [.tm 1],
 u1 38 .mov [.tm 2],
 u1 39 (.buildSlice 1 3 [(.int .i64 0)] [(0, 1), (1, 1), (2, 1)]) [.cn (.int .i64 0), .cn (.int .i64 1), .cn (.int .i64 2)],
 u1 40 (.call 9) [.tm 37, .tm 38, .cn (.int .i64 0), .tm 39],
 u1 36 .mov [.tm 40],
 u1 41 (.ext 0) [.tm 36],
 u1 42 (.ext 1) [.tm 36],
 u1 9 .mov [.tm 41],
 u1 10 .mov [.tm 42]])
 (.seq (.region [u1 44 (.load true 1) [.tm 1],
 u1 45 .mov [.tm 2],
 u1 46 (.buildSlice 1 3 [(.int .i64 0)] [(0, 1), (1, 1), (2, 1)]) [.cn (.int .i64 1), .cn (.int .i64 0), .cn (.int .i64 2)],
 u1 47 (.call 9) [.tm 44, .tm 45, .cn (.int .i64 0), .tm 46],
 u1 43 .mov [.tm 47],
 u1 48 (.ext 0) [.tm 43],
 u1 49 (.ext 1) [.tm 43],
 u1 11 .mov [.tm 48],
 u1 12 .mov [.tm 49]])
 (.seq (.region [u1 51 (.load true 1) [.tm 1],
 u1 52 .mov [.tm 2],
 u1 53 (.buildSlice 1 1 [(.int .i64 0)] [(0, 1)]) [.cn (.int .i64 0)],
 u1 54 (.call 18) [.tm 51, .tm 52, .cn (.int .i64 0), .tm 53],
 u1 50 .mov [.tm 54],
 u1 55 (.ext 0) [.tm 50],
 u1 56 (.ext 1) [.tm 50],
 u1 57 (.ext 2) [.tm 50],
 u1 13 .mov [.tm 55],
 u1 14 .mov [.tm 56],
 u1 15 .mov [.tm 57]])
 (.seq (.region [u1 59 (.load true 1) [.tm 1],
 u1 60 .mov [.tm 2],
 u1 61 (.buildSlice 1 3 [(.int .i64 0)] [(0, 1), (1, 1), (2, 1)]) [.cn (.int .i64 0), .cn (.int .i64 2), .cn (.int .i64 1)],
 u1 62 (.call 11) [.tm 59, .tm 60, .tm 61, .cn (.int .i64 10)],
 u1 58 .mov [.tm 62],
 u1 63 (.ext 0) [.tm 58],
 u1 64 (.ext 1) [.tm 58],
 u1 16 .mov [.tm 63],
 u1 17 .mov [.tm 64]])
 (.seq (.seq (.region [u1 65 .mov [.tm 5],
 u1 66 (.cmp .neq) [.tm 65, .cn (.int .i64 0)],
 u1 67 .mov [.tm 66],
 u2 68 67 false .mov [.tm 8],
 u2 69 67 false (.cmp .neq) [.tm 68, .cn (.int .i64 0)],
 u1 70 .or [.tm 67, .tm 69],
 u1 71 .mov [.tm 70],
 u2 72 71 false .mov [.tm 10],
 u2 73 71 false (.cmp .neq) [.tm 72, .cn (.int .i64 0)],
 u1 74 .or [.tm 71, .tm 73],
 u1 75 .mov [.tm 74],
 u2 76 75 false .mov [.tm 12],
 u2 77 75 false (.cmp .neq) [.tm 76, .cn (.int .i64 4)],
 u1 78 .or [.tm 75, .tm 77],
 u1 79 .mov [.tm 78],
 u2 80 79 false .mov [.tm 15],
 u2 81 79 false (.cmp .neq) [.tm 80, .cn (.int .i64 0)],
 u1 82 .or [.tm 79, .tm 81],
 u1 83 .mov [.tm 82],
 u2 84 83 false .mov [.tm 17],
 u2 85 83 false (.cmp .neq) [.tm 84, .cn (.int .i64 0)],
 u1 86 .or [.tm 83, .tm 85],
 u1 87 .mov [.tm 86],
 u2 88 87 false .mov [.tm 4],
 u2 89 87 false (.cmp .neq) [.tm 88, .cn (.int .i64 3)],
 u1 90 .or [.tm 87, .tm 89],
 u1 91 .mov [.tm 90],
 u2 92 91 false .mov [.tm 7],
 u2 93 91 false (.cmp .neq) [.tm 92, .cn (.int .i64 5)],
 u1 94 .or [.tm 91, .tm 93],
 u1 95 .mov [.tm 94],
 u2 96 95 false .mov [.tm 9],
 u2 97 95 false (.cmp .neq) [.tm 96, .cn (.int .i64 6)],
 u1 98 .or [.tm 95, .tm 97],
 u1 99 .mov [.tm 98],
 u2 100 99 false .mov [.tm 14],
 u2 101 99 false (.cmp .neq) [.tm 100, .cn (.int .i64 3)],
 u1 102 .or [.tm 99, .tm 101]])
 (.cond (.tm 102) (.seq (.region [u1 0 .mov [.cn (.bool false)]])
 .ret)
  .skip))
 (.seq (.region [u1 103 .mov [.tm 3],
 u1 104 (.buildSlice 1 3 [(.int .i64 0)] [(0, 1), (1, 1), (2, 1)]) [.cn (.int .i64 0), .cn (.int .i64 2), .cn (.int .i64 1)],
 u1 105 (.call 20) [.tm 103, .tm 104],
 u1 106 .mov [.tm 105],
 u2 107 106 true .mov [.tm 6],
 u2 108 106 true (.buildSlice 1 3 [(.int .i64 0)] [(0, 1), (1, 1), (2, 1)]) [.cn (.int .i64 0), .cn (.int .i64 2), .cn (.int .i64 1)],
 u2 109 106 true (.call 20) [.tm 107, .tm 108],
 u1 110 .and [.tm 106, .tm 109],
 u1 111 .mov [.tm 110],
 u2 112 111 true .mov [.tm 13],
 u2 113 111 true (.buildSlice 1 2 [(.int .i64 0)] [(0, 1), (1, 1)]) [.cn (.int .i64 2), .cn (.int .i64 1)],
 u2 114 111 true (.call 20) [.tm 112, .tm 113],
 u1 115 .and [.tm 111, .tm 114],
 u1 116 .mov [.tm 115],
 u2 117 116 true .mov [.tm 16],
 u2 118 116 true (.build [(.int .i64 0), (.int .i64 0)] [(1, 1)]) [.cn (.int .i64 300)],
 u2 119 116 true (.build [(.int .i64 0), (.int .i64 0)] []) [],
 u2 120 116 true (.build [(.int .i64 0), (.int .i64 0)] [(1, 1)]) [.cn (.int .i64 200)],
 u2 121 116 true (.buildSlice 2 3 [(.int .i64 0), (.int .i64 0)] [(0, 2), (2, 2), (4, 2)]) [.tm 118, .tm 119, .tm 120],
 u2 122 116 true (.call 15) [.tm 117, .tm 121],
 u1 123 .and [.tm 116, .tm 122],
 u1 0 .mov [.tm 123]])
 .ret)))))))))) }
theorem v8_is : vfunc Try.prog Try.f8 = some v8 := by kernel_rfl

theorem exR1 : RestF exH exW 0 [] = ([0, 2, 1], 3, 0) := by decide +kernel
theorem exR2 : RestF exH exW 1 [] = ([0, 2, 1], 5, 0) := by decide +kernel
theorem exR3 : RestF exH exW 0 [0] = ([2, 1], 3, 0) := by decide +kernel
theorem exM1 : MovF exH exW 0 [0, 1, 2] = (6, 0) := by decide +kernel
theorem exM2 : MovF exH exW 0 [1, 0, 2] = (0, 4) := by decide +kernel
theorem exD1 : DriF exH exW 10 [0, 2, 1] = ([300, 0, 200], 0) := by decide +kernel
def TN0 : Env := { ct := fun n => match n with | 22 => some exC | 16 => some PlanC | 9 => some MovC | 18 => some RestC | 11 => some DriC | 20 => some samC | 15 => some sivC | _ => none, fn := fun _ => none, meth := fun _ _ => none }
theorem TN0_ct22 : TN0.ct 22 = some exC := rfl
theorem TN0_ct16 : TN0.ct 16 = some PlanC := rfl
theorem TN0_ct9 : TN0.ct 9 = some MovC := rfl
theorem TN0_ct18 : TN0.ct 18 = some RestC := rfl
theorem TN0_ct11 : TN0.ct 11 = some DriC := rfl
theorem TN0_ct20 : TN0.ct 20 = some samC := rfl
theorem TN0_ct15 : TN0.ct 15 = some sivC := rfl
theorem TN0_ok : EnvOk Try.prog TN0 := by
  refine ⟨fun f c h => ?_, fun f vf h => ?_, (fun _ _ _ h => by cases h), by kernel_rfl⟩
  · simp only [TN0] at h
    split at h
    · cases h; exact ⟨ex_ok, Try.f22, Try.func22, by kernel_rfl, by kernel_rfl⟩
    · cases h; exact ⟨Plan_ok, Try.f16, Try.func16, by kernel_rfl, by kernel_rfl⟩
    · cases h; exact ⟨Mov_ok, Try.f9, Try.func9, by kernel_rfl, by kernel_rfl⟩
    · cases h; exact ⟨Rest_ok, Try.f18, Try.func18, by kernel_rfl, by kernel_rfl⟩
    · cases h; exact ⟨Dri_ok, Try.f11, Try.func11, by kernel_rfl, by kernel_rfl⟩
    · cases h; exact ⟨sam_ok, Try.f20, Try.func20, by kernel_rfl, by kernel_rfl⟩
    · cases h; exact ⟨siv_ok, Try.f15, Try.func15, by kernel_rfl, by kernel_rfl⟩
    · cases h
  · cases h

theorem shown_ok : trueC.ok Try.prog 8 := by
  refine contract Try.func8 v8_is TN0_ok 400 trueC fun args k h => ?_
  simp only [trueC] at h
  split at h
  · have h : k (.bool true) [] := h
    refine ⟨[], trivial, ?_⟩
    dsimp only [v8, TN0_ct22, TN0_ct16, TN0_ct9, TN0_ct18, TN0_ct11, TN0_ct20, TN0_ct15, exC, PlanC, MovC, RestC, DriC, samC, sivC, go_sem, Option.bind, Option.map, List.append_nil, Nat.beq, List.cons_append, List.nil_append, List.append_eq, List.map_cons, List.map_nil, ite_self, reduceIte]
    simp only [true_and, and_true, imp_self, implies_true, decide_eq_true_eq, decide_eq_false_iff_not, Nat.reduceAdd, Nat.reduceLeDiff, Bool.not_not, reduceCtorEq, false_imp_iff, Bool.not_eq_true', Bool.not_eq_false', Bool.false_eq_true, and_self, forall_const, ne_eq, not_false_eq_true, Nat.reduceEqDiff]
    have kH : ∀ (hp : List HO) (j : List SV → List SV), lsP 1 encR 3 1 (fun k => viewL false hp j (encRT (exH.getD k default))) exH := fun hp j => ⟨rfl, rfl, fun k _ => by simp [encRT, encR, enc1, viewL, view, leXL, leX, andT]⟩
    have kW : ∀ (hp : List HO) (j : List SV → List SV), lsP 4 encK 3 4 (fun k => viewL false hp j (encKT (exW.getD k default))) exW := fun hp j => ⟨rfl, rfl, fun k _ => by simp [encKT, encK, enc1, viewL, view, leXL, leX, andT]⟩
    have kB : (exH.length ≤ 1000000000000 ∧ exW.length ≤ 1000000000000) ∧ (∀ x, x ∈ exH → x.v.length ≤ 1000000000000) ∧ okW exW := ⟨by decide, by decide, by unfold okW; decide⟩
    have k3 : ∀ (hp : List HO) (j : List SV → List SV) (a b c : Int), lsP 1 enc1 3 1 (fun k => viewL false hp j (takeL 1 (dropL (k * 1) [SV.int IntKind.i64 a, SV.int IntKind.i64 b, SV.int IntKind.i64 c]))) [a, b, c] := fun hp j a b c => ⟨rfl, rfl, fun k hk => by
      rcases k with _ | _ | _ | k
      · simp [enc1, takeL, dropL, viewL, view, leXL, leX]
      · simp [enc1, takeL, dropL, viewL, view, leXL, leX]
      · simp [enc1, takeL, dropL, viewL, view, leXL, leX]
      · omega⟩
    have k1 : ∀ (hp : List HO) (j : List SV → List SV) (a : Int), lsP 1 enc1 1 1 (fun k => viewL false hp j (takeL 1 (dropL (k * 1) [SV.int IntKind.i64 a]))) [a] := fun hp j a => ⟨rfl, rfl, fun k hk => by
      rcases k with _ | k
      · simp [enc1, takeL, dropL, viewL, view, leXL, leX]
      · omega⟩
    refine ⟨by decide, by decide, exH, exW, ⟨kH _ _, kW _ _, kB⟩, fun z1 => ⟨by decide, by decide, by decide, exH, exW, ⟨kH _ _, kW _ _, kB⟩, fun z2 => ⟨by decide, by decide, by decide, Nat.one_pos, exH, exW, [0, 1, 2], ⟨kH _ _, kW _ _, k3 _ _ _ _ _, kB, by decide⟩, by decide, by decide, Nat.one_pos, exH, exW, [1, 0, 2], ⟨kH _ _, kW _ _, k3 _ _ _ _ _, kB, by decide⟩, by decide, by decide, Nat.one_pos, exH, exW, [0], ⟨kH _ _, kW _ _, k1 _ _ _, kB, by decide⟩, fun z3 => ?_⟩⟩⟩
    refine ⟨by decide, by decide, by decide, Nat.one_pos, exH, exW, [0, 2, 1], ⟨kH _ _, kW _ _, k3 _ _ _ _ _, kB, by decide⟩, fun z4 => ?_⟩
    simp only [exR1, exR2, exR3, exM1, exM2, exD1]
    have kV : ∀ (hp : List HO) (j : List SV → List SV) (L : List Int), lsP 1 enc1 L.length 1 (fun k => viewL false hp j (enc1 (L.getD k default))) L := fun hp j L => ⟨rfl, rfl, fun k _ => by simp [enc1, viewL, view, leXL, leX]⟩
    have k2 : ∀ (hp : List HO) (j : List SV → List SV) (a b : Int), lsP 1 enc1 2 1 (fun k => viewL false hp j (takeL 1 (dropL (k * 1) [SV.int IntKind.i64 a, SV.int IntKind.i64 b]))) [a, b] := fun hp j a b => ⟨rfl, rfl, fun k hk => by
      rcases k with _ | _ | k
      · simp [enc1, takeL, dropL, viewL, view, leXL, leX]
      · simp [enc1, takeL, dropL, viewL, view, leXL, leX]
      · omega⟩
    refine ⟨by decide, by decide, fun hb => (by simp at hb), fun _ => ⟨Nat.one_pos, [0, 2, 1], [0, 2, 1], ⟨kV _ _ _, k3 _ _ _ _ _, by decide⟩, fun _ => ⟨Nat.one_pos, [0, 2, 1], [0, 2, 1], fun _ => ⟨kV _ _ _, k3 _ _ _ _ _, by decide⟩, fun _ => ⟨Nat.one_pos, [2, 1], [2, 1], fun _ => ⟨kV _ _ _, k2 _ _ _ _, by decide⟩, fun _ => ⟨by decide, [300, 0, 200], [300, 0, 200], fun _ => ⟨⟨rfl, rfl, fun k hk => ?_⟩, ⟨rfl, rfl, fun k hk => ?_⟩, by decide⟩, ans_bool (by simpa using h)⟩, fun hb => (by simp at hb)⟩, fun hb => (by simp at hb)⟩, fun hb => (by simp at hb)⟩⟩
    · exact leXL_self _
    · rcases k with _ | _ | _ | k
      · simp [enc0, takeL, dropL, viewL, view, leXL, leX]
      · simp [enc0, takeL, dropL, viewL, view, leXL, leX]
      · simp [enc0, takeL, dropL, viewL, view, leXL, leX]
      · exact absurd hk (by omega)
  · exact h.1.elim
end Go.Proofs.Yteioilioobichaa

/- Tuning: the laws, walked. -/
/- Tuning: the laws, walked. -/
set_option linter.all false
namespace Go.Proofs.Yteioilioobichaa
open Go Go.Vx
set_option maxRecDepth 100000
set_option maxHeartbeats 4000000

def v3 : VF := { ntmps := 105, res := [.tmp 2], body :=
 (.seq (.region [u1 1 .box [.tm 0],
 u1 2 .mov [.cn (.bool false)]])
 (.seq (.seq (.region [u1 11 (.fieldAddr 0) [.tm 1],
 u1 12 (.load true 1) [.tm 11],
 u1 13 (.fieldAddr 1) [.tm 1],
 u1 14 (.load false 1) [.tm 13],
 u1 15 (.call 7) [.tm 12, .tm 14],
 u1 16 .mov [.tm 15],
 u2 17 16 false (.fieldAddr 3) [.tm 1],
 u2 18 16 false (.load false 1) [.tm 17],
 u2 19 16 false .len [.tm 18],
 u2 20 16 false (.cmp .gtr) [.tm 19, .cn (.int .i64 100)],
 u1 21 .or [.tm 16, .tm 20]])
 (.cond (.tm 21) (.seq (.region [u1 22 (.call 8) [],
 u1 2 .mov [.tm 22]])
 .ret)
  .skip))
 (.seq (.region [u1 24 (.fieldAddr 0) [.tm 1],
 u1 25 (.load true 1) [.tm 24],
 u1 26 (.fieldAddr 1) [.tm 1],
 u1 27 (.load false 1) [.tm 26],
 u1 28 (.fieldAddr 2) [.tm 1],
 u1 29 (.load false 1) [.tm 28],
 u1 30 (.fieldAddr 3) [.tm 1],
 u1 31 (.load false 1) [.tm 30],
 u1 32 (.call 9) [.tm 25, .tm 27, .tm 29, .tm 31],
 u1 23 .mov [.tm 32],
 u1 33 (.ext 0) [.tm 23],
 u1 34 (.ext 1) [.tm 23],
 u1 3 .mov [.tm 33],
 u1 4 .mov [.tm 34]])
 (.seq (.region [u1 36 (.fieldAddr 0) [.tm 1],
 u1 37 (.load true 1) [.tm 36],
 u1 38 (.fieldAddr 1) [.tm 1],
 u1 39 (.load false 1) [.tm 38],
 u1 40 (.fieldAddr 2) [.tm 1],
 u1 41 (.load false 1) [.tm 40],
 u1 42 (.fieldAddr 3) [.tm 1],
 u1 43 (.load false 1) [.tm 42],
 u1 44 (.call 10) [.tm 37, .tm 39, .tm 41, .tm 43],
 u1 35 .mov [.tm 44],
 u1 45 (.ext 0) [.tm 35],
 u1 46 (.ext 1) [.tm 35],
 u1 5 .mov [.tm 45],
 u1 6 .mov [.tm 46]])
 (.seq (.region [u1 48 (.fieldAddr 0) [.tm 1],
 u1 49 (.load true 1) [.tm 48],
 u1 50 (.fieldAddr 1) [.tm 1],
 u1 51 (.load false 1) [.tm 50],
 u1 52 (.fieldAddr 3) [.tm 1],
 u1 53 (.load false 1) [.tm 52],
 u1 54 (.fieldAddr 4) [.tm 1],
 u1 55 (.load false 1) [.tm 54],
 u1 56 (.call 11) [.tm 49, .tm 51, .tm 53, .tm 55],
 u1 47 .mov [.tm 56],
 u1 57 (.ext 0) [.tm 47],
 u1 58 (.ext 1) [.tm 47],
 u1 7 .mov [.tm 57],
 u1 8 .mov [.tm 58]])
 (.seq (.region [u1 60 (.fieldAddr 0) [.tm 1],
 u1 61 (.load true 1) [.tm 60],
 u1 62 (.fieldAddr 1) [.tm 1],
 u1 63 (.load false 1) [.tm 62],
 u1 64 (.fieldAddr 3) [.tm 1],
 u1 65 (.load false 1) [.tm 64],
 u1 66 (.fieldAddr 4) [.tm 1],
 u1 67 (.load false 1) [.tm 66],
 u1 68 (.call 12) [.tm 61, .tm 63, .tm 65, .tm 67],
 u1 59 .mov [.tm 68],
 u1 69 (.ext 0) [.tm 59],
 u1 70 (.ext 1) [.tm 59],
 u1 9 .mov [.tm 69],
 u1 10 .mov [.tm 70]])
 (.seq (.draw [] [w1 71 (.fieldAddr 0) [.tm 1],
 w1 72 (.load true 1) [.tm 71],
 w1 73 (.fieldAddr 1) [.tm 1],
 w1 74 (.load false 1) [.tm 73],
 w1 76 (.fieldAddr 0) [.tm 1],
 w1 77 (.load true 1) [.tm 76],
 w1 78 (.fieldAddr 1) [.tm 1],
 w1 79 (.load false 1) [.tm 78],
 w1 75 (.call 13) [.tm 72, .tm 74],
 w1 80 (.call 14) [.tm 77, .tm 79],
 w1 81 (.cmp .eql) [.tm 75, .tm 80],
 w1 82 .mov [.tm 81],
 ⟨u2 83 82 true .mov [.tm 3], []⟩,
 ⟨u2 84 82 true .mov [.tm 5], []⟩,
 ⟨u2 85 82 true (.cmp .eql) [.tm 83, .tm 84], []⟩,
 w1 86 .and [.tm 82, .tm 85],
 w1 87 .mov [.tm 86],
 ⟨u2 88 87 true .mov [.tm 4], []⟩,
 ⟨u2 89 87 true .mov [.tm 6], []⟩,
 ⟨u2 90 87 true (.cmp .eql) [.tm 88, .tm 89], []⟩,
 w1 91 .and [.tm 87, .tm 90],
 w1 92 .mov [.tm 91],
 ⟨u2 93 92 true .mov [.tm 7], []⟩,
 ⟨u2 94 92 true .mov [.tm 9], []⟩,
 ⟨u2 95 92 true (.call 15) [.tm 93, .tm 94], []⟩,
 w1 96 .and [.tm 92, .tm 95],
 w1 97 .mov [.tm 96],
 ⟨u2 98 97 true .mov [.tm 8], []⟩,
 ⟨u2 99 97 true .mov [.tm 10], []⟩,
 ⟨u2 100 97 true (.cmp .eql) [.tm 98, .tm 99], []⟩,
 w1 101 .and [.tm 97, .tm 100],
 w1 102 .mov [.tm 101],
 ⟨u2 103 102 true (.call 8) [], []⟩,
 w1 104 .and [.tm 102, .tm 103],
 w1 2 .mov [.tm 104]])
 .ret))))))) }
def shRw : List Sh := [.slice [.int .i64]]
def shWk : List Sh := [.str, .int .i64, .slice [.int .i64], .int .i64]
def shSe : List Sh := [.slice shRw, .slice shWk, .int .i64, .slice [.int .i64], .int .i64]
theorem i_of {c : List SV} (h : okSL [.int .i64] c) : ∃ p : Int, c = enc1 p := by
  obtain ⟨_, _, rfl, ⟨n1, rfl, _⟩, e1⟩ := okSL_cons_inv h
  cases okSL_nil_inv e1
  exact ⟨n1, rfl⟩
theorem is_of {v : SV} (h : okS (.slice [.int .i64]) v) : ∃ (z : Bool) (l : List Int), l.length ≤ maxLen ∧ leX v (.vs false z l.length 1 (fun k => enc1 (l.getD k default))) :=
  slice_of (fun c hc => let ⟨p, h⟩ := i_of hc; ⟨p, by rw [h]; exact leXL_self _⟩) h
theorem rw_of {c : List SV} (h : okSL shRw c) : ∃ x : Rw, leXL c (encR x) := by
  obtain ⟨_, _, rfl, h1, e1⟩ := okSL_cons_inv h
  cases okSL_nil_inv e1
  obtain ⟨z, l, _, hl⟩ := is_of h1
  exact ⟨⟨z, l⟩, hl, trivial⟩
theorem wk_of {c : List SV} (h : okSL shWk c) : ∃ x : Wk, leXL c (encK x) := by
  obtain ⟨_, _, rfl, ⟨b, rfl, _⟩, e1⟩ := okSL_cons_inv h
  obtain ⟨_, _, rfl, ⟨n2, rfl, _⟩, e2⟩ := okSL_cons_inv e1
  obtain ⟨_, _, rfl, h3, e3⟩ := okSL_cons_inv e2
  obtain ⟨_, _, rfl, ⟨n4, rfl, _⟩, e4⟩ := okSL_cons_inv e3
  cases okSL_nil_inv e4
  obtain ⟨z, l, _, hl⟩ := is_of h3
  exact ⟨⟨b, n2, ⟨z, l⟩, n4⟩, by simp [leX], ⟨rfl, rfl⟩, hl, ⟨rfl, rfl⟩, trivial⟩
theorem rws_of {v : SV} (h : okS (.slice shRw) v) : ∃ (z : Bool) (l : Hal), l.length ≤ maxLen ∧ leX v (.vs false z l.length 1 (fun k => encR (l.getD k default))) := slice_of (fun c hc => rw_of hc) h
theorem wks_of {v : SV} (h : okS (.slice shWk) v) : ∃ (z : Bool) (l : List Wk), l.length ≤ maxLen ∧ leX v (.vs false z l.length 4 (fun k => encK (l.getD k default))) := slice_of (fun c hc => wk_of hc) h
def encSe (zh zl zo : Bool) (h : Hal) (l : List Wk) (p : Int) (o : List Int) (r : Int) : List SV := [.vs false zh h.length 1 (fun k => encR (h.getD k default)), .vs false zl l.length 4 (fun k => encK (l.getD k default)), .int .i64 p, .vs false zo o.length 1 (fun k => enc1 (o.getD k default)), .int .i64 r]
theorem se_of {c : List SV} (h : okSL shSe c) : ∃ (zh zl zo : Bool) (h : Hal) (l : List Wk) (p : Int) (o : List Int) (r : Int), leXL c (encSe zh zl zo h l p o r) := by
  obtain ⟨_, _, rfl, h1, e1⟩ := okSL_cons_inv h
  obtain ⟨_, _, rfl, h2, e2⟩ := okSL_cons_inv e1
  obtain ⟨_, _, rfl, ⟨p, rfl, _⟩, e3⟩ := okSL_cons_inv e2
  obtain ⟨_, _, rfl, h4, e4⟩ := okSL_cons_inv e3
  obtain ⟨_, _, rfl, ⟨r, rfl, _⟩, e5⟩ := okSL_cons_inv e4
  cases okSL_nil_inv e5
  obtain ⟨zh, h, _, g1⟩ := rws_of h1
  obtain ⟨zl, l, _, g2⟩ := wks_of h2
  obtain ⟨zo, o, _, g3⟩ := is_of h4
  exact ⟨zh, zl, zo, h, l, p, o, r, g1, g2, ⟨rfl, rfl⟩, g3, ⟨rfl, rfl⟩, trivial⟩
theorem far_no {h : Hal} {l : List Wk} (hf : farF h l = false) : (h.length ≤ 1000000000000 ∧ l.length ≤ 1000000000000) ∧ (∀ x ∈ h, x.v.length ≤ 1000000000000) ∧ okW l := by
  unfold farF at hf
  simp only [Bool.or_eq_false_iff, decide_eq_false_iff_not] at hf
  obtain ⟨⟨⟨h1, h2⟩, h3⟩, h4⟩ := hf
  rw [List.any_eq_false] at h3 h4
  refine ⟨⟨by omega, by omega⟩, fun x hx => ?_, fun x hx => ?_⟩
  · have := h3 x hx
    simp only [decide_eq_true_eq] at this
    omega
  · have := h4 x hx
    unfold longW at this
    simp only [Bool.or_eq_true, decide_eq_true_eq] at this
    omega
theorem vH (hp : List HO) (j : List SV → List SV) (h : Hal) : lsP 1 encR h.length 1 (fun k => viewL false hp j (encR (h.getD k default))) h := ⟨rfl, rfl, fun k _ => by simp [encR, enc1, viewL, view, leXL, leX, andT]⟩
theorem vW (hp : List HO) (j : List SV → List SV) (h : List Wk) : lsP 4 encK h.length 4 (fun k => viewL false hp j (encK (h.getD k default))) h := ⟨rfl, rfl, fun k _ => by simp [encK, enc1, viewL, view, leXL, leX, andT]⟩
theorem vO (hp : List HO) (j : List SV → List SV) (L : List Int) : lsP 1 enc1 L.length 1 (fun k => viewL false hp j (enc1 (L.getD k default))) L := ⟨rfl, rfl, fun k _ => by simp [enc1, viewL, view, leXL, leX]⟩
def lawC0 : List PSh := [⟨true, shSe⟩]
end Go.Proofs.Yteioilioobichaa

/- Tuning: the law of plans, walked. -/
/- Tuning: the law of plans, walked. -/
set_option linter.all false
namespace Go.Proofs.Yteioilioobichaa
open Go Go.Vx
set_option maxRecDepth 100000
set_option maxHeartbeats 4000000

def v4 : VF := { ntmps := 106, res := [.tmp 2], body :=
 (.seq (.region [u1 1 .box [.tm 0],
 u1 2 .mov [.cn (.bool false)]])
 (.seq (.seq (.region [u1 15 (.fieldAddr 0) [.tm 1],
 u1 16 (.load true 1) [.tm 15],
 u1 17 (.fieldAddr 1) [.tm 1],
 u1 18 (.load false 1) [.tm 17],
 u1 19 (.call 7) [.tm 16, .tm 18],
 u1 20 .mov [.tm 19],
 u2 21 20 false (.fieldAddr 3) [.tm 1],
 u2 22 20 false (.load false 1) [.tm 21],
 u2 23 20 false .len [.tm 22],
 u2 24 20 false (.cmp .gtr) [.tm 23, .cn (.int .i64 100)],
 u1 25 .or [.tm 20, .tm 24]])
 (.cond (.tm 25) (.seq (.region [u1 26 (.call 8) [],
 u1 2 .mov [.tm 26]])
 .ret)
  .skip))
 (.seq (.region [u1 28 (.fieldAddr 0) [.tm 1],
 u1 29 (.load true 1) [.tm 28],
 u1 30 (.fieldAddr 1) [.tm 1],
 u1 31 (.load false 1) [.tm 30],
 u1 32 (.fieldAddr 2) [.tm 1],
 u1 33 (.load false 1) [.tm 32],
 u1 34 (.call 16) [.tm 29, .tm 31, .tm 33],
 u1 27 .mov [.tm 34],
 u1 35 (.ext 0) [.tm 27],
 u1 36 (.ext 1) [.tm 27],
 u1 37 (.ext 2) [.tm 27],
 u1 3 .mov [.tm 35],
 u1 4 .mov [.tm 36],
 u1 5 .mov [.tm 37]])
 (.seq (.region [u1 39 (.fieldAddr 0) [.tm 1],
 u1 40 (.load true 1) [.tm 39],
 u1 41 (.fieldAddr 1) [.tm 1],
 u1 42 (.load false 1) [.tm 41],
 u1 43 (.fieldAddr 2) [.tm 1],
 u1 44 (.load false 1) [.tm 43],
 u1 45 (.call 17) [.tm 40, .tm 42, .tm 44],
 u1 38 .mov [.tm 45],
 u1 46 (.ext 0) [.tm 38],
 u1 47 (.ext 1) [.tm 38],
 u1 48 (.ext 2) [.tm 38],
 u1 6 .mov [.tm 46],
 u1 7 .mov [.tm 47],
 u1 8 .mov [.tm 48]])
 (.seq (.region [u1 50 (.fieldAddr 0) [.tm 1],
 u1 51 (.load true 1) [.tm 50],
 u1 52 (.fieldAddr 1) [.tm 1],
 u1 53 (.load false 1) [.tm 52],
 u1 54 (.fieldAddr 2) [.tm 1],
 u1 55 (.load false 1) [.tm 54],
 u1 56 (.fieldAddr 3) [.tm 1],
 u1 57 (.load false 1) [.tm 56],
 u1 58 (.call 18) [.tm 51, .tm 53, .tm 55, .tm 57],
 u1 49 .mov [.tm 58],
 u1 59 (.ext 0) [.tm 49],
 u1 60 (.ext 1) [.tm 49],
 u1 61 (.ext 2) [.tm 49],
 u1 9 .mov [.tm 59],
 u1 10 .mov [.tm 60],
 u1 11 .mov [.tm 61]])
 (.seq (.region [u1 63 (.fieldAddr 0) [.tm 1],
 u1 64 (.load true 1) [.tm 63],
 u1 65 (.fieldAddr 1) [.tm 1],
 u1 66 (.load false 1) [.tm 65],
 u1 67 (.fieldAddr 2) [.tm 1],
 u1 68 (.load false 1) [.tm 67],
 u1 69 (.fieldAddr 3) [.tm 1],
 u1 70 (.load false 1) [.tm 69],
 u1 71 (.call 19) [.tm 64, .tm 66, .tm 68, .tm 70],
 u1 62 .mov [.tm 71],
 u1 72 (.ext 0) [.tm 62],
 u1 73 (.ext 1) [.tm 62],
 u1 74 (.ext 2) [.tm 62],
 u1 12 .mov [.tm 72],
 u1 13 .mov [.tm 73],
 u1 14 .mov [.tm 74]])
 (.seq (.region [u1 75 .mov [.tm 3],
 u1 76 .mov [.tm 6],
 u1 77 (.call 20) [.tm 75, .tm 76],
 u1 78 .mov [.tm 77],
 u2 79 78 true .mov [.tm 4],
 u2 80 78 true .mov [.tm 7],
 u2 81 78 true (.cmp .eql) [.tm 79, .tm 80],
 u1 82 .and [.tm 78, .tm 81],
 u1 83 .mov [.tm 82],
 u2 84 83 true .mov [.tm 5],
 u2 85 83 true .mov [.tm 8],
 u2 86 83 true (.cmp .eql) [.tm 84, .tm 85],
 u1 87 .and [.tm 83, .tm 86],
 u1 88 .mov [.tm 87],
 u2 89 88 true .mov [.tm 9],
 u2 90 88 true .mov [.tm 12],
 u2 91 88 true (.call 20) [.tm 89, .tm 90],
 u1 92 .and [.tm 88, .tm 91],
 u1 93 .mov [.tm 92],
 u2 94 93 true .mov [.tm 10],
 u2 95 93 true .mov [.tm 13],
 u2 96 93 true (.cmp .eql) [.tm 94, .tm 95],
 u1 97 .and [.tm 93, .tm 96],
 u1 98 .mov [.tm 97],
 u2 99 98 true .mov [.tm 11],
 u2 100 98 true .mov [.tm 14],
 u2 101 98 true (.cmp .eql) [.tm 99, .tm 100],
 u1 102 .and [.tm 98, .tm 101],
 u1 103 .mov [.tm 102],
 u2 104 103 true (.call 8) [],
 u1 105 .and [.tm 103, .tm 104],
 u1 2 .mov [.tm 105]])
 .ret))))))) }
theorem v4_is : vfunc Try.prog Try.f4 = some v4 := by kernel_rfl

theorem rest_len {h : Hal} {l : List Wk} {p : Int} {o : List Int} : (RestF h l p o).1.length ≤ l.length := by
  unfold RestF
  split
  · simp
  · cases befF h l p o with
    | none => simp
    | some s =>
      simp only
      split
      · have h1 := pathG_len (h := h) (l := l) (leftN s l.length) s p
        have h2 := leftN_le (s := s) l.length
        show (pathF h l s p).length ≤ _
        unfold pathF; omega
      · simp
def TU0 : Env := { ct := fun n => match n with | 7 => some farC | 8 => some trueC | 16 => some PlanC | 17 => some PlanC | 18 => some RestC | 19 => some RestC | 20 => some samC | _ => none, fn := fun _ => none, meth := fun _ _ => none }
theorem TU0_ct7 : TU0.ct 7 = some farC := rfl
theorem TU0_ct8 : TU0.ct 8 = some trueC := rfl
theorem TU0_ct16 : TU0.ct 16 = some PlanC := rfl
theorem TU0_ct17 : TU0.ct 17 = some PlanC := rfl
theorem TU0_ct18 : TU0.ct 18 = some RestC := rfl
theorem TU0_ct19 : TU0.ct 19 = some RestC := rfl
theorem TU0_ct20 : TU0.ct 20 = some samC := rfl
theorem TU0_ok : EnvOk Try.prog TU0 := by
  refine ⟨fun f c h => ?_, fun f vf h => ?_, (fun _ _ _ h => by cases h), by kernel_rfl⟩
  · simp only [TU0] at h
    split at h
    · cases h; exact ⟨far_ok, Try.f7, Try.func7, by kernel_rfl, by kernel_rfl⟩
    · cases h; exact ⟨shown_ok, Try.f8, Try.func8, by kernel_rfl, by kernel_rfl⟩
    · cases h; exact ⟨Plan_ok, Try.f16, Try.func16, by kernel_rfl, by kernel_rfl⟩
    · cases h; exact ⟨rPlan_ok, Try.f17, Try.func17, by kernel_rfl, by kernel_rfl⟩
    · cases h; exact ⟨Rest_ok, Try.f18, Try.func18, by kernel_rfl, by kernel_rfl⟩
    · cases h; exact ⟨rRest_ok, Try.f19, Try.func19, by kernel_rfl, by kernel_rfl⟩
    · cases h; exact ⟨sam_ok, Try.f20, Try.func20, by kernel_rfl, by kernel_rfl⟩
    · cases h
  · cases h

theorem lawPlans : (lawC lawC0).ok Try.prog 4 := by
  refine contract Try.func4 v4_is TU0_ok 800 (lawC lawC0) fun args k h => ?_
  obtain ⟨ha, hk⟩ := h
  obtain ⟨_, _, rfl, h1, e1⟩ := okPL_cons_inv ha
  obtain ⟨cs, rfl, hcs⟩ := okP_agg_inv h1
  cases okPL_nil_inv e1
  obtain ⟨zh, zl, zo, h0, l, p, o, r, hle⟩ := se_of hcs
  have hk : k (.bool true) [] := hk
  refine ⟨[.agg (encSe zh zl zo h0 l p o r)], ⟨leXL_le _ _ hle (by simp only [encSe, bndL_cons, bndL_nil, bnd_vs, bnd_int, and_self]), trivial⟩, ?_⟩
  dsimp only [v4, encSe, TU0_ct7, TU0_ct8, TU0_ct16, TU0_ct17, TU0_ct18, TU0_ct19, TU0_ct20, farC, trueC, PlanC, RestC, samC, go_sem, Option.bind, Option.map, List.append_nil, Nat.beq, List.cons_append, List.nil_append, List.append_eq, List.map_cons, List.map_nil, ite_self, reduceIte]
  simp only [true_and, and_true, imp_self, implies_true, decide_eq_true_eq, decide_eq_false_iff_not, Nat.reduceAdd, Nat.reduceLeDiff, Bool.not_not, reduceCtorEq, false_imp_iff, Bool.not_eq_true', Bool.not_eq_false', Bool.false_eq_true, and_self, forall_const, ne_eq, not_false_eq_true, Nat.reduceEqDiff]
  refine ⟨h0, l, ⟨vH _ _ _, vW _ _ _⟩, fun _ => ans_bool hk, fun hb => ?_⟩
  rw [Bool.or_eq_false_iff, decide_eq_false_iff_not] at hb
  have kB := far_no hb.1
  have hol : o.length ≤ 1000000000000 := by omega
  have hr1 := rest_len (h := h0) (l := l) (p := p) (o := [])
  have hr2 := rest_len (h := h0) (l := l) (p := p) (o := o)
  refine ⟨h0, l, ⟨vH _ _ _, vW _ _ _, kB⟩, by decide, by decide, by decide, h0, l, ⟨vH _ _ _, vW _ _ _, kB⟩, by decide, by decide, by decide, h0, l, o, ⟨vH _ _ _, vW _ _ _, vO _ _ _, kB, hol⟩, by decide, by decide, by decide, h0, l, o, ⟨vH _ _ _, vW _ _ _, vO _ _ _, kB, hol⟩, by decide, by decide, by decide, (RestF h0 l p []).1, (RestF h0 l p []).1, ?_⟩
  refine ⟨⟨vO _ _ _, vO _ _ _, by omega⟩, (RestF h0 l p o).1, (RestF h0 l p o).1, fun _ => ⟨vO _ _ _, vO _ _ _, by omega⟩, ans_bool ?_⟩
  simpa using hk
end Go.Proofs.Yteioilioobichaa

/- Laws, as they are given, without a condition. -/
/- Laws, as they are given, without a condition. -/
set_option linter.all false
namespace Go.Proofs.Yteioilioobichaa
open Go Go.Vx Go.RowKit
set_option maxRecDepth 100000

theorem ownX2 : ownKnob Try.prog.godebug = none := by kernel_rfl
theorem laidX2 : laidOutB Try.prog = true := by kernel_rfl

theorem tuningPlans_lifted (os : Os) (started : os.Started) (H : Type) (enc : TypeId × Value → H) :
    ReturnsInHanded {} Try.checked os 4 .any (Rows.tuningPlansSpec.pre6 enc Try.prog Try.f4 Rows.tuningPlansRow.domain false) (Rows.tuningPlansSpec.post enc Try.prog Try.f4 false true false false) :=
  law_lifted (C := Try.checked) (tb := 4) ownX2 started (by kernel_rfl) Try.func4 laidX2
    (ChangeSpec.witness6 (enc := enc) (C := Try.checked) false ⟨#[], #[.agg #[.slice none 0 0, .slice none 0 0, .int .i64 0, .slice none 0 0, .int .i64 0]], []⟩ 8 (by kernel_rfl) (by kernel_rfl) (by kernel_rfl) (by kernel_rfl))
    (by kernel_rfl) (by kernel_rfl) (by kernel_rfl) (by kernel_rfl) rfl (fun ds h => match ds, h with | [_], _ => ⟨rfl, rfl, rfl⟩) lawPlans

theorem tuningPlans_holds : Rows.TuningPlansSaid :=
  OpenClaim.holds_of_wide 4 Try.f4 rfl rfl rfl rfl rfl rfl rfl ⟨rfl, rfl, rfl, rfl, rfl⟩ rfl rfl rfl rfl rfl (by kernel_rfl) Try.func4 (by kernel_rfl)
    (of_decide_eq_true (by kernel_rfl)) (by unfold Func.isWrapper; first | (rw [if_pos (by decide +kernel)]; kernel_rfl) | (rw [if_neg (by decide +kernel)]; exact ⟨rfl, rfl⟩))
    (fun os started H enc _ => tuningPlans_lifted os started H enc)

end Go.Proofs.Yteioilioobichaa

