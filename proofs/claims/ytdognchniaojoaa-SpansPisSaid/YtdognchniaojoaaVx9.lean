/- The executor is sound: a run is a walk. -/
import Derived.Test.YtdognchniaojoaaVx8
import Derived.Sort.LoopGhostIn
import Derived.RangeFuncRecord
import Derived.TacticsIn
import Derived.OrdersIn
set_option linter.all false
namespace Go.Vx
open Go.RowKit
section
variable {P : Program} {E : Env} {Q : SV → List HO → Prop} {vr : List VR} {w0 : World}

theorem run_res : ∀ (n : Nat) {al : Bool} {d : Option Nat} {c : CRes} {K : List It} {s : S}, run E Q vr n (.res none al d c :: K) s →
    CSat c fun r hs => ∃ m, m < n ∧ (al = true → lenH s.hp = 0) ∧ run E Q vr m K (S.put { fr := s.fr, saved := s.saved, hp := s.hp ++ shiftH (lenH s.hp) hs } d (shift (lenH s.hp) r))
  | 0, _, _, _, _, _, h => h.elim
  | n + 1, al, d, c, K, s, h => by
    cases c with
    | fin r hs => exact ⟨n, Nat.lt_succ_self n, h.1, h.2⟩
    | pre p c => exact ⟨h.1, (run_res n h.2).mono fun r hs ⟨m, hm, x⟩ => ⟨m, by omega, x⟩⟩
    | imp p c => exact fun hp => (run_res n (h hp)).mono fun r hs ⟨m, hm, x⟩ => ⟨m, by omega, x⟩
    | all α c => exact fun x => (run_res n (h x)).mono fun r hs ⟨m, hm, x⟩ => ⟨m, by omega, x⟩
    | ex α c => exact let ⟨x, hx⟩ := h; ⟨x, (run_res n hx).mono fun r hs ⟨m, hm, x⟩ => ⟨m, by omega, x⟩⟩

theorem run_resG : ∀ (n : Nat) {gb al : Bool} {d : Option Nat} {c : CRes} {K : List It} {s : S}, run E Q vr n (.res (some gb) al d c :: K) s →
    ∃ m r, m < n ∧ run E Q vr m K (s.put d (.opt gb r)) ∧ (gb = true → CSat c fun r' hs => r = shift (lenH s.hp) r' ∧ hs = [] ∧ (al = true → lenH s.hp = 0))
  | 0, _, _, _, _, _, _, h => h.elim
  | n + 1, gb, al, d, c, K, s, h => by
    cases c with
    | fin r hs =>
      cases hs with
      | nil => exact ⟨n, _, Nat.lt_succ_self n, h.2, fun _ => ⟨rfl, rfl, h.1⟩⟩
      | cons _ _ => exact h.elim
    | pre p c =>
      obtain ⟨m, r, hm, h1, h2⟩ := run_resG n h.2
      exact ⟨m, r, by omega, h1, fun hg => ⟨h.1 hg, h2 hg⟩⟩
    | imp p c => exact h.elim
    | all α c => exact h.elim
    | ex α c =>
      obtain ⟨x, hx⟩ := h
      obtain ⟨m, r, hm, h1, h2⟩ := run_resG n hx
      exact ⟨m, r, by omega, h1, fun hg => ⟨x, h2 hg⟩⟩

abbrev Kont := Exit → Act → World → Prop

/-- A fence that lets all in; whether the frame is a round's. -/
abbrev Wd (r : Option Nat) : Fence := { fn := fun _ => True, depth := none, alive := false, round := r }

theorem callsIn_wd {r : Option Nat} {n : Nat} {f : FuncId} {args : Array Value} {w : World} {R : Ending → World → Prop} (h : Calls P f args w R) : CallsIn (Wd r) n P f args w R :=
  ⟨trivial, fun cs _ => (callsIn_wide (n := n).2 h).2 cs (room_wide _)⟩

theorem callsIn_wd_none {r : Option Nat} {n : Nat} {f : FuncId} {args : Array Value} {w : World} {R : Ending → World → Prop} (h : CallsIn (Wd none) n P f args w R) : CallsIn (Wd r) n P f args w R :=
  ⟨trivial, fun cs hr => h.2 cs hr⟩

theorem calls_of_wd {f : FuncId} {n : Nat} {args : Array Value} {w : World} {R : Ending → World → Prop} (h : CallsIn (Wd none) n P f args w R) : Calls P f args w R := callsIn_wide.1 h

/-- A state stands for an activation, those that wait for it, and a world. -/
def Rl (w0 : Cx) (s : S) (a : Act) (sv : List Act) (w : World) : Prop := Rel w0 ((a :: sv).map (·.defers)) s a.tmps.toList (sv.map (·.tmps.toList)) w

/-- The record of a range over a function. -/
structure Rec where
  fn : FuncId
  ps : List Nat
  ca : Code
  cb : Code
  D : Nat
  tmps : Array Value

def Rec.at (q : Rec) (st : LoopState) (pe : Option Code) : _root_.Go.Loop := { state := st, pending := pe, fn := q.fn, tmps := q.tmps, params := q.ps.toArray, assign := q.ca, body := q.cb, defers := q.D }

/-- How a loop's record stands while its iterator runs: 'j': the jump that a round has left. -/
inductive JRel (P : Program) (q : Rec) : Option VC → _root_.Go.Loop → Prop where
  | none : JRel P q none (q.at .ready none)
  | some (c : Code) (vc : VC) (h : vcode P c = some vc) : JRel P q (some vc) (q.at .done (some c))

inductive KRel (P : Program) (w0 : World) (κ0 : Kont) : List It → List Act → List (Nat × Obj) → Option Nat → Kont → Prop where
  | nil : KRel P w0 κ0 [] [] [] none κ0
  | code (c : Code) (vc : VC) (K : List It) (sv : List Act) (ks : List (Nat × Obj)) (r : Option Nat) (κ : Kont) (h : vcode P c = some vc) (hk : KRel P w0 κ0 K sv ks r κ) : KRel P w0 κ0 (.code vc :: K) sv ks r (Exit.then (c.wpIn (Wd r) 0 P κ) κ)
  | ops (all : Array Oper) (rest : List Oper) (l : List VOp) (K : List It) (sv : List Act) (ks : List (Nat × Obj)) (r : Option Nat) (κ : Kont) (h : vopsOf P all rest = some l) (hk : KRel P w0 κ0 K sv ks r κ) : KRel P w0 κ0 (.ops l :: K) sv ks r (Exit.then (wpListIn (Wd r) 0 P all κ rest) κ)
  | inBlock (id : Nat) (K : List It) (sv : List Act) (ks : List (Nat × Obj)) (r : Option Nat) (κ : Kont) (hk : KRel P w0 κ0 K sv ks r κ) : KRel P w0 κ0 (.inBlock id :: K) sv ks r (Exit.inBlock id κ)
  | inLoop (I : S → Prop) (J : Act → World → Prop) (K : List It) (sv : List Act) (ks : List (Nat × Obj)) (r : Option Nat) (κ : Kont) (hJ : ∀ s a w, I s → Rl ⟨w0, ks⟩ s a sv w → J a w) (hk : KRel P w0 κ0 K sv ks r κ) : KRel P w0 κ0 (.inLoop I :: K) sv ks r (Exit.then J κ)
  | frame (d : Option Nat) (res : List VR) (fn : Func) (sa : Act) (K : List It) (sv : List Act) (ks : List (Nat × Obj)) (r : Option Nat) (κ : Kont) (R : Ending → World → Prop) (h : vress P fn.results.toList = some res)
      (hR : ∀ v w, κ .normal (sa.put d v) w → R (.returned v) w) (hk : KRel P w0 κ0 K sv ks r κ) : KRel P w0 κ0 (.frame d res :: K) (sa :: sv) ks none (bodyPostM (Wd none) 0 P fn R)
  | rfrm (res : List VR) (l : Nat) (q : Rec) (lp : _root_.Go.Loop) (a b : VC) (j : Option VC) (fn : Func) (sa : Act) (K : List It) (sv : List Act) (ks : List (Nat × Obj)) (r : Option Nat) (κ : Kont) (h : vress P fn.results.toList = some res)
      (ps : List Nat) (hps : q.ps = ps) (ht : q.tmps = sa.tmps) (ha : vcode P q.ca = some a) (hb : vcode P q.cb = some b) (hj : JRel P q j lp) (hk : KRel P w0 κ0 K sv ks r κ) :
      KRel P w0 κ0 (.rfrm res l ps a b j :: K) (sa :: sv) ((l, .loop lp) :: ks) none (bodyPostM (Wd none) 0 P fn (rangePost (Wd r) 0 P l κ sa))
  | rbeg (l : Nat) (q : Rec) (K : List It) (sv : List Act) (ks : List (Nat × Obj)) (κ : Kont) (hk : KRel P w0 κ0 K sv ((l, .loop (q.at .busy none)) :: ks) (some l) κ) :
      KRel P w0 κ0 (.rbeg :: K) sv ((l, .loop (q.at .ready none)) :: ks) (some l) (Exit.then (fun a₁ w₁ => ∃ w₂, (Instr.beginRound l).run P w₁ = .ok () w₂ ∧ κ .normal a₁ w₂) (fun _ _ _ => False))
  | rend (d : Option Nat) (l : Nat) (q : Rec) (ita : Act) (K : List It) (sv : List Act) (ks : List (Nat × Obj)) (κ : Kont) (R : Ending → World → Prop) (hR : ∀ v w, κ .normal (ita.put d v) w → R (.returned v) w)
      (hk : KRel P w0 κ0 K sv ((l, .loop (q.at .ready none)) :: ks) none κ) : KRel P w0 κ0 (.rend d :: K) (ita :: sv) ((l, .loop (q.at .busy none)) :: ks) (some l) (roundPost P l R)

/-! ### What a jump meets -/

theorem findR_ok {κ0 : Kont} : ∀ {K : List It} {sv : List Act} {ks : List (Nat × Obj)} {r : Option Nat} {κ : Kont} {l : Nat} {ps : List Nat} {a b : VC}, findR K = some (l, ps, a, b) → KRel P w0 κ0 K sv ks r κ →
    ∃ (q : Rec) (sa : Act) (sv' : List Act) (ks' : List (Nat × Obj)), sv = sa :: sv' ∧ ks = (l, .loop (q.at .ready none)) :: ks' ∧ r = none ∧ q.ps = ps ∧ q.tmps = sa.tmps ∧ vcode P q.ca = some a ∧ vcode P q.cb = some b
  | [], _, _, _, _, _, _, _, _, h, _ => by cases h
  | .code _ :: K, _, _, _, _, _, _, _, _, h, .code _ _ _ _ _ _ _ _ hk => findR_ok (K := K) h hk
  | .ops _ :: K, _, _, _, _, _, _, _, _, h, .ops _ _ _ _ _ _ _ _ _ hk => findR_ok (K := K) h hk
  | .inBlock _ :: K, _, _, _, _, _, _, _, _, h, .inBlock _ _ _ _ _ _ hk => findR_ok (K := K) h hk
  | .inLoop _ :: K, _, _, _, _, _, _, _, _, h, .inLoop _ _ _ _ _ _ _ _ hk => findR_ok (K := K) h hk
  | .frame _ _ :: K, _, _, _, _, _, _, _, _, h, _ => by cases h
  | .rbeg :: K, _, _, _, _, _, _, _, _, h, _ => by cases h
  | .rend _ :: K, _, _, _, _, _, _, _, _, h, _ => by cases h
  | .dops _ :: K, _, _, _, _, _, _, _, _, h, _ => by cases h
  | .res _ _ _ _ :: K, _, _, _, _, _, _, _, _, h, _ => by cases h
  | .rfrm res l ps a b j :: K, _, _, _, _, _, _, _, _, h, .rfrm _ _ q lp _ _ _ _ sa _ sv ks r κ hr _ hps ht ha hb hj hk => by
    cases hj with
    | none => cases h; exact ⟨q, sa, sv, ks, rfl, rfl, rfl, hps, ht, ha, hb⟩
    | some c vc hc => cases h

theorem Rec.at_inj {q q' : Rec} {st st' : LoopState} {pe pe' : Option Code} (h : q.at st pe = q'.at st' pe') : q = q' := by
  obtain ⟨fn, ps, ca, cb, D, tmps⟩ := q
  obtain ⟨fn', ps', ca', cb', D', tmps'⟩ := q'
  simp only [Rec.at, _root_.Go.Loop.mk.injEq] at h
  obtain ⟨_, _, rfl, rfl, h1, rfl, rfl, rfl⟩ := h
  have : ps = ps' := by simpa using h1
  rw [this]

theorem jumpK_rfrm {κ0 : Kont} {l l' : Nat} {q : Rec} {c : Code} {vc a b : VC} {res : List VR} {ps : List Nat} (hc : vcode P c = some vc) {K : List It} {sv : List Act} {ks : List (Nat × Obj)} {r : Option Nat} {κ : Kont} (hk : KRel P w0 κ0 (.rfrm res l' ps a b none :: K) sv ((l, .loop (q.at .ready none)) :: ks) r κ) :
    KRel P w0 κ0 (.rfrm res l' ps a b (some vc) :: K) sv ((l, .loop (q.at .done (some c))) :: ks) r κ := by
  generalize hks : (l, Obj.loop (q.at .ready none)) :: ks = ks0 at hk
  cases hk with
  | rfrm res' l' q' lp a' b' j' fn sa K' sv ks' r κ hr ps' hps ht ha hb hj hk =>
    cases hj
    simp only [List.cons.injEq, Prod.mk.injEq, Obj.loop.injEq] at hks
    obtain ⟨⟨rfl, h2⟩, rfl⟩ := hks
    cases Rec.at_inj h2
    exact .rfrm res l q _ a b (some vc) fn sa K sv ks _ _ hr ps hps ht ha hb (.some c vc hc) hk

theorem jumpK_ok {κ0 : Kont} {l : Nat} {q : Rec} {c : Code} {vc : VC} (hc : vcode P c = some vc) : ∀ {K : List It} {sv : List Act} {ks : List (Nat × Obj)} {r : Option Nat} {κ : Kont}, (findR K).isSome = true → KRel P w0 κ0 K sv ((l, .loop (q.at .ready none)) :: ks) r κ →
    KRel P w0 κ0 (jumpK vc K) sv ((l, .loop (q.at .done (some c))) :: ks) r κ
  | [], _, _, _, _, h, _ => by cases h
  | .code _ :: K, _, _, _, _, h, .code _ _ _ _ _ _ _ hh hk => .code _ _ _ _ _ _ _ hh (jumpK_ok hc (K := K) h hk)
  | .ops _ :: K, _, _, _, _, h, .ops _ _ _ _ _ _ _ _ hh hk => .ops _ _ _ _ _ _ _ _ hh (jumpK_ok hc (K := K) h hk)
  | .inBlock _ :: K, _, _, _, _, h, .inBlock _ _ _ _ _ _ hk => .inBlock _ _ _ _ _ _ (jumpK_ok hc (K := K) h hk)
  | .inLoop _ :: K, _, _, _, _, h, .inLoop _ J _ _ _ _ _ _ hk => .inLoop (fun _ => False) J _ _ _ _ _ (fun _ _ _ hI _ => hI.elim) (jumpK_ok hc (K := K) h hk)
  | .frame _ _ :: K, _, _, _, _, h, _ => by cases h
  | .rbeg :: K, _, _, _, _, h, _ => by cases h
  | .rend _ :: K, _, _, _, _, h, _ => by cases h
  | .dops _ :: K, _, _, _, _, h, _ => by cases h
  | .res _ _ _ _ :: K, _, _, _, _, h, _ => by cases h
  | .rfrm _ _ _ _ _ (some _) :: K, _, _, _, _, h, _ => by cases h
  | .rfrm _ _ _ _ _ none :: K, sv, ks, r, κ, h, hk => jumpK_rfrm hc hk

theorem popTo_ok {κ0 : Kont} {id : Nat} : ∀ {K K' : List It} {sv : List Act} {ks : List (Nat × Obj)} {r : Option Nat} {κ : Kont}, popTo id K = .go K' → KRel P w0 κ0 K sv ks r κ → ∃ κ', KRel P w0 κ0 K' sv ks r κ' ∧ ∀ a w, κ' .normal a w → κ (.exit id) a w
  | [], _, _, _, _, _, h, _ => by cases h
  | .inBlock j :: K, K', sv, _, _, _, h, .inBlock _ _ _ _ _ κ hk => by
    simp only [popTo] at h
    cases hb : Nat.beq j id with
    | true =>
      rw [hb] at h; cases h
      have := Nat.eq_of_beq_eq_true hb; subst this
      exact ⟨κ, hk, fun a w hq => by simpa [Exit.inBlock] using hq⟩
    | false =>
      rw [hb] at h
      obtain ⟨κ', h1, h2⟩ := popTo_ok h hk
      refine ⟨κ', h1, fun a w hq => ?_⟩
      have hne : id ≠ j := fun he => beq_false hb he.symm
      simpa [Exit.inBlock, hne] using h2 a w hq
  | .code _ :: K, K', _, _, _, _, h, .code _ _ _ _ _ _ κ _ hk => let ⟨κ', h1, h2⟩ := popTo_ok (show popTo id K = .go K' from h) hk; ⟨κ', h1, fun a w hq => h2 a w hq⟩
  | .ops _ :: K, K', _, _, _, _, h, .ops _ _ _ _ _ _ _ κ _ hk => let ⟨κ', h1, h2⟩ := popTo_ok (show popTo id K = .go K' from h) hk; ⟨κ', h1, fun a w hq => h2 a w hq⟩
  | .inLoop _ :: K, K', _, _, _, _, h, .inLoop _ _ _ _ _ _ κ _ hk => let ⟨κ', h1, h2⟩ := popTo_ok (show popTo id K = .go K' from h) hk; ⟨κ', h1, fun a w hq => h2 a w hq⟩
  | .frame _ _ :: K, K', _, _, _, _, h, _ => by cases h
  | .rfrm .. :: K, K', _, _, _, _, h, _ => by cases h
  | .rbeg :: K, K', _, _, _, _, h, _ => by cases h
  | .rend _ :: K, K', _, _, _, _, h, _ => by simp only [popTo, jumpPT] at h; split at h <;> cases h
  | .dops _ :: K, K', _, _, _, _, h, _ => by cases h
  | .res _ _ _ _ :: K, K', _, _, _, _, h, _ => by cases h

/-- A jump out of a round. -/
structure Jumps (P : Program) (w0 : World) (κ0 : Kont) (K' : List It) (d : Option Nat) (sv : List Act) (ks : List (Nat × Obj)) (r : Option Nat) (f : Act → World → Prop) : Prop where
  mk :: (h : ∃ (c : Code) (q : Rec) (l : Nat) (ita : Act) (sv' : List Act) (ks' : List (Nat × Obj)) (κ' : Kont), sv = ita :: sv' ∧ ks = (l, .loop (q.at .busy none)) :: ks' ∧ r = some l ∧ KRel P w0 κ0 K' sv' ((l, .loop (q.at .done (some c))) :: ks') none κ' ∧
    ∀ a w v w', (Instr.endRound l (some c)).run P w = .ok v w' → κ' .normal (ita.put d v) w' → f a w)

theorem popTo_jump {κ0 : Kont} {id : Nat} {d : Option Nat} : ∀ {K K' : List It} {sv : List Act} {ks : List (Nat × Obj)} {r : Option Nat} {κ : Kont}, popTo id K = .jump d K' → KRel P w0 κ0 K sv ks r κ → Jumps P w0 κ0 K' d sv ks r (κ (.exit id))
  | [], _, _, _, _, _, h, _ => by cases h
  | .inBlock j :: K, K', sv, _, _, _, h, .inBlock _ _ _ _ _ κ hk => by
    simp only [popTo] at h
    cases hb : Nat.beq j id with
    | true => rw [hb] at h; cases h
    | false =>
      rw [hb] at h
      have hne : id ≠ j := fun he => beq_false hb he.symm
      have := popTo_jump h hk
      have e : Exit.inBlock j κ (.exit id) = κ (.exit id) := by funext a w; simp [Exit.inBlock, hne]
      rw [e]; exact this
  | .code _ :: K, K', _, _, _, _, h, .code _ _ _ _ _ _ κ _ hk => popTo_jump (κ := κ) (show popTo id K = .jump d K' from h) hk
  | .ops _ :: K, K', _, _, _, _, h, .ops _ _ _ _ _ _ _ κ _ hk => popTo_jump (κ := κ) (show popTo id K = .jump d K' from h) hk
  | .inLoop _ :: K, K', _, _, _, _, h, .inLoop _ _ _ _ _ _ κ _ hk => popTo_jump (κ := κ) (show popTo id K = .jump d K' from h) hk
  | .frame _ _ :: K, K', _, _, _, _, h, _ => by cases h
  | .rfrm .. :: K, K', _, _, _, _, h, _ => by cases h
  | .rbeg :: K, K', _, _, _, _, h, _ => by cases h
  | .rend _ :: K, K', _, _, _, _, h, .rend _ l q ita _ sv ks κ R hR hk => by
    simp only [popTo] at h
    cases hf : findR K with
    | none => rw [hf] at h; cases h
    | some x =>
      rw [hf] at h; cases h
      exact ⟨.exit id, q, l, ita, sv, ks, κ, rfl, rfl, rfl, jumpK_ok rfl (by rw [hf]; rfl) hk, fun a w v w' h1 h2 => ⟨v, w', h1, hR v w' h2⟩⟩
  | .dops _ :: K, K', _, _, _, _, h, _ => by cases h
  | .res _ _ _ _ :: K, K', _, _, _, _, h, _ => by cases h

theorem popRet_ok {fn0 : Func} {R0 : Ending → World → Prop} : ∀ {K K' : List It} {sv : List Act} {ks : List (Nat × Obj)} {r : Option Nat} {κ : Kont}, popRet K = .go K' → KRel P w0 (bodyPostM (Wd none) 0 P fn0 R0) K sv ks r κ → ∃ κ', KRel P w0 (bodyPostM (Wd none) 0 P fn0 R0) K' sv ks r κ' ∧ ∀ a w, κ' .normal a w → κ .ret a w
  | [], _, _, _, _, _, h, .nil => by cases h; exact ⟨_, .nil, fun _ _ h => h⟩
  | .inBlock j :: K, K', sv, _, _, _, h, .inBlock _ _ _ _ _ κ hk => let ⟨κ', h1, h2⟩ := popRet_ok (show popRet K = .go K' from h) hk; ⟨κ', h1, fun a w hq => h2 a w hq⟩
  | .code _ :: K, K', _, _, _, _, h, .code _ _ _ _ _ _ κ _ hk => let ⟨κ', h1, h2⟩ := popRet_ok (show popRet K = .go K' from h) hk; ⟨κ', h1, fun a w hq => h2 a w hq⟩
  | .ops _ :: K, K', _, _, _, _, h, .ops _ _ _ _ _ _ _ κ _ hk => let ⟨κ', h1, h2⟩ := popRet_ok (show popRet K = .go K' from h) hk; ⟨κ', h1, fun a w hq => h2 a w hq⟩
  | .inLoop _ :: K, K', _, _, _, _, h, .inLoop _ _ _ _ _ _ κ _ hk => let ⟨κ', h1, h2⟩ := popRet_ok (show popRet K = .go K' from h) hk; ⟨κ', h1, fun a w hq => h2 a w hq⟩
  | .frame d r :: K, _, _, _, _, _, h, .frame _ _ fn sa _ sv ks r' κ R hh hR hk => by cases h; exact ⟨_, .frame d r fn sa K sv ks r' κ R hh hR hk, fun _ _ h => h⟩
  | .rfrm res l ps a b j :: K, _, _, _, _, _, h, .rfrm _ _ q lp _ _ _ fn sa _ sv ks r κ hr _ hps ht ha hb hj hk => by cases h; exact ⟨_, .rfrm res l q lp a b j fn sa K sv ks r κ hr ps hps ht ha hb hj hk, fun _ _ h => h⟩
  | .rbeg :: K, _, _, _, _, _, h, _ => by cases h
  | .rend _ :: K, _, _, _, _, _, h, _ => by simp only [popRet, jumpPT] at h; split at h <;> cases h
  | .dops _ :: K, _, _, _, _, _, h, _ => by cases h
  | .res _ _ _ _ :: K, _, _, _, _, _, h, _ => by cases h

theorem popRet_jump {κ0 : Kont} {d : Option Nat} : ∀ {K K' : List It} {sv : List Act} {ks : List (Nat × Obj)} {r : Option Nat} {κ : Kont}, popRet K = .jump d K' → KRel P w0 κ0 K sv ks r κ → Jumps P w0 κ0 K' d sv ks r (κ .ret)
  | [], _, _, _, _, _, h, _ => by cases h
  | .inBlock j :: K, K', sv, _, _, _, h, .inBlock _ _ _ _ _ κ hk => popRet_jump (κ := κ) (show popRet K = .jump d K' from h) hk
  | .code _ :: K, K', _, _, _, _, h, .code _ _ _ _ _ _ κ _ hk => popRet_jump (κ := κ) (show popRet K = .jump d K' from h) hk
  | .ops _ :: K, K', _, _, _, _, h, .ops _ _ _ _ _ _ _ κ _ hk => popRet_jump (κ := κ) (show popRet K = .jump d K' from h) hk
  | .inLoop _ :: K, K', _, _, _, _, h, .inLoop _ _ _ _ _ _ κ _ hk => popRet_jump (κ := κ) (show popRet K = .jump d K' from h) hk
  | .frame _ _ :: K, K', _, _, _, _, h, _ => by cases h
  | .rfrm .. :: K, K', _, _, _, _, h, _ => by cases h
  | .rbeg :: K, K', _, _, _, _, h, _ => by cases h
  | .rend _ :: K, K', _, _, _, _, h, .rend _ l q ita _ sv ks κ R hR hk => by
    simp only [popRet] at h
    cases hf : findR K with
    | none => rw [hf] at h; cases h
    | some x =>
      rw [hf] at h; cases h
      exact ⟨.ret, q, l, ita, sv, ks, κ, rfl, rfl, rfl, jumpK_ok rfl (by rw [hf]; rfl) hk, fun a w v w' h1 h2 => ⟨v, w', h1, hR v w' h2⟩⟩
  | .dops _ :: K, K', _, _, _, _, h, _ => by cases h
  | .res _ _ _ _ :: K, K', _, _, _, _, h, _ => by cases h

/-- Is the frame on top a round's? -/
theorem notRound_ok {κ0 : Kont} : ∀ {K : List It} {sv : List Act} {ks : List (Nat × Obj)} {r : Option Nat} {κ : Kont}, notRound K = true → KRel P w0 κ0 K sv ks r κ → r = none
  | [], _, _, _, _, _, .nil => rfl
  | .code _ :: K, _, _, _, _, h, .code _ _ _ _ _ _ _ _ hk => notRound_ok (K := K) h hk
  | .ops _ :: K, _, _, _, _, h, .ops _ _ _ _ _ _ _ _ _ hk => notRound_ok (K := K) h hk
  | .inBlock _ :: K, _, _, _, _, h, .inBlock _ _ _ _ _ _ hk => notRound_ok (K := K) h hk
  | .inLoop _ :: K, _, _, _, _, h, .inLoop _ _ _ _ _ _ _ _ hk => notRound_ok (K := K) h hk
  | .frame _ _ :: _, _, _, _, _, _, .frame .. => rfl
  | .rfrm .. :: _, _, _, _, _, _, .rfrm .. => rfl
  | .rbeg :: K, _, _, _, _, h, _ => by cases h
  | .rend _ :: K, _, _, _, _, h, _ => by cases h

theorem load_core {hp : List HO} {bs : List BK} {B : Nat} {w : World} {t : TypeId} {agg : Bool} {size : Nat} {x : SV} {u : Value} {e : Ef} (ha : aggOf P t = some agg) (hs : sizeOf? P t = some size)
    (h1 : agg = false → size = 1) (he : eLoad hp agg size [x] = some e) (hpre : e.pre) (hx : RepL w bs B [x] [u]) (hH : Hp w bs B hp) : ∃ ad v, u = .pointer (some ad) ∧ (loadVar t ad).run P w = .ok v w ∧ Rep w bs B e.val v := by
  have hq := load_ok (P := P) (ρ := fun _ => u) (x := .tmp 0) ha hs h1 he hpre hx hH
  obtain ⟨_, v, hrun, hr⟩ := hq
  simp only [eLoad] at he
  obtain ⟨⟨p, cs⟩, hc, he⟩ := Option.bind_eq_some_iff.1 he
  cases pure1_inv he
  obtain ⟨v', _, hv, hx1, _⟩ := hx.cons_inv
  cases hv
  obtain ⟨ad, vals, hv, _⟩ := cellsAt_ok hc hpre.1 hx1 hH
  subst hv
  refine ⟨ad, v, rfl, ?_, hr⟩
  have h2 := hrun none 0 "" #[] none
  simp only [execOp, Instr.loadAt, Instr.sureAddr, Sem.run_bind, Sem.run_pure, Result.andThen_ok] at h2
  generalize (loadVar t ad).run P w = rr at h2
  cases rr with
  | ok a w2 => simp only [Result.andThen_ok, Result.ok.injEq, Next.value.injEq] at h2; rw [h2.1, h2.2]
  | halt a w2 => simp at h2

def rv (tmps : Array Value) : ResultVar → Sem Value
  | .tmp t => pure (tmps.getD t undef)
  | .cell a t => do loadVar t (← asAddr (tmps.getD a undef))

theorem results_rv (fn : Func) (tmps : Array Value) : results fn tmps = (do let vs ← fn.results.mapM (rv tmps); pure (if h : vs.size = 1 then vs[0] else .tuple vs)) := rfl

/-- The results. -/
theorem resVals_ok {s : S} {a : Act} {bs : List BK} {w : World} (hf : RepL w bs w0.heap.size s.fr a.tmps.toList) (hH : Hp w bs w0.heap.size s.hp) : ∀ {rs : List ResultVar} {vs : List VR} {p : Prop} {xs : List SV}, vress P rs = some vs → resVals s vs = some (p, xs) → p →
    ∃ us, (rs.mapM (rv a.tmps)).run P w = .ok us w ∧ RepL w bs w0.heap.size xs us
  | [], vs, p, xs, h, h', hp => by
    simp only [vress, Option.some.injEq] at h; subst h
    simp only [resVals, Option.some.injEq, Prod.mk.injEq] at h'
    obtain ⟨_, rfl⟩ := h'
    exact ⟨[], by simp, .nil⟩
  | r :: rs, vs, p, xs, h, h', hp => by
    simp only [vress] at h
    obtain ⟨x, hx, h⟩ := Option.bind_eq_some_iff.1 h
    obtain ⟨vs', hvs, rfl⟩ := Option.map_eq_some_iff.1 h
    simp only [resVals] at h'
    obtain ⟨⟨p1, v1⟩, hv1, h'⟩ := Option.bind_eq_some_iff.1 h'
    obtain ⟨⟨q, l⟩, hl, h'⟩ := Option.map_eq_some_iff.1 h'
    simp only [Prod.mk.injEq] at h'
    obtain ⟨rfl, rfl⟩ := h'
    obtain ⟨us, hus, hr⟩ := resVals_ok hf hH hvs hl hp.2
    cases r with
    | tmp t =>
      simp only [vres, Option.some.injEq] at hx; subst hx
      simp only [resVal, Option.some.injEq, Prod.mk.injEq] at hv1
      obtain ⟨_, rfl⟩ := hv1
      refine ⟨a.tmps.getD t undef :: us, ?_, .cons _ _ _ _ ?_ hr⟩
      · simp only [List.mapM_cons, rv, Sem.run_bind, Sem.run_pure, Result.andThen_ok, hus]
      · have := hf.get t (d := undef)
        simpa [Array.getD_eq_getD_getElem?, List.getD] using this
    | cell ad t =>
      simp only [vres] at hx
      obtain ⟨g, hg, hx⟩ := Option.bind_eq_some_iff.1 hx
      obtain ⟨sz, hsz, hx⟩ := Option.bind_eq_some_iff.1 hx
      split at hx <;> cases hx
      simp only [resVal] at hv1
      obtain ⟨e, he, hv1⟩ := Option.map_eq_some_iff.1 hv1
      simp only [Prod.mk.injEq] at hv1
      obtain ⟨rfl, rfl⟩ := hv1
      have hrep : Rep w bs w0.heap.size (getL s.fr ad) (a.tmps.getD ad undef) := by
        have := hf.get ad (d := undef)
        simpa [Array.getD_eq_getD_getElem?, List.getD] using this
      obtain ⟨adr, v, hptr, hrun, hrv⟩ := load_core (P := P) hg hsz (chk_inv ‹_›) he hp.1 (RepL.cons _ _ _ _ hrep .nil) hH
      refine ⟨v :: us, ?_, .cons _ _ _ _ hrv hr⟩
      have e1 : (asAddr (.pointer (some adr))).run P w = .ok adr w := rfl
      simp only [List.mapM_cons, rv, Sem.run_bind, hptr, e1, Sem.run_pure, Result.andThen_ok, hrun, hus]

theorem results_ok {fn : Func} {s : S} {a : Act} {bs : List BK} {w : World} (hf : RepL w bs w0.heap.size s.fr a.tmps.toList) (hH : Hp w bs w0.heap.size s.hp) {vs : List VR} {p : Prop} {xs : List SV} (h : vress P fn.results.toList = some vs) (h' : resVals s vs = some (p, xs)) (hp : p) :
    ∃ v, (results fn a.tmps).run P w = .ok v w ∧ Rep w bs w0.heap.size (tupled xs) v := by
  obtain ⟨us, hus, hr⟩ := resVals_ok hf hH h h' hp
  have hm : (fn.results.mapM (rv a.tmps)).run P w = .ok us.toArray w := by
    rw [Array.mapM_eq_mapM_toList]
    simp only [Sem.run_map, hus, Result.andThen_ok]
  refine ⟨if h : us.toArray.size = 1 then us.toArray[0] else .tuple us.toArray, ?_, ?_⟩
  · rw [results_rv]
    simp only [Sem.run_bind, hm, Result.andThen_ok, Sem.run_pure]
  · cases hr with
    | nil => exact .tup _ _ .nil
    | cons x v l us h1 h2 =>
      cases h2 with
      | nil => simpa [tupled] using h1
      | cons x' v' l' us' h3 h4 => 
        have := Rep.tup _ _ (RepL.cons _ _ _ _ h1 (RepL.cons _ _ _ _ h3 h4))
        simpa [tupled] using this

end
end Go.Vx
