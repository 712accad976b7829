/- Data that came in, as the executor's values: by shapes of types. -/
import Derived.Test.YtdognchniaojoaaVx14
import Derived.ProofKit
import Derived.Deep.Slices
set_option linter.all false
namespace Go.Vx
open Go.RowKit Go.WideShapes Go.ChangeShapes

/-- The shape of one cell. -/
inductive Sh where
  | int (k : IntKind)
  | bool
  | str
  | slice (l : List Sh)

def lenSh : List Sh → Nat
  | [] => 0
  | _ :: l => lenSh l + 1

mutual
/-- A value of a shape: nothing of new memory is told. -/
def okS : Sh → SV → Prop
  | .int k, v => ∃ n, v = .int k n ∧ (Lit.int k n).wf = true
  | .bool, v => ∃ b, v = .bool b
  | .str, v => ∃ s : ByteArray, v = .val (.string s) ∧ s.size ≤ maxLen
  | .slice l, v => ∃ z n get, v = .vs false z n (lenSh l) get ∧ n ≤ maxLen ∧ ∀ k, k < n → okSL l (get k)
def okSL : List Sh → List SV → Prop
  | [], [] => True
  | s :: l, v :: r => okS s v ∧ okSL l r
  | _, _ => False
end

def flatFields (P : Program) (fl : TypeId → Option (List Sh)) : Nat → List Field → Option (List Sh)
  | _, [] => some []
  | off, f :: fs => bif Nat.beq f.offset off then (fl f.type).bind fun l => bif Nat.beq (lenSh l) (P.cellsOf f.type) then (flatFields P fl (off + P.cellsOf f.type) fs).map (l ++ ·) else none else none

def repSh : Nat → List Sh → List Sh
  | 0, _ => []
  | n + 1, l => l ++ repSh n l

def flat (P : Program) : Nat → TypeId → Option (List Sh)
  | 0, _ => none
  | n + 1, t => match P.underlying t with
    | some (.int k) => some [.int k]
    | some .bool => some [.bool]
    | some .string => some [.str]
    | some (.slice e) => (flat P n e).bind fun l => bif Nat.beq (lenSh l) (P.cellsOf e) then (bif Nat.ble 1 (lenSh l) then some [.slice l] else none) else none
    | some (.struct fs) => (flatFields P (flat P n) 0 fs.toList).bind fun l => bif Nat.beq (lenSh l) (P.cellsOf t) then some l else none
    | some (.array m e) => (flat P n e).bind fun l => bif Nat.beq (lenSh l) (P.cellsOf e) then (bif Nat.beq (m * P.cellsOf e) (P.cellsOf t) then some (repSh m l) else none) else none
    | _ => none

theorem lenSh_app : ∀ (a b : List Sh), lenSh (a ++ b) = lenSh a + lenSh b
  | [], b => by simp [lenSh]
  | _ :: a, b => by simp [lenSh, lenSh_app a b]; omega

theorem okSL_app : ∀ {a b : List Sh} {x y : List SV}, okSL a x → okSL b y → okSL (a ++ b) (x ++ y)
  | [], _, [], _, _, h => h
  | [], _, _ :: _, _, h, _ => h.elim
  | _ :: _, _, [], _, h, _ => h.elim
  | _ :: _, _, _ :: _, _, h, h' => ⟨h.1, okSL_app h.2 h'⟩

theorem okSL_len : ∀ {a : List Sh} {x : List SV}, okSL a x → lenL x = lenSh a
  | [], [], _ => rfl
  | [], _ :: _, h => h.elim
  | _ :: _, [], h => h.elim
  | _ :: _, _ :: _, h => by simp [lenL, lenSh, okSL_len h.2]

section
variable {H : Type} {enc : TypeId × Value → H} {P : Program} {w : World} {B : Nat} {base : Nat} {spare : Nat → Bool} {held : Bool}

theorem XRepL.append : ∀ {l r : List SV} {vs us : List Value}, XRepL w [] B l vs → XRepL w [] B r us → XRepL w [] B (l ++ r) (vs ++ us)
  | _, _, _, _, .nil, h => h
  | _, _, _, _, .cons x v l vs h h', hr => .cons _ _ _ _ h (XRepL.append h' hr)

theorem flatFields_rep {fl : TypeId → Option (List Sh)} {fuel : Nat} {cs : List Value}
    (ih : ∀ (t : TypeId) (cs : List Value) (x : DataW H × List MemPlace) (l : List Sh), fl t = some l → DataW.trod enc P w base spare held fuel t cs = some x → ∃ svs, XRepL w [] B svs cs ∧ okSL l svs) :
    ∀ (fs : List Field) (off : Nat) (l : List Sh), flatFields P fl off fs = some l → (∀ f ∈ fs, ∃ x, DataW.trod enc P w base spare held fuel f.type ((cs.drop f.offset).take (P.cellsOf f.type)) = some x) → off + lenSh l = cs.length →
      ∃ svs, XRepL w [] B svs (cs.drop off) ∧ okSL l svs
  | [], off, l, h, _, hl => by
    simp only [flatFields, Option.some.injEq] at h
    subst h
    simp only [lenSh, Nat.add_zero] at hl
    refine ⟨[], ?_, trivial⟩
    rw [List.drop_of_length_le (by omega)]; exact .nil
  | f :: fs, off, l, h, hall, hl => by
    unfold flatFields at h
    cases hb : Nat.beq f.offset off with
    | false => rw [hb] at h; cases h
    | true =>
      rw [hb] at h
      have ho := Nat.eq_of_beq_eq_true hb
      obtain ⟨l1, h1, h⟩ := Option.bind_eq_some_iff.1 h
      cases hb2 : Nat.beq (lenSh l1) (P.cellsOf f.type) with
      | false => rw [hb2] at h; cases h
      | true =>
        rw [hb2] at h
        have hsz := Nat.eq_of_beq_eq_true hb2
        obtain ⟨l2, h2, rfl⟩ := Option.map_eq_some_iff.1 h
        obtain ⟨x, hx⟩ := hall f List.mem_cons_self
        obtain ⟨s1, r1, o1⟩ := ih _ _ _ _ h1 hx
        obtain ⟨s2, r2, o2⟩ := flatFields_rep ih fs _ _ h2 (fun g hg => hall g (List.mem_cons_of_mem _ hg)) (by rw [lenSh_app] at hl; omega)
        refine ⟨s1 ++ s2, ?_, okSL_app o1 o2⟩
        have := r1.append r2
        rw [ho] at this
        have e : (cs.drop off).take (P.cellsOf f.type) ++ cs.drop (off + P.cellsOf f.type) = cs.drop off := by
          rw [← List.drop_drop]; exact List.take_append_drop _ _
        rwa [e] at this

theorem flatArr_rep {fuel : Nat} {cs : List Value} {e : TypeId} {l : List Sh} (hs : lenSh l = P.cellsOf e)
    (ih : ∀ (cs : List Value) (x : DataW H × List MemPlace), DataW.trod enc P w base spare held fuel e cs = some x → ∃ svs, XRepL w [] B svs cs ∧ okSL l svs) :
    ∀ (k j : Nat), (∀ i, j ≤ i → i < j + k → ∃ x, DataW.trod enc P w base spare held fuel e ((cs.drop (i * P.cellsOf e)).take (P.cellsOf e)) = some x) → j * P.cellsOf e + k * P.cellsOf e = cs.length →
      ∃ svs, XRepL w [] B svs (cs.drop (j * P.cellsOf e)) ∧ okSL (repSh k l) svs
  | 0, j, _, hl => by
    refine ⟨[], ?_, trivial⟩
    rw [List.drop_of_length_le (by omega)]; exact .nil
  | k + 1, j, hall, hl => by
    obtain ⟨x, hx⟩ := hall j (Nat.le_refl _) (by omega)
    obtain ⟨s1, r1, o1⟩ := ih _ _ hx
    obtain ⟨s2, r2, o2⟩ := flatArr_rep hs ih k (j + 1) (fun i h1 h2 => hall i (by omega) (by omega)) (by rw [Nat.succ_mul] at hl ⊢; omega)
    refine ⟨s1 ++ s2, ?_, okSL_app o1 o2⟩
    have := r1.append r2
    have e : (cs.drop (j * P.cellsOf e)).take (P.cellsOf e) ++ cs.drop ((j + 1) * P.cellsOf e) = cs.drop (j * P.cellsOf e) := by
      rw [Nat.succ_mul, ← List.drop_drop]; exact List.take_append_drop _ _
    rwa [e] at this

theorem mapM_some {α β : Type} {g : α → Option β} : ∀ {l : List α} {r : List β}, l.mapM g = some r → ∀ x ∈ l, ∃ y, g x = some y
  | [], _, _, x, hx => by cases hx
  | a :: l, r, h, x, hx => by
    rw [List.mapM_cons] at h
    cases ha : g a with
    | none => rw [ha] at h; cases h
    | some y =>
      rw [ha] at h
      cases hl : l.mapM g with
      | none => rw [hl] at h; cases h
      | some ys =>
        rcases List.mem_cons.1 hx with rfl | hx
        · exact ⟨y, ha⟩
        · exact mapM_some hl x hx

theorem cells_get {a : Addr} {n : Nat} {cs : List Value} (h : w.cells? base a n = some cs) : cs.length = n ∧ ∀ j v, cs[j]? = some v → w.cell? (a.add j) = some v := by
  unfold World.cells? at h
  split at h
  · have key : ∀ (l : List Nat) (r : List Value), l.mapM (fun i => w.cell? (a.add i)) = some r → r.length = l.length ∧ ∀ (j : Nat) (v : Value), r[j]? = some v → ∃ i, l[j]? = some i ∧ w.cell? (a.add i) = some v := by
      intro l
      induction l with
      | nil => intro r h; simp at h; subst h; exact ⟨rfl, fun j v h => by simp at h⟩
      | cons i l ih =>
        intro r h
        rw [List.mapM_cons] at h
        cases hi : w.cell? (a.add i) with
        | none => rw [hi] at h; cases h
        | some v0 =>
          rw [hi] at h
          cases hl : l.mapM (fun i => w.cell? (a.add i)) with
          | none => rw [hl] at h; cases h
          | some r' =>
            rw [hl] at h
            cases h
            obtain ⟨h1, h2⟩ := ih r' hl
            refine ⟨by simp [h1], fun j v hj => ?_⟩
            cases j with
            | zero => simp only [List.getElem?_cons_zero, Option.some.injEq] at hj; subst hj; exact ⟨i, rfl, hi⟩
            | succ j => obtain ⟨i', k1, k2⟩ := h2 j v (by simpa using hj); exact ⟨i', by simpa using k1, k2⟩
    obtain ⟨h1, h2⟩ := key _ _ h
    refine ⟨by simpa using h1, fun j v hj => ?_⟩
    obtain ⟨i, k1, k2⟩ := h2 j v hj
    have : j < n := by
      have := (List.getElem?_eq_some_iff.1 hj).1
      simp at h1; omega
    rw [List.getElem?_range this] at k1
    cases k1; exact k2
  · cases h

theorem cell_block {a : Addr} {v : Value} (h : w.cell? a = some v) : a.spot = none ∧ ∃ cs T fz, w.heap[a.block]? = some (.cells cs T fz) ∧ cs[a.off]? = some v := by
  unfold World.cell? at h
  split at h
  · split at h
    · cases h
    · rename_i hs
      exact ⟨by cases hq : a.spot with | none => rfl | some _ => rw [hq] at hs; simp at hs, _, _, _, ‹_›, h⟩
  · cases h

theorem trod_rep : ∀ (n fuel : Nat) (t : TypeId) (cs : List Value) (x : DataW H × List MemPlace) (l : List Sh), flat P n t = some l → DataW.trod enc P w base spare held fuel t cs = some x → ∃ svs, XRepL w [] B svs cs ∧ okSL l svs := by
  intro n
  induction n with
  | zero => intro fuel t cs x l h; cases h
  | succ n ih =>
    intro fuel t cs x l h hx
    unfold flat at h
    split at h
    · rename_i k hu
      cases h
      obtain ⟨m, rfl, _, hw⟩ := DataW.trod_int hu hx
      exact ⟨[.int k m], .cons _ _ _ _ (.int _ _) .nil, ⟨m, rfl, hw⟩, trivial⟩
    · rename_i hu
      cases h
      obtain ⟨b, rfl, _⟩ := DataW.trod_bool hu hx
      exact ⟨[.bool b], .cons _ _ _ _ (.bool _) .nil, ⟨b, rfl⟩, trivial⟩
    · rename_i hu
      cases h
      obtain ⟨s, rfl, _, hs⟩ := DataW.trod_string hu hx
      exact ⟨[.val (.string s)], .cons _ _ _ _ (.val _) .nil, ⟨s, rfl, hs⟩, trivial⟩
    · rename_i e hu
      obtain ⟨le, he, h⟩ := Option.bind_eq_some_iff.1 h
      cases hb : Nat.beq (lenSh le) (P.cellsOf e) with
      | false => rw [hb] at h; cases h
      | true =>
      rw [hb] at h
      have hsz := Nat.eq_of_beq_eq_true hb
      cases hb1 : Nat.ble 1 (lenSh le) with
      | false => rw [hb1] at h; cases h
      | true =>
      rw [hb1] at h
      have hpos := Nat.le_of_ble_eq_true hb1
      cases h
      rcases Deep.open_slice hu hx with ⟨rfl, _⟩ | ⟨a, len, cap, m, fu, D, Pl, rfl, hba, hlc, hcm, hm, _, hel⟩
      · exact ⟨[.vs false true 0 (lenSh le) fun _ => []], .cons _ _ _ _ (.vs _ _ _ _ _ none 0 (fun _ => []) rfl (Nat.le_refl _) (fun _ => ⟨rfl, rfl⟩) (fun k hk => by omega) (fun k hk => by omega)) .nil,
          ⟨true, 0, _, rfl, Nat.zero_le _, fun k hk => by omega⟩, trivial⟩
      · have hlm : len ≤ m := by rw [hm]; split <;> omega
        have hel' : ∀ k, ∃ vals svs, k < len → w.cells? base (a.add (k * P.cellsOf e)) (P.cellsOf e) = some vals ∧ XRepL w [] B svs vals ∧ okSL le svs := by
          intro k
          by_cases hk : k < len
          · obtain ⟨cs', h1, h2⟩ := hel k (by omega)
            obtain ⟨svs, h3, h4⟩ := ih fu e cs' _ _ he h2
            exact ⟨cs', svs, fun _ => ⟨h1, h3, h4⟩⟩
          · exact ⟨[], [], fun h => absurd h hk⟩
        obtain ⟨vals, hv⟩ := Classical.axiomOfChoice hel'
        obtain ⟨get, hg⟩ := Classical.axiomOfChoice hv
        refine ⟨[.vs false false len (lenSh le) get], .cons _ _ _ _ (.vs _ _ _ _ _ (some a) cap vals rfl hlc (fun h => by cases h) (fun k hk => ?_) (fun k hk => (hg k hk).2.1)) .nil, ⟨false, len, get, rfl, by omega, fun k hk => (hg k hk).2.2⟩, trivial⟩
        have h0 := (hg 0 (by omega)).1
        obtain ⟨l0, c0⟩ := cells_get h0
        have hsp : a.spot = none := by
          cases hv0 : vals 0 with
          | nil => rw [hv0] at l0; simp at l0; omega
          | cons v r =>
            have := (cell_block (c0 0 v (by rw [hv0]; rfl))).1
            simpa [Addr.add] using this
        obtain ⟨lk, ck⟩ := cells_get (hg k hk).1
        refine ⟨a, rfl, hsp, free_nil, (fun h => by cases h), by rw [lk, hsz], ?_⟩
        cases hvk : vals k with
        | nil => rw [hvk] at lk; simp at lk; omega
        | cons v r =>
          rw [hvk] at ck
          have e1 : ∀ j, (a.add (k * P.cellsOf e)).add j = ⟨a.block, a.off + k * P.cellsOf e + j, none⟩ := by
            intro j
            obtain ⟨ab, ao, asp⟩ := a
            simp only at hsp
            subst hsp
            unfold Addr.add
            split <;> split <;> simp_all <;> omega
          obtain ⟨_, cs2, T, fz, hb, hc⟩ := cell_block (ck 0 v rfl)
          rw [e1] at hb
          refine ⟨cs2, T, fz, hb, fun j u hj => ?_⟩
          obtain ⟨_, cs3, T3, fz3, hb3, hc3⟩ := cell_block (ck j u hj)
          rw [e1] at hb3 hc3
          simp only at hb hb3 hc3
          rw [hb] at hb3; cases hb3
          rw [hsz]
          exact hc3
    · rename_i fs hu
      obtain ⟨l0, hf, h⟩ := Option.bind_eq_some_iff.1 h
      cases hb : Nat.beq (lenSh l0) (P.cellsOf t) with
      | false => rw [hb] at h; cases h
      | true =>
        rw [hb] at h
        cases h
        have hsz := Nat.eq_of_beq_eq_true hb
        cases fuel with
        | zero => simp [DataW.trod] at hx
        | succ fuel =>
          unfold DataW.trod at hx
          rw [hu] at hx
          simp only at hx
          split at hx
          · rename_i hlen
            obtain ⟨xs, hxs, _⟩ := Option.map_eq_some_iff.1 hx
            have := flatFields_rep (cs := cs) (B := B) (fun t cs x l h h' => ih fuel t cs x l h h') fs.toList 0 l hf (fun f hf => mapM_some hxs f hf) (by omega)
            simpa using this
          · cases hx
    · rename_i m e hu
      obtain ⟨l0, hf, h⟩ := Option.bind_eq_some_iff.1 h
      cases hb : Nat.beq (lenSh l0) (P.cellsOf e) with
      | false => rw [hb] at h; cases h
      | true =>
        rw [hb] at h
        have hsz := Nat.eq_of_beq_eq_true hb
        cases hb2 : Nat.beq (m * P.cellsOf e) (P.cellsOf t) with
        | false => rw [hb2] at h; cases h
        | true =>
          rw [hb2] at h
          cases h
          have hsz2 := Nat.eq_of_beq_eq_true hb2
          cases fuel with
          | zero => simp [DataW.trod] at hx
          | succ fuel =>
            unfold DataW.trod at hx
            rw [hu] at hx
            simp only at hx
            split at hx
            · rename_i hlen
              obtain ⟨xs, hxs, _⟩ := Option.map_eq_some_iff.1 hx
              have := flatArr_rep (cs := cs) (B := B) hsz (fun cs x h' => ih fuel e cs x l0 hf h') m 0 (fun i _ hi => mapM_some hxs i (List.mem_range.2 (by omega))) (by omega)
              simpa using this
            · cases hx
    · cases h

/-! ### Parameters -/

structure PSh where
  agg : Bool
  l : List Sh

def okP (p : PSh) (v : SV) : Prop :=
  match p.agg with
  | true => ∃ cs, v = .agg cs ∧ okSL p.l cs
  | false => okSL p.l [v]

def okPL : List PSh → List SV → Prop
  | [], [] => True
  | p :: l, v :: r => okP p v ∧ okPL l r
  | _, _ => False

def pflat (P : Program) (t : TypeId) : Option PSh :=
  (flat P 16 t).bind fun l => match P.underlying t with
    | some (.struct _) => some ⟨true, l⟩
    | some (.array _ _) => some ⟨true, l⟩
    | some (.int _) | some .bool | some .string | some (.slice _) => some ⟨false, l⟩
    | _ => none

def pflats (P : Program) : List TypeId → Option (List PSh)
  | [] => some []
  | t :: l => (pflat P t).bind fun p => (pflats P l).map (p :: ·)

theorem flat_one {n : Nat} {t : TypeId} {l : List Sh} (h : flat P n t = some l) (hu : (∃ k, P.underlying t = some (.int k)) ∨ P.underlying t = some .bool ∨ P.underlying t = some .string ∨ ∃ e, P.underlying t = some (.slice e)) : ∃ s, l = [s] := by
  cases n with
  | zero => cases h
  | succ n =>
    unfold flat at h
    rcases hu with ⟨k, hu⟩ | hu | hu | ⟨e, hu⟩ <;> rw [hu] at h <;> simp only at h
    · cases h; exact ⟨_, rfl⟩
    · cases h; exact ⟨_, rfl⟩
    · cases h; exact ⟨_, rfl⟩
    · obtain ⟨le, _, h⟩ := Option.bind_eq_some_iff.1 h
      cases hb : Nat.beq (lenSh le) (P.cellsOf e) with
      | false => rw [hb] at h; cases h
      | true =>
        rw [hb] at h
        cases hb1 : Nat.ble 1 (lenSh le) with
        | false => rw [hb1] at h; cases h
        | true => rw [hb1] at h; cases h; exact ⟨_, rfl⟩

theorem param_rep {r : Reach} {b0 : Nat} {t : TypeId} {v : Value} {d : DataW H} {ps : List MemPlace} {p : PSh} (hp : pflat P t = some p) (hval : Value.okWide P w r b0 t v) (hd : DataW.Trod enc P w base spare held t v d ps) : ∃ sv, XRep w [] B sv v ∧ okP p sv := by
  obtain ⟨fuel, hf⟩ := id hd
  unfold pflat at hp
  obtain ⟨l, hl, hp⟩ := Option.bind_eq_some_iff.1 hp
  obtain ⟨svs, h1, h2⟩ := trod_rep (B := B) 16 fuel t _ _ l hl hf
  have one : ∀ (c : Value), v.cells.toList = [c] → v = c → (∃ s, l = [s]) → ∃ sv, XRep w [] B sv v ∧ okP ⟨false, l⟩ sv := by
    rintro c hc rfl ⟨s, rfl⟩
    rw [hc] at h1
    cases h1 with
    | cons sv _ svs' _ k1 k2 =>
      cases k2
      exact ⟨sv, k1, h2⟩
  split at hp
  · rename_i fs hu
    cases hp
    unfold Value.okWide at hval
    rw [hu] at hval
    simp only at hval
    obtain ⟨cs, rfl, _⟩ := hval
    refine ⟨.agg svs, ?_, svs, rfl, h2⟩
    have := XRep.agg (w := w) (bs := []) (B := B) svs cs.toList h1
    simpa using this
  · rename_i m e hu
    cases hp
    unfold Value.okWide at hval
    rw [hu] at hval
    simp only at hval
    obtain ⟨cs, rfl, _⟩ := hval
    refine ⟨.agg svs, ?_, svs, rfl, h2⟩
    have := XRep.agg (w := w) (bs := []) (B := B) svs cs.toList h1
    simpa using this
  · rename_i k hu
    cases hp
    obtain ⟨n, rfl⟩ := okWide_int hu hval
    exact one _ rfl rfl (flat_one hl (.inl ⟨_, hu⟩))
  · rename_i hu
    cases hp
    obtain ⟨n, rfl⟩ := okWide_bool hu hval
    exact one _ rfl rfl (flat_one hl (.inr (.inl hu)))
  · rename_i hu
    cases hp
    obtain ⟨n, rfl⟩ := okWide_string hu hval
    exact one _ rfl rfl (flat_one hl (.inr (.inr (.inl hu))))
  · rename_i e hu
    cases hp
    obtain ⟨a, len, cap, rfl⟩ := okWide_slice hu hval
    exact one _ rfl rfl (flat_one hl (.inr (.inr (.inr ⟨_, hu⟩))))
  · cases hp

theorem params_rep {r : Reach} {b0 : Nat} : ∀ {ts : List TypeId} {vs : List Value} {ds : List (DataW H)} {ps : List MemPlace} {shs : List PSh}, pflats P ts = some shs → (∀ (j : Nat) t v, ts[j]? = some t → vs[j]? = some v → Value.okWide P w r b0 t v) →
    DataW.TrodAll enc P w base spare held ts vs ds ps → ∃ svs, XRepL w [] B svs vs ∧ okPL shs svs
  | [], vs, ds, ps, shs, h, _, hd => by
    simp only [pflats, Option.some.injEq] at h
    subst h
    obtain ⟨rfl, _, _⟩ := trodAll_nil hd
    exact ⟨[], .nil, trivial⟩
  | t :: ts, vs, ds, ps, shs, h, hv, hd => by
    unfold pflats at h
    obtain ⟨p, hp, h⟩ := Option.bind_eq_some_iff.1 h
    obtain ⟨shs', hs, rfl⟩ := Option.map_eq_some_iff.1 h
    obtain ⟨v, vs', d, ds', p1, q1, rfl, rfl, rfl, h1, h2⟩ := trodAll_cons hd
    obtain ⟨sv, k1, k2⟩ := param_rep (B := B) hp (hv 0 t v rfl rfl) h1
    obtain ⟨svs, k3, k4⟩ := params_rep hs (fun j t' v' ht hv' => hv (j + 1) t' v' (by simpa using ht) (by simpa using hv')) h2
    exact ⟨sv :: svs, .cons _ _ _ _ k1 k3, k2, k4⟩

end

def readB (P : Program) (ts : List TypeId) : Bool := ts.all fun t => P.readableRec t && Nat.blt t P.types.size

theorem params_again {H : Type} {enc : TypeId × Value → H} {P : Program} (hl : laidOutB P = true) {W W' : World} (hb : Below W.heap.size W W') :
    ∀ {ts : List TypeId} {vs : List Value} {ds : List (DataW H)} {ps : List MemPlace}, readB P ts = true → DataW.TrodAll enc P W 0 (fun _ => true) true ts vs ds ps → DataW.TrodAll enc P W' 0 (fun b => decide (b < W.heap.size)) true ts vs ds ps
  | [], vs, ds, ps, _, h => by
    obtain ⟨rfl, rfl, rfl⟩ := trodAll_nil h
    rfl
  | t :: ts, vs, ds, ps, hr, h => by
    obtain ⟨v, vs', d, ds', p1, q1, rfl, rfl, rfl, h1, h2⟩ := trodAll_cons h
    simp only [readB, List.all_cons, Bool.and_eq_true] at hr
    have hlt : ∀ x ∈ p1, x.block < W.heap.size := by obtain ⟨m, hm⟩ := h1; exact DataW.trod_lt m _ _ _ hm
    refine ⟨_, _, Below.trod hl hr.1.1 ?_ h1 hb hlt, params_again hl hb hr.2 h2, rfl⟩
    have := hr.1.2
    simpa using this

theorem trodAll_len {H : Type} {enc : TypeId × Value → H} {P : Program} {W : World} {base : Nat} {spare : Nat → Bool} {held : Bool} :
    ∀ {ts : List TypeId} {vs : List Value} {ds : List (DataW H)} {ps : List MemPlace}, DataW.TrodAll enc P W base spare held ts vs ds ps → ds.length = ts.length
  | [], vs, ds, ps, h => by obtain ⟨_, rfl, _⟩ := trodAll_nil h; rfl
  | t :: ts, vs, ds, ps, h => by
    obtain ⟨v, vs', d, ds', p1, q1, rfl, rfl, rfl, h1, h2⟩ := trodAll_cons h
    simp [trodAll_len h2]

theorem okSL_cons_inv {s : Sh} {l : List Sh} {c : List SV} (h : okSL (s :: l) c) : ∃ x r, c = x :: r ∧ okS s x ∧ okSL l r := by
  cases c with
  | nil => exact h.elim
  | cons x r => exact ⟨x, r, rfl, h.1, h.2⟩
theorem okSL_nil_inv {c : List SV} (h : okSL [] c) : c = [] := by
  cases c with
  | nil => rfl
  | cons x r => exact h.elim
theorem okS_int_inv {k : IntKind} {v : SV} (h : okS (.int k) v) : ∃ n, v = .int k n ∧ (Lit.int k n).wf = true := h
theorem okS_bool_inv {v : SV} (h : okS .bool v) : ∃ b, v = .bool b := h
theorem okS_slice_inv {l : List Sh} {v : SV} (h : okS (.slice l) v) : ∃ z n get, v = .vs false z n (lenSh l) get ∧ n ≤ maxLen ∧ ∀ k, k < n → okSL l (get k) := h
theorem okPL_cons_inv {p : PSh} {l : List PSh} {c : List SV} (h : okPL (p :: l) c) : ∃ x r, c = x :: r ∧ okP p x ∧ okPL l r := by
  cases c with
  | nil => exact h.elim
  | cons x r => exact ⟨x, r, rfl, h.1, h.2⟩
theorem okPL_nil_inv {c : List SV} (h : okPL [] c) : c = [] := by
  cases c with
  | nil => rfl
  | cons x r => exact h.elim
theorem okP_agg_inv {l : List Sh} {v : SV} (h : okP ⟨true, l⟩ v) : ∃ cs, v = .agg cs ∧ okSL l cs := h
theorem okP_one_inv {s : Sh} {v : SV} (h : okP ⟨false, [s]⟩ v) : okS s v := h.1

/-- A list out of what was read. -/
theorem list_of {α : Type} [Inhabited α] {n : Nat} {P : Nat → α → Prop} (h : ∀ k, k < n → ∃ x, P k x) : ∃ l : List α, l.length = n ∧ ∀ k, k < n → P k (l.getD k default) := by
  induction n with
  | zero => exact ⟨[], rfl, fun k hk => absurd hk (Nat.not_lt_zero _)⟩
  | succ n ih =>
    obtain ⟨l, h1, h2⟩ := ih fun k hk => h k (by omega)
    obtain ⟨x, hx⟩ := h n (by omega)
    refine ⟨l ++ [x], by simp [h1], fun k hk => ?_⟩
    rcases Nat.lt_or_ge k n with h' | h'
    · have := h2 k h'
      rw [List.getD_eq_getElem?_getD] at this ⊢
      rwa [List.getElem?_append_left (by omega)]
    · obtain rfl : k = n := by omega
      rw [List.getD_eq_getElem?_getD, List.getElem?_append_right (by omega), h1, Nat.sub_self]
      exact hx

/-- The contract of a law: whatever comes in, true. -/
def lawC (shs : List PSh) : Ctr := { alias := false, of := fun l => .pre (okPL shs l) (.fin (.bool true) []) }

/-- A LAW'S STATEMENT OUT OF ITS CONTRACT. -/
theorem law_lifted {C : Checked} {f : FuncId} {fn : Func} {s : ChangeSpec} {dom : List PathCond} {os : Os} {H : Type} {enc : TypeId × Value → H} {shs : List PSh} {tb : TypeId}
    (own : ownKnob C.prog.godebug = none) (started : os.Started) (noInit : C.prog.inits.idxOf? f = none) (hfn : C.prog.funcs[f]? = some fn) (hl : laidOutB C.prog = true)
    (witness : ∃ (w : World) (tape : Tape) (i : Input), w.os = os ∧ (w.forCall tape i).Shaped C.prog ∧ i.vars = [] ∧ Input.okWide C.prog (w.forCall tape i) .any w.heap.size f i ∧
      s.pre6 enc C.prog fn dom false (w.forCall tape i).memory i.args ∧ ({} : Assume).holds C.prog (lone (Frame.enter C.prog f i.args .normal) [] (w.forCall tape i)))
    (hsh : pflats C.prog fn.params.toList = some shs) (hread : readB C.prog fn.params.toList = true) (hres : fn.resultTypes.toList = [tb]) (htb : C.prog.underlying tb = some .bool) (hvars : s.vars = [])
    (hspec : ∀ ds : List (DataW H), ds.length = fn.params.toList.length → (s.fn H ds).results = [.lit (.bool true)] ∧ (s.fn H ds).args = ds ∧ (s.fn H ds).vars = []) (hc : (lawC shs).ok C.prog f) :
    ReturnsInHanded {} C os f .any (s.pre6 enc C.prog fn dom false) (s.post enc C.prog fn false true false false) := by
  refine returnsInHanded_of_change own started noInit hfn witness ?_
  intro W base args ds gs before hval hW hcnd _
  obtain ⟨p, q, hA, hV, hbef, hfz, hnd⟩ := id hW
  have hlen := trodAll_len hA
  rw [hvars] at hV
  obtain ⟨rfl, rfl⟩ := trodVars_none hV
  obtain ⟨svs, k1, k2⟩ := params_rep (B := W.heap.size) hsh (fun j t v ht hv => hval j t v (by simpa using ht) (by simpa using hv)) hA
  have hcall := hc svs args.toList W (fun r hs => r = .bool true) k1 ⟨k2, rfl⟩
  simp only [Array.toArray_toList] at hcall
  refine hcall.mono fun e W' h => ?_
  obtain ⟨r, hs, v, bs, rfl, rfl, hr, _, hb, _⟩ := h
  have hv := hr.bool_inv
  subst hv
  obtain ⟨s1, s2, s3⟩ := hspec ds hlen
  refine ⟨_, rfl, ds, [], before, [], p, [], hW, ?_, ?_, ?_, hb.frame _, fun h => by cases h⟩
  · rw [List.append_nil, s1, hres]
    have hsz : fn.resultTypes.size = 1 := by rw [← Array.length_toList, hres]; rfl
    have : (Value.bool true).resultList fn.resultTypes.size = [.bool true] := by rw [hsz]; rfl
    rw [this]
    exact trodAll_mk1 (shut_bool htb true)
  · rw [List.append_nil, s2]
    exact params_again hl hb hread hA
  · rw [List.append_nil, s3, hvars]; rfl

end Go.Vx
