/- Data that came in, as the executor's values: by shapes of types. -/
import Derived.Test.YtdognchniaojoaaMgX7b
import Derived.ProofKit
import Derived.Deep.Slices
import Derived.IntWalk
import Derived.Test.YtdognchniaojoaaProg
set_option linter.all false
namespace Go.Vx
open Go.RowKit Go.WideShapes Go.ChangeShapes

/-- The shape of one cell. -/
inductive Sh where
  | int (k : IntKind)
  | bool
  | str
  | slice (l : List Sh)

def lenSh : List Sh → Nat
  | [] => 0
  | _ :: l => lenSh l + 1

mutual
/-- A value of a shape: nothing of new memory is told. -/
def okS : Sh → SV → Prop
  | .int k, v => ∃ n, v = .int k n ∧ (Lit.int k n).wf = true
  | .bool, v => ∃ b, v = .bool b
  | .str, v => ∃ s : ByteArray, v = .val (.string s) ∧ s.size ≤ maxLen
  | .slice l, v => ∃ z n get, v = .vs false z n (lenSh l) get ∧ n ≤ maxLen ∧ ∀ k, k < n → okSL l (get k)
def okSL : List Sh → List SV → Prop
  | [], [] => True
  | s :: l, v :: r => okS s v ∧ okSL l r
  | _, _ => False
end

def flatFields (P : Program) (fl : TypeId → Option (List Sh)) : Nat → List Field → Option (List Sh)
  | _, [] => some []
  | off, f :: fs => bif Nat.beq f.offset off then (fl f.type).bind fun l => bif Nat.beq (lenSh l) (P.cellsOf f.type) then (flatFields P fl (off + P.cellsOf f.type) fs).map (l ++ ·) else none else none

def repSh : Nat → List Sh → List Sh
  | 0, _ => []
  | n + 1, l => l ++ repSh n l

def flat (P : Program) : Nat → TypeId → Option (List Sh)
  | 0, _ => none
  | n + 1, t => match P.underlying t with
    | some (.int k) => some [.int k]
    | some .bool => some [.bool]
    | some .string => some [.str]
    | some (.slice e) => (flat P n e).bind fun l => bif Nat.beq (lenSh l) (P.cellsOf e) then (bif Nat.ble 1 (lenSh l) then some [.slice l] else none) else none
    | some (.struct fs) => (flatFields P (flat P n) 0 fs.toList).bind fun l => bif Nat.beq (lenSh l) (P.cellsOf t) then some l else none
    | some (.array m e) => (flat P n e).bind fun l => bif Nat.beq (lenSh l) (P.cellsOf e) then (bif Nat.beq (m * P.cellsOf e) (P.cellsOf t) then some (repSh m l) else none) else none
    | _ => none

theorem lenSh_app : ∀ (a b : List Sh), lenSh (a ++ b) = lenSh a + lenSh b
  | [], b => by simp [lenSh]
  | _ :: a, b => by simp [lenSh, lenSh_app a b]; omega

theorem okSL_app : ∀ {a b : List Sh} {x y : List SV}, okSL a x → okSL b y → okSL (a ++ b) (x ++ y)
  | [], _, [], _, _, h => h
  | [], _, _ :: _, _, h, _ => h.elim
  | _ :: _, _, [], _, h, _ => h.elim
  | _ :: _, _, _ :: _, _, h, h' => ⟨h.1, okSL_app h.2 h'⟩

/-- All blocks may be read. -/
def bd0 (n : Nat) : Bd := ⟨n, fun _ => True, fun _ _ => trivial⟩

theorem okSL_len : ∀ {a : List Sh} {x : List SV}, okSL a x → lenL x = lenSh a
  | [], [], _ => rfl
  | [], _ :: _, h => h.elim
  | _ :: _, [], h => h.elim
  | _ :: _, _ :: _, h => by simp [lenL, lenSh, okSL_len h.2]

section
variable {H : Type} {enc : TypeId × Value → H} {P : Program} {w : World} {B : Nat} {base : Nat} {spare : Nat → Bool} {held : Bool}

theorem XRepL.append : ∀ {l r : List SV} {vs us : List Value}, XRepL w [] (bd0 B) l vs → XRepL w [] (bd0 B) r us → XRepL w [] (bd0 B) (l ++ r) (vs ++ us)
  | _, _, _, _, .nil, h => h
  | _, _, _, _, .cons x v l vs h h', hr => .cons _ _ _ _ h (XRepL.append h' hr)

theorem flatFields_rep {fl : TypeId → Option (List Sh)} {fuel : Nat} {cs : List Value}
    (ih : ∀ (t : TypeId) (cs : List Value) (x : DataW H × List MemPlace) (l : List Sh), fl t = some l → DataW.trod enc P w base spare held fuel t cs = some x → ∃ svs, XRepL w [] (bd0 B) svs cs ∧ okSL l svs) :
    ∀ (fs : List Field) (off : Nat) (l : List Sh), flatFields P fl off fs = some l → (∀ f ∈ fs, ∃ x, DataW.trod enc P w base spare held fuel f.type ((cs.drop f.offset).take (P.cellsOf f.type)) = some x) → off + lenSh l = cs.length →
      ∃ svs, XRepL w [] (bd0 B) svs (cs.drop off) ∧ okSL l svs
  | [], off, l, h, _, hl => by
    simp only [flatFields, Option.some.injEq] at h
    subst h
    simp only [lenSh, Nat.add_zero] at hl
    refine ⟨[], ?_, trivial⟩
    rw [List.drop_of_length_le (by omega)]; exact .nil
  | f :: fs, off, l, h, hall, hl => by
    unfold flatFields at h
    cases hb : Nat.beq f.offset off with
    | false => rw [hb] at h; cases h
    | true =>
      rw [hb] at h
      have ho := Nat.eq_of_beq_eq_true hb
      obtain ⟨l1, h1, h⟩ := Option.bind_eq_some_iff.1 h
      cases hb2 : Nat.beq (lenSh l1) (P.cellsOf f.type) with
      | false => rw [hb2] at h; cases h
      | true =>
        rw [hb2] at h
        have hsz := Nat.eq_of_beq_eq_true hb2
        obtain ⟨l2, h2, rfl⟩ := Option.map_eq_some_iff.1 h
        obtain ⟨x, hx⟩ := hall f List.mem_cons_self
        obtain ⟨s1, r1, o1⟩ := ih _ _ _ _ h1 hx
        obtain ⟨s2, r2, o2⟩ := flatFields_rep ih fs _ _ h2 (fun g hg => hall g (List.mem_cons_of_mem _ hg)) (by rw [lenSh_app] at hl; omega)
        refine ⟨s1 ++ s2, ?_, okSL_app o1 o2⟩
        have := r1.append r2
        rw [ho] at this
        have e : (cs.drop off).take (P.cellsOf f.type) ++ cs.drop (off + P.cellsOf f.type) = cs.drop off := by
          rw [← List.drop_drop]; exact List.take_append_drop _ _
        rwa [e] at this

theorem flatArr_rep {fuel : Nat} {cs : List Value} {e : TypeId} {l : List Sh} (hs : lenSh l = P.cellsOf e)
    (ih : ∀ (cs : List Value) (x : DataW H × List MemPlace), DataW.trod enc P w base spare held fuel e cs = some x → ∃ svs, XRepL w [] (bd0 B) svs cs ∧ okSL l svs) :
    ∀ (k j : Nat), (∀ i, j ≤ i → i < j + k → ∃ x, DataW.trod enc P w base spare held fuel e ((cs.drop (i * P.cellsOf e)).take (P.cellsOf e)) = some x) → j * P.cellsOf e + k * P.cellsOf e = cs.length →
      ∃ svs, XRepL w [] (bd0 B) svs (cs.drop (j * P.cellsOf e)) ∧ okSL (repSh k l) svs
  | 0, j, _, hl => by
    refine ⟨[], ?_, trivial⟩
    rw [List.drop_of_length_le (by omega)]; exact .nil
  | k + 1, j, hall, hl => by
    obtain ⟨x, hx⟩ := hall j (Nat.le_refl _) (by omega)
    obtain ⟨s1, r1, o1⟩ := ih _ _ hx
    obtain ⟨s2, r2, o2⟩ := flatArr_rep hs ih k (j + 1) (fun i h1 h2 => hall i (by omega) (by omega)) (by rw [Nat.succ_mul] at hl ⊢; omega)
    refine ⟨s1 ++ s2, ?_, okSL_app o1 o2⟩
    have := r1.append r2
    have e : (cs.drop (j * P.cellsOf e)).take (P.cellsOf e) ++ cs.drop ((j + 1) * P.cellsOf e) = cs.drop (j * P.cellsOf e) := by
      rw [Nat.succ_mul, ← List.drop_drop]; exact List.take_append_drop _ _
    rwa [e] at this

theorem mapM_some {α β : Type} {g : α → Option β} : ∀ {l : List α} {r : List β}, l.mapM g = some r → ∀ x ∈ l, ∃ y, g x = some y
  | [], _, _, x, hx => by cases hx
  | a :: l, r, h, x, hx => by
    rw [List.mapM_cons] at h
    cases ha : g a with
    | none => rw [ha] at h; cases h
    | some y =>
      rw [ha] at h
      cases hl : l.mapM g with
      | none => rw [hl] at h; cases h
      | some ys =>
        rcases List.mem_cons.1 hx with rfl | hx
        · exact ⟨y, ha⟩
        · exact mapM_some hl x hx

theorem cells_get {a : Addr} {n : Nat} {cs : List Value} (h : w.cells? base a n = some cs) : cs.length = n ∧ ∀ j v, cs[j]? = some v → w.cell? (a.add j) = some v := by
  unfold World.cells? at h
  split at h
  · have key : ∀ (l : List Nat) (r : List Value), l.mapM (fun i => w.cell? (a.add i)) = some r → r.length = l.length ∧ ∀ (j : Nat) (v : Value), r[j]? = some v → ∃ i, l[j]? = some i ∧ w.cell? (a.add i) = some v := by
      intro l
      induction l with
      | nil => intro r h; simp at h; subst h; exact ⟨rfl, fun j v h => by simp at h⟩
      | cons i l ih =>
        intro r h
        rw [List.mapM_cons] at h
        cases hi : w.cell? (a.add i) with
        | none => rw [hi] at h; cases h
        | some v0 =>
          rw [hi] at h
          cases hl : l.mapM (fun i => w.cell? (a.add i)) with
          | none => rw [hl] at h; cases h
          | some r' =>
            rw [hl] at h
            cases h
            obtain ⟨h1, h2⟩ := ih r' hl
            refine ⟨by simp [h1], fun j v hj => ?_⟩
            cases j with
            | zero => simp only [List.getElem?_cons_zero, Option.some.injEq] at hj; subst hj; exact ⟨i, rfl, hi⟩
            | succ j => obtain ⟨i', k1, k2⟩ := h2 j v (by simpa using hj); exact ⟨i', by simpa using k1, k2⟩
    obtain ⟨h1, h2⟩ := key _ _ h
    refine ⟨by simpa using h1, fun j v hj => ?_⟩
    obtain ⟨i, k1, k2⟩ := h2 j v hj
    have : j < n := by
      have := (List.getElem?_eq_some_iff.1 hj).1
      simp at h1; omega
    rw [List.getElem?_range this] at k1
    cases k1; exact k2
  · cases h

theorem cell_block {a : Addr} {v : Value} (h : w.cell? a = some v) : a.spot = none ∧ ∃ cs T fz, w.heap[a.block]? = some (.cells cs T fz) ∧ cs[a.off]? = some v := by
  unfold World.cell? at h
  split at h
  · split at h
    · cases h
    · rename_i hs
      exact ⟨by cases hq : a.spot with | none => rfl | some _ => rw [hq] at hs; simp at hs, _, _, _, ‹_›, h⟩
  · cases h

theorem trod_rep : ∀ (n fuel : Nat) (t : TypeId) (cs : List Value) (x : DataW H × List MemPlace) (l : List Sh), flat P n t = some l → DataW.trod enc P w base spare held fuel t cs = some x → ∃ svs, XRepL w [] (bd0 B) svs cs ∧ okSL l svs := by
  intro n
  induction n with
  | zero => intro fuel t cs x l h; cases h
  | succ n ih =>
    intro fuel t cs x l h hx
    unfold flat at h
    split at h
    · rename_i k hu
      cases h
      obtain ⟨m, rfl, _, hw⟩ := DataW.trod_int hu hx
      exact ⟨[.int k m], .cons _ _ _ _ (.int _ _) .nil, ⟨m, rfl, hw⟩, trivial⟩
    · rename_i hu
      cases h
      obtain ⟨b, rfl, _⟩ := DataW.trod_bool hu hx
      exact ⟨[.bool b], .cons _ _ _ _ (.bool _) .nil, ⟨b, rfl⟩, trivial⟩
    · rename_i hu
      cases h
      obtain ⟨s, rfl, _, hs⟩ := DataW.trod_string hu hx
      exact ⟨[.val (.string s)], .cons _ _ _ _ (.val _) .nil, ⟨s, rfl, hs⟩, trivial⟩
    · rename_i e hu
      obtain ⟨le, he, h⟩ := Option.bind_eq_some_iff.1 h
      cases hb : Nat.beq (lenSh le) (P.cellsOf e) with
      | false => rw [hb] at h; cases h
      | true =>
      rw [hb] at h
      have hsz := Nat.eq_of_beq_eq_true hb
      cases hb1 : Nat.ble 1 (lenSh le) with
      | false => rw [hb1] at h; cases h
      | true =>
      rw [hb1] at h
      have hpos := Nat.le_of_ble_eq_true hb1
      cases h
      rcases Deep.open_slice hu hx with ⟨rfl, _⟩ | ⟨a, len, cap, m, fu, D, Pl, rfl, hba, hlc, hcm, hm, _, hel⟩
      · exact ⟨[.vs false true 0 (lenSh le) fun _ => []], .cons _ _ _ _ (.vs _ _ _ _ _ none 0 (fun _ => []) rfl (Nat.le_refl _) (fun _ => ⟨rfl, rfl⟩) (fun k hk => by omega) (fun k hk => by omega)) .nil,
          ⟨true, 0, _, rfl, Nat.zero_le _, fun k hk => by omega⟩, trivial⟩
      · have hlm : len ≤ m := by rw [hm]; split <;> omega
        have hel' : ∀ k, ∃ vals svs, k < len → w.cells? base (a.add (k * P.cellsOf e)) (P.cellsOf e) = some vals ∧ XRepL w [] (bd0 B) svs vals ∧ okSL le svs := by
          intro k
          by_cases hk : k < len
          · obtain ⟨cs', h1, h2⟩ := hel k (by omega)
            obtain ⟨svs, h3, h4⟩ := ih fu e cs' _ _ he h2
            exact ⟨cs', svs, fun _ => ⟨h1, h3, h4⟩⟩
          · exact ⟨[], [], fun h => absurd h hk⟩
        obtain ⟨vals, hv⟩ := Classical.axiomOfChoice hel'
        obtain ⟨get, hg⟩ := Classical.axiomOfChoice hv
        refine ⟨[.vs false false len (lenSh le) get], .cons _ _ _ _ (.vs _ _ _ _ _ (some a) cap vals rfl hlc (fun h => by cases h) (fun k hk => ?_) (fun k hk => (hg k hk).2.1)) .nil, ⟨false, len, get, rfl, by omega, fun k hk => (hg k hk).2.2⟩, trivial⟩
        have h0 := (hg 0 (by omega)).1
        obtain ⟨l0, c0⟩ := cells_get h0
        have hsp : a.spot = none := by
          cases hv0 : vals 0 with
          | nil => rw [hv0] at l0; simp at l0; omega
          | cons v r =>
            have := (cell_block (c0 0 v (by rw [hv0]; rfl))).1
            simpa [Addr.add] using this
        obtain ⟨lk, ck⟩ := cells_get (hg k hk).1
        refine ⟨a, rfl, hsp, ⟨free_nil, trivial⟩, (fun h => by cases h), by rw [lk, hsz], ?_⟩
        cases hvk : vals k with
        | nil => rw [hvk] at lk; simp at lk; omega
        | cons v r =>
          rw [hvk] at ck
          have e1 : ∀ j, (a.add (k * P.cellsOf e)).add j = ⟨a.block, a.off + k * P.cellsOf e + j, none⟩ := by
            intro j
            obtain ⟨ab, ao, asp⟩ := a
            simp only at hsp
            subst hsp
            unfold Addr.add
            split <;> split <;> simp_all <;> omega
          obtain ⟨_, cs2, T, fz, hb, hc⟩ := cell_block (ck 0 v rfl)
          rw [e1] at hb
          refine ⟨cs2, T, fz, hb, fun j u hj => ?_⟩
          obtain ⟨_, cs3, T3, fz3, hb3, hc3⟩ := cell_block (ck j u hj)
          rw [e1] at hb3 hc3
          simp only at hb hb3 hc3
          rw [hb] at hb3; cases hb3
          rw [hsz]
          exact hc3
    · rename_i fs hu
      obtain ⟨l0, hf, h⟩ := Option.bind_eq_some_iff.1 h
      cases hb : Nat.beq (lenSh l0) (P.cellsOf t) with
      | false => rw [hb] at h; cases h
      | true =>
        rw [hb] at h
        cases h
        have hsz := Nat.eq_of_beq_eq_true hb
        cases fuel with
        | zero => simp [DataW.trod] at hx
        | succ fuel =>
          unfold DataW.trod at hx
          rw [hu] at hx
          simp only at hx
          split at hx
          · rename_i hlen
            obtain ⟨xs, hxs, _⟩ := Option.map_eq_some_iff.1 hx
            have := flatFields_rep (cs := cs) (B := B) (fun t cs x l h h' => ih fuel t cs x l h h') fs.toList 0 l hf (fun f hf => mapM_some hxs f hf) (by omega)
            simpa using this
          · cases hx
    · rename_i m e hu
      obtain ⟨l0, hf, h⟩ := Option.bind_eq_some_iff.1 h
      cases hb : Nat.beq (lenSh l0) (P.cellsOf e) with
      | false => rw [hb] at h; cases h
      | true =>
        rw [hb] at h
        have hsz := Nat.eq_of_beq_eq_true hb
        cases hb2 : Nat.beq (m * P.cellsOf e) (P.cellsOf t) with
        | false => rw [hb2] at h; cases h
        | true =>
          rw [hb2] at h
          cases h
          have hsz2 := Nat.eq_of_beq_eq_true hb2
          cases fuel with
          | zero => simp [DataW.trod] at hx
          | succ fuel =>
            unfold DataW.trod at hx
            rw [hu] at hx
            simp only at hx
            split at hx
            · rename_i hlen
              obtain ⟨xs, hxs, _⟩ := Option.map_eq_some_iff.1 hx
              have := flatArr_rep (cs := cs) (B := B) hsz (fun cs x h' => ih fuel e cs x l0 hf h') m 0 (fun i _ hi => mapM_some hxs i (List.mem_range.2 (by omega))) (by omega)
              simpa using this
            · cases hx
    · cases h

/-! ### Parameters -/

structure PSh where
  agg : Bool
  l : List Sh

def okP (p : PSh) (v : SV) : Prop :=
  match p.agg with
  | true => ∃ cs, v = .agg cs ∧ okSL p.l cs
  | false => okSL p.l [v]

def okPL : List PSh → List SV → Prop
  | [], [] => True
  | p :: l, v :: r => okP p v ∧ okPL l r
  | _, _ => False

def pflat (P : Program) (t : TypeId) : Option PSh :=
  (flat P 16 t).bind fun l => match P.underlying t with
    | some (.struct _) => some ⟨true, l⟩
    | some (.array _ _) => some ⟨true, l⟩
    | some (.int _) | some .bool | some .string | some (.slice _) => some ⟨false, l⟩
    | _ => none

def pflats (P : Program) : List TypeId → Option (List PSh)
  | [] => some []
  | t :: l => (pflat P t).bind fun p => (pflats P l).map (p :: ·)

theorem flat_one {n : Nat} {t : TypeId} {l : List Sh} (h : flat P n t = some l) (hu : (∃ k, P.underlying t = some (.int k)) ∨ P.underlying t = some .bool ∨ P.underlying t = some .string ∨ ∃ e, P.underlying t = some (.slice e)) : ∃ s, l = [s] := by
  cases n with
  | zero => cases h
  | succ n =>
    unfold flat at h
    rcases hu with ⟨k, hu⟩ | hu | hu | ⟨e, hu⟩ <;> rw [hu] at h <;> simp only at h
    · cases h; exact ⟨_, rfl⟩
    · cases h; exact ⟨_, rfl⟩
    · cases h; exact ⟨_, rfl⟩
    · obtain ⟨le, _, h⟩ := Option.bind_eq_some_iff.1 h
      cases hb : Nat.beq (lenSh le) (P.cellsOf e) with
      | false => rw [hb] at h; cases h
      | true =>
        rw [hb] at h
        cases hb1 : Nat.ble 1 (lenSh le) with
        | false => rw [hb1] at h; cases h
        | true => rw [hb1] at h; cases h; exact ⟨_, rfl⟩

theorem param_rep {r : Reach} {b0 : Nat} {t : TypeId} {v : Value} {d : DataW H} {ps : List MemPlace} {p : PSh} (hp : pflat P t = some p) (hval : Value.okWide P w r b0 t v) (hd : DataW.Trod enc P w base spare held t v d ps) : ∃ sv, XRep w [] (bd0 B) sv v ∧ okP p sv := by
  obtain ⟨fuel, hf⟩ := id hd
  unfold pflat at hp
  obtain ⟨l, hl, hp⟩ := Option.bind_eq_some_iff.1 hp
  obtain ⟨svs, h1, h2⟩ := trod_rep (B := B) 16 fuel t _ _ l hl hf
  have one : ∀ (c : Value), v.cells.toList = [c] → v = c → (∃ s, l = [s]) → ∃ sv, XRep w [] (bd0 B) sv v ∧ okP ⟨false, l⟩ sv := by
    rintro c hc rfl ⟨s, rfl⟩
    rw [hc] at h1
    cases h1 with
    | cons sv _ svs' _ k1 k2 =>
      cases k2
      exact ⟨sv, k1, h2⟩
  split at hp
  · rename_i fs hu
    cases hp
    unfold Value.okWide at hval
    rw [hu] at hval
    simp only at hval
    obtain ⟨cs, rfl, _⟩ := hval
    refine ⟨.agg svs, ?_, svs, rfl, h2⟩
    have := XRep.agg (w := w) (bs := []) (B := bd0 B) svs cs.toList h1
    simpa using this
  · rename_i m e hu
    cases hp
    unfold Value.okWide at hval
    rw [hu] at hval
    simp only at hval
    obtain ⟨cs, rfl, _⟩ := hval
    refine ⟨.agg svs, ?_, svs, rfl, h2⟩
    have := XRep.agg (w := w) (bs := []) (B := bd0 B) svs cs.toList h1
    simpa using this
  · rename_i k hu
    cases hp
    obtain ⟨n, rfl⟩ := okWide_int hu hval
    exact one _ rfl rfl (flat_one hl (.inl ⟨_, hu⟩))
  · rename_i hu
    cases hp
    obtain ⟨n, rfl⟩ := okWide_bool hu hval
    exact one _ rfl rfl (flat_one hl (.inr (.inl hu)))
  · rename_i hu
    cases hp
    obtain ⟨n, rfl⟩ := okWide_string hu hval
    exact one _ rfl rfl (flat_one hl (.inr (.inr (.inl hu))))
  · rename_i e hu
    cases hp
    obtain ⟨a, len, cap, rfl⟩ := okWide_slice hu hval
    exact one _ rfl rfl (flat_one hl (.inr (.inr (.inr ⟨_, hu⟩))))
  · cases hp

theorem params_rep {r : Reach} {b0 : Nat} : ∀ {ts : List TypeId} {vs : List Value} {ds : List (DataW H)} {ps : List MemPlace} {shs : List PSh}, pflats P ts = some shs → (∀ (j : Nat) t v, ts[j]? = some t → vs[j]? = some v → Value.okWide P w r b0 t v) →
    DataW.TrodAll enc P w base spare held ts vs ds ps → ∃ svs, XRepL w [] (bd0 B) svs vs ∧ okPL shs svs
  | [], vs, ds, ps, shs, h, _, hd => by
    simp only [pflats, Option.some.injEq] at h
    subst h
    obtain ⟨rfl, _, _⟩ := trodAll_nil hd
    exact ⟨[], .nil, trivial⟩
  | t :: ts, vs, ds, ps, shs, h, hv, hd => by
    unfold pflats at h
    obtain ⟨p, hp, h⟩ := Option.bind_eq_some_iff.1 h
    obtain ⟨shs', hs, rfl⟩ := Option.map_eq_some_iff.1 h
    obtain ⟨v, vs', d, ds', p1, q1, rfl, rfl, rfl, h1, h2⟩ := trodAll_cons hd
    obtain ⟨sv, k1, k2⟩ := param_rep (B := B) hp (hv 0 t v rfl rfl) h1
    obtain ⟨svs, k3, k4⟩ := params_rep hs (fun j t' v' ht hv' => hv (j + 1) t' v' (by simpa using ht) (by simpa using hv')) h2
    exact ⟨sv :: svs, .cons _ _ _ _ k1 k3, k2, k4⟩

end

def readB (P : Program) (ts : List TypeId) : Bool := ts.all fun t => P.readableRec t && Nat.blt t P.types.size

theorem params_again {H : Type} {enc : TypeId × Value → H} {P : Program} (hl : laidOutB P = true) {W W' : World} (hb : Below W.heap.size W W') :
    ∀ {ts : List TypeId} {vs : List Value} {ds : List (DataW H)} {ps : List MemPlace}, readB P ts = true → DataW.TrodAll enc P W 0 (fun _ => true) true ts vs ds ps → DataW.TrodAll enc P W' 0 (fun b => decide (b < W.heap.size)) true ts vs ds ps
  | [], vs, ds, ps, _, h => by
    obtain ⟨rfl, rfl, rfl⟩ := trodAll_nil h
    rfl
  | t :: ts, vs, ds, ps, hr, h => by
    obtain ⟨v, vs', d, ds', p1, q1, rfl, rfl, rfl, h1, h2⟩ := trodAll_cons h
    simp only [readB, List.all_cons, Bool.and_eq_true] at hr
    have hlt : ∀ x ∈ p1, x.block < W.heap.size := by obtain ⟨m, hm⟩ := h1; exact DataW.trod_lt m _ _ _ hm
    refine ⟨_, _, Below.trod hl hr.1.1 ?_ h1 hb hlt, params_again hl hb hr.2 h2, rfl⟩
    have := hr.1.2
    simpa using this

theorem trodAll_len {H : Type} {enc : TypeId × Value → H} {P : Program} {W : World} {base : Nat} {spare : Nat → Bool} {held : Bool} :
    ∀ {ts : List TypeId} {vs : List Value} {ds : List (DataW H)} {ps : List MemPlace}, DataW.TrodAll enc P W base spare held ts vs ds ps → ds.length = ts.length
  | [], vs, ds, ps, h => by obtain ⟨_, rfl, _⟩ := trodAll_nil h; rfl
  | t :: ts, vs, ds, ps, h => by
    obtain ⟨v, vs', d, ds', p1, q1, rfl, rfl, rfl, h1, h2⟩ := trodAll_cons h
    simp [trodAll_len h2]

theorem okSL_cons_inv {s : Sh} {l : List Sh} {c : List SV} (h : okSL (s :: l) c) : ∃ x r, c = x :: r ∧ okS s x ∧ okSL l r := by
  cases c with
  | nil => exact h.elim
  | cons x r => exact ⟨x, r, rfl, h.1, h.2⟩
theorem okSL_nil_inv {c : List SV} (h : okSL [] c) : c = [] := by
  cases c with
  | nil => rfl
  | cons x r => exact h.elim
theorem okS_int_inv {k : IntKind} {v : SV} (h : okS (.int k) v) : ∃ n, v = .int k n ∧ (Lit.int k n).wf = true := h
theorem okS_bool_inv {v : SV} (h : okS .bool v) : ∃ b, v = .bool b := h
theorem okS_slice_inv {l : List Sh} {v : SV} (h : okS (.slice l) v) : ∃ z n get, v = .vs false z n (lenSh l) get ∧ n ≤ maxLen ∧ ∀ k, k < n → okSL l (get k) := h
theorem okPL_cons_inv {p : PSh} {l : List PSh} {c : List SV} (h : okPL (p :: l) c) : ∃ x r, c = x :: r ∧ okP p x ∧ okPL l r := by
  cases c with
  | nil => exact h.elim
  | cons x r => exact ⟨x, r, rfl, h.1, h.2⟩
theorem okPL_nil_inv {c : List SV} (h : okPL [] c) : c = [] := by
  cases c with
  | nil => rfl
  | cons x r => exact h.elim
theorem okP_agg_inv {l : List Sh} {v : SV} (h : okP ⟨true, l⟩ v) : ∃ cs, v = .agg cs ∧ okSL l cs := h
theorem okP_one_inv {s : Sh} {v : SV} (h : okP ⟨false, [s]⟩ v) : okS s v := h.1

/-- A list out of what was read. -/
theorem list_of {α : Type} [Inhabited α] {n : Nat} {P : Nat → α → Prop} (h : ∀ k, k < n → ∃ x, P k x) : ∃ l : List α, l.length = n ∧ ∀ k, k < n → P k (l.getD k default) := by
  induction n with
  | zero => exact ⟨[], rfl, fun k hk => absurd hk (Nat.not_lt_zero _)⟩
  | succ n ih =>
    obtain ⟨l, h1, h2⟩ := ih fun k hk => h k (by omega)
    obtain ⟨x, hx⟩ := h n (by omega)
    refine ⟨l ++ [x], by simp [h1], fun k hk => ?_⟩
    rcases Nat.lt_or_ge k n with h' | h'
    · have := h2 k h'
      rw [List.getD_eq_getElem?_getD] at this ⊢
      rwa [List.getElem?_append_left (by omega)]
    · obtain rfl : k = n := by omega
      rw [List.getD_eq_getElem?_getD, List.getElem?_append_right (by omega), h1, Nat.sub_self]
      exact hx

/-- The contract of a law: whatever comes in, true. -/
def lawC (shs : List PSh) : Ctr := { alias := false, of := fun l => .pre (okPL shs l) (.fin (.bool true) []) }

/-- A LAW'S STATEMENT OUT OF ITS CONTRACT. -/
theorem law_lifted {C : Checked} {f : FuncId} {fn : Func} {s : ChangeSpec} {dom : List PathCond} {os : Os} {H : Type} {enc : TypeId × Value → H} {shs : List PSh} {tb : TypeId}
    (own : ownKnob C.prog.godebug = none) (started : os.Started) (noInit : C.prog.inits.idxOf? f = none) (hfn : C.prog.funcs[f]? = some fn) (hl : laidOutB C.prog = true)
    (witness : ∃ (w : World) (tape : Tape) (i : Input), w.os = os ∧ (w.forCall tape i).Shaped C.prog ∧ i.vars = [] ∧ Input.okWide C.prog (w.forCall tape i) .any w.heap.size f i ∧
      s.pre6 enc C.prog fn dom false (w.forCall tape i).memory i.args ∧ ({} : Assume).holds C.prog (lone (Frame.enter C.prog f i.args .normal) [] (w.forCall tape i)))
    (hsh : pflats C.prog fn.params.toList = some shs) (hread : readB C.prog fn.params.toList = true) (hres : fn.resultTypes.toList = [tb]) (htb : C.prog.underlying tb = some .bool) (hvars : s.vars = [])
    (hspec : ∀ ds : List (DataW H), ds.length = fn.params.toList.length → (s.fn H ds).results = [.lit (.bool true)] ∧ (s.fn H ds).args = ds ∧ (s.fn H ds).vars = []) (hc : (lawC shs).ok C.prog f) :
    ReturnsInHanded {} C os f .any (s.pre6 enc C.prog fn dom false) (s.post enc C.prog fn false true false false) := by
  refine returnsInHanded_of_change own started noInit hfn witness ?_
  intro W base args ds gs before hval hW hcnd _
  obtain ⟨p, q, hA, hV, hbef, hfz, hnd⟩ := id hW
  have hlen := trodAll_len hA
  rw [hvars] at hV
  obtain ⟨rfl, rfl⟩ := trodVars_none hV
  obtain ⟨svs, k1, k2⟩ := params_rep (B := W.heap.size) hsh (fun j t v ht hv => hval j t v (by simpa using ht) (by simpa using hv)) hA
  have hcall := hc svs args.toList W (fun _ => True) (fun _ _ => trivial) (fun r hs => r = .bool true) k1 ⟨k2, rfl⟩
  simp only [Array.toArray_toList] at hcall
  refine hcall.mono fun e W' h => ?_
  obtain ⟨r, hs, v, bs, rfl, rfl, hr, _, hb, _⟩ := h
  have hv := hr.bool_inv
  subst hv
  obtain ⟨s1, s2, s3⟩ := hspec ds hlen
  refine ⟨_, rfl, ds, [], before, [], p, [], hW, ?_, ?_, ?_, hb.frame _, fun h => by cases h⟩
  · rw [List.append_nil, s1, hres]
    have hsz : fn.resultTypes.size = 1 := by rw [← Array.length_toList, hres]; rfl
    have : (Value.bool true).resultList fn.resultTypes.size = [.bool true] := by rw [hsz]; rfl
    rw [this]
    exact trodAll_mk1 (shut_bool htb true)
  · rw [List.append_nil, s2]
    exact params_again hl hb hread hA
  · rw [List.append_nil, s3, hvars]; rfl

end Go.Vx

/- The executor's rules as one set of rewrite rules; forms with literals get rules of their own. -/
set_option linter.all false
namespace Go.Vx

def idxK (ho : HO) (n size j : Nat) (i : Int) : Option Ef :=
  match ho with
  | .own _ sz m _ => pure1 (0 ≤ i ∧ i < n ∧ sz = size ∧ m = n) (.elem j i.toNat 0 size)
  | .box _ => pure1 (0 ≤ i ∧ i < n) (.ptr j (idxN i size))
  | _ => none
theorem q_idx {hp : List HO} {n size j : Nat} {k : IntKind} {i : Int} : eIdxArr hp n size [.ptr j 0, .int k i] = idxK (getH hp j) n size j i := rfl
theorem idxN_01 : idxN 0 1 = 0 := rfl
theorem idxN_02 : idxN 0 2 = 0 := rfl
theorem idxN_03 : idxN 0 3 = 0 := rfl
theorem idxN_04 : idxN 0 4 = 0 := rfl
theorem idxN_12 : idxN 1 2 = 2 := rfl
theorem idxN_22 : idxN 2 2 = 4 := rfl
theorem idxN_13 : idxN 1 3 = 3 := rfl
theorem idxN_14 : idxN 1 4 = 4 := rfl

def stoK (ho : HO) (size i off : Nat) (vals : List SV) : Option Ef :=
  match ho with
  | .box cs => some { pre := off + size ≤ lenL cs, val := .junk, upd := .set i (.box (spliceL cs off vals)) }
  | .own z sz n _ => match off with
    | 0 => some { pre := size = n * sz ∧ 0 < sz, val := .junk, upd := .set i (.own z sz n (chunk sz vals)) }
    | _ => none
  | .gone => none
def stoE (ho : HO) (size i k off sz : Nat) (vals : List SV) : Option Ef :=
  match ho with
  | .own z size' n get => some { pre := k < n ∧ sz = size' ∧ off + size ≤ sz, val := .junk, upd := .set i (.own z size' n fun j => if j = k then spliceL (get k) off vals else get j) }
  | _ => none
theorem q_stoP {hp : List HO} {size i off : Nat} {vals : List SV} : storeAt hp size vals (.ptr i off) = stoK (getH hp i) size i off vals := rfl
theorem q_stoB {size i off : Nat} {cs vals : List SV} : stoK (.box cs) size i off vals = some { pre := off + size ≤ lenL cs, val := .junk, upd := .set i (.box (spliceL cs off vals)) } := rfl
theorem q_stoO {z : Bool} {sz n size i : Nat} {g : Nat → List SV} {vals : List SV} : stoK (.own z sz n g) size i 0 vals = some { pre := size = n * sz ∧ 0 < sz, val := .junk, upd := .set i (.own z sz n (chunk sz vals)) } := rfl
theorem q_stoE {hp : List HO} {size i k off sz : Nat} {vals : List SV} : storeAt hp size vals (.elem i k off sz) = stoE (getH hp i) size i k off sz vals := rfl

def appN (nx size bytes : Nat) (r : Option (Nat × (Nat → List SV))) : Option Ef :=
  r.bind fun (m, gx) => eNew (.own (decide (m = 0)) size m gx) (.own (nx) 0 m size) (capOk m bytes ∧ ∀ k, k < m → lenL (gx k) = size ∧ ones (gx k))
def appO (ho : HO) (i n sz size bytes : Nat) (r : Option (Nat × (Nat → List SV))) : Option Ef :=
  match ho with
  | .own z s' _ get => r.map fun (m, gx) =>
        { pre := sz = size ∧ s' = size ∧ capOk (n + m) bytes ∧ ∀ k, k < m → lenL (gx k) = size ∧ ones (gx k), val := .own i 0 (n + m) size,
          upd := .app i (.own (z && decide (m = 0)) size (n + m) fun k => if k < n then purgeL i (get k) else purgeL i (gx (k - n))) }
  | _ => none
theorem q_appN {nx : Nat} {hp : List HO} {size bytes : Nat} {x : SV} : eAppend nx hp size bytes [.nil, x] = appN nx size bytes (readS hp x) := rfl
theorem q_appO {nx : Nat} {hp : List HO} {size bytes i n sz : Nat} {x : SV} : eAppend nx hp size bytes [.own i 0 n sz, x] = appO (getH hp i) i n sz size bytes (readS hp x) := rfl
def sliK (ho : HO) (n size j : Nat) : Option Ef :=
  match ho with
  | .own _ sz m _ => pure1 (sz = size ∧ m = n) (.own j 0 n size)
  | _ => none
theorem q_sli {hp : List HO} {n size j : Nat} : eSliceArr hp n size false false [.ptr j 0] = sliK (getH hp j) n size j := rfl

attribute [go_sem] r_end r_end1 r_nil r_op r_opg r_runOp r_op0 r_yld0 r_yld1 r_y r_rbeg r_rend r_rend1 r_rfrm r_rfrm1 r_range r_rangeK r_rangeE r_draw r_dnil r_dop r_dopg r_dplq r_dplh r_dq r_dq0 r_dcl1 r_dcl0 r_dct1 r_dct0 r_dgd r_dgq1 r_dgq0 r_dctG r_op1 r_eff r_eff0 r_call r_call0 r_inl r_g r_gq r_gc r_effg r_effg0 r_callg r_callg0 r_fin r_pre r_imp r_all r_ex r_fing r_preg r_exg r_inBlock r_inLoop r_frame r_frame1 r_skip r_stuck r_region r_seq r_cond r_cond1 r_block r_exit r_exit1 r_exit2 r_ret r_loop s_args0 s_args1 s_xt s_xc padL blankL callee callArgs eff ctOf getL setL S.put S.upd unopts unopt unoptsO unoptsB lazyO guardOf gbool eMov eNot eNeg eConv eExt eLenArr eLen eLenStr eEqb eEqv allEq eNil negIf eBool2 eCmp eAri ari eBit eDiv eSh eMinMax foldMin foldMax kEq pure1 cmpB VO.quiet resVals resVal tupled popRet popTo cond eNew eBox asCells lenH snocH eFieldAddr eField eLoad cellsAt getH setH dropL takeL mkAgg lenL lenS shift shiftL shiftH viewN viewL view andT junks eIdxAddr idxN_0 idxN_1 idxN_2 idxN_3 eIndex eStore spliceL ones one eSlice bounds subLo_z addLo_z subLo_one addLo_one eMake readS repL buildCells chunk purgeL purgeLL purgeH purge refs refsL wrOps wrAl wrDops wrC junkAt putAll putHs headOf headK keepG headX chkP apartP apartB blk strip runAl AL.ho yld putPs lenN findR notRound jumpK jumpPT jcode idxK q_idx idxN_01 idxN_02 idxN_03 idxN_04 idxN_12 idxN_22 idxN_13 idxN_14 stoE q_stoP q_stoB q_stoO q_stoE appN appO q_appN q_appO sliK q_sli noOwn noOwnL
end Go.Vx

/- Lists and whole numbers in plain Lean, as the proofs of this seat need them. -/
set_option linter.all false
namespace Go.Proofs.Ytdognchniaojoaa
open Go Go.Vx

def w6 (x : Int) : Int := IntKind.i64.wrap x
theorem w6_in {x : Int} (h1 : -9223372036854775808 ≤ x) (h2 : x ≤ 9223372036854775807) : w6 x = x := IntWalk.i64_in x (by omega)
theorem w6_raw {x : Int} (h1 : -9223372036854775808 ≤ x) (h2 : x ≤ 9223372036854775807) : IntKind.i64.wrap x = x := IntWalk.i64_in x (by omega)
theorem w_succ {i n : Nat} (h : i < n) (hn : n ≤ 9223372036854775807) : IntKind.i64.wrap ((i : Int) + 1) = ((i + 1 : Nat) : Int) := by
  rw [IntWalk.i64_in _ (by omega)]; simp
theorem w6_rng (x : Int) : -9223372036854775808 ≤ w6 x ∧ w6 x ≤ 9223372036854775807 := by
  unfold w6
  have e : (2 : Int) ^ IntKind.i64.bits = 18446744073709551616 := by decide
  have e1 : (2 : Int) ^ (IntKind.i64.bits - 1) = 9223372036854775808 := by decide
  have e2 : IntKind.i64.signed = true := rfl
  simp only [IntKind.wrap, e, e1, e2, Bool.true_and, decide_eq_true_eq]
  split <;> omega

theorem getD_mem {α : Type} [Inhabited α] {l : List α} {i : Nat} (h : i < l.length) : l.getD i default ∈ l := by
  rw [List.getD_eq_getElem?_getD, List.getElem?_eq_getElem h]; exact List.getElem_mem h
theorem mem_getD {α : Type} [Inhabited α] {l : List α} {x : α} (h : x ∈ l) : ∃ i, i < l.length ∧ l.getD i default = x := by
  obtain ⟨j, hj, rfl⟩ := List.getElem_of_mem h
  exact ⟨j, hj, by rw [List.getD_eq_getElem?_getD, List.getElem?_eq_getElem hj]; rfl⟩
theorem take_all_succ {α : Type} [Inhabited α] {l : List α} {f : α → Bool} {i : Nat} (h : i < l.length) : (l.take (i + 1)).all f = ((l.take i).all f && f (l.getD i default)) := by
  rw [List.take_add_one, List.all_append, List.getD_eq_getElem?_getD, List.getElem?_eq_getElem h]
  simp
theorem take_any_succ {α : Type} [Inhabited α] {l : List α} {f : α → Bool} {i : Nat} (h : i < l.length) : (l.take (i + 1)).any f = ((l.take i).any f || f (l.getD i default)) := by
  rw [List.take_add_one, List.any_append, List.getD_eq_getElem?_getD, List.getElem?_eq_getElem h]
  simp
theorem take_full {α : Type} {l : List α} {i : Nat} (h : l.length ≤ i) : l.take i = l := List.take_of_length_le h
theorem take_succ_eq {α : Type} [Inhabited α] {l : List α} {i : Nat} (h : i < l.length) : l.take (i + 1) = l.take i ++ [l.getD i default] := by
  rw [List.take_add_one, List.getD_eq_getElem?_getD, List.getElem?_eq_getElem h]; rfl
theorem foldl_take_succ {α β : Type} [Inhabited α] {l : List α} {f : β → α → β} {b : β} {i : Nat} (h : i < l.length) : (l.take (i + 1)).foldl f b = f ((l.take i).foldl f b) (l.getD i default) := by
  rw [take_succ_eq h, List.foldl_append]
  rfl
theorem list_ext {α : Type} [Inhabited α] {a b : List α} (h : a.length = b.length) (hh : ∀ i, i < a.length → a.getD i default = b.getD i default) : a = b := by
  refine List.ext_getElem h fun i h1 h2 => ?_
  have := hh i h1
  rwa [List.getD_eq_getElem?_getD, List.getD_eq_getElem?_getD, List.getElem?_eq_getElem h1, List.getElem?_eq_getElem h2] at this

/-- The first number below 'n' for which something holds, else n. -/
def leastF (f : Nat → Bool) : Nat → Nat → Nat
  | 0, k => k
  | n + 1, k => if f k then k else leastF f n (k + 1)

theorem leastF_spec {f : Nat → Bool} : ∀ (n k : Nat), k ≤ leastF f n k ∧ leastF f n k ≤ n + k ∧ (∀ j, k ≤ j → j < leastF f n k → f j = false) ∧ (leastF f n k < n + k → f (leastF f n k) = true)
  | 0, k => ⟨Nat.le_refl _, by simp [leastF], fun j h1 h2 => by simp [leastF] at h2; omega, fun h => by simp [leastF] at h⟩
  | n + 1, k => by
    unfold leastF
    split
    · rename_i h; exact ⟨Nat.le_refl _, by omega, fun j h1 h2 => by omega, fun _ => h⟩
    · rename_i h
      obtain ⟨h1, h2, h3, h4⟩ := leastF_spec (f := f) n (k + 1)
      refine ⟨by omega, by omega, fun j a b => ?_, fun hlt => h4 (by omega)⟩
      rcases Nat.lt_or_ge k j with h' | h'
      · exact h3 j h' b
      · obtain rfl : j = k := by omega
        simpa using h
theorem leastF_eq {f : Nat → Bool} {n m : Nat} (h1 : ∀ j, j < m → f j = false) (h2 : m ≤ n) (h3 : m < n → f m = true) : leastF f n 0 = m := by
  obtain ⟨a, b, c, d⟩ := leastF_spec (f := f) n 0
  rcases Nat.lt_trichotomy (leastF f n 0) m with h | h | h
  · have := h1 _ h
    rw [d (by omega)] at this; cases this
  · exact h
  · have := c m (Nat.zero_le _) h
    rw [h3 (by omega)] at this; cases this

theorem mul_le' {a b c d : Int} (h1 : a ≤ c) (h2 : b ≤ d) (ha : 0 ≤ a) (hd : 0 ≤ d) : a * b ≤ c * d :=
  Int.le_trans (Int.mul_le_mul_of_nonneg_left h2 ha) (Int.mul_le_mul_of_nonneg_right h1 hd)

def noC : CRes := .pre False (.fin .junk [])
def trueC : Ctr := { alias := false, of := fun a => match a with
  | [] => .fin (.bool true) []
  | _ => noC }

/-- A list came in. -/
def lsP {α : Type} [Inhabited α] (size : Nat) (e : α → List SV) (n sz : Nat) (get : Nat → List SV) (l : List α) : Prop := sz = size ∧ n = l.length ∧ ∀ k, k < n → leXL (get k) (e (l.getD k default))
theorem lsP_self {α : Type} [Inhabited α] {size : Nat} {e : α → List SV} {l : List α} : lsP size e l.length size (fun k => e (l.getD k default)) l := ⟨rfl, rfl, fun k _ => leXL_self _⟩

def enc1 (x : Int) : List SV := [.int .i64 x]
def enc2 (x : Int × Int) : List SV := [.int .i64 x.1, .int .i64 x.2]

theorem maxLen_eq : maxLen = 9223372036854775807 := by decide

theorem mid {i j m : Nat} (hi : i ≤ m) (hj : j ≤ m) (hm : m ≤ 4611686018427387903) : IntKind.i64.wrap ((IntKind.u64.wrap (IntKind.i64.wrap ((i : Int) + (j : Int)))).fdiv (2 ^ min (1 : Int).toNat IntKind.u64.bits)) = (((i + j) / 2 : Nat) : Int) := by
  have e1 : IntKind.i64.wrap ((i : Int) + (j : Int)) = (i : Int) + j := IntWalk.i64_in _ (by omega)
  have e2 : IntKind.u64.wrap ((i : Int) + (j : Int)) = (i : Int) + j := IntWalk.u64_in _ (by omega)
  have e3 : (2 : Int) ^ min (1 : Int).toNat IntKind.u64.bits = 2 := by decide
  rw [e1, e2, e3, Int.fdiv_eq_ediv_of_nonneg _ (by omega), IntWalk.i64_in _ (by omega)]
  omega

def bare2 : List Sh := [.int .i64, .int .i64]
theorem iv_of {c : List SV} (h : okSL bare2 c) : ∃ p : Int × Int, c = enc2 p := by
  obtain ⟨_, _, rfl, ⟨n1, rfl, _⟩, e1⟩ := okSL_cons_inv h
  obtain ⟨_, _, rfl, ⟨n2, rfl, _⟩, e2⟩ := okSL_cons_inv e1
  cases okSL_nil_inv e2
  exact ⟨(n1, n2), rfl⟩
theorem slice_of {α : Type} [Inhabited α] {sh : List Sh} {e : α → List SV} (hof : ∀ c, okSL sh c → ∃ a, leXL c (e a)) {v : SV} (h : okS (.slice sh) v) : ∃ (z : Bool) (l : List α), l.length ≤ maxLen ∧ leX v (.vs false z l.length (lenSh sh) (fun k => e (l.getD k default))) := by
  obtain ⟨z, n, get, rfl, hn, hg⟩ := h
  obtain ⟨l, hl, hp⟩ := list_of (P := fun k a => leXL (get k) (e a)) fun k hk => hof _ (hg k hk)
  exact ⟨z, l, by rw [hl]; exact hn, fun h => h, rfl, hl.symm, rfl, hp⟩
theorem ivs_of {v : SV} (h : okS (.slice bare2) v) : ∃ (z : Bool) (l : List (Int × Int)), l.length ≤ maxLen ∧ leX v (.vs false z l.length 2 (fun k => enc2 (l.getD k default))) :=
  slice_of (fun c hc => let ⟨p, h⟩ := iv_of hc; ⟨p, by rw [h]; exact leXL_self _⟩) h
end Go.Proofs.Ytdognchniaojoaa

/- Numbers by limbs of 32 bits, in plain Lean: digits, lengths, sums, differences, products. -/
set_option linter.all false
namespace Go.Proofs.Ytdognchniaojoaa
open Go Go.Vx

/-- The limb at a place. -/
def dig (a i : Nat) : Nat := a / 4294967296 ^ i % 4294967296

theorem pw_pos (i : Nat) : 0 < 4294967296 ^ i := Nat.pow_pos (by decide)
theorem pw_succ (i : Nat) : 4294967296 ^ (i + 1) = 4294967296 ^ i * 4294967296 := Nat.pow_succ ..
theorem dig_lt (a i : Nat) : dig a i < 4294967296 := Nat.mod_lt _ (by decide)
theorem mod_pw (a i : Nat) : a % 4294967296 ^ (i + 1) = a % 4294967296 ^ i + 4294967296 ^ i * dig a i := Nat.mod_pow_succ
theorem dig_0 (a : Nat) : dig a 0 = a % 4294967296 := by simp [dig]
theorem dig_zero (i : Nat) : dig 0 i = 0 := by simp [dig]
theorem dig_succ (a i : Nat) : dig a (i + 1) = dig (a / 4294967296) i := by
  unfold dig
  rw [Nat.div_div_eq_div_mul, pw_succ, Nat.mul_comm]
theorem dig_big {a n i : Nat} (h : a < 4294967296 ^ n) (hi : n ≤ i) : dig a i = 0 := by
  unfold dig
  rw [Nat.div_eq_of_lt]
  exact Nat.lt_of_lt_of_le h (Nat.pow_le_pow_right (by decide) hi)
theorem mod_ext {a b : Nat} : ∀ {n : Nat}, (∀ i, i < n → dig a i = dig b i) → a % 4294967296 ^ n = b % 4294967296 ^ n
  | 0, _ => by simp [Nat.mod_one]
  | n + 1, h => by rw [mod_pw, mod_pw, mod_ext fun i hi => h i (by omega), h n (by omega)]
theorem dig_ext {a b n : Nat} (ha : a < 4294967296 ^ n) (hb : b < 4294967296 ^ n) (h : ∀ i, i < n → dig a i = dig b i) : a = b := by
  have := mod_ext h
  rwa [Nat.mod_eq_of_lt ha, Nat.mod_eq_of_lt hb] at this
theorem dig_mod {a j k : Nat} (h : k < j) : dig (a % 4294967296 ^ j) k = dig a k := by
  unfold dig
  obtain ⟨m, rfl⟩ : ∃ m, j = k + (m + 1) := ⟨j - k - 1, by omega⟩
  rw [Nat.pow_add, Nat.mod_mul_right_div_self, Nat.pow_succ, Nat.mul_comm, Nat.mod_mul_right_mod]

/-- The number of limbs. -/
def nlF : Nat → Nat → Nat
  | 0, _ => 0
  | f + 1, a => if a = 0 then 0 else nlF f (a / 4294967296) + 1
def nl (a : Nat) : Nat := nlF a a

theorem nlF_le : ∀ (f a n : Nat), a ≤ f → (nlF f a ≤ n ↔ a < 4294967296 ^ n)
  | 0, a, n, h => by
    have := pw_pos n
    simp only [nlF]; omega
  | f + 1, a, n, h => by
    simp only [nlF]
    split
    · rename_i h0; have := pw_pos n; subst h0; simp; omega
    · cases n with
      | zero => simp; omega
      | succ n =>
        have := nlF_le f (a / 4294967296) n (by omega)
        rw [pw_succ, ← Nat.div_lt_iff_lt_mul (by decide), ← this]
        omega
theorem nl_le {a n : Nat} : nl a ≤ n ↔ a < 4294967296 ^ n := nlF_le a a n (Nat.le_refl _)
theorem nl_lt (a : Nat) : a < 4294967296 ^ nl a := nl_le.1 (Nat.le_refl _)
theorem nl_0 : nl 0 = 0 := rfl
theorem nl_pos {a : Nat} : 0 < nl a ↔ 0 < a := by
  have := @nl_le a 0
  simp at this; omega
theorem nl_eq0 {a : Nat} : nl a = 0 ↔ a = 0 := by
  have := @nl_le a 0
  simp at this; omega
theorem nl_top {a : Nat} (h : a ≠ 0) : dig a (nl a - 1) ≠ 0 := by
  obtain ⟨n, hn⟩ : ∃ n, nl a = n + 1 := ⟨nl a - 1, by have := nl_eq0 (a := a); omega⟩
  rw [hn, Nat.add_sub_cancel]
  have h1 := nl_lt a
  have h2 : ¬ a < 4294967296 ^ n := fun hh => by have := nl_le.2 hh; omega
  rw [hn, pw_succ] at h1
  unfold dig
  have h3 : a / 4294967296 ^ n < 4294967296 := by rw [Nat.div_lt_iff_lt_mul (pw_pos n), Nat.mul_comm]; exact h1
  rw [Nat.mod_eq_of_lt h3]
  have := Nat.div_pos (Nat.le_of_not_lt h2) (pw_pos n)
  omega
theorem nl_mono {a b : Nat} (h : a ≤ b) : nl a ≤ nl b := nl_le.2 (Nat.lt_of_le_of_lt h (nl_lt b))

/-- Trimmed: limbs 0 at the end. -/
theorem nl_trim {a n : Nat} (h : a < 4294967296 ^ n) (ht : n = 0 ∨ dig a (n - 1) ≠ 0) : nl a = n := by
  have h1 := nl_le.2 h
  rcases ht with rfl | ht
  · omega
  · rcases Nat.lt_or_ge (nl a) n with h2 | h2
    · exact absurd (dig_big (nl_lt a) (by omega : nl a ≤ n - 1)) ht
    · omega
theorem lt_trim {a n : Nat} (h : a < 4294967296 ^ (n + 1)) (h0 : dig a n = 0) : a < 4294967296 ^ n := by
  have := mod_pw a n
  rw [h0, Nat.mod_eq_of_lt h] at this
  rw [this]
  simpa using Nat.mod_lt a (pw_pos n)

/-! ### Sums -/

/-- What is carried to a place. -/
def cy (a b i : Nat) : Nat := (a % 4294967296 ^ i + b % 4294967296 ^ i) / 4294967296 ^ i
theorem cy_0 (a b : Nat) : cy a b 0 = 0 := by simp [cy, Nat.mod_one]
theorem cy_le (a b i : Nat) : cy a b i ≤ 1 := by
  unfold cy
  have h1 := Nat.mod_lt a (pw_pos i)
  have h2 := Nat.mod_lt b (pw_pos i)
  have : (a % 4294967296 ^ i + b % 4294967296 ^ i) / 4294967296 ^ i < 2 := by
    rw [Nat.div_lt_iff_lt_mul (pw_pos i)]; omega
  omega
theorem div_pw (a b i : Nat) : (a + b) / 4294967296 ^ i = a / 4294967296 ^ i + b / 4294967296 ^ i + cy a b i := by
  unfold cy
  have h1 := Nat.div_add_mod a (4294967296 ^ i)
  have h2 := Nat.div_add_mod b (4294967296 ^ i)
  generalize hP : 4294967296 ^ i = P at *
  have hp : 0 < P := hP ▸ pw_pos i
  have e : a + b = P * (a / P + b / P) + (a % P + b % P) := by rw [Nat.mul_add]; omega
  conv => lhs; rw [e]
  rw [Nat.mul_add_div hp]
theorem add_dig (a b i : Nat) : (dig a i + dig b i + cy a b i) % 4294967296 = dig (a + b) i := by
  unfold dig
  rw [div_pw]
  omega
theorem add_cy (a b i : Nat) : (dig a i + dig b i + cy a b i) / 4294967296 = cy a b (i + 1) := by
  have e : cy a b (i + 1) = (a % 4294967296 ^ (i + 1) + b % 4294967296 ^ (i + 1)) / 4294967296 ^ (i + 1) := rfl
  rw [e, mod_pw, mod_pw, pw_succ, ← Nat.div_div_eq_div_mul]
  unfold cy
  generalize hP : 4294967296 ^ i = P at *
  have hp : 0 < P := hP ▸ pw_pos i
  have e : a % P + P * dig a i + (b % P + P * dig b i) = P * (dig a i + dig b i) + (a % P + b % P) := by rw [Nat.mul_add]; omega
  rw [e, Nat.mul_add_div hp]

/-! ### Differences: what is owed is what the sum carries -/

theorem sub_dig {a b : Nat} (h : b ≤ a) (i : Nat) : (4294967296 + dig a i - dig b i - cy b (a - b) i) % 4294967296 = dig (a - b) i ∧ 1 - (4294967296 + dig a i - dig b i - cy b (a - b) i) / 4294967296 = cy b (a - b) (i + 1)
    ∧ dig b i + cy b (a - b) i ≤ 4294967296 + dig a i ∧ 4294967296 + dig a i - dig b i - cy b (a - b) i < 8589934592 := by
  have e1 := add_dig b (a - b) i
  have e2 := add_cy b (a - b) i
  rw [show b + (a - b) = a by omega] at e1
  have h1 := dig_lt b i
  have h2 := dig_lt (a - b) i
  have h3 := cy_le b (a - b) i
  have h4 := cy_le b (a - b) (i + 1)
  omega

/-! ### A limb is written -/

def setD (V j x : Nat) : Nat := V - dig V j * 4294967296 ^ j + x * 4294967296 ^ j

theorem split_dig (V j : Nat) : V = 4294967296 ^ j * (4294967296 * (V / 4294967296 ^ (j + 1)) + dig V j) + V % 4294967296 ^ j := by
  have h1 := Nat.div_add_mod V (4294967296 ^ j)
  have h2 := Nat.div_add_mod (V / 4294967296 ^ j) 4294967296
  rw [Nat.div_div_eq_div_mul, ← pw_succ] at h2
  unfold dig
  rw [h2, h1]
theorem setD_eq (V j x : Nat) : setD V j x = 4294967296 ^ j * (4294967296 * (V / 4294967296 ^ (j + 1)) + x) + V % 4294967296 ^ j := by
  have := split_dig V j
  unfold setD
  generalize dig V j = d at *
  generalize V / 4294967296 ^ (j + 1) = h at *
  generalize V % 4294967296 ^ j = l at *
  generalize 4294967296 ^ j = P at *
  rw [Nat.mul_add] at this ⊢
  rw [Nat.mul_comm d, Nat.mul_comm x]
  omega
theorem setD_add (V j x : Nat) : setD V j x + dig V j * 4294967296 ^ j = V + x * 4294967296 ^ j := by
  have := split_dig V j
  rw [setD_eq]
  generalize dig V j = d at *
  generalize V / 4294967296 ^ (j + 1) = h at *
  generalize V % 4294967296 ^ j = l at *
  generalize 4294967296 ^ j = P at *
  rw [Nat.mul_add] at this ⊢
  rw [Nat.mul_comm d, Nat.mul_comm x]
  omega
theorem setD_div {V j x : Nat} (hx : x < 4294967296) : setD V j x / 4294967296 ^ (j + 1) = V / 4294967296 ^ (j + 1) := by
  have hl := Nat.mod_lt V (pw_pos j)
  have e : ∀ Y : Nat, Y / 4294967296 ^ (j + 1) = Y / 4294967296 ^ j / 4294967296 := fun Y => by rw [pw_succ, Nat.div_div_eq_div_mul]
  rw [setD_eq, e (4294967296 ^ j * (4294967296 * (V / 4294967296 ^ (j + 1)) + x) + V % 4294967296 ^ j), Nat.mul_add_div (pw_pos j), Nat.div_eq_of_lt hl]
  generalize V / 4294967296 ^ (j + 1) = h
  omega
theorem dig_setD {V j x : Nat} (hx : x < 4294967296) (k : Nat) : dig (setD V j x) k = if k = j then x else dig V k := by
  have hl := Nat.mod_lt V (pw_pos j)
  rcases Nat.lt_trichotomy k j with h | h | h
  · rw [if_neg (by omega), ← dig_mod h, ← dig_mod (a := V) h, setD_eq, Nat.mul_add_mod, Nat.mod_mod]
  · subst h
    rw [if_pos rfl, setD_eq]
    unfold dig
    rw [Nat.mul_add_div (pw_pos k), Nat.div_eq_of_lt hl]
    omega
  · rw [if_neg (by omega)]
    obtain ⟨m, rfl⟩ : ∃ m, k = (j + 1) + m := ⟨k - (j + 1), by omega⟩
    unfold dig
    have e : setD V j x / 4294967296 ^ (j + 1) = V / 4294967296 ^ (j + 1) := by
      exact setD_div hx
    rw [Nat.pow_add, ← Nat.div_div_eq_div_mul, ← Nat.div_div_eq_div_mul, e]
theorem setD_lt {V j x n : Nat} (hV : V < 4294967296 ^ n) (hx : x < 4294967296) (hj : j < n) : setD V j x < 4294967296 ^ n := by
  obtain ⟨m, rfl⟩ : ∃ m, n = m + (j + 1) := ⟨n - (j + 1), by omega⟩
  rw [Nat.pow_add, ← Nat.div_lt_iff_lt_mul (pw_pos _)] at hV ⊢
  rw [setD_div hx]
  exact hV

/-! ### Products -/

/-- A step of a product's row. -/
theorem mul_step {a b i k V c : Nat} (h : V + c * 4294967296 ^ (i + k) = (a % 4294967296 ^ i) * b + dig a i * (b % 4294967296 ^ k) * 4294967296 ^ i) :
    setD V (i + k) ((dig V (i + k) + dig a i * dig b k + c) % 4294967296) + ((dig V (i + k) + dig a i * dig b k + c) / 4294967296) * 4294967296 ^ (i + (k + 1)) = (a % 4294967296 ^ i) * b + dig a i * (b % 4294967296 ^ (k + 1)) * 4294967296 ^ i := by
  have e1 := setD_add V (i + k) ((dig V (i + k) + dig a i * dig b k + c) % 4294967296)
  have e2 := Nat.div_add_mod (dig V (i + k) + dig a i * dig b k + c) 4294967296
  rw [mod_pw, show i + (k + 1) = (i + k) + 1 by omega, pw_succ]
  rw [Nat.pow_add] at *
  generalize setD V (i + k) ((dig V (i + k) + dig a i * dig b k + c) % 4294967296) = V' at *
  generalize (dig V (i + k) + dig a i * dig b k + c) % 4294967296 = r at *
  generalize (dig V (i + k) + dig a i * dig b k + c) / 4294967296 = q at *
  generalize dig V (i + k) = d at *
  generalize dig a i = x at *
  generalize dig b k = y at *
  generalize b % 4294967296 ^ k = bm at *
  generalize a % 4294967296 ^ i = am at *
  generalize 4294967296 ^ i = P at *
  generalize 4294967296 ^ k = R at *
  grind
theorem mul_bound {d x y c : Nat} (hd : d < 4294967296) (hx : x < 4294967296) (hy : y < 4294967296) (hc : c < 4294967296) : d + x * y + c < 18446744073709551616 ∧ (d + x * y + c) / 4294967296 < 4294967296 := by
  have : x * y ≤ 4294967295 * 4294967295 := Nat.mul_le_mul (by omega) (by omega)
  omega

theorem mul_lt {a b i n m : Nat} (hi : i ≤ n) (ha : a < 4294967296 ^ n) (hb : b < 4294967296 ^ m) : (a % 4294967296 ^ i) * b < 4294967296 ^ (n + m + 1) := by
  have h1 := Nat.mod_lt a (pw_pos i)
  have h2 : a % 4294967296 ^ i ≤ 4294967296 ^ n := Nat.le_trans (Nat.le_of_lt h1) (Nat.pow_le_pow_right (by decide) hi)
  have h3 : (a % 4294967296 ^ i) * b ≤ 4294967296 ^ n * 4294967296 ^ m := Nat.mul_le_mul h2 (Nat.le_of_lt hb)
  rw [← Nat.pow_add] at h3
  rw [pw_succ]
  have := pw_pos (n + m)
  omega

/-! ### Order -/

theorem dig_div (a m k : Nat) : dig (a / 4294967296 ^ m) k = dig a (m + k) := by
  unfold dig
  rw [Nat.pow_add, Nat.div_div_eq_div_mul]
theorem nat_big (a b : Nat) : ∃ n, a < 4294967296 ^ n ∧ b < 4294967296 ^ n :=
  ⟨nl a + nl b, Nat.lt_of_lt_of_le (nl_lt a) (Nat.pow_le_pow_right (by decide) (by omega)), Nat.lt_of_lt_of_le (nl_lt b) (Nat.pow_le_pow_right (by decide) (by omega))⟩
theorem dig_all {a b : Nat} (h : ∀ i, dig a i = dig b i) : a = b := by
  obtain ⟨n, h1, h2⟩ := nat_big a b
  exact dig_ext h1 h2 fun i _ => h i
theorem div_eq {a b m : Nat} (h : ∀ i, m ≤ i → dig a i = dig b i) : a / 4294967296 ^ m = b / 4294967296 ^ m :=
  dig_all fun i => by rw [dig_div, dig_div]; exact h _ (by omega)
theorem dig_cmp {a b j : Nat} (h : ∀ i, j < i → dig a i = dig b i) (hd : dig a j < dig b j) : a < b := by
  have h1 := split_dig a j
  have h2 := split_dig b j
  rw [div_eq (m := j + 1) fun i hi => h i hi] at h1
  have h3 := Nat.mod_lt a (pw_pos j)
  generalize b / 4294967296 ^ (j + 1) = q at *
  generalize 4294967296 ^ j = P at *
  generalize a % P = x at *
  generalize b % P = y at *
  generalize dig a j = d at *
  generalize dig b j = e at *
  have : P * (4294967296 * q + d) + P ≤ P * (4294967296 * q + e) := by
    rw [← Nat.mul_succ]; exact Nat.mul_le_mul_left _ (by omega)
  omega
def ordN (a b : Nat) : Int := if a < b then -1 else if b < a then 1 else 0

theorem w_pred {j : Nat} (h : 0 < j) (hj : j ≤ 9223372036854775807) : IntKind.i64.wrap ((j : Int) - 1) = ((j - 1 : Nat) : Int) := by
  rw [IntWalk.i64_in _ (by omega)]; omega
theorem u_nat {x : Nat} (h : x < 18446744073709551616) : IntKind.u64.wrap (x : Int) = x := IntWalk.u64_in _ (by omega)
theorem u3_nat {x : Nat} (h : x < 4294967296) : IntKind.u32.wrap (x : Int) = x := IntWalk.u32_in _ (by omega)
theorem u_add {x y : Nat} (h : x + y < 18446744073709551616) : IntKind.u64.wrap ((x : Int) + (y : Int)) = ((x + y : Nat) : Int) := by rw [IntWalk.u64_in _ (by omega)]; simp
theorem u_mul {x y : Nat} (h : x * y < 18446744073709551616) : IntKind.u64.wrap ((x : Int) * (y : Int)) = ((x * y : Nat) : Int) := by
  rw [← Int.natCast_mul]; exact u_nat h
theorem u_sub {x y : Nat} (h : y ≤ x) (hx : x < 18446744073709551616) : IntKind.u64.wrap ((x : Int) - (y : Int)) = ((x - y : Nat) : Int) := by
  rw [IntWalk.u64_in _ (by omega)]; omega
theorem u_rem (x : Nat) : ((x : Int)).tmod 4294967296 = ((x % 4294967296 : Nat) : Int) := IntWalk.up_tmod rfl rfl
theorem u_quo {x : Nat} (h : x < 18446744073709551616) : IntKind.u64.wrap (((x : Int)).tdiv 4294967296) = ((x / 4294967296 : Nat) : Int) := by
  have e : ((x : Int)).tdiv 4294967296 = ((x / 4294967296 : Nat) : Int) := IntWalk.up_tdiv (y := 4294967296) rfl rfl
  rw [e]; exact u_nat (by omega)
theorem u3_rem (x : Nat) : IntKind.u32.wrap (((x : Int)).tmod 4294967296) = ((x % 4294967296 : Nat) : Int) := by
  rw [u_rem]; exact u3_nat (Nat.mod_lt _ (by decide))

end Go.Proofs.Ytdognchniaojoaa

/- Numbers by limbs, walked: limb, trim, Of, Order, Plus, Minus. -/
set_option linter.all false
namespace Go.Proofs.Ytdognchniaojoaa
open Go Go.Vx
set_option maxRecDepth 100000
set_option maxHeartbeats 4000000

def v81 : VF := { ntmps := 14, res := [.tmp 4], body :=
 (.seq (.region [⟨(some 4), none, .mov, [.cn (.int .u64 0)]⟩])
 (.seq (.seq (.region [⟨(some 5), none, .mov, [.tm 1]⟩,
  ⟨(some 6), none, .mov, [.tm 0]⟩,
  ⟨(some 7), none, .len, [.tm 6]⟩,
  ⟨(some 8), none, (.cmp .lss), [.tm 5, .tm 7]⟩])
 (.cond (.tm 8) (.seq (.region [⟨(some 9), none, .mov, [.tm 0]⟩,
  ⟨(some 10), none, .mov, [.tm 1]⟩,
  ⟨(some 11), none, (.idxAddr 1), [.tm 9, .tm 10]⟩,
  ⟨(some 12), none, (.load false 1), [.tm 11]⟩,
  ⟨(some 13), none, (.conv .u64), [.tm 12]⟩,
  ⟨(some 4), none, .mov, [.tm 13]⟩])
 .ret)
  .skip))
 (.seq (.region [⟨(some 4), none, .mov, [.cn (.int .u64 0)]⟩])
 .ret))) }
theorem v81_is : vfunc Try.prog Try.f81 = some v81 := by kernel_rfl
def v80 : VF := { ntmps := 23, res := [.tmp 2], body :=
 (.seq (.region [⟨(some 2), none, .mov, [.cn .nil]⟩])
 (.seq (.region [⟨(some 4), none, .mov, [.tm 0]⟩,
  ⟨(some 5), none, .len, [.tm 4]⟩,
  ⟨(some 3), none, .mov, [.tm 5]⟩])
 (.seq (.block 0 (.loop (.seq (.seq (.region [⟨(some 6), none, .mov, [.tm 3]⟩,
  ⟨(some 7), none, (.cmp .gtr), [.tm 6, .cn (.int .i64 0)]⟩,
  ⟨(some 8), none, .mov, [.tm 7]⟩,
  ⟨(some 9), (some (8, true)), .mov, [.tm 0]⟩,
  ⟨(some 10), (some (8, true)), .mov, [.tm 3]⟩,
  ⟨(some 11), (some (8, true)), (.ari .sub), [.tm 10, .cn (.int .i64 1)]⟩,
  ⟨(some 12), (some (8, true)), (.idxAddr 1), [.tm 9, .tm 11]⟩,
  ⟨(some 13), (some (8, true)), (.load false 1), [.tm 12]⟩,
  ⟨(some 14), (some (8, true)), (.cmp .eql), [.tm 13, .cn (.int .u32 0)]⟩,
  ⟨(some 15), none, .and, [.tm 8, .tm 14]⟩])
 (.cond (.tm 15) .skip
  (.exit 0)))
 (.block 1 (.region [⟨(some 16), none, .mov, [.tm 3]⟩,
  ⟨(some 17), none, (.ari .sub), [.tm 16, .cn (.int .i64 1)]⟩,
  ⟨(some 3), none, .mov, [.tm 17]⟩])))))
 (.seq (.region [⟨(some 18), none, (.buildSlice 1 0 [(.int .u32 0)] []), []⟩,
  ⟨(some 19), none, .mov, [.tm 0]⟩,
  ⟨(some 20), none, .mov, [.tm 3]⟩,
  ⟨(some 21), none, (.slice 1 false true), [.tm 19, .tm 20]⟩,
  ⟨(some 22), none, (.append 1 4 [(.int .u32 0)]), [.tm 18, .tm 21]⟩,
  ⟨(some 2), none, .mov, [.tm 22]⟩])
 .ret)))) }
theorem v80_is : vfunc Try.prog Try.f80 = some v80 := by kernel_rfl
def v55 : VF := { ntmps := 11, res := [.tmp 2], body :=
 (.seq (.region [⟨(some 2), none, .mov, [.cn .nil]⟩])
 (.seq (.region [⟨(some 3), none, .mov, [.tm 0]⟩,
  ⟨(some 4), none, .rem, [.tm 3, .cn (.int .u64 4294967296)]⟩,
  ⟨(some 5), none, (.conv .u32), [.tm 4]⟩,
  ⟨(some 6), none, .mov, [.tm 0]⟩,
  ⟨(some 7), none, .quo, [.tm 6, .cn (.int .u64 4294967296)]⟩,
  ⟨(some 8), none, (.conv .u32), [.tm 7]⟩,
  ⟨(some 9), none, (.buildSlice 1 2 [(.int .u32 0)] [(0, 1), (1, 1)]), [.tm 5, .tm 8]⟩,
  ⟨(some 10), none, (.call 80), [.tm 9]⟩,
  ⟨(some 2), none, .mov, [.tm 10]⟩])
 .ret)) }
theorem v55_is : vfunc Try.prog Try.f55 = some v55 := by kernel_rfl
def v58 : VF := { ntmps := 30, res := [.tmp 4], body :=
 (.seq (.region [⟨(some 4), none, .mov, [.cn (.int .i64 0)]⟩])
 (.seq (.seq (.region [⟨(some 6), none, .mov, [.tm 0]⟩,
  ⟨(some 7), none, .len, [.tm 6]⟩,
  ⟨(some 8), none, .mov, [.tm 1]⟩,
  ⟨(some 9), none, .len, [.tm 8]⟩,
  ⟨(some 10), none, .max, [.tm 7, .tm 9]⟩,
  ⟨(some 11), none, (.ari .sub), [.tm 10, .cn (.int .i64 1)]⟩,
  ⟨(some 5), none, .mov, [.tm 11]⟩])
 (.block 0 (.loop (.seq (.seq (.region [⟨(some 12), none, .mov, [.tm 5]⟩,
  ⟨(some 13), none, (.cmp .geq), [.tm 12, .cn (.int .i64 0)]⟩])
 (.cond (.tm 13) .skip
  (.exit 0)))
 (.seq (.block 1 (.seq (.seq (.region [⟨(some 16), none, .mov, [.tm 0]⟩,
  ⟨(some 17), none, .mov, [.tm 5]⟩,
  ⟨(some 18), none, (.call 81), [.tm 16, .tm 17]⟩,
  ⟨(some 19), none, .mov, [.tm 1]⟩,
  ⟨(some 20), none, .mov, [.tm 5]⟩,
  ⟨(some 21), none, (.call 81), [.tm 19, .tm 20]⟩,
  ⟨(some 22), none, (.cmp .lss), [.tm 18, .tm 21]⟩])
 (.cond (.tm 22) (.seq (.region [⟨(some 4), none, .mov, [.cn (.int .i64 (-1))]⟩])
 .ret)
  .skip))
 (.seq (.region [⟨(some 23), none, .mov, [.tm 0]⟩,
  ⟨(some 24), none, .mov, [.tm 5]⟩,
  ⟨(some 25), none, (.call 81), [.tm 23, .tm 24]⟩,
  ⟨(some 26), none, .mov, [.tm 1]⟩,
  ⟨(some 27), none, .mov, [.tm 5]⟩,
  ⟨(some 28), none, (.call 81), [.tm 26, .tm 27]⟩,
  ⟨(some 29), none, (.cmp .gtr), [.tm 25, .tm 28]⟩])
 (.cond (.tm 29) (.seq (.region [⟨(some 4), none, .mov, [.cn (.int .i64 1)]⟩])
 .ret)
  .skip))))
 (.region [⟨(some 14), none, .mov, [.tm 5]⟩,
  ⟨(some 15), none, (.ari .sub), [.tm 14, .cn (.int .i64 1)]⟩,
  ⟨(some 5), none, .mov, [.tm 15]⟩]))))))
 (.seq (.region [⟨(some 4), none, .mov, [.cn (.int .i64 0)]⟩])
 .ret))) }
theorem v58_is : vfunc Try.prog Try.f58 = some v58 := by kernel_rfl
def v79 : VF := { ntmps := 38, res := [.tmp 4], body :=
 (.seq (.region [⟨(some 4), none, .mov, [.cn .nil]⟩])
 (.seq (.region [⟨(some 5), none, .mov, [.cn .nil]⟩])
 (.seq (.region [⟨(some 6), none, .mov, [.cn (.int .u64 0)]⟩])
 (.seq (.seq (.region [⟨(some 7), none, .mov, [.cn (.int .i64 0)]⟩])
 (.block 0 (.loop (.seq (.seq (.region [⟨(some 9), none, .mov, [.tm 7]⟩,
  ⟨(some 10), none, .mov, [.tm 0]⟩,
  ⟨(some 11), none, .len, [.tm 10]⟩,
  ⟨(some 12), none, .mov, [.tm 1]⟩,
  ⟨(some 13), none, .len, [.tm 12]⟩,
  ⟨(some 14), none, .max, [.tm 11, .tm 13]⟩,
  ⟨(some 15), none, (.ari .add), [.tm 14, .cn (.int .i64 1)]⟩,
  ⟨(some 16), none, (.cmp .lss), [.tm 9, .tm 15]⟩])
 (.cond (.tm 16) .skip
  (.exit 0)))
 (.seq (.block 1 (.seq (.region [⟨(some 19), none, .mov, [.tm 0]⟩,
  ⟨(some 20), none, .mov, [.tm 7]⟩,
  ⟨(some 21), none, (.call 81), [.tm 19, .tm 20]⟩,
  ⟨(some 22), none, .mov, [.tm 1]⟩,
  ⟨(some 23), none, .mov, [.tm 7]⟩,
  ⟨(some 24), none, (.call 81), [.tm 22, .tm 23]⟩,
  ⟨(some 25), none, (.ari .add), [.tm 21, .tm 24]⟩,
  ⟨(some 26), none, .mov, [.tm 6]⟩,
  ⟨(some 27), none, (.ari .add), [.tm 25, .tm 26]⟩,
  ⟨(some 8), none, .mov, [.tm 27]⟩])
 (.seq (.region [⟨(some 28), none, .mov, [.tm 5]⟩,
  ⟨(some 29), none, .mov, [.tm 8]⟩,
  ⟨(some 30), none, .rem, [.tm 29, .cn (.int .u64 4294967296)]⟩,
  ⟨(some 31), none, (.conv .u32), [.tm 30]⟩,
  ⟨(some 32), none, (.buildSlice 1 1 [(.int .u32 0)] [(0, 1)]), [.tm 31]⟩,
  ⟨(some 33), none, (.append 1 4 [(.int .u32 0)]), [.tm 28, .tm 32]⟩,
  ⟨(some 5), none, .mov, [.tm 33]⟩])
 (.region [⟨(some 34), none, .mov, [.tm 8]⟩,
  ⟨(some 35), none, .quo, [.tm 34, .cn (.int .u64 4294967296)]⟩,
  ⟨(some 6), none, .mov, [.tm 35]⟩]))))
 (.region [⟨(some 17), none, .mov, [.tm 7]⟩,
  ⟨(some 18), none, (.ari .add), [.tm 17, .cn (.int .i64 1)]⟩,
  ⟨(some 7), none, .mov, [.tm 18]⟩]))))))
 (.seq (.region [⟨(some 36), none, .mov, [.tm 5]⟩,
  ⟨(some 37), none, (.call 80), [.tm 36]⟩,
  ⟨(some 4), none, .mov, [.tm 37]⟩])
 .ret))))) }
theorem v79_is : vfunc Try.prog Try.f79 = some v79 := by kernel_rfl


/-- A number came in by n limbs. -/
def padP (a n sz : Nat) (get : Nat → List SV) : Prop := sz = 1 ∧ n ≤ 100000 ∧ a < 4294967296 ^ n ∧ ∀ k, k < n → leXL (get k) [.int .u32 (dig a k)]
theorem padP_self {a n : Nat} (hn : n ≤ 100000) (ha : a < 4294967296 ^ n) : padP a n 1 (fun k => [.int .u32 (dig a k)]) := ⟨rfl, hn, ha, fun k _ => leXL_self _⟩
theorem padP_nl {a : Nat} (hn : nl a ≤ 100000) : padP a (nl a) 1 (fun k => [.int .u32 (dig a k)]) := padP_self hn (nl_lt a)
theorem padP_0 {a sz : Nat} {get : Nat → List SV} (h : padP a 0 sz get) : a = 0 := by
  have := h.2.2.1
  simp at this; omega

def natS (z : Bool) (a : Nat) : SV := .vs true z (nl a) 1 (fun k => [.int .u32 (dig a k)])

def limbC : Ctr := { alias := false, of := fun l => match l with
  | [.vs _ _ n sz get, .int .i64 i] => .ex Nat fun a => .pre (padP a n sz get ∧ 0 ≤ i) (.fin (.int .u64 (dig a i.toNat)) [])
  | _ => noC }
def trimC : Ctr := { alias := false, of := fun l => match l with
  | [.vs _ _ n sz get] => .ex Nat fun a => .pre (padP a n sz get) (.fin (natS false a) [])
  | _ => noC }

theorem own_nat {hp : List HO} {i n m : Nat} {z zz : Bool} {get : Nat → List SV} {a : Nat} (hn : n = nl a) (hz : z = zz) (hi : getH hp i = .own z 1 m get) (hg : ∀ j, j < n → get j = [.int .u32 (dig a j)]) :
    le 0 0 (expo hp (.own i 0 n 1)) (natS zz a) := by
  have e : expo hp (.own i 0 n 1) = .vs true z n 1 (fun k => viewN true hp 2 (get (addLo 0 k))) := by
    show view true hp (viewN true hp 2) (.own i 0 n 1) = _
    unfold view
    rw [hi]; rfl
  rw [e]
  unfold natS
  rw [le_vs]
  refine ⟨id, hz, hn, rfl, fun j hj => ?_⟩
  show leXL (viewN true hp 2 (get j)) _
  rw [hg j hj]
  exact leXL_self _
theorem ans_nat {k : SV → List HO → Prop} {al : Bool} {hp : List HO} {i n m : Nat} {z zz : Bool} {get : Nat → List SV} {a : Nat} (h : k (natS zz a) []) (hn : n = nl a) (hz : z = zz) (hi : getH hp i = .own z 1 m get) (hg : ∀ j, j < n → get j = [.int .u32 (dig a j)]) :
    answers al k (.own i 0 n 1) hp := ans_le h (own_nat hn hz hi hg) (fun _ => by simp [natS, freshS, freshL])

theorem ans_natS {k : SV → List HO → Prop} {al : Bool} {hp : List HO} {t z : Bool} {a : Nat} (h : k (natS z a) []) : answers al k (.vs true z (nl a) 1 (fun k => [.int .u32 (dig a k)])) hp :=
  ans_le h (le_self _ trivial) (fun _ => by simp [natS, freshS, freshL])

def R0 : Env := { ct := fun _ => none, fn := fun _ => none, meth := fun _ _ => none }
theorem R0_ok : EnvOk Try.prog R0 := by
  refine ⟨fun f c h => ?_, fun f vf h => ?_, fun _ _ => rfl, by kernel_rfl⟩
  · cases h
  · cases h


theorem limb_ok : limbC.ok Try.prog 81 := by
  refine contract Try.func81 v81_is R0_ok 100 limbC fun args k h => ?_
  simp only [limbC] at h
  split at h
  · rename_i tt z n sz get i
    obtain ⟨a, ⟨⟨rfl, hn, ha, hg⟩, hi⟩, h⟩ := h
    refine ⟨[.vs tt z n 1 (fun k => [.int .u32 (dig a k)]), .int .i64 i], by simpa [leL, le] using hg, ?_⟩
    dsimp only [v81, r_end, r_end1, r_nil, r_op, r_opg, r_runOp, r_op0, r_yld0, r_yld1, r_y, r_rbeg, r_rend, r_rend1, r_rfrm, r_rfrm1, r_range, r_rangeK, r_rangeE, r_draw, r_dnil, r_dop, r_dopg, r_dplq, r_dplh, r_dq, r_dq0, r_dcl1, r_dcl0, r_dct1, r_dct0, r_dgd, r_dgq1, r_dgq0, r_dctG, r_op1, r_eff, r_eff0, r_call, r_call0, r_inl, r_g, r_gq, r_gc, r_effg, r_effg0, r_callg, r_callg0, r_fin, r_pre, r_imp, r_all, r_ex, r_fing, r_preg, r_exg, r_inBlock, r_inLoop, r_frame, r_frame1, r_skip, r_stuck, r_region, r_seq, r_cond, r_cond1, r_block, r_exit, r_exit1, r_exit2, r_ret, r_loop, s_args0, s_args1, s_xt, s_xc, padL, blankL, callee, callArgs, eff, ctOf, getL, setL, S.put, S.upd, unopts, unopt, unoptsO, unoptsB, lazyO, guardOf, gbool, eMov, eNot, eNeg, eConv, eExt, eLenArr, eLen, eLenStr, eEqb, eEqv, allEq, eNil, negIf, eBool2, eCmp, eAri, ari, eBit, eDiv, eSh, eMinMax, foldMin, foldMax, kEq, pure1, cmpB, VO.quiet, resVals, resVal, tupled, popRet, popTo, cond, Option.bind, Option.map, eNew, eBox, asCells, lenH, snocH, eFieldAddr, eField, eLoad, cellsAt, getH, setH, dropL, takeL, mkAgg, lenL, lenS, shift, shiftL, shiftH, viewN, viewL, view, andT, junks, List.append_nil, Nat.beq, eIdxAddr, eIdxArr, idxN_0, idxN_1, idxN_2, idxN_3, eIndex, eStore, storeAt, spliceL, ones, one, eSlice, eSliceArr, bounds, subLo_z, addLo_z, subLo_one, addLo_one, eMake, eAppend, readS, repL, buildCells, chunk, purgeL, purgeLL, purgeH, purge, refs, refsL, List.cons_append, List.nil_append, wrOps, wrAl, wrDops, wrC, junkAt, putAll, putHs, headOf, headK, keepG, List.append_eq, headX, chkP, apartP, apartB, blk, strip, runAl, AL.ho, yld, putPs, lenN, findR, notRound, jumpK, jumpPT, jcode, List.map_cons, List.map_nil, ite_self, reduceIte]
    simp only [true_and, and_true, imp_self, implies_true, decide_eq_true_eq, decide_eq_false_iff_not, Nat.reduceAdd, Nat.reduceLeDiff, Bool.not_not, reduceCtorEq, false_imp_iff, Bool.not_eq_true', Bool.not_eq_false', Bool.false_eq_true, and_self, forall_const, ne_eq, not_false_eq_true, Nat.reduceEqDiff]
    refine ⟨fun hlt => ⟨⟨hi, hlt⟩, ans_int ?_⟩, fun hge => ans_int ?_⟩
    · rw [u_nat (Nat.lt_trans (dig_lt _ _) (by decide))]; exact h
    · rw [dig_big ha (by omega)] at h; exact h
  · exact h.1.elim

theorem trim_ok : trimC.ok Try.prog 80 := by
  refine contract Try.func80 v80_is R0_ok 200 trimC fun args k h => ?_
  simp only [trimC] at h
  split at h
  · rename_i tt z n sz get
    obtain ⟨a, ⟨rfl, hn, ha, hg⟩, h⟩ := h
    refine ⟨[.vs tt z n 1 (fun k => [.int .u32 (dig a k)])], by simpa [leL, le] using hg, ?_⟩
    dsimp only [v80, r_end, r_end1, r_nil, r_op, r_opg, r_runOp, r_op0, r_yld0, r_yld1, r_y, r_rbeg, r_rend, r_rend1, r_rfrm, r_rfrm1, r_range, r_rangeK, r_rangeE, r_draw, r_dnil, r_dop, r_dopg, r_dplq, r_dplh, r_dq, r_dq0, r_dcl1, r_dcl0, r_dct1, r_dct0, r_dgd, r_dgq1, r_dgq0, r_dctG, r_op1, r_eff, r_eff0, r_call, r_call0, r_inl, r_g, r_gq, r_gc, r_effg, r_effg0, r_callg, r_callg0, r_fin, r_pre, r_imp, r_all, r_ex, r_fing, r_preg, r_exg, r_inBlock, r_inLoop, r_frame, r_frame1, r_skip, r_stuck, r_region, r_seq, r_cond, r_cond1, r_block, r_exit, r_exit1, r_exit2, r_ret, r_loop, s_args0, s_args1, s_xt, s_xc, padL, blankL, callee, callArgs, eff, ctOf, getL, setL, S.put, S.upd, unopts, unopt, unoptsO, unoptsB, lazyO, guardOf, gbool, eMov, eNot, eNeg, eConv, eExt, eLenArr, eLen, eLenStr, eEqb, eEqv, allEq, eNil, negIf, eBool2, eCmp, eAri, ari, eBit, eDiv, eSh, eMinMax, foldMin, foldMax, kEq, pure1, cmpB, VO.quiet, resVals, resVal, tupled, popRet, popTo, cond, Option.bind, Option.map, eNew, eBox, asCells, lenH, snocH, eFieldAddr, eField, eLoad, cellsAt, getH, setH, dropL, takeL, mkAgg, lenL, lenS, shift, shiftL, shiftH, viewN, viewL, view, andT, junks, List.append_nil, Nat.beq, eIdxAddr, eIdxArr, idxN_0, idxN_1, idxN_2, idxN_3, eIndex, eStore, storeAt, spliceL, ones, one, eSlice, eSliceArr, bounds, subLo_z, addLo_z, subLo_one, addLo_one, eMake, eAppend, readS, repL, buildCells, chunk, purgeL, purgeLL, purgeH, purge, refs, refsL, List.cons_append, List.nil_append, wrOps, wrAl, wrDops, wrC, junkAt, putAll, putHs, headOf, headK, keepG, List.append_eq, headX, chkP, apartP, apartB, blk, strip, runAl, AL.ho, yld, putPs, lenN, findR, notRound, jumpK, jumpPT, jcode, List.map_cons, List.map_nil, ite_self, reduceIte]
    simp only [true_and, and_true, imp_self, implies_true, decide_eq_true_eq, decide_eq_false_iff_not, Nat.reduceAdd, Nat.reduceLeDiff, Bool.not_not, reduceCtorEq, false_imp_iff, Bool.not_eq_true', Bool.not_eq_false', Bool.false_eq_true, and_self, forall_const, ne_eq, not_false_eq_true, Nat.reduceEqDiff]
    refine Loop.keep [0, 2] Nat (fun j => [(3, .int .i64 j)]) (fun _ => []) [] (fun j => j ≤ n ∧ a < 4294967296 ^ j) (fun j => j) ?_ ?_
    · refine ⟨n, ⟨Nat.le_refl _, ha⟩, ?_⟩
      dsimp only [r_end, r_end1, r_nil, r_op, r_opg, r_runOp, r_op0, r_yld0, r_yld1, r_y, r_rbeg, r_rend, r_rend1, r_rfrm, r_rfrm1, r_range, r_rangeK, r_rangeE, r_draw, r_dnil, r_dop, r_dopg, r_dplq, r_dplh, r_dq, r_dq0, r_dcl1, r_dcl0, r_dct1, r_dct0, r_dgd, r_dgq1, r_dgq0, r_dctG, r_op1, r_eff, r_eff0, r_call, r_call0, r_inl, r_g, r_gq, r_gc, r_effg, r_effg0, r_callg, r_callg0, r_fin, r_pre, r_imp, r_all, r_ex, r_fing, r_preg, r_exg, r_inBlock, r_inLoop, r_frame, r_frame1, r_skip, r_stuck, r_region, r_seq, r_cond, r_cond1, r_block, r_exit, r_exit1, r_exit2, r_ret, r_loop, s_args0, s_args1, s_xt, s_xc, padL, blankL, callee, callArgs, eff, ctOf, getL, setL, S.put, S.upd, unopts, unopt, unoptsO, unoptsB, lazyO, guardOf, gbool, eMov, eNot, eNeg, eConv, eExt, eLenArr, eLen, eLenStr, eEqb, eEqv, allEq, eNil, negIf, eBool2, eCmp, eAri, ari, eBit, eDiv, eSh, eMinMax, foldMin, foldMax, kEq, pure1, cmpB, VO.quiet, resVals, resVal, tupled, popRet, popTo, cond, Option.bind, Option.map, eNew, eBox, asCells, lenH, snocH, eFieldAddr, eField, eLoad, cellsAt, getH, setH, dropL, takeL, mkAgg, lenL, lenS, shift, shiftL, shiftH, viewN, viewL, view, andT, junks, List.append_nil, Nat.beq, eIdxAddr, eIdxArr, idxN_0, idxN_1, idxN_2, idxN_3, eIndex, eStore, storeAt, spliceL, ones, one, eSlice, eSliceArr, bounds, subLo_z, addLo_z, subLo_one, addLo_one, eMake, eAppend, readS, repL, buildCells, chunk, purgeL, purgeLL, purgeH, purge, refs, refsL, List.cons_append, List.nil_append, wrOps, wrAl, wrDops, wrC, junkAt, putAll, putHs, headOf, headK, keepG, List.append_eq, headX, chkP, apartP, apartB, blk, strip, runAl, AL.ho, yld, putPs, lenN, findR, notRound, jumpK, jumpPT, jcode, List.map_cons, List.map_nil, ite_self, reduceIte]
      simp only [leS_mk, leL_cons, leL_nil, le_junk, le_int, le_bool, le_nil, leLL_nil, leLL_cons, leH_cons, leH_nil, leH1_box, leH1_own, leH1_gone, le_vs, le_agg, le_tup, le_ptr, le_own, le_xp, le_fn, le_opt, le_val, le_elem, le_nil_own, le_nil_vs, leH_ghost, leL_chunk, leXL_id, bnd_int, bnd_bool, bnd_val, bnd_nil, bnd_junk, bnd_vs, bnd_xp, bnd_agg, bnd_tup, bnd_ptr, bnd_own, bnd_elem, bnd_fn, bnd_iface, bnd_opt, bndL_nil, bndL_cons, lenH_cons, lenH_nil, imp_self, implies_true, true_and, and_true]
    · rintro j ⟨hj, haj⟩
      dsimp only [Int.toNat_natCast, r_end, r_end1, r_nil, r_op, r_opg, r_runOp, r_op0, r_yld0, r_yld1, r_y, r_rbeg, r_rend, r_rend1, r_rfrm, r_rfrm1, r_range, r_rangeK, r_rangeE, r_draw, r_dnil, r_dop, r_dopg, r_dplq, r_dplh, r_dq, r_dq0, r_dcl1, r_dcl0, r_dct1, r_dct0, r_dgd, r_dgq1, r_dgq0, r_dctG, r_op1, r_eff, r_eff0, r_call, r_call0, r_inl, r_g, r_gq, r_gc, r_effg, r_effg0, r_callg, r_callg0, r_fin, r_pre, r_imp, r_all, r_ex, r_fing, r_preg, r_exg, r_inBlock, r_inLoop, r_frame, r_frame1, r_skip, r_stuck, r_region, r_seq, r_cond, r_cond1, r_block, r_exit, r_exit1, r_exit2, r_ret, r_loop, s_args0, s_args1, s_xt, s_xc, padL, blankL, callee, callArgs, eff, ctOf, getL, setL, S.put, S.upd, unopts, unopt, unoptsO, unoptsB, lazyO, guardOf, gbool, eMov, eNot, eNeg, eConv, eExt, eLenArr, eLen, eLenStr, eEqb, eEqv, allEq, eNil, negIf, eBool2, eCmp, eAri, ari, eBit, eDiv, eSh, eMinMax, foldMin, foldMax, kEq, pure1, cmpB, VO.quiet, resVals, resVal, tupled, popRet, popTo, cond, Option.bind, Option.map, eNew, eBox, asCells, lenH, snocH, eFieldAddr, eField, eLoad, cellsAt, getH, setH, dropL, takeL, mkAgg, lenL, lenS, shift, shiftL, shiftH, viewN, viewL, view, andT, junks, List.append_nil, Nat.beq, eIdxAddr, eIdxArr, idxN_0, idxN_1, idxN_2, idxN_3, eIndex, eStore, storeAt, spliceL, ones, one, eSlice, eSliceArr, bounds, subLo_z, addLo_z, subLo_one, addLo_one, eMake, eAppend, readS, repL, buildCells, chunk, purgeL, purgeLL, purgeH, purge, refs, refsL, List.cons_append, List.nil_append, wrOps, wrAl, wrDops, wrC, junkAt, putAll, putHs, headOf, headK, keepG, List.append_eq, headX, chkP, apartP, apartB, blk, strip, runAl, AL.ho, yld, putPs, lenN, findR, notRound, jumpK, jumpPT, jcode, List.map_cons, List.map_nil, ite_self, reduceIte]
      simp only [true_and, and_true, imp_self, implies_true, decide_eq_true_eq, decide_eq_false_iff_not, Nat.reduceAdd, Nat.reduceLeDiff, Bool.not_not, reduceCtorEq, false_imp_iff, Bool.not_eq_true', Bool.not_eq_false', Bool.false_eq_true, and_self, forall_const, ne_eq, not_false_eq_true, Nat.reduceEqDiff]
      refine ⟨fun hlt => ?_, fun hb => ?_, fun hb => ?_⟩
      · rw [w_pred (by omega) (by omega)]; omega
      · rw [Bool.and_eq_true, decide_eq_true_eq, decide_eq_true_eq] at hb
        obtain ⟨h1, h2⟩ := hb
        rw [w_pred (by omega) (by omega), Int.toNat_natCast] at h2
        refine ⟨j - 1, ⟨by omega, ?_⟩, by omega, ?_⟩
        · obtain ⟨m, rfl⟩ : ∃ m, j = m + 1 := ⟨j - 1, by omega⟩
          exact lt_trim haj (by simp at h2; exact_mod_cast h2)
        · rw [w_pred (by omega) (by omega)]
          simp only [leS_mk, leL_cons, leL_nil, le_junk, le_int, le_bool, le_nil, leLL_nil, leLL_cons, leH_cons, leH_nil, leH1_box, leH1_own, leH1_gone, le_vs, le_agg, le_tup, le_ptr, le_own, le_xp, le_fn, le_opt, le_val, le_elem, le_nil_own, le_nil_vs, leH_ghost, leL_chunk, leXL_id, bnd_int, bnd_bool, bnd_val, bnd_nil, bnd_junk, bnd_vs, bnd_xp, bnd_agg, bnd_tup, bnd_ptr, bnd_own, bnd_elem, bnd_fn, bnd_iface, bnd_opt, bndL_nil, bndL_cons, lenH_cons, lenH_nil, imp_self, implies_true, true_and, and_true] <;> simp
      · have e : nl a = j := by
          refine nl_trim haj ?_
          rw [Bool.and_eq_false_iff, decide_eq_false_iff_not, decide_eq_false_iff_not] at hb
          rcases Nat.eq_zero_or_pos j with h0 | h0
          · exact .inl h0
          · refine .inr fun hh => hb.elim (fun h => h (by omega)) fun h => h ?_
            rw [w_pred h0 (by omega), Int.toNat_natCast, hh]; rfl
        subst e
        dsimp only [Int.toNat_natCast, r_end, r_end1, r_nil, r_op, r_opg, r_runOp, r_op0, r_yld0, r_yld1, r_y, r_rbeg, r_rend, r_rend1, r_rfrm, r_rfrm1, r_range, r_rangeK, r_rangeE, r_draw, r_dnil, r_dop, r_dopg, r_dplq, r_dplh, r_dq, r_dq0, r_dcl1, r_dcl0, r_dct1, r_dct0, r_dgd, r_dgq1, r_dgq0, r_dctG, r_op1, r_eff, r_eff0, r_call, r_call0, r_inl, r_g, r_gq, r_gc, r_effg, r_effg0, r_callg, r_callg0, r_fin, r_pre, r_imp, r_all, r_ex, r_fing, r_preg, r_exg, r_inBlock, r_inLoop, r_frame, r_frame1, r_skip, r_stuck, r_region, r_seq, r_cond, r_cond1, r_block, r_exit, r_exit1, r_exit2, r_ret, r_loop, s_args0, s_args1, s_xt, s_xc, padL, blankL, callee, callArgs, eff, ctOf, getL, setL, S.put, S.upd, unopts, unopt, unoptsO, unoptsB, lazyO, guardOf, gbool, eMov, eNot, eNeg, eConv, eExt, eLenArr, eLen, eLenStr, eEqb, eEqv, allEq, eNil, negIf, eBool2, eCmp, eAri, ari, eBit, eDiv, eSh, eMinMax, foldMin, foldMax, kEq, pure1, cmpB, VO.quiet, resVals, resVal, tupled, popRet, popTo, cond, Option.bind, Option.map, eNew, eBox, asCells, lenH, snocH, eFieldAddr, eField, eLoad, cellsAt, getH, setH, dropL, takeL, mkAgg, lenL, lenS, shift, shiftL, shiftH, viewN, viewL, view, andT, junks, List.append_nil, Nat.beq, eIdxAddr, eIdxArr, idxN_0, idxN_1, idxN_2, idxN_3, eIndex, eStore, storeAt, spliceL, ones, one, eSlice, eSliceArr, bounds, subLo_z, addLo_z, subLo_one, addLo_one, eMake, eAppend, readS, repL, buildCells, chunk, purgeL, purgeLL, purgeH, purge, refs, refsL, List.cons_append, List.nil_append, wrOps, wrAl, wrDops, wrC, junkAt, putAll, putHs, headOf, headK, keepG, List.append_eq, headX, chkP, apartP, apartB, blk, strip, runAl, AL.ho, yld, putPs, lenN, findR, notRound, jumpK, jumpPT, jcode, List.map_cons, List.map_nil, ite_self, reduceIte]
        simp only [true_and, and_true, imp_self, implies_true, decide_eq_true_eq, decide_eq_false_iff_not, Nat.reduceAdd, Nat.reduceLeDiff, Bool.not_not, reduceCtorEq, false_imp_iff, Bool.not_eq_true', Bool.not_eq_false', Bool.false_eq_true, and_self, forall_const, ne_eq, not_false_eq_true, Nat.reduceEqDiff]
        refine ⟨by decide, ⟨by omega, by omega⟩, by unfold capOk; omega, ans_nat h (Nat.zero_add _) ?_ rfl fun j hj => ?_⟩
        · rfl
        · rw [if_neg (Nat.not_lt_zero _)]; rfl
  · exact h.1.elim
def ofC : Ctr := { alias := false, of := fun l => match l with
  | [.int .u64 n] => .pre (0 ≤ n ∧ n < 18446744073709551616) (.fin (natS false n.toNat) [])
  | _ => noC }
def orderC : Ctr := { alias := false, of := fun l => match l with
  | [.vs _ _ n sz get, .vs _ _ m sz' get'] => .ex Nat fun a => .ex Nat fun b => .pre (padP a n sz get ∧ padP b m sz' get') (.fin (.int .i64 (ordN a b)) [])
  | _ => noC }
def plusC : Ctr := { alias := false, of := fun l => match l with
  | [.vs _ _ n sz get, .vs _ _ m sz' get'] => .ex Nat fun a => .ex Nat fun b => .pre (padP a n sz get ∧ padP b m sz' get' ∧ n ≤ 99999 ∧ m ≤ 99999) (.fin (natS false (a + b)) [])
  | _ => noC }

def R1 : Env := { ct := fun n => match n with | 81 => some limbC | 80 => some trimC | _ => none, fn := fun _ => none, meth := fun _ _ => none }
theorem R1_ct81 : R1.ct 81 = some limbC := rfl
theorem R1_ct80 : R1.ct 80 = some trimC := rfl
theorem R1_ok : EnvOk Try.prog R1 := by
  refine ⟨fun f c h => ?_, fun f vf h => ?_, fun _ _ => rfl, by kernel_rfl⟩
  · simp only [R1] at h
    split at h
    · cases h; exact ⟨limb_ok, Try.f81, Try.func81, by kernel_rfl, by kernel_rfl⟩
    · cases h; exact ⟨trim_ok, Try.f80, Try.func80, by kernel_rfl, by kernel_rfl⟩
    · cases h
  · cases h


theorem of_pad (n : Nat) (h : n < 18446744073709551616) : padP n 2 1 fun k => viewL false [HO.own false 1 2 (chunk 1 [SV.int .u32 (IntKind.u32.wrap ((n : Int).tmod 4294967296)), SV.int .u32 (IntKind.u32.wrap (IntKind.u64.wrap ((n : Int).tdiv 4294967296)))])]
    (fun x => viewL false [HO.own false 1 2 (chunk 1 [SV.int .u32 (IntKind.u32.wrap ((n : Int).tmod 4294967296)), SV.int .u32 (IntKind.u32.wrap (IntKind.u64.wrap ((n : Int).tdiv 4294967296)))])] (fun x => junks x) x)
    (takeL 1 (dropL (k * 1) [SV.int .u32 (IntKind.u32.wrap ((n : Int).tmod 4294967296)), SV.int .u32 (IntKind.u32.wrap (IntKind.u64.wrap ((n : Int).tdiv 4294967296)))])) := by
  refine ⟨rfl, by decide, by omega, fun k hk => ?_⟩
  have h0 : dig n 0 = n % 4294967296 := dig_0 n
  have h1 : dig n 1 = n / 4294967296 := by rw [dig_succ, dig_0]; omega
  match k, hk with
  | 0, _ => rw [h0, u3_rem]; exact leXL_self _
  | 1, _ => rw [h1, u_quo h, u3_nat (by omega)]; exact leXL_self _

theorem of_ok : ofC.ok Try.prog 55 := by
  refine contract Try.func55 v55_is R1_ok 200 ofC fun args k h => ?_
  simp only [ofC] at h
  split at h
  · rename_i n
    obtain ⟨⟨h0, h1⟩, h⟩ := h
    obtain ⟨n, rfl⟩ := Int.eq_ofNat_of_zero_le h0
    refine ⟨[.int .u64 n], by simp [leL, le], ?_⟩
    dsimp only [v55, R1_ct80, trimC, natS, r_end, r_end1, r_nil, r_op, r_opg, r_runOp, r_op0, r_yld0, r_yld1, r_y, r_rbeg, r_rend, r_rend1, r_rfrm, r_rfrm1, r_range, r_rangeK, r_rangeE, r_draw, r_dnil, r_dop, r_dopg, r_dplq, r_dplh, r_dq, r_dq0, r_dcl1, r_dcl0, r_dct1, r_dct0, r_dgd, r_dgq1, r_dgq0, r_dctG, r_op1, r_eff, r_eff0, r_call, r_call0, r_inl, r_g, r_gq, r_gc, r_effg, r_effg0, r_callg, r_callg0, r_fin, r_pre, r_imp, r_all, r_ex, r_fing, r_preg, r_exg, r_inBlock, r_inLoop, r_frame, r_frame1, r_skip, r_stuck, r_region, r_seq, r_cond, r_cond1, r_block, r_exit, r_exit1, r_exit2, r_ret, r_loop, s_args0, s_args1, s_xt, s_xc, padL, blankL, callee, callArgs, eff, ctOf, getL, setL, S.put, S.upd, unopts, unopt, unoptsO, unoptsB, lazyO, guardOf, gbool, eMov, eNot, eNeg, eConv, eExt, eLenArr, eLen, eLenStr, eEqb, eEqv, allEq, eNil, negIf, eBool2, eCmp, eAri, ari, eBit, eDiv, eSh, eMinMax, foldMin, foldMax, kEq, pure1, cmpB, VO.quiet, resVals, resVal, tupled, popRet, popTo, cond, Option.bind, Option.map, eNew, eBox, asCells, lenH, snocH, eFieldAddr, eField, eLoad, cellsAt, getH, setH, dropL, takeL, mkAgg, lenL, lenS, shift, shiftL, shiftH, viewN, viewL, view, andT, junks, List.append_nil, Nat.beq, eIdxAddr, eIdxArr, idxN_0, idxN_1, idxN_2, idxN_3, eIndex, eStore, storeAt, spliceL, ones, one, eSlice, eSliceArr, bounds, subLo_z, addLo_z, subLo_one, addLo_one, eMake, eAppend, readS, repL, buildCells, chunk, purgeL, purgeLL, purgeH, purge, refs, refsL, List.cons_append, List.nil_append, wrOps, wrAl, wrDops, wrC, junkAt, putAll, putHs, headOf, headK, keepG, List.append_eq, headX, chkP, apartP, apartB, blk, strip, runAl, AL.ho, yld, putPs, lenN, findR, notRound, jumpK, jumpPT, jcode, List.map_cons, List.map_nil, ite_self, reduceIte]
    simp only [true_and, and_true, imp_self, implies_true, decide_eq_true_eq, decide_eq_false_iff_not, Nat.reduceAdd, Nat.reduceLeDiff, Bool.not_not, reduceCtorEq, false_imp_iff, Bool.not_eq_true', Bool.not_eq_false', Bool.false_eq_true, and_self, forall_const, ne_eq, not_false_eq_true, Nat.reduceEqDiff]
    refine ⟨by decide, by decide, by decide, n, of_pad n (by omega), ?_⟩
    exact ans_natS (t := true) h
  · exact h.1.elim

theorem order_ok : orderC.ok Try.prog 58 := by
  refine contract Try.func58 v58_is R1_ok 200 orderC fun args k h => ?_
  simp only [orderC] at h
  split at h
  · rename_i t1 z1 n sz get t2 z2 m sz' get'
    obtain ⟨a, b, ⟨⟨rfl, hn, ha, hg⟩, rfl, hm, hb, hg'⟩, h⟩ := h
    refine ⟨[.vs t1 z1 n 1 (fun k => [.int .u32 (dig a k)]), .vs t2 z2 m 1 (fun k => [.int .u32 (dig b k)])], ⟨by simpa [le] using hg, by simpa [le] using hg', trivial⟩, ?_⟩
    dsimp only [v58, R1_ct81, limbC, r_end, r_end1, r_nil, r_op, r_opg, r_runOp, r_op0, r_yld0, r_yld1, r_y, r_rbeg, r_rend, r_rend1, r_rfrm, r_rfrm1, r_range, r_rangeK, r_rangeE, r_draw, r_dnil, r_dop, r_dopg, r_dplq, r_dplh, r_dq, r_dq0, r_dcl1, r_dcl0, r_dct1, r_dct0, r_dgd, r_dgq1, r_dgq0, r_dctG, r_op1, r_eff, r_eff0, r_call, r_call0, r_inl, r_g, r_gq, r_gc, r_effg, r_effg0, r_callg, r_callg0, r_fin, r_pre, r_imp, r_all, r_ex, r_fing, r_preg, r_exg, r_inBlock, r_inLoop, r_frame, r_frame1, r_skip, r_stuck, r_region, r_seq, r_cond, r_cond1, r_block, r_exit, r_exit1, r_exit2, r_ret, r_loop, s_args0, s_args1, s_xt, s_xc, padL, blankL, callee, callArgs, eff, ctOf, getL, setL, S.put, S.upd, unopts, unopt, unoptsO, unoptsB, lazyO, guardOf, gbool, eMov, eNot, eNeg, eConv, eExt, eLenArr, eLen, eLenStr, eEqb, eEqv, allEq, eNil, negIf, eBool2, eCmp, eAri, ari, eBit, eDiv, eSh, eMinMax, foldMin, foldMax, kEq, pure1, cmpB, VO.quiet, resVals, resVal, tupled, popRet, popTo, cond, Option.bind, Option.map, eNew, eBox, asCells, lenH, snocH, eFieldAddr, eField, eLoad, cellsAt, getH, setH, dropL, takeL, mkAgg, lenL, lenS, shift, shiftL, shiftH, viewN, viewL, view, andT, junks, List.append_nil, Nat.beq, eIdxAddr, eIdxArr, idxN_0, idxN_1, idxN_2, idxN_3, eIndex, eStore, storeAt, spliceL, ones, one, eSlice, eSliceArr, bounds, subLo_z, addLo_z, subLo_one, addLo_one, eMake, eAppend, readS, repL, buildCells, chunk, purgeL, purgeLL, purgeH, purge, refs, refsL, List.cons_append, List.nil_append, wrOps, wrAl, wrDops, wrC, junkAt, putAll, putHs, headOf, headK, keepG, List.append_eq, headX, chkP, apartP, apartB, blk, strip, runAl, AL.ho, yld, putPs, lenN, findR, notRound, jumpK, jumpPT, jcode, List.map_cons, List.map_nil, ite_self, reduceIte]
    simp only [true_and, and_true, imp_self, implies_true, decide_eq_true_eq, decide_eq_false_iff_not, Nat.reduceAdd, Nat.reduceLeDiff, Bool.not_not, reduceCtorEq, false_imp_iff, Bool.not_eq_true', Bool.not_eq_false', Bool.false_eq_true, and_self, forall_const, ne_eq, not_false_eq_true, Nat.reduceEqDiff]
    refine Loop.keep [0, 0, 3] Nat (fun j => [(5, .int .i64 ((j : Int) - 1))]) (fun _ => []) [] (fun j => j ≤ 100000 ∧ ∀ i, j ≤ i → dig a i = dig b i) (fun j => j) ?_ ?_
    · refine ⟨max n m, ⟨by omega, fun i hi => by rw [dig_big ha (by omega), dig_big hb (by omega)]⟩, ?_⟩
      dsimp only [r_end, r_end1, r_nil, r_op, r_opg, r_runOp, r_op0, r_yld0, r_yld1, r_y, r_rbeg, r_rend, r_rend1, r_rfrm, r_rfrm1, r_range, r_rangeK, r_rangeE, r_draw, r_dnil, r_dop, r_dopg, r_dplq, r_dplh, r_dq, r_dq0, r_dcl1, r_dcl0, r_dct1, r_dct0, r_dgd, r_dgq1, r_dgq0, r_dctG, r_op1, r_eff, r_eff0, r_call, r_call0, r_inl, r_g, r_gq, r_gc, r_effg, r_effg0, r_callg, r_callg0, r_fin, r_pre, r_imp, r_all, r_ex, r_fing, r_preg, r_exg, r_inBlock, r_inLoop, r_frame, r_frame1, r_skip, r_stuck, r_region, r_seq, r_cond, r_cond1, r_block, r_exit, r_exit1, r_exit2, r_ret, r_loop, s_args0, s_args1, s_xt, s_xc, padL, blankL, callee, callArgs, eff, ctOf, getL, setL, S.put, S.upd, unopts, unopt, unoptsO, unoptsB, lazyO, guardOf, gbool, eMov, eNot, eNeg, eConv, eExt, eLenArr, eLen, eLenStr, eEqb, eEqv, allEq, eNil, negIf, eBool2, eCmp, eAri, ari, eBit, eDiv, eSh, eMinMax, foldMin, foldMax, kEq, pure1, cmpB, VO.quiet, resVals, resVal, tupled, popRet, popTo, cond, Option.bind, Option.map, eNew, eBox, asCells, lenH, snocH, eFieldAddr, eField, eLoad, cellsAt, getH, setH, dropL, takeL, mkAgg, lenL, lenS, shift, shiftL, shiftH, viewN, viewL, view, andT, junks, List.append_nil, Nat.beq, eIdxAddr, eIdxArr, idxN_0, idxN_1, idxN_2, idxN_3, eIndex, eStore, storeAt, spliceL, ones, one, eSlice, eSliceArr, bounds, subLo_z, addLo_z, subLo_one, addLo_one, eMake, eAppend, readS, repL, buildCells, chunk, purgeL, purgeLL, purgeH, purge, refs, refsL, List.cons_append, List.nil_append, wrOps, wrAl, wrDops, wrC, junkAt, putAll, putHs, headOf, headK, keepG, List.append_eq, headX, chkP, apartP, apartB, blk, strip, runAl, AL.ho, yld, putPs, lenN, findR, notRound, jumpK, jumpPT, jcode, List.map_cons, List.map_nil, ite_self, reduceIte]
      simp only [leS_mk, leL_cons, leL_nil, le_junk, le_int, le_bool, le_nil, leLL_nil, leLL_cons, leH_cons, leH_nil, leH1_box, leH1_own, leH1_gone, le_vs, le_agg, le_tup, le_ptr, le_own, le_xp, le_fn, le_opt, le_val, le_elem, le_nil_own, le_nil_vs, leH_ghost, leL_chunk, leXL_id, bnd_int, bnd_bool, bnd_val, bnd_nil, bnd_junk, bnd_vs, bnd_xp, bnd_agg, bnd_tup, bnd_ptr, bnd_own, bnd_elem, bnd_fn, bnd_iface, bnd_opt, bndL_nil, bndL_cons, lenH_cons, lenH_nil, imp_self, implies_true, true_and, and_true]
      rw [IntWalk.i64_in _ (by omega)]
      simp <;> omega
    · rintro j ⟨hj, haj⟩
      dsimp only [R1_ct81, limbC, r_end, r_end1, r_nil, r_op, r_opg, r_runOp, r_op0, r_yld0, r_yld1, r_y, r_rbeg, r_rend, r_rend1, r_rfrm, r_rfrm1, r_range, r_rangeK, r_rangeE, r_draw, r_dnil, r_dop, r_dopg, r_dplq, r_dplh, r_dq, r_dq0, r_dcl1, r_dcl0, r_dct1, r_dct0, r_dgd, r_dgq1, r_dgq0, r_dctG, r_op1, r_eff, r_eff0, r_call, r_call0, r_inl, r_g, r_gq, r_gc, r_effg, r_effg0, r_callg, r_callg0, r_fin, r_pre, r_imp, r_all, r_ex, r_fing, r_preg, r_exg, r_inBlock, r_inLoop, r_frame, r_frame1, r_skip, r_stuck, r_region, r_seq, r_cond, r_cond1, r_block, r_exit, r_exit1, r_exit2, r_ret, r_loop, s_args0, s_args1, s_xt, s_xc, padL, blankL, callee, callArgs, eff, ctOf, getL, setL, S.put, S.upd, unopts, unopt, unoptsO, unoptsB, lazyO, guardOf, gbool, eMov, eNot, eNeg, eConv, eExt, eLenArr, eLen, eLenStr, eEqb, eEqv, allEq, eNil, negIf, eBool2, eCmp, eAri, ari, eBit, eDiv, eSh, eMinMax, foldMin, foldMax, kEq, pure1, cmpB, VO.quiet, resVals, resVal, tupled, popRet, popTo, cond, Option.bind, Option.map, eNew, eBox, asCells, lenH, snocH, eFieldAddr, eField, eLoad, cellsAt, getH, setH, dropL, takeL, mkAgg, lenL, lenS, shift, shiftL, shiftH, viewN, viewL, view, andT, junks, List.append_nil, Nat.beq, eIdxAddr, eIdxArr, idxN_0, idxN_1, idxN_2, idxN_3, eIndex, eStore, storeAt, spliceL, ones, one, eSlice, eSliceArr, bounds, subLo_z, addLo_z, subLo_one, addLo_one, eMake, eAppend, readS, repL, buildCells, chunk, purgeL, purgeLL, purgeH, purge, refs, refsL, List.cons_append, List.nil_append, wrOps, wrAl, wrDops, wrC, junkAt, putAll, putHs, headOf, headK, keepG, List.append_eq, headX, chkP, apartP, apartB, blk, strip, runAl, AL.ho, yld, putPs, lenN, findR, notRound, jumpK, jumpPT, jcode, List.map_cons, List.map_nil, ite_self, reduceIte]
      simp only [true_and, and_true, imp_self, implies_true, decide_eq_true_eq, decide_eq_false_iff_not, Nat.reduceAdd, Nat.reduceLeDiff, Bool.not_not, reduceCtorEq, false_imp_iff, Bool.not_eq_true', Bool.not_eq_false', Bool.false_eq_true, and_self, forall_const, ne_eq, not_false_eq_true, Nat.reduceEqDiff]
      refine ⟨fun hlt => ?_, fun hge => ?_⟩
      · obtain ⟨i, rfl⟩ : ∃ i, j = i + 1 := ⟨j - 1, by omega⟩
        have e : ((i + 1 : Nat) : Int) - 1 = i := by omega
        have gt : ∀ t, i < t → dig a t = dig b t := fun t ht => haj t (by omega)
        rw [e]
        simp only [Int.toNat_natCast]
        refine ⟨a, ⟨padP_self hn ha, by omega⟩, b, ⟨padP_self hm hb, by omega⟩, fun hc => ans_int ?_, fun hc => ⟨a, ⟨padP_self hn ha, by omega⟩, b, ⟨padP_self hm hb, by omega⟩, fun hd => ans_int ?_, fun hd => ?_⟩⟩
        · have := dig_cmp gt (by omega : dig a i < dig b i)
          rw [ordN, if_pos this] at h; exact h
        · have := dig_cmp (fun t ht => (gt t ht).symm) (by omega : dig b i < dig a i)
          rw [ordN, if_neg (by omega), if_pos this] at h; exact h
        · refine ⟨i, ⟨by omega, fun t ht => ?_⟩, by omega, ?_⟩
          · rcases Nat.eq_or_lt_of_le ht with rfl | ht
            · omega
            · exact gt t ht
          · simp only [leS_mk, leL_cons, leL_nil, le_junk, le_int, le_bool, le_nil, leLL_nil, leLL_cons, leH_cons, leH_nil, leH1_box, leH1_own, leH1_gone, le_vs, le_agg, le_tup, le_ptr, le_own, le_xp, le_fn, le_opt, le_val, le_elem, le_nil_own, le_nil_vs, leH_ghost, leL_chunk, leXL_id, bnd_int, bnd_bool, bnd_val, bnd_nil, bnd_junk, bnd_vs, bnd_xp, bnd_agg, bnd_tup, bnd_ptr, bnd_own, bnd_elem, bnd_fn, bnd_iface, bnd_opt, bndL_nil, bndL_cons, lenH_cons, lenH_nil, imp_self, implies_true, true_and, and_true]
            rw [IntWalk.i64_in _ (by omega)]
      · obtain rfl : j = 0 := by omega
        have : a = b := dig_all fun i => haj i (Nat.zero_le _)
        rw [ordN, if_neg (by omega), if_neg (by omega)] at h
        exact ans_int h
  · exact h.1.elim

theorem plus_ok : plusC.ok Try.prog 79 := by
  refine contract Try.func79 v79_is R1_ok 200 plusC fun args k h => ?_
  simp only [plusC] at h
  split at h
  · rename_i t1 z1 n sz get t2 z2 m sz' get'
    obtain ⟨a, b, ⟨⟨rfl, hn, ha, hg⟩, ⟨rfl, hm, hb, hg'⟩, hn9, hm9⟩, h⟩ := h
    refine ⟨[.vs t1 z1 n 1 (fun k => [.int .u32 (dig a k)]), .vs t2 z2 m 1 (fun k => [.int .u32 (dig b k)])], ⟨by simpa [le] using hg, by simpa [le] using hg', trivial⟩, ?_⟩
    dsimp only [v79, r_end, r_end1, r_nil, r_op, r_opg, r_runOp, r_op0, r_yld0, r_yld1, r_y, r_rbeg, r_rend, r_rend1, r_rfrm, r_rfrm1, r_range, r_rangeK, r_rangeE, r_draw, r_dnil, r_dop, r_dopg, r_dplq, r_dplh, r_dq, r_dq0, r_dcl1, r_dcl0, r_dct1, r_dct0, r_dgd, r_dgq1, r_dgq0, r_dctG, r_op1, r_eff, r_eff0, r_call, r_call0, r_inl, r_g, r_gq, r_gc, r_effg, r_effg0, r_callg, r_callg0, r_fin, r_pre, r_imp, r_all, r_ex, r_fing, r_preg, r_exg, r_inBlock, r_inLoop, r_frame, r_frame1, r_skip, r_stuck, r_region, r_seq, r_cond, r_cond1, r_block, r_exit, r_exit1, r_exit2, r_ret, r_loop, s_args0, s_args1, s_xt, s_xc, padL, blankL, callee, callArgs, eff, ctOf, getL, setL, S.put, S.upd, unopts, unopt, unoptsO, unoptsB, lazyO, guardOf, gbool, eMov, eNot, eNeg, eConv, eExt, eLenArr, eLen, eLenStr, eEqb, eEqv, allEq, eNil, negIf, eBool2, eCmp, eAri, ari, eBit, eDiv, eSh, eMinMax, foldMin, foldMax, kEq, pure1, cmpB, VO.quiet, resVals, resVal, tupled, popRet, popTo, cond, Option.bind, Option.map, eNew, eBox, asCells, lenH, snocH, eFieldAddr, eField, eLoad, cellsAt, getH, setH, dropL, takeL, mkAgg, lenL, lenS, shift, shiftL, shiftH, viewN, viewL, view, andT, junks, List.append_nil, Nat.beq, eIdxAddr, eIdxArr, idxN_0, idxN_1, idxN_2, idxN_3, eIndex, eStore, storeAt, spliceL, ones, one, eSlice, eSliceArr, bounds, subLo_z, addLo_z, subLo_one, addLo_one, eMake, eAppend, readS, repL, buildCells, chunk, purgeL, purgeLL, purgeH, purge, refs, refsL, List.cons_append, List.nil_append, wrOps, wrAl, wrDops, wrC, junkAt, putAll, putHs, headOf, headK, keepG, List.append_eq, headX, chkP, apartP, apartB, blk, strip, runAl, AL.ho, yld, putPs, lenN, findR, notRound, jumpK, jumpPT, jcode, List.map_cons, List.map_nil, ite_self, reduceIte]
    simp only [true_and, and_true, imp_self, implies_true, decide_eq_true_eq, decide_eq_false_iff_not, Nat.reduceAdd, Nat.reduceLeDiff, Bool.not_not, reduceCtorEq, false_imp_iff, Bool.not_eq_true', Bool.not_eq_false', Bool.false_eq_true, and_self, forall_const, ne_eq, not_false_eq_true, Nat.reduceEqDiff]
    refine Loop.keep [0, 0, 3, 0, 0] Nat (fun i => [(5, .own 0 0 i 1), (6, .int .u64 (cy a b i)), (7, .int .i64 i)]) (fun i => [(0, .own (decide (i = 0)) 1 i (fun k => [.int .u32 (dig (a + b) k)]))]) [.gone] (fun i => i ≤ max n m + 1) (fun i => max n m + 1 - i) ?_ ?_
    · refine ⟨0, by omega, ?_⟩
      dsimp only [r_end, r_end1, r_nil, r_op, r_opg, r_runOp, r_op0, r_yld0, r_yld1, r_y, r_rbeg, r_rend, r_rend1, r_rfrm, r_rfrm1, r_range, r_rangeK, r_rangeE, r_draw, r_dnil, r_dop, r_dopg, r_dplq, r_dplh, r_dq, r_dq0, r_dcl1, r_dcl0, r_dct1, r_dct0, r_dgd, r_dgq1, r_dgq0, r_dctG, r_op1, r_eff, r_eff0, r_call, r_call0, r_inl, r_g, r_gq, r_gc, r_effg, r_effg0, r_callg, r_callg0, r_fin, r_pre, r_imp, r_all, r_ex, r_fing, r_preg, r_exg, r_inBlock, r_inLoop, r_frame, r_frame1, r_skip, r_stuck, r_region, r_seq, r_cond, r_cond1, r_block, r_exit, r_exit1, r_exit2, r_ret, r_loop, s_args0, s_args1, s_xt, s_xc, padL, blankL, callee, callArgs, eff, ctOf, getL, setL, S.put, S.upd, unopts, unopt, unoptsO, unoptsB, lazyO, guardOf, gbool, eMov, eNot, eNeg, eConv, eExt, eLenArr, eLen, eLenStr, eEqb, eEqv, allEq, eNil, negIf, eBool2, eCmp, eAri, ari, eBit, eDiv, eSh, eMinMax, foldMin, foldMax, kEq, pure1, cmpB, VO.quiet, resVals, resVal, tupled, popRet, popTo, cond, Option.bind, Option.map, eNew, eBox, asCells, lenH, snocH, eFieldAddr, eField, eLoad, cellsAt, getH, setH, dropL, takeL, mkAgg, lenL, lenS, shift, shiftL, shiftH, viewN, viewL, view, andT, junks, List.append_nil, Nat.beq, eIdxAddr, eIdxArr, idxN_0, idxN_1, idxN_2, idxN_3, eIndex, eStore, storeAt, spliceL, ones, one, eSlice, eSliceArr, bounds, subLo_z, addLo_z, subLo_one, addLo_one, eMake, eAppend, readS, repL, buildCells, chunk, purgeL, purgeLL, purgeH, purge, refs, refsL, List.cons_append, List.nil_append, wrOps, wrAl, wrDops, wrC, junkAt, putAll, putHs, headOf, headK, keepG, List.append_eq, headX, chkP, apartP, apartB, blk, strip, runAl, AL.ho, yld, putPs, lenN, findR, notRound, jumpK, jumpPT, jcode, List.map_cons, List.map_nil, ite_self, reduceIte]
      simp only [leS_mk, leL_cons, leL_nil, le_junk, le_int, le_bool, le_nil, leLL_nil, leLL_cons, leH_cons, leH_nil, leH1_box, leH1_own, leH1_gone, le_vs, le_agg, le_tup, le_ptr, le_own, le_xp, le_fn, le_opt, le_val, le_elem, le_nil_own, le_nil_vs, leH_ghost, leL_chunk, leXL_id, bnd_int, bnd_bool, bnd_val, bnd_nil, bnd_junk, bnd_vs, bnd_xp, bnd_agg, bnd_tup, bnd_ptr, bnd_own, bnd_elem, bnd_fn, bnd_iface, bnd_opt, bndL_nil, bndL_cons, lenH_cons, lenH_nil, imp_self, implies_true, true_and, and_true]
      simp [cy_0]
    · rintro i hi
      dsimp only [R1_ct81, R1_ct80, limbC, trimC, natS, Int.toNat_natCast, r_end, r_end1, r_nil, r_op, r_opg, r_runOp, r_op0, r_yld0, r_yld1, r_y, r_rbeg, r_rend, r_rend1, r_rfrm, r_rfrm1, r_range, r_rangeK, r_rangeE, r_draw, r_dnil, r_dop, r_dopg, r_dplq, r_dplh, r_dq, r_dq0, r_dcl1, r_dcl0, r_dct1, r_dct0, r_dgd, r_dgq1, r_dgq0, r_dctG, r_op1, r_eff, r_eff0, r_call, r_call0, r_inl, r_g, r_gq, r_gc, r_effg, r_effg0, r_callg, r_callg0, r_fin, r_pre, r_imp, r_all, r_ex, r_fing, r_preg, r_exg, r_inBlock, r_inLoop, r_frame, r_frame1, r_skip, r_stuck, r_region, r_seq, r_cond, r_cond1, r_block, r_exit, r_exit1, r_exit2, r_ret, r_loop, s_args0, s_args1, s_xt, s_xc, padL, blankL, callee, callArgs, eff, ctOf, getL, setL, S.put, S.upd, unopts, unopt, unoptsO, unoptsB, lazyO, guardOf, gbool, eMov, eNot, eNeg, eConv, eExt, eLenArr, eLen, eLenStr, eEqb, eEqv, allEq, eNil, negIf, eBool2, eCmp, eAri, ari, eBit, eDiv, eSh, eMinMax, foldMin, foldMax, kEq, pure1, cmpB, VO.quiet, resVals, resVal, tupled, popRet, popTo, cond, Option.bind, Option.map, eNew, eBox, asCells, lenH, snocH, eFieldAddr, eField, eLoad, cellsAt, getH, setH, dropL, takeL, mkAgg, lenL, lenS, shift, shiftL, shiftH, viewN, viewL, view, andT, junks, List.append_nil, Nat.beq, eIdxAddr, eIdxArr, idxN_0, idxN_1, idxN_2, idxN_3, eIndex, eStore, storeAt, spliceL, ones, one, eSlice, eSliceArr, bounds, subLo_z, addLo_z, subLo_one, addLo_one, eMake, eAppend, readS, repL, buildCells, chunk, purgeL, purgeLL, purgeH, purge, refs, refsL, List.cons_append, List.nil_append, wrOps, wrAl, wrDops, wrC, junkAt, putAll, putHs, headOf, headK, keepG, List.append_eq, headX, chkP, apartP, apartB, blk, strip, runAl, AL.ho, yld, putPs, lenN, findR, notRound, jumpK, jumpPT, jcode, List.map_cons, List.map_nil, ite_self, reduceIte]
      simp only [true_and, and_true, imp_self, implies_true, decide_eq_true_eq, decide_eq_false_iff_not, Nat.reduceAdd, Nat.reduceLeDiff, Bool.not_not, reduceCtorEq, false_imp_iff, Bool.not_eq_true', Bool.not_eq_false', Bool.false_eq_true, and_self, forall_const, ne_eq, not_false_eq_true, Nat.reduceEqDiff]
      have emax : IntKind.i64.wrap (max (n : Int) (m : Int) + 1) = ((max n m + 1 : Nat) : Int) := by rw [IntWalk.i64_in _ (by omega)]; omega
      rw [emax]
      refine ⟨fun hlt => ⟨a, ⟨padP_self hn ha, by omega⟩, b, ⟨padP_self hm hb, by omega⟩, by decide, by decide, ?_⟩, fun hge => ⟨a + b, ?_, ?_⟩⟩
      · have hd1 := dig_lt a i
        have hd2 := dig_lt b i
        have hc := cy_le a b i
        have e1 := add_dig a b i
        have e2 := add_cy a b i
        rw [u_add (by omega), u_add (by omega)]
        dsimp only [r_end, r_end1, r_nil, r_op, r_opg, r_runOp, r_op0, r_yld0, r_yld1, r_y, r_rbeg, r_rend, r_rend1, r_rfrm, r_rfrm1, r_range, r_rangeK, r_rangeE, r_draw, r_dnil, r_dop, r_dopg, r_dplq, r_dplh, r_dq, r_dq0, r_dcl1, r_dcl0, r_dct1, r_dct0, r_dgd, r_dgq1, r_dgq0, r_dctG, r_op1, r_eff, r_eff0, r_call, r_call0, r_inl, r_g, r_gq, r_gc, r_effg, r_effg0, r_callg, r_callg0, r_fin, r_pre, r_imp, r_all, r_ex, r_fing, r_preg, r_exg, r_inBlock, r_inLoop, r_frame, r_frame1, r_skip, r_stuck, r_region, r_seq, r_cond, r_cond1, r_block, r_exit, r_exit1, r_exit2, r_ret, r_loop, s_args0, s_args1, s_xt, s_xc, padL, blankL, callee, callArgs, eff, ctOf, getL, setL, S.put, S.upd, unopts, unopt, unoptsO, unoptsB, lazyO, guardOf, gbool, eMov, eNot, eNeg, eConv, eExt, eLenArr, eLen, eLenStr, eEqb, eEqv, allEq, eNil, negIf, eBool2, eCmp, eAri, ari, eBit, eDiv, eSh, eMinMax, foldMin, foldMax, kEq, pure1, cmpB, VO.quiet, resVals, resVal, tupled, popRet, popTo, cond, Option.bind, Option.map, eNew, eBox, asCells, lenH, snocH, eFieldAddr, eField, eLoad, cellsAt, getH, setH, dropL, takeL, mkAgg, lenL, lenS, shift, shiftL, shiftH, viewN, viewL, view, andT, junks, List.append_nil, Nat.beq, eIdxAddr, eIdxArr, idxN_0, idxN_1, idxN_2, idxN_3, eIndex, eStore, storeAt, spliceL, ones, one, eSlice, eSliceArr, bounds, subLo_z, addLo_z, subLo_one, addLo_one, eMake, eAppend, readS, repL, buildCells, chunk, purgeL, purgeLL, purgeH, purge, refs, refsL, List.cons_append, List.nil_append, wrOps, wrAl, wrDops, wrC, junkAt, putAll, putHs, headOf, headK, keepG, List.append_eq, headX, chkP, apartP, apartB, blk, strip, runAl, AL.ho, yld, putPs, lenN, findR, notRound, jumpK, jumpPT, jcode, List.map_cons, List.map_nil, ite_self, reduceIte]
        simp only [true_and, and_true, imp_self, implies_true, decide_eq_true_eq, decide_eq_false_iff_not, Nat.reduceAdd, Nat.reduceLeDiff, Bool.not_not, reduceCtorEq, false_imp_iff, Bool.not_eq_true', Bool.not_eq_false', Bool.false_eq_true, and_self, forall_const, ne_eq, not_false_eq_true, Nat.reduceEqDiff]
        refine ⟨⟨by unfold capOk; omega, fun j hj => ?_⟩, by decide, i + 1, by omega, by omega, ?_⟩
        · match j, hj with
          | 0, _ => exact ⟨rfl, trivial, trivial⟩
        · rw [u3_rem, u_quo (by omega), e1, e2, IntWalk.i64_in ((i : Int) + 1) (by omega)]
          simp only [leS_mk, leL_cons, leL_nil, le_junk, le_int, le_bool, le_nil, leLL_nil, leLL_cons, leH_cons, leH_nil, leH1_box, leH1_own, leH1_gone, le_vs, le_agg, le_tup, le_ptr, le_own, le_xp, le_fn, le_opt, le_val, le_elem, le_nil_own, le_nil_vs, leH_ghost, leL_chunk, leXL_id, bnd_int, bnd_bool, bnd_val, bnd_nil, bnd_junk, bnd_vs, bnd_xp, bnd_agg, bnd_tup, bnd_ptr, bnd_own, bnd_elem, bnd_fn, bnd_iface, bnd_opt, bndL_nil, bndL_cons, lenH_cons, lenH_nil, imp_self, implies_true, true_and, and_true]
          refine ⟨by simp, by simp, fun j hj => ?_⟩
          rcases Nat.lt_or_ge j i with h' | h'
          · rw [if_pos h']; simp only [leL, le, and_self]
          · obtain rfl : j = i := by omega
            rw [if_neg (Nat.lt_irrefl _), Nat.sub_self]
            simp only [purgeL, takeL, dropL, leL, Nat.zero_mul, purge, refs, cond, le, and_self]
      · obtain rfl : i = max n m + 1 := by omega
        refine padP_self (by omega) ?_
        have h1 : a < 4294967296 ^ max n m := Nat.lt_of_lt_of_le ha (Nat.pow_le_pow_right (by decide) (by omega))
        have h2 : b < 4294967296 ^ max n m := Nat.lt_of_lt_of_le hb (Nat.pow_le_pow_right (by decide) (by omega))
        rw [pw_succ]; omega
      · exact ans_natS (t := true) h
  · exact h.1.elim
end Go.Proofs.Ytdognchniaojoaa

/- Numbers by limbs, walked: Minus, Times. -/
set_option linter.all false
namespace Go.Proofs.Ytdognchniaojoaa
open Go Go.Vx
set_option maxRecDepth 100000
set_option maxHeartbeats 4000000

def v95 : VF := { ntmps := 36, res := [.tmp 4], body :=
 (.seq (.region [⟨(some 4), none, .mov, [.cn .nil]⟩])
 (.seq (.region [⟨(some 5), none, .mov, [.cn .nil]⟩])
 (.seq (.region [⟨(some 6), none, .mov, [.cn (.int .u64 0)]⟩])
 (.seq (.seq (.region [⟨(some 7), none, .mov, [.cn (.int .i64 0)]⟩])
 (.block 0 (.loop (.seq (.seq (.region [⟨(some 9), none, .mov, [.tm 7]⟩,
  ⟨(some 10), none, .mov, [.tm 0]⟩,
  ⟨(some 11), none, .len, [.tm 10]⟩,
  ⟨(some 12), none, (.cmp .lss), [.tm 9, .tm 11]⟩])
 (.cond (.tm 12) .skip
  (.exit 0)))
 (.seq (.block 1 (.seq (.region [⟨(some 15), none, .mov, [.tm 0]⟩,
  ⟨(some 16), none, .mov, [.tm 7]⟩,
  ⟨(some 17), none, (.call 81), [.tm 15, .tm 16]⟩,
  ⟨(some 18), none, (.ari .add), [.cn (.int .u64 4294967296), .tm 17]⟩,
  ⟨(some 19), none, .mov, [.tm 1]⟩,
  ⟨(some 20), none, .mov, [.tm 7]⟩,
  ⟨(some 21), none, (.call 81), [.tm 19, .tm 20]⟩,
  ⟨(some 22), none, (.ari .sub), [.tm 18, .tm 21]⟩,
  ⟨(some 23), none, .mov, [.tm 6]⟩,
  ⟨(some 24), none, (.ari .sub), [.tm 22, .tm 23]⟩,
  ⟨(some 8), none, .mov, [.tm 24]⟩])
 (.seq (.region [⟨(some 25), none, .mov, [.tm 5]⟩,
  ⟨(some 26), none, .mov, [.tm 8]⟩,
  ⟨(some 27), none, .rem, [.tm 26, .cn (.int .u64 4294967296)]⟩,
  ⟨(some 28), none, (.conv .u32), [.tm 27]⟩,
  ⟨(some 29), none, (.buildSlice 1 1 [(.int .u32 0)] [(0, 1)]), [.tm 28]⟩,
  ⟨(some 30), none, (.append 1 4 [(.int .u32 0)]), [.tm 25, .tm 29]⟩,
  ⟨(some 5), none, .mov, [.tm 30]⟩])
 (.region [⟨(some 31), none, .mov, [.tm 8]⟩,
  ⟨(some 32), none, .quo, [.tm 31, .cn (.int .u64 4294967296)]⟩,
  ⟨(some 33), none, (.ari .sub), [.cn (.int .u64 1), .tm 32]⟩,
  ⟨(some 6), none, .mov, [.tm 33]⟩]))))
 (.region [⟨(some 13), none, .mov, [.tm 7]⟩,
  ⟨(some 14), none, (.ari .add), [.tm 13, .cn (.int .i64 1)]⟩,
  ⟨(some 7), none, .mov, [.tm 14]⟩]))))))
 (.seq (.region [⟨(some 34), none, .mov, [.tm 5]⟩,
  ⟨(some 35), none, (.call 80), [.tm 34]⟩,
  ⟨(some 4), none, .mov, [.tm 35]⟩])
 .ret))))) }
theorem v95_is : vfunc Try.prog Try.f95 = some v95 := by kernel_rfl
def v71 : VF := { ntmps := 59, res := [.tmp 4], body :=
 (.seq (.region [⟨(some 4), none, .mov, [.cn .nil]⟩])
 (.seq (.region [⟨(some 10), none, .mov, [.tm 0]⟩,
  ⟨(some 11), none, .len, [.tm 10]⟩,
  ⟨(some 12), none, .mov, [.tm 1]⟩,
  ⟨(some 13), none, .len, [.tm 12]⟩,
  ⟨(some 14), none, (.ari .add), [.tm 11, .tm 13]⟩,
  ⟨(some 15), none, (.ari .add), [.tm 14, .cn (.int .i64 1)]⟩,
  ⟨(some 16), none, (.make 1 4 [(.int .u32 0)]), [.tm 15, .tm 15]⟩,
  ⟨(some 5), none, .mov, [.tm 16]⟩])
 (.seq (.seq (.region [⟨(some 6), none, .mov, [.cn (.int .i64 0)]⟩])
 (.block 0 (.loop (.seq (.seq (.region [⟨(some 17), none, .mov, [.tm 6]⟩,
  ⟨(some 18), none, .mov, [.tm 0]⟩,
  ⟨(some 19), none, .len, [.tm 18]⟩,
  ⟨(some 20), none, (.cmp .lss), [.tm 17, .tm 19]⟩])
 (.cond (.tm 20) .skip
  (.exit 0)))
 (.seq (.block 1 (.seq (.region [⟨(some 7), none, .mov, [.cn (.int .u64 0)]⟩])
 (.seq (.region [⟨(some 8), none, .mov, [.cn (.int .i64 0)]⟩])
 (.block 2 (.loop (.seq (.seq (.region [⟨(some 23), none, .mov, [.tm 8]⟩,
  ⟨(some 24), none, .mov, [.tm 1]⟩,
  ⟨(some 25), none, .len, [.tm 24]⟩,
  ⟨(some 26), none, (.ari .add), [.tm 25, .cn (.int .i64 1)]⟩,
  ⟨(some 27), none, (.cmp .lss), [.tm 23, .tm 26]⟩])
 (.cond (.tm 27) .skip
  (.exit 2)))
 (.seq (.block 3 (.seq (.draw [] [⟨⟨(some 30), none, .mov, [.tm 5]⟩, []⟩,
  ⟨⟨(some 31), none, .mov, [.tm 6]⟩, []⟩,
  ⟨⟨(some 32), none, .mov, [.tm 8]⟩, []⟩,
  ⟨⟨(some 33), none, (.ari .add), [.tm 31, .tm 32]⟩, []⟩,
  ⟨⟨(some 34), none, (.idxAddr 1), [.tm 30, .tm 33]⟩, []⟩,
  ⟨⟨(some 35), none, (.load false 1), [.tm 34]⟩, []⟩,
  ⟨⟨(some 36), none, (.conv .u64), [.tm 35]⟩, []⟩,
  ⟨⟨(some 37), none, .mov, [.tm 0]⟩, []⟩,
  ⟨⟨(some 38), none, .mov, [.tm 6]⟩, []⟩,
  ⟨⟨(some 40), none, .mov, [.tm 1]⟩, []⟩,
  ⟨⟨(some 41), none, .mov, [.tm 8]⟩, []⟩,
  ⟨⟨(some 45), none, .mov, [.tm 7]⟩, []⟩,
  ⟨⟨(some 39), none, (.call 81), [.tm 37, .tm 38]⟩, []⟩,
  ⟨⟨(some 42), none, (.call 81), [.tm 40, .tm 41]⟩, []⟩,
  ⟨⟨(some 43), none, (.ari .mul), [.tm 39, .tm 42]⟩, []⟩,
  ⟨⟨(some 44), none, (.ari .add), [.tm 36, .tm 43]⟩, []⟩,
  ⟨⟨(some 46), none, (.ari .add), [.tm 44, .tm 45]⟩, []⟩,
  ⟨⟨(some 9), none, .mov, [.tm 46]⟩, []⟩])
 (.seq (.region [⟨(some 47), none, .mov, [.tm 5]⟩,
  ⟨(some 48), none, .mov, [.tm 6]⟩,
  ⟨(some 49), none, .mov, [.tm 8]⟩,
  ⟨(some 50), none, (.ari .add), [.tm 48, .tm 49]⟩,
  ⟨(some 51), none, .mov, [.tm 9]⟩,
  ⟨(some 52), none, .rem, [.tm 51, .cn (.int .u64 4294967296)]⟩,
  ⟨(some 53), none, (.conv .u32), [.tm 52]⟩,
  ⟨(some 54), none, (.idxAddr 1), [.tm 47, .tm 50]⟩,
  ⟨none, none, (.store 1), [.tm 54, .tm 53]⟩])
 (.region [⟨(some 55), none, .mov, [.tm 9]⟩,
  ⟨(some 56), none, .quo, [.tm 55, .cn (.int .u64 4294967296)]⟩,
  ⟨(some 7), none, .mov, [.tm 56]⟩]))))
 (.region [⟨(some 28), none, .mov, [.tm 8]⟩,
  ⟨(some 29), none, (.ari .add), [.tm 28, .cn (.int .i64 1)]⟩,
  ⟨(some 8), none, .mov, [.tm 29]⟩]))))))))
 (.region [⟨(some 21), none, .mov, [.tm 6]⟩,
  ⟨(some 22), none, (.ari .add), [.tm 21, .cn (.int .i64 1)]⟩,
  ⟨(some 6), none, .mov, [.tm 22]⟩]))))))
 (.seq (.region [⟨(some 57), none, .mov, [.tm 5]⟩,
  ⟨(some 58), none, (.call 80), [.tm 57]⟩,
  ⟨(some 4), none, .mov, [.tm 58]⟩])
 .ret)))) }
theorem v71_is : vfunc Try.prog Try.f71 = some v71 := by kernel_rfl


def minusC : Ctr := { alias := false, of := fun l => match l with
  | [.vs _ _ n sz get, .vs _ _ m sz' get'] => .ex Nat fun a => .ex Nat fun b => .pre (padP a n sz get ∧ padP b m sz' get' ∧ b ≤ a) (.fin (natS false (a - b)) [])
  | _ => noC }
def timesC : Ctr := { alias := false, of := fun l => match l with
  | [.vs _ _ n sz get, .vs _ _ m sz' get'] => .ex Nat fun a => .ex Nat fun b => .pre (padP a n sz get ∧ padP b m sz' get' ∧ n + m ≤ 99999) (.fin (natS false (a * b)) [])
  | _ => noC }

theorem minus_ok : minusC.ok Try.prog 95 := by
  refine contract Try.func95 v95_is R1_ok 200 minusC fun args k h => ?_
  simp only [minusC] at h
  split at h
  · rename_i t1 z1 n sz get t2 z2 m sz' get'
    obtain ⟨a, b, ⟨⟨rfl, hn, ha, hg⟩, ⟨rfl, hm, hb, hg'⟩, hba⟩, h⟩ := h
    refine ⟨[.vs t1 z1 n 1 (fun k => [.int .u32 (dig a k)]), .vs t2 z2 m 1 (fun k => [.int .u32 (dig b k)])], ⟨by simpa [le] using hg, by simpa [le] using hg', trivial⟩, ?_⟩
    dsimp only [v95, r_end, r_end1, r_nil, r_op, r_opg, r_runOp, r_op0, r_yld0, r_yld1, r_y, r_rbeg, r_rend, r_rend1, r_rfrm, r_rfrm1, r_range, r_rangeK, r_rangeE, r_draw, r_dnil, r_dop, r_dopg, r_dplq, r_dplh, r_dq, r_dq0, r_dcl1, r_dcl0, r_dct1, r_dct0, r_dgd, r_dgq1, r_dgq0, r_dctG, r_op1, r_eff, r_eff0, r_call, r_call0, r_inl, r_g, r_gq, r_gc, r_effg, r_effg0, r_callg, r_callg0, r_fin, r_pre, r_imp, r_all, r_ex, r_fing, r_preg, r_exg, r_inBlock, r_inLoop, r_frame, r_frame1, r_skip, r_stuck, r_region, r_seq, r_cond, r_cond1, r_block, r_exit, r_exit1, r_exit2, r_ret, r_loop, s_args0, s_args1, s_xt, s_xc, padL, blankL, callee, callArgs, eff, ctOf, getL, setL, S.put, S.upd, unopts, unopt, unoptsO, unoptsB, lazyO, guardOf, gbool, eMov, eNot, eNeg, eConv, eExt, eLenArr, eLen, eLenStr, eEqb, eEqv, allEq, eNil, negIf, eBool2, eCmp, eAri, ari, eBit, eDiv, eSh, eMinMax, foldMin, foldMax, kEq, pure1, cmpB, VO.quiet, resVals, resVal, tupled, popRet, popTo, cond, Option.bind, Option.map, eNew, eBox, asCells, lenH, snocH, eFieldAddr, eField, eLoad, cellsAt, getH, setH, dropL, takeL, mkAgg, lenL, lenS, shift, shiftL, shiftH, viewN, viewL, view, andT, junks, List.append_nil, Nat.beq, eIdxAddr, eIdxArr, idxN_0, idxN_1, idxN_2, idxN_3, eIndex, eStore, storeAt, spliceL, ones, one, eSlice, eSliceArr, bounds, subLo_z, addLo_z, subLo_one, addLo_one, eMake, eAppend, readS, repL, buildCells, chunk, purgeL, purgeLL, purgeH, purge, refs, refsL, List.cons_append, List.nil_append, wrOps, wrAl, wrDops, wrC, junkAt, putAll, putHs, headOf, headK, keepG, List.append_eq, headX, chkP, apartP, apartB, blk, strip, runAl, AL.ho, yld, putPs, lenN, findR, notRound, jumpK, jumpPT, jcode, List.map_cons, List.map_nil, ite_self, reduceIte]
    simp only [true_and, and_true, imp_self, implies_true, decide_eq_true_eq, decide_eq_false_iff_not, Nat.reduceAdd, Nat.reduceLeDiff, Bool.not_not, reduceCtorEq, false_imp_iff, Bool.not_eq_true', Bool.not_eq_false', Bool.false_eq_true, and_self, forall_const, ne_eq, not_false_eq_true, Nat.reduceEqDiff]
    refine Loop.keep [0, 0, 3, 0, 0] Nat (fun i => [(5, .own 0 0 i 1), (6, .int .u64 (cy b (a - b) i)), (7, .int .i64 i)]) (fun i => [(0, .own (decide (i = 0)) 1 i (fun k => [.int .u32 (dig (a - b) k)]))]) [.gone] (fun i => i ≤ n) (fun i => n - i) ?_ ?_
    · refine ⟨0, by omega, ?_⟩
      dsimp only [r_end, r_end1, r_nil, r_op, r_opg, r_runOp, r_op0, r_yld0, r_yld1, r_y, r_rbeg, r_rend, r_rend1, r_rfrm, r_rfrm1, r_range, r_rangeK, r_rangeE, r_draw, r_dnil, r_dop, r_dopg, r_dplq, r_dplh, r_dq, r_dq0, r_dcl1, r_dcl0, r_dct1, r_dct0, r_dgd, r_dgq1, r_dgq0, r_dctG, r_op1, r_eff, r_eff0, r_call, r_call0, r_inl, r_g, r_gq, r_gc, r_effg, r_effg0, r_callg, r_callg0, r_fin, r_pre, r_imp, r_all, r_ex, r_fing, r_preg, r_exg, r_inBlock, r_inLoop, r_frame, r_frame1, r_skip, r_stuck, r_region, r_seq, r_cond, r_cond1, r_block, r_exit, r_exit1, r_exit2, r_ret, r_loop, s_args0, s_args1, s_xt, s_xc, padL, blankL, callee, callArgs, eff, ctOf, getL, setL, S.put, S.upd, unopts, unopt, unoptsO, unoptsB, lazyO, guardOf, gbool, eMov, eNot, eNeg, eConv, eExt, eLenArr, eLen, eLenStr, eEqb, eEqv, allEq, eNil, negIf, eBool2, eCmp, eAri, ari, eBit, eDiv, eSh, eMinMax, foldMin, foldMax, kEq, pure1, cmpB, VO.quiet, resVals, resVal, tupled, popRet, popTo, cond, Option.bind, Option.map, eNew, eBox, asCells, lenH, snocH, eFieldAddr, eField, eLoad, cellsAt, getH, setH, dropL, takeL, mkAgg, lenL, lenS, shift, shiftL, shiftH, viewN, viewL, view, andT, junks, List.append_nil, Nat.beq, eIdxAddr, eIdxArr, idxN_0, idxN_1, idxN_2, idxN_3, eIndex, eStore, storeAt, spliceL, ones, one, eSlice, eSliceArr, bounds, subLo_z, addLo_z, subLo_one, addLo_one, eMake, eAppend, readS, repL, buildCells, chunk, purgeL, purgeLL, purgeH, purge, refs, refsL, List.cons_append, List.nil_append, wrOps, wrAl, wrDops, wrC, junkAt, putAll, putHs, headOf, headK, keepG, List.append_eq, headX, chkP, apartP, apartB, blk, strip, runAl, AL.ho, yld, putPs, lenN, findR, notRound, jumpK, jumpPT, jcode, List.map_cons, List.map_nil, ite_self, reduceIte]
      simp only [leS_mk, leL_cons, leL_nil, le_junk, le_int, le_bool, le_nil, leLL_nil, leLL_cons, leH_cons, leH_nil, leH1_box, leH1_own, leH1_gone, le_vs, le_agg, le_tup, le_ptr, le_own, le_xp, le_fn, le_opt, le_val, le_elem, le_nil_own, le_nil_vs, leH_ghost, leL_chunk, leXL_id, bnd_int, bnd_bool, bnd_val, bnd_nil, bnd_junk, bnd_vs, bnd_xp, bnd_agg, bnd_tup, bnd_ptr, bnd_own, bnd_elem, bnd_fn, bnd_iface, bnd_opt, bndL_nil, bndL_cons, lenH_cons, lenH_nil, imp_self, implies_true, true_and, and_true]
      simp [cy_0]
    · rintro i hi
      dsimp only [R1_ct81, R1_ct80, limbC, trimC, natS, Int.toNat_natCast, r_end, r_end1, r_nil, r_op, r_opg, r_runOp, r_op0, r_yld0, r_yld1, r_y, r_rbeg, r_rend, r_rend1, r_rfrm, r_rfrm1, r_range, r_rangeK, r_rangeE, r_draw, r_dnil, r_dop, r_dopg, r_dplq, r_dplh, r_dq, r_dq0, r_dcl1, r_dcl0, r_dct1, r_dct0, r_dgd, r_dgq1, r_dgq0, r_dctG, r_op1, r_eff, r_eff0, r_call, r_call0, r_inl, r_g, r_gq, r_gc, r_effg, r_effg0, r_callg, r_callg0, r_fin, r_pre, r_imp, r_all, r_ex, r_fing, r_preg, r_exg, r_inBlock, r_inLoop, r_frame, r_frame1, r_skip, r_stuck, r_region, r_seq, r_cond, r_cond1, r_block, r_exit, r_exit1, r_exit2, r_ret, r_loop, s_args0, s_args1, s_xt, s_xc, padL, blankL, callee, callArgs, eff, ctOf, getL, setL, S.put, S.upd, unopts, unopt, unoptsO, unoptsB, lazyO, guardOf, gbool, eMov, eNot, eNeg, eConv, eExt, eLenArr, eLen, eLenStr, eEqb, eEqv, allEq, eNil, negIf, eBool2, eCmp, eAri, ari, eBit, eDiv, eSh, eMinMax, foldMin, foldMax, kEq, pure1, cmpB, VO.quiet, resVals, resVal, tupled, popRet, popTo, cond, Option.bind, Option.map, eNew, eBox, asCells, lenH, snocH, eFieldAddr, eField, eLoad, cellsAt, getH, setH, dropL, takeL, mkAgg, lenL, lenS, shift, shiftL, shiftH, viewN, viewL, view, andT, junks, List.append_nil, Nat.beq, eIdxAddr, eIdxArr, idxN_0, idxN_1, idxN_2, idxN_3, eIndex, eStore, storeAt, spliceL, ones, one, eSlice, eSliceArr, bounds, subLo_z, addLo_z, subLo_one, addLo_one, eMake, eAppend, readS, repL, buildCells, chunk, purgeL, purgeLL, purgeH, purge, refs, refsL, List.cons_append, List.nil_append, wrOps, wrAl, wrDops, wrC, junkAt, putAll, putHs, headOf, headK, keepG, List.append_eq, headX, chkP, apartP, apartB, blk, strip, runAl, AL.ho, yld, putPs, lenN, findR, notRound, jumpK, jumpPT, jcode, List.map_cons, List.map_nil, ite_self, reduceIte]
      simp only [true_and, and_true, imp_self, implies_true, decide_eq_true_eq, decide_eq_false_iff_not, Nat.reduceAdd, Nat.reduceLeDiff, Bool.not_not, reduceCtorEq, false_imp_iff, Bool.not_eq_true', Bool.not_eq_false', Bool.false_eq_true, and_self, forall_const, ne_eq, not_false_eq_true, Nat.reduceEqDiff]
      refine ⟨fun hlt => ⟨a, ⟨padP_self hn ha, by omega⟩, b, ⟨padP_self hm hb, by omega⟩, by decide, by decide, ?_⟩, fun hge => ⟨a - b, ?_, ?_⟩⟩
      · have hd1 := dig_lt a i
        have hd2 := dig_lt b i
        have hd3 := dig_lt (a - b) i
        have hc := cy_le b (a - b) i
        have hc2 := cy_le b (a - b) (i + 1)
        obtain ⟨e1, e2, e3, e4⟩ := sub_dig hba i
        have f1 : IntKind.u64.wrap (4294967296 + (dig a i : Int)) = ((4294967296 + dig a i : Nat) : Int) := by rw [IntWalk.u64_in _ (by omega)]; simp
        rw [f1, u_sub (by omega) (by omega), u_sub (by omega) (by omega)]
        dsimp only [r_end, r_end1, r_nil, r_op, r_opg, r_runOp, r_op0, r_yld0, r_yld1, r_y, r_rbeg, r_rend, r_rend1, r_rfrm, r_rfrm1, r_range, r_rangeK, r_rangeE, r_draw, r_dnil, r_dop, r_dopg, r_dplq, r_dplh, r_dq, r_dq0, r_dcl1, r_dcl0, r_dct1, r_dct0, r_dgd, r_dgq1, r_dgq0, r_dctG, r_op1, r_eff, r_eff0, r_call, r_call0, r_inl, r_g, r_gq, r_gc, r_effg, r_effg0, r_callg, r_callg0, r_fin, r_pre, r_imp, r_all, r_ex, r_fing, r_preg, r_exg, r_inBlock, r_inLoop, r_frame, r_frame1, r_skip, r_stuck, r_region, r_seq, r_cond, r_cond1, r_block, r_exit, r_exit1, r_exit2, r_ret, r_loop, s_args0, s_args1, s_xt, s_xc, padL, blankL, callee, callArgs, eff, ctOf, getL, setL, S.put, S.upd, unopts, unopt, unoptsO, unoptsB, lazyO, guardOf, gbool, eMov, eNot, eNeg, eConv, eExt, eLenArr, eLen, eLenStr, eEqb, eEqv, allEq, eNil, negIf, eBool2, eCmp, eAri, ari, eBit, eDiv, eSh, eMinMax, foldMin, foldMax, kEq, pure1, cmpB, VO.quiet, resVals, resVal, tupled, popRet, popTo, cond, Option.bind, Option.map, eNew, eBox, asCells, lenH, snocH, eFieldAddr, eField, eLoad, cellsAt, getH, setH, dropL, takeL, mkAgg, lenL, lenS, shift, shiftL, shiftH, viewN, viewL, view, andT, junks, List.append_nil, Nat.beq, eIdxAddr, eIdxArr, idxN_0, idxN_1, idxN_2, idxN_3, eIndex, eStore, storeAt, spliceL, ones, one, eSlice, eSliceArr, bounds, subLo_z, addLo_z, subLo_one, addLo_one, eMake, eAppend, readS, repL, buildCells, chunk, purgeL, purgeLL, purgeH, purge, refs, refsL, List.cons_append, List.nil_append, wrOps, wrAl, wrDops, wrC, junkAt, putAll, putHs, headOf, headK, keepG, List.append_eq, headX, chkP, apartP, apartB, blk, strip, runAl, AL.ho, yld, putPs, lenN, findR, notRound, jumpK, jumpPT, jcode, List.map_cons, List.map_nil, ite_self, reduceIte]
        simp only [true_and, and_true, imp_self, implies_true, decide_eq_true_eq, decide_eq_false_iff_not, Nat.reduceAdd, Nat.reduceLeDiff, Bool.not_not, reduceCtorEq, false_imp_iff, Bool.not_eq_true', Bool.not_eq_false', Bool.false_eq_true, and_self, forall_const, ne_eq, not_false_eq_true, Nat.reduceEqDiff]
        refine ⟨⟨by unfold capOk; omega, fun j hj => ?_⟩, by decide, i + 1, by omega, by omega, ?_⟩
        · match j, hj with
          | 0, _ => exact ⟨rfl, trivial, trivial⟩
        · have f2 : ∀ q : Nat, q ≤ 1 → IntKind.u64.wrap (1 - (q : Int)) = ((1 - q : Nat) : Int) := fun q hq => by rw [IntWalk.u64_in _ (by omega)]; omega
          rw [u3_rem, u_quo (by omega), f2 _ (by omega), e1, e2, IntWalk.i64_in ((i : Int) + 1) (by omega)]
          simp only [leS_mk, leL_cons, leL_nil, le_junk, le_int, le_bool, le_nil, leLL_nil, leLL_cons, leH_cons, leH_nil, leH1_box, leH1_own, leH1_gone, le_vs, le_agg, le_tup, le_ptr, le_own, le_xp, le_fn, le_opt, le_val, le_elem, le_nil_own, le_nil_vs, leH_ghost, leL_chunk, leXL_id, bnd_int, bnd_bool, bnd_val, bnd_nil, bnd_junk, bnd_vs, bnd_xp, bnd_agg, bnd_tup, bnd_ptr, bnd_own, bnd_elem, bnd_fn, bnd_iface, bnd_opt, bndL_nil, bndL_cons, lenH_cons, lenH_nil, imp_self, implies_true, true_and, and_true]
          refine ⟨by simp, by simp, fun j hj => ?_⟩
          rcases Nat.lt_or_ge j i with h' | h'
          · rw [if_pos h']; simp only [leL, le, and_self]
          · obtain rfl : j = i := by omega
            rw [if_neg (Nat.lt_irrefl _), Nat.sub_self]
            simp only [purgeL, takeL, dropL, leL, Nat.zero_mul, purge, refs, cond, le, and_self]
      · obtain rfl : i = n := by omega
        exact padP_self hn (Nat.lt_of_le_of_lt (Nat.sub_le _ _) ha)
      · exact ans_natS (t := true) h
  · exact h.1.elim

theorem times_ok : timesC.ok Try.prog 71 := by
  refine contract Try.func71 v71_is R1_ok 300 timesC fun args k h => ?_
  simp only [timesC] at h
  split at h
  · rename_i t1 z1 n sz get t2 z2 m sz' get'
    obtain ⟨a, b, ⟨⟨rfl, hn, ha, hg⟩, ⟨rfl, hm, hb, hg'⟩, hnm⟩, h⟩ := h
    refine ⟨[.vs t1 z1 n 1 (fun k => [.int .u32 (dig a k)]), .vs t2 z2 m 1 (fun k => [.int .u32 (dig b k)])], ⟨by simpa [le] using hg, by simpa [le] using hg', trivial⟩, ?_⟩
    dsimp only [v71, r_end, r_end1, r_nil, r_op, r_opg, r_runOp, r_op0, r_yld0, r_yld1, r_y, r_rbeg, r_rend, r_rend1, r_rfrm, r_rfrm1, r_range, r_rangeK, r_rangeE, r_draw, r_dnil, r_dop, r_dopg, r_dplq, r_dplh, r_dq, r_dq0, r_dcl1, r_dcl0, r_dct1, r_dct0, r_dgd, r_dgq1, r_dgq0, r_dctG, r_op1, r_eff, r_eff0, r_call, r_call0, r_inl, r_g, r_gq, r_gc, r_effg, r_effg0, r_callg, r_callg0, r_fin, r_pre, r_imp, r_all, r_ex, r_fing, r_preg, r_exg, r_inBlock, r_inLoop, r_frame, r_frame1, r_skip, r_stuck, r_region, r_seq, r_cond, r_cond1, r_block, r_exit, r_exit1, r_exit2, r_ret, r_loop, s_args0, s_args1, s_xt, s_xc, padL, blankL, callee, callArgs, eff, ctOf, getL, setL, S.put, S.upd, unopts, unopt, unoptsO, unoptsB, lazyO, guardOf, gbool, eMov, eNot, eNeg, eConv, eExt, eLenArr, eLen, eLenStr, eEqb, eEqv, allEq, eNil, negIf, eBool2, eCmp, eAri, ari, eBit, eDiv, eSh, eMinMax, foldMin, foldMax, kEq, pure1, cmpB, VO.quiet, resVals, resVal, tupled, popRet, popTo, cond, Option.bind, Option.map, eNew, eBox, asCells, lenH, snocH, eFieldAddr, eField, eLoad, cellsAt, getH, setH, dropL, takeL, mkAgg, lenL, lenS, shift, shiftL, shiftH, viewN, viewL, view, andT, junks, List.append_nil, Nat.beq, eIdxAddr, eIdxArr, idxN_0, idxN_1, idxN_2, idxN_3, eIndex, eStore, storeAt, spliceL, ones, one, eSlice, eSliceArr, bounds, subLo_z, addLo_z, subLo_one, addLo_one, eMake, eAppend, readS, repL, buildCells, chunk, purgeL, purgeLL, purgeH, purge, refs, refsL, List.cons_append, List.nil_append, wrOps, wrAl, wrDops, wrC, junkAt, putAll, putHs, headOf, headK, keepG, List.append_eq, headX, chkP, apartP, apartB, blk, strip, runAl, AL.ho, yld, putPs, lenN, findR, notRound, jumpK, jumpPT, jcode, List.map_cons, List.map_nil, ite_self, reduceIte]
    simp only [true_and, and_true, imp_self, implies_true, decide_eq_true_eq, decide_eq_false_iff_not, Nat.reduceAdd, Nat.reduceLeDiff, Bool.not_not, reduceCtorEq, false_imp_iff, Bool.not_eq_true', Bool.not_eq_false', Bool.false_eq_true, and_self, forall_const, ne_eq, not_false_eq_true, Nat.reduceEqDiff]
    have en : IntKind.i64.wrap (IntKind.i64.wrap ((n : Int) + (m : Int)) + 1) = ((n + m + 1 : Nat) : Int) := by
      rw [IntWalk.i64_in ((n : Int) + m) (by omega), IntWalk.i64_in _ (by omega)]; omega
    rw [en]
    simp only [Int.toNat_natCast]
    refine ⟨⟨by decide, by omega, by unfold capOk; omega⟩, ?_⟩
    refine Loop.keep [0, 0, 3, 0] Nat (fun i => [(6, .int .i64 i)]) (fun i => [(0, .own false 1 (n + m + 1) (fun k => [.int .u32 (dig ((a % 4294967296 ^ i) * b) k)]))]) [] (fun i => i ≤ n) (fun i => n - i) ?_ ?_
    · refine ⟨0, by omega, ?_⟩
      dsimp only [r_end, r_end1, r_nil, r_op, r_opg, r_runOp, r_op0, r_yld0, r_yld1, r_y, r_rbeg, r_rend, r_rend1, r_rfrm, r_rfrm1, r_range, r_rangeK, r_rangeE, r_draw, r_dnil, r_dop, r_dopg, r_dplq, r_dplh, r_dq, r_dq0, r_dcl1, r_dcl0, r_dct1, r_dct0, r_dgd, r_dgq1, r_dgq0, r_dctG, r_op1, r_eff, r_eff0, r_call, r_call0, r_inl, r_g, r_gq, r_gc, r_effg, r_effg0, r_callg, r_callg0, r_fin, r_pre, r_imp, r_all, r_ex, r_fing, r_preg, r_exg, r_inBlock, r_inLoop, r_frame, r_frame1, r_skip, r_stuck, r_region, r_seq, r_cond, r_cond1, r_block, r_exit, r_exit1, r_exit2, r_ret, r_loop, s_args0, s_args1, s_xt, s_xc, padL, blankL, callee, callArgs, eff, ctOf, getL, setL, S.put, S.upd, unopts, unopt, unoptsO, unoptsB, lazyO, guardOf, gbool, eMov, eNot, eNeg, eConv, eExt, eLenArr, eLen, eLenStr, eEqb, eEqv, allEq, eNil, negIf, eBool2, eCmp, eAri, ari, eBit, eDiv, eSh, eMinMax, foldMin, foldMax, kEq, pure1, cmpB, VO.quiet, resVals, resVal, tupled, popRet, popTo, cond, Option.bind, Option.map, eNew, eBox, asCells, lenH, snocH, eFieldAddr, eField, eLoad, cellsAt, getH, setH, dropL, takeL, mkAgg, lenL, lenS, shift, shiftL, shiftH, viewN, viewL, view, andT, junks, List.append_nil, Nat.beq, eIdxAddr, eIdxArr, idxN_0, idxN_1, idxN_2, idxN_3, eIndex, eStore, storeAt, spliceL, ones, one, eSlice, eSliceArr, bounds, subLo_z, addLo_z, subLo_one, addLo_one, eMake, eAppend, readS, repL, buildCells, chunk, purgeL, purgeLL, purgeH, purge, refs, refsL, List.cons_append, List.nil_append, wrOps, wrAl, wrDops, wrC, junkAt, putAll, putHs, headOf, headK, keepG, List.append_eq, headX, chkP, apartP, apartB, blk, strip, runAl, AL.ho, yld, putPs, lenN, findR, notRound, jumpK, jumpPT, jcode, List.map_cons, List.map_nil, ite_self, reduceIte]
      simp only [leS_mk, leL_cons, leL_nil, le_junk, le_int, le_bool, le_nil, leLL_nil, leLL_cons, leH_cons, leH_nil, leH1_box, leH1_own, leH1_gone, le_vs, le_agg, le_tup, le_ptr, le_own, le_xp, le_fn, le_opt, le_val, le_elem, le_nil_own, le_nil_vs, leH_ghost, leL_chunk, leXL_id, bnd_int, bnd_bool, bnd_val, bnd_nil, bnd_junk, bnd_vs, bnd_xp, bnd_agg, bnd_tup, bnd_ptr, bnd_own, bnd_elem, bnd_fn, bnd_iface, bnd_opt, bndL_nil, bndL_cons, lenH_cons, lenH_nil, imp_self, implies_true, true_and, and_true]
      simp [Nat.mod_one, dig_zero, leL, le]
    · rintro i hi
      dsimp only [R1_ct81, R1_ct80, limbC, trimC, natS, Int.toNat_natCast, r_end, r_end1, r_nil, r_op, r_opg, r_runOp, r_op0, r_yld0, r_yld1, r_y, r_rbeg, r_rend, r_rend1, r_rfrm, r_rfrm1, r_range, r_rangeK, r_rangeE, r_draw, r_dnil, r_dop, r_dopg, r_dplq, r_dplh, r_dq, r_dq0, r_dcl1, r_dcl0, r_dct1, r_dct0, r_dgd, r_dgq1, r_dgq0, r_dctG, r_op1, r_eff, r_eff0, r_call, r_call0, r_inl, r_g, r_gq, r_gc, r_effg, r_effg0, r_callg, r_callg0, r_fin, r_pre, r_imp, r_all, r_ex, r_fing, r_preg, r_exg, r_inBlock, r_inLoop, r_frame, r_frame1, r_skip, r_stuck, r_region, r_seq, r_cond, r_cond1, r_block, r_exit, r_exit1, r_exit2, r_ret, r_loop, s_args0, s_args1, s_xt, s_xc, padL, blankL, callee, callArgs, eff, ctOf, getL, setL, S.put, S.upd, unopts, unopt, unoptsO, unoptsB, lazyO, guardOf, gbool, eMov, eNot, eNeg, eConv, eExt, eLenArr, eLen, eLenStr, eEqb, eEqv, allEq, eNil, negIf, eBool2, eCmp, eAri, ari, eBit, eDiv, eSh, eMinMax, foldMin, foldMax, kEq, pure1, cmpB, VO.quiet, resVals, resVal, tupled, popRet, popTo, cond, Option.bind, Option.map, eNew, eBox, asCells, lenH, snocH, eFieldAddr, eField, eLoad, cellsAt, getH, setH, dropL, takeL, mkAgg, lenL, lenS, shift, shiftL, shiftH, viewN, viewL, view, andT, junks, List.append_nil, Nat.beq, eIdxAddr, eIdxArr, idxN_0, idxN_1, idxN_2, idxN_3, eIndex, eStore, storeAt, spliceL, ones, one, eSlice, eSliceArr, bounds, subLo_z, addLo_z, subLo_one, addLo_one, eMake, eAppend, readS, repL, buildCells, chunk, purgeL, purgeLL, purgeH, purge, refs, refsL, List.cons_append, List.nil_append, wrOps, wrAl, wrDops, wrC, junkAt, putAll, putHs, headOf, headK, keepG, List.append_eq, headX, chkP, apartP, apartB, blk, strip, runAl, AL.ho, yld, putPs, lenN, findR, notRound, jumpK, jumpPT, jcode, List.map_cons, List.map_nil, ite_self, reduceIte]
      simp only [true_and, and_true, imp_self, implies_true, decide_eq_true_eq, decide_eq_false_iff_not, Nat.reduceAdd, Nat.reduceLeDiff, Bool.not_not, reduceCtorEq, false_imp_iff, Bool.not_eq_true', Bool.not_eq_false', Bool.false_eq_true, and_self, forall_const, ne_eq, not_false_eq_true, Nat.reduceEqDiff]
      refine ⟨fun hlt => ?_, fun hge => ?_⟩
      · refine Loop.keep [0, 0, 3, 0, 0, 0] (Nat × Nat × Nat) (fun x => [(7, .int .u64 x.2.2), (8, .int .i64 x.1)]) (fun x => [(0, .own false 1 (n + m + 1) (fun k => [.int .u32 (dig x.2.1 k)]))]) [] (fun x => x.1 ≤ m + 1 ∧ x.2.2 < 4294967296 ∧ x.2.1 < 4294967296 ^ (n + m + 1) ∧ x.2.1 + x.2.2 * 4294967296 ^ (i + x.1) = (a % 4294967296 ^ i) * b + dig a i * (b % 4294967296 ^ x.1) * 4294967296 ^ i) (fun x => m + 1 - x.1) ?_ ?_
        · refine ⟨(0, (a % 4294967296 ^ i) * b, 0), ⟨by simp only; omega, by simp only; omega, ?_, by simp [Nat.mod_one]⟩, ?_⟩
          · exact mul_lt hi ha hb
          · dsimp only [r_end, r_end1, r_nil, r_op, r_opg, r_runOp, r_op0, r_yld0, r_yld1, r_y, r_rbeg, r_rend, r_rend1, r_rfrm, r_rfrm1, r_range, r_rangeK, r_rangeE, r_draw, r_dnil, r_dop, r_dopg, r_dplq, r_dplh, r_dq, r_dq0, r_dcl1, r_dcl0, r_dct1, r_dct0, r_dgd, r_dgq1, r_dgq0, r_dctG, r_op1, r_eff, r_eff0, r_call, r_call0, r_inl, r_g, r_gq, r_gc, r_effg, r_effg0, r_callg, r_callg0, r_fin, r_pre, r_imp, r_all, r_ex, r_fing, r_preg, r_exg, r_inBlock, r_inLoop, r_frame, r_frame1, r_skip, r_stuck, r_region, r_seq, r_cond, r_cond1, r_block, r_exit, r_exit1, r_exit2, r_ret, r_loop, s_args0, s_args1, s_xt, s_xc, padL, blankL, callee, callArgs, eff, ctOf, getL, setL, S.put, S.upd, unopts, unopt, unoptsO, unoptsB, lazyO, guardOf, gbool, eMov, eNot, eNeg, eConv, eExt, eLenArr, eLen, eLenStr, eEqb, eEqv, allEq, eNil, negIf, eBool2, eCmp, eAri, ari, eBit, eDiv, eSh, eMinMax, foldMin, foldMax, kEq, pure1, cmpB, VO.quiet, resVals, resVal, tupled, popRet, popTo, cond, Option.bind, Option.map, eNew, eBox, asCells, lenH, snocH, eFieldAddr, eField, eLoad, cellsAt, getH, setH, dropL, takeL, mkAgg, lenL, lenS, shift, shiftL, shiftH, viewN, viewL, view, andT, junks, List.append_nil, Nat.beq, eIdxAddr, eIdxArr, idxN_0, idxN_1, idxN_2, idxN_3, eIndex, eStore, storeAt, spliceL, ones, one, eSlice, eSliceArr, bounds, subLo_z, addLo_z, subLo_one, addLo_one, eMake, eAppend, readS, repL, buildCells, chunk, purgeL, purgeLL, purgeH, purge, refs, refsL, List.cons_append, List.nil_append, wrOps, wrAl, wrDops, wrC, junkAt, putAll, putHs, headOf, headK, keepG, List.append_eq, headX, chkP, apartP, apartB, blk, strip, runAl, AL.ho, yld, putPs, lenN, findR, notRound, jumpK, jumpPT, jcode, List.map_cons, List.map_nil, ite_self, reduceIte]
            simp only [leS_mk, leL_cons, leL_nil, le_junk, le_int, le_bool, le_nil, leLL_nil, leLL_cons, leH_cons, leH_nil, leH1_box, leH1_own, leH1_gone, le_vs, le_agg, le_tup, le_ptr, le_own, le_xp, le_fn, le_opt, le_val, le_elem, le_nil_own, le_nil_vs, leH_ghost, leL_chunk, leXL_id, bnd_int, bnd_bool, bnd_val, bnd_nil, bnd_junk, bnd_vs, bnd_xp, bnd_agg, bnd_tup, bnd_ptr, bnd_own, bnd_elem, bnd_fn, bnd_iface, bnd_opt, bndL_nil, bndL_cons, lenH_cons, lenH_nil, imp_self, implies_true, true_and, and_true]
            simp [leL, le]
        · rintro ⟨t, V, c⟩ ⟨ht, hc, hV, he⟩
          dsimp only at ht hc hV he
          dsimp only [R1_ct81, R1_ct80, limbC, trimC, natS, Int.toNat_natCast, r_end, r_end1, r_nil, r_op, r_opg, r_runOp, r_op0, r_yld0, r_yld1, r_y, r_rbeg, r_rend, r_rend1, r_rfrm, r_rfrm1, r_range, r_rangeK, r_rangeE, r_draw, r_dnil, r_dop, r_dopg, r_dplq, r_dplh, r_dq, r_dq0, r_dcl1, r_dcl0, r_dct1, r_dct0, r_dgd, r_dgq1, r_dgq0, r_dctG, r_op1, r_eff, r_eff0, r_call, r_call0, r_inl, r_g, r_gq, r_gc, r_effg, r_effg0, r_callg, r_callg0, r_fin, r_pre, r_imp, r_all, r_ex, r_fing, r_preg, r_exg, r_inBlock, r_inLoop, r_frame, r_frame1, r_skip, r_stuck, r_region, r_seq, r_cond, r_cond1, r_block, r_exit, r_exit1, r_exit2, r_ret, r_loop, s_args0, s_args1, s_xt, s_xc, padL, blankL, callee, callArgs, eff, ctOf, getL, setL, S.put, S.upd, unopts, unopt, unoptsO, unoptsB, lazyO, guardOf, gbool, eMov, eNot, eNeg, eConv, eExt, eLenArr, eLen, eLenStr, eEqb, eEqv, allEq, eNil, negIf, eBool2, eCmp, eAri, ari, eBit, eDiv, eSh, eMinMax, foldMin, foldMax, kEq, pure1, cmpB, VO.quiet, resVals, resVal, tupled, popRet, popTo, cond, Option.bind, Option.map, eNew, eBox, asCells, lenH, snocH, eFieldAddr, eField, eLoad, cellsAt, getH, setH, dropL, takeL, mkAgg, lenL, lenS, shift, shiftL, shiftH, viewN, viewL, view, andT, junks, List.append_nil, Nat.beq, eIdxAddr, eIdxArr, idxN_0, idxN_1, idxN_2, idxN_3, eIndex, eStore, storeAt, spliceL, ones, one, eSlice, eSliceArr, bounds, subLo_z, addLo_z, subLo_one, addLo_one, eMake, eAppend, readS, repL, buildCells, chunk, purgeL, purgeLL, purgeH, purge, refs, refsL, List.cons_append, List.nil_append, wrOps, wrAl, wrDops, wrC, junkAt, putAll, putHs, headOf, headK, keepG, List.append_eq, headX, chkP, apartP, apartB, blk, strip, runAl, AL.ho, yld, putPs, lenN, findR, notRound, jumpK, jumpPT, jcode, List.map_cons, List.map_nil, ite_self, reduceIte]
          simp only [true_and, and_true, imp_self, implies_true, decide_eq_true_eq, decide_eq_false_iff_not, Nat.reduceAdd, Nat.reduceLeDiff, Bool.not_not, reduceCtorEq, false_imp_iff, Bool.not_eq_true', Bool.not_eq_false', Bool.false_eq_true, and_self, forall_const, ne_eq, not_false_eq_true, Nat.reduceEqDiff]
          rw [IntWalk.i64_in ((m : Int) + 1) (by omega)]
          refine ⟨fun hlt2 => ?_, fun hge2 => ?_⟩
          · have w1 : IntKind.i64.wrap ((i : Int) + (t : Int)) = ((i + t : Nat) : Int) := by rw [IntWalk.i64_in _ (by omega)]; simp
            rw [w1]
            simp only [Int.toNat_natCast]
            have hd0 := dig_lt V (i + t)
            obtain ⟨hb1, hb2⟩ := mul_bound hd0 (dig_lt a i) (dig_lt b t) hc
            have hs := mul_step he
            refine ⟨⟨by omega, by omega⟩, by omega, a, ⟨padP_self hn ha, by omega⟩, b, ⟨padP_self hm hb, by omega⟩, by decide, ⟨by omega, by omega⟩, by omega, by decide,
              (t + 1, setD V (i + t) ((dig V (i + t) + dig a i * dig b t + c) % 4294967296), (dig V (i + t) + dig a i * dig b t + c) / 4294967296), ⟨by simp only; omega, hb2, setD_lt hV (Nat.mod_lt _ (by decide)) (by omega), hs⟩, by simp only; omega, ?_⟩
            rw [u_nat (by omega : dig V (i + t) < 18446744073709551616), u_mul (by omega), u_add (by omega), u_add (by omega), u3_rem, u_quo (by omega), IntWalk.i64_in ((t : Int) + 1) (by omega)]
            simp only [leS_mk, leL_cons, leL_nil, le_junk, le_int, le_bool, le_nil, leLL_nil, leLL_cons, leH_cons, leH_nil, leH1_box, leH1_own, leH1_gone, le_vs, le_agg, le_tup, le_ptr, le_own, le_xp, le_fn, le_opt, le_val, le_elem, le_nil_own, le_nil_vs, leH_ghost, leL_chunk, leXL_id, bnd_int, bnd_bool, bnd_val, bnd_nil, bnd_junk, bnd_vs, bnd_xp, bnd_agg, bnd_tup, bnd_ptr, bnd_own, bnd_elem, bnd_fn, bnd_iface, bnd_opt, bndL_nil, bndL_cons, lenH_cons, lenH_nil, imp_self, implies_true, true_and, and_true]
            refine ⟨by simp, fun j hj => ?_⟩
            rw [dig_setD (Nat.mod_lt _ (by decide))]
            split <;> simp only [leL, le, and_self]
          · obtain rfl : t = m + 1 := by omega
            have hbm : b % 4294967296 ^ (m + 1) = b := Nat.mod_eq_of_lt (Nat.lt_of_lt_of_le hb (Nat.pow_le_pow_right (by decide) (by omega)))
            rw [hbm] at he
            have hrow : (a % 4294967296 ^ (i + 1)) * b = (a % 4294967296 ^ i) * b + dig a i * b * 4294967296 ^ i := by
              rw [mod_pw, Nat.add_mul, Nat.mul_assoc, Nat.mul_comm (4294967296 ^ i)]
            rw [← hrow] at he
            have hlt3 : (a % 4294967296 ^ (i + 1)) * b < 4294967296 ^ (i + (m + 1)) := by
              have h1 := Nat.mod_lt a (pw_pos (i + 1))
              have h2 : (a % 4294967296 ^ (i + 1)) * b ≤ (a % 4294967296 ^ (i + 1)) * 4294967296 ^ m := Nat.mul_le_mul_left _ (Nat.le_of_lt hb)
              have h3 : (a % 4294967296 ^ (i + 1)) * 4294967296 ^ m < 4294967296 ^ (i + 1) * 4294967296 ^ m := Nat.mul_lt_mul_of_pos_right h1 (pw_pos m)
              rw [← Nat.pow_add, show i + 1 + m = i + (m + 1) by omega] at h3
              omega
            obtain rfl : c = 0 := by
              rcases Nat.eq_zero_or_pos c with h0 | h0
              · exact h0
              · have : 1 * 4294967296 ^ (i + (m + 1)) ≤ c * 4294967296 ^ (i + (m + 1)) := Nat.mul_le_mul_right _ h0
                omega
            rw [Nat.zero_mul, Nat.add_zero] at he
            refine ⟨i + 1, by omega, by omega, ?_⟩
            rw [he, IntWalk.i64_in ((i : Int) + 1) (by omega)]
            simp only [leS_mk, leL_cons, leL_nil, le_junk, le_int, le_bool, le_nil, leLL_nil, leLL_cons, leH_cons, leH_nil, leH1_box, leH1_own, leH1_gone, le_vs, le_agg, le_tup, le_ptr, le_own, le_xp, le_fn, le_opt, le_val, le_elem, le_nil_own, le_nil_vs, leH_ghost, leL_chunk, leXL_id, bnd_int, bnd_bool, bnd_val, bnd_nil, bnd_junk, bnd_vs, bnd_xp, bnd_agg, bnd_tup, bnd_ptr, bnd_own, bnd_elem, bnd_fn, bnd_iface, bnd_opt, bndL_nil, bndL_cons, lenH_cons, lenH_nil, imp_self, implies_true, true_and, and_true]
            simp [leL, le]
      · obtain rfl : i = n := by omega
        refine ⟨a * b, ?_, ans_natS (t := true) h⟩
        rw [Nat.mod_eq_of_lt ha]
        exact padP_self (by omega) (by have := mul_lt (Nat.le_refl i) ha hb; rwa [Nat.mod_eq_of_lt ha] at this)
  · exact h.1.elim
end Go.Proofs.Ytdognchniaojoaa

/- Numbers by limbs, in plain Lean: bits, doubling, division. -/
set_option linter.all false
namespace Go.Proofs.Ytdognchniaojoaa
open Go Go.Vx

/-- The number of bits. -/
def bitsF : Nat → Nat → Nat
  | 0, _ => 0
  | f + 1, a => if a = 0 then 0 else bitsF f (a / 2) + 1
def bitsN (a : Nat) : Nat := bitsF a a

theorem p2_pos (i : Nat) : 0 < 2 ^ i := Nat.pow_pos (by decide)
theorem bitsF_le : ∀ (f a n : Nat), a ≤ f → (bitsF f a ≤ n ↔ a < 2 ^ n)
  | 0, a, n, h => by
    have := p2_pos n
    simp only [bitsF]; omega
  | f + 1, a, n, h => by
    simp only [bitsF]
    split
    · rename_i h0; have := p2_pos n; subst h0; simp; omega
    · cases n with
      | zero => simp; omega
      | succ n =>
        have := bitsF_le f (a / 2) n (by omega)
        rw [Nat.pow_succ, ← Nat.div_lt_iff_lt_mul (by decide), ← this]
        omega
theorem bitsN_le {a n : Nat} : bitsN a ≤ n ↔ a < 2 ^ n := bitsF_le a a n (Nat.le_refl _)
theorem bitsN_lt (a : Nat) : a < 2 ^ bitsN a := bitsN_le.1 (Nat.le_refl _)
theorem bitsN_0 : bitsN 0 = 0 := rfl
theorem bitsN_half {a : Nat} (h : 0 < a) : bitsN a = bitsN (a / 2) + 1 := by
  have h1 : ∀ n, bitsN a ≤ n ↔ bitsN (a / 2) + 1 ≤ n := fun n => by
    cases n with
    | zero => have := @bitsN_le a 0; simp at this; omega
    | succ n => rw [bitsN_le, Nat.pow_succ, ← Nat.div_lt_iff_lt_mul (by decide), ← bitsN_le]; omega
  have a1 := (h1 (bitsN (a / 2) + 1)).2 (Nat.le_refl _)
  have a2 := (h1 (bitsN a)).1 (Nat.le_refl _)
  omega
theorem bitsN_eq0 {a : Nat} : bitsN a = 0 ↔ a = 0 := by
  have := @bitsN_le a 0
  simp at this; omega
theorem pw_two (m : Nat) : 4294967296 ^ m = 2 ^ (32 * m) := by
  rw [Nat.pow_mul]
theorem bitsN_top {a m : Nat} (h : nl a = m + 1) : bitsN a = 32 * m + bitsN (dig a m) := by
  have h1 := nl_lt a
  have h2 : ¬ a < 4294967296 ^ m := fun hh => by have := nl_le.2 hh; omega
  rw [h, pw_succ] at h1
  have h3 : a / 4294967296 ^ m < 4294967296 := by rw [Nat.div_lt_iff_lt_mul (pw_pos m), Nat.mul_comm]; exact h1
  have h4 : dig a m = a / 4294967296 ^ m := by unfold dig; rw [Nat.mod_eq_of_lt h3]
  have h5 : ∀ t, bitsN a ≤ 32 * m + t ↔ bitsN (dig a m) ≤ t := fun t => by
    rw [bitsN_le, bitsN_le, Nat.pow_add, ← pw_two, h4, Nat.div_lt_iff_lt_mul (pw_pos m), Nat.mul_comm]
  have h6 : 32 * m ≤ bitsN a := by
    rcases Nat.lt_or_ge (bitsN a) (32 * m) with h' | h'
    · exact absurd (by rw [pw_two]; exact bitsN_le.1 (Nat.le_of_lt h')) h2
    · exact h'
  have a1 := (h5 (bitsN (dig a m))).2 (Nat.le_refl _)
  have a2 := (h5 (bitsN a - 32 * m)).1 (by omega)
  omega
theorem bitsN_nl (a : Nat) : bitsN a ≤ 32 * nl a := by
  rw [bitsN_le, ← pw_two]; exact nl_lt a

/-- A bit. -/
def bitN (a i : Nat) : Nat := a / 2 ^ i % 2
theorem bitN_lt (a i : Nat) : bitN a i < 2 := Nat.mod_lt _ (by decide)
theorem mod_div_bit {y r : Nat} (h : r < 32) : y % 4294967296 / 2 ^ r % 2 = y / 2 ^ r % 2 := by
  have e : (4294967296 : Nat) = 2 ^ r * (2 * 2 ^ (31 - r)) := by
    have h1 : (2 : Nat) * 2 ^ (31 - r) = 2 ^ (32 - r) := by
      rw [Nat.mul_comm, ← Nat.pow_succ]; congr 1; omega
    rw [h1, ← Nat.pow_add, show r + (32 - r) = 32 by omega]
  rw [e, Nat.mod_mul_right_div_self, Nat.mod_mul_right_mod]
theorem bitN_dig (a i : Nat) : bitN a i = dig a (i / 32) / 2 ^ (i % 32) % 2 := by
  unfold bitN dig
  rw [mod_div_bit (Nat.mod_lt _ (by decide)), pw_two, Nat.div_div_eq_div_mul, ← Nat.pow_add]
  congr 3; omega
theorem half_bit (a i : Nat) : a / 2 ^ i = 2 * (a / 2 ^ (i + 1)) + bitN a i := by
  unfold bitN
  rw [Nat.pow_succ, ← Nat.div_div_eq_div_mul]
  generalize a / 2 ^ i = y
  omega

/-! ### Doubling -/

theorem dig_mod_if (a j k : Nat) : dig (a % 4294967296 ^ j) k = if k < j then dig a k else 0 := by
  split
  · exact dig_mod ‹_›
  · exact dig_big (Nat.mod_lt _ (pw_pos j)) (by omega)
/-- What is carried when a number is doubled. -/
def dcy (a x i : Nat) : Nat := (2 * (a % 4294967296 ^ i) + x) / 4294967296 ^ i
theorem dcy_0 (a x : Nat) : dcy a x 0 = x := by simp [dcy, Nat.mod_one]
theorem dcy_le {a x i : Nat} (hx : x ≤ 1) : dcy a x i ≤ 1 := by
  unfold dcy
  have h1 := Nat.mod_lt a (pw_pos i)
  have : (2 * (a % 4294967296 ^ i) + x) / 4294967296 ^ i < 2 := by
    rw [Nat.div_lt_iff_lt_mul (pw_pos i)]; omega
  omega
theorem dbl_dig (a x i : Nat) : (2 * dig a i + dcy a x i) % 4294967296 = dig (2 * a + x) i := by
  have e : (2 * a + x) / 4294967296 ^ i = 2 * (a / 4294967296 ^ i) + dcy a x i := by
    unfold dcy
    have h1 := Nat.div_add_mod a (4294967296 ^ i)
    generalize hP : 4294967296 ^ i = P at *
    have hp : 0 < P := hP ▸ pw_pos i
    have e : 2 * a + x = P * (2 * (a / P)) + (2 * (a % P) + x) := by rw [← Nat.mul_assoc, Nat.mul_comm P 2, Nat.mul_assoc]; omega
    conv => lhs; rw [e]
    rw [Nat.mul_add_div hp]
  unfold dig
  rw [e]
  omega
theorem dbl_cy (a x i : Nat) : (2 * dig a i + dcy a x i) / 4294967296 = dcy a x (i + 1) := by
  have e : dcy a x (i + 1) = (2 * (a % 4294967296 ^ (i + 1)) + x) / 4294967296 ^ (i + 1) := rfl
  rw [e, mod_pw, pw_succ, ← Nat.div_div_eq_div_mul]
  unfold dcy
  generalize hP : 4294967296 ^ i = P at *
  have hp : 0 < P := hP ▸ pw_pos i
  have e : 2 * (a % P + P * dig a i) + x = P * (2 * dig a i) + (2 * (a % P) + x) := by rw [Nat.mul_add, ← Nat.mul_assoc, Nat.mul_comm 2 P, Nat.mul_assoc]; omega
  rw [e, Nat.mul_add_div hp]
theorem dcy_top {a x n : Nat} (h : a < 4294967296 ^ n) : dcy a x n = dig (2 * a + x) n ∨ 1 < x := by
  rcases Nat.lt_or_ge 1 x with hx | hx
  · exact .inr hx
  · left
    have h1 := dbl_dig a x n
    rw [dig_big h (Nat.le_refl _)] at h1
    have := dcy_le (a := a) (i := n) hx
    omega

/-! ### Bits of words, as the model computes them -/

theorem and_one (x : Nat) : IntKind.u32.wrap ((BitVec.ofInt 32 (x : Int) &&& BitVec.ofInt 32 1).toNat : Int) = ((x % 2 : Nat) : Int) := by
  have e : (BitVec.ofInt 32 (x : Int) &&& BitVec.ofInt 32 1).toNat = x % 2 := by
    rw [BitVec.toNat_and]
    have h1 : (BitVec.ofInt 32 (x : Int)).toNat = x % 4294967296 := by simp [BitVec.toNat_ofInt] <;> omega
    have h2 : (BitVec.ofInt 32 1).toNat = 1 := by decide
    rw [h1, h2, Nat.and_one_is_mod] <;> omega
  rw [e]; exact u3_nat (by omega)
theorem ofInt_nat {x : Nat} (h : x < 4294967296) : (BitVec.ofInt 32 (x : Int)).toNat = x := by
  simp [BitVec.toNat_ofInt]; omega
theorem or_nat {x y : Nat} (hx : x < 4294967296) (hy : y < 4294967296) : IntKind.u32.wrap ((BitVec.ofInt 32 (x : Int) ||| BitVec.ofInt 32 (y : Int)).toNat : Int) = ((x ||| y : Nat) : Int) := by
  rw [BitVec.toNat_or, ofInt_nat hx, ofInt_nat hy]
  exact u3_nat (Nat.or_lt_two_pow (n := 32) hx hy)
/-- A bit that is not there is added. -/
theorem or_add {d s : Nat} (h : d / 2 ^ s % 2 = 0) : d ||| 2 ^ s = d + 2 ^ s := by
  have h1 := Nat.div_add_mod d (2 ^ s)
  have h2 := Nat.mod_lt d (p2_pos s)
  have e : d = 2 ^ s * (d / 2 ^ s) + d % 2 ^ s := h1.symm
  apply Nat.eq_of_testBit_eq
  intro j
  rw [Nat.testBit_or, Nat.testBit_two_pow]
  by_cases hj : s = j
  · subst hj
    have : (d + 2 ^ s).testBit s = !d.testBit s := by
      rw [Nat.add_comm]; exact Nat.testBit_two_pow_add_eq d s
    have hb : d.testBit s = false := by
      rw [Nat.testBit_eq_decide_div_mod_eq]; simp [h]
    rw [this, hb]; simp
  · have : (d + 2 ^ s).testBit j = d.testBit j := by
      rcases Nat.lt_or_ge j s with hlt | hge
      · rw [Nat.add_comm]; exact Nat.testBit_two_pow_add_gt hlt d
      · have hgt : s < j := by omega
        rw [Nat.testBit_eq_decide_div_mod_eq, Nat.testBit_eq_decide_div_mod_eq]
        have : (d + 2 ^ s) / 2 ^ j = d / 2 ^ j := by
          obtain ⟨m, rfl⟩ : ∃ m, j = s + 1 + m := ⟨j - (s + 1), by omega⟩
          rw [Nat.pow_add, ← Nat.div_div_eq_div_mul, ← Nat.div_div_eq_div_mul, Nat.pow_succ, ← Nat.div_div_eq_div_mul, ← Nat.div_div_eq_div_mul, Nat.add_div_right _ (p2_pos s)]
          congr 1; omega
        rw [this]
    rw [this]; simp [hj]

theorem dbl_or {d c : Nat} (hd : d < 4294967296) (hc : c ≤ 1) : IntKind.u32.wrap ((BitVec.ofInt 32 (IntKind.u32.wrap ((d : Int) * 2 ^ min (Int.toNat 1) 32)) ||| BitVec.ofInt 32 (c : Int)).toNat : Int) = (((2 * d + c) % 4294967296 : Nat) : Int) := by
  have e : IntKind.u32.wrap ((d : Int) * 2 ^ min (Int.toNat 1) 32) = ((2 * d % 4294967296 : Nat) : Int) := by
    have : (2 : Int) ^ min (Int.toNat 1) 32 = 2 := by decide
    rw [this, IntKind.wrap_u32]; omega
  rw [e, or_nat (by omega) (by omega)]
  rcases Nat.eq_zero_or_pos c with h0 | h0
  · subst h0; simp
  · obtain rfl : c = 1 := by omega
    have h2 : (2 * d % 4294967296) ||| 2 ^ 0 = 2 * d % 4294967296 + 2 ^ 0 := or_add (by omega)
    rw [Nat.pow_zero] at h2
    rw [h2]; omega
theorem dbl_shr {d : Nat} : (d : Int).fdiv (2 ^ min (Int.toNat 31) 32) = ((d / 2147483648 : Nat) : Int) := by
  have : (2 : Int) ^ min (Int.toNat 31) 32 = 2147483648 := by decide
  rw [this, Int.fdiv_eq_ediv_of_nonneg _ (by decide)]; omega

/-! ### A step of a division -/

theorem setbit {q i : Nat} (h : q % 2 ^ (i + 1) = 0) : dig q (i / 32) / 2 ^ (i % 32) % 2 = 0 ∧ setD q (i / 32) (dig q (i / 32) + 2 ^ (i % 32)) = q + 2 ^ i ∧ dig q (i / 32) + 2 ^ (i % 32) < 4294967296 := by
  have hb : bitN q i = 0 := by
    unfold bitN
    have := Nat.mod_mul_right_div_self q (2 ^ i) 2
    rw [← Nat.pow_succ, h, Nat.zero_div] at this
    exact this.symm
  have h1 : dig q (i / 32) / 2 ^ (i % 32) % 2 = 0 := by rw [← bitN_dig]; exact hb
  refine ⟨h1, ?_, ?_⟩
  · have e := setD_add q (i / 32) (dig q (i / 32) + 2 ^ (i % 32))
    have e2 : 2 ^ i = 2 ^ (i % 32) * 4294967296 ^ (i / 32) := by
      rw [pw_two, ← Nat.pow_add]; congr 1; omega
    rw [e2]
    rw [Nat.add_mul] at e
    omega
  · rw [← or_add h1]
    exact Nat.or_lt_two_pow (n := 32) (dig_lt _ _) (Nat.pow_lt_pow_right (by decide) (Nat.mod_lt _ (by decide)))
theorem mod_half {q i : Nat} (h : q % 2 ^ (i + 1) = 0) : q % 2 ^ i = 0 ∧ q / 2 ^ i = 2 * (q / 2 ^ (i + 1)) := by
  have hm : 2 ^ (i + 1) = 2 ^ i * 2 := Nat.pow_succ ..
  obtain ⟨c, hc⟩ := Nat.dvd_of_mod_eq_zero h
  subst hc
  constructor
  · rw [hm, Nat.mul_assoc]; exact Nat.mul_mod_right _ _
  · rw [Nat.mul_div_cancel_left _ (p2_pos _), hm, Nat.mul_assoc, Nat.mul_div_cancel_left _ (p2_pos i)]
theorem div_step0 {a b q r i : Nat} (h : a / 2 ^ (i + 1) = q / 2 ^ (i + 1) * b + r) (hq : q % 2 ^ (i + 1) = 0) : a / 2 ^ i = q / 2 ^ i * b + (2 * r + bitN a i) := by
  rw [half_bit, h, (mod_half hq).2]
  grind
theorem div_step1 {a b q r i : Nat} (h : a / 2 ^ (i + 1) = q / 2 ^ (i + 1) * b + r) (hq : q % 2 ^ (i + 1) = 0) (hb : b ≤ 2 * r + bitN a i) : a / 2 ^ i = (q + 2 ^ i) / 2 ^ i * b + (2 * r + bitN a i - b) ∧ (q + 2 ^ i) % 2 ^ i = 0 := by
  rw [Nat.add_div_right _ (p2_pos i), Nat.add_mod_right]
  refine ⟨?_, (mod_half hq).1⟩
  have := div_step0 h hq
  rw [Nat.succ_mul]
  omega
theorem div_bound {a b q r i n : Nat} (h : a / 2 ^ i = q / 2 ^ i * b + r) (hq : q % 2 ^ i = 0) (hb : 0 < b) (ha : a < n) : q < n := by
  have h1 : q / 2 ^ i ≤ a / 2 ^ i := by
    rw [h]
    calc q / 2 ^ i = q / 2 ^ i * 1 := (Nat.mul_one _).symm
      _ ≤ q / 2 ^ i * b := Nat.mul_le_mul_left _ hb
      _ ≤ _ := Nat.le_add_right _ _
  have h2 := Nat.div_add_mod q (2 ^ i)
  have h3 := Nat.div_add_mod a (2 ^ i)
  have h4 := Nat.mul_le_mul_left (2 ^ i) h1
  omega
theorem div_end {a b q r : Nat} (h : a / 2 ^ 0 = q / 2 ^ 0 * b + r) (hr : r < b) : q = a / b ∧ r = a % b := by
  simp only [Nat.pow_zero, Nat.div_one] at h
  have hb : 0 < b := by omega
  subst h
  rw [Nat.mul_comm, Nat.mul_add_div hb, Nat.mul_add_mod, Nat.div_eq_of_lt hr, Nat.mod_eq_of_lt hr]
  exact ⟨by omega, rfl⟩
end Go.Proofs.Ytdognchniaojoaa

/- Numbers by limbs, walked: Size, bit, double, Divide. -/
set_option linter.all false
namespace Go.Proofs.Ytdognchniaojoaa
open Go Go.Vx
set_option maxRecDepth 100000
set_option maxHeartbeats 4000000

def v77 : VF := { ntmps := 25, res := [.tmp 2], body :=
 (.seq (.region [⟨(some 2), none, .mov, [.cn (.int .i64 0)]⟩])
 (.seq (.seq (.region [⟨(some 5), none, .mov, [.tm 0]⟩,
  ⟨(some 6), none, .len, [.tm 5]⟩,
  ⟨(some 7), none, (.cmp .eql), [.tm 6, .cn (.int .i64 0)]⟩])
 (.cond (.tm 7) (.seq (.region [⟨(some 2), none, .mov, [.cn (.int .i64 0)]⟩])
 .ret)
  .skip))
 (.seq (.draw [] [⟨⟨(some 8), none, .mov, [.tm 0]⟩, []⟩,
  ⟨⟨(some 9), none, .len, [.tm 8]⟩, []⟩,
  ⟨⟨(some 10), none, (.ari .sub), [.tm 9, .cn (.int .i64 1)]⟩, []⟩,
  ⟨⟨(some 11), none, (.ari .mul), [.cn (.int .i64 32), .tm 10]⟩, []⟩,
  ⟨⟨(some 12), none, .mov, [.tm 0]⟩, []⟩,
  ⟨⟨(some 13), none, .mov, [.tm 0]⟩, []⟩,
  ⟨⟨(some 14), none, .len, [.tm 13]⟩, []⟩,
  ⟨⟨(some 15), none, (.ari .sub), [.tm 14, .cn (.int .i64 1)]⟩, []⟩,
  ⟨⟨(some 16), none, (.idxAddr 1), [.tm 12, .tm 15]⟩, []⟩,
  ⟨⟨(some 17), none, (.load false 1), [.tm 16]⟩, []⟩,
  ⟨⟨(some 3), none, .mov, [.tm 11]⟩, []⟩,
  ⟨⟨(some 4), none, .mov, [.tm 17]⟩, []⟩])
 (.seq (.block 0 (.loop (.seq (.seq (.region [⟨(some 18), none, .mov, [.tm 4]⟩,
  ⟨(some 19), none, (.cmp .gtr), [.tm 18, .cn (.int .u32 0)]⟩])
 (.cond (.tm 19) .skip
  (.exit 0)))
 (.block 1 (.seq (.region [⟨(some 20), none, .mov, [.tm 3]⟩,
  ⟨(some 21), none, (.ari .add), [.tm 20, .cn (.int .i64 1)]⟩,
  ⟨(some 3), none, .mov, [.tm 21]⟩])
 (.region [⟨(some 22), none, .mov, [.tm 4]⟩,
  ⟨(some 23), none, .quo, [.tm 22, .cn (.int .u32 2)]⟩,
  ⟨(some 4), none, .mov, [.tm 23]⟩]))))))
 (.seq (.region [⟨(some 24), none, .mov, [.tm 3]⟩,
  ⟨(some 2), none, .mov, [.tm 24]⟩])
 .ret))))) }
theorem v77_is : vfunc Try.prog Try.f77 = some v77 := by kernel_rfl
def v90 : VF := { ntmps := 14, res := [.tmp 4], body :=
 (.seq (.region [⟨(some 4), none, .mov, [.cn (.int .u32 0)]⟩])
 (.seq (.region [⟨(some 5), none, .mov, [.tm 0]⟩,
  ⟨(some 6), none, .mov, [.tm 1]⟩,
  ⟨(some 7), none, .quo, [.tm 6, .cn (.int .i64 32)]⟩,
  ⟨(some 8), none, (.idxAddr 1), [.tm 5, .tm 7]⟩,
  ⟨(some 9), none, (.load false 1), [.tm 8]⟩,
  ⟨(some 10), none, .mov, [.tm 1]⟩,
  ⟨(some 11), none, .rem, [.tm 10, .cn (.int .i64 32)]⟩,
  ⟨(some 12), none, .shr, [.tm 9, .tm 11]⟩,
  ⟨(some 13), none, (.bit .and), [.tm 12, .cn (.int .u32 1)]⟩,
  ⟨(some 4), none, .mov, [.tm 13]⟩])
 .ret)) }
theorem v90_is : vfunc Try.prog Try.f90 = some v90 := by kernel_rfl
def v94 : VF := { ntmps := 39, res := [.tmp 4], body :=
 (.seq (.region [⟨(some 4), none, .mov, [.cn .nil]⟩])
 (.seq (.region [⟨(some 7), none, .mov, [.tm 0]⟩,
  ⟨(some 8), none, .len, [.tm 7]⟩,
  ⟨(some 9), none, (.ari .add), [.tm 8, .cn (.int .i64 1)]⟩,
  ⟨(some 10), none, (.make 1 4 [(.int .u32 0)]), [.tm 9, .tm 9]⟩,
  ⟨(some 5), none, .mov, [.tm 10]⟩])
 (.seq (.seq (.region [⟨(some 6), none, .mov, [.cn (.int .i64 0)]⟩])
 (.block 0 (.loop (.seq (.seq (.region [⟨(some 11), none, .mov, [.tm 6]⟩,
  ⟨(some 12), none, .mov, [.tm 0]⟩,
  ⟨(some 13), none, .len, [.tm 12]⟩,
  ⟨(some 14), none, (.cmp .lss), [.tm 11, .tm 13]⟩])
 (.cond (.tm 14) .skip
  (.exit 0)))
 (.seq (.block 1 (.seq (.region [⟨(some 17), none, .mov, [.tm 5]⟩,
  ⟨(some 18), none, .mov, [.tm 6]⟩,
  ⟨(some 19), none, .mov, [.tm 0]⟩,
  ⟨(some 20), none, .mov, [.tm 6]⟩,
  ⟨(some 21), none, (.idxAddr 1), [.tm 19, .tm 20]⟩,
  ⟨(some 22), none, (.load false 1), [.tm 21]⟩,
  ⟨(some 23), none, .shl, [.tm 22, .cn (.int .u64 1)]⟩,
  ⟨(some 24), none, .mov, [.tm 1]⟩,
  ⟨(some 25), none, (.bit .or), [.tm 23, .tm 24]⟩,
  ⟨(some 26), none, (.idxAddr 1), [.tm 17, .tm 18]⟩,
  ⟨none, none, (.store 1), [.tm 26, .tm 25]⟩])
 (.region [⟨(some 27), none, .mov, [.tm 0]⟩,
  ⟨(some 28), none, .mov, [.tm 6]⟩,
  ⟨(some 29), none, (.idxAddr 1), [.tm 27, .tm 28]⟩,
  ⟨(some 30), none, (.load false 1), [.tm 29]⟩,
  ⟨(some 31), none, .shr, [.tm 30, .cn (.int .u64 31)]⟩,
  ⟨(some 1), none, .mov, [.tm 31]⟩])))
 (.region [⟨(some 15), none, .mov, [.tm 6]⟩,
  ⟨(some 16), none, (.ari .add), [.tm 15, .cn (.int .i64 1)]⟩,
  ⟨(some 6), none, .mov, [.tm 16]⟩]))))))
 (.seq (.region [⟨(some 32), none, .mov, [.tm 5]⟩,
  ⟨(some 33), none, .mov, [.tm 0]⟩,
  ⟨(some 34), none, .len, [.tm 33]⟩,
  ⟨(some 35), none, .mov, [.tm 1]⟩,
  ⟨(some 36), none, (.idxAddr 1), [.tm 32, .tm 34]⟩,
  ⟨none, none, (.store 1), [.tm 36, .tm 35]⟩])
 (.seq (.region [⟨(some 37), none, .mov, [.tm 5]⟩,
  ⟨(some 38), none, (.call 80), [.tm 37]⟩,
  ⟨(some 4), none, .mov, [.tm 38]⟩])
 .ret))))) }
theorem v94_is : vfunc Try.prog Try.f94 = some v94 := by kernel_rfl
def v87 : VF := { ntmps := 47, res := [.tmp 4, .tmp 5], body :=
 (.seq (.region [⟨(some 4), none, .mov, [.cn .nil]⟩,
  ⟨(some 5), none, .mov, [.cn .nil]⟩])
 (.seq (.region [⟨(some 9), none, .mov, [.tm 0]⟩,
  ⟨(some 10), none, .len, [.tm 9]⟩,
  ⟨(some 11), none, (.make 1 4 [(.int .u32 0)]), [.tm 10, .tm 10]⟩,
  ⟨(some 6), none, .mov, [.tm 11]⟩])
 (.seq (.region [⟨(some 7), none, .mov, [.cn .nil]⟩])
 (.seq (.seq (.region [⟨(some 12), none, .mov, [.tm 0]⟩,
  ⟨(some 13), none, (.call 77), [.tm 12]⟩,
  ⟨(some 14), none, (.ari .sub), [.tm 13, .cn (.int .i64 1)]⟩,
  ⟨(some 8), none, .mov, [.tm 14]⟩])
 (.block 0 (.loop (.seq (.seq (.region [⟨(some 15), none, .mov, [.tm 8]⟩,
  ⟨(some 16), none, (.cmp .geq), [.tm 15, .cn (.int .i64 0)]⟩])
 (.cond (.tm 16) .skip
  (.exit 0)))
 (.seq (.block 1 (.seq (.region [⟨(some 19), none, .mov, [.tm 7]⟩,
  ⟨(some 20), none, .mov, [.tm 0]⟩,
  ⟨(some 21), none, .mov, [.tm 8]⟩,
  ⟨(some 22), none, (.call 90), [.tm 20, .tm 21]⟩,
  ⟨(some 23), none, (.call 94), [.tm 19, .tm 22]⟩,
  ⟨(some 7), none, .mov, [.tm 23]⟩])
 (.seq (.region [⟨(some 24), none, .mov, [.tm 7]⟩,
  ⟨(some 25), none, .mov, [.tm 1]⟩,
  ⟨(some 26), none, (.call 58), [.tm 24, .tm 25]⟩,
  ⟨(some 27), none, (.cmp .geq), [.tm 26, .cn (.int .i64 0)]⟩])
 (.cond (.tm 27) (.seq (.region [⟨(some 28), none, .mov, [.tm 7]⟩,
  ⟨(some 29), none, .mov, [.tm 1]⟩,
  ⟨(some 30), none, (.call 95), [.tm 28, .tm 29]⟩,
  ⟨(some 7), none, .mov, [.tm 30]⟩])
 (.draw [] [⟨⟨(some 31), none, .mov, [.tm 6]⟩, []⟩,
  ⟨⟨(some 32), none, .mov, [.tm 8]⟩, []⟩,
  ⟨⟨(some 33), none, .quo, [.tm 32, .cn (.int .i64 32)]⟩, []⟩,
  ⟨⟨(some 34), none, .mov, [.tm 6]⟩, []⟩,
  ⟨⟨(some 35), none, .mov, [.tm 8]⟩, []⟩,
  ⟨⟨(some 36), none, .quo, [.tm 35, .cn (.int .i64 32)]⟩, []⟩,
  ⟨⟨(some 37), none, (.idxAddr 1), [.tm 34, .tm 36]⟩, []⟩,
  ⟨⟨(some 38), none, (.load false 1), [.tm 37]⟩, []⟩,
  ⟨⟨(some 39), none, .mov, [.tm 8]⟩, []⟩,
  ⟨⟨(some 40), none, .rem, [.tm 39, .cn (.int .i64 32)]⟩, []⟩,
  ⟨⟨(some 41), none, .shl, [.cn (.int .u32 1), .tm 40]⟩, []⟩,
  ⟨⟨(some 42), none, (.bit .or), [.tm 38, .tm 41]⟩, []⟩,
  ⟨⟨(some 43), none, (.idxAddr 1), [.tm 31, .tm 33]⟩, []⟩,
  ⟨⟨none, none, (.store 1), [.tm 43, .tm 42]⟩, []⟩]))
  .skip))))
 (.region [⟨(some 17), none, .mov, [.tm 8]⟩,
  ⟨(some 18), none, (.ari .sub), [.tm 17, .cn (.int .i64 1)]⟩,
  ⟨(some 8), none, .mov, [.tm 18]⟩]))))))
 (.seq (.region [⟨(some 44), none, .mov, [.tm 6]⟩,
  ⟨(some 45), none, (.call 80), [.tm 44]⟩,
  ⟨(some 46), none, .mov, [.tm 7]⟩,
  ⟨(some 4), none, .mov, [.tm 45]⟩,
  ⟨(some 5), none, .mov, [.tm 46]⟩])
 .ret))))) }
theorem v87_is : vfunc Try.prog Try.f87 = some v87 := by kernel_rfl


def sizeC : Ctr := { alias := false, of := fun l => match l with
  | [.vs _ _ n sz get] => .ex Nat fun a => .pre (padP a n sz get ∧ n = nl a) (.fin (.int .i64 (bitsN a)) [])
  | _ => noC }
def bitC : Ctr := { alias := false, of := fun l => match l with
  | [.vs _ _ n sz get, .int .i64 i] => .ex Nat fun a => .pre (padP a n sz get ∧ 0 ≤ i ∧ i < 32 * n) (.fin (.int .u32 (bitN a i.toNat)) [])
  | _ => noC }
def doubleC : Ctr := { alias := false, of := fun l => match l with
  | [.vs _ _ n sz get, .int .u32 x] => .ex Nat fun a => .pre (padP a n sz get ∧ 0 ≤ x ∧ x ≤ 1 ∧ n ≤ 99999) (.fin (natS false (2 * a + x.toNat)) [])
  | _ => noC }
def divideC : Ctr := { alias := false, of := fun l => match l with
  | [.vs _ _ n sz get, .vs _ _ m sz' get'] => .ex Nat fun a => .ex Nat fun b => .pre (padP a n sz get ∧ n = nl a ∧ padP b m sz' get' ∧ 0 < b ∧ m ≤ 9999 ∧ n ≤ 9999) (.all Bool fun z => .fin (.tup [natS false (a / b), natS z (a % b)]) [])
  | _ => noC }

theorem size_ok : sizeC.ok Try.prog 77 := by
  refine contract Try.func77 v77_is R1_ok 200 sizeC fun args k h => ?_
  simp only [sizeC] at h
  split at h
  · rename_i t1 z1 n sz get
    obtain ⟨a, ⟨⟨rfl, hn, ha, hg⟩, rfl⟩, h⟩ := h
    refine ⟨[.vs t1 z1 (nl a) 1 (fun k => [.int .u32 (dig a k)])], by simpa [leL, le] using hg, ?_⟩
    dsimp only [v77, r_end, r_end1, r_nil, r_op, r_opg, r_runOp, r_op0, r_yld0, r_yld1, r_y, r_rbeg, r_rend, r_rend1, r_rfrm, r_rfrm1, r_range, r_rangeK, r_rangeE, r_draw, r_dnil, r_dop, r_dopg, r_dplq, r_dplh, r_dq, r_dq0, r_dcl1, r_dcl0, r_dct1, r_dct0, r_dgd, r_dgq1, r_dgq0, r_dctG, r_op1, r_eff, r_eff0, r_call, r_call0, r_inl, r_g, r_gq, r_gc, r_effg, r_effg0, r_callg, r_callg0, r_fin, r_pre, r_imp, r_all, r_ex, r_fing, r_preg, r_exg, r_inBlock, r_inLoop, r_frame, r_frame1, r_skip, r_stuck, r_region, r_seq, r_cond, r_cond1, r_block, r_exit, r_exit1, r_exit2, r_ret, r_loop, s_args0, s_args1, s_xt, s_xc, padL, blankL, callee, callArgs, eff, ctOf, getL, setL, S.put, S.upd, unopts, unopt, unoptsO, unoptsB, lazyO, guardOf, gbool, eMov, eNot, eNeg, eConv, eExt, eLenArr, eLen, eLenStr, eEqb, eEqv, allEq, eNil, negIf, eBool2, eCmp, eAri, ari, eBit, eDiv, eSh, eMinMax, foldMin, foldMax, kEq, pure1, cmpB, VO.quiet, resVals, resVal, tupled, popRet, popTo, cond, Option.bind, Option.map, eNew, eBox, asCells, lenH, snocH, eFieldAddr, eField, eLoad, cellsAt, getH, setH, dropL, takeL, mkAgg, lenL, lenS, shift, shiftL, shiftH, viewN, viewL, view, andT, junks, List.append_nil, Nat.beq, eIdxAddr, eIdxArr, idxN_0, idxN_1, idxN_2, idxN_3, eIndex, eStore, storeAt, spliceL, ones, one, eSlice, eSliceArr, bounds, subLo_z, addLo_z, subLo_one, addLo_one, eMake, eAppend, readS, repL, buildCells, chunk, purgeL, purgeLL, purgeH, purge, refs, refsL, List.cons_append, List.nil_append, wrOps, wrAl, wrDops, wrC, junkAt, putAll, putHs, headOf, headK, keepG, List.append_eq, headX, chkP, apartP, apartB, blk, strip, runAl, AL.ho, yld, putPs, lenN, findR, notRound, jumpK, jumpPT, jcode, List.map_cons, List.map_nil, ite_self, reduceIte]
    simp only [true_and, and_true, imp_self, implies_true, decide_eq_true_eq, decide_eq_false_iff_not, Nat.reduceAdd, Nat.reduceLeDiff, Bool.not_not, reduceCtorEq, false_imp_iff, Bool.not_eq_true', Bool.not_eq_false', Bool.false_eq_true, and_self, forall_const, ne_eq, not_false_eq_true, Nat.reduceEqDiff]
    refine ⟨fun h0 => ans_int ?_, fun h0 => ?_⟩
    · have : a = 0 := nl_eq0.1 (by omega)
      subst this
      exact h
    · obtain ⟨m, hm⟩ : ∃ m, nl a = m + 1 := ⟨nl a - 1, by omega⟩
      have w1 : IntKind.i64.wrap ((nl a : Int) - 1) = (m : Int) := by rw [IntWalk.i64_in _ (by omega)]; omega
      rw [w1]
      simp only [Int.toNat_natCast]
      refine ⟨⟨by omega, by omega⟩, ?_⟩
      refine Loop.keep [3, 0] (Nat × Nat) (fun x => [(3, .int .i64 x.1), (4, .int .u32 x.2)]) (fun _ => []) [] (fun x => x.1 + bitsN x.2 = bitsN a ∧ x.2 < 4294967296) (fun x => bitsN x.2) ?_ ?_
      · refine ⟨(32 * m, dig a m), ⟨(bitsN_top hm).symm, dig_lt _ _⟩, ?_⟩
        dsimp only [r_end, r_end1, r_nil, r_op, r_opg, r_runOp, r_op0, r_yld0, r_yld1, r_y, r_rbeg, r_rend, r_rend1, r_rfrm, r_rfrm1, r_range, r_rangeK, r_rangeE, r_draw, r_dnil, r_dop, r_dopg, r_dplq, r_dplh, r_dq, r_dq0, r_dcl1, r_dcl0, r_dct1, r_dct0, r_dgd, r_dgq1, r_dgq0, r_dctG, r_op1, r_eff, r_eff0, r_call, r_call0, r_inl, r_g, r_gq, r_gc, r_effg, r_effg0, r_callg, r_callg0, r_fin, r_pre, r_imp, r_all, r_ex, r_fing, r_preg, r_exg, r_inBlock, r_inLoop, r_frame, r_frame1, r_skip, r_stuck, r_region, r_seq, r_cond, r_cond1, r_block, r_exit, r_exit1, r_exit2, r_ret, r_loop, s_args0, s_args1, s_xt, s_xc, padL, blankL, callee, callArgs, eff, ctOf, getL, setL, S.put, S.upd, unopts, unopt, unoptsO, unoptsB, lazyO, guardOf, gbool, eMov, eNot, eNeg, eConv, eExt, eLenArr, eLen, eLenStr, eEqb, eEqv, allEq, eNil, negIf, eBool2, eCmp, eAri, ari, eBit, eDiv, eSh, eMinMax, foldMin, foldMax, kEq, pure1, cmpB, VO.quiet, resVals, resVal, tupled, popRet, popTo, cond, Option.bind, Option.map, eNew, eBox, asCells, lenH, snocH, eFieldAddr, eField, eLoad, cellsAt, getH, setH, dropL, takeL, mkAgg, lenL, lenS, shift, shiftL, shiftH, viewN, viewL, view, andT, junks, List.append_nil, Nat.beq, eIdxAddr, eIdxArr, idxN_0, idxN_1, idxN_2, idxN_3, eIndex, eStore, storeAt, spliceL, ones, one, eSlice, eSliceArr, bounds, subLo_z, addLo_z, subLo_one, addLo_one, eMake, eAppend, readS, repL, buildCells, chunk, purgeL, purgeLL, purgeH, purge, refs, refsL, List.cons_append, List.nil_append, wrOps, wrAl, wrDops, wrC, junkAt, putAll, putHs, headOf, headK, keepG, List.append_eq, headX, chkP, apartP, apartB, blk, strip, runAl, AL.ho, yld, putPs, lenN, findR, notRound, jumpK, jumpPT, jcode, List.map_cons, List.map_nil, ite_self, reduceIte]
        simp only [leS_mk, leL_cons, leL_nil, le_junk, le_int, le_bool, le_nil, leLL_nil, leLL_cons, leH_cons, leH_nil, leH1_box, leH1_own, leH1_gone, le_vs, le_agg, le_tup, le_ptr, le_own, le_xp, le_fn, le_opt, le_val, le_elem, le_nil_own, le_nil_vs, leH_ghost, leL_chunk, leXL_id, bnd_int, bnd_bool, bnd_val, bnd_nil, bnd_junk, bnd_vs, bnd_xp, bnd_agg, bnd_tup, bnd_ptr, bnd_own, bnd_elem, bnd_fn, bnd_iface, bnd_opt, bndL_nil, bndL_cons, lenH_cons, lenH_nil, imp_self, implies_true, true_and, and_true]
        rw [IntWalk.i64_in _ (by omega)]
        simp
      · rintro ⟨c, t⟩ ⟨hc, ht⟩
        dsimp only at hc ht
        dsimp only [r_end, r_end1, r_nil, r_op, r_opg, r_runOp, r_op0, r_yld0, r_yld1, r_y, r_rbeg, r_rend, r_rend1, r_rfrm, r_rfrm1, r_range, r_rangeK, r_rangeE, r_draw, r_dnil, r_dop, r_dopg, r_dplq, r_dplh, r_dq, r_dq0, r_dcl1, r_dcl0, r_dct1, r_dct0, r_dgd, r_dgq1, r_dgq0, r_dctG, r_op1, r_eff, r_eff0, r_call, r_call0, r_inl, r_g, r_gq, r_gc, r_effg, r_effg0, r_callg, r_callg0, r_fin, r_pre, r_imp, r_all, r_ex, r_fing, r_preg, r_exg, r_inBlock, r_inLoop, r_frame, r_frame1, r_skip, r_stuck, r_region, r_seq, r_cond, r_cond1, r_block, r_exit, r_exit1, r_exit2, r_ret, r_loop, s_args0, s_args1, s_xt, s_xc, padL, blankL, callee, callArgs, eff, ctOf, getL, setL, S.put, S.upd, unopts, unopt, unoptsO, unoptsB, lazyO, guardOf, gbool, eMov, eNot, eNeg, eConv, eExt, eLenArr, eLen, eLenStr, eEqb, eEqv, allEq, eNil, negIf, eBool2, eCmp, eAri, ari, eBit, eDiv, eSh, eMinMax, foldMin, foldMax, kEq, pure1, cmpB, VO.quiet, resVals, resVal, tupled, popRet, popTo, cond, Option.bind, Option.map, eNew, eBox, asCells, lenH, snocH, eFieldAddr, eField, eLoad, cellsAt, getH, setH, dropL, takeL, mkAgg, lenL, lenS, shift, shiftL, shiftH, viewN, viewL, view, andT, junks, List.append_nil, Nat.beq, eIdxAddr, eIdxArr, idxN_0, idxN_1, idxN_2, idxN_3, eIndex, eStore, storeAt, spliceL, ones, one, eSlice, eSliceArr, bounds, subLo_z, addLo_z, subLo_one, addLo_one, eMake, eAppend, readS, repL, buildCells, chunk, purgeL, purgeLL, purgeH, purge, refs, refsL, List.cons_append, List.nil_append, wrOps, wrAl, wrDops, wrC, junkAt, putAll, putHs, headOf, headK, keepG, List.append_eq, headX, chkP, apartP, apartB, blk, strip, runAl, AL.ho, yld, putPs, lenN, findR, notRound, jumpK, jumpPT, jcode, List.map_cons, List.map_nil, ite_self, reduceIte]
        simp only [true_and, and_true, imp_self, implies_true, decide_eq_true_eq, decide_eq_false_iff_not, Nat.reduceAdd, Nat.reduceLeDiff, Bool.not_not, reduceCtorEq, false_imp_iff, Bool.not_eq_true', Bool.not_eq_false', Bool.false_eq_true, and_self, forall_const, ne_eq, not_false_eq_true, Nat.reduceEqDiff]
        have hbl : bitsN a ≤ 32 * 100000 := Nat.le_trans (bitsN_nl a) (by omega)
        refine ⟨fun hpos => ?_, fun hz => ans_int ?_⟩
        · have hh := bitsN_half (a := t) (by omega)
          refine ⟨by decide, (c + 1, t / 2), ⟨by simp only; omega, by simp only; omega⟩, by simp only; omega, ?_⟩
          have e2 : IntKind.u32.wrap ((t : Int).tdiv 2) = ((t / 2 : Nat) : Int) := by
            have : (t : Int).tdiv 2 = ((t / 2 : Nat) : Int) := IntWalk.up_tdiv (y := 2) rfl rfl
            rw [this]; exact u3_nat (by omega)
          rw [e2, IntWalk.i64_in _ (by omega)]
          simp only [leS_mk, leL_cons, leL_nil, le_junk, le_int, le_bool, le_nil, leLL_nil, leLL_cons, leH_cons, leH_nil, leH1_box, leH1_own, leH1_gone, le_vs, le_agg, le_tup, le_ptr, le_own, le_xp, le_fn, le_opt, le_val, le_elem, le_nil_own, le_nil_vs, leH_ghost, leL_chunk, leXL_id, bnd_int, bnd_bool, bnd_val, bnd_nil, bnd_junk, bnd_vs, bnd_xp, bnd_agg, bnd_tup, bnd_ptr, bnd_own, bnd_elem, bnd_fn, bnd_iface, bnd_opt, bndL_nil, bndL_cons, lenH_cons, lenH_nil, imp_self, implies_true, true_and, and_true]
          simp
        · obtain rfl : t = 0 := by omega
          rw [bitsN_0, Nat.add_zero] at hc
          rw [← hc] at h
          exact h
  · exact h.1.elim

theorem bit_ok : bitC.ok Try.prog 90 := by
  refine contract Try.func90 v90_is R1_ok 200 bitC fun args k h => ?_
  simp only [bitC] at h
  split at h
  · rename_i t1 z1 n sz get i
    obtain ⟨a, ⟨⟨rfl, hn, ha, hg⟩, h0, h1⟩, h⟩ := h
    obtain ⟨i, rfl⟩ := Int.eq_ofNat_of_zero_le h0
    refine ⟨[.vs t1 z1 n 1 (fun k => [.int .u32 (dig a k)]), .int .i64 i], ⟨by simpa [le] using hg, ⟨rfl, rfl⟩, trivial⟩, ?_⟩
    dsimp only [v90, bitI, r_end, r_end1, r_nil, r_op, r_opg, r_runOp, r_op0, r_yld0, r_yld1, r_y, r_rbeg, r_rend, r_rend1, r_rfrm, r_rfrm1, r_range, r_rangeK, r_rangeE, r_draw, r_dnil, r_dop, r_dopg, r_dplq, r_dplh, r_dq, r_dq0, r_dcl1, r_dcl0, r_dct1, r_dct0, r_dgd, r_dgq1, r_dgq0, r_dctG, r_op1, r_eff, r_eff0, r_call, r_call0, r_inl, r_g, r_gq, r_gc, r_effg, r_effg0, r_callg, r_callg0, r_fin, r_pre, r_imp, r_all, r_ex, r_fing, r_preg, r_exg, r_inBlock, r_inLoop, r_frame, r_frame1, r_skip, r_stuck, r_region, r_seq, r_cond, r_cond1, r_block, r_exit, r_exit1, r_exit2, r_ret, r_loop, s_args0, s_args1, s_xt, s_xc, padL, blankL, callee, callArgs, eff, ctOf, getL, setL, S.put, S.upd, unopts, unopt, unoptsO, unoptsB, lazyO, guardOf, gbool, eMov, eNot, eNeg, eConv, eExt, eLenArr, eLen, eLenStr, eEqb, eEqv, allEq, eNil, negIf, eBool2, eCmp, eAri, ari, eBit, eDiv, eSh, eMinMax, foldMin, foldMax, kEq, pure1, cmpB, VO.quiet, resVals, resVal, tupled, popRet, popTo, cond, Option.bind, Option.map, eNew, eBox, asCells, lenH, snocH, eFieldAddr, eField, eLoad, cellsAt, getH, setH, dropL, takeL, mkAgg, lenL, lenS, shift, shiftL, shiftH, viewN, viewL, view, andT, junks, List.append_nil, Nat.beq, eIdxAddr, eIdxArr, idxN_0, idxN_1, idxN_2, idxN_3, eIndex, eStore, storeAt, spliceL, ones, one, eSlice, eSliceArr, bounds, subLo_z, addLo_z, subLo_one, addLo_one, eMake, eAppend, readS, repL, buildCells, chunk, purgeL, purgeLL, purgeH, purge, refs, refsL, List.cons_append, List.nil_append, wrOps, wrAl, wrDops, wrC, junkAt, putAll, putHs, headOf, headK, keepG, List.append_eq, headX, chkP, apartP, apartB, blk, strip, runAl, AL.ho, yld, putPs, lenN, findR, notRound, jumpK, jumpPT, jcode, List.map_cons, List.map_nil, ite_self, reduceIte]
    simp only [true_and, and_true, imp_self, implies_true, decide_eq_true_eq, decide_eq_false_iff_not, Nat.reduceAdd, Nat.reduceLeDiff, Bool.not_not, reduceCtorEq, false_imp_iff, Bool.not_eq_true', Bool.not_eq_false', Bool.false_eq_true, and_self, forall_const, ne_eq, not_false_eq_true, Nat.reduceEqDiff]
    have e1 : IntKind.i64.wrap ((i : Int).tdiv 32) = ((i / 32 : Nat) : Int) := by
      have : (i : Int).tdiv 32 = ((i / 32 : Nat) : Int) := IntWalk.up_tdiv (y := 32) rfl rfl
      rw [this, IntWalk.i64_in _ (by omega)]
    have e2 : (i : Int).tmod 32 = ((i % 32 : Nat) : Int) := IntWalk.up_tmod (y := 32) rfl rfl
    rw [e1, e2]
    simp only [Int.toNat_natCast]
    refine ⟨by decide, ⟨by omega, by omega⟩, by decide, by omega, ans_int ?_⟩
    have e3 : ((dig a (i / 32) : Nat) : Int).fdiv (2 ^ min (i % 32) IntKind.u32.bits) = ((dig a (i / 32) / 2 ^ (i % 32) : Nat) : Int) := by
      have : min (i % 32) IntKind.u32.bits = i % 32 := by show min (i % 32) 32 = _; omega
      rw [this, Int.fdiv_eq_ediv_of_nonneg _ (Int.le_of_lt (Int.pow_pos (by decide)))]
      simp
    rw [e3]
    have := and_one (dig a (i / 32) / 2 ^ (i % 32))
    rw [show IntKind.u32.bits = 32 from rfl, this, ← bitN_dig]
    exact h
  · exact h.1.elim

theorem double_ok : doubleC.ok Try.prog 94 := by
  refine contract Try.func94 v94_is R1_ok 200 doubleC fun args k h => ?_
  simp only [doubleC] at h
  split at h
  · rename_i t1 z1 n sz get x
    obtain ⟨a, ⟨⟨rfl, hn, ha, hg⟩, h0, h1, hn9⟩, h⟩ := h
    obtain ⟨x, rfl⟩ := Int.eq_ofNat_of_zero_le h0
    have hx : x ≤ 1 := by omega
    refine ⟨[.vs t1 z1 n 1 (fun k => [.int .u32 (dig a k)]), .int .u32 x], ⟨by simpa [le] using hg, ⟨rfl, rfl⟩, trivial⟩, ?_⟩
    dsimp only [v94, r_end, r_end1, r_nil, r_op, r_opg, r_runOp, r_op0, r_yld0, r_yld1, r_y, r_rbeg, r_rend, r_rend1, r_rfrm, r_rfrm1, r_range, r_rangeK, r_rangeE, r_draw, r_dnil, r_dop, r_dopg, r_dplq, r_dplh, r_dq, r_dq0, r_dcl1, r_dcl0, r_dct1, r_dct0, r_dgd, r_dgq1, r_dgq0, r_dctG, r_op1, r_eff, r_eff0, r_call, r_call0, r_inl, r_g, r_gq, r_gc, r_effg, r_effg0, r_callg, r_callg0, r_fin, r_pre, r_imp, r_all, r_ex, r_fing, r_preg, r_exg, r_inBlock, r_inLoop, r_frame, r_frame1, r_skip, r_stuck, r_region, r_seq, r_cond, r_cond1, r_block, r_exit, r_exit1, r_exit2, r_ret, r_loop, s_args0, s_args1, s_xt, s_xc, padL, blankL, callee, callArgs, eff, ctOf, getL, setL, S.put, S.upd, unopts, unopt, unoptsO, unoptsB, lazyO, guardOf, gbool, eMov, eNot, eNeg, eConv, eExt, eLenArr, eLen, eLenStr, eEqb, eEqv, allEq, eNil, negIf, eBool2, eCmp, eAri, ari, eBit, eDiv, eSh, eMinMax, foldMin, foldMax, kEq, pure1, cmpB, VO.quiet, resVals, resVal, tupled, popRet, popTo, cond, Option.bind, Option.map, eNew, eBox, asCells, lenH, snocH, eFieldAddr, eField, eLoad, cellsAt, getH, setH, dropL, takeL, mkAgg, lenL, lenS, shift, shiftL, shiftH, viewN, viewL, view, andT, junks, List.append_nil, Nat.beq, eIdxAddr, eIdxArr, idxN_0, idxN_1, idxN_2, idxN_3, eIndex, eStore, storeAt, spliceL, ones, one, eSlice, eSliceArr, bounds, subLo_z, addLo_z, subLo_one, addLo_one, eMake, eAppend, readS, repL, buildCells, chunk, purgeL, purgeLL, purgeH, purge, refs, refsL, List.cons_append, List.nil_append, wrOps, wrAl, wrDops, wrC, junkAt, putAll, putHs, headOf, headK, keepG, List.append_eq, headX, chkP, apartP, apartB, blk, strip, runAl, AL.ho, yld, putPs, lenN, findR, notRound, jumpK, jumpPT, jcode, List.map_cons, List.map_nil, ite_self, reduceIte]
    simp only [true_and, and_true, imp_self, implies_true, decide_eq_true_eq, decide_eq_false_iff_not, Nat.reduceAdd, Nat.reduceLeDiff, Bool.not_not, reduceCtorEq, false_imp_iff, Bool.not_eq_true', Bool.not_eq_false', Bool.false_eq_true, and_self, forall_const, ne_eq, not_false_eq_true, Nat.reduceEqDiff]
    have en : IntKind.i64.wrap ((n : Int) + 1) = ((n + 1 : Nat) : Int) := by rw [IntWalk.i64_in _ (by omega)]; omega
    rw [en]
    simp only [Int.toNat_natCast]
    refine ⟨⟨by decide, by omega, by unfold capOk; omega⟩, ?_⟩
    refine Loop.keep [0, 4] Nat (fun i => [(1, .int .u32 (dcy a x i)), (6, .int .i64 i)]) (fun i => [(0, .own false 1 (n + 1) (fun k => [.int .u32 (dig ((2 * a + x) % 4294967296 ^ i) k)]))]) [] (fun i => i ≤ n) (fun i => n - i) ?_ ?_
    · refine ⟨0, by omega, ?_⟩
      dsimp only [r_end, r_end1, r_nil, r_op, r_opg, r_runOp, r_op0, r_yld0, r_yld1, r_y, r_rbeg, r_rend, r_rend1, r_rfrm, r_rfrm1, r_range, r_rangeK, r_rangeE, r_draw, r_dnil, r_dop, r_dopg, r_dplq, r_dplh, r_dq, r_dq0, r_dcl1, r_dcl0, r_dct1, r_dct0, r_dgd, r_dgq1, r_dgq0, r_dctG, r_op1, r_eff, r_eff0, r_call, r_call0, r_inl, r_g, r_gq, r_gc, r_effg, r_effg0, r_callg, r_callg0, r_fin, r_pre, r_imp, r_all, r_ex, r_fing, r_preg, r_exg, r_inBlock, r_inLoop, r_frame, r_frame1, r_skip, r_stuck, r_region, r_seq, r_cond, r_cond1, r_block, r_exit, r_exit1, r_exit2, r_ret, r_loop, s_args0, s_args1, s_xt, s_xc, padL, blankL, callee, callArgs, eff, ctOf, getL, setL, S.put, S.upd, unopts, unopt, unoptsO, unoptsB, lazyO, guardOf, gbool, eMov, eNot, eNeg, eConv, eExt, eLenArr, eLen, eLenStr, eEqb, eEqv, allEq, eNil, negIf, eBool2, eCmp, eAri, ari, eBit, eDiv, eSh, eMinMax, foldMin, foldMax, kEq, pure1, cmpB, VO.quiet, resVals, resVal, tupled, popRet, popTo, cond, Option.bind, Option.map, eNew, eBox, asCells, lenH, snocH, eFieldAddr, eField, eLoad, cellsAt, getH, setH, dropL, takeL, mkAgg, lenL, lenS, shift, shiftL, shiftH, viewN, viewL, view, andT, junks, List.append_nil, Nat.beq, eIdxAddr, eIdxArr, idxN_0, idxN_1, idxN_2, idxN_3, eIndex, eStore, storeAt, spliceL, ones, one, eSlice, eSliceArr, bounds, subLo_z, addLo_z, subLo_one, addLo_one, eMake, eAppend, readS, repL, buildCells, chunk, purgeL, purgeLL, purgeH, purge, refs, refsL, List.cons_append, List.nil_append, wrOps, wrAl, wrDops, wrC, junkAt, putAll, putHs, headOf, headK, keepG, List.append_eq, headX, chkP, apartP, apartB, blk, strip, runAl, AL.ho, yld, putPs, lenN, findR, notRound, jumpK, jumpPT, jcode, List.map_cons, List.map_nil, ite_self, reduceIte]
      simp only [leS_mk, leL_cons, leL_nil, le_junk, le_int, le_bool, le_nil, leLL_nil, leLL_cons, leH_cons, leH_nil, leH1_box, leH1_own, leH1_gone, le_vs, le_agg, le_tup, le_ptr, le_own, le_xp, le_fn, le_opt, le_val, le_elem, le_nil_own, le_nil_vs, leH_ghost, leL_chunk, leXL_id, bnd_int, bnd_bool, bnd_val, bnd_nil, bnd_junk, bnd_vs, bnd_xp, bnd_agg, bnd_tup, bnd_ptr, bnd_own, bnd_elem, bnd_fn, bnd_iface, bnd_opt, bndL_nil, bndL_cons, lenH_cons, lenH_nil, imp_self, implies_true, true_and, and_true]
      simp [Nat.mod_one, dig_zero, leL, le, dcy_0]
    · rintro i hi
      dsimp only [R1_ct80, trimC, natS, bitI, Int.toNat_natCast, r_end, r_end1, r_nil, r_op, r_opg, r_runOp, r_op0, r_yld0, r_yld1, r_y, r_rbeg, r_rend, r_rend1, r_rfrm, r_rfrm1, r_range, r_rangeK, r_rangeE, r_draw, r_dnil, r_dop, r_dopg, r_dplq, r_dplh, r_dq, r_dq0, r_dcl1, r_dcl0, r_dct1, r_dct0, r_dgd, r_dgq1, r_dgq0, r_dctG, r_op1, r_eff, r_eff0, r_call, r_call0, r_inl, r_g, r_gq, r_gc, r_effg, r_effg0, r_callg, r_callg0, r_fin, r_pre, r_imp, r_all, r_ex, r_fing, r_preg, r_exg, r_inBlock, r_inLoop, r_frame, r_frame1, r_skip, r_stuck, r_region, r_seq, r_cond, r_cond1, r_block, r_exit, r_exit1, r_exit2, r_ret, r_loop, s_args0, s_args1, s_xt, s_xc, padL, blankL, callee, callArgs, eff, ctOf, getL, setL, S.put, S.upd, unopts, unopt, unoptsO, unoptsB, lazyO, guardOf, gbool, eMov, eNot, eNeg, eConv, eExt, eLenArr, eLen, eLenStr, eEqb, eEqv, allEq, eNil, negIf, eBool2, eCmp, eAri, ari, eBit, eDiv, eSh, eMinMax, foldMin, foldMax, kEq, pure1, cmpB, VO.quiet, resVals, resVal, tupled, popRet, popTo, cond, Option.bind, Option.map, eNew, eBox, asCells, lenH, snocH, eFieldAddr, eField, eLoad, cellsAt, getH, setH, dropL, takeL, mkAgg, lenL, lenS, shift, shiftL, shiftH, viewN, viewL, view, andT, junks, List.append_nil, Nat.beq, eIdxAddr, eIdxArr, idxN_0, idxN_1, idxN_2, idxN_3, eIndex, eStore, storeAt, spliceL, ones, one, eSlice, eSliceArr, bounds, subLo_z, addLo_z, subLo_one, addLo_one, eMake, eAppend, readS, repL, buildCells, chunk, purgeL, purgeLL, purgeH, purge, refs, refsL, List.cons_append, List.nil_append, wrOps, wrAl, wrDops, wrC, junkAt, putAll, putHs, headOf, headK, keepG, List.append_eq, headX, chkP, apartP, apartB, blk, strip, runAl, AL.ho, yld, putPs, lenN, findR, notRound, jumpK, jumpPT, jcode, List.map_cons, List.map_nil, ite_self, reduceIte]
      simp only [true_and, and_true, imp_self, implies_true, decide_eq_true_eq, decide_eq_false_iff_not, Nat.reduceAdd, Nat.reduceLeDiff, Bool.not_not, reduceCtorEq, false_imp_iff, Bool.not_eq_true', Bool.not_eq_false', Bool.false_eq_true, and_self, forall_const, ne_eq, not_false_eq_true, Nat.reduceEqDiff]
      have hc := dcy_le (a := a) (i := i) hx
      have hdl := dig_lt a i
      have e1 := dbl_dig a x i
      have e2 := dbl_cy a x i
      refine ⟨fun hlt => ⟨⟨by omega, by omega⟩, by decide, ⟨by omega, by omega⟩, by omega, ⟨by omega, by omega⟩, by decide, i + 1, by omega, by omega, ?_⟩, fun hge => ?_⟩
      · have w1 := dbl_or hdl hc
        have w2 := @dbl_shr (dig a i)
        rw [show IntKind.u32.bits = 32 from rfl, w1, w2, e1, ← e2, IntWalk.i64_in ((i : Int) + 1) (by omega)]
        simp only [leS_mk, leL_cons, leL_nil, le_junk, le_int, le_bool, le_nil, leLL_nil, leLL_cons, leH_cons, leH_nil, leH1_box, leH1_own, leH1_gone, le_vs, le_agg, le_tup, le_ptr, le_own, le_xp, le_fn, le_opt, le_val, le_elem, le_nil_own, le_nil_vs, leH_ghost, leL_chunk, leXL_id, bnd_int, bnd_bool, bnd_val, bnd_nil, bnd_junk, bnd_vs, bnd_xp, bnd_agg, bnd_tup, bnd_ptr, bnd_own, bnd_elem, bnd_fn, bnd_iface, bnd_opt, bndL_nil, bndL_cons, lenH_cons, lenH_nil, imp_self, implies_true, true_and, and_true]
        refine ⟨⟨by omega, by simp⟩, fun j hj => ?_⟩
        rw [dig_mod_if, dig_mod_if]
        split
        · rename_i hji; subst hji; rw [if_pos (Nat.lt_succ_self _)]; simp only [leL, le, and_self]
        · split
          · rw [if_pos (by omega)]; simp only [leL, le, and_self]
          · rw [if_neg (by omega)]; simp only [leL, le, and_self]
      · obtain rfl : i = n := by omega
        have htop := (dcy_top (x := x) ha).resolve_right (by omega)
        refine ⟨by omega, by omega, 2 * a + x, ⟨rfl, by omega, by rw [pw_succ]; omega, fun j hj => ?_⟩, ans_natS (t := true) h⟩
        dsimp only
        rcases Nat.lt_or_ge j i with h' | h'
        · rw [if_neg (by omega), dig_mod h']; exact leXL_self _
        · obtain rfl : j = i := by omega
          rw [if_pos rfl, htop]; exact leXL_self _
  · exact h.1.elim
def R3 : Env := { ct := fun n => match n with | 80 => some trimC | 58 => some orderC | 95 => some minusC | 77 => some sizeC | 90 => some bitC | 94 => some doubleC | _ => none, fn := fun _ => none, meth := fun _ _ => none }
theorem R3_ct80 : R3.ct 80 = some trimC := rfl
theorem R3_ct58 : R3.ct 58 = some orderC := rfl
theorem R3_ct95 : R3.ct 95 = some minusC := rfl
theorem R3_ct77 : R3.ct 77 = some sizeC := rfl
theorem R3_ct90 : R3.ct 90 = some bitC := rfl
theorem R3_ct94 : R3.ct 94 = some doubleC := rfl
theorem R3_ok : EnvOk Try.prog R3 := by
  refine ⟨fun f c h => ?_, fun f vf h => ?_, fun _ _ => rfl, by kernel_rfl⟩
  · simp only [R3] at h
    split at h
    · cases h; exact ⟨trim_ok, Try.f80, Try.func80, by kernel_rfl, by kernel_rfl⟩
    · cases h; exact ⟨order_ok, Try.f58, Try.func58, by kernel_rfl, by kernel_rfl⟩
    · cases h; exact ⟨minus_ok, Try.f95, Try.func95, by kernel_rfl, by kernel_rfl⟩
    · cases h; exact ⟨size_ok, Try.f77, Try.func77, by kernel_rfl, by kernel_rfl⟩
    · cases h; exact ⟨bit_ok, Try.f90, Try.func90, by kernel_rfl, by kernel_rfl⟩
    · cases h; exact ⟨double_ok, Try.f94, Try.func94, by kernel_rfl, by kernel_rfl⟩
    · cases h
  · cases h


theorem divide_ok : divideC.ok Try.prog 87 := by
  refine contract Try.func87 v87_is R3_ok 300 divideC fun args k h => ?_
  simp only [divideC] at h
  split at h
  · rename_i t1 z1 n sz get t2 z2 m sz' get'
    obtain ⟨a, b, ⟨⟨rfl, hn, ha, hg⟩, rfl, ⟨rfl, hm, hb, hg'⟩, hb0, hm9, hn9⟩, h⟩ := h
    refine ⟨[.vs t1 z1 (nl a) 1 (fun k => [.int .u32 (dig a k)]), .vs t2 z2 m 1 (fun k => [.int .u32 (dig b k)])], ⟨by simpa [le] using hg, by simpa [le] using hg', trivial⟩, ?_⟩
    dsimp only [v87, R3_ct77, sizeC, r_end, r_end1, r_nil, r_op, r_opg, r_runOp, r_op0, r_yld0, r_yld1, r_y, r_rbeg, r_rend, r_rend1, r_rfrm, r_rfrm1, r_range, r_rangeK, r_rangeE, r_draw, r_dnil, r_dop, r_dopg, r_dplq, r_dplh, r_dq, r_dq0, r_dcl1, r_dcl0, r_dct1, r_dct0, r_dgd, r_dgq1, r_dgq0, r_dctG, r_op1, r_eff, r_eff0, r_call, r_call0, r_inl, r_g, r_gq, r_gc, r_effg, r_effg0, r_callg, r_callg0, r_fin, r_pre, r_imp, r_all, r_ex, r_fing, r_preg, r_exg, r_inBlock, r_inLoop, r_frame, r_frame1, r_skip, r_stuck, r_region, r_seq, r_cond, r_cond1, r_block, r_exit, r_exit1, r_exit2, r_ret, r_loop, s_args0, s_args1, s_xt, s_xc, padL, blankL, callee, callArgs, eff, ctOf, getL, setL, S.put, S.upd, unopts, unopt, unoptsO, unoptsB, lazyO, guardOf, gbool, eMov, eNot, eNeg, eConv, eExt, eLenArr, eLen, eLenStr, eEqb, eEqv, allEq, eNil, negIf, eBool2, eCmp, eAri, ari, eBit, eDiv, eSh, eMinMax, foldMin, foldMax, kEq, pure1, cmpB, VO.quiet, resVals, resVal, tupled, popRet, popTo, cond, Option.bind, Option.map, eNew, eBox, asCells, lenH, snocH, eFieldAddr, eField, eLoad, cellsAt, getH, setH, dropL, takeL, mkAgg, lenL, lenS, shift, shiftL, shiftH, viewN, viewL, view, andT, junks, List.append_nil, Nat.beq, eIdxAddr, eIdxArr, idxN_0, idxN_1, idxN_2, idxN_3, eIndex, eStore, storeAt, spliceL, ones, one, eSlice, eSliceArr, bounds, subLo_z, addLo_z, subLo_one, addLo_one, eMake, eAppend, readS, repL, buildCells, chunk, purgeL, purgeLL, purgeH, purge, refs, refsL, List.cons_append, List.nil_append, wrOps, wrAl, wrDops, wrC, junkAt, putAll, putHs, headOf, headK, keepG, List.append_eq, headX, chkP, apartP, apartB, blk, strip, runAl, AL.ho, yld, putPs, lenN, findR, notRound, jumpK, jumpPT, jcode, List.map_cons, List.map_nil, ite_self, reduceIte]
    simp only [true_and, and_true, imp_self, implies_true, decide_eq_true_eq, decide_eq_false_iff_not, Nat.reduceAdd, Nat.reduceLeDiff, Bool.not_not, reduceCtorEq, false_imp_iff, Bool.not_eq_true', Bool.not_eq_false', Bool.false_eq_true, and_self, forall_const, ne_eq, not_false_eq_true, Nat.reduceEqDiff]
    simp only [Int.toNat_natCast]
    have hbl := bitsN_nl a
    refine ⟨⟨by decide, by omega, by unfold capOk; omega⟩, a, ⟨padP_self hn ha, rfl⟩, ?_⟩
    refine Loop.keep [0, 0, 4] (Nat × Nat × Nat × Bool) (fun x => [(7, .vs true x.2.2.2 (nl x.2.2.1) 1 (fun k => [.int .u32 (dig x.2.2.1 k)])), (8, .int .i64 ((x.1 : Int) - 1))]) (fun x => [(0, .own false 1 (nl a) (fun k => [.int .u32 (dig x.2.1 k)]))]) [] (fun x => x.1 ≤ bitsN a ∧ a / 2 ^ x.1 = x.2.1 / 2 ^ x.1 * b + x.2.2.1 ∧ x.2.1 % 2 ^ x.1 = 0 ∧ x.2.2.1 < b) (fun x => x.1) ?_ ?_
    · refine ⟨(bitsN a, 0, 0, true), ⟨Nat.le_refl _, ?_, by simp, hb0⟩, ?_⟩
      · rw [Nat.div_eq_of_lt (bitsN_lt a)]; simp
      · dsimp only [r_end, r_end1, r_nil, r_op, r_opg, r_runOp, r_op0, r_yld0, r_yld1, r_y, r_rbeg, r_rend, r_rend1, r_rfrm, r_rfrm1, r_range, r_rangeK, r_rangeE, r_draw, r_dnil, r_dop, r_dopg, r_dplq, r_dplh, r_dq, r_dq0, r_dcl1, r_dcl0, r_dct1, r_dct0, r_dgd, r_dgq1, r_dgq0, r_dctG, r_op1, r_eff, r_eff0, r_call, r_call0, r_inl, r_g, r_gq, r_gc, r_effg, r_effg0, r_callg, r_callg0, r_fin, r_pre, r_imp, r_all, r_ex, r_fing, r_preg, r_exg, r_inBlock, r_inLoop, r_frame, r_frame1, r_skip, r_stuck, r_region, r_seq, r_cond, r_cond1, r_block, r_exit, r_exit1, r_exit2, r_ret, r_loop, s_args0, s_args1, s_xt, s_xc, padL, blankL, callee, callArgs, eff, ctOf, getL, setL, S.put, S.upd, unopts, unopt, unoptsO, unoptsB, lazyO, guardOf, gbool, eMov, eNot, eNeg, eConv, eExt, eLenArr, eLen, eLenStr, eEqb, eEqv, allEq, eNil, negIf, eBool2, eCmp, eAri, ari, eBit, eDiv, eSh, eMinMax, foldMin, foldMax, kEq, pure1, cmpB, VO.quiet, resVals, resVal, tupled, popRet, popTo, cond, Option.bind, Option.map, eNew, eBox, asCells, lenH, snocH, eFieldAddr, eField, eLoad, cellsAt, getH, setH, dropL, takeL, mkAgg, lenL, lenS, shift, shiftL, shiftH, viewN, viewL, view, andT, junks, List.append_nil, Nat.beq, eIdxAddr, eIdxArr, idxN_0, idxN_1, idxN_2, idxN_3, eIndex, eStore, storeAt, spliceL, ones, one, eSlice, eSliceArr, bounds, subLo_z, addLo_z, subLo_one, addLo_one, eMake, eAppend, readS, repL, buildCells, chunk, purgeL, purgeLL, purgeH, purge, refs, refsL, List.cons_append, List.nil_append, wrOps, wrAl, wrDops, wrC, junkAt, putAll, putHs, headOf, headK, keepG, List.append_eq, headX, chkP, apartP, apartB, blk, strip, runAl, AL.ho, yld, putPs, lenN, findR, notRound, jumpK, jumpPT, jcode, List.map_cons, List.map_nil, ite_self, reduceIte]
        simp only [leS_mk, leL_cons, leL_nil, le_junk, le_int, le_bool, le_nil, leLL_nil, leLL_cons, leH_cons, leH_nil, leH1_box, leH1_own, leH1_gone, le_vs, le_agg, le_tup, le_ptr, le_own, le_xp, le_fn, le_opt, le_val, le_elem, le_nil_own, le_nil_vs, leH_ghost, leL_chunk, leXL_id, bnd_int, bnd_bool, bnd_val, bnd_nil, bnd_junk, bnd_vs, bnd_xp, bnd_agg, bnd_tup, bnd_ptr, bnd_own, bnd_elem, bnd_fn, bnd_iface, bnd_opt, bndL_nil, bndL_cons, lenH_cons, lenH_nil, imp_self, implies_true, true_and, and_true]
        rw [IntWalk.i64_in _ (by omega)]
        simp [leL, le, nl_0, dig_zero]
    · rintro ⟨j, q, r, z⟩ ⟨hj, hq, hqm, hr⟩
      dsimp only at hj hq hqm hr
      dsimp only [R3_ct80, R3_ct58, R3_ct95, R3_ct90, R3_ct94, trimC, orderC, minusC, bitC, doubleC, natS, bitI, Int.toNat_natCast, r_end, r_end1, r_nil, r_op, r_opg, r_runOp, r_op0, r_yld0, r_yld1, r_y, r_rbeg, r_rend, r_rend1, r_rfrm, r_rfrm1, r_range, r_rangeK, r_rangeE, r_draw, r_dnil, r_dop, r_dopg, r_dplq, r_dplh, r_dq, r_dq0, r_dcl1, r_dcl0, r_dct1, r_dct0, r_dgd, r_dgq1, r_dgq0, r_dctG, r_op1, r_eff, r_eff0, r_call, r_call0, r_inl, r_g, r_gq, r_gc, r_effg, r_effg0, r_callg, r_callg0, r_fin, r_pre, r_imp, r_all, r_ex, r_fing, r_preg, r_exg, r_inBlock, r_inLoop, r_frame, r_frame1, r_skip, r_stuck, r_region, r_seq, r_cond, r_cond1, r_block, r_exit, r_exit1, r_exit2, r_ret, r_loop, s_args0, s_args1, s_xt, s_xc, padL, blankL, callee, callArgs, eff, ctOf, getL, setL, S.put, S.upd, unopts, unopt, unoptsO, unoptsB, lazyO, guardOf, gbool, eMov, eNot, eNeg, eConv, eExt, eLenArr, eLen, eLenStr, eEqb, eEqv, allEq, eNil, negIf, eBool2, eCmp, eAri, ari, eBit, eDiv, eSh, eMinMax, foldMin, foldMax, kEq, pure1, cmpB, VO.quiet, resVals, resVal, tupled, popRet, popTo, cond, Option.bind, Option.map, eNew, eBox, asCells, lenH, snocH, eFieldAddr, eField, eLoad, cellsAt, getH, setH, dropL, takeL, mkAgg, lenL, lenS, shift, shiftL, shiftH, viewN, viewL, view, andT, junks, List.append_nil, Nat.beq, eIdxAddr, eIdxArr, idxN_0, idxN_1, idxN_2, idxN_3, eIndex, eStore, storeAt, spliceL, ones, one, eSlice, eSliceArr, bounds, subLo_z, addLo_z, subLo_one, addLo_one, eMake, eAppend, readS, repL, buildCells, chunk, purgeL, purgeLL, purgeH, purge, refs, refsL, List.cons_append, List.nil_append, wrOps, wrAl, wrDops, wrC, junkAt, putAll, putHs, headOf, headK, keepG, List.append_eq, headX, chkP, apartP, apartB, blk, strip, runAl, AL.ho, yld, putPs, lenN, findR, notRound, jumpK, jumpPT, jcode, List.map_cons, List.map_nil, ite_self, reduceIte]
      simp only [true_and, and_true, imp_self, implies_true, decide_eq_true_eq, decide_eq_false_iff_not, Nat.reduceAdd, Nat.reduceLeDiff, Bool.not_not, reduceCtorEq, false_imp_iff, Bool.not_eq_true', Bool.not_eq_false', Bool.false_eq_true, and_self, forall_const, ne_eq, not_false_eq_true, Nat.reduceEqDiff]
      refine ⟨fun hlt => ?_, fun hge => ?_⟩
      · obtain ⟨i, rfl⟩ : ∃ i, j = i + 1 := ⟨j - 1, by omega⟩
        have e0 : ((i + 1 : Nat) : Int) - 1 = i := by omega
        have e1 : IntKind.i64.wrap ((i : Int).tdiv 32) = ((i / 32 : Nat) : Int) := by
          have : (i : Int).tdiv 32 = ((i / 32 : Nat) : Int) := IntWalk.up_tdiv (y := 32) rfl rfl
          rw [this, IntWalk.i64_in _ (by omega)]
        have e2 : (i : Int).tmod 32 = ((i % 32 : Nat) : Int) := IntWalk.up_tmod (y := 32) rfl rfl
        rw [e0, e1, e2]
        simp only [Int.toNat_natCast]
        have hbit := bitN_lt a i
        have hrn : nl r ≤ 9999 := Nat.le_trans (nl_mono (Nat.le_of_lt hr)) (Nat.le_trans (nl_le.2 hb) hm9)
        have hr2' : ∀ K, nl r ≤ K → nl (2 * r + bitN a i) ≤ K + 1 := fun K hK => by
          have h1 := nl_le.1 hK
          rw [nl_le, pw_succ]
          omega
        have hr2 : nl (2 * r + bitN a i) ≤ 10000 := hr2' 9999 hrn
        refine ⟨a, ⟨padP_self hn ha, by omega, by omega⟩, r, ⟨padP_nl (by omega), by omega, by omega, by omega⟩, 2 * r + bitN a i, b, ⟨padP_nl (by omega), padP_self hm hb⟩, fun hc => ?_, fun hc => ?_⟩
        · have hbr : b ≤ 2 * r + bitN a i := by
            unfold ordN at hc
            split at hc
            · omega
            · omega
          obtain ⟨s1, s2, s3⟩ := setbit hqm
          obtain ⟨d1, d2⟩ := div_step1 hq hqm hbr
          have hi32 : i / 32 < nl a := by omega
          have hm32 : i % 32 < 32 := Nat.mod_lt _ (by decide)
          refine ⟨_, _, ⟨padP_nl (by omega), padP_self hm hb, hbr⟩, by decide, by decide, ⟨by omega, by omega⟩, hi32, by decide, by omega, ⟨by omega, by omega⟩, hi32, (i, q + 2 ^ i, 2 * r + bitN a i - b, false), ⟨by simp only; omega, d1, d2, by simp only; omega⟩, by simp only; omega, ?_⟩
          have w : IntKind.u32.wrap (1 * 2 ^ min (i % 32) IntKind.u32.bits) = ((2 ^ (i % 32) : Nat) : Int) := by
            have e4 : min (i % 32) IntKind.u32.bits = i % 32 := by show min (i % 32) 32 = _; omega
            have e5 : (1 : Int) * 2 ^ (i % 32) = ((2 ^ (i % 32) : Nat) : Int) := by simp
            rw [e4, e5]
            exact u3_nat (Nat.pow_lt_pow_right (by decide) hm32)
          rw [w, show IntKind.u32.bits = 32 from rfl, or_nat (dig_lt _ _) (Nat.pow_lt_pow_right (by decide) hm32), or_add s1, IntWalk.i64_in ((i : Int) - 1) (by omega)]
          simp only [leS_mk, leL_cons, leL_nil, le_junk, le_int, le_bool, le_nil, leLL_nil, leLL_cons, leH_cons, leH_nil, leH1_box, leH1_own, leH1_gone, le_vs, le_agg, le_tup, le_ptr, le_own, le_xp, le_fn, le_opt, le_val, le_elem, le_nil_own, le_nil_vs, leH_ghost, leL_chunk, leXL_id, bnd_int, bnd_bool, bnd_val, bnd_nil, bnd_junk, bnd_vs, bnd_xp, bnd_agg, bnd_tup, bnd_ptr, bnd_own, bnd_elem, bnd_fn, bnd_iface, bnd_opt, bndL_nil, bndL_cons, lenH_cons, lenH_nil, imp_self, implies_true, true_and, and_true]
          refine ⟨by decide, fun k hk => ?_⟩
          rw [← s2, dig_setD s3]
          split <;> simp only [leL, le, and_self]
        · have hbr : 2 * r + bitN a i < b := by
            unfold ordN at hc
            split at hc
            · omega
            · split at hc <;> omega
          refine ⟨(i, q, 2 * r + bitN a i, false), ⟨by simp only; omega, div_step0 hq hqm, (mod_half hqm).1, hbr⟩, by simp only; omega, ?_⟩
          rw [IntWalk.i64_in ((i : Int) - 1) (by omega)]
          simp only [leS_mk, leL_cons, leL_nil, le_junk, le_int, le_bool, le_nil, leLL_nil, leLL_cons, leH_cons, leH_nil, leH1_box, leH1_own, leH1_gone, le_vs, le_agg, le_tup, le_ptr, le_own, le_xp, le_fn, le_opt, le_val, le_elem, le_nil_own, le_nil_vs, leH_ghost, leL_chunk, leXL_id, bnd_int, bnd_bool, bnd_val, bnd_nil, bnd_junk, bnd_vs, bnd_xp, bnd_agg, bnd_tup, bnd_ptr, bnd_own, bnd_elem, bnd_fn, bnd_iface, bnd_opt, bndL_nil, bndL_cons, lenH_cons, lenH_nil, imp_self, implies_true, true_and, and_true]
          decide
      · obtain rfl : j = 0 := by omega
        obtain ⟨rfl, rfl⟩ := div_end hq hr
        refine ⟨a / b, padP_self hn (Nat.lt_of_le_of_lt (Nat.div_le_self _ _) ha), ?_⟩
        exact ans_le (show k _ [] from h z) (le_self _ ⟨trivial, trivial, trivial⟩) (fun _ => by simp [natS, freshS, freshL])
  · exact h.1.elim
end Go.Proofs.Ytdognchniaojoaa

/- Fractions, in plain Lean: a pair (n, d), d above 0, told by its lowest terms. -/
set_option linter.all false
namespace Go.Proofs.Ytdognchniaojoaa
open Go Go.Vx

def fg (n : Int) (d : Nat) : Nat := Nat.gcd n.natAbs d
def rnum (n : Int) (d : Nat) : Nat := n.natAbs / fg n d
def rden (n : Int) (d : Nat) : Nat := d / fg n d
def nsg (neg : Bool) (a : Nat) : Int := if neg then -(a : Int) else a

theorem fg_pos {n : Int} {d : Nat} (hd : 0 < d) : 0 < fg n d := Nat.gcd_pos_of_pos_right _ hd
theorem rnum_mul (n : Int) (d : Nat) : rnum n d * fg n d = n.natAbs := Nat.div_mul_cancel (Nat.gcd_dvd_left _ _)
theorem rden_mul (n : Int) (d : Nat) : rden n d * fg n d = d := Nat.div_mul_cancel (Nat.gcd_dvd_right _ _)
theorem rden_pos {n : Int} {d : Nat} (hd : 0 < d) : 0 < rden n d := by
  have := rden_mul n d
  rcases Nat.eq_zero_or_pos (rden n d) with h | h
  · rw [h] at this; omega
  · exact h
theorem rnum_le (n : Int) (d : Nat) : rnum n d ≤ n.natAbs := Nat.div_le_self _ _
theorem rden_le (n : Int) (d : Nat) : rden n d ≤ d := Nat.div_le_self _ _
theorem r_coprime {n : Int} {d : Nat} (hd : 0 < d) : Nat.gcd (rnum n d) (rden n d) = 1 := by
  unfold rnum rden
  exact Nat.gcd_div_gcd_div_gcd_of_pos_right hd
theorem rnum_0 {n : Int} {d : Nat} (hd : 0 < d) : rnum n d = 0 ↔ n = 0 := by
  have := rnum_mul n d
  constructor
  · intro h; rw [h] at this; omega
  · rintro rfl; simp [rnum]
theorem rden_0 {d : Nat} (hd : 0 < d) : rden 0 d = 1 := by simp [rden, fg, Nat.div_self hd]
theorem n_eq (n : Int) (d : Nat) : n = nsg (decide (n < 0)) (rnum n d) * (fg n d : Int) := by
  have h := rnum_mul n d
  unfold nsg
  have h2 : ((rnum n d : Nat) : Int) * (fg n d : Int) = (n.natAbs : Int) := by exact_mod_cast h
  by_cases hn : n < 0
  · simp only [hn, decide_true, if_true]
    rw [Int.neg_mul, h2]; omega
  · simp only [hn, decide_false, Bool.false_eq_true, if_false]
    rw [h2]; omega
theorem d_eq (n : Int) (d : Nat) : (d : Int) = (rden n d : Int) * (fg n d : Int) := by exact_mod_cast (rden_mul n d).symm

/-- A fraction's terms do not tell by what it was widened. -/
theorem r_scale {n : Int} {d k : Nat} (hk : 0 < k) : rnum (n * k) (d * k) = rnum n d ∧ rden (n * k) (d * k) = rden n d ∧ (decide (n * (k : Int) < 0)) = decide (n < 0) := by
  have e : (n * (k : Int)).natAbs = n.natAbs * k := by rw [Int.natAbs_mul]; simp
  have g : fg (n * k) (d * k) = fg n d * k := by unfold fg; rw [e, Nat.gcd_mul_right]
  refine ⟨?_, ?_, ?_⟩
  · unfold rnum; rw [e, g, Nat.mul_div_mul_right _ _ hk]
  · unfold rden; rw [g, Nat.mul_div_mul_right _ _ hk]
  · congr 1
    apply propext
    constructor
    · intro h
      rcases Int.lt_or_le n 0 with h' | h'
      · exact h'
      · have := Int.mul_nonneg h' (Int.natCast_nonneg k); omega
    · intro h
      exact Int.mul_neg_of_neg_of_pos h (by omega)
theorem nsg_abs (neg : Bool) (a : Nat) : (nsg neg a).natAbs = a := by
  unfold nsg; split <;> omega
theorem nsg_neg (neg : Bool) (a : Nat) : decide (nsg neg a < 0) = (neg && decide (0 < a)) := by
  unfold nsg
  cases neg <;> simp <;> omega
theorem nsg_self (n : Int) : nsg (decide (n < 0)) n.natAbs = n := by
  unfold nsg
  by_cases h : n < 0
  · simp [h]; omega
  · simp [h]; omega

/-! ### Operations -/

theorem q_mul {n1 n2 : Int} {d1 d2 : Nat} (h1 : 0 < d1) (h2 : 0 < d2) {m : Int} (hm : m = nsg (!(decide (n1 < 0) == decide (n2 < 0))) (rnum n1 d1 * rnum n2 d2)) :
    rnum m (rden n1 d1 * rden n2 d2) = rnum (n1 * n2) (d1 * d2) ∧ rden m (rden n1 d1 * rden n2 d2) = rden (n1 * n2) (d1 * d2) ∧ decide (m < 0) = decide (n1 * n2 < 0) := by
  have hk : 0 < fg n1 d1 * fg n2 d2 := Nat.mul_pos (fg_pos h1) (fg_pos h2)
  have en : n1 * n2 = m * ((fg n1 d1 * fg n2 d2 : Nat) : Int) := by
    have a1 := n_eq n1 d1
    have a2 := n_eq n2 d2
    rw [hm]
    conv => lhs; rw [a1, a2]
    generalize rnum n1 d1 = x
    generalize rnum n2 d2 = y
    generalize fg n1 d1 = g
    generalize fg n2 d2 = h
    unfold nsg
    cases decide (n1 < 0) <;> cases decide (n2 < 0) <;> simp <;> grind
  have ed : d1 * d2 = rden n1 d1 * rden n2 d2 * (fg n1 d1 * fg n2 d2) := by
    have a1 := rden_mul n1 d1
    have a2 := rden_mul n2 d2
    conv => lhs; rw [← a1, ← a2]
    grind
  have := @r_scale m (rden n1 d1 * rden n2 d2) _ hk
  rw [← en, ← ed] at this
  exact ⟨this.1.symm, this.2.1.symm, this.2.2.symm⟩

theorem q_div {n1 n2 : Int} {d1 d2 : Nat} (h1 : 0 < d1) (h2 : 0 < d2) (hn : n2 ≠ 0) {m : Int} (hm : m = nsg (!(decide (n1 < 0) == decide (n2 < 0))) (rnum n1 d1 * rden n2 d2)) :
    rnum m (rden n1 d1 * rnum n2 d2) = rnum (nsg (decide (n2 < 0)) 1 * n1 * d2) (d1 * n2.natAbs) ∧ rden m (rden n1 d1 * rnum n2 d2) = rden (nsg (decide (n2 < 0)) 1 * n1 * d2) (d1 * n2.natAbs) ∧ decide (m < 0) = decide (nsg (decide (n2 < 0)) 1 * n1 * d2 < 0) := by
  have hk : 0 < fg n1 d1 * fg n2 d2 := Nat.mul_pos (fg_pos h1) (fg_pos h2)
  have en : nsg (decide (n2 < 0)) 1 * n1 * d2 = m * ((fg n1 d1 * fg n2 d2 : Nat) : Int) := by
    have a1 := n_eq n1 d1
    have a2 := d_eq n2 d2
    rw [hm, a2]
    conv => lhs; rw [a1]
    generalize rnum n1 d1 = x
    generalize rden n2 d2 = y
    generalize fg n1 d1 = g
    generalize fg n2 d2 = h
    unfold nsg
    cases decide (n1 < 0) <;> cases decide (n2 < 0) <;> simp <;> grind
  have ed : d1 * n2.natAbs = rden n1 d1 * rnum n2 d2 * (fg n1 d1 * fg n2 d2) := by
    have a1 := rden_mul n1 d1
    have a2 := rnum_mul n2 d2
    rw [← a2]
    conv => lhs; rw [← a1]
    grind
  have := @r_scale m (rden n1 d1 * rnum n2 d2) _ hk
  rw [← en, ← ed] at this
  exact ⟨this.1.symm, this.2.1.symm, this.2.2.symm⟩

/-- The sum of two signed numbers, as it is computed. -/
def addM (s t : Bool) (x y : Nat) : Int := if s = t then nsg s (x + y) else if y ≤ x then nsg s (x - y) else nsg t (y - x)
theorem addM_eq (s t : Bool) (x y : Nat) : addM s t x y = nsg s x + nsg t y := by
  unfold addM nsg
  cases s <;> cases t <;> simp <;> (try split) <;> omega

theorem q_add {n1 n2 : Int} {d1 d2 : Nat} (h1 : 0 < d1) (h2 : 0 < d2) {m : Int} (hm : m = addM (decide (n1 < 0)) (decide (n2 < 0)) (rnum n1 d1 * rden n2 d2) (rnum n2 d2 * rden n1 d1)) :
    rnum m (rden n1 d1 * rden n2 d2) = rnum (n1 * d2 + n2 * d1) (d1 * d2) ∧ rden m (rden n1 d1 * rden n2 d2) = rden (n1 * d2 + n2 * d1) (d1 * d2) ∧ decide (m < 0) = decide (n1 * d2 + n2 * d1 < 0) := by
  have hk : 0 < fg n1 d1 * fg n2 d2 := Nat.mul_pos (fg_pos h1) (fg_pos h2)
  have en : n1 * d2 + n2 * d1 = m * ((fg n1 d1 * fg n2 d2 : Nat) : Int) := by
    have a1 := n_eq n1 d1
    have a2 := n_eq n2 d2
    have a3 := d_eq n1 d1
    have a4 := d_eq n2 d2
    rw [hm, addM_eq]
    suffices key : ∀ N1 N2 D1 D2 : Int, N1 = nsg (decide (n1 < 0)) (rnum n1 d1) * (fg n1 d1 : Int) → N2 = nsg (decide (n2 < 0)) (rnum n2 d2) * (fg n2 d2 : Int) → D1 = (rden n1 d1 : Int) * (fg n1 d1 : Int) → D2 = (rden n2 d2 : Int) * (fg n2 d2 : Int) →
        N1 * D2 + N2 * D1 = (nsg (decide (n1 < 0)) (rnum n1 d1 * rden n2 d2) + nsg (decide (n2 < 0)) (rnum n2 d2 * rden n1 d1)) * ((fg n1 d1 * fg n2 d2 : Nat) : Int) from key _ _ _ _ a1 a2 a3 a4
    clear a1 a2 a3 a4 hm hk
    rintro _ _ _ _ rfl rfl rfl rfl
    generalize rnum n1 d1 = x
    generalize rnum n2 d2 = y
    generalize rden n1 d1 = z
    generalize rden n2 d2 = w
    generalize fg n1 d1 = g
    generalize fg n2 d2 = h
    unfold nsg
    cases decide (n1 < 0) <;> cases decide (n2 < 0) <;> simp <;> grind
  have ed : d1 * d2 = rden n1 d1 * rden n2 d2 * (fg n1 d1 * fg n2 d2) := by
    have a1 := rden_mul n1 d1
    have a2 := rden_mul n2 d2
    conv => lhs; rw [← a1, ← a2]
    grind
  have := @r_scale m (rden n1 d1 * rden n2 d2) _ hk
  rw [← en, ← ed] at this
  exact ⟨this.1.symm, this.2.1.symm, this.2.2.symm⟩

/-- Comparison. -/
def cmpI (x y : Int) : Int := if x < y then -1 else if y < x then 1 else 0
def cmpQ (n1 : Int) (d1 : Nat) (n2 : Int) (d2 : Nat) : Int := cmpI (n1 * d2) (n2 * d1)
theorem mul_lt_iff {x y : Int} {k : Nat} (hk : 0 < k) : x * (k : Int) < y * (k : Int) ↔ x < y := by
  constructor
  · intro h
    rcases Int.lt_or_le x y with h' | h'
    · exact h'
    · have := Int.mul_le_mul_of_nonneg_right h' (Int.natCast_nonneg k); omega
  · intro h; exact Int.mul_lt_mul_of_pos_right h (by omega)
theorem q_cmp {n1 n2 : Int} {d1 d2 : Nat} (h1 : 0 < d1) (h2 : 0 < d2) : cmpQ n1 d1 n2 d2 = if n1 < 0 ∧ n2 < 0 then -(ordN (rnum n1 d1 * rden n2 d2) (rnum n2 d2 * rden n1 d1)) else if n1 < 0 then -1 else if n2 < 0 then 1 else ordN (rnum n1 d1 * rden n2 d2) (rnum n2 d2 * rden n1 d1) := by
  have hk : 0 < fg n1 d1 * fg n2 d2 := Nat.mul_pos (fg_pos h1) (fg_pos h2)
  have e1 : n1 * d2 = nsg (decide (n1 < 0)) (rnum n1 d1 * rden n2 d2) * ((fg n1 d1 * fg n2 d2 : Nat) : Int) := by
    have a1 := n_eq n1 d1
    have a4 := d_eq n2 d2
    rw [a4]
    conv => lhs; rw [a1]
    unfold nsg
    cases decide (n1 < 0) <;> simp <;> grind
  have e2 : n2 * d1 = nsg (decide (n2 < 0)) (rnum n2 d2 * rden n1 d1) * ((fg n1 d1 * fg n2 d2 : Nat) : Int) := by
    have a1 := n_eq n2 d2
    have a4 := d_eq n1 d1
    rw [a4]
    conv => lhs; rw [a1]
    unfold nsg
    cases decide (n2 < 0) <;> simp <;> grind
  have p1 : n1 < 0 → 0 < rnum n1 d1 * rden n2 d2 := fun h => Nat.mul_pos (Nat.pos_of_ne_zero fun h0 => by have := (rnum_0 h1).1 h0; omega) (rden_pos h2)
  have p2 : n2 < 0 → 0 < rnum n2 d2 * rden n1 d1 := fun h => Nat.mul_pos (Nat.pos_of_ne_zero fun h0 => by have := (rnum_0 h2).1 h0; omega) (rden_pos h1)
  unfold cmpQ cmpI
  rw [e1, e2]
  simp only [mul_lt_iff hk]
  generalize rnum n1 d1 * rden n2 d2 = x at *
  generalize rnum n2 d2 * rden n1 d1 = y at *
  unfold nsg ordN
  by_cases g1 : n1 < 0 <;> by_cases g2 : n2 < 0 <;> simp only [g1, g2, decide_true, decide_false, if_true, if_false, and_self, and_true, and_false, Bool.false_eq_true]
  · have := p1 g1; have := p2 g2
    repeat' split
    all_goals omega
  · have := p1 g1
    repeat' split
    all_goals omega
  · have := p2 g2
    repeat' split
    all_goals omega
  · repeat' split
    all_goals omega

/-- The whole number below a fraction, as it is computed. -/
def floorN (neg : Bool) (a b : Nat) : Nat := if neg && decide (a % b ≠ 0) then a / b + 1 else a / b
theorem q_floor {n : Int} {d : Nat} (hd : 0 < d) : n / (d : Int) = nsg (decide (n < 0)) (floorN (decide (n < 0)) (rnum n d) (rden n d)) := by
  have hg : 0 < fg n d := fg_pos hd
  have e : n / (d : Int) = nsg (decide (n < 0)) (rnum n d) / (rden n d : Int) := by
    have a1 := n_eq n d
    have a2 := d_eq n d
    suffices key : ∀ N D : Int, N = nsg (decide (n < 0)) (rnum n d) * (fg n d : Int) → D = (rden n d : Int) * (fg n d : Int) → N / D = nsg (decide (n < 0)) (rnum n d) / (rden n d : Int) from key _ _ a1 a2
    rintro _ _ rfl rfl
    exact Int.mul_ediv_mul_of_pos_left _ _ (show (0 : Int) < (fg n d : Int) by omega)
  rw [e]
  have hp := rden_pos (n := n) hd
  generalize rnum n d = a
  generalize rden n d = b at *
  have h1 := Nat.div_add_mod a b
  have h2 := Nat.mod_lt a hp
  unfold nsg floorN
  by_cases hn : n < 0
  · simp only [hn, decide_true, if_true, Bool.true_and, decide_eq_true_eq]
    by_cases h0 : a % b = 0
    · rw [if_neg (by omega)]
      have : (a : Int) = (a / b : Nat) * (b : Int) := by
        have : a = a / b * b := by rw [Nat.mul_comm]; omega
        exact_mod_cast this
      conv => lhs; rw [this, ← Int.neg_mul]
      rw [Int.mul_ediv_cancel _ (by omega)]
    · rw [if_pos (by omega)]
      apply Int.le_antisymm
      · apply Int.le_of_lt_add_one
        rw [Int.ediv_lt_iff_lt_mul (by omega)]
        have : (a : Int) = (b : Int) * (a / b : Nat) + (a % b : Nat) := by exact_mod_cast h1.symm
        rw [this]
        have hm : ((a % b : Nat) : Int) > 0 := by omega
        generalize (a % b) = m at *
        generalize (a / b) = q at *
        push_cast
        grind
      · rw [Int.le_ediv_iff_mul_le (by omega)]
        have : (a : Int) = (b : Int) * (a / b : Nat) + (a % b : Nat) := by exact_mod_cast h1.symm
        rw [this]
        have hm : ((a % b : Nat) : Int) < b := by omega
        generalize (a % b) = m at *
        generalize (a / b) = q at *
        push_cast
        grind
  · simp only [hn, decide_false, Bool.false_and, Bool.false_eq_true, if_false]
    exact_mod_cast rfl
end Go.Proofs.Ytdognchniaojoaa

