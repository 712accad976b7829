/- The operations that make memory or write to memory of the call's own. -/
import Derived.Test.YtdognchniaojoaaVx3
set_option linter.all false
namespace Go.Vx
open Go.RowKit

def updH (hp : List HO) : Upd → List HO
  | .no => hp
  | .new ho => snocH hp ho
  | .set i ho => setH hp i ho
  | .app i ho => setH (purgeH i hp) i ho

def updE : Upd → Option Nat
  | .app i _ => some i
  | _ => none

section
variable {P : Program} {ρ : Operand → Value} {w w' : World} {bs bs' : List BK} {B : Nat} {hp : List HO}

/-- An operation's outcome. -/
def MOk (P : Program) (ρ : Operand → Value) (op : Op) (w : World) (bs : List BK) (B : Nat) (hp : List HO) (e : Ef) : Prop :=
  ∃ r v w' bs', (∀ dst type pos after guard, (execOp ρ ⟨dst, op, type, pos, after, guard⟩).run P w = .ok r w') ∧ (r = .value v ∨ (r = .skip ∧ v = undef)) ∧
    Rep w' bs' B e.val v ∧ Hp w' bs' B (updH hp e.upd) ∧ Keeps w bs w' bs' ∧ Stays (updE e.upd) bs bs' ∧ Below B w w'

theorem Keeps.refl : Keeps w bs w bs := fun _ hf _ h => ⟨h, hf⟩
theorem Stays.refl {e : Option Nat} : Stays e bs bs := fun _ _ _ h _ => h

theorem QOk.mok {op : Op} {e : Ef} (h : QOk P ρ op w bs B e) (hH : Hp w bs B hp) : MOk P ρ op w bs B hp e := by
  obtain ⟨hu, v, hrun, hr⟩ := h
  exact ⟨.value v, v, w, bs, hrun, .inl rfl, hr, by rw [hu]; exact hH, Keeps.refl, Stays.refl, Below.refl _ _⟩

/-! ### Lists of blocks -/

theorem lenH_snoc : ∀ (hp : List HO) (x : HO), lenH (snocH hp x) = lenH hp + 1
  | [], _ => rfl
  | _ :: l, x => by simp [snocH, lenH, lenH_snoc l x]
theorem getH_snoc_lt : ∀ (hp : List HO) (x : HO) (i : Nat), i < lenH hp → getH (snocH hp x) i = getH hp i
  | [], _, _, h => by simp [lenH] at h
  | _ :: _, _, 0, _ => rfl
  | _ :: l, x, i + 1, h => by simpa [snocH, getH] using getH_snoc_lt l x i (by simpa [lenH] using h)
theorem getH_snoc_eq : ∀ (hp : List HO) (x : HO), getH (snocH hp x) (lenH hp) = x
  | [], _ => rfl
  | _ :: l, x => by simpa [snocH, lenH, getH] using getH_snoc_eq l x
theorem getH_ge : ∀ (hp : List HO) (i : Nat), lenH hp ≤ i → getH hp i = .gone
  | [], i, _ => by cases i <;> rfl
  | _ :: l, 0, h => by simp [lenH] at h
  | _ :: l, i + 1, h => by simpa [getH] using getH_ge l i (by simpa [lenH] using h)
theorem lenH_set : ∀ (hp : List HO) (i : Nat) (x : HO), lenH (setH hp i x) = lenH hp
  | [], i, _ => by cases i <;> rfl
  | _ :: _, 0, _ => rfl
  | _ :: l, i + 1, x => by simp [setH, lenH, lenH_set l i x]
theorem getH_set_eq : ∀ (hp : List HO) (i : Nat) (x : HO), i < lenH hp → getH (setH hp i x) i = x
  | [], _, _, h => by simp [lenH] at h
  | _ :: _, 0, _, _ => rfl
  | _ :: l, i + 1, x, h => by simpa [setH, getH] using getH_set_eq l i x (by simpa [lenH] using h)
theorem getH_set_ne : ∀ (hp : List HO) (i j : Nat) (x : HO), i ≠ j → getH (setH hp i x) j = getH hp j
  | [], i, j, _, _ => by cases i <;> rfl
  | _ :: _, 0, 0, _, h => absurd rfl h
  | _ :: _, 0, j + 1, _, _ => rfl
  | _ :: _, i + 1, 0, _, _ => rfl
  | _ :: l, i + 1, j + 1, x, h => by simpa [setH, getH] using getH_set_ne l i j x (by omega)

/-! ### A new block -/

theorem HRep.keepC {i : Nat} {ho : HO} (hk : KeepsC w bs w' bs') (hb : Stays none bs bs') (hi : bs'[i]? = bs[i]?)
    (hblk : ∀ b c n, bs[i]? = some (.blk b c n) → w'.heap[b]? = w.heap[b]?) (h : HRep w bs B i ho) : HRep w' bs' B i ho := by
  cases ho with
  | gone => simpa [HRep, hi] using h
  | box cs =>
    obtain ⟨b, vs, T, h1, h2, h3⟩ := h
    exact ⟨b, vs, T, by rw [hi]; exact h1, by rw [hblk _ _ _ h1]; exact h2, h3.keepC hk hb noRefL_none⟩
  | own z size n get =>
    rcases h with ⟨h1, h2, h3⟩ | ⟨b, cap, vs, T, h1, h2, h3, h4, h5, h6⟩
    · exact .inl ⟨by rw [hi]; exact h1, h2, h3⟩
    · exact .inr ⟨b, cap, vs, T, by rw [hi]; exact h1, h2, by rw [hblk _ _ _ h1]; exact h3, h4, h5, fun k hk' => (h6 k hk').keepC hk hb noRefL_none⟩

theorem HRep.keep {i : Nat} {ho : HO} (hk : Keeps w bs w' bs') (hb : Stays none bs bs') (hi : bs'[i]? = bs[i]?)
    (hblk : ∀ b c n, bs[i]? = some (.blk b c n) → w'.heap[b]? = w.heap[b]?) (h : HRep w bs B i ho) : HRep w' bs' B i ho := h.keepC hk.c hb hi hblk

def World.push (w : World) (o : Obj) : World := { w with heap := w.heap.push o }

theorem push_old {b : Nat} {o o' : Obj} (h : w.heap[b]? = some o') : (World.push w o).heap[b]? = some o' := by
  have hb : b < w.heap.size := (Array.getElem?_eq_some_iff.1 h).1
  simp only [World.push, Array.getElem?_push]
  rw [if_neg (by omega)]; exact h

theorem push_new {o : Obj} : (World.push w o).heap[w.heap.size]? = some o := by
  show (w.heap.push o)[w.heap.size]? = some o
  exact Array.getElem?_push_size

theorem push_below (o : Obj) (hB : B ≤ w.heap.size) : Below B w (World.push w o) := (Below.refl B w).alloc hB o

theorem push_keeps (cs : Array Value) (T : TypeId) (cap n : Nat) : Keeps w bs (World.push w (.cells cs T (0, 0))) (bs ++ [.blk w.heap.size cap n]) := by
  intro b hf o ho
  refine ⟨push_old ho, fun i b' c m h => ?_⟩
  rw [List.getElem?_append] at h
  split at h
  · exact hf i b' c m h
  · have hb : b < w.heap.size := (Array.getElem?_eq_some_iff.1 ho).1
    rw [List.getElem?_singleton] at h
    split at h
    · cases h; omega
    · cases h

theorem push_stays (x : BK) (e : Option Nat) : Stays e bs (bs ++ [x]) := by
  intro i y _ h _
  rw [List.getElem?_append_left (List.getElem?_eq_some_iff.1 h).1]; exact h

/-- A new block of the call's own. -/
theorem new_hp (hH : Hp w bs B hp) (hB : B ≤ w.heap.size) {cs : Array Value} {T : TypeId} {cap n : Nat} {ho : HO}
    (h : HRep (World.push w (.cells cs T (0, 0))) (bs ++ [.blk w.heap.size cap n]) B (lenH hp) ho) :
    Hp (World.push w (.cells cs T (0, 0))) (bs ++ [.blk w.heap.size cap n]) B (snocH hp ho) := by
  have hlt : ∀ (i b c m : Nat), bs[i]? = some (.blk b c m) → b < w.heap.size := fun i b c m h => (hH.lo i b c m h).2
  refine ⟨by simp [hH.len, lenH_snoc], fun i => ?_, fun i j b c m c' m' h1 h2 => ?_, fun i b c m h1 => ?_⟩
  · rcases Nat.lt_trichotomy i (lenH hp) with hi | hi | hi
    · rw [getH_snoc_lt _ _ _ hi]
      refine (hH.ent i).keep (push_keeps cs T cap n) (push_stays _ _) ?_ ?_
      · rw [List.getElem?_append_left (by rw [hH.len]; exact hi)]
      · intro b c m hb
        have := hlt i b c m hb
        simp only [World.push, Array.getElem?_push]
        rw [if_neg (by omega)]
    · subst hi; rw [getH_snoc_eq]; exact h
    · rw [getH_ge _ _ (by rw [lenH_snoc]; omega)]
      right
      rw [List.getElem?_eq_none]; simp [hH.len]; omega
  · rw [List.getElem?_append] at h1 h2
    split at h1 <;> split at h2
    · exact hH.inj i j b c m c' m' h1 h2
    · have := hlt i b c m h1
      rw [List.getElem?_singleton] at h2; split at h2 <;> cases h2; omega
    · have := hlt j b c' m' h2
      rw [List.getElem?_singleton] at h1; split at h1 <;> cases h1; omega
    · rw [List.getElem?_singleton] at h1 h2
      split at h1 <;> split at h2 <;> first | omega | (cases h1; done) | (cases h2; done)
  · rw [List.getElem?_append] at h1
    have hs : (World.push w (.cells cs T (0, 0))).heap.size = w.heap.size + 1 := by simp [World.push]
    split at h1
    · have := hH.lo i b c m h1; omega
    · rw [List.getElem?_singleton] at h1
      split at h1 <;> cases h1
      omega

theorem last_get {x : BK} (hH : Hp w bs B hp) : (bs ++ [x])[lenH hp]? = some x := by rw [← hH.len]; simp

theorem box_ok {elem : TypeId} {x : Operand} {xs : List SV} {e : Ef} (he : eBox (lenH hp) xs = some e) (hpre : e.pre) (hx : RepL w bs B xs ([x].map ρ)) (hH : Hp w bs B hp) (hB : B ≤ w.heap.size) :
    MOk P ρ (.box elem x) w bs B hp e := by
  unfold eBox at he
  split at he
  · simp only [eNew, Option.some.injEq] at he
    subst he
    obtain ⟨hcl, _⟩ := asCells_ok hpre (one1 hx)
    refine ⟨.value (.pointer (some ⟨w.heap.size, 0, none⟩)), _, World.push w (.cells (ρ x).cells elem (0, 0)), bs ++ [.blk w.heap.size 0 0], fun dst type pos after guard => ?_, .inl rfl, ?_, ?_, push_keeps _ _ _ _, push_stays _ _, push_below _ hB⟩
    · simp [execOp, Instr.box, newVar, newRow, World.push]
    · exact .ptr _ _ _ _ (last_get hH)
    · exact new_hp hH hB ⟨_, _, _, last_get hH, push_new, hcl.keep (push_keeps _ _ _ _) (push_stays _ _) noRefL_none⟩
  · cases he

theorem alloc_ok {elem : TypeId} {z : List SV} (hz : zeroOf P elem = some z) (hH : Hp w bs B hp) (hB : B ≤ w.heap.size) :
    MOk P ρ (.alloc elem) w bs B hp ⟨True, .ptr (lenH hp) 0, .new (.box z)⟩ := by
  obtain ⟨v, hv, hr⟩ := run_zeroValue (P := P) (w := w) (bs := bs) (B := B) hz
  refine ⟨.value (.pointer (some ⟨w.heap.size, 0, none⟩)), _, World.push w (.cells v.cells elem (0, 0)), bs ++ [.blk w.heap.size 0 0], fun dst type pos after guard => ?_, .inl rfl, ?_, ?_, push_keeps _ _ _ _, push_stays _ _, push_below _ hB⟩
  · simp [execOp, Instr.alloc, hv, newVar, newRow, World.push]
  · exact .ptr _ _ _ _ (last_get hH)
  · exact new_hp hH hB ⟨_, _, _, last_get hH, push_new, hr.keep (push_keeps _ _ _ _) (push_stays _ _) noRefL_none⟩

theorem chunk_ok {cs : List SV} {vs : List Value} (h : RepL w bs B cs vs) (size k : Nat) : RepL w bs B (chunk size cs k) ((vs.drop (k * size)).take size) := (h.drop _).take _

theorem allocArr_ok {elem t : TypeId} {n size : Nat} {z : List SV} (hz : zeroOf P elem = some z) (hl : lenL z = n * size) (hH : Hp w bs B hp) (hB : B ≤ w.heap.size) :
    MOk P ρ (.alloc elem) w bs B hp ⟨lenL z = n * size, .ptr (lenH hp) 0, .new (.own false size n (chunk size z))⟩ := by
  obtain ⟨v, hv, hr⟩ := run_zeroValue (P := P) (w := w) (bs := bs) (B := B) hz
  refine ⟨.value (.pointer (some ⟨w.heap.size, 0, none⟩)), _, World.push w (.cells v.cells elem (0, 0)), bs ++ [.blk w.heap.size n n], fun dst type pos after guard => ?_, .inl rfl, ?_, ?_, push_keeps _ _ _ _, push_stays _ _, push_below _ hB⟩
  · simp [execOp, Instr.alloc, hv, newVar, newRow, World.push]
  · exact .ptr _ _ _ _ (last_get hH)
  · refine new_hp hH hB (.inr ⟨_, n, _, _, last_get hH, rfl, push_new, ?_, Nat.le_refl _, fun k _ => chunk_ok (hr.keep (push_keeps _ _ _ _) (push_stays _ _) noRefL_none) size k⟩)
    rw [← hl, hr.length]; simp

/-! ### Writing to a block -/

structure Wrote (w w' : World) (b : Nat) (o : Obj) : Prop where
  os : w'.os = w.os
  tape : w'.tape = w.tape
  output : w'.output = w.output
  size : w'.heap.size = w.heap.size
  at_ : w'.heap[b]? = some o
  other : ∀ k, k ≠ b → w'.heap[k]? = w.heap[k]?

theorem spliceV_cons {cs : List Value} {off : Nat} {v : Value} {vs : List Value} (h : off < cs.length) : spliceV (cs.set off v) (off + 1) vs = spliceV cs off (v :: vs) := by
  have e1 : (cs.set off v).take (off + 1) = cs.take off ++ [v] := by
    rw [List.set_eq_take_append_cons_drop, if_pos h, List.take_append]
    simp [List.length_take, Nat.min_eq_left (Nat.le_of_lt h)]
    exact List.take_of_length_le (by simp; omega)
  have e2 : (cs.set off v).drop (off + 1 + vs.length) = cs.drop (off + (vs.length + 1)) := by
    rw [List.set_eq_take_append_cons_drop, if_pos h, List.drop_append]
    simp [List.length_take, Nat.min_eq_left (Nat.le_of_lt h)]
    rw [show off + 1 + vs.length - off = vs.length + 1 by omega]
    simp only [List.drop_succ_cons, List.drop_drop]
    rw [List.drop_of_length_le (by simp; omega), List.nil_append]
    congr 1; omega
  simp [spliceV, e1, e2]

theorem setCell_wrote {b off : Nat} {cs : Array Value} {T : TypeId} {v : Value} (hb : w.heap[b]? = some (.cells cs T (0, 0))) :
    Wrote w (w.setCell ⟨b, off, none⟩ v) b (.cells (cs.setIfInBounds off v) T (0, 0)) := by
  refine ⟨rfl, rfl, rfl, by simp [World.setCell], ?_, fun k hk => ?_⟩
  · simp [World.setCell, Array.getElem?_modify, hb]
  · simp only [World.setCell, Array.getElem?_modify]
    rw [if_neg (by omega)]

theorem Wrote.trans {w1 w2 : World} {b : Nat} {o o' : Obj} (h : Wrote w w1 b o) (h' : Wrote w1 w2 b o') : Wrote w w2 b o' :=
  ⟨h'.os.trans h.os, h'.tape.trans h.tape, h'.output.trans h.output, h'.size.trans h.size, h'.at_, fun k hk => (h'.other k hk).trans (h.other k hk)⟩

theorem run_storeCells {b off T : Nat} : ∀ {vs : List Value} {cs : Array Value} {w : World} {i : Nat}, w.heap[b]? = some (.cells cs T (0, 0)) → off + i + vs.length ≤ cs.size → (∀ u ∈ vs, u.oneCell' = true) →
    ∃ w' cs', (storeCells ⟨b, off, none⟩ vs i).run P w = .ok () w' ∧ Wrote w w' b (.cells cs' T (0, 0)) ∧ cs'.toList = spliceV cs.toList (off + i) vs
  | [], cs, w, i, hb, hl, ho => ⟨w, cs, rfl, ⟨rfl, rfl, rfl, rfl, hb, fun _ _ => rfl⟩, by simp [spliceV]⟩
  | v :: vs, cs, w, i, hb, hl, ho => by
    simp only [List.length_cons] at hl
    have hw := setCell_wrote (off := off + i) (v := v) hb
    obtain ⟨w', cs', hrun, hw', hcs⟩ := run_storeCells (off := off) (vs := vs) (cs := cs.setIfInBounds (off + i) v) (w := w.setCell ⟨b, off + i, none⟩ v) (i := i + 1) hw.at_ (by simp; omega) (fun u hu => ho u (by simp [hu]))
    refine ⟨w', cs', ?_, hw.trans hw', ?_⟩
    · have hc : w.cell? ⟨b, off + i, none⟩ = some (cs[off + i]'(by omega)) := by simp [World.cell?, hb]
      have hf : w.frozen? ⟨b, off + i, none⟩ = false := by simp [World.frozen?, hb]
      simp only [storeCells, Sem.run_bind, add_none, run_store _ _ _ _ _ (ho v (by simp)), hc, hf, Bool.false_eq_true, if_false, Result.andThen_ok, hrun]
    · rw [hcs, Array.toList_setIfInBounds, show off + (i + 1) = off + i + 1 by omega, spliceV_cons (by simp; omega)]

theorem spliceV_get? {cs vs : List Value} {off : Nat} (h : off + vs.length ≤ cs.length) (i : Nat) :
    (spliceV cs off vs)[i]? = if i < off then cs[i]? else if i < off + vs.length then vs[i - off]? else cs[i]? := by
  unfold spliceV
  rw [List.append_assoc, List.getElem?_append]
  simp only [List.length_take, Nat.min_eq_left (show off ≤ cs.length by omega)]
  split
  · rw [List.getElem?_take, if_pos ‹_›]
  · rw [List.getElem?_append]
    split
    · rw [if_pos (by omega)]
    · rw [if_neg (by omega), List.getElem?_drop]; congr 1; omega

theorem splice_in {vs u : List Value} {p off sz : Nat} (h1 : off + u.length ≤ sz) (h2 : p + sz ≤ vs.length) :
    spliceV ((vs.drop p).take sz) off u = ((spliceV vs (p + off) u).drop p).take sz := by
  apply List.ext_getElem?
  intro i
  rw [spliceV_get? (by simp; omega), List.getElem?_take, List.getElem?_take, List.getElem?_drop, List.getElem?_drop, spliceV_get? (by omega)]
  by_cases hi : i < sz
  · simp only [hi, if_true]
    by_cases ha : i < off
    · simp only [ha, if_true, show p + i < p + off by omega]
    · simp only [ha, if_false, show ¬ p + i < p + off by omega]
      by_cases hb : i < off + u.length
      · simp only [hb, if_true, show p + i < p + off + u.length by omega]; congr 1; omega
      · simp only [hb, if_false, show ¬ p + i < p + off + u.length by omega]
  · simp only [hi, if_false]
    simp only [show ¬ i < off by omega, if_false, show ¬ i < off + u.length by omega]

theorem splice_out {vs u : List Value} {p q off sz : Nat} (h1 : off + u.length ≤ sz) (h2 : p + sz ≤ vs.length) (h : q + sz ≤ p ∨ p + sz ≤ q) :
    (vs.drop q).take sz = ((spliceV vs (p + off) u).drop q).take sz := by
  apply List.ext_getElem?
  intro i
  rw [List.getElem?_take, List.getElem?_take, List.getElem?_drop, List.getElem?_drop, spliceV_get? (by omega)]
  by_cases hi : i < sz
  · simp only [hi, if_true]
    by_cases ha : q + i < p + off
    · rw [if_pos ha]
    · rw [if_neg ha, if_neg (by omega)]
  · simp only [hi, if_false]

theorem Wrote.below {b : Nat} {o : Obj} (h : Wrote w w' b o) (hB : B ≤ b) : Below B w w' :=
  ⟨h.os, h.tape, h.output, Nat.le_of_eq h.size.symm, fun k hk => h.other k (by omega)⟩

theorem Wrote.keeps {b i c n : Nat} {o : Obj} (h : Wrote w w' b o) (hb : bs[i]? = some (.blk b c n)) : Keeps w bs w' bs := by
  intro k hf o' ho
  have : b ≠ k := hf i b c n hb
  exact ⟨by rw [h.other k (by omega)]; exact ho, hf⟩

/-- A block of the call's own is written over. -/
theorem set_hp {b i c n : Nat} {o : Obj} {ho : HO} (hH : Hp w bs B hp) (hw : Wrote w w' b o) (hb : bs[i]? = some (.blk b c n)) (hi : i < lenH hp) (h : HRep w' bs B i ho) :
    Hp w' bs B (setH hp i ho) := by
  refine ⟨by rw [lenH_set]; exact hH.len, fun j => ?_, hH.inj, fun j b' c' n' h1 => by rw [hw.size]; exact hH.lo j b' c' n' h1⟩
  by_cases hij : i = j
  · subst hij; rw [getH_set_eq _ _ _ hi]; exact h
  · rw [getH_set_ne _ _ _ _ hij]
    refine (hH.ent j).keep (hw.keeps hb) Stays.refl rfl ?_
    intro b' c' n' hb'
    refine hw.other b' fun he => hij ?_
    subst he
    exact hH.inj i j _ _ _ _ _ hb hb'

theorem lt_of_bs {i : Nat} {x : BK} (hH : Hp w bs B hp) (h : bs[i]? = some x) : i < lenH hp := by
  rw [← hH.len]; exact (List.getElem?_eq_some_iff.1 h).1

theorem run_storeAt {x y : Operand} {t : TypeId} {size b off : Nat} {T : TypeId} {cs : Array Value} (hs : sizeOf? P t = some size) (hx : ρ x = .pointer (some ⟨b, off, none⟩)) (hb : w.heap[b]? = some (.cells cs T (0, 0)))
    (hl : (ρ y).cells.size = size) (hc : off + size ≤ cs.size) (ho : ∀ u ∈ (ρ y).cells.toList, u.oneCell' = true) :
    ∃ w' cs', (∀ dst type pos after guard, (execOp ρ ⟨dst, .store t x y, type, pos, after, guard⟩).run P w = .ok .skip w') ∧ Wrote w w' b (.cells cs' T (0, 0)) ∧ cs'.toList = spliceV cs.toList off (ρ y).cells.toList := by
  obtain ⟨w', cs', hrun, hw, hcs⟩ := run_storeCells (P := P) (off := off) (i := 0) (vs := (ρ y).cells.toList) hb (by simp [hl]; exact hc) ho
  refine ⟨w', cs', fun dst type pos after guard => ?_, hw, hcs⟩
  simp [execOp, Instr.storeAt, hx, Instr.sureAddr, storeVar, run_sizeOf hs, hl, hrun]

theorem takeL_all : ∀ (l : List SV), takeL (lenL l) l = l
  | [] => rfl
  | x :: l => by simp [lenL, takeL, takeL_all l]

theorem store_ok {x y : Operand} {t : TypeId} {size : Nat} {xs : List SV} {e : Ef} (hs : sizeOf? P t = some size) (he : eStore hp size xs = some e) (hpre : e.pre)
    (hx : RepL w bs B xs ([x, y].map ρ)) (hH : Hp w bs B hp) : MOk P ρ (.store t x y) w bs B hp e := by
  unfold eStore at he
  split at he
  · rename_i a v
    obtain ⟨e', he', rfl⟩ := Option.map_eq_some_iff.1 he
    obtain ⟨hl, hone, hpre⟩ := hpre
    obtain ⟨ha, hv⟩ := two hx
    obtain ⟨hcl, hoc⟩ := asCells_ok hone hv
    have hsz : (ρ y).cells.size = size := by rw [← hl, hcl.length]; simp
    unfold storeAt at he'
    split at he'
    · rename_i i off
      obtain ⟨b, n, hb, hρ⟩ := ha.ptr_inv
      have hi := lt_of_bs hH hb
      have hent := hH.ent i
      split at he'
      · rename_i cs hg
        cases he'
        rw [hg] at hent
        obtain ⟨b', vs, T, h1, h2, h3⟩ := hent
        rw [hb] at h1; cases h1
        obtain ⟨w', cs', hrun, hw, hcs⟩ := run_storeAt hs hρ h2 hsz (by rw [h3.length] at hpre; simpa using hpre) hoc
        refine ⟨.skip, undef, w', bs, hrun, .inr ⟨rfl, rfl⟩, .x _ _ (.junk _), ?_, hw.keeps hb, Stays.refl, hw.below (hH.lo _ _ _ _ hb).1⟩
        refine set_hp hH hw hb hi ⟨b, cs', T, hb, hw.at_, ?_⟩
        rw [hcs]
        exact (h3.splice off hcl (by rw [hl]; exact hpre)).keep (hw.keeps hb) Stays.refl noRefL_none
      · rename_i z sz m get hg
        split at he'
        · cases he'
          obtain ⟨hp1, hp2⟩ := hpre
          rw [hg] at hent
          rcases hent with ⟨h, _⟩ | ⟨b', cap, vs, T, h1, h2, h3, h4, h5, h6⟩
          · rw [hb] at h; cases h
          rw [hb] at h1; cases h1
          obtain ⟨w', cs', hrun, hw, hcs⟩ := run_storeAt hs hρ h3 hsz (by rw [h4, hp1]; omega) hoc
          refine ⟨.skip, undef, w', bs, hrun, .inr ⟨rfl, rfl⟩, .x _ _ (.junk _), ?_, hw.keeps hb, Stays.refl, hw.below (hH.lo _ _ _ _ hb).1⟩
          have hcs' : cs'.toList = (ρ y).cells.toList := by
            rw [hcs]; simp only [spliceV, List.take_zero, List.nil_append, Nat.zero_add]
            rw [List.drop_of_length_le (by simp [hsz, h4, hp1])]; simp
          refine set_hp hH hw hb hi (.inr ⟨b, _, cs', T, hb, h2, hw.at_, ?_, Nat.le_refl _, fun k hk => ?_⟩)
          · have := congrArg List.length hcs'; simp at this; rw [this, hsz, hp1]
          · rw [hcs']
            exact (chunk_ok hcl _ k).keep (hw.keeps hb) Stays.refl noRefL_none
        · cases he'
      · cases he'
    · rename_i i k off sz
      obtain ⟨b, c, n, hb, hρ, hkn⟩ := ha.elem_inv
      have hi := lt_of_bs hH hb
      have hent := hH.ent i
      split at he'
      · rename_i z size' m get hg
        cases he'
        obtain ⟨hk, rfl, hoff⟩ := hpre
        rw [hg] at hent
        rcases hent with ⟨h, _⟩ | ⟨b', cap, vs, T, h1, h2, h3, h4, h5, h6⟩
        · rw [hb] at h; cases h
        rw [hb] at h1; cases h1
        have hkc : k * sz + sz ≤ c * sz := by rw [← Nat.succ_mul]; exact Nat.mul_le_mul_right _ (by omega)
        obtain ⟨w', cs', hrun, hw, hcs⟩ := run_storeAt hs hρ h3 hsz (by rw [h4]; omega) hoc
        refine ⟨.skip, undef, w', bs, hrun, .inr ⟨rfl, rfl⟩, .x _ _ (.junk _), ?_, hw.keeps hb, Stays.refl, hw.below (hH.lo _ _ _ _ hb).1⟩
        have hlen : cs'.size = vs.size := by
          have := congrArg List.length hcs
          rw [splice_len (by simp [hsz, h4]; omega)] at this
          simpa using this
        refine set_hp hH hw hb hi (.inr ⟨b, c, cs', T, hb, h2, hw.at_, by rw [hlen, h4], h5, fun j hj => ?_⟩)
        by_cases hjk : j = k
        · subst hjk
          simp only [if_true]
          have hsp := ((h6 j hj).splice off hcl (by rw [(h6 j hj).length, hl]; simp [h4]; omega)).keep (hw.keeps hb) Stays.refl noRefL_none
          have heq : spliceV ((vs.toList.drop (j * sz)).take sz) off (ρ y).cells.toList = (cs'.toList.drop (j * sz)).take sz := by
            rw [hcs]
            exact splice_in (by simpa [hsz] using hoff) (by simp [h4]; omega)
          rw [← heq]; exact hsp
        · simp only [if_neg hjk]
          have heq : (vs.toList.drop (j * sz)).take sz = (cs'.toList.drop (j * sz)).take sz := by
            rw [hcs]
            refine splice_out (by simpa [hsz] using hoff) (by simp [h4]; omega) ?_
            rcases Nat.lt_or_gt_of_ne hjk with h | h
            · left; rw [← Nat.succ_mul]; exact Nat.mul_le_mul_right _ h
            · right; rw [← Nat.succ_mul]; exact Nat.mul_le_mul_right _ h
          rw [← heq]; exact (h6 j hj).keep (hw.keeps hb) Stays.refl noRefL_none
      · cases he'
    · cases he'
  · cases he

/-! ### Rows -/

/-- The lists of n numbers, one behind the other. -/
def rowV (f : Nat → List Value) : Nat → List Value
  | 0 => []
  | n + 1 => rowV f n ++ f n

theorem rowV_len {f : Nat → List Value} {size : Nat} : ∀ {n : Nat}, (∀ k, k < n → (f k).length = size) → (rowV f n).length = n * size
  | 0, _ => by simp [rowV]
  | n + 1, h => by
    simp only [rowV, List.length_append, h n (by omega), rowV_len (n := n) (fun k hk => h k (by omega))]
    rw [Nat.succ_mul]

theorem rowV_chunk {f : Nat → List Value} {size : Nat} : ∀ {n : Nat}, (∀ k, k < n → (f k).length = size) → ∀ k, k < n → ((rowV f n).drop (k * size)).take size = f k
  | 0, _, k, hk => by omega
  | n + 1, h, k, hk => by
    have hl := rowV_len (f := f) (size := size) (n := n) (fun k hk => h k (by omega))
    simp only [rowV]
    rcases Nat.lt_or_ge k n with h1 | h1
    · have ih := rowV_chunk (f := f) (size := size) (n := n) (fun k hk => h k (by omega)) k h1
      have : k * size + size ≤ n * size := by rw [← Nat.succ_mul]; exact Nat.mul_le_mul_right _ h1
      rw [List.drop_append_of_le_length (by omega), List.take_append_of_le_length (by simp; omega), ih]
    · have : k = n := by omega
      subst this
      rw [List.drop_append, List.drop_of_length_le (by omega), hl, Nat.sub_self]
      simp [List.take_of_length_le (Nat.le_of_eq (h k (by omega)))]

theorem rowV_get {f : Nat → List Value} {size : Nat} (hs : 0 < size) : ∀ {n : Nat}, (∀ k, k < n → (f k).length = size) → ∀ j v, (rowV f n)[j]? = some v → j / size < n ∧ (f (j / size))[j % size]? = some v
  | 0, _, j, v, h => by simp [rowV] at h
  | n + 1, h, j, v, hv => by
    have hl := rowV_len (f := f) (size := size) (n := n) (fun k hk => h k (by omega))
    simp only [rowV, List.getElem?_append] at hv
    split at hv
    · obtain ⟨h1, h2⟩ := rowV_get hs (n := n) (fun k hk => h k (by omega)) j v hv
      exact ⟨by omega, h2⟩
    · rename_i hj
      rw [hl] at hj hv
      have hlt : j - n * size < size := by
        have := (List.getElem?_eq_some_iff.1 hv).1
        rw [h n (by omega)] at this; exact this
      have hd : j / size = n := by
        rw [Nat.div_eq_iff hs]
        constructor
        · omega
        · omega
      have hm : j % size = j - n * size := by rw [Nat.mod_eq_sub, hd, Nat.mul_comm]
      rw [hd, hm]
      exact ⟨by omega, hv⟩

theorem rowV_mem {f : Nat → List Value} : ∀ {n : Nat} {u : Value}, u ∈ rowV f n → ∃ k, k < n ∧ u ∈ f k
  | 0, u, h => by simp [rowV] at h
  | n + 1, u, h => by
    simp only [rowV, List.mem_append] at h
    rcases h with h | h
    · obtain ⟨k, h1, h2⟩ := rowV_mem h; exact ⟨k, by omega, h2⟩
    · exact ⟨n, by omega, h⟩

/-- What a slice reads as, in memory. -/
theorem readS_ok {x : SV} {v : Value} {m size : Nat} {gx : Nat → List SV} (h : readS hp x = some (m, gx)) (hs : 0 < size) (hl : ∀ k, k < m → lenL (gx k) = size ∧ ones (gx k)) (hx : Rep w bs B x v) (hH : Hp w bs B hp) :
    ∃ a c f, v = .slice a m c ∧ (∀ k, k < m → (f k).length = size) ∧ (∀ k, k < m → RepL w bs B (gx k) (f k)) ∧ (∀ u ∈ rowV f m, u.oneCell' = true) ∧
      (∃ arr, (Builtin.firstCells size m v).run P w = .ok arr w ∧ arr.toList = rowV f m) := by
  have fin : ∀ (f : Nat → List Value), (∀ k, k < m → RepL w bs B (gx k) (f k)) → ∀ u ∈ rowV f m, u.oneCell' = true := by
    intro f hf u hu
    obtain ⟨k, hk, hu⟩ := rowV_mem hu
    exact ones_cell _ _ (hl k hk).2 (hf k hk) u hu
  have flen : ∀ (f : Nat → List Value), (∀ k, k < m → RepL w bs B (gx k) (f k)) → ∀ k, k < m → (f k).length = size := by
    intro f hf k hk
    rw [← (hf k hk).length]; exact (hl k hk).1
  have load : ∀ (ad : Addr) (f : Nat → List Value), ad.spot = none → (∀ k, k < m → RepL w bs B (gx k) (f k)) → (∀ k, k < m → Cells w ad.block (ad.off + k * size) (f k)) → 
      ∃ arr, (loadCells ad (m * size)).run P w = .ok arr w ∧ arr.toList = rowV f m := by
    intro ad f hsp hf hc
    refine ⟨(rowV f m).toArray, ?_, by simp⟩
    unfold loadCells
    rw [← rowV_len (flen f hf), run_loadCellsFrom hsp (fun j v hj => ?_)]
    · simp
    · obtain ⟨h1, h2⟩ := rowV_get hs (flen f hf) j v hj
      have := (hc _ h1).cell h2
      rw [Nat.zero_add]
      have he : ad.off + j / size * size + j % size = ad.off + j := by
        have := Nat.div_add_mod j size
        rw [Nat.mul_comm] at this; omega
      rwa [he] at this
  unfold readS at h
  split at h
  · cases h
    have := hx.nil_inv; subst this
    exact ⟨none, 0, fun _ => [], rfl, fun k hk => by omega, fun k hk => by omega, by simp [rowV], #[], rfl, by simp [rowV]⟩
  · cases h
    cases hx with
    | x _ _ hx =>
      cases hx with
      | vs t z n sz get a cap vals hz hc hn hcell h =>
        refine ⟨a, cap, vals, rfl, flen vals (fun k hk => (h k hk).rep), fun k hk => (h k hk).rep, fin vals (fun k hk => (h k hk).rep), ?_⟩
        by_cases hm : m = 0
        · subst hm
          cases a with
          | none => exact ⟨#[], rfl, by simp [rowV]⟩
          | some ad => exact ⟨#[], by simp [Builtin.firstCells, loadCells, loadCellsFrom], by simp [rowV]⟩
        · obtain ⟨ad, rfl, hsp, _⟩ := hcell 0 (by omega)
          refine load ad vals hsp (fun k hk => (h k hk).rep) (fun k hk => ?_)
          obtain ⟨ad', had, _, _, _, hlen, hc'⟩ := hcell k hk
          cases had
          have hsz := hlen.symm.trans (flen vals (fun k hk => (h k hk).rep) k hk)
          rw [hsz] at hc'; exact hc'
  · rename_i i lo n sz
    split at h
    · rename_i z s' n' get hg
      cases hbq : Nat.beq sz s' with
      | false => rw [hbq] at h; cases h
      | true =>
      rw [hbq] at h
      cases h
      have hss := Nat.eq_of_beq_eq_true hbq
      subst hss
      have hent := hH.ent i
      rw [hg] at hent
      cases hx with
      | x _ _ hx => cases hx
      | ownNil _ _ hbs => exact ⟨none, 0, fun _ => [], rfl, fun k hk => by omega, fun k hk => by omega, by simp [rowV], #[], rfl, by simp [rowV]⟩
      | own _ _ _ _ b cap mm ad hbs hlm ha =>
        rcases hent with ⟨h, _⟩ | ⟨b', cap', vs, T, h1, h2, h3, h4, h5, h6⟩
        · rw [hbs] at h; cases h
        rw [hbs] at h1; cases h1
        have hf : ∀ k, k < m → RepL w bs B (get (addLo lo k)) ((vs.toList.drop ((lo + k) * sz)).take sz) := by
          intro k hk; rw [addLo_eq]; exact h6 (lo + k) (by omega)
        refine ⟨some ad, cap - lo, fun k => (vs.toList.drop ((lo + k) * sz)).take sz, rfl, flen _ hf, hf, fin _ hf, ?_⟩
        by_cases hm : m = 0
        · subst hm
          exact ⟨#[], by simp [Builtin.firstCells, loadCells, loadCellsFrom], by simp [rowV]⟩
        · have hs' : sz = size := by
            have h0 := flen _ hf 0 (by omega)
            simp only [Nat.add_zero, List.length_take, List.length_drop, Array.length_toList, h4] at h0
            have : lo * sz + sz ≤ cap * sz := by rw [← Nat.succ_mul]; exact Nat.mul_le_mul_right _ (by omega)
            omega
          subst hs'
          have had : ad = ⟨b, lo * sz, none⟩ := by
            rcases ha with ha | ha
            · exact ha
            · omega
          subst had
          refine load _ _ rfl hf (fun k hk => ⟨vs, T, _, h3, fun j v hj => ?_⟩)
          rw [List.getElem?_take] at hj
          split at hj
          · rw [List.getElem?_drop] at hj
            simp only [← Nat.add_mul]
            simpa using hj
          · cases hj
    · cases h
  · cases h

theorem run_lenOf {a : Option Addr} {n c : Nat} : (Builtin.lenOf (.slice a n c)).run P w = .ok n w := rfl

/-- Where an append must grow: the world behind it. -/
theorem append_grow {c : Call} {ty : TypeId} {t1 t2 el el2 : TypeId} {size bytes : Nat} {z : List SV} {va vx : Value} {a : Option Addr} {n cap m cx : Nat} {ax : Option Addr} {old new : Array Value}
    (hc : c.callee = .builtin .append) (ht1 : c.argTypes[0]? = some t1) (ht2 : c.argTypes[1]? = some t2) (hu1 : P.underlying t1 = some (.slice el)) (hu2 : P.underlying t2 = some (.slice el2))
    (hs : sizeOf? P el = some size) (hby : bytesOf? P el = some bytes) (hz : zeroOf P el = some z) (hzl : z.length = size) (hb0 : 0 < bytes) (hs0 : 0 < size)
    (hargs : c.args.map ρ = #[.slice a n cap, .slice ax m cx]) (hcap : capOk (n + m) bytes) (hgrow : cap < n + m)
    (ho : (Builtin.firstCells size n (.slice a n cap)).run P w.drew = .ok old w.drew) (hn : (Builtin.firstCells size m (.slice ax m cx)).run P w.drew = .ok new w.drew) :
    ∃ nc rest, n + m ≤ nc ∧ (∀ dst type pos after guard, (execOp ρ ⟨dst, .call c, type, pos, after, guard⟩).run P w =
      .ok (.value (.slice (some ⟨w.heap.size, 0, none⟩) (n + m) nc)) (World.push w.drew (.cells (old ++ new ++ rest) el (0, 0)))) ∧ rest.size = (nc - (n + m)) * size := by
  unfold sizeOf? at hs
  obtain ⟨i, hi, his⟩ := Option.map_eq_some_iff.1 hs
  unfold bytesOf? at hby
  rw [hi] at hby
  simp only [Option.map_some, Option.some.injEq] at hby
  unfold zeroOf at hz
  rw [hi] at hz
  simp only [Option.bind_some] at hz
  obtain ⟨zv, hzv, hzm⟩ := Option.map_eq_some_iff.1 hz
  have hzs : zv.cells.size = size := by rw [← hzl, ← hzm]; simp
  have hfit := growslice_fits (bytes := i.bytes) hgrow (by rw [hby]; exact hcap)
  let nc := (n + m) + w.tape w.drawn (.appendCap (n + m) cap el) % (2 ^ 63 - (n + m))
  refine ⟨nc, Builtin.zeroCells zv.cells (nc - (n + m)), Nat.le_add_right _ _, fun dst type pos after guard => ?_, by simp [Builtin.zeroCells, hzs]⟩
  have hty : (typeInfo el).run P w = .ok i w := by simp [typeInfo, hi]
  have hty2 : (typeInfo el).run P w.drew = .ok i w.drew := by simp [typeInfo, hi]
  have hzr : (zeroValue el).run P w.drew = .ok zv w.drew := by simp [zeroValue, typeInfo, hi, hzv]
  have hsz : (sizeOf el).run P w = .ok size w := run_sizeOf (by unfold sizeOf?; exact hs)
  have hng : ¬ (n + m ≤ cap) := by omega
  have hch : (choose (.appendCap (n + m) cap el)).run P w = .ok nc w.drew := by
    rw [run_choose]; simp only [Question.forced, Bool.false_eq_true, if_false]; rfl
  have hf1 : ¬ ((((n + m : Nat) : Int) > IntKind.i64.max) ∧ (False ∨ i.bytes = 0)) := by
    rintro ⟨_, h | h⟩
    · exact h
    · omega
  have hf2 : ¬ (Builtin.nextslicecap (n + m) cap * i.bytes > 2 ^ 48) := by
    have : (2 : Nat) ^ 48 = 281474976710656 := by decide
    rw [this]; omega
  have key : (Builtin.append_ c.argTypes type #[.slice a n cap, .slice ax m cx]).run P w = .ok (.slice (some ⟨w.heap.size, 0, none⟩) (n + m) nc) (World.push w.drew (.cells (old ++ new ++ Builtin.zeroCells zv.cells (nc - (n + m))) el (0, 0))) := by
    unfold Builtin.append_
    simp only [ht1, ht2, List.getElem?_toArray, List.getElem?_cons_zero, List.getElem?_cons_succ, Sem.run_bind, run_underlying hu1, run_underlying hu2, Result.andThen_ok, hsz, Sem.run_pure, Bool.false_eq_true, if_false, Builtin.lenOf, hng, hf1, hty, hf2, hch, run_askRoom, ho, hn, hzr, newRow, run_newObj, Bool.not_false, if_true, Nat.add_eq]
    simp only [hf1, if_false, Sem.run_bind, hty, Result.andThen_ok, hf2, hch, hty2, run_askRoom, ho, hn, hzr, run_newObj, Sem.run_pure]
    rfl
  simp only [execOp, resolve, hc, Sem.run_bind, Sem.run_pure, Result.andThen_ok, invoke, builtin, hargs, key]

theorem append_fit {c : Call} {t1 t2 el el2 : TypeId} {size n cap m cx b off : Nat} {T : TypeId} {cs : Array Value} {ax : Option Addr} {new : Array Value}
    (hc : c.callee = .builtin .append) (ht1 : c.argTypes[0]? = some t1) (ht2 : c.argTypes[1]? = some t2) (hu1 : P.underlying t1 = some (.slice el)) (hu2 : P.underlying t2 = some (.slice el2))
    (hs : sizeOf? P el = some size) (hargs : c.args.map ρ = #[.slice (some ⟨b, off, none⟩) n cap, .slice ax m cx]) (hgrow : n + m ≤ cap)
    (hn : (Builtin.firstCells size m (.slice ax m cx)).run P w = .ok new w) (hb : w.heap[b]? = some (.cells cs T (0, 0))) (hl : off + n * size + new.size ≤ cs.size) (ho : ∀ u ∈ new.toList, u.oneCell' = true) :
    ∃ w' cs', (∀ dst type pos after guard, (execOp ρ ⟨dst, .call c, type, pos, after, guard⟩).run P w = .ok (.value (.slice (some ⟨b, off, none⟩) (n + m) cap)) w') ∧
      Wrote w w' b (.cells cs' T (0, 0)) ∧ cs'.toList = spliceV cs.toList (off + n * size) new.toList := by
  obtain ⟨w', cs', hrun, hw, hcs⟩ := run_storeCells (P := P) (off := off + n * size) (i := 0) (vs := new.toList) hb (by simpa using hl) ho
  refine ⟨w', cs', fun dst type pos after guard => ?_, hw, by simpa using hcs⟩
  have hsz : (sizeOf el).run P w = .ok size w := run_sizeOf hs
  have key : (Builtin.append_ c.argTypes type #[.slice (some ⟨b, off, none⟩) n cap, .slice ax m cx]).run P w = .ok (.slice (some ⟨b, off, none⟩) (n + m) cap) w' := by
    unfold Builtin.append_
    simp only [ht1, ht2, List.getElem?_toArray, List.getElem?_cons_zero, List.getElem?_cons_succ, Sem.run_bind, run_underlying hu1, run_underlying hu2, Result.andThen_ok, hsz, Sem.run_pure, Bool.false_eq_true, if_false, Builtin.lenOf, hgrow, if_true, Bool.not_false, hn, add_none, hrun]
  simp only [execOp, resolve, hc, Sem.run_bind, Sem.run_pure, Result.andThen_ok, invoke, builtin, hargs, key]

/-- An append of nothing to nil. -/
theorem append_nil0 {c : Call} {t1 t2 el el2 : TypeId} {size cx : Nat} {ax : Option Addr}
    (hc : c.callee = .builtin .append) (ht1 : c.argTypes[0]? = some t1) (ht2 : c.argTypes[1]? = some t2) (hu1 : P.underlying t1 = some (.slice el)) (hu2 : P.underlying t2 = some (.slice el2))
    (hs : sizeOf? P el = some size) (hargs : c.args.map ρ = #[.slice none 0 0, .slice ax 0 cx]) :
    (∀ dst type pos after guard, (execOp ρ ⟨dst, .call c, type, pos, after, guard⟩).run P w = .ok (.value (.slice none 0 0)) w) := by
  intro dst type pos after guard
  have hsz : (sizeOf el).run P w = .ok size w := run_sizeOf hs
  have hn : (Builtin.firstCells size 0 (.slice ax 0 cx)).run P w = .ok #[] w := by cases ax <;> simp [Builtin.firstCells, loadCells, loadCellsFrom]
  have key : (Builtin.append_ c.argTypes type #[.slice none 0 0, .slice ax 0 cx]).run P w = .ok (.slice none 0 0) w := by
    unfold Builtin.append_
    simp only [ht1, ht2, List.getElem?_toArray, List.getElem?_cons_zero, List.getElem?_cons_succ, Sem.run_bind, run_underlying hu1, run_underlying hu2, Result.andThen_ok, hsz, Sem.run_pure, Bool.false_eq_true, if_false, Builtin.lenOf, if_true, Bool.not_false, hn, Nat.add_zero, Nat.le_refl]
  simp only [execOp, resolve, hc, Sem.run_bind, Sem.run_pure, Result.andThen_ok, invoke, builtin, hargs, key]

theorem Keeps.heap (h : w'.heap = w.heap) : Keeps w bs w' bs := fun b hf o ho => ⟨by rw [h]; exact ho, hf⟩

theorem Hp.heap_eq (h : w'.heap = w.heap) (hH : Hp w bs B hp) : Hp w' bs B hp :=
  ⟨hH.len, fun i => (hH.ent i).keep (Keeps.heap h) Stays.refl rfl (fun _ _ _ _ => by rw [h]), hH.inj, fun i b c n hb => by rw [h]; exact hH.lo i b c n hb⟩

theorem purge_rep {i : Nat} {s : SV} {v : Value} (hk : Keeps w bs w' bs') (hb : Stays (some i) bs bs') (h : Rep w bs B s v) : Rep w' bs' B (purge i s) v := by
  unfold purge
  cases hr : refs i s with
  | true => exact .x _ _ (.junk _)
  | false => exact h.keep hk hb (fun j hj => by cases hj; exact hr)

theorem purge_repL {i : Nat} (hk : Keeps w bs w' bs') (hb : Stays (some i) bs bs') : ∀ {l : List SV} {vs : List Value}, RepL w bs B l vs → RepL w' bs' B (purgeL i l) vs
  | _, _, .nil => .nil
  | _, _, .cons x v l vs h h' => .cons _ _ _ _ (purge_rep hk hb h) (purge_repL hk hb h')

theorem purge_repLL {i : Nat} (hk : Keeps w bs w' bs') (hb : Stays (some i) bs bs') : ∀ {l : List (List SV)} {vs : List (List Value)}, RepLL w bs B l vs → RepLL w' bs' B (purgeLL i l) vs
  | _, _, .nil => .nil
  | _, _, .cons x v l vs h h' => .cons _ _ _ _ (purge_repL hk hb h) (purge_repLL hk hb h')

def purge1 (i : Nat) : HO → HO
  | .box cs => .box (purgeL i cs)
  | .own z sz n get => .own z sz n fun k => purgeL i (get k)
  | .gone => .gone

theorem getH_purge (i : Nat) : ∀ (hp : List HO) (j : Nat), getH (purgeH i hp) j = purge1 i (getH hp j)
  | [], j => by cases j <;> rfl
  | h :: l, 0 => by cases h <;> rfl
  | h :: l, j + 1 => by cases h <;> simpa [purgeH, getH] using getH_purge i l j
theorem lenH_purge (i : Nat) : ∀ (hp : List HO), lenH (purgeH i hp) = lenH hp
  | [] => rfl
  | h :: l => by cases h <;> simp [purgeH, lenH, lenH_purge i l]

theorem app_hp {i : Nat} {x : BK} {ho : HO} (hH : Hp w bs B hp) (hi : i < lenH hp) (hk : Keeps w bs w' (bs.set i x)) (hsz : w.heap.size ≤ w'.heap.size)
    (hblk : ∀ j b c n, j ≠ i → bs[j]? = some (.blk b c n) → w'.heap[b]? = w.heap[b]?)
    (hx : ∀ b c n, x = .blk b c n → (B ≤ b ∧ b < w'.heap.size) ∧ ∀ j c' n', j ≠ i → bs[j]? ≠ some (.blk b c' n'))
    (h : HRep w' (bs.set i x) B i ho) : Hp w' (bs.set i x) B (setH (purgeH i hp) i ho) := by
  have hl := hH.len
  have hst : Stays (some i) bs (bs.set i x) := fun j y hj hy _ => by rw [List.getElem?_set_ne (fun he => hj (by rw [he]))]; exact hy
  have get_i : (bs.set i x)[i]? = some x := by rw [List.getElem?_set_self (by omega)]
  have get_j : ∀ j, j ≠ i → (bs.set i x)[j]? = bs[j]? := fun j hj => List.getElem?_set_ne (fun he => hj he.symm)
  refine ⟨by rw [lenH_set, lenH_purge]; simpa using hl, fun j => ?_, fun j k b c n c' n' h1 h2 => ?_, fun j b c n h1 => ?_⟩
  · by_cases hij : j = i
    · subst hij; rw [getH_set_eq _ _ _ (by rw [lenH_purge]; exact hi)]; exact h
    · rw [getH_set_ne _ _ _ _ (fun he => hij he.symm), getH_purge]
      have hent := hH.ent j
      cases hg : getH hp j with
      | gone => rw [hg] at hent; simpa [purge1, HRep, get_j j hij] using hent
      | box cs =>
        rw [hg] at hent
        obtain ⟨b, vs, T, h1, h2, h3⟩ := hent
        exact ⟨b, vs, T, by rw [get_j j hij]; exact h1, by rw [hblk j _ _ _ hij h1]; exact h2, purge_repL hk hst h3⟩
      | own z sz n get =>
        rw [hg] at hent
        rcases hent with ⟨h1, h2, h3⟩ | ⟨b, cap, vs, T, h1, h2, h3, h4, h5, h6⟩
        · exact .inl ⟨by rw [get_j j hij]; exact h1, h2, h3⟩
        · exact .inr ⟨b, cap, vs, T, by rw [get_j j hij]; exact h1, h2, by rw [hblk j _ _ _ hij h1]; exact h3, h4, h5, fun k hk' => purge_repL hk hst (h6 k hk')⟩
  · by_cases hj : j = i <;> by_cases hk' : k = i
    · omega
    · subst hj
      rw [get_i] at h1; cases h1
      rw [get_j k hk'] at h2
      exact absurd h2 ((hx b c n rfl).2 k c' n' hk')
    · subst hk'
      rw [get_i] at h2; cases h2
      rw [get_j j hj] at h1
      exact absurd h1 ((hx b c' n' rfl).2 j c n hj)
    · rw [get_j j hj] at h1; rw [get_j k hk'] at h2
      exact hH.inj j k b c n c' n' h1 h2
  · by_cases hj : j = i
    · subst hj
      rw [get_i] at h1; cases h1
      exact (hx b c n rfl).1
    · rw [get_j j hj] at h1
      have := hH.lo j b c n h1
      exact ⟨this.1, by omega⟩

theorem new_hp_nil (hH : Hp w bs B hp) {z : Bool} {size n : Nat} {get : Nat → List SV} (hz : z = true) (hn : n = 0) : Hp w (bs ++ [.nil]) B (snocH hp (.own z size n get)) := by
  have hst : ∀ e, Stays e bs (bs ++ [.nil]) := fun e => push_stays _ _
  have hk : Keeps w bs w (bs ++ [.nil]) := by
    intro b hf o ho
    refine ⟨ho, fun i b' c m h => ?_⟩
    rw [List.getElem?_append] at h
    split at h
    · exact hf i b' c m h
    · rw [List.getElem?_singleton] at h; split at h <;> cases h
  have hget : ∀ (i b c m : Nat), (bs ++ [BK.nil])[i]? = some (.blk b c m) → bs[i]? = some (.blk b c m) := by
    intro i b c m h
    rw [List.getElem?_append] at h
    split at h
    · exact h
    · rw [List.getElem?_singleton] at h; split at h <;> cases h
  refine ⟨by simp [hH.len, lenH_snoc], fun i => ?_, fun i j b c m c' m' h1 h2 => hH.inj i j b c m c' m' (hget _ _ _ _ h1) (hget _ _ _ _ h2), fun i b c m h1 => hH.lo i b c m (hget _ _ _ _ h1)⟩
  rcases Nat.lt_trichotomy i (lenH hp) with hi | hi | hi
  · rw [getH_snoc_lt _ _ _ hi]
    exact (hH.ent i).keep hk (hst _) (by rw [List.getElem?_append_left (by rw [hH.len]; exact hi)]) (fun _ _ _ _ => rfl)
  · subst hi; rw [getH_snoc_eq]; exact .inl ⟨last_get hH, hz, hn⟩
  · rw [getH_ge _ _ (by rw [lenH_snoc]; omega)]
    right
    rw [List.getElem?_eq_none]; simp [hH.len]; omega

theorem keeps_nil : Keeps w bs w (bs ++ [.nil]) := by
  intro b hf o ho
  refine ⟨ho, fun i b' c m h => ?_⟩
  rw [List.getElem?_append] at h
  split at h
  · exact hf i b' c m h
  · rw [List.getElem?_singleton] at h; split at h <;> cases h

end
end Go.Vx
