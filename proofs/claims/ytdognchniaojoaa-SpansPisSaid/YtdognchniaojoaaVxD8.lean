/- Regions that draw their order: an alloc that the symbolic run has told already. -/
import Derived.Test.YtdognchniaojoaaVxD7
set_option linter.all false
namespace Go.Vx
open Go.RowKit
section
variable {P : Program} {E : Env} {w : World} {w0 : Cx} {rd : Option Nat} {Pd : List Pend} {A : S → Prop} {s : S} {bs : List BK} {B : Nat} {hp hp' : List HO}

theorem set_keeps {cs : Array Value} {T : TypeId} {cap n i : Nat} : Keeps w bs (World.push w (.cells cs T (0, 0))) (bs.set i (.blk w.heap.size cap n)) := by
  intro b hf o ho
  refine ⟨push_old ho, fun j b' c m h => ?_⟩
  have hb : b < w.heap.size := (Array.getElem?_eq_some_iff.1 ho).1
  rw [List.getElem?_set] at h
  split at h
  · split at h
    · cases h; omega
    · cases h
  · exact hf j b' c m h

theorem set_stays {i : Nat} {x : BK} {e : Option Nat} (hg : bs[i]? = some .gone ∨ bs[i]? = none) : Stays e bs (bs.set i x) := by
  intro j y _ h hy
  rw [List.getElem?_set]
  split
  · rename_i hij
    subst hij
    rcases hg with hg | hg
    · rw [hg] at h; cases h; exact absurd rfl hy
    · rw [hg] at h; cases h
  · exact h

/-- A block that was none becomes one. -/
theorem fill_hp (hH : Hp w bs B hp) (hB : B ≤ w.heap.size) {cs : Array Value} {T : TypeId} {i : Nat} {c0 m0 : Nat} (hi : i < lenH hp) (hg : getH hp i = .gone) (hl : lenH hp' = lenH hp) (hne : ∀ j, j ≠ i → getH hp' j = getH hp j)
    (h : HRep (World.push w (.cells cs T (0, 0))) (bs.set i (.blk w.heap.size c0 m0)) B i (getH hp' i)) :
    Hp (World.push w (.cells cs T (0, 0))) (bs.set i (.blk w.heap.size c0 m0)) B hp' := by
  have hlt : ∀ (i b c m : Nat), bs[i]? = some (.blk b c m) → b < w.heap.size := fun i b c m h => (hH.lo i b c m h).2
  have hgo : bs[i]? = some .gone ∨ bs[i]? = none := by have := hH.ent i; rw [hg] at this; exact this
  have hib : i < bs.length := by rw [hH.len]; exact hi
  refine ⟨by simp [hH.len, hl], fun j => ?_, fun j k b c m c' m' h1 h2 => ?_, fun j b c m h1 => ?_⟩
  · by_cases hij : j = i
    · subst hij; exact h
    · rw [hne j hij]
      refine (hH.ent j).keep set_keeps (set_stays hgo) ?_ ?_
      · rw [List.getElem?_set, if_neg (Ne.symm hij)]
      · intro b c m hb
        have := hlt j b c m hb
        simp only [World.push, Array.getElem?_push]
        rw [if_neg (by omega)]
  · rw [List.getElem?_set] at h1 h2
    split at h1 <;> split at h2
    · omega
    · first | (rw [if_pos hib] at h1; cases h1) | cases h1
      have := hlt k _ _ _ h2; omega
    · first | (rw [if_pos hib] at h2; cases h2) | cases h2
      have := hlt j _ _ _ h1; omega
    · exact hH.inj j k b c m c' m' h1 h2
  · have hs : (World.push w (.cells cs T (0, 0))).heap.size = w.heap.size + 1 := by simp [World.push]
    rw [List.getElem?_set] at h1
    split at h1
    · first | (rw [if_pos hib] at h1; cases h1) | cases h1; omega
    · have := hH.lo j b c m h1; omega

theorem junkSlots_at : ∀ {Pd : List Pend} {fr : List SV} {p : Pend}, p ∈ Pd → getL (junkSlots fr Pd) p.slot = .junk
  | q :: l, fr, p, h => by
    rw [junkSlots]
    by_cases he : q.slot = p.slot
    · rw [he]
      have : ∀ (l : List SV) (n : Nat), getL (setL l n .junk) n = .junk := by
        intro l
        induction l with
        | nil => intro n; rfl
        | cons a l ih => intro n; cases n with
          | zero => rfl
          | succ n => exact ih n
      exact this _ _
    · rw [getL_set_ne _ _ _ _ he]
      rcases List.mem_cons.1 h with rfl | h
      · exact absurd rfl he
      · exact junkSlots_at h

theorem setL_setL : ∀ (l : List SV) (n : Nat) (x y : SV), setL (setL l n x) n y = setL l n y
  | [], _, _, _ => rfl
  | _ :: _, 0, _, _ => rfl
  | a :: l, n + 1, x, y => congrArg (a :: ·) (setL_setL l n x y)

theorem setL_getL : ∀ (l : List SV) (n : Nat), setL l n (getL l n) = l
  | [], _ => rfl
  | _ :: _, 0 => rfl
  | a :: l, n + 1 => congrArg (a :: ·) (setL_getL l n)

/-- What an alloc makes of a type. -/
def AL.is (P : Program) (elem : TypeId) : AL → Prop
  | .box z => zeroOf P elem = some z
  | .arr n size z => zeroOf P elem = some z ∧ lenL z = n * size
def AL.z : AL → List SV
  | .box z => z
  | .arr _ _ z => z
def AL.n : AL → Nat
  | .box _ => 0
  | .arr n _ _ => n
theorem AL.is_z {elem : TypeId} : ∀ {x : AL}, x.is P elem → zeroOf P elem = some x.z
  | .box _, h => h
  | .arr _ _ _, h => h.1

theorem alloc_step {p : Pend} {o : Oper} {elem : TypeId} {i : Nat} {all : Array Oper} (hi : all[i]? = some o) (hop : o.op = .alloc elem) (hgd : o.guard = none) (hz : p.cells.is P elem) (hdst : o.dst = some p.slot)
    (hidx : ∀ q ∈ Pd, q.idx ≠ p.idx) (hslot : ∀ q ∈ Pd, q.slot ≠ p.slot) {κ : Kont} {a : Act} {sv : List Act} {K : Act → World → Prop}
    (hR : PR w0 (p :: Pd) s a sv w) (h : ∀ a' w', PR w0 Pd s a' sv w' → K a' w') : wpOpIn (Wd rd) 0 P all κ i K a w := by
  obtain ⟨⟨bs, hf, hsv, hH, hb, hoth⟩, hPd⟩ := hR
  have hB : w0.heap.size ≤ w.heap.size := hb.size
  obtain ⟨v, hv, hr⟩ := run_zeroValue (P := P) (w := w) (bs := bs) (B := w0.heap.size) (AL.is_z hz)
  obtain ⟨hp1, hp2⟩ := hPd p List.mem_cons_self
  have hlt : p.idx < lenH s.hp := pend_lt hPd p List.mem_cons_self
  have hg : getH (goneIdx s.hp (p :: Pd)) p.idx = .gone := getH_gone_eq List.mem_cons_self
  have hgo : bs[p.idx]? = some .gone ∨ bs[p.idx]? = none := by have := hH.ent p.idx; simp only [er] at this; rw [hg] at this; exact this
  have hlen : bs.length = lenH s.hp := by rw [hH.len]; exact lenH_gone _
  have hget : (bs.set p.idx (BK.blk w.heap.size p.cells.n p.cells.n))[p.idx]? = some (.blk w.heap.size p.cells.n p.cells.n) := by
    rw [List.getElem?_set, if_pos rfl, if_pos (by omega)]
  have hst : ∀ e, Stays e bs (bs.set p.idx (.blk w.heap.size p.cells.n p.cells.n)) := fun e => set_stays hgo
  have hrun : (execOp a.eval o).run P w = .ok (.value (.pointer (some ⟨w.heap.size, 0, none⟩))) (World.push w (.cells v.cells elem (0, 0))) := by
    obtain ⟨dst, op, type, pos, after, guard⟩ := o
    simp only at hop
    subst hop
    simp [execOp, Instr.alloc, hv, newVar, newRow, World.push]
  refine wpOp_yes hi (by simp [Region.wanted, hgd]) (wp_of_run (by rw [hop]; intro c h; cases h) hrun (.inl rfl) (h _ _ ⟨⟨bs.set p.idx (.blk w.heap.size p.cells.n p.cells.n), ?_, ?_, ?_, ?_, by rw [List.map_cons, put_defers']; exact hoth.keep set_keeps⟩, fun q hq => hPd q (List.mem_cons_of_mem _ hq)⟩))
  · have hfr : (er Pd s).fr = (S.put (er (p :: Pd) s) (some p.slot) (.ptr p.idx 0)).fr := by
      simp only [er, S.put, junkSlots, setL_setL]
      rw [← junkSlots_set hslot, hp2]
    rw [hfr, hdst]
    exact put_rep (hf.keep set_keeps (hst none) noRefL_none) (.ptr _ _ _ _ hget)
  · exact RepLL.keep set_keeps (hst none) hsv
  · refine fill_hp hH hB (by simp only [er]; rw [lenH_gone]; exact hlt) hg (by simp only [er]; rw [lenH_gone, lenH_gone]) (fun j hj => ?_) ?_
    · simp only [er, goneIdx]
      rw [getH_set_ne _ _ _ _ (Ne.symm hj)]
    · simp only [er]
      rw [getH_gone_ne hidx, hp1]
      revert hget hst hz hr
      cases p.cells with
      | box z => exact fun hz hr hget hst => ⟨_, _, _, hget, push_new, hr.keep set_keeps (hst none) noRefL_none⟩
      | arr n size z =>
        intro hz hr hget hst
        refine .inr ⟨_, n, _, _, hget, rfl, push_new, ?_, Nat.le_refl _, fun k _ => chunk_ok (hr.keep set_keeps (hst none) noRefL_none) size k⟩
        show _ = n * size
        have hl := hz.2
        have hl2 := hr.length
        simp only [AL.z] at hl2
        rw [← hl, hl2]; simp
  · exact hb.trans (push_below _ hB)

end
end Go.Vx
