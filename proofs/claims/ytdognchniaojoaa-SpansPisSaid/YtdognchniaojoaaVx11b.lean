/- The state's relation after an answer, a write to a slot. -/
import Derived.Test.YtdognchniaojoaaVx11
set_option linter.all false
namespace Go.Vx
open Go.RowKit
section
variable {P : Program} {E : Env} {Q : SV → List HO → Prop} {vr : List VR} {w0 : Cx}

theorem repLL_map {w : World} {bs : List BK} {B : Nat} {s : S} {sv : List Act} {d : Option Nat} {x : SV} (h : RepLL w bs B s.saved (sv.map (·.tmps.toList))) : RepLL w bs B (s.put d x).saved (sv.map (·.tmps.toList)) := by
  rw [put_saved]; exact h

/-- A contract's answer, told to the caller. -/
theorem call_rel {s : S} {a : Act} {sv : List Act} {w w' : World} {f : FuncId} {c : Ctr} {r : SV} {hs : List HO} {v : Value} {bs2 : List BK} (hR : Rl w0 s a sv w) (d : Option Nat)
    (h1 : Rep w' bs2 w.heap.size r v) (h2 : Hp w' bs2 w.heap.size hs) (h3 : Below w.heap.size w w') (h4 : c.alias = false → freshS r ∧ freshH hs) (h5 : c.alias = true → lenH s.hp = 0) :
    ∀ y : SV, (∀ bs', Rep w' bs' w0.heap.size (shift (lenH s.hp) r) v → Rep w' bs' w0.heap.size y v) → Rl w0 (S.put { fr := s.fr, saved := s.saved, hp := s.hp ++ shiftH (lenH s.hp) hs } d y) (a.put d v) sv w' := by
  intro y hy
  obtain ⟨bs, hf, hsv, hH, hb, ho⟩ := hR
  have hB : w0.heap.size ≤ w.heap.size := hb.size
  have hap : ∀ {p : Prop}, (freshS r ∧ freshH hs → p) → Apart bs p := by
    intro p hp
    cases hc : c.alias with
    | false => exact .inr (hp (h4 hc))
    | true =>
      left
      have := h5 hc
      rw [← hH.len] at this
      exact List.eq_nil_of_length_eq_zero this
  obtain ⟨k1, k2, k3⟩ := app_res hH hB h2 h3 (hap And.right)
  have hlo : ∀ (i b c n : Nat), bs[i]? = some (.blk b c n) → b < w.heap.size := fun i b c n h => (hH.lo i b c n h).2
  have hr := shift_ok hB hlo h1 (hap And.left)
  rw [hH.len] at hr
  refine ⟨bs ++ bs2, ?_, ?_, ?_, hb.trans (h3.mono hB), by rw [List.map_cons, put_defers']; exact ho.keep k2⟩
  · exact put_rep (s := { fr := s.fr, saved := s.saved, hp := s.hp ++ shiftH (lenH s.hp) hs }) (a := a) (hf.keep k2 k3 noRefL_none) (hy _ hr)
  · rw [put_saved]; exact hsv.keep k2 k3
  · rw [put_hp]; exact k1

theorem put_rel {s : S} {a : Act} {sv : List Act} {w : World} (hR : Rl w0 s a sv w) (d : Option Nat) {x : SV} {v : Value} (hx : ∀ bs, RepL w bs w0.heap.size s.fr a.tmps.toList → Hp w bs w0.heap.size s.hp → Rep w bs w0.heap.size x v) : Rl w0 (s.put d x) (a.put d v) sv w := by
  obtain ⟨bs, hf, hsv, hH, hb, ho⟩ := hR
  exact ⟨bs, put_rep hf (hx bs hf hH), repLL_map hsv, by rw [put_hp]; exact hH, hb, by rw [List.map_cons, put_defers']; exact ho⟩

/-! ### Blocks that hold no cells -/

def noCells : Obj → Bool
  | .cells .. => false
  | _ => true

theorem putObj_keepsC {w : World} {bs : List BK} {l : Nat} {o o' : Obj} (hl : w.heap[l]? = some o) (ho : noCells o = true) : KeepsC w bs (w.putObj l o') bs := by
  intro b hf cs T fz hb
  have : b ≠ l := by
    rintro rfl
    rw [hl] at hb; cases hb; cases ho
  exact ⟨(World.putObj_heap_other this).trans hb, hf⟩

theorem putObj_below {w : World} {B l : Nat} {o' : Obj} (hB : B ≤ l) (hs : l < w.heap.size) : Below B w (w.putObj l o') :=
  ⟨rfl, rfl, rfl, by simp, fun k hk => World.putObj_heap_other (by omega)⟩

theorem hp_putObj {w : World} {bs : List BK} {B l : Nat} {o o' : Obj} {hp : List HO} (hl : w.heap[l]? = some o) (ho : noCells o = true) (hf : Free bs l) (hH : Hp w bs B hp) : Hp (w.putObj l o') bs B hp :=
  ⟨hH.len, fun i => (hH.ent i).keepC (putObj_keepsC hl ho) (fun _ _ _ h _ => h) rfl (fun b c n hb => World.putObj_heap_other (hf i b c n hb)), hH.inj, fun i b c n h => by rw [World.putObj_size]; exact hH.lo i b c n h⟩

/-- A record turns. -/
theorem rl_record {w0 : World} {ks : List (Nat × Obj)} {s : S} {a : Act} {sv : List Act} {w : World} {l : Nat} {lp lp' : _root_.Go.Loop} (h : Rl ⟨w0, (l, .loop lp) :: ks⟩ s a sv w) : Rl ⟨w0, (l, .loop lp') :: ks⟩ s a sv (w.putObj l (.loop lp')) := by
  obtain ⟨bs, hf, hsv, hH, hb, ho⟩ := h
  obtain ⟨h1, h2, h3, _⟩ := ho.kn (l, .loop lp) List.mem_cons_self
  simp only at h1 h2 h3
  have hsz : l < w.heap.size := (Array.getElem?_eq_some_iff.1 h3).1
  have hk : KeepsC w bs (w.putObj l (.loop lp')) bs := putObj_keepsC h3 rfl
  have hst : Stays none bs bs := fun _ _ _ h _ => h
  have hnd := ho.nd
  simp only [List.map_cons, List.nodup_cons] at hnd
  refine ⟨bs, hf.keepC hk hst noRefL_none, hsv.keepC hk hst, hp_putObj h3 rfl h2 hH, hb.trans (putObj_below h1 hsz), ⟨?_, by simpa using hnd, ?_⟩⟩
  · intro x hx
    rcases List.mem_cons.1 hx with rfl | hx
    · exact ⟨h1, h2, World.putObj_heap_same hsz, rfl⟩
    · obtain ⟨k1, k2, k3, k4⟩ := ho.kn x (List.mem_cons_of_mem _ hx)
      refine ⟨k1, k2, (World.putObj_heap_other ?_).trans k3, k4⟩
      intro e
      exact hnd.1 (List.mem_map.2 ⟨x, hx, e⟩)
  · obtain ⟨mss, m1, m2, m3⟩ := ho.ms
    refine ⟨mss, m1, m2, fun D hD => ?_⟩
    obtain ⟨k1, k2, k3⟩ := m3 D hD
    refine ⟨k1, k2, (World.putObj_heap_other ?_).trans k3⟩
    rintro rfl
    rw [h3] at k3; cases k3

theorem rl_forget {w0 : World} {x : Nat × Obj} {ks : List (Nat × Obj)} {s : S} {a : Act} {sv : List Act} {w : World} (h : Rl ⟨w0, x :: ks⟩ s a sv w) : Rl ⟨w0, ks⟩ s a sv w := by
  obtain ⟨bs, hf, hsv, hH, hb, ho⟩ := h
  have hnd := ho.nd
  simp only [List.map_cons, List.nodup_cons] at hnd
  exact ⟨bs, hf, hsv, hH, hb, fun y hy => ho.kn y (List.mem_cons_of_mem _ hy), hnd.2, ho.ms⟩

theorem rl_record_at {w0 : World} {ks : List (Nat × Obj)} {s : S} {a : Act} {sv : List Act} {w : World} {l : Nat} {o : Obj} (h : Rl ⟨w0, (l, o) :: ks⟩ s a sv w) : w.heap[l]? = some o := by
  obtain ⟨bs, hf, hsv, hH, hb, ho⟩ := h
  exact (ho.kn (l, o) List.mem_cons_self).2.2.1

/-- The frame on top goes. -/
theorem rl_pop {w0 : Cx} {s : S} {a sa : Act} {sv : List Act} {w : World} {fr : List SV} {sv' : List (List SV)} (hs : s.saved = fr :: sv') (h : Rl w0 s a (sa :: sv) w) : Rl w0 { fr := fr, saved := sv', hp := s.hp } sa sv w := by
  obtain ⟨bs, hf, hsv, hH, hb, ho⟩ := h
  rw [hs] at hsv
  cases hsv with
  | cons _ _ _ _ g1 g2 =>
    refine ⟨bs, g1, g2, hH, hb, ho.kn, ho.nd, ?_⟩
    obtain ⟨mss, m1, m2, m3⟩ := ho.ms
    cases mss with
    | nil => simp at m1
    | cons m mss =>
      simp only [List.map_cons, List.cons.injEq] at m1
      simp only [List.flatten_cons] at m2 m3
      refine ⟨mss, by simpa using m1.2, (List.nodup_append.1 m2).2.1, fun D hD => m3 D (List.mem_append.2 (.inr hD))⟩

theorem Oth.push {w : World} {bs : List BK} {B : Nat} {ks : List (Nat × Obj)} {as : List (List Deferred)} (h : Oth w bs B ks as) : Oth w bs B ks ([] :: as) := by
  obtain ⟨mss, m1, m2, m3⟩ := h.ms
  exact ⟨h.kn, h.nd, [] :: mss, by simpa using m1, by simpa using m2, by simpa using m3⟩

theorem Oth.pop {w : World} {bs : List BK} {B : Nat} {ks : List (Nat × Obj)} {d : List Deferred} {as : List (List Deferred)} (h : Oth w bs B ks (d :: as)) : Oth w bs B ks as := by
  obtain ⟨mss, m1, m2, m3⟩ := h.ms
  cases mss with
  | nil => simp at m1
  | cons m mss =>
    simp only [List.map_cons, List.cons.injEq] at m1
    simp only [List.flatten_cons] at m2 m3
    exact ⟨h.kn, h.nd, mss, m1.2, (List.nodup_append.1 m2).2.1, fun D hD => m3 D (List.mem_append.2 (.inr hD))⟩

/-- The marks are taken. -/
theorem leaves_ok {fn : Func} {R : Ending → World → Prop} {w0 : Cx} {s : S} {sv : List Act} : ∀ (ms : List Nat) {a : Act} {w : World}, a.defers = ms.map mark → Rl w0 s a sv w →
    (∀ w', Rl w0 s { a with defers := [] } sv w' → ∃ v, (results fn a.tmps).run P w' = .ok v w' ∧ R (.returned v) w') → LeavesInM (Wd none) 0 P fn a.tmps R a.defers .returning w
  | [], a, w, ha, hR, h => by
    obtain ⟨tmps, defers⟩ := a
    simp only [List.map_nil] at ha
    subst ha
    exact h w hR
  | D :: ms, a, w, ha, hR, h => by
    obtain ⟨tmps, defers⟩ := a
    simp only at ha
    subst ha
    obtain ⟨bs, hf, hsv, hH, hb, ho⟩ := hR
    obtain ⟨mss, m1, m2, m3⟩ := ho.ms
    have hinj : ∀ {a b : List Nat}, a.map mark = b.map mark → a = b := by
      intro a
      induction a with
      | nil => intro b h; cases b with
        | nil => rfl
        | cons => cases h
      | cons x a ih => intro b h; cases b with
        | nil => cases h
        | cons y b =>
          simp only [List.map_cons, List.cons.injEq, mark, Deferred.mk.injEq, Target.collected.injEq, and_true] at h
          rw [h.1, ih h.2]
    cases mss with
    | nil => simp at m1
    | cons m mss =>
      simp only [List.map_cons, List.cons.injEq] at m1
      have : m = D :: ms := (hinj (a := D :: ms) (b := m) (by simpa using m1.1)).symm
      subst this
      simp only [List.flatten_cons, List.cons_append, List.nodup_cons] at m2
      obtain ⟨d1, d2, d3⟩ := m3 D (by simp)
      have hsz : D < w.heap.size := (Array.getElem?_eq_some_iff.1 d3).1
      have hk : KeepsC w bs (w.putObj D (.deferred none)) bs := putObj_keepsC d3 rfl
      have hst : Stays none bs bs := fun _ _ _ h _ => h
      have hnext : Rl w0 s { tmps := tmps, defers := ms.map mark } sv (w.putObj D (.deferred none)) := by
        refine ⟨bs, hf.keepC hk hst noRefL_none, hsv.keepC hk hst, hp_putObj d3 rfl d2 hH, hb.trans (putObj_below d1 hsz), ⟨?_, ho.nd, ms :: mss, ?_, ?_, ?_⟩⟩
        · intro x hx
          obtain ⟨k1, k2, k3, k4⟩ := ho.kn x hx
          refine ⟨k1, k2, (World.putObj_heap_other ?_).trans k3, k4⟩
          intro e
          rw [e, d3] at k3
          have k5 := Option.some.inj k3
          rw [← k5] at k4; cases k4
        · simp only [List.map_cons, List.cons.injEq]; exact ⟨trivial, m1.2⟩
        · simpa using m2.2
        · intro D' hD'
          have hne : D' ≠ D := by rintro rfl; exact m2.1 (by simpa using hD')
          obtain ⟨k1, k2, k3⟩ := m3 D' (by simp only [List.flatten_cons, List.cons_append, List.mem_cons]; right; simpa using hD')
          exact ⟨k1, k2, (World.putObj_heap_other hne).trans k3⟩
      have ih := leaves_ok (fn := fn) (R := R) ms (a := { tmps := tmps, defers := ms.map mark }) rfl hnext h
      exact ⟨by simp, .inl ⟨D, _, rfl, run_takeDeferred d3, ih⟩⟩

theorem alloc_keeps {w : World} {bs : List BK} (o : Obj) : Keeps w bs (w.alloc o) bs := fun b hf _ ho => ⟨(Below.heap_alloc w o b (Array.getElem?_eq_some_iff.1 ho).1).trans ho, hf⟩

/-- A loop over a function is entered: the block for deferred calls, the record. -/
theorem rl_enter {w0 : World} {ks : List (Nat × Obj)} {s : S} {a : Act} {sv : List Act} {w : World} {xs : List SV} {tmps : Array Value} {lp : _root_.Go.Loop} {bs : List BK} (hf : RepL w bs w0.heap.size s.fr a.tmps.toList) (hsv : RepLL w bs w0.heap.size s.saved (sv.map (·.tmps.toList))) (hH : Hp w bs w0.heap.size s.hp) (hb : Below w0.heap.size w0 w) (ho : Oth w bs w0.heap.size ks ((a :: sv).map (·.defers)))
    (hx : RepL w bs w0.heap.size xs tmps.toList) :
    Rl ⟨w0, (w.heap.size + 1, .loop lp) :: ks⟩ { fr := xs, saved := s.fr :: s.saved, hp := s.hp } { tmps := tmps, defers := [] } ({ a with defers := [mark w.heap.size] ++ a.defers } :: sv) ((w.alloc (.deferred (some []))).alloc (.loop lp)) := by
  have hB : w0.heap.size ≤ w.heap.size := hb.size
  have hk1 : Keeps w bs (w.alloc (.deferred (some []))) bs := alloc_keeps _
  have hk2 : Keeps (w.alloc (.deferred (some []))) bs ((w.alloc (.deferred (some []))).alloc (.loop lp)) bs := alloc_keeps _
  have hk : Keeps w bs ((w.alloc (.deferred (some []))).alloc (.loop lp)) bs := fun b hf o ho => hk2 b (hk1 b hf o ho).2 o (hk1 b hf o ho).1
  have hst : Stays none bs bs := fun _ _ _ h _ => h
  have hs1 : (w.alloc (.deferred (some []))).heap.size = w.heap.size + 1 := World.size_alloc _ _
  have hs2 : ((w.alloc (.deferred (some []))).alloc (.loop lp)).heap.size = w.heap.size + 2 := by rw [World.size_alloc, hs1]
  have hD : ((w.alloc (.deferred (some []))).alloc (.loop lp)).heap[w.heap.size]? = some (.deferred (some [])) := (Below.heap_alloc _ _ _ (by rw [hs1]; omega)).trans (World.alloc_heap_new w _)
  have hl : ((w.alloc (.deferred (some []))).alloc (.loop lp)).heap[w.heap.size + 1]? = some (.loop lp) := by
    have := World.alloc_heap_new (w.alloc (.deferred (some []))) (.loop lp)
    rwa [hs1] at this
  have hold : ∀ k, k < w.heap.size → ((w.alloc (.deferred (some []))).alloc (.loop lp)).heap[k]? = w.heap[k]? := fun k hk => (Below.heap_alloc _ _ _ (by rw [hs1]; omega)).trans (Below.heap_alloc _ _ _ hk)
  have hfree : ∀ k, w.heap.size ≤ k → Free bs k := fun k hk i b c n hi he => by have := (hH.lo i b c n hi).2; omega
  have hbb : Below w0.heap.size w ((w.alloc (.deferred (some []))).alloc (.loop lp)) := ((Below.refl _ w).alloc hB _).alloc (by rw [hs1]; exact Nat.le_trans hB (by omega)) _
  refine ⟨bs, hx.keep hk hst noRefL_none, .cons _ _ _ _ (hf.keep hk hst noRefL_none) (hsv.keep hk hst), ⟨hH.len, fun i => (hH.ent i).keep hk hst rfl (fun b c n hi => hold b (hH.lo i b c n hi).2), hH.inj, fun i b c n hi => ?_⟩, hb.trans hbb, ⟨?_, ?_, ?_⟩⟩
  · have := hH.lo i b c n hi; rw [hs2]; exact ⟨this.1, by omega⟩
  · intro x hx
    rcases List.mem_cons.1 hx with rfl | hx
    · exact ⟨by simp only; exact Nat.le_trans hB (by omega), hfree _ (by simp only; omega), hl, rfl⟩
    · exact (ho.keep hk).kn x hx
  · simp only [List.map_cons, List.nodup_cons]
    refine ⟨fun hm => ?_, ho.nd⟩
    obtain ⟨x, hx, he⟩ := List.mem_map.1 hm
    have := (Array.getElem?_eq_some_iff.1 (ho.kn x hx).2.2.1).1
    omega
  · obtain ⟨mss, m1, m2, m3⟩ := (ho.keep hk).ms
    obtain ⟨mss', m1', m2', m3'⟩ := ho.ms
    cases mss' with
    | nil => simp at m1'
    | cons m mss' =>
      simp only [List.map_cons, List.cons.injEq] at m1'
      refine ⟨[] :: (w.heap.size :: m) :: mss', ?_, ?_, ?_⟩
      · simp only [List.map_cons, List.map_nil, List.cons.injEq, List.cons_append, List.nil_append, true_and]
        exact ⟨m1'.1, m1'.2⟩
      · simp only [List.flatten_cons, List.nil_append, List.cons_append, List.nodup_cons]
        refine ⟨fun hm => ?_, by simpa using m2'⟩
        have := m3' w.heap.size (by simpa using hm)
        have := (Array.getElem?_eq_some_iff.1 this.2.2).1
        omega
      · intro D hD'
        simp only [List.flatten_cons, List.nil_append, List.cons_append, List.mem_cons] at hD'
        rcases hD' with rfl | hD'
        · exact ⟨hB, hfree _ (Nat.le_refl _), hD⟩
        · obtain ⟨k1, k2, k3⟩ := m3' D (by simpa using hD')
          exact ⟨k1, k2, (hk _ k2 _ k3).1⟩

theorem rl_marks {w0 : Cx} {s : S} {a : Act} {sv : List Act} {w : World} (h : Rl w0 s a sv w) : ∃ ms : List Nat, a.defers = ms.map mark := by
  obtain ⟨bs, hf, hsv, hH, hb, ho⟩ := h
  obtain ⟨mss, m1, _⟩ := ho.ms
  cases mss with
  | nil => simp at m1
  | cons m mss => simp only [List.map_cons, List.cons.injEq] at m1; exact ⟨m, m1.1⟩

end
end Go.Vx
