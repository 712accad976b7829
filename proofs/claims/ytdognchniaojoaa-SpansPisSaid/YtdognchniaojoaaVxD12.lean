/- Regions that draw their order: what 'drawOf' gives. -/
import Derived.Test.YtdognchniaojoaaVxD11
set_option linter.all false
namespace Go.Vx
open Go.RowKit

theorem lenE_eq : ∀ l : List SV, lenE l = lenL l
  | [] => rfl
  | _ :: l => congrArg (· + 1) (lenE_eq l)

/-- What a silent alloc is as an operation. -/
def AL.op : AL → VO
  | .box z => .alloc z
  | .arr n size z => .allocArr n size z
def AL.ok : AL → Prop
  | .box _ => True
  | .arr n size z => lenL z = n * size

theorem silentOf_inv {v : VOp} {d : Nat} {z : AL} (h : silentOf v = some (d, z)) : v.dst = some d ∧ v.g = none ∧ v.op = z.op ∧ z.ok := by
  unfold silentOf at h
  split at h
  · cases h; exact ⟨rfl, rfl, rfl, trivial⟩
  · rename_i n size z' _
    cases hb : Nat.beq (lenE z') (n * size) with
    | true => rw [hb] at h; cases h; exact ⟨rfl, rfl, rfl, (lenE_eq z').symm.trans (Nat.eq_of_beq_eq_true hb)⟩
    | false => rw [hb] at h; cases h
  · cases h

theorem vop_alloc' {P : Program} {o : Oper} {z : AL} {ops : List Operand} {elem : TypeId} (ho : o.op = .alloc elem) (h : vop P o = some (AL.op z, ops)) (hk : AL.ok z) : z.is P elem := by
  obtain ⟨dst, op, type, pos, after, guard⟩ := o
  simp only at ho
  subst ho
  unfold vop at h
  simp only at h
  split at h
  · obtain ⟨_, hz, h⟩ := Option.bind_eq_some_iff.1 h
    obtain ⟨_, _, h⟩ := Option.map_eq_some_iff.1 h
    cases z <;> cases h
    exact ⟨hz, hk⟩
  · obtain ⟨_, hz, h⟩ := Option.map_eq_some_iff.1 h
    cases z <;> cases h
    exact hz

theorem allocOk_at : ∀ {os : List Oper} {vs : List VOp}, allocOk os vs = true → ∀ (i : Nat) (o : Oper) (v : VOp), os[i]? = some o → vs[i]? = some v → (silentOf v).isSome = true → ∃ e, o.op = .alloc e
  | [], _, _, i, o, v, h, _, _ => by simp at h
  | _ :: _, [], _, i, o, v, _, h, _ => by simp at h
  | o' :: os, v' :: vs, h, 0, o, v, h1, h2, h3 => by
    simp only [List.getElem?_cons_zero, Option.some.injEq] at h1 h2
    subst h1; subst h2
    simp only [allocOk, Bool.and_eq_true] at h
    have h := h.1
    cases hs : silentOf v' with
    | none => rw [hs] at h3; cases h3
    | some x =>
      rw [hs] at h
      simp only at h
      split at h
      · exact ⟨_, ‹_›⟩
      · cases h
  | o' :: os, v' :: vs, h, i + 1, o, v, h1, h2, h3 => by
    simp only [allocOk, Bool.and_eq_true] at h
    exact allocOk_at h.2 i o v (by simpa using h1) (by simpa using h2) h3

/-- The pending allocs, numbered from n on. -/
def silP : Nat → List (Nat × Nat × AL) → List (Nat × Pend)
  | _, [] => []
  | n, (j, d, z) :: l => (j, ⟨n, d, z⟩) :: silP (n + 1) l

theorem mem_silP {j : Nat} {p : Pend} : ∀ {l : List (Nat × Nat × AL)} {n : Nat}, (j, p) ∈ silP n l → n ≤ p.idx ∧ (j, p.slot, p.cells) ∈ l
  | [], _, h => by cases h
  | (j', d, z) :: l, n, h => by
    rcases List.mem_cons.1 h with h | h
    · cases h; exact ⟨Nat.le_refl _, List.mem_cons_self⟩
    · have := mem_silP h; exact ⟨by omega, List.mem_cons_of_mem _ this.2⟩

theorem silP_mem {j d : Nat} {z : AL} : ∀ {l : List (Nat × Nat × AL)} {n : Nat}, (j, d, z) ∈ l → ∃ p, (j, p) ∈ silP n l ∧ p.slot = d ∧ p.cells = z
  | [], _, h => by cases h
  | (j', d', z') :: l, n, h => by
    rcases List.mem_cons.1 h with h | h
    · cases h; exact ⟨_, List.mem_cons_self, rfl, rfl⟩
    · obtain ⟨p, h1, h2⟩ := silP_mem (n := n + 1) h
      exact ⟨p, List.mem_cons_of_mem _ h1, h2⟩

theorem silP_fst : ∀ {l : List (Nat × Nat × AL)} {n : Nat}, (silP n l).map (·.1) = l.map (·.1)
  | [], _ => rfl
  | (j, d, z) :: l, n => by simp only [silP, List.map_cons, silP_fst]

theorem silOf_ge {x : Nat × Nat × AL} {l : List VOp} {j : Nat} (h : x ∈ silOf l j) : j ≤ x.1 := by
  obtain ⟨k, d, z⟩ := x
  obtain ⟨i, v, _, h2, _⟩ := mem_silOf.1 h
  simp only; omega

theorem silOf_nodup : ∀ {l : List VOp} {j : Nat}, ((silOf l j).map (·.1)).Nodup
  | [], _ => .nil
  | v :: l, j => by
    unfold silOf
    cases silentOf v with
    | none => exact silOf_nodup
    | some r =>
      obtain ⟨d, z⟩ := r
      simp only [List.map_cons, List.nodup_cons]
      refine ⟨fun h => ?_, silOf_nodup⟩
      obtain ⟨x, hx, h⟩ := List.mem_map.1 h
      have := silOf_ge hx; omega

theorem distinctB_nodup : ∀ {l : List Nat}, distinctB l = true → l.Nodup
  | [], _ => .nil
  | d :: l, h => by
    simp only [distinctB, Bool.and_eq_true, Bool.not_eq_true'] at h
    rw [List.nodup_cons]
    refine ⟨fun hm => ?_, distinctB_nodup h.2⟩
    have : l.contains d = true := by rw [List.contains_iff_mem]; exact hm
    rw [h.1] at this; cases this

theorem silP_apart : ∀ {l : List (Nat × Nat × AL)} {n : Nat}, (l.map (·.2.1)).Nodup → ∀ x ∈ silP n l, ∀ y ∈ silP n l, x.1 ≠ y.1 → x.2.slot ≠ y.2.slot ∧ x.2.idx ≠ y.2.idx
  | [], _, _, x, hx, _, _, _ => by cases hx
  | (j, d, z) :: l, n, hn, x, hx, y, hy, hxy => by
    simp only [List.map_cons, List.nodup_cons] at hn
    have key : ∀ u ∈ silP (n + 1) l, u.2.slot ≠ d ∧ u.2.idx ≠ n := by
      rintro ⟨k, p⟩ hu
      obtain ⟨h1, h2⟩ := mem_silP hu
      refine ⟨fun e => hn.1 (List.mem_map.2 ⟨_, h2, e⟩), ?_⟩
      simp only; omega
    rcases List.mem_cons.1 hx with rfl | hx <;> rcases List.mem_cons.1 hy with rfl | hy
    · exact absurd rfl hxy
    · exact ⟨fun e => (key y hy).1 e.symm, fun e => (key y hy).2 e.symm⟩
    · exact key x hx
    · exact silP_apart hn.2 x hx y hy hxy

theorem pends_perm : ∀ {l : List (Nat × Nat × AL)} {n : Nat} {Pd : List Pend}, (pends n (l.map (·.2)) Pd).Perm ((silP n l).map (·.2) ++ Pd)
  | [], _, _ => List.Perm.refl _
  | (j, d, z) :: l, n, Pd => by
    simp only [List.map_cons, pends, silP, List.cons_append]
    exact pends_perm.trans List.perm_middle

theorem distinct_of {al : List (Nat × AL)} : ∀ {ds : List Nat}, (al.map (·.1)).Nodup → (∀ d ∈ al.map (·.1), d ∉ ds) → distinct al ds = true := by
  induction al with
  | nil => intros; rfl
  | cons x al ih =>
    obtain ⟨d, z⟩ := x
    intro ds hn hd
    simp only [List.map_cons, List.nodup_cons] at hn
    simp only [distinct, Bool.and_eq_true, Bool.not_eq_true']
    refine ⟨?_, ih hn.2 fun e he hm => ?_⟩
    · cases hc : ds.contains d with
      | false => rfl
      | true => rw [List.contains_iff_mem] at hc; exact absurd hc (hd d (by simp))
    · rcases List.mem_cons.1 hm with rfl | hm
      · exact hn.1 he
      · exact hd e (by simp only [List.map_cons, List.mem_cons]; exact .inr he) hm

theorem silOk_at {clo : Nat → Nat → Bool} {sil : List (Nat × Nat × AL)} : ∀ {l : List DT} {j : Nat}, silOk clo sil l j = true → ∀ (k : Nat) (v : VOp) (chk : List (Nat × X)), l[k]? = some (.op v chk) →
    ∀ x ∈ sil, (clo (j + k) x.1 = true ∨ (x.2.1 ∉ v.reads ∧ v.op.isAppend = false)) ∧ v.dst ≠ some x.2.1
  | [], _, _, k, v, chk, h, _, _ => by simp at h
  | .silent _ :: l, j, h, 0, v, chk, hk, _, _ => by simp at hk
  | .silent _ :: l, j, h, k + 1, v, chk, hk, x, hx => by
    have := silOk_at (l := l) (j := j + 1) h k v chk (by simpa using hk) x hx
    rwa [show j + 1 + k = j + (k + 1) by omega] at this
  | .op u c :: l, j, h, 0, v, chk, hk, x, hx => by
    simp only [List.getElem?_cons_zero, Option.some.injEq, DT.op.injEq] at hk
    obtain ⟨rfl, rfl⟩ := hk
    simp only [silOk, Bool.and_eq_true, List.all_eq_true] at h
    have := h.1 x hx
    simp only [Bool.or_eq_true, Bool.and_eq_true, Bool.not_eq_true'] at this
    refine ⟨?_, ?_⟩
    · rcases this.1 with h1 | ⟨h1, h2⟩
      · exact .inl h1
      · exact .inr ⟨fun hm => absurd ((List.contains_iff_mem (a := x.2.1)).2 hm) (by rw [h1]; simp), h2⟩
    · intro e
      have := this.2
      rw [e] at this
      simp at this
  | .op u c :: l, j, h, k + 1, v, chk, hk, x, hx => by
    simp only [silOk, Bool.and_eq_true] at h
    have := silOk_at (l := l) (j := j + 1) h.2 k v chk (by simpa using hk) x hx
    rwa [show j + 1 + k = j + (k + 1) by omega] at this

theorem belowOk_at : ∀ {l : List Nat} {j : Nat}, belowOk l j = true → ∀ k, l.getD k 0 < 2 ^ (j + k)
  | [], j, _, k => by simp; exact Nat.two_pow_pos _
  | m :: l, j, h, 0 => by
    simp only [belowOk, Bool.and_eq_true] at h
    have := h.1
    simp only [Nat.blt_eq] at this
    simpa using this
  | m :: l, j, h, k + 1 => by
    simp only [belowOk, Bool.and_eq_true] at h
    have := belowOk_at h.2 k
    rw [show j + 1 + k = j + (k + 1) by omega] at this
    simpa using this

theorem frees_at {clo : Nat → Nat → Bool} {tab : List DT} : ∀ (n j i : Nat), (frees clo tab n j).getD i false = true → freeB clo tab (j + i) = true
  | 0, _, _, h => by simp [frees] at h
  | n + 1, j, 0, h => by simpa [frees] using h
  | n + 1, j, i + 1, h => by
    have := frees_at (clo := clo) (tab := tab) n (j + 1) i (by simpa [frees] using h)
    rwa [show j + 1 + i = j + (i + 1) by omega] at this

theorem vopsOf_length {P : Program} {all : Array Oper} : ∀ {rest : List Oper} {vs : List VOp}, vopsOf P all rest = some vs → vs.length = rest.length
  | [], vs, h => by simp only [vopsOf, Option.some.injEq] at h; subst h; rfl
  | o :: l, vs, h => by
    simp only [vopsOf] at h
    obtain ⟨x, hx, h⟩ := Option.bind_eq_some_iff.1 h
    obtain ⟨y, hy, rfl⟩ := Option.map_eq_some_iff.1 h
    simp [vopsOf_length hy]

/-- The run of such a region's operations, one after the other. -/
def dopsP (E : Env) (A : S → Prop) : List DOp → S → Prop
  | [], s => A s
  | ⟨v, chk⟩ :: l, s => chkP s (s.x (headX v.xs)) chk ∧ dopW E v (dopsP E A l) s

theorem chkP_at {s : S} {y : SV} : ∀ {l : List X}, chkP s y l → ∀ x ∈ l, apartP (s.x x) y
  | x :: l, h, z, hz => by
    rcases List.mem_cons.1 hz with rfl | hz
    · exact h.1
    · exact chkP_at h.2 z hz

theorem seqS_of {E : Env} {A : S → Prop} {tab : List DT} : ∀ {order : List Nat} {L : Array Bool} {s : S}, (∀ i ∈ order, i < tab.length) → dopsP E A (dopOf tab order) s → seqS (stepD E tab) A order L s
  | [], _, _, _, h => h
  | i :: order, L, s, hi, h => by
    have hlt := hi i List.mem_cons_self
    unfold dopOf at h
    unfold seqS stepD
    cases ht : tab[i]? with
    | none => rw [List.getElem?_eq_none_iff] at ht; omega
    | some t =>
      rw [ht] at h
      cases t with
      | silent d => exact seqS_of (fun j hj => hi j (List.mem_cons_of_mem _ hj)) h
      | op v chk =>
        simp only at h ⊢
        refine ⟨fun c hc _ => chkP_at h.1 c.2 (List.mem_map.2 ⟨c, hc, rfl⟩), dopW_mono (fun s' h' => seqS_of (fun j hj => hi j (List.mem_cons_of_mem _ hj)) h') h.2⟩

theorem seqB_lt {free : Nat → Bool} {dm : List Nat} {n : Nat} : ∀ {l : List Nat} {m : Nat}, seqB free dm n l m = true → ∀ i ∈ l, i < n
  | i :: l, m, h, j, hj => by
    simp only [seqB, Bool.and_eq_true] at h
    rcases List.mem_cons.1 hj with rfl | hj
    · have := Nat.le_of_ble_eq_true h.1.1.1; omega
    · exact seqB_lt h.2 j hj

section
variable {P : Program} {E : Env} {w0 : Cx} {rd : Option Nat}

theorem draw_sound (hE : EnvOk P E) (hm : P.follows .mixedOrders = true) {ops : Array Oper} {al : List (Nat × AL)} {dl : List DOp} (hd : drawOf P ops = some (al, dl)) {A : S → Prop} {κ : Kont} {s : S} {a : Act} {sv : List Act} {w : World} {id : Nat}
    (h : dopsP E A dl (runAl s al)) (hR : Rl w0 s a sv w) (hK : ∀ s a w, A s → Rl w0 s a sv w → κ .normal a w) : (Code.region id ops true).wpIn (Wd rd) 0 P κ a w := by
  unfold drawOf at hd
  obtain ⟨vs, hvs, hd⟩ := Option.bind_eq_some_iff.1 hd
  simp only at hd
  split at hd
  · rename_i hc
    simp only [Option.some.injEq, Prod.mk.injEq] at hd
    obtain ⟨rfl, rfl⟩ := hd
    simp only [Bool.and_eq_true] at hc
    obtain ⟨⟨⟨⟨⟨⟨⟨c0, c1⟩, c2⟩, c3⟩, c4⟩, c5⟩, c6⟩, c7⟩ := hc
    have hlen : vs.length = ops.size := by rw [vopsOf_length hvs]; simp
    have htl : ∀ (clo : Nat → Nat → Bool) (l : List VOp) (j : Nat), (tabOf clo vs l j).length = l.length := by
      intro clo l
      induction l with
      | nil => intro j; rfl
      | cons v l ih => intro j; simp only [tabOf, List.length_cons, ih]
    have hsn : ((silOf vs 0).map (·.2.1)).Nodup := distinctB_nodup c5
    have hget : ∀ (i : Nat) (v : VOp), vs[i]? = some v → ∃ o, ops[i]? = some o ∧ vopOf P ops o = some v := by
      intro i v hv
      obtain ⟨o, h1, h2⟩ := vopsOf_get hvs i v hv
      exact ⟨o, by simpa using h1, h2⟩
    have hok : RegOk P ops (tabOf (cloOf (clos (directs .any ops))) vs vs 0) (silP (lenH s.hp) (silOf vs 0)) (cloOf (clos (directs .any ops))) := by
      refine ⟨by rw [silP_fst]; exact silOf_nodup, silP_apart hsn, fun i d ht => ?_, fun i v chk ht => ?_⟩
      · rw [tabOf_get] at ht
        obtain ⟨v, hv, he⟩ := Option.map_eq_some_iff.1 ht
        unfold entryOf at he
        cases hs : silentOf v with
        | none => rw [hs] at he; cases he
        | some x =>
          obtain ⟨d', z⟩ := x
          rw [hs] at he; cases he
          obtain ⟨o, ho, hvo⟩ := hget i v hv
          obtain ⟨e, hop⟩ := allocOk_at c0 i o v (by simpa using ho) hv (by rw [hs]; rfl)
          obtain ⟨g1, g2, g3, g4⟩ := silentOf_inv hs
          obtain ⟨xs, k1, k2, k3, k4, k5⟩ := vopOf_inv' hvo
          obtain ⟨p, hp, hp1, hp2⟩ := silP_mem (n := lenH s.hp) (mem_silOf.2 ⟨i, v, hv, by omega, hs⟩ : (i, d, z) ∈ silOf vs 0)
          refine ⟨p, o, e, hp, ho, hop, ?_, ?_, ?_⟩
          · rcases k5 with k5 | ⟨_, _, _, _, _, k5⟩
            · exact k5.1
            · rw [g2] at k5; cases k5
          · rw [g3] at k1; rw [hp2]; exact vop_alloc' hop k1 g4
          · rw [← k4, g1, hp1]
      · rw [tabOf_get] at ht
        obtain ⟨u, hu, he⟩ := Option.map_eq_some_iff.1 ht
        unfold entryOf at he
        cases hs : silentOf u with
        | some x => rw [hs] at he; cases he
        | none =>
          rw [hs] at he
          simp only [DT.op.injEq] at he
          obtain ⟨rfl, hchk⟩ := he
          refine ⟨fun p hp => ?_, hget i u hu, fun x hx => ?_⟩
          · obtain ⟨_, hm⟩ := mem_silP hp
            obtain ⟨i', v', h1, h2, h3⟩ := mem_silOf.1 hm
            have : i' = i := by omega
            subst this
            rw [hu] at h1; cases h1
            rw [hs] at h3; cases h3
          · obtain ⟨k, p⟩ := x
            have := silOk_at c4 i u chk (by rw [tabOf_get, hu]; simp [entryOf, hs, ← hchk]) (k, p.slot, p.cells) (mem_silP hx).2
            simpa using this
    refine region_sound (free := fun i => (frees (cloOf (clos (directs .any ops))) (tabOf (cloOf (clos (directs .any ops))) vs vs 0) ops.size 0).getD i false) hE hm (Nat.eq_of_beq_eq_true c1) c2 hok (fun i hi => ?_) (Nat.eq_of_beq_eq_true c6) c7
      (seqS_of (fun i hi => by rw [htl, hlen]; exact seqB_lt c7 i hi) h) ?_ hK (fun x hx => ?_) (fun i o ho e he hb => ?_)
    · have := frees_at _ _ _ hi
      rw [Nat.zero_add] at this
      unfold freeB at this
      split at this
      · exact .inl ⟨_, ‹_›⟩
      · rename_i v hv
        simp only [Bool.and_eq_true] at this
        refine .inr ⟨v, hv, this.1, fun j t ht => ?_⟩
        have := commAll_at this.2 j t ht
        rwa [Nat.zero_add] at this
      · cases this
    · have h0 := pend_all (w0 := w0) ((silOf vs 0).map (·.2)) [] s (distinct_of (by rw [List.map_map]; exact hsn) (fun _ _ => by simp)) (pr_nil (rl_drawn hR (w.drawn + 1)))
      have := pends_perm (l := silOf vs 0) (n := lenH s.hp) (Pd := [])
      rw [List.append_nil] at this
      exact pr_perm this h0
    · obtain ⟨k, p⟩ := x
      obtain ⟨i, v, h1, h2, _⟩ := mem_silOf.1 (mem_silP hx).2
      have := (List.getElem?_eq_some_iff.1 h1).1
      simp only; omega
    · have hlt := belowOk_at c3 i
      rw [directs_at ho, Nat.zero_add] at hlt
      have hbit : (maskL .any o.after.toList).testBit e.on = true := maskL_spec.2 ⟨e, by simpa using he, hb, rfl⟩
      rcases Nat.lt_or_ge e.on i with h' | h'
      · exact h'
      · have := Nat.testBit_lt_two_pow (Nat.lt_of_lt_of_le hlt (Nat.pow_le_pow_right (by omega) h'))
        rw [this] at hbit; cases hbit
  · cases hd

end
end Go.Vx
