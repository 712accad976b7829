/- Layouts, walked: Rows. -/
import Derived.Test.YtojaibhjfeojjaaMgX12c
import Derived.Test.YtojaibhjfeojjaaProg
import Derived.Test.YtojaibhjfeojjaaRows
/- Layouts, walked: Rows. -/
set_option linter.all false
namespace Go.Proofs.Ytojaibhjfeojjaa
open Go Go.Vx
set_option maxRecDepth 100000
set_option maxHeartbeats 4000000

def v11 : VF := { ntmps := 130, res := [.tmp 4, .tmp 5], body :=
 (.seq (.region [⟨(some 2), none, .box, [.tm 0]⟩,
  ⟨(some 4), none, .mov, [.cn .nil]⟩,
  ⟨(some 5), none, .mov, [.cn (.int .i64 0)]⟩])
 (.seq (.block 0 (.seq (.region [⟨(some 17), none, (.fieldAddr 5), [.tm 2]⟩,
  ⟨(some 18), none, (.load false 1), [.tm 17]⟩,
  ⟨(some 19), none, .len, [.tm 18]⟩,
  ⟨(some 20), none, (.cmp .gtr), [.tm 19, .cn (.int .i64 8)]⟩,
  ⟨(some 21), none, .mov, [.tm 20]⟩,
  ⟨(some 22), (some (21, false)), .mov, [.tm 1]⟩,
  ⟨(some 23), (some (21, false)), .len, [.tm 22]⟩,
  ⟨(some 24), (some (21, false)), (.cmp .gtr), [.tm 23, .cn (.int .i64 200)]⟩,
  ⟨(some 25), none, .or, [.tm 21, .tm 24]⟩,
  ⟨(some 16), none, .mov, [.tm 25]⟩])
 (.cond (.tm 16) (.seq (.region [⟨(some 4), none, .mov, [.cn .nil]⟩,
  ⟨(some 5), none, .mov, [.cn (.int .i64 3)]⟩])
 .ret)
  (.seq (.region [⟨(some 27), none, (.load true 6), [.tm 2]⟩,
  ⟨(some 28), none, (.call 33), [.tm 27]⟩,
  ⟨(some 29), none, .mov, [.tm 28]⟩,
  ⟨(some 30), (some (29, false)), .mov, [.tm 1]⟩,
  ⟨(some 31), (some (29, false)), (.call 34), [.tm 30, .cn (.fn (.func 35) [] [])]⟩,
  ⟨(some 32), none, .or, [.tm 29, .tm 31]⟩,
  ⟨(some 26), none, .mov, [.tm 32]⟩])
 (.cond (.tm 26) (.seq (.region [⟨(some 4), none, .mov, [.cn .nil]⟩,
  ⟨(some 5), none, .mov, [.cn (.int .i64 2)]⟩])
 .ret)
  .skip)))))
 (.seq (.region [⟨(some 33), none, .mov, [.tm 1]⟩,
  ⟨(some 34), none, .len, [.tm 33]⟩,
  ⟨(some 35), none, (.ari .add), [.tm 34, .cn (.int .i64 1)]⟩,
  ⟨(some 36), none, (.make 4 32 [(.int .i64 0), (.int .i64 0), (.int .i64 0), (.bool false)]), [.tm 35, .tm 35]⟩,
  ⟨(some 6), none, .mov, [.tm 36]⟩])
 (.seq (.region [⟨(some 37), none, .mov, [.tm 6]⟩,
  ⟨(some 38), none, .mov, [.tm 1]⟩,
  ⟨(some 39), none, .len, [.tm 38]⟩,
  ⟨(some 40), none, (.idxAddr 4), [.tm 37, .tm 39]⟩,
  ⟨(some 41), none, (.fieldAddr 3), [.tm 40]⟩,
  ⟨none, none, (.store 1), [.tm 41, .cn (.bool true)]⟩])
 (.seq (.seq (.region [⟨(some 42), none, .mov, [.tm 1]⟩,
  ⟨(some 43), none, .len, [.tm 42]⟩,
  ⟨(some 44), none, (.ari .sub), [.tm 43, .cn (.int .i64 1)]⟩,
  ⟨(some 7), none, .mov, [.tm 44]⟩])
 (.block 1 (.loop (.seq (.seq (.region [⟨(some 45), none, .mov, [.tm 7]⟩,
  ⟨(some 46), none, (.cmp .geq), [.tm 45, .cn (.int .i64 0)]⟩])
 (.cond (.tm 46) .skip
  (.exit 1)))
 (.seq (.block 2 (.region [⟨(some 49), none, .mov, [.tm 6]⟩,
  ⟨(some 50), none, .mov, [.tm 7]⟩,
  ⟨(some 51), none, (.load true 6), [.tm 2]⟩,
  ⟨(some 52), none, .mov, [.tm 1]⟩,
  ⟨(some 53), none, .mov, [.tm 6]⟩,
  ⟨(some 54), none, .mov, [.tm 7]⟩,
  ⟨(some 55), none, (.call 36), [.tm 51, .tm 52, .tm 53, .tm 54]⟩,
  ⟨(some 56), none, (.idxAddr 4), [.tm 49, .tm 50]⟩,
  ⟨none, none, (.store 4), [.tm 56, .tm 55]⟩]))
 (.region [⟨(some 47), none, .mov, [.tm 7]⟩,
  ⟨(some 48), none, (.ari .sub), [.tm 47, .cn (.int .i64 1)]⟩,
  ⟨(some 7), none, .mov, [.tm 48]⟩]))))))
 (.seq (.seq (.draw [] [⟨⟨(some 57), none, .mov, [.tm 6]⟩, []⟩,
  ⟨⟨(some 58), none, (.idxAddr 4), [.tm 57, .cn (.int .i64 0)]⟩, []⟩,
  ⟨⟨(some 59), none, (.fieldAddr 3), [.tm 58]⟩, []⟩,
  ⟨⟨(some 60), none, (.load false 1), [.tm 59]⟩, []⟩,
  ⟨⟨(some 61), none, .not, [.tm 60]⟩, []⟩,
  ⟨⟨(some 62), none, .mov, [.tm 61]⟩, []⟩,
  ⟨⟨(some 63), (some (62, false)), .mov, [.tm 6]⟩, []⟩,
  ⟨⟨(some 64), (some (62, false)), (.idxAddr 4), [.tm 63, .cn (.int .i64 0)]⟩, []⟩,
  ⟨⟨(some 65), (some (62, false)), (.fieldAddr 0), [.tm 64]⟩, []⟩,
  ⟨⟨(some 66), (some (62, false)), (.load false 1), [.tm 65]⟩, []⟩,
  ⟨⟨(some 67), (some (62, false)), (.fieldAddr 1), [.tm 2]⟩, []⟩,
  ⟨⟨(some 68), (some (62, false)), (.load false 1), [.tm 67]⟩, []⟩,
  ⟨⟨(some 69), (some (62, false)), (.cmp .gtr), [.tm 66, .tm 68]⟩, []⟩,
  ⟨⟨(some 70), none, .or, [.tm 62, .tm 69]⟩, []⟩])
 (.cond (.tm 70) (.seq (.region [⟨(some 4), none, .mov, [.cn .nil]⟩,
  ⟨(some 5), none, .mov, [.cn (.int .i64 4)]⟩])
 .ret)
  .skip))
 (.seq (.region [⟨(some 8), none, .mov, [.cn .nil]⟩])
 (.seq (.region [⟨(some 9), none, .mov, [.cn (.int .i64 0)]⟩])
 (.seq (.seq (.region [⟨(some 10), none, .mov, [.cn (.int .i64 0)]⟩])
 (.block 3 (.loop (.seq (.seq (.region [⟨(some 71), none, .mov, [.tm 10]⟩,
  ⟨(some 72), none, .mov, [.tm 1]⟩,
  ⟨(some 73), none, .len, [.tm 72]⟩,
  ⟨(some 74), none, (.cmp .lss), [.tm 71, .tm 73]⟩])
 (.cond (.tm 74) .skip
  (.exit 3)))
 (.block 4 (.seq (.region [⟨(some 75), none, .mov, [.tm 1]⟩,
  ⟨(some 76), none, .mov, [.tm 10]⟩,
  ⟨(some 77), none, .mov, [.tm 10]⟩,
  ⟨(some 78), none, .mov, [.tm 6]⟩,
  ⟨(some 79), none, .mov, [.tm 10]⟩,
  ⟨(some 80), none, (.idxAddr 4), [.tm 78, .tm 79]⟩,
  ⟨(some 81), none, (.fieldAddr 2), [.tm 80]⟩,
  ⟨(some 82), none, (.load false 1), [.tm 81]⟩,
  ⟨(some 83), none, (.ari .add), [.tm 77, .tm 82]⟩,
  ⟨(some 84), none, (.slice 2 true true), [.tm 75, .tm 76, .tm 83]⟩,
  ⟨(some 11), none, .mov, [.tm 84]⟩])
 (.seq (.region [⟨(some 85), none, .mov, [.tm 11]⟩,
  ⟨(some 86), none, (.call 37), [.tm 85, .cn (.fn (.func 38) [] [])]⟩,
  ⟨(some 87), none, (.field false 0 1), [.tm 86]⟩,
  ⟨(some 12), none, .mov, [.tm 87]⟩])
 (.seq (.region [⟨(some 13), none, .mov, [.cn (.int .i64 0)]⟩])
 (.seq (.seq (.region [⟨(some 88), none, .mov, [.tm 11]⟩,
  ⟨(some 89), none, .len, [.tm 88]⟩,
  ⟨(some 90), none, .mov, [.cn (.int .i64 0)]⟩])
 (.block 5 (.loop (.seq (.region [⟨(some 91), none, (.cmp .lss), [.tm 90, .tm 89]⟩])
 (.seq (.cond (.tm 91) .skip
  (.exit 5))
 (.seq (.block 6 (.seq (.region [⟨(some 92), none, (.idxAddr 2), [.tm 88, .tm 90]⟩,
  ⟨(some 93), none, (.load true 2), [.tm 92]⟩,
  ⟨(some 15), none, (.alloc [(.int .i64 0), (.int .i64 0)]), []⟩,
  ⟨none, none, (.store 2), [.tm 15, .tm 93]⟩])
 (.seq (.region [⟨(some 94), none, .mov, [.tm 8]⟩,
  ⟨(some 95), none, .mov, [.tm 13]⟩,
  ⟨(some 96), none, (.fieldAddr 0), [.tm 15]⟩,
  ⟨(some 97), none, (.load false 1), [.tm 96]⟩,
  ⟨(some 98), none, (.ari .add), [.tm 95, .tm 97]⟩,
  ⟨(some 99), none, .mov, [.tm 9]⟩,
  ⟨(some 100), none, .mov, [.tm 12]⟩,
  ⟨(some 101), none, (.ari .add), [.tm 99, .tm 100]⟩,
  ⟨(some 102), none, (.fieldAddr 0), [.tm 15]⟩,
  ⟨(some 103), none, (.load false 1), [.tm 102]⟩,
  ⟨(some 104), none, (.fieldAddr 1), [.tm 15]⟩,
  ⟨(some 105), none, (.load false 1), [.tm 104]⟩,
  ⟨(some 106), none, (.build [(.int .i64 0), (.int .i64 0), (.int .i64 0), (.int .i64 0)] [(0, 1), (1, 1), (2, 1), (3, 1)]), [.tm 98, .tm 101, .tm 103, .tm 105]⟩,
  ⟨(some 107), none, (.buildSlice 4 1 [(.int .i64 0), (.int .i64 0), (.int .i64 0), (.int .i64 0)] [(0, 4)]), [.tm 106]⟩,
  ⟨(some 108), none, (.append 4 32 [(.int .i64 0), (.int .i64 0), (.int .i64 0), (.int .i64 0)]), [.tm 94, .tm 107]⟩,
  ⟨(some 8), none, .mov, [.tm 108]⟩])
 (.region [⟨(some 109), none, .mov, [.tm 13]⟩,
  ⟨(some 110), none, (.fieldAddr 0), [.tm 15]⟩,
  ⟨(some 111), none, (.load false 1), [.tm 110]⟩,
  ⟨(some 112), none, (.ari .mul), [.cn (.int .i64 2), .tm 111]⟩,
  ⟨(some 113), none, (.fieldAddr 2), [.tm 2]⟩,
  ⟨(some 114), none, (.load false 1), [.tm 113]⟩,
  ⟨(some 115), none, (.ari .add), [.tm 112, .tm 114]⟩,
  ⟨(some 116), none, (.ari .add), [.tm 109, .tm 115]⟩,
  ⟨(some 13), none, .mov, [.tm 116]⟩]))))
 (.region [⟨(some 117), none, (.ari .add), [.tm 90, .cn (.int .i64 1)]⟩,
  ⟨(some 90), none, .mov, [.tm 117]⟩])))))))
 (.seq (.region [⟨(some 118), none, .mov, [.tm 9]⟩,
  ⟨(some 119), none, .mov, [.tm 12]⟩,
  ⟨(some 120), none, (.ari .mul), [.cn (.int .i64 2), .tm 119]⟩,
  ⟨(some 121), none, (.fieldAddr 2), [.tm 2]⟩,
  ⟨(some 122), none, (.load false 1), [.tm 121]⟩,
  ⟨(some 123), none, (.ari .add), [.tm 120, .tm 122]⟩,
  ⟨(some 124), none, (.ari .add), [.tm 118, .tm 123]⟩,
  ⟨(some 9), none, .mov, [.tm 124]⟩])
 (.region [⟨(some 125), none, .mov, [.tm 10]⟩,
  ⟨(some 126), none, .mov, [.tm 11]⟩,
  ⟨(some 127), none, .len, [.tm 126]⟩,
  ⟨(some 128), none, (.ari .add), [.tm 125, .tm 127]⟩,
  ⟨(some 10), none, .mov, [.tm 128]⟩])))))))))))
 (.seq (.region [⟨(some 129), none, .mov, [.tm 8]⟩,
  ⟨(some 4), none, .mov, [.tm 129]⟩,
  ⟨(some 5), none, .mov, [.cn (.int .i64 0)]⟩])
 .ret)))))))))) }
theorem v11_is : vfunc Try.prog Try.f11 = some v11 := by kernel_rfl


def lsS (l : List Std) : SV := .vs true (decide (l.length = 0)) l.length 4 (fun k => encS (l.getD k default))
def rowC : Ctr := { alias := false, of := fun l => match l with
  | [.agg [.int .i64 w, .int .i64 d, .int .i64 c, .int .i64 a, .int .i64 s, .vs _ _ n sz get], .vs _ _ n' sz' get'] => .ex Brd fun b => .ex (List Ft) fun l => .pre (brdP b w d c a s n sz get ∧ lsP 2 encT n' sz' get' l ∧ l.length ≤ 1000000000000) (.fin (.tup [lsS (rowsR b l).1, .int .i64 (rowsR b l).2]) [])
  | _ => noC }
def J0 : Env := { ct := fun n => match n with | 33 => some wrC | 34 => some anyFC | 36 => some besC | 37 => some mxC | _ => none, fn := fun _ => none, meth := fun _ _ => none }
theorem J0_ct33 : J0.ct 33 = some wrC := rfl
theorem J0_ct34 : J0.ct 34 = some anyFC := rfl
theorem J0_ct36 : J0.ct 36 = some besC := rfl
theorem J0_ct37 : J0.ct 37 = some mxC := rfl
theorem J0_ok : EnvOk Try.prog J0 := by
  refine ⟨fun f c h => ?_, fun f vf h => ?_, (fun _ _ _ h => by cases h), by kernel_rfl⟩
  · simp only [J0] at h
    split at h
    · cases h; exact ⟨wr_ok, Try.f33, Try.func33, by kernel_rfl, by kernel_rfl⟩
    · cases h; exact ⟨anyF_ok, Try.f34, Try.func34, by kernel_rfl, by kernel_rfl⟩
    · cases h; exact ⟨bes_ok, Try.f36, Try.func36, by kernel_rfl, by kernel_rfl⟩
    · cases h; exact ⟨mx_ok, Try.f37, Try.func37, by kernel_rfl, by kernel_rfl⟩
    · cases h
  · cases h

theorem ans_lsn {k : SV → List HO → Prop} {al : Bool} {hp : List HO} {e : Int} (h : k (.tup [lsS [], .int .i64 e]) []) : answers al k (.tup [.nil, .int .i64 e]) hp :=
  ans_le h (by simp [expo, view, viewL, lsS, le, leL]) (fun _ => by simp [lsS, freshS, freshL])
theorem askF_ok {b : Brd} {l : List Ft} (h : askF b l = 0) : okB b ∧ (∀ f ∈ l, okF f) ∧ l.length ≤ 200 := by
  unfold askF at h
  split at h
  · cases h
  · split at h
    · cases h
    · rename_i h1 h2
      rw [Bool.not_eq_true, Bool.or_eq_false_iff] at h2
      refine ⟨wrongF_no (by omega) h2.1, fun p hp => ?_, by omega⟩
      have := List.any_eq_false.1 h2.2 p hp
      simp only [footF, Bool.not_eq_true, Bool.or_eq_false_iff, outF_no] at this
      exact this
def zP : Plan := ⟨0, 0, 0, false⟩
/-- The plans when those from n on are known. -/
def plG (b : Brd) (l : List Ft) (n : Nat) : List Plan := List.replicate n zP ++ plansF b (l.drop n)
theorem plG_len {b : Brd} {l : List Ft} {n : Nat} (h : n ≤ l.length) : (plG b l n).length = l.length + 1 := by
  rw [plG, List.length_append, List.length_replicate, plans_len, List.length_drop]; omega
theorem plG_drop {b : Brd} {l : List Ft} {n : Nat} : (plG b l n).drop n = plansF b (l.drop n) := by
  rw [plG]
  have := List.drop_left (l₁ := List.replicate n zP) (l₂ := plansF b (l.drop n))
  rwa [List.length_replicate] at this
theorem plG_get {b : Brd} {l : List Ft} {n k : Nat} (h : n ≤ l.length) (hk : k ≤ l.length) : (plG b l n).getD k default = if k < n then zP else headP b (l.drop k) := by
  rw [plG, List.getD_eq_getElem?_getD]
  split
  · rename_i hkn
    rw [List.getElem?_append_left (by rw [List.length_replicate]; exact hkn), List.getElem?_replicate, if_pos hkn]; rfl
  · rename_i hkn
    rw [List.getElem?_append_right (by rw [List.length_replicate]; omega), List.length_replicate, ← List.getD_eq_getElem?_getD, plans_get b (by rw [List.length_drop]; omega), List.drop_drop, show n + (k - n) = k by omega]
theorem plG_ok {b : Brd} (hb : okB b) {l : List Ft} {n : Nat} (hn : l.length ≤ 200) (hl : ∀ f ∈ l, okF f) : ∀ p ∈ plG b l n, okPl p := by
  intro p hp
  rcases List.mem_append.1 hp with hp | hp
  · rw [List.eq_of_mem_replicate hp]; simp [okPl, zP]
  · exact plans_ok hb.2.2.1 (by rw [List.length_drop]; omega) (fun f hf => hl f (List.mem_of_mem_drop hf)) p hp
theorem plG_head {b : Brd} {l : List Ft} {i : Nat} (h : i < l.length) : bestF b (l.drop i) ((plG b l (i + 1)).drop (i + 1)) = headP b (l.drop i) := by
  rw [plG_drop, drop_cons' h]; rfl

theorem row_ok : rowC.ok Try.prog 11 := by
  refine contract Try.func11 v11_is J0_ok 400 rowC fun args k h => ?_
  simp only [rowC] at h
  split at h
  · rename_i w d c a s t z n sz get t' z' n' sz' get'
    obtain ⟨b, l, ⟨hbp, ⟨rfl, rfl, hg⟩, hbig⟩, h⟩ := h
    refine ⟨[.agg (encB t z b), .vs t' z' l.length 2 (fun k => encT (l.getD k default))], ⟨brd_le hbp, by simpa [le] using hg, trivial⟩, ?_⟩
    have h : k (.tup [lsS (rowsR b l).1, .int .i64 (rowsR b l).2]) [] := h
    dsimp only [v11, J0_ct33, J0_ct34, wrC, anyFC, anyC, encB, encT, encS, go_sem, Option.bind, Option.map, List.append_nil, Nat.beq, List.cons_append, List.nil_append, List.append_eq, List.map_cons, List.map_nil, ite_self, reduceIte]
    simp only [true_and, and_true, imp_self, implies_true, decide_eq_true_eq, decide_eq_false_iff_not, Nat.reduceAdd, Nat.reduceLeDiff, Bool.not_not, reduceCtorEq, false_imp_iff, Bool.not_eq_true', Bool.not_eq_false', Bool.false_eq_true, and_self, forall_const, ne_eq, not_false_eq_true, Nat.reduceEqDiff]
    unfold rowsR at h
    refine ⟨fun hb => ?_, fun hb => ?_⟩
    · simp only [Bool.or_eq_true, decide_eq_true_eq] at hb
      have e : askF b l = 3 := by rw [askF, if_pos (by omega)]
      rw [e, if_pos (by decide)] at h
      exact ans_lsn h
    · simp only [Bool.or_eq_false_iff, decide_eq_false_iff_not] at hb
      refine ⟨b, ⟨brdP_self b, by omega⟩, l, footP, fun _ => ⟨lsP_self, by omega, rfl, rfl, rfl⟩, fun hc => ?_, fun hc => ?_⟩
      · have e : askF b l = 2 := by rw [askF, if_neg (by omega)]; exact if_pos hc
        rw [e, if_pos (by decide)] at h
        exact ans_lsn h
      · have e : askF b l = 0 := by rw [askF, if_neg (by omega)]; exact if_neg (by intro hh; have hc : (wrongF b || l.any fun f => footF f.1 f.2) = false := hc; rw [hc] at hh; cases hh)
        obtain ⟨hbo, hlo, hlen⟩ := askF_ok e
        rw [e, if_neg (by decide)] at h
        have ew : IntKind.i64.wrap ((l.length : Int) + 1) = ((l.length + 1 : Nat) : Int) := by rw [mid_w (by omega)]; omega
        rw [ew]
        simp only [Int.toNat_natCast]
        refine ⟨⟨by decide, by omega, by omega, by unfold capOk; omega⟩, ⟨by omega, by omega⟩, by omega, ?_⟩
        refine Loop.keep [1, 0, 3, 0] Nat (fun n => [(7, .int .i64 ((n : Int) - 1))]) (fun n => [(1, .own false 4 (l.length + 1) (fun k => encP ((plG b l n).getD k default)))]) [] (fun n => n ≤ l.length) (fun n => n) ?_ ?_
        · refine ⟨l.length, Nat.le_refl _, ?_⟩
          dsimp only [go_sem, Option.bind, Option.map, List.append_nil, Nat.beq, List.cons_append, List.nil_append, List.append_eq, List.map_cons, List.map_nil, ite_self, reduceIte]
          simp only [leS_mk, leL_cons, leL_nil, le_junk, le_int, le_bool, le_nil, leLL_nil, leLL_cons, leH_cons, leH_nil, leH1_box, leH1_own, leH1_gone, le_vs, le_agg, le_tup, le_ptr, le_own, le_xp, le_fn, le_opt, le_val, le_elem, le_nil_own, le_nil_vs, leH_ghost, leL_chunk, leXL_id, bnd_int, bnd_bool, bnd_val, bnd_nil, bnd_junk, bnd_vs, bnd_xp, bnd_agg, bnd_tup, bnd_ptr, bnd_own, bnd_elem, bnd_fn, bnd_iface, bnd_opt, bndL_nil, bndL_cons, lenH_cons, lenH_nil, imp_self, implies_true, true_and, and_true]
          rw [mid_w (by omega)]
          refine ⟨by omega, fun q hq => ?_⟩
          rw [plG_get (Nat.le_refl _) (by omega)]
          by_cases hql : q = l.length
          · subst hql
            rw [if_pos rfl, if_neg (by omega), List.drop_of_length_le (Nat.le_refl _), plans_nil]
            exact leL_self [.int _ _, .int _ _, .int _ _, .bool _] ⟨trivial, trivial, trivial, trivial, trivial⟩
          · rw [if_neg hql, if_pos (by omega)]
            exact leL_self [.int _ _, .int _ _, .int _ _, .bool _] ⟨trivial, trivial, trivial, trivial, trivial⟩
        · rintro n hn
          dsimp only [J0_ct36, besC, encT, encP, Int.toNat_natCast, go_sem, Option.bind, Option.map, List.append_nil, Nat.beq, List.cons_append, List.nil_append, List.append_eq, List.map_cons, List.map_nil, ite_self, reduceIte]
          simp only [true_and, and_true, imp_self, implies_true, decide_eq_true_eq, decide_eq_false_iff_not, Nat.reduceAdd, Nat.reduceLeDiff, Bool.not_not, reduceCtorEq, false_imp_iff, Bool.not_eq_true', Bool.not_eq_false', Bool.false_eq_true, and_self, forall_const, ne_eq, not_false_eq_true, Nat.reduceEqDiff]
          refine ⟨fun hlt => ?_, fun hge => ?_⟩
          · obtain ⟨i, rfl⟩ : ∃ i, n = i + 1 := ⟨n - 1, by omega⟩
            have ei : ((i + 1 : Nat) : Int) - 1 = (i : Int) := by omega
            rw [ei]
            simp only [Int.toNat_natCast]
            refine ⟨b, l, plG b l (i + 1), ⟨brdP_self b, lsP_self, ⟨rfl, (plG_len hn).symm, fun q _ => leXL_self _⟩, ⟨by omega, by omega⟩, plG_len hn, hbo, hlo, hlen, plG_ok hbo hlen hlo⟩, ?_⟩
            rw [plG_head (by omega)]
            refine ⟨⟨by omega, by omega⟩, by omega, i, by omega, by omega, ?_⟩
            have ej : IntKind.i64.wrap ((i : Int) - 1) = (i : Int) - 1 := mid_w (by omega)
            simp only [ej, leS_mk, leL_cons, leL_nil, le_junk, le_int, le_bool, le_nil, leLL_nil, leLL_cons, leH_cons, leH_nil, leH1_box, leH1_own, leH1_gone, le_vs, le_agg, le_tup, le_ptr, le_own, le_xp, le_fn, le_opt, le_val, le_elem, le_nil_own, le_nil_vs, leH_ghost, leL_chunk, leXL_id, bnd_int, bnd_bool, bnd_val, bnd_nil, bnd_junk, bnd_vs, bnd_xp, bnd_agg, bnd_tup, bnd_ptr, bnd_own, bnd_elem, bnd_fn, bnd_iface, bnd_opt, bndL_nil, bndL_cons, lenH_cons, lenH_nil, imp_self, implies_true, true_and, and_true]
            refine ⟨by omega, fun q hq => ?_⟩
            rw [plG_get (n := i) (by omega) (by omega)]
            by_cases hqi : q = i
            · subst hqi
              rw [if_pos rfl, if_neg (by omega)]
              exact leL_self [.int _ _, .int _ _, .int _ _, .bool _] ⟨trivial, trivial, trivial, trivial, trivial⟩
            · rw [if_neg hqi, plG_get (n := i + 1) (by omega) (by omega)]
              by_cases hqn : q < i
              · rw [if_pos hqn, if_pos (by omega)]
                exact leL_self [.int _ _, .int _ _, .int _ _, .bool _] ⟨trivial, trivial, trivial, trivial, trivial⟩
              · rw [if_neg hqn, if_neg (by omega)]
                exact leL_self [.int _ _, .int _ _, .int _ _, .bool _] ⟨trivial, trivial, trivial, trivial, trivial⟩
          · obtain rfl : n = 0 := by omega
            have e0 : (plG b l 0).getD (Int.toNat 0) default = headP b l := by
              show (plG b l 0).getD 0 default = _
              rw [plG_get (Nat.zero_le _) (Nat.zero_le _)]; rfl
            simp only [e0]
            refine ⟨⟨by decide, by omega⟩, by show 0 < l.length + 1; omega, fun _ => ⟨by decide, by omega⟩, fun _ => by show 0 < l.length + 1; omega, fun hh => ?_, fun hh => ?_⟩
            · rw [if_pos (by simpa using hh)] at h
              exact ans_lsn h
            · have hh2 : (headP b l).is = true ∧ ¬ b.d < (headP b l).depth := by simpa using hh
              rw [if_neg (by rw [hh2.1]; simp; omega)] at h
              obtain ⟨T, hT⟩ : ∃ T, T = placeL b (divL b l) l 0 := ⟨_, rfl⟩
              have h : k (.tup [lsS (placeL b (divL b l) l 0), .int .i64 0]) [] := h
              rw [← hT] at h
              refine Loop.keep [1, 0, 3, 1, 0, 0] (Nat × Int × List Std) (fun x => [(8, .own 2 0 x.2.2.length 4), (9, .int .i64 x.2.1), (10, .int .i64 x.1)]) (fun x => [(2, .own (decide (x.2.2.length = 0)) 4 x.2.2.length (fun k => encS (x.2.2.getD k default)))]) [.gone] (fun x => x.1 ≤ l.length ∧ x.2.2.length = x.1 ∧ (0 ≤ x.2.1 ∧ x.2.1 ≤ 3000000 * x.1) ∧ (headP b (l.drop x.1)).is = true ∧ ∃ m, l.length - x.1 ≤ m ∧ x.2.2 ++ placeL b (divG b m (l.drop x.1)) (l.drop x.1) x.2.1 = T) (fun x => l.length - x.1) ?_ ?_
              · refine ⟨(0, 0, []), ⟨Nat.zero_le _, rfl, ⟨Int.le_refl _, by dsimp only; omega⟩, hh2.1, l.length, by dsimp only; omega, by rw [hT]; rfl⟩, ?_⟩
                dsimp only [go_sem, Option.bind, Option.map, List.append_nil, Nat.beq, List.cons_append, List.nil_append, List.append_eq, List.map_cons, List.map_nil, ite_self, reduceIte]
                simp only [leS_mk, leL_cons, leL_nil, le_junk, le_int, le_bool, le_nil, leLL_nil, leLL_cons, leH_cons, leH_nil, leH1_box, leH1_own, leH1_gone, le_vs, le_agg, le_tup, le_ptr, le_own, le_xp, le_fn, le_opt, le_val, le_elem, le_nil_own, le_nil_vs, leH_ghost, leL_chunk, leXL_id, bnd_int, bnd_bool, bnd_val, bnd_nil, bnd_junk, bnd_vs, bnd_xp, bnd_agg, bnd_tup, bnd_ptr, bnd_own, bnd_elem, bnd_fn, bnd_iface, bnd_opt, bndL_nil, bndL_cons, lenH_cons, lenH_nil, imp_self, implies_true, true_and, and_true]
                simp
              · rintro ⟨i, y, o⟩ ⟨hi, hol, ⟨hy1, hy2⟩, hhi, m, hm, hTe⟩
                dsimp only at hi hol hy1 hy2 hhi hm hTe
                dsimp only [J0_ct37, mxC, encS, encT, encP, Int.toNat_natCast, go_sem, Option.bind, Option.map, List.append_nil, Nat.beq, List.cons_append, List.nil_append, List.append_eq, List.map_cons, List.map_nil, ite_self, reduceIte]
                simp only [true_and, and_true, imp_self, implies_true, decide_eq_true_eq, decide_eq_false_iff_not, Nat.reduceAdd, Nat.reduceLeDiff, Bool.not_not, reduceCtorEq, false_imp_iff, Bool.not_eq_true', Bool.not_eq_false', Bool.false_eq_true, and_self, forall_const, ne_eq, not_false_eq_true, Nat.reduceEqDiff]
                simp only [subLo_eq, addLo_eq]
                refine ⟨fun hlt => ?_, fun hge => ?_⟩
                · have hpg : (plG b l 0).getD i default = headP b (l.drop i) := by
                    rw [plG_get (Nat.zero_le _) hi]; rfl
                  have hlp : ∀ f ∈ l.drop i, 1 ≤ f.1 := fun f hf => (hlo f (List.mem_of_mem_drop hf)).1.1
                  obtain ⟨j, hj, hfi, hwj, hnx, _⟩ := head_first hbo.2.2.1.1 (l := l.drop i) (by rw [List.length_drop]; omega) hlp hhi
                  rw [List.length_drop] at hj
                  have efi : IntKind.i64.wrap ((i : Int) + ((j : Int) + 1)) = ((i + (j + 1) : Nat) : Int) := by rw [mid_w (by omega)]; omega
                  simp only [hpg, hfi, efi, Int.toNat_natCast]
                  simp only [Nat.add_sub_cancel_left]
                  obtain ⟨R, hR⟩ : ∃ R, R = (l.drop i).take (j + 1) := ⟨_, rfl⟩
                  have hRl : R.length = j + 1 := by rw [hR, List.length_take, List.length_drop]; omega
                  have hRg : ∀ q, q < j + 1 → R.getD q default = l.getD (i + q) default := fun q hq => by
                    rw [hR, List.getD_eq_getElem?_getD, List.getElem?_take, if_pos hq, ← List.getD_eq_getElem?_getD, getD_drop]
                  have hRo : ∀ f ∈ R, okF f := fun f hf => hlo f (List.mem_of_mem_drop (List.mem_of_mem_take (by rw [← hR]; exact hf)))
                  have hmx : (maxG R).1 = mostF R := maxG_most (fun f hf => (hRo f hf).1.1) (by omega)
                  have hmr := mostF_rng R 0 hRo (Int.le_refl _) (by decide)
                  refine ⟨⟨by omega, by omega⟩, by omega, ⟨by omega, by omega, by omega⟩, R, ⟨⟨rfl, hRl.symm, fun q hq => ?_⟩, by omega, by omega, hRo⟩, ?_⟩
                  · rw [hRg q hq]; exact leXL_self _
                  rw [hmx]
                  obtain ⟨M, hM⟩ : ∃ M, M = mostF R := ⟨_, rfl⟩
                  have hMr : 0 ≤ M ∧ M ≤ 1000000 := by rw [hM]; exact hmr
                  rw [← hM]
                  refine Loop.keep [1, 0, 3, 1, 0, 0, 0, 0, 0, 74, 0, 0] (Nat × Int × List Std) (fun x => [(8, .own 2 0 x.2.2.length 4), (13, .int .i64 x.2.1), (90, .int .i64 x.1)]) (fun x => [(2, .own (decide (x.2.2.length = 0)) 4 x.2.2.length (fun k => encS (x.2.2.getD k default)))]) [] (fun x => x.1 ≤ j + 1 ∧ x.2.2.length = i + x.1 ∧ (0 ≤ x.2.1 ∧ x.2.1 ≤ 3000000 * x.1) ∧ x.2.2 ++ rowF b (y + M) (R.drop x.1) x.2.1 = o ++ rowF b (y + M) R 0) (fun x => j + 1 - x.1) ?_ ?_
                  · refine ⟨(0, 0, o), ⟨Nat.zero_le _, by dsimp only; omega, ⟨Int.le_refl _, by dsimp only; omega⟩, rfl⟩, ?_⟩
                    dsimp only [encS, go_sem, Option.bind, Option.map, List.append_nil, Nat.beq, List.cons_append, List.nil_append, List.append_eq, List.map_cons, List.map_nil, ite_self, reduceIte]
                    simp only [leS_mk, leL_cons, leL_nil, le_junk, le_int, le_bool, le_nil, leLL_nil, leLL_cons, leH_cons, leH_nil, leH1_box, leH1_own, leH1_gone, le_vs, le_agg, le_tup, le_ptr, le_own, le_xp, le_fn, le_opt, le_val, le_elem, le_nil_own, le_nil_vs, leH_ghost, leL_chunk, leXL_id, bnd_int, bnd_bool, bnd_val, bnd_nil, bnd_junk, bnd_vs, bnd_xp, bnd_agg, bnd_tup, bnd_ptr, bnd_own, bnd_elem, bnd_fn, bnd_iface, bnd_opt, bndL_nil, bndL_cons, lenH_cons, lenH_nil, imp_self, implies_true, true_and, and_true]
                    exact ⟨by omega, by omega, by omega, rfl⟩
                  · rintro ⟨q, x, o'⟩ ⟨hq, hql, ⟨hx1, hx2⟩, hoe⟩
                    dsimp only at hq hql hx1 hx2 hoe
                    dsimp only [encS, encT, Int.toNat_natCast, go_sem, Option.bind, Option.map, List.append_nil, Nat.beq, List.cons_append, List.nil_append, List.append_eq, List.map_cons, List.map_nil, ite_self, reduceIte]
                    simp only [true_and, and_true, imp_self, implies_true, decide_eq_true_eq, decide_eq_false_iff_not, Nat.reduceAdd, Nat.reduceLeDiff, Bool.not_not, reduceCtorEq, false_imp_iff, Bool.not_eq_true', Bool.not_eq_false', Bool.false_eq_true, and_self, forall_const, ne_eq, not_false_eq_true, Nat.reduceEqDiff]
                    refine ⟨fun hlq => ?_, fun hgq => ?_⟩
                    · have hf : okF (l.getD (i + q) default) := hlo _ (getD_mem (by omega))
                      have hRq := hRg q (by omega)
                      rw [drop_cons' (show q < R.length by omega), hRq, rowF] at hoe
                      generalize l.getD (i + q) default = f at *
                      obtain ⟨⟨f1, f2⟩, _⟩ := hf
                      obtain ⟨c1, c2⟩ := hbo.2.2.1
                      have w1 : IntKind.i64.wrap (x + f.1) = x + f.1 := mid_w (by omega)
                      have w2 : IntKind.i64.wrap (y + M) = y + M := mid_w (by omega)
                      have w3 : IntKind.i64.wrap (x + IntKind.i64.wrap (IntKind.i64.wrap (2 * f.1) + b.c)) = x + (2 * f.1 + b.c) := by
                        rw [mid_w (x := 2 * f.1) (by omega), mid_w (x := 2 * f.1 + b.c) (by omega), mid_w (by omega)]
                      have w4 : IntKind.i64.wrap ((q : Int) + 1) = ((q + 1 : Nat) : Int) := by rw [mid_w (by omega)]; omega
                      simp only [w1, w2, w3, w4]
                      refine ⟨⟨by omega, by omega⟩, by decide, ⟨by unfold capOk; omega, fun p hp => match p, hp with | 0, _ => ⟨rfl, trivial, trivial, trivial, trivial, trivial⟩⟩, (q + 1, x + (2 * f.1 + b.c), o' ++ [⟨x + f.1, y + M, f.1, f.2⟩]), ⟨by dsimp only; omega, by dsimp only; rw [List.length_append, List.length_singleton]; omega, ⟨by dsimp only; omega, by dsimp only; omega⟩, by dsimp only; rw [List.append_assoc]; exact hoe⟩, by dsimp only; omega, ?_⟩
                      simp only [List.length_append, List.length_singleton, getD_app, leS_mk, leL_cons, leL_nil, le_junk, le_int, le_bool, le_nil, leLL_nil, leLL_cons, leH_cons, leH_nil, leH1_box, leH1_own, leH1_gone, le_vs, le_agg, le_tup, le_ptr, le_own, le_xp, le_fn, le_opt, le_val, le_elem, le_nil_own, le_nil_vs, leH_ghost, leL_chunk, leXL_id, bnd_int, bnd_bool, bnd_val, bnd_nil, bnd_junk, bnd_vs, bnd_xp, bnd_agg, bnd_tup, bnd_ptr, bnd_own, bnd_elem, bnd_fn, bnd_iface, bnd_opt, bndL_nil, bndL_cons, lenH_cons, lenH_nil, imp_self, implies_true, true_and, and_true]
                      refine ⟨by omega, by simp, fun p hp => ?_⟩
                      rcases Nat.lt_or_ge p o'.length with h' | h'
                      · simp only [if_pos h']; exact leL_self [.int _ _, .int _ _, .int _ _, .int _ _] ⟨trivial, trivial, trivial, trivial, trivial⟩
                      · obtain rfl : p = o'.length := by omega
                        simp only [if_neg (Nat.lt_irrefl o'.length), if_pos, Nat.sub_self]
                        exact leL_self [.int _ _, .int _ _, .int _ _, .int _ _] ⟨trivial, trivial, trivial, trivial, trivial⟩
                    · obtain rfl : q = j + 1 := by omega
                      rw [List.drop_of_length_le (by omega), rowF, List.append_nil] at hoe
                      obtain ⟨c1, c2⟩ := hbo.2.2.1
                      have w5 : IntKind.i64.wrap (y + IntKind.i64.wrap (IntKind.i64.wrap (2 * M) + b.c)) = y + (2 * M + b.c) := by
                        rw [mid_w (x := 2 * M) (by omega), mid_w (x := 2 * M + b.c) (by omega), mid_w (by omega)]
                      have w6' : IntKind.i64.wrap ((i : Int) + ((j + 1 : Nat) : Int)) = ((i + (j + 1) : Nat) : Int) := by rw [mid_w (by omega)]; omega
                      simp only [w5, w6']
                      obtain ⟨m', rfl⟩ : ∃ m', m = m' + 1 := ⟨m - 1, by omega⟩
                      have hft : (headP b (l.drop i)).first.toNat = j + 1 := by rw [hfi]; omega
                      rw [divG, if_neg (by rw [List.length_drop]; omega), hft, placeL, ← hR, ← hM, List.drop_drop, ← List.append_assoc, ← hoe] at hTe
                      rw [List.drop_drop] at hnx
                      refine ⟨(i + (j + 1), y + (2 * M + b.c), o'), ⟨by dsimp only; omega, by dsimp only; omega, ⟨by dsimp only; omega, by dsimp only; omega⟩, hnx, m', by dsimp only; omega, hTe⟩, by dsimp only; omega, ?_⟩
                      simp only [leS_mk, leL_cons, leL_nil, le_junk, le_int, le_bool, le_nil, leLL_nil, leLL_cons, leH_cons, leH_nil, leH1_box, leH1_own, leH1_gone, le_vs, le_agg, le_tup, le_ptr, le_own, le_xp, le_fn, le_opt, le_val, le_elem, le_nil_own, le_nil_vs, leH_ghost, leL_chunk, leXL_id, bnd_int, bnd_bool, bnd_val, bnd_nil, bnd_junk, bnd_vs, bnd_xp, bnd_agg, bnd_tup, bnd_ptr, bnd_own, bnd_elem, bnd_fn, bnd_iface, bnd_opt, bndL_nil, bndL_cons, lenH_cons, lenH_nil, imp_self, implies_true, true_and, and_true]
                      omega
                · obtain rfl : i = l.length := by omega
                  rw [List.drop_of_length_le (Nat.le_refl _)] at hTe
                  have e1 : divG b m [] = [] := by cases m <;> rfl
                  rw [e1, placeL, List.append_nil] at hTe
                  subst hTe
                  refine ans_le (show k _ [] from h) ?_ ?_
                  · dsimp only [lsS, expo, encS, go_sem, Option.bind, Option.map, List.append_nil, Nat.beq, List.cons_append, List.nil_append, List.append_eq, List.map_cons, List.map_nil, ite_self, reduceIte]
                    simp only [leS_mk, leL_cons, leL_nil, le_junk, le_int, le_bool, le_nil, leLL_nil, leLL_cons, leH_cons, leH_nil, leH1_box, leH1_own, leH1_gone, le_vs, le_agg, le_tup, le_ptr, le_own, le_xp, le_fn, le_opt, le_val, le_elem, le_nil_own, le_nil_vs, leH_ghost, leL_chunk, leXL_id, bnd_int, bnd_bool, bnd_val, bnd_nil, bnd_junk, bnd_vs, bnd_xp, bnd_agg, bnd_tup, bnd_ptr, bnd_own, bnd_elem, bnd_fn, bnd_iface, bnd_opt, bndL_nil, bndL_cons, lenH_cons, lenH_nil, imp_self, implies_true, true_and, and_true]
                  · intro _; simp [freshS, freshL, encS, lsS]
  · exact h.1.elim
end Go.Proofs.Ytojaibhjfeojjaa

/- Layouts, walked: Order. -/
/- Layouts, walked: Order. -/
set_option linter.all false
namespace Go.Proofs.Ytojaibhjfeojjaa
open Go Go.Vx
set_option maxRecDepth 100000
set_option maxHeartbeats 4000000

def v14 : VF := { ntmps := 50, res := [.tmp 4, .tmp 5], body :=
 (.seq (.region [⟨(some 2), none, .box, [.tm 0]⟩,
  ⟨(some 4), none, .mov, [.cn .nil]⟩,
  ⟨(some 5), none, .mov, [.cn (.int .i64 0)]⟩])
 (.seq (.seq (.region [⟨(some 9), none, (.load false 1), [.tm 2]⟩,
  ⟨(some 10), none, (.cmp .lss), [.tm 9, .cn (.int .i64 0)]⟩,
  ⟨(some 11), none, .mov, [.tm 10]⟩,
  ⟨(some 12), (some (11, false)), (.load false 1), [.tm 2]⟩,
  ⟨(some 13), (some (11, false)), (.cmp .gtr), [.tm 12, .cn (.int .i64 200)]⟩,
  ⟨(some 14), none, .or, [.tm 11, .tm 13]⟩,
  ⟨(some 15), none, .mov, [.tm 14]⟩,
  ⟨(some 16), (some (15, false)), .mov, [.tm 1]⟩,
  ⟨(some 17), (some (15, false)), (.cmp .lss), [.tm 16, .cn (.int .i64 1)]⟩,
  ⟨(some 18), none, .or, [.tm 15, .tm 17]⟩,
  ⟨(some 19), none, .mov, [.tm 18]⟩,
  ⟨(some 20), (some (19, false)), .mov, [.tm 1]⟩,
  ⟨(some 21), (some (19, false)), (.cmp .gtr), [.tm 20, .cn (.int .i64 4)]⟩,
  ⟨(some 22), none, .or, [.tm 19, .tm 21]⟩])
 (.cond (.tm 22) (.seq (.region [⟨(some 4), none, .mov, [.cn .nil]⟩,
  ⟨(some 5), none, .mov, [.cn (.int .i64 2)]⟩])
 .ret)
  .skip))
 (.seq (.region [⟨(some 23), none, (.buildSlice 1 0 [(.int .i64 0)] []), []⟩,
  ⟨(some 6), none, (.alloc [.nil]), []⟩,
  ⟨none, none, (.store 1), [.tm 6, .tm 23]⟩])
 (.seq (.region [⟨(some 24), none, (.mkfn (.func 42) 0), [.tm 6, .tm 2]⟩,
  ⟨(some 7), none, .mov, [.tm 24]⟩])
 (.seq (.seq (.region [⟨(some 25), none, .mov, [.tm 1]⟩])
 (.block 0 (.seq (.region [⟨(some 34), none, (.cmp .eql), [.tm 25, .cn (.int .i64 1)]⟩,
  ⟨(some 33), none, .mov, [.tm 34]⟩])
 (.cond (.tm 33) (.region [⟨(some 35), none, .mov, [.tm 7]⟩,
  ⟨(some 36), none, .callv, [.tm 35, .cn (.int .i64 0), .cn (.int .i64 1), .cn (.bool false)]⟩])
  (.seq (.region [⟨(some 38), none, (.cmp .eql), [.tm 25, .cn (.int .i64 2)]⟩,
  ⟨(some 37), none, .mov, [.tm 38]⟩])
 (.cond (.tm 37) (.seq (.region [⟨(some 39), none, .mov, [.tm 7]⟩,
  ⟨(some 40), none, .callv, [.tm 39, .cn (.int .i64 0), .cn (.int .i64 2), .cn (.bool false)]⟩])
 (.region [⟨(some 41), none, .mov, [.tm 7]⟩,
  ⟨(some 42), none, .callv, [.tm 41, .cn (.int .i64 1), .cn (.int .i64 2), .cn (.bool true)]⟩]))
  (.seq (.region [⟨(some 44), none, (.cmp .eql), [.tm 25, .cn (.int .i64 3)]⟩,
  ⟨(some 43), none, .mov, [.tm 44]⟩])
 (.cond (.tm 43) (.seq (.region [⟨(some 45), none, .mov, [.tm 7]⟩,
  ⟨(some 46), none, .callv, [.tm 45, .cn (.int .i64 0), .cn (.int .i64 2), .cn (.bool true)]⟩])
 (.region [⟨(some 47), none, .mov, [.tm 7]⟩,
  ⟨(some 48), none, .callv, [.tm 47, .cn (.int .i64 1), .cn (.int .i64 2), .cn (.bool false)]⟩]))
  (.seq (.region [⟨(some 26), none, .mov, [.cn (.int .i64 0)]⟩])
 (.block 1 (.loop (.seq (.region [⟨(some 27), none, (.cmp .lss), [.tm 26, .cn (.int .i64 4)]⟩])
 (.seq (.cond (.tm 27) .skip
  (.exit 1))
 (.seq (.block 2 (.seq (.region [⟨(some 28), none, .mov, [.tm 26]⟩,
  ⟨(some 8), none, .mov, [.tm 28]⟩])
 (.region [⟨(some 29), none, .mov, [.tm 7]⟩,
  ⟨(some 30), none, .mov, [.tm 8]⟩,
  ⟨(some 31), none, .callv, [.tm 29, .tm 30, .cn (.int .i64 4), .cn (.bool false)]⟩])))
 (.region [⟨(some 32), none, (.ari .add), [.tm 26, .cn (.int .i64 1)]⟩,
  ⟨(some 26), none, .mov, [.tm 32]⟩])))))))))))))))
 (.seq (.region [⟨(some 49), none, (.load false 1), [.tm 6]⟩,
  ⟨(some 4), none, .mov, [.tm 49]⟩,
  ⟨(some 5), none, .mov, [.cn (.int .i64 0)]⟩])
 .ret)))))) }
theorem v14_is : vfunc Try.prog Try.f14 = some v14 := by kernel_rfl
def v42 : VF := { ntmps := 28, res := [], body :=
 (.seq (.region [⟨(some 10), none, (.load false 1), [.tm 3]⟩,
  ⟨(some 11), none, .len, [.tm 10]⟩,
  ⟨(some 8), none, .mov, [.tm 11]⟩])
 (.seq (.seq (.region [⟨(some 12), none, .mov, [.tm 0]⟩,
  ⟨(some 9), none, .mov, [.tm 12]⟩])
 (.block 0 (.loop (.seq (.seq (.region [⟨(some 13), none, .mov, [.tm 9]⟩,
  ⟨(some 14), none, (.load false 1), [.tm 4]⟩,
  ⟨(some 15), none, (.cmp .lss), [.tm 13, .tm 14]⟩])
 (.cond (.tm 15) .skip
  (.exit 0)))
 (.seq (.block 1 (.region [⟨(some 19), none, (.load false 1), [.tm 3]⟩,
  ⟨(some 20), none, .mov, [.tm 9]⟩,
  ⟨(some 21), none, (.buildSlice 1 1 [(.int .i64 0)] [(0, 1)]), [.tm 20]⟩,
  ⟨(some 22), none, (.append 1 8 [(.int .i64 0)]), [.tm 19, .tm 21]⟩,
  ⟨none, none, (.store 1), [.tm 3, .tm 22]⟩]))
 (.region [⟨(some 16), none, .mov, [.tm 9]⟩,
  ⟨(some 17), none, .mov, [.tm 1]⟩,
  ⟨(some 18), none, (.ari .add), [.tm 16, .tm 17]⟩,
  ⟨(some 9), none, .mov, [.tm 18]⟩]))))))
 (.seq (.region [⟨(some 23), none, .mov, [.tm 2]⟩])
 (.cond (.tm 23) (.region [⟨(some 24), none, (.load false 1), [.tm 3]⟩,
  ⟨(some 25), none, .mov, [.tm 8]⟩,
  ⟨(some 26), none, (.slice 1 true false), [.tm 24, .tm 25]⟩,
  ⟨(some 27), none, (.call 43), [.tm 26]⟩])
  .skip)))) }
theorem v42_is : vfunc Try.prog Try.f42 = some v42 := by kernel_rfl
def v43 : VF := { ntmps := 28, res := [], body :=
 (.seq (.region [⟨(some 4), none, .mov, [.tm 0]⟩,
  ⟨(some 5), none, .len, [.tm 4]⟩,
  ⟨(some 6), none, (.ari .sub), [.tm 5, .cn (.int .i64 1)]⟩,
  ⟨(some 2), none, .mov, [.cn (.int .i64 0)]⟩,
  ⟨(some 3), none, .mov, [.tm 6]⟩])
 (.block 0 (.loop (.seq (.seq (.region [⟨(some 7), none, .mov, [.tm 2]⟩,
  ⟨(some 8), none, .mov, [.tm 3]⟩,
  ⟨(some 9), none, (.cmp .lss), [.tm 7, .tm 8]⟩])
 (.cond (.tm 9) .skip
  (.exit 0)))
 (.seq (.block 1 (.draw [] [⟨⟨(some 14), none, .mov, [.tm 0]⟩, []⟩,
  ⟨⟨(some 15), none, .mov, [.tm 2]⟩, []⟩,
  ⟨⟨(some 16), none, .mov, [.tm 0]⟩, []⟩,
  ⟨⟨(some 17), none, .mov, [.tm 3]⟩, []⟩,
  ⟨⟨(some 18), none, .mov, [.tm 0]⟩, []⟩,
  ⟨⟨(some 19), none, .mov, [.tm 3]⟩, []⟩,
  ⟨⟨(some 20), none, (.idxAddr 1), [.tm 18, .tm 19]⟩, []⟩,
  ⟨⟨(some 21), none, (.load false 1), [.tm 20]⟩, []⟩,
  ⟨⟨(some 22), none, .mov, [.tm 0]⟩, []⟩,
  ⟨⟨(some 23), none, .mov, [.tm 2]⟩, []⟩,
  ⟨⟨(some 24), none, (.idxAddr 1), [.tm 22, .tm 23]⟩, []⟩,
  ⟨⟨(some 25), none, (.load false 1), [.tm 24]⟩, []⟩,
  ⟨⟨(some 26), none, (.idxAddr 1), [.tm 14, .tm 15]⟩, []⟩,
  ⟨⟨none, none, (.store 1), [.tm 26, .tm 21]⟩, []⟩,
  ⟨⟨(some 27), none, (.idxAddr 1), [.tm 16, .tm 17]⟩, []⟩,
  ⟨⟨none, none, (.store 1), [.tm 27, .tm 25]⟩, []⟩]))
 (.region [⟨(some 10), none, .mov, [.tm 2]⟩,
  ⟨(some 11), none, (.ari .add), [.tm 10, .cn (.int .i64 1)]⟩,
  ⟨(some 12), none, .mov, [.tm 3]⟩,
  ⟨(some 13), none, (.ari .sub), [.tm 12, .cn (.int .i64 1)]⟩,
  ⟨(some 2), none, .mov, [.tm 11]⟩,
  ⟨(some 3), none, .mov, [.tm 13]⟩])))))) }
theorem v43_is : vfunc Try.prog Try.f43 = some v43 := by kernel_rfl


theorem prog_len (a s c : Nat) : (progL a s c).length = c := by simp [progL]
theorem prog_succ (a s c : Nat) : progL a s (c + 1) = progL a s c ++ [a + c * s] := by simp [progL, List.range_succ]
theorem prog_0 (a s : Nat) : progL a s 0 = [] := rfl
/-- A part of a list, half turned. -/
def revL (L : List Nat) (A M t q : Nat) : Nat := if q < A then L.getD q default else if q - A < t ∨ M - 1 - t < q - A then L.getD (A + (M - 1 - (q - A))) default else L.getD q default
theorem rev_step {L : List Nat} {A M t u q : Nat} (hu : M - 1 - t = u) (ht : t < u) (hq : q < A + M) : revL L A M (t + 1) q = if q = A + u then revL L A M t (A + t) else if q = A + t then revL L A M t (A + u) else revL L A M t q := by
  have a1 : revL L A M t (A + t) = L.getD (A + t) default := by
    unfold revL; rw [if_neg (by omega), if_neg (by omega)]
  have a2 : revL L A M t (A + u) = L.getD (A + u) default := by
    unfold revL; rw [if_neg (by omega), if_neg (by omega)]
  rw [a1, a2]
  unfold revL
  by_cases h1 : q = A + u
  · subst h1
    rw [if_pos rfl, if_neg (by omega), if_pos (by omega)]
    congr 1; omega
  · rw [if_neg h1]
    by_cases h2 : q = A + t
    · subst h2
      rw [if_pos rfl, if_neg (by omega), if_pos (by omega)]
      congr 1; omega
    · rw [if_neg h2]
      by_cases h3 : q < A
      · rw [if_pos h3, if_pos h3]
      · rw [if_neg h3, if_neg h3]
        by_cases h4 : q - A < t ∨ M - 1 - t < q - A
        · rw [if_pos h4, if_pos (by omega)]
        · rw [if_neg h4, if_neg (by omega)]
theorem rev_0 {L : List Nat} {A M q : Nat} (h : q < A + M) : revL L A M 0 q = L.getD q default := by
  unfold revL
  split
  · rfl
  · rw [if_neg (by omega)]
theorem app_hi {L0 P : List Nat} {A p : Nat} (hA : L0.length = A) : (L0 ++ P).getD (A + p) default = P.getD p default := by
  rw [List.getD_eq_getElem?_getD, List.getElem?_append_right (by omega), hA, Nat.add_sub_cancel_left, ← List.getD_eq_getElem?_getD]
theorem app_lo {L0 P : List Nat} {q : Nat} (h : q < L0.length) : (L0 ++ P).getD q default = L0.getD q default := by
  rw [List.getD_eq_getElem?_getD, List.getElem?_append_left h, ← List.getD_eq_getElem?_getD]
theorem rev_get {P : List Nat} {M p : Nat} (hM : P.length = M) (h : p < M) : P.reverse.getD p default = P.getD (M - 1 - p) default := by
  rw [List.getD_eq_getElem?_getD, List.getElem?_reverse (by omega), hM, ← List.getD_eq_getElem?_getD]
theorem rev_end {L1 P : List Nat} {A M t q : Nat} (hA : L1.length = A) (hM : P.length = M) (h1 : 2 * t ≤ M) (h2 : M ≤ 2 * t + 1) (h : q < A + M) : revL (L1 ++ P) A M t q = (L1 ++ P.reverse).getD q default := by
  unfold revL
  split
  · rename_i hq
    rw [app_lo (by omega), app_lo (by omega)]
  · rename_i hq
    obtain ⟨p, rfl⟩ : ∃ p, q = A + p := ⟨q - A, by omega⟩
    rw [Nat.add_sub_cancel_left, app_hi hA, app_hi hA, app_hi hA, rev_get hM (by omega)]
    split
    · rfl
    · congr 1; omega
def accL (n : Nat) : Nat → List Nat
  | 0 => []
  | f + 1 => accL n f ++ classL n f 4
theorem acc_le {n : Nat} : ∀ (f : Nat), n ≤ 200 → f ≤ 4 → (accL n f).length ≤ 200 * f
  | 0, _, _ => Nat.zero_le _
  | f + 1, h, h4 => by
    have := acc_le f h (by omega)
    rw [accL, List.length_append, classL, prog_len]
    omega
theorem nb21 : Nat.beq 2 1 = false := rfl
theorem nb01 : Nat.beq 0 1 = false := rfl
def ordC : Ctr := { alias := false, of := fun l => match l with
  | [.int .i64 n, .int .i64 kd] => .all Bool fun z => .fin (.tup [.vs true z (orderR n kd).1.length 1 (fun k => encI ((orderR n kd).1.getD k default)), .int .i64 (orderR n kd).2]) []
  | _ => noC }
def K0 : Env := { ct := fun _ => none, fn := fun n => match n with | 42 => some v42 | 43 => some v43 | _ => none, meth := fun _ _ => none }
theorem K0_ct42 : K0.ct 42 = none := rfl
theorem K0_fn42 : K0.fn 42 = some v42 := rfl
theorem K0_ct43 : K0.ct 43 = none := rfl
theorem K0_fn43 : K0.fn 43 = some v43 := rfl
theorem K0_ok : EnvOk Try.prog K0 := by
  refine ⟨fun f c h => ?_, fun f vf h => ?_, (fun _ _ _ h => by cases h), by kernel_rfl⟩
  · cases h
  · simp only [K0] at h
    split at h
    · cases h; exact ⟨Try.f42, Try.func42, v42_is, Try.f42, Try.func42, by kernel_rfl, by kernel_rfl⟩
    · cases h; exact ⟨Try.f43, Try.func43, v43_is, Try.f43, Try.func43, by kernel_rfl, by kernel_rfl⟩
    · cases h

theorem ord_ok : ordC.ok Try.prog 14 := by
  refine contract Try.func14 v14_is K0_ok 400 ordC fun args k h => ⟨args, ?_⟩
  simp only [ordC] at h
  split at h
  · rename_i n kd
    refine ⟨by simp [leL, le], ?_⟩
    dsimp only [v14, v42, v43, K0_ct42, K0_fn42, K0_ct43, K0_fn43, go_sem, Option.bind, Option.map, List.append_nil, Nat.beq, List.cons_append, List.nil_append, List.append_eq, List.map_cons, List.map_nil, ite_self, reduceIte]
    simp only [true_and, and_true, imp_self, implies_true, decide_eq_true_eq, decide_eq_false_iff_not, Nat.reduceAdd, Nat.reduceLeDiff, Bool.not_not, reduceCtorEq, false_imp_iff, Bool.not_eq_true', Bool.not_eq_false', Bool.false_eq_true, and_self, forall_const, ne_eq, not_false_eq_true, Nat.reduceEqDiff]
    have h : ∀ z : Bool, k (.tup [.vs true z (orderR n kd).1.length 1 (fun k => encI ((orderR n kd).1.getD k default)), .int .i64 (orderR n kd).2]) [] := h
    unfold orderR at h
    refine ⟨fun hb => ?_, fun hb => ?_⟩
    · simp only [Bool.or_eq_true, decide_eq_true_eq] at hb
      rw [if_pos (by omega)] at h
      exact ans_le (h true) (by simp [expo, view, viewL, le, leL]) (fun _ => by simp [freshS, freshL])
    · simp only [Bool.or_eq_false_iff, decide_eq_false_iff_not] at hb
      rw [if_neg (by omega)] at h
      obtain ⟨n, rfl⟩ := Int.eq_ofNat_of_zero_le (show 0 ≤ n by omega)
      obtain ⟨kd, rfl⟩ := Int.eq_ofNat_of_zero_le (show 0 ≤ kd by omega)
      simp only [Int.toNat_natCast] at h
      have hkd : kd = 1 ∨ kd = 2 ∨ kd = 3 ∨ kd = 4 := by omega
      have hn : n ≤ 200 := by omega
      refine ⟨by decide, fun hk => ?_, fun hk => ⟨fun hk2 => ?_, fun hk2 => ⟨fun hk3 => ?_, fun hk3 => ?_⟩⟩⟩
      · obtain rfl : kd = 1 := by omega
        refine Loop.keepP 1 [0, 0, 0, 0, 0, 3] Nat (fun c => [(9, .int .i64 ((0 + c * 1 : Nat) : Int))]) (fun c => [(1, .own false 1 (0 + c) (fun q => encI ((([] : List Nat) ++ progL (0) 1 c).getD q default))), (2, .box [.own 1 0 (0 + c) 1])]) [] (fun c => c ≤ (n - (0) + 1 - 1) / 1) (fun c => (n - (0) + 1 - 1) / 1 - c) ?_ ?_
        · refine ⟨0, Nat.zero_le _, ?_⟩
          dsimp only [go_sem, Option.bind, Option.map, List.append_nil, Nat.beq, List.cons_append, List.nil_append, List.append_eq, List.map_cons, List.map_nil, ite_self, reduceIte]
          simp only [Bool.or_self, leS_mk, leL_cons, leL_nil, le_junk, le_int, le_bool, le_nil, leLL_nil, leLL_cons, leH_cons, leH_nil, leH1_box, leH1_own, leH1_gone, le_vs, le_agg, le_tup, le_ptr, le_own, le_xp, le_fn, le_opt, le_val, le_elem, le_nil_own, le_nil_vs, leH_ghost, leL_chunk, leXL_id, bnd_int, bnd_bool, bnd_val, bnd_nil, bnd_junk, bnd_vs, bnd_xp, bnd_agg, bnd_tup, bnd_ptr, bnd_own, bnd_elem, bnd_fn, bnd_iface, bnd_opt, bndL_nil, bndL_cons, lenH_cons, lenH_nil, imp_self, implies_true, true_and, and_true]
          simp [prog_0, leL, le, encI]
        · rintro c hc
          dsimp only [v42, v43, K0_ct42, K0_fn42, K0_ct43, K0_fn43, encI, Int.toNat_natCast, go_sem, Option.bind, Option.map, List.append_nil, Nat.beq, List.cons_append, List.nil_append, List.append_eq, List.map_cons, List.map_nil, ite_self, reduceIte]
          simp only [true_and, and_true, imp_self, implies_true, decide_eq_true_eq, decide_eq_false_iff_not, Nat.reduceAdd, Nat.reduceLeDiff, Bool.not_not, reduceCtorEq, false_imp_iff, Bool.not_eq_true', Bool.not_eq_false', Bool.false_eq_true, and_self, forall_const, ne_eq, not_false_eq_true, Nat.reduceEqDiff]
          refine ⟨fun hlt => ?_, fun hge => ?_⟩
          · refine ⟨by decide, ⟨by unfold capOk; omega, fun q hq => match q, hq with | 0, _ => ⟨rfl, trivial, trivial⟩⟩, c + 1, by omega, by omega, ?_⟩
            have hw : IntKind.i64.wrap (((0 + c * 1 : Nat) : Int) + 1) = ((0 + (c + 1) * 1 : Nat) : Int) := by rw [mid_w (by omega)]; omega
            simp only [Bool.or_self, refs, refsL, nb21, nb01, hw, leS_mk, leL_cons, leL_nil, le_junk, le_int, le_bool, le_nil, leLL_nil, leLL_cons, leH_cons, leH_nil, leH1_box, leH1_own, leH1_gone, le_vs, le_agg, le_tup, le_ptr, le_own, le_xp, le_fn, le_opt, le_val, le_elem, le_nil_own, le_nil_vs, leH_ghost, leL_chunk, leXL_id, bnd_int, bnd_bool, bnd_val, bnd_nil, bnd_junk, bnd_vs, bnd_xp, bnd_agg, bnd_tup, bnd_ptr, bnd_own, bnd_elem, bnd_fn, bnd_iface, bnd_opt, bndL_nil, bndL_cons, lenH_cons, lenH_nil, imp_self, implies_true, true_and, and_true]
            have e1 : ([] : List Nat) ++ progL (0) 1 (c + 1) = (([] : List Nat) ++ progL (0) 1 c) ++ [0 + c * 1] := by rw [prog_succ, List.append_assoc]
            have e2 : (([] : List Nat) ++ progL (0) 1 c).length = 0 + c := by rw [List.length_append, prog_len]; simp
            have e3 : ∀ q, q < 0 + c + 1 → leL (0 + 1 + 1 + 1 + 1) (0 + 1 + 1 + 1) (if q < 0 + c then [SV.int IntKind.i64 (((([] : List Nat) ++ progL (0) 1 c).getD q default : Nat) : Int)] else purgeL 1 (takeL 1 (dropL ((q - (0 + c)) * 1) [SV.int IntKind.i64 ((0 + c * 1 : Nat) : Int)]))) [SV.int IntKind.i64 (((([] : List Nat) ++ progL (0) 1 (c + 1)).getD q default : Nat) : Int)] := by
              intro q hq
              rw [e1, getD_app, e2]
              rcases Nat.lt_or_ge q (0 + c) with h' | h'
              · rw [if_pos h', if_pos h']; exact leL_self [.int _ _] ⟨trivial, trivial⟩
              · obtain rfl : q = 0 + c := by omega
                rw [if_neg (by omega), if_neg (by omega), if_pos rfl, Nat.sub_self]
                exact leL_self [.int _ _] ⟨trivial, trivial⟩
            exact ⟨by omega, by omega, ⟨rfl, by omega, e3⟩, by omega, by omega⟩
          · obtain rfl : c = (n - (0) + 1 - 1) / 1 := by omega
            have hT : orderL n 1 = ([] : List Nat) ++ progL (0) 1 ((n - (0) + 1 - 1) / 1) := rfl
            rw [hT] at h
            refine ans_le (h false) ?_ ?_
            · dsimp only [expo, encI, go_sem, Option.bind, Option.map, List.append_nil, Nat.beq, List.cons_append, List.nil_append, List.append_eq, List.map_cons, List.map_nil, ite_self, reduceIte]
              simp only [List.length_append, prog_len, leS_mk, leL_cons, leL_nil, le_junk, le_int, le_bool, le_nil, leLL_nil, leLL_cons, leH_cons, leH_nil, leH1_box, leH1_own, leH1_gone, le_vs, le_agg, le_tup, le_ptr, le_own, le_xp, le_fn, le_opt, le_val, le_elem, le_nil_own, le_nil_vs, leH_ghost, leL_chunk, leXL_id, bnd_int, bnd_bool, bnd_val, bnd_nil, bnd_junk, bnd_vs, bnd_xp, bnd_agg, bnd_tup, bnd_ptr, bnd_own, bnd_elem, bnd_fn, bnd_iface, bnd_opt, bndL_nil, bndL_cons, lenH_cons, lenH_nil, imp_self, implies_true, true_and, and_true]
              simp
            · intro _; simp [freshS, freshL, encI]
      · obtain rfl : kd = 2 := by omega
        refine Loop.keepP 1 [0, 0, 0, 0, 0, 3] Nat (fun c => [(9, .int .i64 ((0 + c * 2 : Nat) : Int))]) (fun c => [(1, .own false 1 (0 + c) (fun q => encI ((([] : List Nat) ++ progL (0) 2 c).getD q default))), (2, .box [.own 1 0 (0 + c) 1])]) [] (fun c => c ≤ (n - (0) + 2 - 1) / 2) (fun c => (n - (0) + 2 - 1) / 2 - c) ?_ ?_
        · refine ⟨0, Nat.zero_le _, ?_⟩
          dsimp only [go_sem, Option.bind, Option.map, List.append_nil, Nat.beq, List.cons_append, List.nil_append, List.append_eq, List.map_cons, List.map_nil, ite_self, reduceIte]
          simp only [Bool.or_self, leS_mk, leL_cons, leL_nil, le_junk, le_int, le_bool, le_nil, leLL_nil, leLL_cons, leH_cons, leH_nil, leH1_box, leH1_own, leH1_gone, le_vs, le_agg, le_tup, le_ptr, le_own, le_xp, le_fn, le_opt, le_val, le_elem, le_nil_own, le_nil_vs, leH_ghost, leL_chunk, leXL_id, bnd_int, bnd_bool, bnd_val, bnd_nil, bnd_junk, bnd_vs, bnd_xp, bnd_agg, bnd_tup, bnd_ptr, bnd_own, bnd_elem, bnd_fn, bnd_iface, bnd_opt, bndL_nil, bndL_cons, lenH_cons, lenH_nil, imp_self, implies_true, true_and, and_true]
          simp [prog_0, leL, le, encI]
        · rintro c hc
          dsimp only [v42, v43, K0_ct42, K0_fn42, K0_ct43, K0_fn43, encI, Int.toNat_natCast, go_sem, Option.bind, Option.map, List.append_nil, Nat.beq, List.cons_append, List.nil_append, List.append_eq, List.map_cons, List.map_nil, ite_self, reduceIte]
          simp only [true_and, and_true, imp_self, implies_true, decide_eq_true_eq, decide_eq_false_iff_not, Nat.reduceAdd, Nat.reduceLeDiff, Bool.not_not, reduceCtorEq, false_imp_iff, Bool.not_eq_true', Bool.not_eq_false', Bool.false_eq_true, and_self, forall_const, ne_eq, not_false_eq_true, Nat.reduceEqDiff]
          refine ⟨fun hlt => ?_, fun hge => ?_⟩
          · refine ⟨by decide, ⟨by unfold capOk; omega, fun q hq => match q, hq with | 0, _ => ⟨rfl, trivial, trivial⟩⟩, c + 1, by omega, by omega, ?_⟩
            have hw : IntKind.i64.wrap (((0 + c * 2 : Nat) : Int) + 2) = ((0 + (c + 1) * 2 : Nat) : Int) := by rw [mid_w (by omega)]; omega
            simp only [Bool.or_self, refs, refsL, nb21, nb01, hw, leS_mk, leL_cons, leL_nil, le_junk, le_int, le_bool, le_nil, leLL_nil, leLL_cons, leH_cons, leH_nil, leH1_box, leH1_own, leH1_gone, le_vs, le_agg, le_tup, le_ptr, le_own, le_xp, le_fn, le_opt, le_val, le_elem, le_nil_own, le_nil_vs, leH_ghost, leL_chunk, leXL_id, bnd_int, bnd_bool, bnd_val, bnd_nil, bnd_junk, bnd_vs, bnd_xp, bnd_agg, bnd_tup, bnd_ptr, bnd_own, bnd_elem, bnd_fn, bnd_iface, bnd_opt, bndL_nil, bndL_cons, lenH_cons, lenH_nil, imp_self, implies_true, true_and, and_true]
            have e1 : ([] : List Nat) ++ progL (0) 2 (c + 1) = (([] : List Nat) ++ progL (0) 2 c) ++ [0 + c * 2] := by rw [prog_succ, List.append_assoc]
            have e2 : (([] : List Nat) ++ progL (0) 2 c).length = 0 + c := by rw [List.length_append, prog_len]; simp
            have e3 : ∀ q, q < 0 + c + 1 → leL (0 + 1 + 1 + 1 + 1) (0 + 1 + 1 + 1) (if q < 0 + c then [SV.int IntKind.i64 (((([] : List Nat) ++ progL (0) 2 c).getD q default : Nat) : Int)] else purgeL 1 (takeL 1 (dropL ((q - (0 + c)) * 1) [SV.int IntKind.i64 ((0 + c * 2 : Nat) : Int)]))) [SV.int IntKind.i64 (((([] : List Nat) ++ progL (0) 2 (c + 1)).getD q default : Nat) : Int)] := by
              intro q hq
              rw [e1, getD_app, e2]
              rcases Nat.lt_or_ge q (0 + c) with h' | h'
              · rw [if_pos h', if_pos h']; exact leL_self [.int _ _] ⟨trivial, trivial⟩
              · obtain rfl : q = 0 + c := by omega
                rw [if_neg (by omega), if_neg (by omega), if_pos rfl, Nat.sub_self]
                exact leL_self [.int _ _] ⟨trivial, trivial⟩
            exact ⟨by omega, by omega, ⟨rfl, by omega, e3⟩, by omega, by omega⟩
          · obtain rfl : c = (n - (0) + 2 - 1) / 2 := by omega
            generalize hA : (n - 0 + 2 - 1) / 2 = A at *
            simp only [Nat.zero_add]
            refine Loop.keepP 1 [0, 0, 0, 0, 0, 3] Nat (fun c => [(9, .int .i64 ((1 + c * 2 : Nat) : Int))]) (fun c => [(1, .own false 1 (A + c) (fun q => encI (((progL 0 2 A) ++ progL (1) 2 c).getD q default))), (2, .box [.own 1 0 (A + c) 1])]) [] (fun c => c ≤ (n - (1) + 2 - 1) / 2) (fun c => (n - (1) + 2 - 1) / 2 - c) ?_ ?_
            · refine ⟨0, Nat.zero_le _, ?_⟩
              dsimp only [go_sem, Option.bind, Option.map, List.append_nil, Nat.beq, List.cons_append, List.nil_append, List.append_eq, List.map_cons, List.map_nil, ite_self, reduceIte]
              simp only [Bool.or_self, leS_mk, leL_cons, leL_nil, le_junk, le_int, le_bool, le_nil, leLL_nil, leLL_cons, leH_cons, leH_nil, leH1_box, leH1_own, leH1_gone, le_vs, le_agg, le_tup, le_ptr, le_own, le_xp, le_fn, le_opt, le_val, le_elem, le_nil_own, le_nil_vs, leH_ghost, leL_chunk, leXL_id, bnd_int, bnd_bool, bnd_val, bnd_nil, bnd_junk, bnd_vs, bnd_xp, bnd_agg, bnd_tup, bnd_ptr, bnd_own, bnd_elem, bnd_fn, bnd_iface, bnd_opt, bndL_nil, bndL_cons, lenH_cons, lenH_nil, imp_self, implies_true, true_and, and_true]
              exact ⟨by omega, by omega, ⟨by omega, fun q hq => by rw [prog_0, List.append_nil]; exact leL_self [.int _ _] ⟨trivial, trivial⟩⟩, by omega, by omega⟩
            · rintro c hc
              dsimp only [v42, v43, K0_ct42, K0_fn42, K0_ct43, K0_fn43, encI, Int.toNat_natCast, go_sem, Option.bind, Option.map, List.append_nil, Nat.beq, List.cons_append, List.nil_append, List.append_eq, List.map_cons, List.map_nil, ite_self, reduceIte]
              simp only [true_and, and_true, imp_self, implies_true, decide_eq_true_eq, decide_eq_false_iff_not, Nat.reduceAdd, Nat.reduceLeDiff, Bool.not_not, reduceCtorEq, false_imp_iff, Bool.not_eq_true', Bool.not_eq_false', Bool.false_eq_true, and_self, forall_const, ne_eq, not_false_eq_true, Nat.reduceEqDiff]
              refine ⟨fun hlt => ?_, fun hge => ?_⟩
              · refine ⟨by decide, ⟨by unfold capOk; omega, fun q hq => match q, hq with | 0, _ => ⟨rfl, trivial, trivial⟩⟩, c + 1, by omega, by omega, ?_⟩
                have hw : IntKind.i64.wrap (((1 + c * 2 : Nat) : Int) + 2) = ((1 + (c + 1) * 2 : Nat) : Int) := by rw [mid_w (by omega)]; omega
                simp only [Bool.or_self, refs, refsL, nb21, nb01, hw, leS_mk, leL_cons, leL_nil, le_junk, le_int, le_bool, le_nil, leLL_nil, leLL_cons, leH_cons, leH_nil, leH1_box, leH1_own, leH1_gone, le_vs, le_agg, le_tup, le_ptr, le_own, le_xp, le_fn, le_opt, le_val, le_elem, le_nil_own, le_nil_vs, leH_ghost, leL_chunk, leXL_id, bnd_int, bnd_bool, bnd_val, bnd_nil, bnd_junk, bnd_vs, bnd_xp, bnd_agg, bnd_tup, bnd_ptr, bnd_own, bnd_elem, bnd_fn, bnd_iface, bnd_opt, bndL_nil, bndL_cons, lenH_cons, lenH_nil, imp_self, implies_true, true_and, and_true]
                have e1 : (progL 0 2 A) ++ progL (1) 2 (c + 1) = ((progL 0 2 A) ++ progL (1) 2 c) ++ [1 + c * 2] := by rw [prog_succ, List.append_assoc]
                have e2 : ((progL 0 2 A) ++ progL (1) 2 c).length = A + c := by rw [List.length_append, prog_len]; rw [prog_len]
                have e3 : ∀ q, q < A + c + 1 → leL (0 + 1 + 1 + 1 + 1) (0 + 1 + 1 + 1) (if q < A + c then [SV.int IntKind.i64 ((((progL 0 2 A) ++ progL (1) 2 c).getD q default : Nat) : Int)] else purgeL 1 (takeL 1 (dropL ((q - (A + c)) * 1) [SV.int IntKind.i64 ((1 + c * 2 : Nat) : Int)]))) [SV.int IntKind.i64 ((((progL 0 2 A) ++ progL (1) 2 (c + 1)).getD q default : Nat) : Int)] := by
                  intro q hq
                  rw [e1, getD_app, e2]
                  rcases Nat.lt_or_ge q (A + c) with h' | h'
                  · rw [if_pos h', if_pos h']; exact leL_self [.int _ _] ⟨trivial, trivial⟩
                  · obtain rfl : q = A + c := by omega
                    rw [if_neg (by omega), if_neg (by omega), if_pos rfl, Nat.sub_self]
                    exact leL_self [.int _ _] ⟨trivial, trivial⟩
                exact ⟨by omega, by omega, ⟨rfl, by omega, e3⟩, by omega, by omega⟩
              · obtain rfl : c = (n - (1) + 2 - 1) / 2 := by omega
                generalize hM : (n - 1 + 2 - 1) / 2 = M at *
                refine ⟨⟨by omega, by omega⟩, ?_⟩
                simp only [subLo_eq, Nat.add_sub_cancel_left, Nat.add_sub_cancel_left]
                have ew : IntKind.i64.wrap ((M : Int) - 1) = (M : Int) - 1 := mid_w (by omega)
                simp only [ew]
                refine Loop.keep [0, 1, 0] Nat (fun t => [(2, .int .i64 t), (3, .int .i64 ((M : Int) - 1 - t))]) (fun t => [(1, .own false 1 (A + M) (fun q => encI (revL (progL 0 2 A ++ progL 1 2 M) A M t q)))]) [] (fun t => 2 * t ≤ M) (fun t => M - t) ?_ ?_
                · refine ⟨0, by omega, ?_⟩
                  dsimp only [go_sem, Option.bind, Option.map, List.append_nil, Nat.beq, List.cons_append, List.nil_append, List.append_eq, List.map_cons, List.map_nil, ite_self, reduceIte]
                  simp only [leS_mk, leL_cons, leL_nil, le_junk, le_int, le_bool, le_nil, leLL_nil, leLL_cons, leH_cons, leH_nil, leH1_box, leH1_own, leH1_gone, le_vs, le_agg, le_tup, le_ptr, le_own, le_xp, le_fn, le_opt, le_val, le_elem, le_nil_own, le_nil_vs, leH_ghost, leL_chunk, leXL_id, bnd_int, bnd_bool, bnd_val, bnd_nil, bnd_junk, bnd_vs, bnd_xp, bnd_agg, bnd_tup, bnd_ptr, bnd_own, bnd_elem, bnd_fn, bnd_iface, bnd_opt, bndL_nil, bndL_cons, lenH_cons, lenH_nil, imp_self, implies_true, true_and, and_true]
                  exact ⟨⟨by omega, rfl, by omega⟩, ⟨by omega, by omega⟩, ⟨fun q hq => by rw [rev_0 (by omega)]; exact leL_self [.int _ _] ⟨trivial, trivial⟩, by omega⟩⟩
                · rintro t ht
                  dsimp only [v42, v43, K0_ct42, K0_fn42, K0_ct43, K0_fn43, encI, Int.toNat_natCast, go_sem, Option.bind, Option.map, List.append_nil, Nat.beq, List.cons_append, List.nil_append, List.append_eq, List.map_cons, List.map_nil, ite_self, reduceIte]
                  simp only [true_and, and_true, imp_self, implies_true, decide_eq_true_eq, decide_eq_false_iff_not, Nat.reduceAdd, Nat.reduceLeDiff, Bool.not_not, reduceCtorEq, false_imp_iff, Bool.not_eq_true', Bool.not_eq_false', Bool.false_eq_true, and_self, forall_const, ne_eq, not_false_eq_true, Nat.reduceEqDiff]
                  refine ⟨fun hlt => ?_, fun hge => ?_⟩
                  · obtain ⟨u, hu⟩ : ∃ u : Nat, (M : Int) - 1 - (t : Int) = (u : Int) := ⟨M - 1 - t, by omega⟩
                    simp only [hu, Int.toNat_natCast, addLo_eq]
                    refine ⟨⟨by omega, by omega⟩, by omega, ⟨by omega, by omega⟩, by omega, ⟨by omega, by omega⟩, by omega, ⟨by omega, by omega⟩, by omega, t + 1, by omega, by omega, ?_⟩
                    have w1 : IntKind.i64.wrap ((t : Int) + 1) = ((t + 1 : Nat) : Int) := by rw [mid_w (by omega)]; omega
                    have w2 : IntKind.i64.wrap ((u : Int) - 1) = (M : Int) - 1 - ((t + 1 : Nat) : Int) := by rw [mid_w (by omega)]; omega
                    have hs : ∀ q, q < (A + M) → revL (progL 0 2 A ++ progL 1 2 M) A M (t + 1) q = if q = A + u then revL (progL 0 2 A ++ progL 1 2 M) A M t (A + t) else if q = A + t then revL (progL 0 2 A ++ progL 1 2 M) A M t (A + u) else revL (progL 0 2 A ++ progL 1 2 M) A M t q := fun q hq => rev_step (by omega) (by omega) (by omega)
                    simp only [w1, w2, if_neg (show ¬ A + u = A + t by omega)]
                    dsimp only [go_sem, Option.bind, Option.map, List.append_nil, Nat.beq, List.cons_append, List.nil_append, List.append_eq, List.map_cons, List.map_nil, ite_self, reduceIte]
                    simp only [leS_mk, leL_cons, leL_nil, le_junk, le_int, le_bool, le_nil, leLL_nil, leLL_cons, leH_cons, leH_nil, leH1_box, leH1_own, leH1_gone, le_vs, le_agg, le_tup, le_ptr, le_own, le_xp, le_fn, le_opt, le_val, le_elem, le_nil_own, le_nil_vs, leH_ghost, leL_chunk, leXL_id, bnd_int, bnd_bool, bnd_val, bnd_nil, bnd_junk, bnd_vs, bnd_xp, bnd_agg, bnd_tup, bnd_ptr, bnd_own, bnd_elem, bnd_fn, bnd_iface, bnd_opt, bndL_nil, bndL_cons, lenH_cons, lenH_nil, imp_self, implies_true, true_and, and_true]
                    refine ⟨by omega, ⟨by omega, by omega⟩, fun q hq => ?_, by omega⟩
                    rw [hs q hq]
                    by_cases h1 : q = A + u
                    · simp only [if_pos h1]; exact leL_self [.int _ _] ⟨trivial, trivial⟩
                    · by_cases h2 : q = A + t
                      · simp only [if_neg h1, if_pos h2]; exact leL_self [.int _ _] ⟨trivial, trivial⟩
                      · simp only [if_neg h1, if_neg h2]; exact leL_self [.int _ _] ⟨trivial, trivial⟩
                  · have hge2 := hge
                    have hT : orderL n 2 = progL 0 2 ((n - 0 + 2 - 1) / 2) ++ (progL 1 2 ((n - 1 + 2 - 1) / 2)).reverse := rfl
                    rw [hA, hM] at hT
                    rw [hT] at h
                    refine ans_le (h false) ?_ ?_
                    · dsimp only [expo, encI, go_sem, Option.bind, Option.map, List.append_nil, Nat.beq, List.cons_append, List.nil_append, List.append_eq, List.map_cons, List.map_nil, ite_self, reduceIte]
                      simp only [List.length_append, List.length_reverse, prog_len, leS_mk, leL_cons, leL_nil, le_junk, le_int, le_bool, le_nil, leLL_nil, leLL_cons, leH_cons, leH_nil, leH1_box, leH1_own, leH1_gone, le_vs, le_agg, le_tup, le_ptr, le_own, le_xp, le_fn, le_opt, le_val, le_elem, le_nil_own, le_nil_vs, leH_ghost, leL_chunk, leXL_id, bnd_int, bnd_bool, bnd_val, bnd_nil, bnd_junk, bnd_vs, bnd_xp, bnd_agg, bnd_tup, bnd_ptr, bnd_own, bnd_elem, bnd_fn, bnd_iface, bnd_opt, bndL_nil, bndL_cons, lenH_cons, lenH_nil, imp_self, implies_true, true_and, and_true]
                      try simp only [true_and]
                      intro q hq
                      rw [rev_end (L1 := progL 0 2 A) (P := progL (1) 2 M) (prog_len _ _ _) (prog_len _ _ _) (by omega) (by omega) hq]
                      exact leXL_self _
                    · intro _; simp [freshS, freshL, encI]
      · obtain rfl : kd = 3 := by omega
        refine Loop.keepP 1 [0, 0, 0, 0, 0, 3] Nat (fun c => [(9, .int .i64 ((0 + c * 2 : Nat) : Int))]) (fun c => [(1, .own false 1 (0 + c) (fun q => encI ((([] : List Nat) ++ progL (0) 2 c).getD q default))), (2, .box [.own 1 0 (0 + c) 1])]) [] (fun c => c ≤ (n - (0) + 2 - 1) / 2) (fun c => (n - (0) + 2 - 1) / 2 - c) ?_ ?_
        · refine ⟨0, Nat.zero_le _, ?_⟩
          dsimp only [go_sem, Option.bind, Option.map, List.append_nil, Nat.beq, List.cons_append, List.nil_append, List.append_eq, List.map_cons, List.map_nil, ite_self, reduceIte]
          simp only [Bool.or_self, leS_mk, leL_cons, leL_nil, le_junk, le_int, le_bool, le_nil, leLL_nil, leLL_cons, leH_cons, leH_nil, leH1_box, leH1_own, leH1_gone, le_vs, le_agg, le_tup, le_ptr, le_own, le_xp, le_fn, le_opt, le_val, le_elem, le_nil_own, le_nil_vs, leH_ghost, leL_chunk, leXL_id, bnd_int, bnd_bool, bnd_val, bnd_nil, bnd_junk, bnd_vs, bnd_xp, bnd_agg, bnd_tup, bnd_ptr, bnd_own, bnd_elem, bnd_fn, bnd_iface, bnd_opt, bndL_nil, bndL_cons, lenH_cons, lenH_nil, imp_self, implies_true, true_and, and_true]
          simp [prog_0, leL, le, encI]
        · rintro c hc
          dsimp only [v42, v43, K0_ct42, K0_fn42, K0_ct43, K0_fn43, encI, Int.toNat_natCast, go_sem, Option.bind, Option.map, List.append_nil, Nat.beq, List.cons_append, List.nil_append, List.append_eq, List.map_cons, List.map_nil, ite_self, reduceIte]
          simp only [true_and, and_true, imp_self, implies_true, decide_eq_true_eq, decide_eq_false_iff_not, Nat.reduceAdd, Nat.reduceLeDiff, Bool.not_not, reduceCtorEq, false_imp_iff, Bool.not_eq_true', Bool.not_eq_false', Bool.false_eq_true, and_self, forall_const, ne_eq, not_false_eq_true, Nat.reduceEqDiff]
          refine ⟨fun hlt => ?_, fun hge => ?_⟩
          · refine ⟨by decide, ⟨by unfold capOk; omega, fun q hq => match q, hq with | 0, _ => ⟨rfl, trivial, trivial⟩⟩, c + 1, by omega, by omega, ?_⟩
            have hw : IntKind.i64.wrap (((0 + c * 2 : Nat) : Int) + 2) = ((0 + (c + 1) * 2 : Nat) : Int) := by rw [mid_w (by omega)]; omega
            simp only [Bool.or_self, refs, refsL, nb21, nb01, hw, leS_mk, leL_cons, leL_nil, le_junk, le_int, le_bool, le_nil, leLL_nil, leLL_cons, leH_cons, leH_nil, leH1_box, leH1_own, leH1_gone, le_vs, le_agg, le_tup, le_ptr, le_own, le_xp, le_fn, le_opt, le_val, le_elem, le_nil_own, le_nil_vs, leH_ghost, leL_chunk, leXL_id, bnd_int, bnd_bool, bnd_val, bnd_nil, bnd_junk, bnd_vs, bnd_xp, bnd_agg, bnd_tup, bnd_ptr, bnd_own, bnd_elem, bnd_fn, bnd_iface, bnd_opt, bndL_nil, bndL_cons, lenH_cons, lenH_nil, imp_self, implies_true, true_and, and_true]
            have e1 : ([] : List Nat) ++ progL (0) 2 (c + 1) = (([] : List Nat) ++ progL (0) 2 c) ++ [0 + c * 2] := by rw [prog_succ, List.append_assoc]
            have e2 : (([] : List Nat) ++ progL (0) 2 c).length = 0 + c := by rw [List.length_append, prog_len]; simp
            have e3 : ∀ q, q < 0 + c + 1 → leL (0 + 1 + 1 + 1 + 1) (0 + 1 + 1 + 1) (if q < 0 + c then [SV.int IntKind.i64 (((([] : List Nat) ++ progL (0) 2 c).getD q default : Nat) : Int)] else purgeL 1 (takeL 1 (dropL ((q - (0 + c)) * 1) [SV.int IntKind.i64 ((0 + c * 2 : Nat) : Int)]))) [SV.int IntKind.i64 (((([] : List Nat) ++ progL (0) 2 (c + 1)).getD q default : Nat) : Int)] := by
              intro q hq
              rw [e1, getD_app, e2]
              rcases Nat.lt_or_ge q (0 + c) with h' | h'
              · rw [if_pos h', if_pos h']; exact leL_self [.int _ _] ⟨trivial, trivial⟩
              · obtain rfl : q = 0 + c := by omega
                rw [if_neg (by omega), if_neg (by omega), if_pos rfl, Nat.sub_self]
                exact leL_self [.int _ _] ⟨trivial, trivial⟩
            exact ⟨by omega, by omega, ⟨rfl, by omega, e3⟩, by omega, by omega⟩
          · obtain rfl : c = (n - (0) + 2 - 1) / 2 := by omega
            generalize hM : (n - 0 + 2 - 1) / 2 = M at *
            refine ⟨⟨by omega, by omega⟩, ?_⟩
            simp only [subLo_eq, Nat.add_sub_cancel_left, Nat.zero_add]
            have ew : IntKind.i64.wrap ((M : Int) - 1) = (M : Int) - 1 := mid_w (by omega)
            simp only [ew]
            refine Loop.keep [0, 1, 0] Nat (fun t => [(2, .int .i64 t), (3, .int .i64 ((M : Int) - 1 - t))]) (fun t => [(1, .own false 1 M (fun q => encI (revL (progL 0 2 M) 0 M t q)))]) [] (fun t => 2 * t ≤ M) (fun t => M - t) ?_ ?_
            · refine ⟨0, by omega, ?_⟩
              dsimp only [go_sem, Option.bind, Option.map, List.append_nil, Nat.beq, List.cons_append, List.nil_append, List.append_eq, List.map_cons, List.map_nil, ite_self, reduceIte]
              simp only [leS_mk, leL_cons, leL_nil, le_junk, le_int, le_bool, le_nil, leLL_nil, leLL_cons, leH_cons, leH_nil, leH1_box, leH1_own, leH1_gone, le_vs, le_agg, le_tup, le_ptr, le_own, le_xp, le_fn, le_opt, le_val, le_elem, le_nil_own, le_nil_vs, leH_ghost, leL_chunk, leXL_id, bnd_int, bnd_bool, bnd_val, bnd_nil, bnd_junk, bnd_vs, bnd_xp, bnd_agg, bnd_tup, bnd_ptr, bnd_own, bnd_elem, bnd_fn, bnd_iface, bnd_opt, bndL_nil, bndL_cons, lenH_cons, lenH_nil, imp_self, implies_true, true_and, and_true]
              exact ⟨⟨by omega, rfl, by omega⟩, ⟨by omega, by omega⟩, ⟨fun q hq => by rw [rev_0 (by omega)]; exact leL_self [.int _ _] ⟨trivial, trivial⟩, by omega⟩⟩
            · rintro t ht
              dsimp only [v42, v43, K0_ct42, K0_fn42, K0_ct43, K0_fn43, encI, Int.toNat_natCast, go_sem, Option.bind, Option.map, List.append_nil, Nat.beq, List.cons_append, List.nil_append, List.append_eq, List.map_cons, List.map_nil, ite_self, reduceIte]
              simp only [true_and, and_true, imp_self, implies_true, decide_eq_true_eq, decide_eq_false_iff_not, Nat.reduceAdd, Nat.reduceLeDiff, Bool.not_not, reduceCtorEq, false_imp_iff, Bool.not_eq_true', Bool.not_eq_false', Bool.false_eq_true, and_self, forall_const, ne_eq, not_false_eq_true, Nat.reduceEqDiff]
              refine ⟨fun hlt => ?_, fun hge => ?_⟩
              · obtain ⟨u, hu⟩ : ∃ u : Nat, (M : Int) - 1 - (t : Int) = (u : Int) := ⟨M - 1 - t, by omega⟩
                simp only [hu, Int.toNat_natCast, addLo_eq]
                refine ⟨⟨by omega, by omega⟩, by omega, ⟨by omega, by omega⟩, by omega, ⟨by omega, by omega⟩, by omega, ⟨by omega, by omega⟩, by omega, t + 1, by omega, by omega, ?_⟩
                have w1 : IntKind.i64.wrap ((t : Int) + 1) = ((t + 1 : Nat) : Int) := by rw [mid_w (by omega)]; omega
                have w2 : IntKind.i64.wrap ((u : Int) - 1) = (M : Int) - 1 - ((t + 1 : Nat) : Int) := by rw [mid_w (by omega)]; omega
                have hs : ∀ q, q < M → revL (progL 0 2 M) 0 M (t + 1) q = if q = u then revL (progL 0 2 M) 0 M t (t) else if q = t then revL (progL 0 2 M) 0 M t (u) else revL (progL 0 2 M) 0 M t q := fun q hq => by have e := rev_step (L := progL 0 2 M) (A := 0) (M := M) (t := t) (u := u) (q := q) (by omega) (by omega) (by omega); simpa only [Nat.zero_add] using e
                simp only [w1, w2, if_neg (show ¬ u = t by omega)]
                dsimp only [go_sem, Option.bind, Option.map, List.append_nil, Nat.beq, List.cons_append, List.nil_append, List.append_eq, List.map_cons, List.map_nil, ite_self, reduceIte]
                simp only [leS_mk, leL_cons, leL_nil, le_junk, le_int, le_bool, le_nil, leLL_nil, leLL_cons, leH_cons, leH_nil, leH1_box, leH1_own, leH1_gone, le_vs, le_agg, le_tup, le_ptr, le_own, le_xp, le_fn, le_opt, le_val, le_elem, le_nil_own, le_nil_vs, leH_ghost, leL_chunk, leXL_id, bnd_int, bnd_bool, bnd_val, bnd_nil, bnd_junk, bnd_vs, bnd_xp, bnd_agg, bnd_tup, bnd_ptr, bnd_own, bnd_elem, bnd_fn, bnd_iface, bnd_opt, bndL_nil, bndL_cons, lenH_cons, lenH_nil, imp_self, implies_true, true_and, and_true]
                refine ⟨by omega, ⟨by omega, by omega⟩, fun q hq => ?_, by omega⟩
                rw [hs q hq]
                by_cases h1 : q = u
                · simp only [if_pos h1]; exact leL_self [.int _ _] ⟨trivial, trivial⟩
                · by_cases h2 : q = t
                  · simp only [if_neg h1, if_pos h2]; exact leL_self [.int _ _] ⟨trivial, trivial⟩
                  · simp only [if_neg h1, if_neg h2]; exact leL_self [.int _ _] ⟨trivial, trivial⟩
              · have hge2 := hge
                skip
                refine Loop.keepP 1 [0, 0, 0, 0, 0, 3] Nat (fun c => [(9, .int .i64 ((1 + c * 2 : Nat) : Int))]) (fun c => [(1, .own false 1 (M + c) (fun q => encI ((((progL 0 2 M).reverse) ++ progL (1) 2 c).getD q default))), (2, .box [.own 1 0 (M + c) 1])]) [] (fun c => c ≤ (n - (1) + 2 - 1) / 2) (fun c => (n - (1) + 2 - 1) / 2 - c) ?_ ?_
                · refine ⟨0, Nat.zero_le _, ?_⟩
                  dsimp only [go_sem, Option.bind, Option.map, List.append_nil, Nat.beq, List.cons_append, List.nil_append, List.append_eq, List.map_cons, List.map_nil, ite_self, reduceIte]
                  simp only [Bool.or_self, leS_mk, leL_cons, leL_nil, le_junk, le_int, le_bool, le_nil, leLL_nil, leLL_cons, leH_cons, leH_nil, leH1_box, leH1_own, leH1_gone, le_vs, le_agg, le_tup, le_ptr, le_own, le_xp, le_fn, le_opt, le_val, le_elem, le_nil_own, le_nil_vs, leH_ghost, leL_chunk, leXL_id, bnd_int, bnd_bool, bnd_val, bnd_nil, bnd_junk, bnd_vs, bnd_xp, bnd_agg, bnd_tup, bnd_ptr, bnd_own, bnd_elem, bnd_fn, bnd_iface, bnd_opt, bndL_nil, bndL_cons, lenH_cons, lenH_nil, imp_self, implies_true, true_and, and_true]
                  refine ⟨by omega, by omega, ⟨by omega, fun q hq => ?_⟩, by omega, by omega⟩
                  rw [prog_0, List.append_nil]
                  have e := rev_end (L1 := ([] : List Nat)) (P := progL 0 2 M) (A := 0) (M := M) (t := t) (q := q) rfl (prog_len _ _ _) (by omega) (by omega) (by omega)
                  rw [List.nil_append, List.nil_append] at e
                  rw [e]
                  exact leL_self [.int _ _] ⟨trivial, trivial⟩
                · rintro c hc
                  dsimp only [v42, v43, K0_ct42, K0_fn42, K0_ct43, K0_fn43, encI, Int.toNat_natCast, go_sem, Option.bind, Option.map, List.append_nil, Nat.beq, List.cons_append, List.nil_append, List.append_eq, List.map_cons, List.map_nil, ite_self, reduceIte]
                  simp only [true_and, and_true, imp_self, implies_true, decide_eq_true_eq, decide_eq_false_iff_not, Nat.reduceAdd, Nat.reduceLeDiff, Bool.not_not, reduceCtorEq, false_imp_iff, Bool.not_eq_true', Bool.not_eq_false', Bool.false_eq_true, and_self, forall_const, ne_eq, not_false_eq_true, Nat.reduceEqDiff]
                  refine ⟨fun hlt => ?_, fun hge => ?_⟩
                  · refine ⟨by decide, ⟨by unfold capOk; omega, fun q hq => match q, hq with | 0, _ => ⟨rfl, trivial, trivial⟩⟩, c + 1, by omega, by omega, ?_⟩
                    have hw : IntKind.i64.wrap (((1 + c * 2 : Nat) : Int) + 2) = ((1 + (c + 1) * 2 : Nat) : Int) := by rw [mid_w (by omega)]; omega
                    simp only [Bool.or_self, refs, refsL, nb21, nb01, hw, leS_mk, leL_cons, leL_nil, le_junk, le_int, le_bool, le_nil, leLL_nil, leLL_cons, leH_cons, leH_nil, leH1_box, leH1_own, leH1_gone, le_vs, le_agg, le_tup, le_ptr, le_own, le_xp, le_fn, le_opt, le_val, le_elem, le_nil_own, le_nil_vs, leH_ghost, leL_chunk, leXL_id, bnd_int, bnd_bool, bnd_val, bnd_nil, bnd_junk, bnd_vs, bnd_xp, bnd_agg, bnd_tup, bnd_ptr, bnd_own, bnd_elem, bnd_fn, bnd_iface, bnd_opt, bndL_nil, bndL_cons, lenH_cons, lenH_nil, imp_self, implies_true, true_and, and_true]
                    have e1 : ((progL 0 2 M).reverse) ++ progL (1) 2 (c + 1) = (((progL 0 2 M).reverse) ++ progL (1) 2 c) ++ [1 + c * 2] := by rw [prog_succ, List.append_assoc]
                    have e2 : (((progL 0 2 M).reverse) ++ progL (1) 2 c).length = M + c := by rw [List.length_append, prog_len]; rw [List.length_reverse, prog_len]
                    have e3 : ∀ q, q < M + c + 1 → leL (0 + 1 + 1 + 1 + 1) (0 + 1 + 1 + 1) (if q < M + c then [SV.int IntKind.i64 (((((progL 0 2 M).reverse) ++ progL (1) 2 c).getD q default : Nat) : Int)] else purgeL 1 (takeL 1 (dropL ((q - (M + c)) * 1) [SV.int IntKind.i64 ((1 + c * 2 : Nat) : Int)]))) [SV.int IntKind.i64 (((((progL 0 2 M).reverse) ++ progL (1) 2 (c + 1)).getD q default : Nat) : Int)] := by
                      intro q hq
                      rw [e1, getD_app, e2]
                      rcases Nat.lt_or_ge q (M + c) with h' | h'
                      · rw [if_pos h', if_pos h']; exact leL_self [.int _ _] ⟨trivial, trivial⟩
                      · obtain rfl : q = M + c := by omega
                        rw [if_neg (by omega), if_neg (by omega), if_pos rfl, Nat.sub_self]
                        exact leL_self [.int _ _] ⟨trivial, trivial⟩
                    exact ⟨by omega, by omega, ⟨rfl, by omega, e3⟩, by omega, by omega⟩
                  · obtain rfl : c = (n - (1) + 2 - 1) / 2 := by omega
                    generalize hB : (n - 1 + 2 - 1) / 2 = B at *
                    have hT : orderL n 3 = (progL 0 2 ((n - 0 + 2 - 1) / 2)).reverse ++ progL 1 2 ((n - 1 + 2 - 1) / 2) := rfl
                    rw [hM, hB] at hT
                    rw [hT] at h
                    refine ans_le (h false) ?_ ?_
                    · dsimp only [expo, encI, go_sem, Option.bind, Option.map, List.append_nil, Nat.beq, List.cons_append, List.nil_append, List.append_eq, List.map_cons, List.map_nil, ite_self, reduceIte]
                      simp only [List.length_append, List.length_reverse, prog_len, leS_mk, leL_cons, leL_nil, le_junk, le_int, le_bool, le_nil, leLL_nil, leLL_cons, leH_cons, leH_nil, leH1_box, leH1_own, leH1_gone, le_vs, le_agg, le_tup, le_ptr, le_own, le_xp, le_fn, le_opt, le_val, le_elem, le_nil_own, le_nil_vs, leH_ghost, leL_chunk, leXL_id, bnd_int, bnd_bool, bnd_val, bnd_nil, bnd_junk, bnd_vs, bnd_xp, bnd_agg, bnd_tup, bnd_ptr, bnd_own, bnd_elem, bnd_fn, bnd_iface, bnd_opt, bndL_nil, bndL_cons, lenH_cons, lenH_nil, imp_self, implies_true, true_and, and_true] <;> simp
                    · intro _; simp [freshS, freshL, encI]
      · obtain rfl : kd = 4 := by omega
        refine Loop.keep [2, 3, 0] Nat (fun f => [(26, .int .i64 f)]) (fun f => [(1, .own false 1 (accL n f).length (fun q => encI ((accL n f).getD q default))), (2, .box [.own 1 0 (accL n f).length 1])]) [] (fun f => f ≤ 4) (fun f => 4 - f) ?_ ?_
        · refine ⟨0, by omega, ?_⟩
          dsimp only [go_sem, Option.bind, Option.map, List.append_nil, Nat.beq, List.cons_append, List.nil_append, List.append_eq, List.map_cons, List.map_nil, ite_self, reduceIte]
          simp only [leS_mk, leL_cons, leL_nil, le_junk, le_int, le_bool, le_nil, leLL_nil, leLL_cons, leH_cons, leH_nil, leH1_box, leH1_own, leH1_gone, le_vs, le_agg, le_tup, le_ptr, le_own, le_xp, le_fn, le_opt, le_val, le_elem, le_nil_own, le_nil_vs, leH_ghost, leL_chunk, leXL_id, bnd_int, bnd_bool, bnd_val, bnd_nil, bnd_junk, bnd_vs, bnd_xp, bnd_agg, bnd_tup, bnd_ptr, bnd_own, bnd_elem, bnd_fn, bnd_iface, bnd_opt, bndL_nil, bndL_cons, lenH_cons, lenH_nil, imp_self, implies_true, true_and, and_true]
          simp [accL]
        · rintro f hf4
          dsimp only [v42, v43, K0_ct42, K0_fn42, K0_ct43, K0_fn43, encI, Int.toNat_natCast, go_sem, Option.bind, Option.map, List.append_nil, Nat.beq, List.cons_append, List.nil_append, List.append_eq, List.map_cons, List.map_nil, ite_self, reduceIte]
          simp only [true_and, and_true, imp_self, implies_true, decide_eq_true_eq, decide_eq_false_iff_not, Nat.reduceAdd, Nat.reduceLeDiff, Bool.not_not, reduceCtorEq, false_imp_iff, Bool.not_eq_true', Bool.not_eq_false', Bool.false_eq_true, and_self, forall_const, ne_eq, not_false_eq_true, Nat.reduceEqDiff]
          have hal := acc_le f hn (by omega)
          refine ⟨fun hlf => ?_, fun hgf => ?_⟩
          · refine Loop.keepP 1 [0, 0, 0, 0, 0, 3] Nat (fun c => [(9, .int .i64 ((f + c * 4 : Nat) : Int))]) (fun c => [(1, .own false 1 ((accL n f).length + c) (fun q => encI (((accL n f) ++ progL (f) 4 c).getD q default))), (2, .box [.own 1 0 ((accL n f).length + c) 1])]) [] (fun c => c ≤ (n - (f) + 4 - 1) / 4) (fun c => (n - (f) + 4 - 1) / 4 - c) ?_ ?_
            · refine ⟨0, Nat.zero_le _, ?_⟩
              dsimp only [go_sem, Option.bind, Option.map, List.append_nil, Nat.beq, List.cons_append, List.nil_append, List.append_eq, List.map_cons, List.map_nil, ite_self, reduceIte]
              simp only [Bool.or_self, leS_mk, leL_cons, leL_nil, le_junk, le_int, le_bool, le_nil, leLL_nil, leLL_cons, leH_cons, leH_nil, leH1_box, leH1_own, leH1_gone, le_vs, le_agg, le_tup, le_ptr, le_own, le_xp, le_fn, le_opt, le_val, le_elem, le_nil_own, le_nil_vs, leH_ghost, leL_chunk, leXL_id, bnd_int, bnd_bool, bnd_val, bnd_nil, bnd_junk, bnd_vs, bnd_xp, bnd_agg, bnd_tup, bnd_ptr, bnd_own, bnd_elem, bnd_fn, bnd_iface, bnd_opt, bndL_nil, bndL_cons, lenH_cons, lenH_nil, imp_self, implies_true, true_and, and_true]
              exact ⟨⟨by omega, by omega, by omega⟩, by omega, ⟨by omega, fun q hq => by rw [prog_0, List.append_nil]; exact leL_self [.int _ _] ⟨trivial, trivial⟩⟩, by omega, by omega⟩
            · rintro c hc
              dsimp only [v42, v43, K0_ct42, K0_fn42, K0_ct43, K0_fn43, encI, Int.toNat_natCast, go_sem, Option.bind, Option.map, List.append_nil, Nat.beq, List.cons_append, List.nil_append, List.append_eq, List.map_cons, List.map_nil, ite_self, reduceIte]
              simp only [true_and, and_true, imp_self, implies_true, decide_eq_true_eq, decide_eq_false_iff_not, Nat.reduceAdd, Nat.reduceLeDiff, Bool.not_not, reduceCtorEq, false_imp_iff, Bool.not_eq_true', Bool.not_eq_false', Bool.false_eq_true, and_self, forall_const, ne_eq, not_false_eq_true, Nat.reduceEqDiff]
              refine ⟨fun hlt => ?_, fun hge => ?_⟩
              · refine ⟨by decide, ⟨by unfold capOk; omega, fun q hq => match q, hq with | 0, _ => ⟨rfl, trivial, trivial⟩⟩, c + 1, by omega, by omega, ?_⟩
                have hw : IntKind.i64.wrap (((f + c * 4 : Nat) : Int) + 4) = ((f + (c + 1) * 4 : Nat) : Int) := by rw [mid_w (by omega)]; omega
                simp only [Bool.or_self, refs, refsL, nb21, nb01, hw, leS_mk, leL_cons, leL_nil, le_junk, le_int, le_bool, le_nil, leLL_nil, leLL_cons, leH_cons, leH_nil, leH1_box, leH1_own, leH1_gone, le_vs, le_agg, le_tup, le_ptr, le_own, le_xp, le_fn, le_opt, le_val, le_elem, le_nil_own, le_nil_vs, leH_ghost, leL_chunk, leXL_id, bnd_int, bnd_bool, bnd_val, bnd_nil, bnd_junk, bnd_vs, bnd_xp, bnd_agg, bnd_tup, bnd_ptr, bnd_own, bnd_elem, bnd_fn, bnd_iface, bnd_opt, bndL_nil, bndL_cons, lenH_cons, lenH_nil, imp_self, implies_true, true_and, and_true]
                have e1 : (accL n f) ++ progL (f) 4 (c + 1) = ((accL n f) ++ progL (f) 4 c) ++ [f + c * 4] := by rw [prog_succ, List.append_assoc]
                have e2 : ((accL n f) ++ progL (f) 4 c).length = (accL n f).length + c := by rw [List.length_append, prog_len]; try rfl
                have e3 : ∀ q, q < (accL n f).length + c + 1 → leL (0 + 1 + 1 + 1 + 1) (0 + 1 + 1 + 1) (if q < (accL n f).length + c then [SV.int IntKind.i64 ((((accL n f) ++ progL (f) 4 c).getD q default : Nat) : Int)] else purgeL 1 (takeL 1 (dropL ((q - ((accL n f).length + c)) * 1) [SV.int IntKind.i64 ((f + c * 4 : Nat) : Int)]))) [SV.int IntKind.i64 ((((accL n f) ++ progL (f) 4 (c + 1)).getD q default : Nat) : Int)] := by
                  intro q hq
                  rw [e1, getD_app, e2]
                  rcases Nat.lt_or_ge q ((accL n f).length + c) with h' | h'
                  · rw [if_pos h', if_pos h']; exact leL_self [.int _ _] ⟨trivial, trivial⟩
                  · obtain rfl : q = (accL n f).length + c := by omega
                    rw [if_neg (by omega), if_neg (by omega), if_pos rfl, Nat.sub_self]
                    exact leL_self [.int _ _] ⟨trivial, trivial⟩
                exact ⟨by omega, by omega, ⟨rfl, by omega, e3⟩, by omega, by omega⟩
              · obtain rfl : c = (n - (f) + 4 - 1) / 4 := by omega
                refine ⟨f + 1, by omega, by omega, ?_⟩
                have wf : IntKind.i64.wrap ((f : Int) + 1) = ((f + 1 : Nat) : Int) := by rw [mid_w (by omega)]; omega
                have ea : accL n (f + 1) = accL n f ++ progL f 4 ((n - f + 4 - 1) / 4) := rfl
                simp only [wf, ea, List.length_append, prog_len, leS_mk, leL_cons, leL_nil, le_junk, le_int, le_bool, le_nil, leLL_nil, leLL_cons, leH_cons, leH_nil, leH1_box, leH1_own, leH1_gone, le_vs, le_agg, le_tup, le_ptr, le_own, le_xp, le_fn, le_opt, le_val, le_elem, le_nil_own, le_nil_vs, leH_ghost, leL_chunk, leXL_id, bnd_int, bnd_bool, bnd_val, bnd_nil, bnd_junk, bnd_vs, bnd_xp, bnd_agg, bnd_tup, bnd_ptr, bnd_own, bnd_elem, bnd_fn, bnd_iface, bnd_opt, bndL_nil, bndL_cons, lenH_cons, lenH_nil, imp_self, implies_true, true_and, and_true]
                omega
          · obtain rfl : f = 4 := by omega
            have hT : orderL n 4 = accL n 4 := rfl
            rw [hT] at h
            refine ans_le (h false) ?_ ?_
            · dsimp only [expo, encI, go_sem, Option.bind, Option.map, List.append_nil, Nat.beq, List.cons_append, List.nil_append, List.append_eq, List.map_cons, List.map_nil, ite_self, reduceIte]
              simp only [leS_mk, leL_cons, leL_nil, le_junk, le_int, le_bool, le_nil, leLL_nil, leLL_cons, leH_cons, leH_nil, leH1_box, leH1_own, leH1_gone, le_vs, le_agg, le_tup, le_ptr, le_own, le_xp, le_fn, le_opt, le_val, le_elem, le_nil_own, le_nil_vs, leH_ghost, leL_chunk, leXL_id, bnd_int, bnd_bool, bnd_val, bnd_nil, bnd_junk, bnd_vs, bnd_xp, bnd_agg, bnd_tup, bnd_ptr, bnd_own, bnd_elem, bnd_fn, bnd_iface, bnd_opt, bndL_nil, bndL_cons, lenH_cons, lenH_nil, imp_self, implies_true, true_and, and_true]
            · intro _; simp [freshS, freshL, encI]
  · exact h.1.elim
end Go.Proofs.Ytojaibhjfeojjaa

/- Layouts, walked: the laws' helpers; the document's examples. -/
/- Layouts, walked: the laws' helpers; the document's examples. -/
set_option linter.all false
namespace Go.Proofs.Ytojaibhjfeojjaa
open Go Go.Vx
set_option maxRecDepth 100000
set_option maxHeartbeats 4000000

def v13 : VF := { ntmps := 26, res := [.tmp 4], body :=
 (.seq (.region [⟨(some 4), none, .mov, [.cn (.bool false)]⟩])
 (.seq (.seq (.region [⟨(some 6), none, .mov, [.tm 0]⟩,
  ⟨(some 7), none, .len, [.tm 6]⟩,
  ⟨(some 8), none, .mov, [.tm 1]⟩,
  ⟨(some 9), none, .len, [.tm 8]⟩,
  ⟨(some 10), none, (.cmp .neq), [.tm 7, .tm 9]⟩])
 (.cond (.tm 10) (.seq (.region [⟨(some 4), none, .mov, [.cn (.bool false)]⟩])
 .ret)
  .skip))
 (.seq (.seq (.region [⟨(some 5), none, .mov, [.cn (.int .i64 0)]⟩])
 (.block 0 (.loop (.seq (.seq (.region [⟨(some 11), none, .mov, [.tm 5]⟩,
  ⟨(some 12), none, .mov, [.tm 0]⟩,
  ⟨(some 13), none, .len, [.tm 12]⟩,
  ⟨(some 14), none, (.cmp .lss), [.tm 11, .tm 13]⟩])
 (.cond (.tm 14) .skip
  (.exit 0)))
 (.seq (.block 1 (.seq (.draw [] [⟨⟨(some 17), none, .mov, [.tm 0]⟩, []⟩,
  ⟨⟨(some 18), none, .mov, [.tm 5]⟩, []⟩,
  ⟨⟨(some 19), none, (.idxAddr 4), [.tm 17, .tm 18]⟩, []⟩,
  ⟨⟨(some 20), none, (.load true 4), [.tm 19]⟩, []⟩,
  ⟨⟨(some 21), none, .mov, [.tm 1]⟩, []⟩,
  ⟨⟨(some 22), none, .mov, [.tm 5]⟩, []⟩,
  ⟨⟨(some 23), none, (.idxAddr 4), [.tm 21, .tm 22]⟩, []⟩,
  ⟨⟨(some 24), none, (.load true 4), [.tm 23]⟩, []⟩,
  ⟨⟨(some 25), none, (.eqv true [true, true, true, true]), [.tm 20, .tm 24]⟩, []⟩])
 (.cond (.tm 25) (.seq (.region [⟨(some 4), none, .mov, [.cn (.bool false)]⟩])
 .ret)
  .skip)))
 (.region [⟨(some 15), none, .mov, [.tm 5]⟩,
  ⟨(some 16), none, (.ari .add), [.tm 15, .cn (.int .i64 1)]⟩,
  ⟨(some 5), none, .mov, [.tm 16]⟩]))))))
 (.seq (.region [⟨(some 4), none, .mov, [.cn (.bool true)]⟩])
 .ret)))) }
theorem v13_is : vfunc Try.prog Try.f13 = some v13 := by kernel_rfl
def v16 : VF := { ntmps := 26, res := [.tmp 4], body :=
 (.seq (.region [⟨(some 4), none, .mov, [.cn (.bool false)]⟩])
 (.seq (.seq (.region [⟨(some 6), none, .mov, [.tm 0]⟩,
  ⟨(some 7), none, .len, [.tm 6]⟩,
  ⟨(some 8), none, .mov, [.tm 1]⟩,
  ⟨(some 9), none, .len, [.tm 8]⟩,
  ⟨(some 10), none, (.cmp .neq), [.tm 7, .tm 9]⟩])
 (.cond (.tm 10) (.seq (.region [⟨(some 4), none, .mov, [.cn (.bool false)]⟩])
 .ret)
  .skip))
 (.seq (.seq (.region [⟨(some 5), none, .mov, [.cn (.int .i64 0)]⟩])
 (.block 0 (.loop (.seq (.seq (.region [⟨(some 11), none, .mov, [.tm 5]⟩,
  ⟨(some 12), none, .mov, [.tm 0]⟩,
  ⟨(some 13), none, .len, [.tm 12]⟩,
  ⟨(some 14), none, (.cmp .lss), [.tm 11, .tm 13]⟩])
 (.cond (.tm 14) .skip
  (.exit 0)))
 (.seq (.block 1 (.seq (.draw [] [⟨⟨(some 17), none, .mov, [.tm 0]⟩, []⟩,
  ⟨⟨(some 18), none, .mov, [.tm 5]⟩, []⟩,
  ⟨⟨(some 19), none, (.idxAddr 1), [.tm 17, .tm 18]⟩, []⟩,
  ⟨⟨(some 20), none, (.load false 1), [.tm 19]⟩, []⟩,
  ⟨⟨(some 21), none, .mov, [.tm 1]⟩, []⟩,
  ⟨⟨(some 22), none, .mov, [.tm 5]⟩, []⟩,
  ⟨⟨(some 23), none, (.idxAddr 1), [.tm 21, .tm 22]⟩, []⟩,
  ⟨⟨(some 24), none, (.load false 1), [.tm 23]⟩, []⟩,
  ⟨⟨(some 25), none, (.cmp .neq), [.tm 20, .tm 24]⟩, []⟩])
 (.cond (.tm 25) (.seq (.region [⟨(some 4), none, .mov, [.cn (.bool false)]⟩])
 .ret)
  .skip)))
 (.region [⟨(some 15), none, .mov, [.tm 5]⟩,
  ⟨(some 16), none, (.ari .add), [.tm 15, .cn (.int .i64 1)]⟩,
  ⟨(some 5), none, .mov, [.tm 16]⟩]))))))
 (.seq (.region [⟨(some 4), none, .mov, [.cn (.bool true)]⟩])
 .ret)))) }
theorem v16_is : vfunc Try.prog Try.f16 = some v16 := by kernel_rfl
def v32 : VF := { ntmps := 14, res := [.cell 8 true 4], body :=
 (.seq (.region [⟨(some 8), none, (.alloc [(.int .i64 0), (.int .i64 0), (.int .i64 0), (.int .i64 0)]), []⟩])
 (.seq (.region [⟨(some 9), none, .mov, [.tm 0]⟩,
  ⟨(some 10), none, .mov, [.tm 1]⟩,
  ⟨(some 11), none, .mov, [.tm 2]⟩,
  ⟨(some 12), none, .mov, [.tm 3]⟩,
  ⟨(some 13), none, (.build [(.int .i64 0), (.int .i64 0), (.int .i64 0), (.int .i64 0)] [(0, 1), (1, 1), (2, 1), (3, 1)]), [.tm 9, .tm 10, .tm 11, .tm 12]⟩,
  ⟨none, none, (.store 4), [.tm 8, .tm 13]⟩])
 .ret)) }
theorem v32_is : vfunc Try.prog Try.f32 = some v32 := by kernel_rfl
def v10 : VF := { ntmps := 95, res := [.tmp 0], body :=
 (.seq (.region [⟨(some 0), none, .mov, [.cn (.bool false)]⟩])
 (.seq (.region [⟨(some 13), none, (.build [(.int .i64 0), (.int .i64 0)] [(0, 1), (1, 1)]), [.cn (.int .i64 50), .cn (.int .i64 100)]⟩,
  ⟨(some 14), none, (.buildSlice 2 1 [(.int .i64 0), (.int .i64 0)] [(0, 2)]), [.tm 13]⟩,
  ⟨(some 15), none, (.build [(.int .i64 0), (.int .i64 0), (.int .i64 0), (.int .i64 0), (.int .i64 0), .nil] [(0, 1), (1, 1), (2, 1), (3, 1), (4, 1), (5, 1)]), [.cn (.int .i64 100), .cn (.int .i64 100), .cn (.int .i64 2), .cn (.int .i64 50), .cn (.int .i64 3), .tm 14]⟩,
  ⟨(some 1), none, (.alloc [(.int .i64 0), (.int .i64 0), (.int .i64 0), (.int .i64 0), (.int .i64 0), .nil]), []⟩,
  ⟨none, none, (.store 6), [.tm 1, .tm 15]⟩])
 (.seq (.region [⟨(some 16), none, (.call 32), [.cn (.int .i64 50), .cn (.int .i64 50), .cn (.int .i64 5), .cn (.int .i64 10)]⟩,
  ⟨(some 17), none, (.call 32), [.cn (.int .i64 57), .cn (.int .i64 70), .cn (.int .i64 5), .cn (.int .i64 20)]⟩,
  ⟨(some 18), none, (.buildSlice 4 2 [(.int .i64 0), (.int .i64 0), (.int .i64 0), (.int .i64 0)] [(0, 4), (4, 4)]), [.tm 16, .tm 17]⟩,
  ⟨(some 2), none, .mov, [.tm 18]⟩])
 (.seq (.region [⟨(some 20), none, (.load true 6), [.tm 1]⟩,
  ⟨(some 21), none, .mov, [.tm 2]⟩,
  ⟨(some 22), none, (.call 17), [.tm 20, .tm 21, .cn (.int .i64 0)]⟩,
  ⟨(some 19), none, .mov, [.tm 22]⟩,
  ⟨(some 23), none, (.ext 0), [.tm 19]⟩,
  ⟨(some 24), none, (.ext 1), [.tm 19]⟩,
  ⟨(some 3), none, .mov, [.tm 23]⟩,
  ⟨(some 4), none, .mov, [.tm 24]⟩])
 (.seq (.region [⟨(some 25), none, .mov, [.tm 2]⟩,
  ⟨(some 26), none, (.idxAddr 4), [.tm 25, .cn (.int .i64 1)]⟩,
  ⟨(some 27), none, (.fieldAddr 0), [.tm 26]⟩,
  ⟨none, none, (.store 1), [.tm 27, .cn (.int .i64 58)]⟩])
 (.seq (.region [⟨(some 29), none, (.load true 6), [.tm 1]⟩,
  ⟨(some 30), none, .mov, [.tm 2]⟩,
  ⟨(some 31), none, (.call 17), [.tm 29, .tm 30, .cn (.int .i64 0)]⟩,
  ⟨(some 28), none, .mov, [.tm 31]⟩,
  ⟨(some 32), none, (.ext 0), [.tm 28]⟩,
  ⟨(some 33), none, (.ext 1), [.tm 28]⟩,
  ⟨(some 5), none, .mov, [.tm 32]⟩,
  ⟨(some 6), none, .mov, [.tm 33]⟩])
 (.seq (.region [⟨(some 7), none, .mov, [.cn .nil]⟩])
 (.seq (.seq (.region [⟨(some 8), none, .mov, [.cn (.int .i64 0)]⟩])
 (.block 0 (.loop (.seq (.seq (.region [⟨(some 34), none, .mov, [.tm 8]⟩,
  ⟨(some 35), none, (.cmp .lss), [.tm 34, .cn (.int .i64 6)]⟩])
 (.cond (.tm 35) .skip
  (.exit 0)))
 (.seq (.block 1 (.region [⟨(some 38), none, .mov, [.tm 7]⟩,
  ⟨(some 39), none, (.buildSlice 1 6 [(.int .i64 0)] [(0, 1), (1, 1), (2, 1), (3, 1), (4, 1), (5, 1)]), [.cn (.int .i64 20), .cn (.int .i64 20), .cn (.int .i64 10), .cn (.int .i64 10), .cn (.int .i64 10), .cn (.int .i64 5)]⟩,
  ⟨(some 40), none, .mov, [.tm 8]⟩,
  ⟨(some 41), none, (.idxAddr 1), [.tm 39, .tm 40]⟩,
  ⟨(some 42), none, (.load false 1), [.tm 41]⟩,
  ⟨(some 43), none, (.build [(.int .i64 0), (.int .i64 0)] [(0, 1), (1, 1)]), [.tm 42, .cn (.int .i64 1)]⟩,
  ⟨(some 44), none, (.buildSlice 2 1 [(.int .i64 0), (.int .i64 0)] [(0, 2)]), [.tm 43]⟩,
  ⟨(some 45), none, (.append 2 16 [(.int .i64 0), (.int .i64 0)]), [.tm 38, .tm 44]⟩,
  ⟨(some 7), none, .mov, [.tm 45]⟩]))
 (.region [⟨(some 36), none, .mov, [.tm 8]⟩,
  ⟨(some 37), none, (.ari .add), [.tm 36, .cn (.int .i64 1)]⟩,
  ⟨(some 8), none, .mov, [.tm 37]⟩]))))))
 (.seq (.region [⟨(some 46), none, (.fieldAddr 1), [.tm 1]⟩,
  ⟨none, none, (.store 1), [.tm 46, .cn (.int .i64 70)]⟩])
 (.seq (.region [⟨(some 48), none, (.load true 6), [.tm 1]⟩,
  ⟨(some 49), none, .mov, [.tm 7]⟩,
  ⟨(some 50), none, (.call 11), [.tm 48, .tm 49]⟩,
  ⟨(some 47), none, .mov, [.tm 50]⟩,
  ⟨(some 51), none, (.ext 0), [.tm 47]⟩,
  ⟨(some 52), none, (.ext 1), [.tm 47]⟩,
  ⟨(some 9), none, .mov, [.tm 51]⟩,
  ⟨(some 10), none, .mov, [.tm 52]⟩])
 (.seq (.region [⟨(some 54), none, (.call 14), [.cn (.int .i64 5), .cn (.int .i64 2)]⟩,
  ⟨(some 53), none, .mov, [.tm 54]⟩,
  ⟨(some 55), none, (.ext 0), [.tm 53]⟩,
  ⟨(some 56), none, (.ext 1), [.tm 53]⟩,
  ⟨(some 11), none, .mov, [.tm 55]⟩,
  ⟨(some 12), none, .mov, [.tm 56]⟩])
 (.seq (.seq (.region [⟨(some 57), none, .mov, [.tm 4]⟩,
  ⟨(some 58), none, (.cmp .neq), [.tm 57, .cn (.int .i64 0)]⟩,
  ⟨(some 59), none, .mov, [.tm 58]⟩,
  ⟨(some 60), (some (59, false)), .mov, [.tm 6]⟩,
  ⟨(some 61), (some (59, false)), (.cmp .neq), [.tm 60, .cn (.int .i64 0)]⟩,
  ⟨(some 62), none, .or, [.tm 59, .tm 61]⟩,
  ⟨(some 63), none, .mov, [.tm 62]⟩,
  ⟨(some 64), (some (63, false)), .mov, [.tm 10]⟩,
  ⟨(some 65), (some (63, false)), (.cmp .neq), [.tm 64, .cn (.int .i64 0)]⟩,
  ⟨(some 66), none, .or, [.tm 63, .tm 65]⟩,
  ⟨(some 67), none, .mov, [.tm 66]⟩,
  ⟨(some 68), (some (67, false)), .mov, [.tm 12]⟩,
  ⟨(some 69), (some (67, false)), (.cmp .neq), [.tm 68, .cn (.int .i64 0)]⟩,
  ⟨(some 70), none, .or, [.tm 67, .tm 69]⟩])
 (.cond (.tm 70) (.seq (.region [⟨(some 0), none, .mov, [.cn (.bool false)]⟩])
 .ret)
  .skip))
 (.seq (.region [⟨(some 71), none, .mov, [.tm 3]⟩,
  ⟨(some 72), none, .len, [.tm 71]⟩,
  ⟨(some 73), none, (.cmp .eql), [.tm 72, .cn (.int .i64 0)]⟩,
  ⟨(some 74), none, .mov, [.tm 73]⟩,
  ⟨(some 75), (some (74, true)), .mov, [.tm 5]⟩,
  ⟨(some 76), (some (74, true)), (.buildSlice 1 1 [(.int .i64 0)] [(0, 1)]), [.cn (.int .i64 0)]⟩,
  ⟨(some 77), (some (74, true)), (.call 16), [.tm 75, .tm 76]⟩,
  ⟨(some 78), none, .and, [.tm 74, .tm 77]⟩,
  ⟨(some 79), none, .mov, [.tm 78]⟩,
  ⟨(some 80), (some (79, true)), .mov, [.tm 9]⟩,
  ⟨(some 81), (some (79, true)), (.call 32), [.cn (.int .i64 20), .cn (.int .i64 20), .cn (.int .i64 20), .cn (.int .i64 1)]⟩,
  ⟨(some 82), (some (79, true)), (.call 32), [.cn (.int .i64 62), .cn (.int .i64 20), .cn (.int .i64 20), .cn (.int .i64 1)]⟩,
  ⟨(some 83), (some (79, true)), (.call 32), [.cn (.int .i64 10), .cn (.int .i64 52), .cn (.int .i64 10), .cn (.int .i64 1)]⟩,
  ⟨(some 84), (some (79, true)), (.call 32), [.cn (.int .i64 32), .cn (.int .i64 52), .cn (.int .i64 10), .cn (.int .i64 1)]⟩,
  ⟨(some 85), (some (79, true)), (.call 32), [.cn (.int .i64 54), .cn (.int .i64 52), .cn (.int .i64 10), .cn (.int .i64 1)]⟩,
  ⟨(some 86), (some (79, true)), (.call 32), [.cn (.int .i64 71), .cn (.int .i64 52), .cn (.int .i64 5), .cn (.int .i64 1)]⟩,
  ⟨(some 87), (some (79, true)), (.buildSlice 4 6 [(.int .i64 0), (.int .i64 0), (.int .i64 0), (.int .i64 0)] [(0, 4), (4, 4), (8, 4), (12, 4), (16, 4), (20, 4)]), [.tm 81, .tm 82, .tm 83, .tm 84, .tm 85, .tm 86]⟩,
  ⟨(some 88), (some (79, true)), (.call 13), [.tm 80, .tm 87]⟩,
  ⟨(some 89), none, .and, [.tm 79, .tm 88]⟩,
  ⟨(some 90), none, .mov, [.tm 89]⟩,
  ⟨(some 91), (some (90, true)), .mov, [.tm 11]⟩,
  ⟨(some 92), (some (90, true)), (.buildSlice 1 5 [(.int .i64 0)] [(0, 1), (1, 1), (2, 1), (3, 1), (4, 1)]), [.cn (.int .i64 0), .cn (.int .i64 2), .cn (.int .i64 4), .cn (.int .i64 3), .cn (.int .i64 1)]⟩,
  ⟨(some 93), (some (90, true)), (.call 16), [.tm 91, .tm 92]⟩,
  ⟨(some 94), none, .and, [.tm 90, .tm 93]⟩,
  ⟨(some 0), none, .mov, [.tm 94]⟩])
 .ret))))))))))))) }
theorem v10_is : vfunc Try.prog Try.f10 = some v10 := by kernel_rfl


def samC {α : Type} [Inhabited α] [DecidableEq α] (size : Nat) (e : α → List SV) : Ctr := { alias := false, of := fun l => match l with
  | [.vs _ _ n sz get, .vs _ _ m sz' get'] => .ex (List α) fun a => .ex (List α) fun b => .pre (lsP size e n sz get a ∧ lsP size e m sz' get' b ∧ a.length ≤ 1000000000000) (.fin (.bool (decide (a = b))) [])
  | _ => noC }
def samSC : Ctr := samC 4 encS
def samIC : Ctr := samC 1 encI
def sdC : Ctr := { alias := false, of := fun l => match l with
  | [.int .i64 x, .int .i64 y, .int .i64 r, .int .i64 h] => .fin (.agg [.int .i64 x, .int .i64 y, .int .i64 r, .int .i64 h]) []
  | _ => noC }
def farF (b : Brd) (n : Nat) : Bool := (decide (40 < n) && decide (n ≤ 200)) || decide (210 < n) || decide (20 < b.wk.length)
def farC : Ctr := { alias := false, of := fun l => match l with
  | [.agg [.int .i64 w, .int .i64 d, .int .i64 c, .int .i64 a, .int .i64 s, .vs _ _ n sz get], .vs _ _ n' sz' get'] => .ex Brd fun b => .pre (brdP b w d c a s n sz get) (.fin (.bool (farF b n')) [])
  | _ => noC }
def L0 : Env := { ct := fun _ => none, fn := fun _ => none, meth := fun _ _ => none }
theorem L0_ok : EnvOk Try.prog L0 := by
  refine ⟨fun f c h => ?_, fun f vf h => ?_, (fun _ _ _ h => by cases h), by kernel_rfl⟩
  · cases h
  · cases h

theorem sd_ok : sdC.ok Try.prog 32 := by
  refine contract Try.func32 v32_is L0_ok 100 sdC fun args k h => ⟨args, ?_⟩
  simp only [sdC] at h
  split at h
  · refine ⟨by simp [leL, le], ?_⟩
    dsimp only [v32, go_sem, Option.bind, Option.map, List.append_nil, Nat.beq, List.cons_append, List.nil_append, List.append_eq, List.map_cons, List.map_nil, ite_self, reduceIte]
    simp only [true_and, and_true, imp_self, implies_true, decide_eq_true_eq, decide_eq_false_iff_not, Nat.reduceAdd, Nat.reduceLeDiff, Bool.not_not, reduceCtorEq, false_imp_iff, Bool.not_eq_true', Bool.not_eq_false', Bool.false_eq_true, and_self, forall_const, ne_eq, not_false_eq_true, Nat.reduceEqDiff]
    exact ans_le (show k _ [] from h) (leX_le (.agg [.int _ _, .int _ _, .int _ _, .int _ _]) _ (leXL_self _) ⟨trivial, trivial, trivial, trivial, trivial⟩) (fun _ => by simp [freshS, freshL])
  · exact h.1.elim
theorem list_ne {α : Type} [Inhabited α] {a b : List α} {i : Nat} (h : a.getD i default ≠ b.getD i default) : a ≠ b := fun e => h (by rw [e])
theorem samI_ok : samIC.ok Try.prog 16 := by
  refine contract Try.func16 v16_is L0_ok 200 samIC fun args k h => ?_
  simp only [samIC, samC] at h
  split at h
  · rename_i t z n sz get t' z' m sz' get'
    obtain ⟨a, b, ⟨⟨rfl, rfl, hg⟩, ⟨rfl, rfl, hg'⟩, hbig⟩, h⟩ := h
    refine ⟨[.vs t z a.length 1 (fun k => encI (a.getD k default)), .vs t' z' b.length 1 (fun k => encI (b.getD k default))], ⟨by simpa [le] using hg, by simpa [le] using hg', trivial⟩, ?_⟩
    have h : k (.bool (decide (a = b))) [] := h
    dsimp only [v16, encI, go_sem, Option.bind, Option.map, List.append_nil, Nat.beq, List.cons_append, List.nil_append, List.append_eq, List.map_cons, List.map_nil, ite_self, reduceIte]
    simp only [true_and, and_true, imp_self, implies_true, decide_eq_true_eq, decide_eq_false_iff_not, Nat.reduceAdd, Nat.reduceLeDiff, Bool.not_not, reduceCtorEq, false_imp_iff, Bool.not_eq_true', Bool.not_eq_false', Bool.false_eq_true, and_self, forall_const, ne_eq, not_false_eq_true, Nat.reduceEqDiff]
    refine ⟨fun hc => ?_, fun hc => ?_⟩
    · rw [decide_eq_false (show ¬ a = b from fun e => by rw [e] at hc; omega)] at h; exact ans_bool h
    · have hlen : a.length = b.length := by omega
      refine Loop.keep [0, 0, 3] Nat (fun i => [(5, .int .i64 i)]) (fun _ => []) [] (fun i => i ≤ a.length ∧ ∀ j, j < i → a.getD j default = b.getD j default) (fun i => a.length - i) ?_ ?_
      · refine ⟨0, ⟨Nat.zero_le _, fun j h => by omega⟩, ?_⟩
        dsimp only [go_sem, Option.bind, Option.map, List.append_nil, Nat.beq, List.cons_append, List.nil_append, List.append_eq, List.map_cons, List.map_nil, ite_self, reduceIte]
        simp only [leS_mk, leL_cons, leL_nil, le_junk, le_int, le_bool, le_nil, leLL_nil, leLL_cons, leH_cons, leH_nil, leH1_box, leH1_own, leH1_gone, le_vs, le_agg, le_tup, le_ptr, le_own, le_xp, le_fn, le_opt, le_val, le_elem, le_nil_own, le_nil_vs, leH_ghost, leL_chunk, leXL_id, bnd_int, bnd_bool, bnd_val, bnd_nil, bnd_junk, bnd_vs, bnd_xp, bnd_agg, bnd_tup, bnd_ptr, bnd_own, bnd_elem, bnd_fn, bnd_iface, bnd_opt, bndL_nil, bndL_cons, lenH_cons, lenH_nil, imp_self, implies_true, true_and, and_true]
        simp
      · rintro i ⟨hi, ha⟩
        dsimp only [encS, encI, Int.toNat_natCast, go_sem, Option.bind, Option.map, List.append_nil, Nat.beq, List.cons_append, List.nil_append, List.append_eq, List.map_cons, List.map_nil, ite_self, reduceIte]
        simp only [true_and, and_true, imp_self, implies_true, decide_eq_true_eq, decide_eq_false_iff_not, Nat.reduceAdd, Nat.reduceLeDiff, Bool.not_not, reduceCtorEq, false_imp_iff, Bool.not_eq_true', Bool.not_eq_false', Bool.false_eq_true, and_self, forall_const, ne_eq, not_false_eq_true, Nat.reduceEqDiff]
        refine ⟨fun hlt => ?_, fun hge => ?_⟩
        · refine ⟨⟨by omega, hlt⟩, ⟨by omega, by omega⟩, ?_⟩
          refine ⟨fun hne => ?_, fun heq => ?_⟩
          · rw [decide_eq_false (list_ne (a := a) (b := b) (i := i) fun e => hne (by rw [e]))] at h; exact ans_bool h
          · refine ⟨i + 1, ⟨by omega, fun j hj => ?_⟩, by omega, ?_⟩
            · rcases Nat.lt_or_ge j i with h' | h'
              · exact ha j h'
              · obtain rfl : j = i := by omega
                omega
            · simp only [w_succ (i := i) (n := a.length) (by omega) (by omega), leS_mk, leL_cons, leL_nil, le_junk, le_int, le_bool, le_nil, leLL_nil, leLL_cons, leH_cons, leH_nil, leH1_box, leH1_own, leH1_gone, le_vs, le_agg, le_tup, le_ptr, le_own, le_xp, le_fn, le_opt, le_val, le_elem, le_nil_own, le_nil_vs, leH_ghost, leL_chunk, leXL_id, bnd_int, bnd_bool, bnd_val, bnd_nil, bnd_junk, bnd_vs, bnd_xp, bnd_agg, bnd_tup, bnd_ptr, bnd_own, bnd_elem, bnd_fn, bnd_iface, bnd_opt, bndL_nil, bndL_cons, lenH_cons, lenH_nil, imp_self, implies_true, true_and, and_true] <;> simp
        · have e : a = b := list_ext hlen fun i h => ha i (by omega)
          rw [decide_eq_true e] at h; exact ans_bool h
  · exact h.1.elim
theorem samS_ok : samSC.ok Try.prog 13 := by
  refine contract Try.func13 v13_is L0_ok 200 samSC fun args k h => ?_
  simp only [samSC, samC] at h
  split at h
  · rename_i t z n sz get t' z' m sz' get'
    obtain ⟨a, b, ⟨⟨rfl, rfl, hg⟩, ⟨rfl, rfl, hg'⟩, hbig⟩, h⟩ := h
    refine ⟨[.vs t z a.length 4 (fun k => encS (a.getD k default)), .vs t' z' b.length 4 (fun k => encS (b.getD k default))], ⟨by simpa [le] using hg, by simpa [le] using hg', trivial⟩, ?_⟩
    have h : k (.bool (decide (a = b))) [] := h
    dsimp only [v13, encS, go_sem, Option.bind, Option.map, List.append_nil, Nat.beq, List.cons_append, List.nil_append, List.append_eq, List.map_cons, List.map_nil, ite_self, reduceIte]
    simp only [true_and, and_true, imp_self, implies_true, decide_eq_true_eq, decide_eq_false_iff_not, Nat.reduceAdd, Nat.reduceLeDiff, Bool.not_not, reduceCtorEq, false_imp_iff, Bool.not_eq_true', Bool.not_eq_false', Bool.false_eq_true, and_self, forall_const, ne_eq, not_false_eq_true, Nat.reduceEqDiff]
    refine ⟨fun hc => ?_, fun hc => ?_⟩
    · rw [decide_eq_false (show ¬ a = b from fun e => by rw [e] at hc; omega)] at h; exact ans_bool h
    · have hlen : a.length = b.length := by omega
      refine Loop.keep [0, 0, 3] Nat (fun i => [(5, .int .i64 i)]) (fun _ => []) [] (fun i => i ≤ a.length ∧ ∀ j, j < i → a.getD j default = b.getD j default) (fun i => a.length - i) ?_ ?_
      · refine ⟨0, ⟨Nat.zero_le _, fun j h => by omega⟩, ?_⟩
        dsimp only [go_sem, Option.bind, Option.map, List.append_nil, Nat.beq, List.cons_append, List.nil_append, List.append_eq, List.map_cons, List.map_nil, ite_self, reduceIte]
        simp only [leS_mk, leL_cons, leL_nil, le_junk, le_int, le_bool, le_nil, leLL_nil, leLL_cons, leH_cons, leH_nil, leH1_box, leH1_own, leH1_gone, le_vs, le_agg, le_tup, le_ptr, le_own, le_xp, le_fn, le_opt, le_val, le_elem, le_nil_own, le_nil_vs, leH_ghost, leL_chunk, leXL_id, bnd_int, bnd_bool, bnd_val, bnd_nil, bnd_junk, bnd_vs, bnd_xp, bnd_agg, bnd_tup, bnd_ptr, bnd_own, bnd_elem, bnd_fn, bnd_iface, bnd_opt, bndL_nil, bndL_cons, lenH_cons, lenH_nil, imp_self, implies_true, true_and, and_true]
        simp
      · rintro i ⟨hi, ha⟩
        dsimp only [encS, encI, Int.toNat_natCast, go_sem, Option.bind, Option.map, List.append_nil, Nat.beq, List.cons_append, List.nil_append, List.append_eq, List.map_cons, List.map_nil, ite_self, reduceIte]
        simp only [true_and, and_true, imp_self, implies_true, decide_eq_true_eq, decide_eq_false_iff_not, Nat.reduceAdd, Nat.reduceLeDiff, Bool.not_not, reduceCtorEq, false_imp_iff, Bool.not_eq_true', Bool.not_eq_false', Bool.false_eq_true, and_self, forall_const, ne_eq, not_false_eq_true, Nat.reduceEqDiff]
        refine ⟨fun hlt => ?_, fun hge => ?_⟩
        · refine ⟨⟨by omega, hlt⟩, ⟨by omega, by omega⟩, ?_⟩
          refine ⟨fun hne => ?_, fun heq => ?_⟩
          · rw [decide_eq_false (list_ne (a := a) (b := b) (i := i) fun e => by rw [e] at hne; simp at hne)] at h; exact ans_bool h
          · have he : a.getD i default = b.getD i default := by
              simp only [Bool.and_true, Bool.and_eq_true, decide_eq_true_eq] at heq
              generalize a.getD i default = p at *
              generalize b.getD i default = q at *
              obtain ⟨p1, p2, p3, p4⟩ := p
              obtain ⟨q1, q2, q3, q4⟩ := q
              obtain ⟨rfl, rfl, rfl, rfl⟩ := heq
              rfl
            refine ⟨i + 1, ⟨by omega, fun j hj => ?_⟩, by omega, ?_⟩
            · rcases Nat.lt_or_ge j i with h' | h'
              · exact ha j h'
              · obtain rfl : j = i := by omega
                exact he
            · simp only [w_succ (i := i) (n := a.length) (by omega) (by omega), leS_mk, leL_cons, leL_nil, le_junk, le_int, le_bool, le_nil, leLL_nil, leLL_cons, leH_cons, leH_nil, leH1_box, leH1_own, leH1_gone, le_vs, le_agg, le_tup, le_ptr, le_own, le_xp, le_fn, le_opt, le_val, le_elem, le_nil_own, le_nil_vs, leH_ghost, leL_chunk, leXL_id, bnd_int, bnd_bool, bnd_val, bnd_nil, bnd_junk, bnd_vs, bnd_xp, bnd_agg, bnd_tup, bnd_ptr, bnd_own, bnd_elem, bnd_fn, bnd_iface, bnd_opt, bndL_nil, bndL_cons, lenH_cons, lenH_nil, imp_self, implies_true, true_and, and_true] <;> simp
        · have e : a = b := list_ext hlen fun i h => ha i (by omega)
          rw [decide_eq_true e] at h; exact ans_bool h
  · exact h.1.elim
end Go.Proofs.Ytojaibhjfeojjaa

/- Layouts, walked: the document's examples. -/
/- Layouts, walked: the document's examples. -/
set_option linter.all false
namespace Go.Proofs.Ytojaibhjfeojjaa
open Go Go.Vx
set_option maxRecDepth 100000
set_option maxHeartbeats 4000000

def bA (d : Int) : Brd := ⟨100, d, 2, 50, 3, [(50, 100)]⟩
def lA (x : Int) : List Std := [⟨50, 50, 5, 10⟩, ⟨x, 70, 5, 20⟩]
def fA : List Ft := [(20, 1), (20, 1), (10, 1), (10, 1), (10, 1), (5, 1)]
def rA : List Std := [⟨20, 20, 20, 1⟩, ⟨62, 20, 20, 1⟩, ⟨10, 52, 10, 1⟩, ⟨32, 52, 10, 1⟩, ⟨54, 52, 10, 1⟩, ⟨71, 52, 5, 1⟩]
theorem reach1 : reachR (bA 100) (lA 57) 0 = ([], 0) := by decide +kernel
theorem reach2 : reachR (bA 100) (lA 58) 0 = ([0], 0) := by decide +kernel
theorem rows1 : rowsR (bA 70) fA = (rA, 0) := by decide +kernel
theorem order1 : orderR 5 2 = ([0, 2, 4, 3, 1], 0) := by decide +kernel

def M0 : Env := { ct := fun n => match n with | 32 => some sdC | 16 => some samIC | 13 => some samSC | 17 => some reaC | 11 => some rowC | 14 => some ordC | _ => none, fn := fun _ => none, meth := fun _ _ => none }
theorem M0_ct32 : M0.ct 32 = some sdC := rfl
theorem M0_ct16 : M0.ct 16 = some samIC := rfl
theorem M0_ct13 : M0.ct 13 = some samSC := rfl
theorem M0_ct17 : M0.ct 17 = some reaC := rfl
theorem M0_ct11 : M0.ct 11 = some rowC := rfl
theorem M0_ct14 : M0.ct 14 = some ordC := rfl
theorem M0_ok : EnvOk Try.prog M0 := by
  refine ⟨fun f c h => ?_, fun f vf h => ?_, (fun _ _ _ h => by cases h), by kernel_rfl⟩
  · simp only [M0] at h
    split at h
    · cases h; exact ⟨sd_ok, Try.f32, Try.func32, by kernel_rfl, by kernel_rfl⟩
    · cases h; exact ⟨samI_ok, Try.f16, Try.func16, by kernel_rfl, by kernel_rfl⟩
    · cases h; exact ⟨samS_ok, Try.f13, Try.func13, by kernel_rfl, by kernel_rfl⟩
    · cases h; exact ⟨rea_ok, Try.f17, Try.func17, by kernel_rfl, by kernel_rfl⟩
    · cases h; exact ⟨row_ok, Try.f11, Try.func11, by kernel_rfl, by kernel_rfl⟩
    · cases h; exact ⟨ord_ok, Try.f14, Try.func14, by kernel_rfl, by kernel_rfl⟩
    · cases h
  · cases h

theorem awake_ok : trueC.ok Try.prog 10 := by
  refine contract Try.func10 v10_is M0_ok 400 trueC fun args k h => ?_
  simp only [trueC] at h
  split at h
  · refine ⟨[], trivial, ?_⟩
    have h : k (.bool true) [] := h
    dsimp only [v10, M0_ct32, M0_ct17, sdC, reaC, lsR, encI, go_sem, Option.bind, Option.map, List.append_nil, Nat.beq, List.cons_append, List.nil_append, List.append_eq, List.map_cons, List.map_nil, ite_self, reduceIte]
    simp only [true_and, and_true, imp_self, implies_true, decide_eq_true_eq, decide_eq_false_iff_not, Nat.reduceAdd, Nat.reduceLeDiff, Bool.not_not, reduceCtorEq, false_imp_iff, Bool.not_eq_true', Bool.not_eq_false', Bool.false_eq_true, and_self, forall_const, ne_eq, not_false_eq_true, Nat.reduceEqDiff]
    refine ⟨by decide, by decide, bA 100, lA 57, ⟨⟨⟨rfl, rfl, rfl, rfl, rfl⟩, rfl, rfl, fun k hk => match k, hk with | 0, _ => ⟨⟨rfl, rfl⟩, ⟨rfl, rfl⟩, trivial⟩⟩, ⟨rfl, rfl, fun k hk => match k, hk with
      | 0, _ => ⟨⟨rfl, rfl⟩, ⟨rfl, rfl⟩, ⟨rfl, rfl⟩, ⟨rfl, rfl⟩, trivial⟩ 
      | 1, _ => ⟨⟨rfl, rfl⟩, ⟨rfl, rfl⟩, ⟨rfl, rfl⟩, ⟨rfl, rfl⟩, trivial⟩⟩, by decide⟩, by decide, by decide, by decide, by decide,
      bA 100, lA 58, ⟨⟨⟨rfl, rfl, rfl, rfl, rfl⟩, rfl, rfl, fun k hk => match k, hk with | 0, _ => ⟨⟨rfl, rfl⟩, ⟨rfl, rfl⟩, trivial⟩⟩, ⟨rfl, rfl, fun k hk => match k, hk with
      | 0, _ => ⟨⟨rfl, rfl⟩, ⟨rfl, rfl⟩, ⟨rfl, rfl⟩, ⟨rfl, rfl⟩, trivial⟩ 
      | 1, _ => ⟨⟨rfl, rfl⟩, ⟨rfl, rfl⟩, ⟨rfl, rfl⟩, ⟨rfl, rfl⟩, trivial⟩⟩, by decide⟩, ?_⟩
    rw [reach1, reach2]
    refine ⟨by decide, by decide, ?_⟩
    refine Loop.keep [1, 1, 0, 0, 0] Nat (fun i => [(7, .own 3 0 i 2), (8, .int .i64 i)]) (fun i => [(3, .own (decide (i = 0)) 2 i (fun k => encT (fA.getD k default)))]) [.gone] (fun i => i ≤ 6) (fun i => 6 - i) ?_ ?_
    · refine ⟨0, Nat.zero_le _, ?_⟩
      dsimp only [go_sem, Option.bind, Option.map, List.append_nil, Nat.beq, List.cons_append, List.nil_append, List.append_eq, List.map_cons, List.map_nil, ite_self, reduceIte]
      simp only [leS_mk, leL_cons, leL_nil, le_junk, le_int, le_bool, le_nil, leLL_nil, leLL_cons, leH_cons, leH_nil, leH1_box, leH1_own, leH1_gone, le_vs, le_agg, le_tup, le_ptr, le_own, le_xp, le_fn, le_opt, le_val, le_elem, le_nil_own, le_nil_vs, leH_ghost, leL_chunk, leXL_id, bnd_int, bnd_bool, bnd_val, bnd_nil, bnd_junk, bnd_vs, bnd_xp, bnd_agg, bnd_tup, bnd_ptr, bnd_own, bnd_elem, bnd_fn, bnd_iface, bnd_opt, bndL_nil, bndL_cons, lenH_cons, lenH_nil, imp_self, implies_true, true_and, and_true]
      simp
      intro k hk
      rcases (by omega : k = 0 ∨ k = 1) with rfl | rfl <;> simp [leL, le, spliceL, takeL, dropL]
    · rintro i hi
      rcases (by omega : i = 6 ∨ i = 0 ∨ i = 1 ∨ i = 2 ∨ i = 3 ∨ i = 4 ∨ i = 5) with rfl | rfl | rfl | rfl | rfl | rfl | rfl
      all_goals
        dsimp only [M0_ct16, M0_ct13, M0_ct32, M0_ct11, M0_ct14, sdC, rowC, ordC, samIC, samSC, samC, lsS, encT, encI, encS, go_sem, Option.bind, Option.map, List.append_nil, Nat.beq, List.cons_append, List.nil_append, List.append_eq, List.map_cons, List.map_nil, ite_self, reduceIte]
        simp only [true_and, and_true, imp_self, implies_true, decide_eq_true_eq, decide_eq_false_iff_not, Nat.reduceAdd, Nat.reduceLeDiff, Bool.not_not, reduceCtorEq, false_imp_iff, Bool.not_eq_true', Bool.not_eq_false', Bool.false_eq_true, and_self, forall_const, ne_eq, not_false_eq_true, Nat.reduceEqDiff]
      rotate_left
      · refine ⟨fun _ => ⟨by decide, ⟨by decide, by decide⟩, ⟨by decide, by decide⟩, ⟨by decide, by simp [ones, one, takeL, dropL], by decide⟩, ⟨⟨by decide, by simp [ones, one, takeL, dropL, spliceL]⟩, by decide⟩, ⟨by unfold capOk; omega, fun q hq => ?_⟩, 1, by decide, by decide, ?_⟩, fun hge => by omega⟩
        · obtain rfl : q = 0 := by omega
          simp [ones, one, takeL, dropL, spliceL, lenL]
        · simp only [leS_mk, leL_cons, leL_nil, le_junk, le_int, le_bool, le_nil, leLL_nil, leLL_cons, leH_cons, leH_nil, leH1_box, leH1_own, leH1_gone, le_vs, le_agg, le_tup, le_ptr, le_own, le_xp, le_fn, le_opt, le_val, le_elem, le_nil_own, le_nil_vs, leH_ghost, leL_chunk, leXL_id, bnd_int, bnd_bool, bnd_val, bnd_nil, bnd_junk, bnd_vs, bnd_xp, bnd_agg, bnd_tup, bnd_ptr, bnd_own, bnd_elem, bnd_fn, bnd_iface, bnd_opt, bndL_nil, bndL_cons, lenH_cons, lenH_nil, imp_self, implies_true, true_and, and_true]
          refine ⟨⟨by decide, by decide, by decide +kernel⟩, fun q hq => ?_, by decide, fun q hq => ?_, by decide, fun q hq => ?_⟩
          · obtain rfl : q = 0 := by omega
            simp [takeL, dropL, spliceL, purgeL, purge, leL, le, refs, chunk]
          · rcases (by omega : q = 0 ∨ q = 1) with rfl | rfl <;> simp [takeL, dropL, spliceL, purgeL, purge, leL, le, refs, chunk]
          · rcases (by omega : q = 0) with rfl <;> simp [takeL, dropL, spliceL, purgeL, purge, leL, le, refs, chunk, fA]
      · refine ⟨fun _ => ⟨by decide, ⟨by decide, by decide⟩, ⟨by decide, by decide⟩, ⟨by decide, by simp [ones, one, takeL, dropL], by decide⟩, ⟨⟨by decide, by simp [ones, one, takeL, dropL, spliceL]⟩, by decide⟩, ⟨by unfold capOk; omega, fun q hq => ?_⟩, 2, by decide, by decide, ?_⟩, fun hge => by omega⟩
        · obtain rfl : q = 0 := by omega
          simp [ones, one, takeL, dropL, spliceL, lenL]
        · simp only [leS_mk, leL_cons, leL_nil, le_junk, le_int, le_bool, le_nil, leLL_nil, leLL_cons, leH_cons, leH_nil, leH1_box, leH1_own, leH1_gone, le_vs, le_agg, le_tup, le_ptr, le_own, le_xp, le_fn, le_opt, le_val, le_elem, le_nil_own, le_nil_vs, leH_ghost, leL_chunk, leXL_id, bnd_int, bnd_bool, bnd_val, bnd_nil, bnd_junk, bnd_vs, bnd_xp, bnd_agg, bnd_tup, bnd_ptr, bnd_own, bnd_elem, bnd_fn, bnd_iface, bnd_opt, bndL_nil, bndL_cons, lenH_cons, lenH_nil, imp_self, implies_true, true_and, and_true]
          refine ⟨⟨by decide, by decide, by decide +kernel⟩, fun q hq => ?_, by decide, fun q hq => ?_, by decide, fun q hq => ?_⟩
          · obtain rfl : q = 0 := by omega
            simp [takeL, dropL, spliceL, purgeL, purge, leL, le, refs, chunk]
          · rcases (by omega : q = 0 ∨ q = 1) with rfl | rfl <;> simp [takeL, dropL, spliceL, purgeL, purge, leL, le, refs, chunk]
          · rcases (by omega : q = 0 ∨ q = 1) with rfl | rfl <;> simp [takeL, dropL, spliceL, purgeL, purge, leL, le, refs, chunk, fA]
      · refine ⟨fun _ => ⟨by decide, ⟨by decide, by decide⟩, ⟨by decide, by decide⟩, ⟨by decide, by simp [ones, one, takeL, dropL], by decide⟩, ⟨⟨by decide, by simp [ones, one, takeL, dropL, spliceL]⟩, by decide⟩, ⟨by unfold capOk; omega, fun q hq => ?_⟩, 3, by decide, by decide, ?_⟩, fun hge => by omega⟩
        · obtain rfl : q = 0 := by omega
          simp [ones, one, takeL, dropL, spliceL, lenL]
        · simp only [leS_mk, leL_cons, leL_nil, le_junk, le_int, le_bool, le_nil, leLL_nil, leLL_cons, leH_cons, leH_nil, leH1_box, leH1_own, leH1_gone, le_vs, le_agg, le_tup, le_ptr, le_own, le_xp, le_fn, le_opt, le_val, le_elem, le_nil_own, le_nil_vs, leH_ghost, leL_chunk, leXL_id, bnd_int, bnd_bool, bnd_val, bnd_nil, bnd_junk, bnd_vs, bnd_xp, bnd_agg, bnd_tup, bnd_ptr, bnd_own, bnd_elem, bnd_fn, bnd_iface, bnd_opt, bndL_nil, bndL_cons, lenH_cons, lenH_nil, imp_self, implies_true, true_and, and_true]
          refine ⟨⟨by decide, by decide, by decide +kernel⟩, fun q hq => ?_, by decide, fun q hq => ?_, by decide, fun q hq => ?_⟩
          · obtain rfl : q = 0 := by omega
            simp [takeL, dropL, spliceL, purgeL, purge, leL, le, refs, chunk]
          · rcases (by omega : q = 0 ∨ q = 1) with rfl | rfl <;> simp [takeL, dropL, spliceL, purgeL, purge, leL, le, refs, chunk]
          · rcases (by omega : q = 0 ∨ q = 1 ∨ q = 2) with rfl | rfl | rfl <;> simp [takeL, dropL, spliceL, purgeL, purge, leL, le, refs, chunk, fA]
      · refine ⟨fun _ => ⟨by decide, ⟨by decide, by decide⟩, ⟨by decide, by decide⟩, ⟨by decide, by simp [ones, one, takeL, dropL], by decide⟩, ⟨⟨by decide, by simp [ones, one, takeL, dropL, spliceL]⟩, by decide⟩, ⟨by unfold capOk; omega, fun q hq => ?_⟩, 4, by decide, by decide, ?_⟩, fun hge => by omega⟩
        · obtain rfl : q = 0 := by omega
          simp [ones, one, takeL, dropL, spliceL, lenL]
        · simp only [leS_mk, leL_cons, leL_nil, le_junk, le_int, le_bool, le_nil, leLL_nil, leLL_cons, leH_cons, leH_nil, leH1_box, leH1_own, leH1_gone, le_vs, le_agg, le_tup, le_ptr, le_own, le_xp, le_fn, le_opt, le_val, le_elem, le_nil_own, le_nil_vs, leH_ghost, leL_chunk, leXL_id, bnd_int, bnd_bool, bnd_val, bnd_nil, bnd_junk, bnd_vs, bnd_xp, bnd_agg, bnd_tup, bnd_ptr, bnd_own, bnd_elem, bnd_fn, bnd_iface, bnd_opt, bndL_nil, bndL_cons, lenH_cons, lenH_nil, imp_self, implies_true, true_and, and_true]
          refine ⟨⟨by decide, by decide, by decide +kernel⟩, fun q hq => ?_, by decide, fun q hq => ?_, by decide, fun q hq => ?_⟩
          · obtain rfl : q = 0 := by omega
            simp [takeL, dropL, spliceL, purgeL, purge, leL, le, refs, chunk]
          · rcases (by omega : q = 0 ∨ q = 1) with rfl | rfl <;> simp [takeL, dropL, spliceL, purgeL, purge, leL, le, refs, chunk]
          · rcases (by omega : q = 0 ∨ q = 1 ∨ q = 2 ∨ q = 3) with rfl | rfl | rfl | rfl <;> simp [takeL, dropL, spliceL, purgeL, purge, leL, le, refs, chunk, fA]
      · refine ⟨fun _ => ⟨by decide, ⟨by decide, by decide⟩, ⟨by decide, by decide⟩, ⟨by decide, by simp [ones, one, takeL, dropL], by decide⟩, ⟨⟨by decide, by simp [ones, one, takeL, dropL, spliceL]⟩, by decide⟩, ⟨by unfold capOk; omega, fun q hq => ?_⟩, 5, by decide, by decide, ?_⟩, fun hge => by omega⟩
        · obtain rfl : q = 0 := by omega
          simp [ones, one, takeL, dropL, spliceL, lenL]
        · simp only [leS_mk, leL_cons, leL_nil, le_junk, le_int, le_bool, le_nil, leLL_nil, leLL_cons, leH_cons, leH_nil, leH1_box, leH1_own, leH1_gone, le_vs, le_agg, le_tup, le_ptr, le_own, le_xp, le_fn, le_opt, le_val, le_elem, le_nil_own, le_nil_vs, leH_ghost, leL_chunk, leXL_id, bnd_int, bnd_bool, bnd_val, bnd_nil, bnd_junk, bnd_vs, bnd_xp, bnd_agg, bnd_tup, bnd_ptr, bnd_own, bnd_elem, bnd_fn, bnd_iface, bnd_opt, bndL_nil, bndL_cons, lenH_cons, lenH_nil, imp_self, implies_true, true_and, and_true]
          refine ⟨⟨by decide, by decide, by decide +kernel⟩, fun q hq => ?_, by decide, fun q hq => ?_, by decide, fun q hq => ?_⟩
          · obtain rfl : q = 0 := by omega
            simp [takeL, dropL, spliceL, purgeL, purge, leL, le, refs, chunk]
          · rcases (by omega : q = 0 ∨ q = 1) with rfl | rfl <;> simp [takeL, dropL, spliceL, purgeL, purge, leL, le, refs, chunk]
          · rcases (by omega : q = 0 ∨ q = 1 ∨ q = 2 ∨ q = 3 ∨ q = 4) with rfl | rfl | rfl | rfl | rfl <;> simp [takeL, dropL, spliceL, purgeL, purge, leL, le, refs, chunk, fA]
      · refine ⟨fun _ => ⟨by decide, ⟨by decide, by decide⟩, ⟨by decide, by decide⟩, ⟨by decide, by simp [ones, one, takeL, dropL], by decide⟩, ⟨⟨by decide, by simp [ones, one, takeL, dropL, spliceL]⟩, by decide⟩, ⟨by unfold capOk; omega, fun q hq => ?_⟩, 6, by decide, by decide, ?_⟩, fun hge => by omega⟩
        · obtain rfl : q = 0 := by omega
          simp [ones, one, takeL, dropL, spliceL, lenL]
        · simp only [leS_mk, leL_cons, leL_nil, le_junk, le_int, le_bool, le_nil, leLL_nil, leLL_cons, leH_cons, leH_nil, leH1_box, leH1_own, leH1_gone, le_vs, le_agg, le_tup, le_ptr, le_own, le_xp, le_fn, le_opt, le_val, le_elem, le_nil_own, le_nil_vs, leH_ghost, leL_chunk, leXL_id, bnd_int, bnd_bool, bnd_val, bnd_nil, bnd_junk, bnd_vs, bnd_xp, bnd_agg, bnd_tup, bnd_ptr, bnd_own, bnd_elem, bnd_fn, bnd_iface, bnd_opt, bndL_nil, bndL_cons, lenH_cons, lenH_nil, imp_self, implies_true, true_and, and_true]
          refine ⟨⟨by decide, by decide, by decide +kernel⟩, fun q hq => ?_, by decide, fun q hq => ?_, by decide, fun q hq => ?_⟩
          · obtain rfl : q = 0 := by omega
            simp [takeL, dropL, spliceL, purgeL, purge, leL, le, refs, chunk]
          · rcases (by omega : q = 0 ∨ q = 1) with rfl | rfl <;> simp [takeL, dropL, spliceL, purgeL, purge, leL, le, refs, chunk]
          · rcases (by omega : q = 0 ∨ q = 1 ∨ q = 2 ∨ q = 3 ∨ q = 4 ∨ q = 5) with rfl | rfl | rfl | rfl | rfl | rfl <;> simp [takeL, dropL, spliceL, purgeL, purge, leL, le, refs, chunk, fA]
      · refine ⟨fun h => by omega, fun _ => ⟨bA 70, fA, ⟨⟨⟨rfl, rfl, rfl, rfl, rfl⟩, rfl, rfl, fun k hk => match k, hk with | 0, _ => ⟨⟨rfl, rfl⟩, ⟨rfl, rfl⟩, trivial⟩⟩, ⟨rfl, rfl, fun k hk => leXL_self _⟩, by decide⟩, by decide, by decide, fun z => ⟨by decide, by decide, ?_⟩⟩⟩
        rw [rows1, order1]
        refine ⟨fun hc => absurd hc (by decide), fun _ => ?_⟩
        refine ⟨fun _ => ⟨by decide, [0], [0], fun _ => ⟨⟨rfl, rfl, fun k hk => leXL_self _⟩, ⟨rfl, rfl, fun k hk => match k, hk with | 0, _ => ⟨⟨rfl, rfl⟩, trivial⟩⟩, by decide⟩, fun _ => ⟨by decide, rA, rA, fun _ => ⟨⟨rfl, rfl, fun k hk => leXL_self _⟩, ⟨rfl, rfl, fun k hk => match k, hk with | 0, _ => ⟨⟨rfl, rfl⟩, ⟨rfl, rfl⟩, ⟨rfl, rfl⟩, ⟨rfl, rfl⟩, trivial⟩ | 1, _ => ⟨⟨rfl, rfl⟩, ⟨rfl, rfl⟩, ⟨rfl, rfl⟩, ⟨rfl, rfl⟩, trivial⟩ | 2, _ => ⟨⟨rfl, rfl⟩, ⟨rfl, rfl⟩, ⟨rfl, rfl⟩, ⟨rfl, rfl⟩, trivial⟩ | 3, _ => ⟨⟨rfl, rfl⟩, ⟨rfl, rfl⟩, ⟨rfl, rfl⟩, ⟨rfl, rfl⟩, trivial⟩ | 4, _ => ⟨⟨rfl, rfl⟩, ⟨rfl, rfl⟩, ⟨rfl, rfl⟩, ⟨rfl, rfl⟩, trivial⟩ | 5, _ => ⟨⟨rfl, rfl⟩, ⟨rfl, rfl⟩, ⟨rfl, rfl⟩, ⟨rfl, rfl⟩, trivial⟩⟩, by decide⟩, fun _ => ⟨by decide, [0, 2, 4, 3, 1], [0, 2, 4, 3, 1], fun _ => ⟨⟨rfl, rfl, fun k hk => leXL_self _⟩, ⟨rfl, rfl, fun k hk => match k, hk with | 0, _ => ⟨⟨rfl, rfl⟩, trivial⟩ | 1, _ => ⟨⟨rfl, rfl⟩, trivial⟩ | 2, _ => ⟨⟨rfl, rfl⟩, trivial⟩ | 3, _ => ⟨⟨rfl, rfl⟩, trivial⟩ | 4, _ => ⟨⟨rfl, rfl⟩, trivial⟩⟩, by decide⟩, ?_⟩, fun hc => absurd hc (by decide)⟩, fun hc => absurd hc (by decide)⟩, fun hc => absurd hc (by decide)⟩
        exact ans_bool h
  · exact h.1.elim
end Go.Proofs.Ytojaibhjfeojjaa

/- Layouts, walked: the reference's checks. -/
/- Layouts, walked: the reference's checks. -/
set_option linter.all false
namespace Go.Proofs.Ytojaibhjfeojjaa
open Go Go.Vx
set_option maxRecDepth 100000
set_option maxHeartbeats 4000000

end Go.Proofs.Ytojaibhjfeojjaa

/- Layouts, walked: the reference's Check. -/
/- Layouts, walked: the reference's Check. -/
set_option linter.all false
namespace Go.Proofs.Ytojaibhjfeojjaa
open Go Go.Vx
set_option maxRecDepth 100000
set_option maxHeartbeats 4000000

end Go.Proofs.Ytojaibhjfeojjaa

/- Numbers by limbs, walked: limb, trim, Of, Order, Plus, Minus. -/
/- Numbers by limbs, walked: limb, trim, Of, Order, Plus, Minus. -/
set_option linter.all false
namespace Go.Proofs.Ytojaibhjfeojjaa
open Go Go.Vx
set_option maxRecDepth 100000
set_option maxHeartbeats 4000000

def R0 : Env := { ct := fun _ => none, fn := fun _ => none, meth := fun _ _ => none }
end Go.Proofs.Ytojaibhjfeojjaa

/- Whole numbers, walked: Times alone. -/
/- Whole numbers, walked: Times alone. -/
set_option linter.all false
namespace Go.Proofs.Ytojaibhjfeojjaa
open Go Go.Vx
set_option maxRecDepth 100000
set_option maxHeartbeats 4000000

end Go.Proofs.Ytojaibhjfeojjaa

/- Layouts, walked: the reference's reach. -/
/- Layouts, walked: the reference's reach. -/
set_option linter.all false
namespace Go.Proofs.Ytojaibhjfeojjaa
open Go Go.Vx
set_option maxRecDepth 100000
set_option maxHeartbeats 4000000

end Go.Proofs.Ytojaibhjfeojjaa

/- Layouts, walked: the reference's Reach, Blocked and Accept. -/
/- Layouts, walked: the reference's Reach, Blocked and Accept. -/
set_option linter.all false
namespace Go.Proofs.Ytojaibhjfeojjaa
open Go Go.Vx
set_option maxRecDepth 100000
set_option maxHeartbeats 4000000

def T3 : Env := { ct := fun n => match n with | 46 => some chC | 23 => some bkdC | 31 => some ckC | _ => none, fn := fun _ => none, meth := fun _ _ => none }
end Go.Proofs.Ytojaibhjfeojjaa

/- Layouts: the laws of checks and of reach, walked. -/
/- Layouts: the laws of checks and of reach, walked. -/
set_option linter.all false
namespace Go.Proofs.Ytojaibhjfeojjaa
open Go Go.Vx
set_option maxRecDepth 100000
set_option maxHeartbeats 4000000

def L1 : Env := { ct := fun n => match n with | 10 => some trueC | 20 => some farC | 27 => some accC | 30 => some accC | 26 => some ckC | 31 => some ckC | _ => none, fn := fun _ => none, meth := fun _ _ => none }
end Go.Proofs.Ytojaibhjfeojjaa

/- Layouts in plain Lean: divisions, and which is the best one. -/
/- Layouts in plain Lean: divisions, and which is the best one. -/
set_option linter.all false
namespace Go.Proofs.Ytojaibhjfeojjaa
open Go Go.Vx

end Go.Proofs.Ytojaibhjfeojjaa

/- Layouts in plain Lean: fewer pipes are not deeper; how deep a layout is. -/
/- Layouts in plain Lean: fewer pipes are not deeper; how deep a layout is. -/
set_option linter.all false
namespace Go.Proofs.Ytojaibhjfeojjaa
open Go Go.Vx

end Go.Proofs.Ytojaibhjfeojjaa

/- Layouts in plain Lean: reach grows; pipes in rows stand well. -/
/- Layouts in plain Lean: reach grows; pipes in rows stand well. -/
set_option linter.all false
namespace Go.Proofs.Ytojaibhjfeojjaa
open Go Go.Vx

end Go.Proofs.Ytojaibhjfeojjaa

/- Layouts in plain Lean: growth. -/
/- Layouts in plain Lean: growth. -/
set_option linter.all false
namespace Go.Proofs.Ytojaibhjfeojjaa
open Go Go.Vx

end Go.Proofs.Ytojaibhjfeojjaa

/- Layouts, walked: within, deep; the law of growth. -/
/- Layouts, walked: within, deep; the law of growth. -/
set_option linter.all false
namespace Go.Proofs.Ytojaibhjfeojjaa
open Go Go.Vx
set_option maxRecDepth 100000
set_option maxHeartbeats 4000000

end Go.Proofs.Ytojaibhjfeojjaa

/- Layouts, walked: the reference's Order. -/
/- Layouts, walked: the reference's Order. -/
set_option linter.all false
namespace Go.Proofs.Ytojaibhjfeojjaa
open Go Go.Vx
set_option maxRecDepth 100000
set_option maxHeartbeats 4000000

def v15 : VF := { ntmps := 69, res := [.tmp 4, .tmp 5], body :=
 (.seq (.region [⟨(some 4), none, .mov, [.cn .nil]⟩,
  ⟨(some 5), none, .mov, [.cn (.int .i64 0)]⟩])
 (.seq (.seq (.region [⟨(some 12), none, .mov, [.tm 0]⟩,
  ⟨(some 13), none, (.cmp .lss), [.tm 12, .cn (.int .i64 0)]⟩,
  ⟨(some 14), none, .mov, [.tm 13]⟩,
  ⟨(some 15), (some (14, false)), .mov, [.tm 0]⟩,
  ⟨(some 16), (some (14, false)), (.cmp .gtr), [.tm 15, .cn (.int .i64 200)]⟩,
  ⟨(some 17), none, .or, [.tm 14, .tm 16]⟩,
  ⟨(some 18), none, .mov, [.tm 17]⟩,
  ⟨(some 19), (some (18, false)), .mov, [.tm 1]⟩,
  ⟨(some 20), (some (18, false)), (.cmp .lss), [.tm 19, .cn (.int .i64 1)]⟩,
  ⟨(some 21), none, .or, [.tm 18, .tm 20]⟩,
  ⟨(some 22), none, .mov, [.tm 21]⟩,
  ⟨(some 23), (some (22, false)), .mov, [.tm 1]⟩,
  ⟨(some 24), (some (22, false)), (.cmp .gtr), [.tm 23, .cn (.int .i64 4)]⟩,
  ⟨(some 25), none, .or, [.tm 22, .tm 24]⟩])
 (.cond (.tm 25) (.seq (.region [⟨(some 4), none, .mov, [.cn .nil]⟩,
  ⟨(some 5), none, .mov, [.cn (.int .i64 2)]⟩])
 .ret)
  .skip))
 (.seq (.region [⟨(some 6), none, .mov, [.cn .nil]⟩])
 (.seq (.region [⟨(some 26), none, (.buildSlice 1 5 [(.int .i64 0)] [(0, 1), (1, 1), (2, 1), (3, 1), (4, 1)]), [.cn (.int .i64 1), .cn (.int .i64 1), .cn (.int .i64 2), .cn (.int .i64 2), .cn (.int .i64 4)]⟩,
  ⟨(some 27), none, .mov, [.tm 1]⟩,
  ⟨(some 28), none, (.idxAddr 1), [.tm 26, .tm 27]⟩,
  ⟨(some 29), none, (.load false 1), [.tm 28]⟩,
  ⟨(some 7), none, .mov, [.tm 29]⟩])
 (.seq (.seq (.region [⟨(some 8), none, .mov, [.cn (.int .i64 0)]⟩])
 (.block 0 (.loop (.seq (.seq (.region [⟨(some 30), none, .mov, [.tm 8]⟩,
  ⟨(some 31), none, .mov, [.tm 7]⟩,
  ⟨(some 32), none, (.cmp .lss), [.tm 30, .tm 31]⟩])
 (.cond (.tm 32) .skip
  (.exit 0)))
 (.seq (.block 1 (.seq (.region [⟨(some 35), none, .mov, [.tm 1]⟩,
  ⟨(some 36), none, (.cmp .eql), [.tm 35, .cn (.int .i64 2)]⟩,
  ⟨(some 37), none, .mov, [.tm 36]⟩,
  ⟨(some 38), (some (37, true)), .mov, [.tm 8]⟩,
  ⟨(some 39), (some (37, true)), (.cmp .eql), [.tm 38, .cn (.int .i64 1)]⟩,
  ⟨(some 40), none, .and, [.tm 37, .tm 39]⟩,
  ⟨(some 41), none, .mov, [.tm 40]⟩,
  ⟨(some 42), (some (41, false)), .mov, [.tm 1]⟩,
  ⟨(some 43), (some (41, false)), (.cmp .eql), [.tm 42, .cn (.int .i64 3)]⟩,
  ⟨(some 44), (some (41, false)), .mov, [.tm 43]⟩,
  ⟨(some 45), (some (44, true)), .mov, [.tm 8]⟩,
  ⟨(some 46), (some (44, true)), (.cmp .eql), [.tm 45, .cn (.int .i64 0)]⟩,
  ⟨(some 47), (some (41, false)), .and, [.tm 44, .tm 46]⟩,
  ⟨(some 48), none, .or, [.tm 41, .tm 47]⟩,
  ⟨(some 9), none, .mov, [.tm 48]⟩])
 (.seq (.region [⟨(some 10), none, .mov, [.cn .nil]⟩])
 (.seq (.seq (.region [⟨(some 49), none, .mov, [.tm 8]⟩,
  ⟨(some 11), none, .mov, [.tm 49]⟩])
 (.block 2 (.loop (.seq (.seq (.region [⟨(some 50), none, .mov, [.tm 11]⟩,
  ⟨(some 51), none, .mov, [.tm 0]⟩,
  ⟨(some 52), none, (.cmp .lss), [.tm 50, .tm 51]⟩])
 (.cond (.tm 52) .skip
  (.exit 2)))
 (.seq (.block 3 (.seq (.region [⟨(some 56), none, .mov, [.tm 9]⟩])
 (.cond (.tm 56) (.region [⟨(some 57), none, .mov, [.tm 11]⟩,
  ⟨(some 58), none, (.buildSlice 1 1 [(.int .i64 0)] [(0, 1)]), [.tm 57]⟩,
  ⟨(some 59), none, .mov, [.tm 10]⟩,
  ⟨(some 60), none, (.append 1 8 [(.int .i64 0)]), [.tm 58, .tm 59]⟩,
  ⟨(some 10), none, .mov, [.tm 60]⟩])
  (.region [⟨(some 61), none, .mov, [.tm 10]⟩,
  ⟨(some 62), none, .mov, [.tm 11]⟩,
  ⟨(some 63), none, (.buildSlice 1 1 [(.int .i64 0)] [(0, 1)]), [.tm 62]⟩,
  ⟨(some 64), none, (.append 1 8 [(.int .i64 0)]), [.tm 61, .tm 63]⟩,
  ⟨(some 10), none, .mov, [.tm 64]⟩]))))
 (.region [⟨(some 53), none, .mov, [.tm 11]⟩,
  ⟨(some 54), none, .mov, [.tm 7]⟩,
  ⟨(some 55), none, (.ari .add), [.tm 53, .tm 54]⟩,
  ⟨(some 11), none, .mov, [.tm 55]⟩]))))))
 (.region [⟨(some 65), none, .mov, [.tm 6]⟩,
  ⟨(some 66), none, .mov, [.tm 10]⟩,
  ⟨(some 67), none, (.append 1 8 [(.int .i64 0)]), [.tm 65, .tm 66]⟩,
  ⟨(some 6), none, .mov, [.tm 67]⟩])))))
 (.region [⟨(some 33), none, .mov, [.tm 8]⟩,
  ⟨(some 34), none, (.ari .add), [.tm 33, .cn (.int .i64 1)]⟩,
  ⟨(some 8), none, .mov, [.tm 34]⟩]))))))
 (.seq (.region [⟨(some 68), none, .mov, [.tm 6]⟩,
  ⟨(some 4), none, .mov, [.tm 68]⟩,
  ⟨(some 5), none, .mov, [.cn (.int .i64 0)]⟩])
 .ret)))))) }
theorem v15_is : vfunc Try.prog Try.f15 = some v15 := by kernel_rfl


def stepOf (kd : Nat) : Nat := if kd = 1 then 1 else if kd = 4 then 4 else 2
def fallS (kd f : Nat) : Bool := (decide (kd = 2) && decide (f = 1)) || (decide (kd = 3) && decide (f = 0))
def partL (n kd f : Nat) : List Nat := if fallS kd f then (classL n f (stepOf kd)).reverse else classL n f (stepOf kd)
def accK (n kd : Nat) : Nat → List Nat
  | 0 => []
  | f + 1 => accK n kd f ++ partL n kd f
theorem acck_all {n kd : Nat} (h1 : 1 ≤ kd) (h2 : kd ≤ 4) : accK n kd (stepOf kd) = orderL n kd := by
  have : kd = 1 ∨ kd = 2 ∨ kd = 3 ∨ kd = 4 := by omega
  rcases this with rfl | rfl | rfl | rfl <;> simp [accK, stepOf, partL, fallS, orderL]
theorem step_rng (kd : Nat) : 1 ≤ stepOf kd ∧ stepOf kd ≤ 4 := by
  unfold stepOf; split
  · omega
  · split <;> omega
theorem cls_lt {n f s t : Nat} (h : 0 < s) : f + t * s < n ↔ t < (n - f + s - 1) / s := by
  rw [Nat.lt_iff_add_one_le (m := t), Nat.le_div_iff_mul_le h, Nat.add_mul, Nat.one_mul]
  generalize t * s = u
  omega
theorem partl_le (n kd f : Nat) (hn : n ≤ 200) : (partL n kd f).length ≤ 1000 := by
  have hs := step_rng kd
  have e : (partL n kd f).length = (n - f + stepOf kd - 1) / stepOf kd := by
    unfold partL
    split
    · rw [List.length_reverse, classL, prog_len]
    · rw [classL, prog_len]
  rw [e]
  exact Nat.le_trans (Nat.div_le_self _ _) (by omega)
theorem acck_le (n kd : Nat) : ∀ (f : Nat), n ≤ 200 → f ≤ 4 → (accK n kd f).length ≤ 1000 * f
  | 0, _, _ => Nat.zero_le _
  | f + 1, h, h4 => by
    have := acck_le n kd f h (by omega)
    have := partl_le n kd f h
    have e : accK n kd (f + 1) = accK n kd f ++ partL n kd f := rfl
    rw [e, List.length_append]
    omega
theorem app_get {A P : List Nat} {p : Nat} : (A ++ P).getD p default = if p < A.length then A.getD p default else P.getD (p - A.length) default := by
  split
  · rename_i h; exact app_lo h
  · rename_i h
    obtain ⟨q, rfl⟩ : ∃ q, p = A.length + q := ⟨p - A.length, by omega⟩
    rw [app_hi rfl, Nat.add_sub_cancel_left]
theorem zz_and {a b : Nat} : (decide (a = 0) && decide (b = 0)) = decide (a + b = 0) := by
  rw [Bool.eq_iff_iff, Bool.and_eq_true, decide_eq_true_eq, decide_eq_true_eq, decide_eq_true_eq]; omega
def O5 : Env := { ct := fun _ => none, fn := fun _ => none, meth := fun _ _ => none }
theorem O5_ok : EnvOk Try.prog O5 := by
  refine ⟨fun f c h => ?_, fun f vf h => ?_, (fun _ _ _ h => by cases h), by kernel_rfl⟩
  · cases h
  · cases h

theorem rord_ok : ordC.ok Try.prog 15 := by
  refine contract Try.func15 v15_is O5_ok 400 ordC fun args k h => ⟨args, ?_⟩
  simp only [ordC] at h
  split at h
  · rename_i n kd
    refine ⟨by simp [leL, le], ?_⟩
    dsimp only [v15, go_sem, Option.bind, Option.map, List.append_nil, Nat.beq, List.cons_append, List.nil_append, List.append_eq, List.map_cons, List.map_nil, ite_self, reduceIte]
    simp only [true_and, and_true, imp_self, implies_true, decide_eq_true_eq, decide_eq_false_iff_not, Nat.reduceAdd, Nat.reduceLeDiff, Bool.not_not, reduceCtorEq, false_imp_iff, Bool.not_eq_true', Bool.not_eq_false', Bool.false_eq_true, and_self, forall_const, ne_eq, not_false_eq_true, Nat.reduceEqDiff]
    have h : ∀ z : Bool, k (.tup [.vs true z (orderR n kd).1.length 1 (fun k => encI ((orderR n kd).1.getD k default)), .int .i64 (orderR n kd).2]) [] := h
    unfold orderR at h
    refine ⟨fun hb => ?_, fun hb => ?_⟩
    · simp only [Bool.or_eq_true, decide_eq_true_eq] at hb
      rw [if_pos (by omega)] at h
      exact ans_le (h true) (by simp [expo, view, viewL, le, leL]) (fun _ => by simp [freshS, freshL])
    · simp only [Bool.or_eq_false_iff, decide_eq_false_iff_not] at hb
      rw [if_neg (by omega)] at h
      obtain ⟨n, rfl⟩ := Int.eq_ofNat_of_zero_le (show 0 ≤ n by omega)
      obtain ⟨kd, rfl⟩ := Int.eq_ofNat_of_zero_le (show 0 ≤ kd by omega)
      simp only [Int.toNat_natCast] at h
      have hkd : kd = 1 ∨ kd = 2 ∨ kd = 3 ∨ kd = 4 := by omega
      have hn : n ≤ 200 := by omega
      rw [← acck_all (by omega) (by omega)] at h
      have hs := step_rng kd
      simp only [Int.toNat_natCast]
      refine ⟨by decide, ⟨by omega, by omega⟩, ⟨by omega, by rcases hkd with rfl | rfl | rfl | rfl <;> decide⟩, ?_⟩
      refine Loop.keepF [0, 0] Nat (fun f => [(6, .own 1 0 (accK n kd f).length 1), (7, .int .i64 (stepOf kd : Int)), (8, .int .i64 (f : Int))]) (fun f => [(0, .gone), (1, .own (decide ((accK n kd f).length = 0)) 1 (accK n kd f).length (fun k => encI ((accK n kd f).getD k default)))]) [.gone] (fun f => f ≤ stepOf kd) (fun f => stepOf kd - f) ?_ ?_
      · refine ⟨0, Nat.zero_le _, [0], ?_, ?_⟩
        · dsimp only [go_sem, Option.bind, Option.map, List.append_nil, Nat.beq, List.cons_append, List.nil_append, List.append_eq, List.map_cons, List.map_nil, ite_self, reduceIte]
          exact ⟨fun p hp => match p, hp with | 0, _ => rfl | 1, _ => rfl | 2, _ => rfl | 3, _ => rfl | 4, _ => rfl, trivial⟩
        rcases hkd with rfl | rfl | rfl | rfl
        all_goals
          dsimp only [encI, accK, stepOf, go_sem, Option.bind, Option.map, List.append_nil, Nat.beq, List.cons_append, List.nil_append, List.append_eq, List.map_cons, List.map_nil, ite_self, reduceIte]
          simp only [leH_ghost, leS_mk, leL_cons, leL_nil, le_junk, le_int, le_bool, le_nil, leLL_nil, leLL_cons, leH_cons, leH_nil, leH1_box, leH1_own, leH1_gone, le_vs, le_agg, le_tup, le_ptr, le_own, le_xp, le_fn, le_opt, le_val, le_elem, le_nil_own, le_nil_vs, leH_ghost, leL_chunk, leXL_id, bnd_int, bnd_bool, bnd_val, bnd_nil, bnd_junk, bnd_vs, bnd_xp, bnd_agg, bnd_tup, bnd_ptr, bnd_own, bnd_elem, bnd_fn, bnd_iface, bnd_opt, bndL_nil, bndL_cons, lenH_cons, lenH_nil, imp_self, implies_true, true_and, and_true] <;> simp
      · rintro f hf
        dsimp only [encI, Int.toNat_natCast, go_sem, Option.bind, Option.map, List.append_nil, Nat.beq, List.cons_append, List.nil_append, List.append_eq, List.map_cons, List.map_nil, ite_self, reduceIte]
        simp only [true_and, and_true, imp_self, implies_true, decide_eq_true_eq, decide_eq_false_iff_not, Nat.reduceAdd, Nat.reduceLeDiff, Bool.not_not, reduceCtorEq, false_imp_iff, Bool.not_eq_true', Bool.not_eq_false', Bool.false_eq_true, and_self, forall_const, ne_eq, not_false_eq_true, Nat.reduceEqDiff]
        refine ⟨fun hlt => ?_, fun hge => ?_⟩
        · have hlt' : f < stepOf kd := by omega
          have e9 : (decide ((kd : Int) = 2) && decide ((f : Int) = 1) || decide ((kd : Int) = 3) && decide ((f : Int) = 0)) = fallS kd f := by
            unfold fallS
            congr 1 <;> congr 1 <;> (rw [decide_eq_decide]; omega)
          obtain ⟨s, hse⟩ : ∃ s, s = stepOf kd := ⟨_, rfl⟩
          obtain ⟨C, hC⟩ : ∃ C, C = (n - f + s - 1) / s := ⟨_, rfl⟩
          have hcl := fun t => cls_lt (n := n) (f := f) (s := s) (t := t) (by omega)
          rw [← hC] at hcl
          have hCn : C ≤ n := by
            rw [hC]
            have h1 : n ≤ n * s := Nat.le_mul_of_pos_right n (by omega)
            rcases Nat.eq_zero_or_pos n with h0 | h0
            · subst h0
              rw [Nat.zero_sub, Nat.zero_add, Nat.div_eq_of_lt (by omega)]
              exact Nat.le_refl _
            · have h2 : n + s - 1 ≤ n * s := by
                have := Nat.mul_le_mul_left (n - 1) (show 1 ≤ s by omega)
                have e : n * s = (n - 1) * s + s := by rw [← Nat.succ_mul]; congr 1; omega
                omega
              exact Nat.le_trans (Nat.div_le_div_right (by omega : n - f + s - 1 ≤ n * s)) (by rw [Nat.mul_div_cancel _ (by omega)]; exact Nat.le_refl _)
          have hA := acck_le n kd f hn (by omega)
          refine ⟨fun h1 h2 => by rw [h1, decide_eq_true h2]; rfl, ?_⟩
          rw [e9, ← hse]
          have hstep : accK n kd (f + 1) = accK n kd f ++ partL n kd f := rfl
          have hcC : classL n f (stepOf kd) = progL f s C := by rw [hC, hse]; rfl
          unfold partL at hstep
          rw [hcC] at hstep
          obtain ⟨A, hAe⟩ : ∃ A, A = accK n kd f := ⟨_, rfl⟩
          rw [← hAe] at hstep hA ⊢
          have hws : ∀ t, t < C → IntKind.i64.wrap (((f + t * s : Nat) : Int) + (s : Int)) = ((f + (t + 1) * s : Nat) : Int) := fun t ht => by
            have := (hcl t).2 ht
            rw [Nat.add_mul, Nat.one_mul]
            generalize t * s = u at *
            rw [mid_w (by omega)]; omega
          have hwf : IntKind.i64.wrap ((f : Int) + 1) = ((f + 1 : Nat) : Int) := by rw [mid_w (by omega)]; omega
          cases hfl : fallS kd f with
          | false =>
            rw [hfl, if_neg (by simp)] at hstep
            refine Loop.keep [0, 0, 4, 0, 0, 0] Nat (fun t => [(10, .own 2 0 t 1), (11, .int .i64 ((f + t * s : Nat) : Int))]) (fun t => [(2, .own (decide (t = 0)) 1 t (fun k => encI ((progL f s t).getD k default)))]) [.gone] (fun t => t ≤ C) (fun t => C - t) ?_ ?_
            · refine ⟨0, Nat.zero_le _, ?_⟩
              dsimp only [encI, go_sem, Option.bind, Option.map, List.append_nil, Nat.beq, List.cons_append, List.nil_append, List.append_eq, List.map_cons, List.map_nil, ite_self, reduceIte]
              simp only [leH_ghost, leS_mk, leL_cons, leL_nil, le_junk, le_int, le_bool, le_nil, leLL_nil, leLL_cons, leH_cons, leH_nil, leH1_box, leH1_own, leH1_gone, le_vs, le_agg, le_tup, le_ptr, le_own, le_xp, le_fn, le_opt, le_val, le_elem, le_nil_own, le_nil_vs, leH_ghost, leL_chunk, leXL_id, bnd_int, bnd_bool, bnd_val, bnd_nil, bnd_junk, bnd_vs, bnd_xp, bnd_agg, bnd_tup, bnd_ptr, bnd_own, bnd_elem, bnd_fn, bnd_iface, bnd_opt, bndL_nil, bndL_cons, lenH_cons, lenH_nil, imp_self, implies_true, true_and, and_true] <;> simp
            · rintro t ht
              dsimp only [encI, Int.toNat_natCast, go_sem, Option.bind, Option.map, List.append_nil, Nat.beq, List.cons_append, List.nil_append, List.append_eq, List.map_cons, List.map_nil, ite_self, reduceIte]
              simp only [true_and, and_true, imp_self, implies_true, decide_eq_true_eq, decide_eq_false_iff_not, Nat.reduceAdd, Nat.reduceLeDiff, Bool.not_not, reduceCtorEq, false_imp_iff, Bool.not_eq_true', Bool.not_eq_false', Bool.false_eq_true, and_self, forall_const, ne_eq, not_false_eq_true, Nat.reduceEqDiff]
              refine ⟨fun hlt2 => ?_, fun hge2 => ?_⟩
              · have ht' : t < C := (hcl t).1 (by omega)
                have e1 := prog_succ f s t
                refine ⟨by decide, ⟨by unfold capOk; omega, fun p hp => match p, hp with | 0, _ => ⟨rfl, trivial, trivial⟩⟩, t + 1, by omega, by omega, ?_⟩
                simp only [hws t ht', e1, getD_app, prog_len, leS_mk, leL_cons, leL_nil, le_junk, le_int, le_bool, le_nil, leLL_nil, leLL_cons, leH_cons, leH_nil, leH1_box, leH1_own, leH1_gone, le_vs, le_agg, le_tup, le_ptr, le_own, le_xp, le_fn, le_opt, le_val, le_elem, le_nil_own, le_nil_vs, leH_ghost, leL_chunk, leXL_id, bnd_int, bnd_bool, bnd_val, bnd_nil, bnd_junk, bnd_vs, bnd_xp, bnd_agg, bnd_tup, bnd_ptr, bnd_own, bnd_elem, bnd_fn, bnd_iface, bnd_opt, bndL_nil, bndL_cons, lenH_cons, lenH_nil, imp_self, implies_true, true_and, and_true]
                refine ⟨⟨by omega, by omega⟩, by simp, fun p hp => ?_⟩
                rcases Nat.lt_or_ge p t with h' | h'
                · simp only [if_pos h']; exact leL_self [.int _ _] ⟨trivial, trivial⟩
                · obtain rfl : p = t := by omega
                  simp only [Nat.lt_irrefl, if_false, if_true, Nat.sub_self]
                  exact leL_self [.int _ _] ⟨trivial, trivial⟩
              · have hge3 : ¬ t < C := fun h => hge2 (by have := (hcl t).2 h; omega)
                obtain rfl : t = C := by omega
                refine ⟨by unfold capOk; omega, f + 1, by omega, by omega, [], trivial, ?_⟩
                rw [hstep]
                dsimp only [go_sem, Option.bind, Option.map, List.append_nil, Nat.beq, List.cons_append, List.nil_append, List.append_eq, List.map_cons, List.map_nil, ite_self, reduceIte]
                simp only [hwf, List.length_append, prog_len, leS_mk, leL_cons, leL_nil, le_junk, le_int, le_bool, le_nil, leLL_nil, leLL_cons, leH_cons, leH_nil, leH1_box, leH1_own, leH1_gone, le_vs, le_agg, le_tup, le_ptr, le_own, le_xp, le_fn, le_opt, le_val, le_elem, le_nil_own, le_nil_vs, leH_ghost, leL_chunk, leXL_id, bnd_int, bnd_bool, bnd_val, bnd_nil, bnd_junk, bnd_vs, bnd_xp, bnd_agg, bnd_tup, bnd_ptr, bnd_own, bnd_elem, bnd_fn, bnd_iface, bnd_opt, bndL_nil, bndL_cons, lenH_cons, lenH_nil, imp_self, implies_true, true_and, and_true]
                refine ⟨by omega, zz_and, fun p hp => ?_⟩
                rw [app_get]
                split
                · exact leL_self [.int _ _] ⟨trivial, trivial⟩
                · exact leL_self [.int _ _] ⟨trivial, trivial⟩
          | true =>
            rw [hfl, if_pos rfl] at hstep
            refine Loop.keepF [0, 0, 4, 0, 0, 0] Nat (fun t => [(10, .vs true (decide (t = 0)) t 1 (fun k => encI ((progL f s t).reverse.getD k default))), (11, .int .i64 ((f + t * s : Nat) : Int))]) (fun t => []) [] (fun t => t ≤ C) (fun t => C - t) ?_ ?_
            · refine ⟨0, Nat.zero_le _, [], trivial, ?_⟩
              dsimp only [encI, go_sem, Option.bind, Option.map, List.append_nil, Nat.beq, List.cons_append, List.nil_append, List.append_eq, List.map_cons, List.map_nil, ite_self, reduceIte]
              simp only [leS_mk, leL_cons, leL_nil, le_junk, le_int, le_bool, le_nil, leLL_nil, leLL_cons, leH_cons, leH_nil, leH1_box, leH1_own, leH1_gone, le_vs, le_agg, le_tup, le_ptr, le_own, le_xp, le_fn, le_opt, le_val, le_elem, le_nil_own, le_nil_vs, leH_ghost, leL_chunk, leXL_id, bnd_int, bnd_bool, bnd_val, bnd_nil, bnd_junk, bnd_vs, bnd_xp, bnd_agg, bnd_tup, bnd_ptr, bnd_own, bnd_elem, bnd_fn, bnd_iface, bnd_opt, bndL_nil, bndL_cons, lenH_cons, lenH_nil, imp_self, implies_true, true_and, and_true] <;> simp
            · rintro t ht
              dsimp only [encI, Int.toNat_natCast, go_sem, Option.bind, Option.map, List.append_nil, Nat.beq, List.cons_append, List.nil_append, List.append_eq, List.map_cons, List.map_nil, ite_self, reduceIte]
              simp only [true_and, and_true, imp_self, implies_true, decide_eq_true_eq, decide_eq_false_iff_not, Nat.reduceAdd, Nat.reduceLeDiff, Bool.not_not, reduceCtorEq, false_imp_iff, Bool.not_eq_true', Bool.not_eq_false', Bool.false_eq_true, and_self, forall_const, ne_eq, not_false_eq_true, Nat.reduceEqDiff]
              refine ⟨fun hlt2 => ?_, fun hge2 => ?_⟩
              · have ht' : t < C := (hcl t).1 (by omega)
                refine ⟨by decide, by unfold capOk; omega, t + 1, by omega, by omega, [2], ?_, ?_⟩
                · dsimp only [go_sem, Option.bind, Option.map, List.append_nil, Nat.beq, List.cons_append, List.nil_append, List.append_eq, List.map_cons, List.map_nil, ite_self, reduceIte]
                  refine ⟨fun p hp => ?_, trivial⟩
                  rcases Nat.lt_or_ge p 1 with h' | h'
                  · obtain rfl : p = 0 := by omega
                    rfl
                  · rw [if_neg (by omega)]; rfl
                · dsimp only [go_sem, Option.bind, Option.map, List.append_nil, Nat.beq, List.cons_append, List.nil_append, List.append_eq, List.map_cons, List.map_nil, ite_self, reduceIte]
                  simp only [hws t ht', leS_mk, leL_cons, leL_nil, le_junk, le_int, le_bool, le_nil, leLL_nil, leLL_cons, leH_cons, leH_nil, leH1_box, leH1_own, leH1_gone, le_vs, le_agg, le_tup, le_ptr, le_own, le_xp, le_fn, le_opt, le_val, le_elem, le_nil_own, le_nil_vs, leH_ghost, leL_chunk, leXL_id, bnd_int, bnd_bool, bnd_val, bnd_nil, bnd_junk, bnd_vs, bnd_xp, bnd_agg, bnd_tup, bnd_ptr, bnd_own, bnd_elem, bnd_fn, bnd_iface, bnd_opt, bndL_nil, bndL_cons, lenH_cons, lenH_nil, imp_self, implies_true, true_and, and_true]
                  refine ⟨by omega, by simp, by omega, fun p hp => ?_⟩
                  rw [prog_succ, List.reverse_append]
                  rcases Nat.lt_or_ge p 1 with h' | h'
                  · obtain rfl : p = 0 := by omega
                    exact leXL_self _
                  · obtain ⟨p, rfl⟩ : ∃ q, p = q + 1 := ⟨p - 1, by omega⟩
                    rw [if_neg (by omega), Nat.add_sub_cancel]
                    exact leXL_self _
              · have hge3 : ¬ t < C := fun h => hge2 (by have := (hcl t).2 h; omega)
                obtain rfl : t = C := by omega
                refine ⟨by unfold capOk; omega, f + 1, by omega, by omega, [], trivial, ?_⟩
                rw [hstep]
                dsimp only [go_sem, Option.bind, Option.map, List.append_nil, Nat.beq, List.cons_append, List.nil_append, List.append_eq, List.map_cons, List.map_nil, ite_self, reduceIte]
                simp only [hwf, List.length_append, List.length_reverse, prog_len, leS_mk, leL_cons, leL_nil, le_junk, le_int, le_bool, le_nil, leLL_nil, leLL_cons, leH_cons, leH_nil, leH1_box, leH1_own, leH1_gone, le_vs, le_agg, le_tup, le_ptr, le_own, le_xp, le_fn, le_opt, le_val, le_elem, le_nil_own, le_nil_vs, leH_ghost, leL_chunk, leXL_id, bnd_int, bnd_bool, bnd_val, bnd_nil, bnd_junk, bnd_vs, bnd_xp, bnd_agg, bnd_tup, bnd_ptr, bnd_own, bnd_elem, bnd_fn, bnd_iface, bnd_opt, bndL_nil, bndL_cons, lenH_cons, lenH_nil, imp_self, implies_true, true_and, and_true]
                refine ⟨by omega, zz_and, fun p hp => ?_⟩
                rw [app_get]
                split
                · exact leL_self [.int _ _] ⟨trivial, trivial⟩
                · exact leL_self [.int _ _] ⟨trivial, trivial⟩
        · obtain rfl : f = stepOf kd := by omega
          refine ans_le (h (decide ((accK n kd (stepOf kd)).length = 0))) ?_ ?_
          · dsimp only [expo, encI, go_sem, Option.bind, Option.map, List.append_nil, Nat.beq, List.cons_append, List.nil_append, List.append_eq, List.map_cons, List.map_nil, ite_self, reduceIte]
            simp only [leS_mk, leL_cons, leL_nil, le_junk, le_int, le_bool, le_nil, leLL_nil, leLL_cons, leH_cons, leH_nil, leH1_box, leH1_own, leH1_gone, le_vs, le_agg, le_tup, le_ptr, le_own, le_xp, le_fn, le_opt, le_val, le_elem, le_nil_own, le_nil_vs, leH_ghost, leL_chunk, leXL_id, bnd_int, bnd_bool, bnd_val, bnd_nil, bnd_junk, bnd_vs, bnd_xp, bnd_agg, bnd_tup, bnd_ptr, bnd_own, bnd_elem, bnd_fn, bnd_iface, bnd_opt, bndL_nil, bndL_cons, lenH_cons, lenH_nil, imp_self, implies_true, true_and, and_true]
          · intro _; simp [freshS, freshL, encI]
  · exact h.1.elim
end Go.Proofs.Ytojaibhjfeojjaa

/- Layouts, walked: the law of orders. -/
/- Layouts, walked: the law of orders. -/
set_option linter.all false
namespace Go.Proofs.Ytojaibhjfeojjaa
open Go Go.Vx
set_option maxRecDepth 100000
set_option maxHeartbeats 4000000

def v4 : VF := { ntmps := 71, res := [.tmp 4], body :=
 (.seq (.region [⟨(some 4), none, .mov, [.cn (.bool false)]⟩])
 (.seq (.region [⟨(some 12), none, .mov, [.tm 0]⟩,
  ⟨(some 13), none, .mov, [.tm 1]⟩,
  ⟨(some 14), none, (.call 14), [.tm 12, .tm 13]⟩,
  ⟨(some 11), none, .mov, [.tm 14]⟩,
  ⟨(some 15), none, (.ext 0), [.tm 11]⟩,
  ⟨(some 16), none, (.ext 1), [.tm 11]⟩,
  ⟨(some 5), none, .mov, [.tm 15]⟩,
  ⟨(some 6), none, .mov, [.tm 16]⟩])
 (.seq (.region [⟨(some 18), none, .mov, [.tm 0]⟩,
  ⟨(some 19), none, .mov, [.tm 1]⟩,
  ⟨(some 20), none, (.call 15), [.tm 18, .tm 19]⟩,
  ⟨(some 17), none, .mov, [.tm 20]⟩,
  ⟨(some 21), none, (.ext 0), [.tm 17]⟩,
  ⟨(some 22), none, (.ext 1), [.tm 17]⟩,
  ⟨(some 7), none, .mov, [.tm 21]⟩,
  ⟨(some 8), none, .mov, [.tm 22]⟩])
 (.seq (.seq (.region [⟨(some 23), none, .mov, [.tm 5]⟩,
  ⟨(some 24), none, .mov, [.tm 7]⟩,
  ⟨(some 25), none, (.call 16), [.tm 23, .tm 24]⟩,
  ⟨(some 26), none, .not, [.tm 25]⟩,
  ⟨(some 27), none, .mov, [.tm 26]⟩,
  ⟨(some 28), (some (27, false)), .mov, [.tm 6]⟩,
  ⟨(some 29), (some (27, false)), .mov, [.tm 8]⟩,
  ⟨(some 30), (some (27, false)), (.cmp .neq), [.tm 28, .tm 29]⟩,
  ⟨(some 31), none, .or, [.tm 27, .tm 30]⟩])
 (.cond (.tm 31) (.seq (.region [⟨(some 4), none, .mov, [.cn (.bool false)]⟩])
 .ret)
  .skip))
 (.seq (.region [⟨(some 32), none, .mov, [.tm 5]⟩,
  ⟨(some 33), none, .len, [.tm 32]⟩,
  ⟨(some 34), none, (.make 1 1 [(.bool false)]), [.tm 33, .tm 33]⟩,
  ⟨(some 9), none, .mov, [.tm 34]⟩])
 (.seq (.seq (.region [⟨(some 10), none, .mov, [.cn (.int .i64 0)]⟩])
 (.block 0 (.loop (.seq (.seq (.region [⟨(some 35), none, .mov, [.tm 10]⟩,
  ⟨(some 36), none, .mov, [.tm 5]⟩,
  ⟨(some 37), none, .len, [.tm 36]⟩,
  ⟨(some 38), none, (.cmp .lss), [.tm 35, .tm 37]⟩])
 (.cond (.tm 38) .skip
  (.exit 0)))
 (.seq (.block 1 (.seq (.seq (.region [⟨(some 41), none, .mov, [.tm 5]⟩,
  ⟨(some 42), none, .mov, [.tm 10]⟩,
  ⟨(some 43), none, (.idxAddr 1), [.tm 41, .tm 42]⟩,
  ⟨(some 44), none, (.load false 1), [.tm 43]⟩,
  ⟨(some 45), none, (.cmp .lss), [.tm 44, .cn (.int .i64 0)]⟩,
  ⟨(some 46), none, .mov, [.tm 45]⟩,
  ⟨(some 47), (some (46, false)), .mov, [.tm 5]⟩,
  ⟨(some 48), (some (46, false)), .mov, [.tm 10]⟩,
  ⟨(some 49), (some (46, false)), (.idxAddr 1), [.tm 47, .tm 48]⟩,
  ⟨(some 50), (some (46, false)), (.load false 1), [.tm 49]⟩,
  ⟨(some 51), (some (46, false)), .mov, [.tm 5]⟩,
  ⟨(some 52), (some (46, false)), .len, [.tm 51]⟩,
  ⟨(some 53), (some (46, false)), (.cmp .geq), [.tm 50, .tm 52]⟩,
  ⟨(some 54), none, .or, [.tm 46, .tm 53]⟩,
  ⟨(some 55), none, .mov, [.tm 54]⟩,
  ⟨(some 56), (some (55, false)), .mov, [.tm 9]⟩,
  ⟨(some 57), (some (55, false)), .mov, [.tm 5]⟩,
  ⟨(some 58), (some (55, false)), .mov, [.tm 10]⟩,
  ⟨(some 59), (some (55, false)), (.idxAddr 1), [.tm 57, .tm 58]⟩,
  ⟨(some 60), (some (55, false)), (.load false 1), [.tm 59]⟩,
  ⟨(some 61), (some (55, false)), (.idxAddr 1), [.tm 56, .tm 60]⟩,
  ⟨(some 62), (some (55, false)), (.load false 1), [.tm 61]⟩,
  ⟨(some 63), none, .or, [.tm 55, .tm 62]⟩])
 (.cond (.tm 63) (.seq (.region [⟨(some 4), none, .mov, [.cn (.bool false)]⟩])
 .ret)
  .skip))
 (.region [⟨(some 64), none, .mov, [.tm 9]⟩,
  ⟨(some 65), none, .mov, [.tm 5]⟩,
  ⟨(some 66), none, .mov, [.tm 10]⟩,
  ⟨(some 67), none, (.idxAddr 1), [.tm 65, .tm 66]⟩,
  ⟨(some 68), none, (.load false 1), [.tm 67]⟩,
  ⟨(some 69), none, (.idxAddr 1), [.tm 64, .tm 68]⟩,
  ⟨none, none, (.store 1), [.tm 69, .cn (.bool true)]⟩])))
 (.region [⟨(some 39), none, .mov, [.tm 10]⟩,
  ⟨(some 40), none, (.ari .add), [.tm 39, .cn (.int .i64 1)]⟩,
  ⟨(some 10), none, .mov, [.tm 40]⟩]))))))
 (.seq (.region [⟨(some 70), none, (.call 10), []⟩,
  ⟨(some 4), none, .mov, [.tm 70]⟩])
 .ret))))))) }
theorem v4_is : vfunc Try.prog Try.f4 = some v4 := by kernel_rfl


theorem prog_mem {a s c v : Nat} : v ∈ progL a s c ↔ ∃ t, t < c ∧ a + t * s = v := by
  unfold progL
  rw [List.mem_map]
  constructor
  · rintro ⟨t, h, e⟩; exact ⟨t, List.mem_range.1 h, e⟩
  · rintro ⟨t, h, e⟩; exact ⟨t, List.mem_range.2 h, e⟩
theorem prog_nodup {a s c : Nat} (h : 0 < s) : (progL a s c).Nodup := by
  unfold progL
  refine List.pairwise_map.2 (List.Pairwise.imp (fun {x y} hxy => ?_) List.pairwise_lt_range)
  have := Nat.mul_lt_mul_of_pos_right hxy h
  omega
theorem class_mem {n f s v : Nat} (h : 0 < s) (hf : f < s) (hv : v ∈ classL n f s) : v < n ∧ v % s = f := by
  unfold classL at hv
  obtain ⟨t, ht, rfl⟩ := prog_mem.1 hv
  have := (cls_lt (n := n) (f := f) (s := s) (t := t) h).2 ht
  exact ⟨this, by rw [Nat.add_mul_mod_self_right, Nat.mod_eq_of_lt hf]⟩
theorem class_nodup {n f s : Nat} (h : 0 < s) : (classL n f s).Nodup := prog_nodup h
theorem class_app {n g s : Nat} {A : List Nat} (h : 0 < s) (hg : g < s) (hA : A.Nodup) (hf : ∀ v ∈ A, v < n ∧ v % s < g) : (A ++ classL n g s).Nodup ∧ ∀ v ∈ A ++ classL n g s, v < n ∧ v % s < g + 1 := by
  refine ⟨List.pairwise_append.2 ⟨hA, class_nodup h, fun a ha b hb => ?_⟩, fun v hv => ?_⟩
  · have h1 := (hf a ha).2
    have h2 := (class_mem h hg hb).2
    intro e
    subst e
    omega
  · rcases List.mem_append.1 hv with hv | hv
    · have := hf v hv; omega
    · have := class_mem h hg hv; omega
theorem class_0 {n s : Nat} (h : 0 < s) : (classL n 0 s).Nodup ∧ ∀ v ∈ classL n 0 s, v < n ∧ v % s < 1 :=
  ⟨class_nodup h, fun v hv => by have := class_mem h h hv; omega⟩
theorem ordn_ok {n kd : Nat} (h1 : 1 ≤ kd) (h2 : kd ≤ 4) : (orderL n kd).Nodup ∧ (∀ v ∈ orderL n kd, v < n) ∧ (orderL n kd).length = n := by
  have hk : kd = 1 ∨ kd = 2 ∨ kd = 3 ∨ kd = 4 := by omega
  have len : ∀ f s, (classL n f s).length = (n - f + s - 1) / s := fun f s => by rw [classL, prog_len]
  rcases hk with rfl | rfl | rfl | rfl
  · have e : orderL n 1 = classL n 0 1 := rfl
    rw [e, len]
    obtain ⟨a, b⟩ := class_0 (n := n) (s := 1) (by omega)
    exact ⟨a, fun v hv => (b v hv).1, by omega⟩
  · have e : orderL n 2 = classL n 0 2 ++ (classL n 1 2).reverse := rfl
    rw [e, List.length_append, List.length_reverse, len, len]
    obtain ⟨a, b⟩ := class_0 (n := n) (s := 2) (by omega)
    obtain ⟨a2, b2⟩ := class_app (g := 1) (by omega) (by omega) a b
    obtain ⟨p1, p2, p3⟩ := List.pairwise_append.1 a2
    refine ⟨List.pairwise_append.2 ⟨p1, List.pairwise_reverse.2 (p2.imp fun h => Ne.symm h), fun x hx y hy => p3 x hx y (List.mem_reverse.1 hy)⟩, fun v hv => (b2 v ?_).1, by omega⟩
    rcases List.mem_append.1 hv with hv | hv
    · exact List.mem_append.2 (.inl hv)
    · exact List.mem_append.2 (.inr (List.mem_reverse.1 hv))
  · have e : orderL n 3 = (classL n 0 2).reverse ++ classL n 1 2 := rfl
    rw [e, List.length_append, List.length_reverse, len, len]
    obtain ⟨a, b⟩ := class_0 (n := n) (s := 2) (by omega)
    obtain ⟨a2, b2⟩ := class_app (g := 1) (A := (classL n 0 2).reverse) (by omega) (by omega) (List.pairwise_reverse.2 (a.imp fun h => Ne.symm h)) (fun v hv => b v (List.mem_reverse.1 hv))
    exact ⟨a2, fun v hv => (b2 v hv).1, by omega⟩
  · have e : orderL n 4 = ((classL n 0 4 ++ classL n 1 4) ++ classL n 2 4) ++ classL n 3 4 := rfl
    rw [e, List.length_append, List.length_append, List.length_append, len, len, len, len]
    obtain ⟨a, b⟩ := class_0 (n := n) (s := 4) (by omega)
    obtain ⟨a2, b2⟩ := class_app (g := 1) (by omega) (by omega) a b
    obtain ⟨a3, b3⟩ := class_app (g := 2) (by omega) (by omega) a2 b2
    obtain ⟨a4, b4⟩ := class_app (g := 3) (by omega) (by omega) a3 b3
    exact ⟨a4, fun v hv => (b4 v hv).1, by omega⟩
theorem ordR_ok (n kd : Int) : (orderR n kd).1.Nodup ∧ (∀ v ∈ (orderR n kd).1, v < (orderR n kd).1.length) ∧ (orderR n kd).1.length ≤ 200 := by
  unfold orderR
  split
  · exact ⟨List.Pairwise.nil, (fun v hv => by cases hv), Nat.zero_le _⟩
  · rename_i hx
    have k1 : 1 ≤ kd.toNat := by omega
    have k2 : kd.toNat ≤ 4 := by omega
    obtain ⟨a, b, c⟩ := ordn_ok (n := n.toNat) (kd := kd.toNat) k1 k2
    refine ⟨a, fun v hv => ?_, ?_⟩
    · show v < (orderL n.toNat kd.toNat).length
      rw [c]; exact b v hv
    · show (orderL n.toNat kd.toNat).length ≤ 200
      rw [c]; omega
theorem take_mem_succ {L : List Nat} {i v : Nat} (h : i < L.length) : v ∈ L.take (i + 1) ↔ v ∈ L.take i ∨ v = L.getD i default := by
  rw [List.take_add_one, List.getElem?_eq_getElem h, List.mem_append, List.getD_eq_getElem?_getD, List.getElem?_eq_getElem h]
  simp
theorem nodup_at {L : List Nat} (h : L.Nodup) {i : Nat} (hi : i < L.length) : L.getD i default ∉ L.take i := by
  have e : L = L.take i ++ L.drop i := (List.take_append_drop i L).symm
  rw [e] at h
  have hp := (List.pairwise_append.1 h).2.2
  intro hm
  have hd : L.getD i default ∈ L.drop i := by rw [drop_cons' hi]; exact List.mem_cons_self
  exact hp _ hm _ hd rfl

def L7 : Env := { ct := fun n => match n with | 10 => some trueC | 14 => some ordC | 15 => some ordC | 16 => some samIC | _ => none, fn := fun _ => none, meth := fun _ _ => none }
theorem L7_ct10 : L7.ct 10 = some trueC := rfl
theorem L7_ct14 : L7.ct 14 = some ordC := rfl
theorem L7_ct15 : L7.ct 15 = some ordC := rfl
theorem L7_ct16 : L7.ct 16 = some samIC := rfl
theorem L7_ok : EnvOk Try.prog L7 := by
  refine ⟨fun f c h => ?_, fun f vf h => ?_, (fun _ _ _ h => by cases h), by kernel_rfl⟩
  · simp only [L7] at h
    split at h
    · cases h; exact ⟨awake_ok, Try.f10, Try.func10, by kernel_rfl, by kernel_rfl⟩
    · cases h; exact ⟨ord_ok, Try.f14, Try.func14, by kernel_rfl, by kernel_rfl⟩
    · cases h; exact ⟨rord_ok, Try.f15, Try.func15, by kernel_rfl, by kernel_rfl⟩
    · cases h; exact ⟨samI_ok, Try.f16, Try.func16, by kernel_rfl, by kernel_rfl⟩
    · cases h
  · cases h

def lawO : List PSh := [⟨false, [.int .i64]⟩, ⟨false, [.int .i64]⟩]
theorem lawOrders : (lawC lawO).ok Try.prog 4 := by
  refine contract Try.func4 v4_is L7_ok 400 (lawC lawO) fun args k h => ?_
  obtain ⟨ha, hk⟩ := h
  obtain ⟨_, _, rfl, h1, e1⟩ := okPL_cons_inv ha
  obtain ⟨_, _, rfl, h2, e2⟩ := okPL_cons_inv e1
  cases okPL_nil_inv e2
  obtain ⟨n, rfl, hn⟩ := okP_one_inv h1
  obtain ⟨kd, rfl, hkd⟩ := okP_one_inv h2
  refine ⟨[.int .i64 n, .int .i64 kd], ⟨⟨rfl, rfl⟩, ⟨rfl, rfl⟩, trivial⟩, ?_⟩
  dsimp only [v4, L7_ct10, L7_ct14, L7_ct15, L7_ct16, trueC, ordC, samIC, samC, encI, go_sem, Option.bind, Option.map, List.append_nil, Nat.beq, List.cons_append, List.nil_append, List.append_eq, List.map_cons, List.map_nil, ite_self, reduceIte]
  simp only [true_and, and_true, imp_self, implies_true, decide_eq_true_eq, decide_eq_false_iff_not, Nat.reduceAdd, Nat.reduceLeDiff, Bool.not_not, reduceCtorEq, false_imp_iff, Bool.not_eq_true', Bool.not_eq_false', Bool.false_eq_true, and_self, forall_const, ne_eq, not_false_eq_true, Nat.reduceEqDiff]
  have hk' : k (.bool true) [] := hk
  obtain ⟨hnd, hlt0, hlen⟩ := ordR_ok n kd
  generalize (orderR n kd).1 = L at *
  refine fun z1 => ⟨by decide, by decide, fun z2 => ⟨by decide, by decide, L, L, ⟨lsP_self, lsP_self, by omega⟩, fun hx => ?_, fun _ => ⟨⟨by decide, by omega, by omega, by unfold capOk; omega⟩, ?_⟩⟩⟩
  · simp at hx
  · refine Loop.keep [5, 3] Nat (fun i => [(10, .int .i64 i)]) (fun i => [(0, .own false 1 L.length (fun k => [.bool (decide (k ∈ L.take i))]))]) [] (fun i => i ≤ L.length) (fun i => L.length - i) ?_ ?_
    · refine ⟨0, Nat.zero_le _, ?_⟩
      dsimp only [go_sem, Option.bind, Option.map, List.append_nil, Nat.beq, List.cons_append, List.nil_append, List.append_eq, List.map_cons, List.map_nil, ite_self, reduceIte]
      simp only [leS_mk, leL_cons, leL_nil, le_junk, le_int, le_bool, le_nil, leLL_nil, leLL_cons, leH_cons, leH_nil, leH1_box, leH1_own, leH1_gone, le_vs, le_agg, le_tup, le_ptr, le_own, le_xp, le_fn, le_opt, le_val, le_elem, le_nil_own, le_nil_vs, leH_ghost, leL_chunk, leXL_id, bnd_int, bnd_bool, bnd_val, bnd_nil, bnd_junk, bnd_vs, bnd_xp, bnd_agg, bnd_tup, bnd_ptr, bnd_own, bnd_elem, bnd_fn, bnd_iface, bnd_opt, bndL_nil, bndL_cons, lenH_cons, lenH_nil, imp_self, implies_true, true_and, and_true]
      exact ⟨⟨by omega, rfl⟩, Int.toNat_natCast _, fun q hq => by simp⟩
    · rintro i hi
      dsimp only [L7_ct10, trueC, Int.toNat_natCast, go_sem, Option.bind, Option.map, List.append_nil, Nat.beq, List.cons_append, List.nil_append, List.append_eq, List.map_cons, List.map_nil, ite_self, reduceIte]
      simp only [true_and, and_true, imp_self, implies_true, decide_eq_true_eq, decide_eq_false_iff_not, Nat.reduceAdd, Nat.reduceLeDiff, Bool.not_not, reduceCtorEq, false_imp_iff, Bool.not_eq_true', Bool.not_eq_false', Bool.false_eq_true, and_self, forall_const, ne_eq, not_false_eq_true, Nat.reduceEqDiff]
      refine ⟨fun hlt => ?_, fun hge => ?_⟩
      · have hlt' : i < L.length := by omega
        have hv := hlt0 _ (getD_mem hlt')
        have hnm := nodup_at hnd hlt'
        have hts := fun v => take_mem_succ (v := v) hlt'
        obtain ⟨v, hve⟩ : ∃ v, v = L.getD i default := ⟨_, rfl⟩
        rw [← hve] at hv hnm hts ⊢
        refine ⟨⟨by omega, hlt⟩, fun _ => ⟨by omega, hlt⟩, fun _ => ⟨by omega, hlt⟩, fun _ => ⟨by omega, by omega⟩, fun _ => hv, fun hx => ?_, fun _ => ?_⟩
        · rw [decide_eq_false hnm, decide_eq_false (show ¬ (v : Int) < 0 by omega), decide_eq_false (show ¬ (L.length : Int) ≤ v by omega)] at hx
          cases hx
        · refine ⟨⟨by omega, hlt⟩, ⟨by omega, by omega⟩, hv, i + 1, by omega, by omega, ?_⟩
          simp only [w_succ (i := i) (n := L.length) (by omega) (by omega), leS_mk, leL_cons, leL_nil, le_junk, le_int, le_bool, le_nil, leLL_nil, leLL_cons, leH_cons, leH_nil, leH1_box, leH1_own, leH1_gone, le_vs, le_agg, le_tup, le_ptr, le_own, le_xp, le_fn, le_opt, le_val, le_elem, le_nil_own, le_nil_vs, leH_ghost, leL_chunk, leXL_id, bnd_int, bnd_bool, bnd_val, bnd_nil, bnd_junk, bnd_vs, bnd_xp, bnd_agg, bnd_tup, bnd_ptr, bnd_own, bnd_elem, bnd_fn, bnd_iface, bnd_opt, bndL_nil, bndL_cons, lenH_cons, lenH_nil, imp_self, implies_true, true_and, and_true]
          refine ⟨by omega, fun q hq => ?_⟩
          by_cases hqv : q = v
          · subst hqv
            rw [if_pos rfl, decide_eq_true ((hts q).2 (.inr rfl))]
            exact leL_self [.bool _] ⟨trivial, trivial⟩
          · rw [if_neg hqv, show decide (q ∈ L.take (i + 1)) = decide (q ∈ L.take i) by rw [decide_eq_decide, hts]; simp [hqv]]
            exact leL_self [.bool _] ⟨trivial, trivial⟩
      · exact ans_bool hk'
end Go.Proofs.Ytojaibhjfeojjaa

/- Laws of layout, as they are given, without a condition: orders. -/
/- Laws of layout, as they are given, without a condition: orders. -/
set_option linter.all false
namespace Go.Proofs.Ytojaibhjfeojjaa
open Go Go.Vx Go.RowKit
set_option maxRecDepth 100000

theorem own12 : ownKnob Try.prog.godebug = none := by kernel_rfl
theorem laid12 : laidOutB Try.prog = true := by kernel_rfl

theorem layoutOrders_lifted (os : Os) (started : os.Started) (H : Type) (enc : TypeId × Value → H) :
    ReturnsInHanded {} Try.checked os 4 .any (Rows.layoutOrdersSpec.pre6 enc Try.prog Try.f4 Rows.layoutOrdersRow.domain false) (Rows.layoutOrdersSpec.post enc Try.prog Try.f4 false true false false) :=
  law_lifted (C := Try.checked) (tb := 4) own12 started (by kernel_rfl) Try.func4 laid12
    (ChangeSpec.witness6 (enc := enc) (C := Try.checked) false ⟨#[], #[.int .i64 0, .int .i64 0], []⟩ 8 (by kernel_rfl) (by kernel_rfl) (by kernel_rfl) (by kernel_rfl))
    (by kernel_rfl) (by kernel_rfl) (by kernel_rfl) (by kernel_rfl) rfl (fun ds h => match ds, h with | [_, _], _ => ⟨rfl, rfl, rfl⟩) lawOrders

theorem layoutOrders_holds : Rows.LayoutOrdersSaid :=
  OpenClaim.holds_of_wide 4 Try.f4 rfl rfl rfl rfl rfl rfl rfl ⟨rfl, rfl, rfl, rfl, rfl⟩ rfl rfl rfl rfl rfl (by kernel_rfl) Try.func4 (by kernel_rfl)
    (of_decide_eq_true (by kernel_rfl)) (by unfold Func.isWrapper; first | (rw [if_pos (by decide +kernel)]; kernel_rfl) | (rw [if_neg (by decide +kernel)]; exact ⟨rfl, rfl⟩))
    (fun os started H enc _ => layoutOrders_lifted os started H enc)

end Go.Proofs.Ytojaibhjfeojjaa

