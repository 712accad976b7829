/- Fractions, walked: QMul, QDiv, QCmp, QFloor. -/
import Derived.Test.YtdognchniaojoaaR4
set_option linter.all false
namespace Go.Proofs.Ytdognchniaojoaa
open Go Go.Vx
set_option maxRecDepth 100000
set_option maxHeartbeats 4000000

def v47 : VF := { ntmps := 33, res := [.cell 4 true 3, .tmp 5], body :=
 (.seq (.region [⟨(some 2), none, .box, [.tm 0]⟩,
  ⟨(some 3), none, .box, [.tm 1]⟩,
  ⟨(some 4), none, (.alloc [(.bool false), .nil, .nil]), []⟩,
  ⟨(some 5), none, .mov, [.cn (.int .i64 0)]⟩])
 (.seq (.region [⟨(some 7), none, (.load true 3), [.tm 2]⟩,
  ⟨(some 8), none, (.load true 3), [.tm 3]⟩,
  ⟨(some 9), none, (.buildSlice 3 2 [(.bool false), .nil, .nil] [(0, 3), (3, 3)]), [.tm 7, .tm 8]⟩,
  ⟨(some 10), none, (.call 69), [.tm 9]⟩,
  ⟨(some 6), none, .mov, [.tm 10]⟩])
 (.seq (.seq (.region [⟨(some 11), none, .mov, [.tm 6]⟩,
  ⟨(some 12), none, (.cmp .neq), [.tm 11, .cn (.int .i64 0)]⟩])
 (.cond (.tm 12) (.seq (.region [⟨(some 13), none, (.build [(.bool false), .nil, .nil] []), []⟩,
  ⟨(some 14), none, .mov, [.tm 6]⟩,
  ⟨none, none, (.store 3), [.tm 4, .tm 13]⟩,
  ⟨(some 5), none, .mov, [.tm 14]⟩])
 .ret)
  .skip))
 (.seq (.draw [] [⟨⟨(some 15), none, (.fieldAddr 0), [.tm 2]⟩, []⟩,
  ⟨⟨(some 16), none, (.load false 1), [.tm 15]⟩, []⟩,
  ⟨⟨(some 17), none, (.fieldAddr 0), [.tm 3]⟩, []⟩,
  ⟨⟨(some 18), none, (.load false 1), [.tm 17]⟩, []⟩,
  ⟨⟨(some 19), none, (.eqb true), [.tm 16, .tm 18]⟩, []⟩,
  ⟨⟨(some 20), none, (.fieldAddr 1), [.tm 2]⟩, []⟩,
  ⟨⟨(some 21), none, (.load false 1), [.tm 20]⟩, []⟩,
  ⟨⟨(some 22), none, (.fieldAddr 1), [.tm 3]⟩, []⟩,
  ⟨⟨(some 23), none, (.load false 1), [.tm 22]⟩, []⟩,
  ⟨⟨(some 25), none, (.fieldAddr 2), [.tm 2]⟩, []⟩,
  ⟨⟨(some 26), none, (.load false 1), [.tm 25]⟩, []⟩,
  ⟨⟨(some 27), none, (.fieldAddr 2), [.tm 3]⟩, []⟩,
  ⟨⟨(some 28), none, (.load false 1), [.tm 27]⟩, []⟩,
  ⟨⟨(some 24), none, (.call 71), [.tm 21, .tm 23]⟩, []⟩,
  ⟨⟨(some 29), none, (.call 71), [.tm 26, .tm 28]⟩, []⟩,
  ⟨⟨(some 30), none, (.call 70), [.tm 19, .tm 24, .tm 29]⟩, []⟩,
  ⟨⟨(some 31), none, (.ext 0), [.tm 30]⟩, []⟩,
  ⟨⟨(some 32), none, (.ext 1), [.tm 30]⟩, []⟩,
  ⟨⟨none, none, (.store 3), [.tm 4, .tm 31]⟩, []⟩,
  ⟨⟨(some 5), none, .mov, [.tm 32]⟩, []⟩])
 .ret)))) }
theorem v47_is : vfunc Try.prog Try.f47 = some v47 := by kernel_rfl
def v68 : VF := { ntmps := 41, res := [.cell 4 true 3, .tmp 5], body :=
 (.seq (.region [⟨(some 2), none, .box, [.tm 0]⟩,
  ⟨(some 3), none, .box, [.tm 1]⟩,
  ⟨(some 4), none, (.alloc [(.bool false), .nil, .nil]), []⟩,
  ⟨(some 5), none, .mov, [.cn (.int .i64 0)]⟩])
 (.seq (.region [⟨(some 7), none, (.load true 3), [.tm 2]⟩,
  ⟨(some 8), none, (.load true 3), [.tm 3]⟩,
  ⟨(some 9), none, (.buildSlice 3 2 [(.bool false), .nil, .nil] [(0, 3), (3, 3)]), [.tm 7, .tm 8]⟩,
  ⟨(some 10), none, (.call 69), [.tm 9]⟩,
  ⟨(some 6), none, .mov, [.tm 10]⟩])
 (.seq (.seq (.region [⟨(some 11), none, .mov, [.tm 6]⟩,
  ⟨(some 12), none, (.cmp .eql), [.tm 11, .cn (.int .i64 0)]⟩,
  ⟨(some 13), none, .mov, [.tm 12]⟩,
  ⟨(some 14), (some (13, true)), (.fieldAddr 1), [.tm 3]⟩,
  ⟨(some 15), (some (13, true)), (.load false 1), [.tm 14]⟩,
  ⟨(some 16), (some (13, true)), .len, [.tm 15]⟩,
  ⟨(some 17), (some (13, true)), (.cmp .eql), [.tm 16, .cn (.int .i64 0)]⟩,
  ⟨(some 18), none, .and, [.tm 13, .tm 17]⟩])
 (.cond (.tm 18) (.region [⟨(some 6), none, .mov, [.cn (.int .i64 4)]⟩])
  .skip))
 (.seq (.seq (.region [⟨(some 19), none, .mov, [.tm 6]⟩,
  ⟨(some 20), none, (.cmp .neq), [.tm 19, .cn (.int .i64 0)]⟩])
 (.cond (.tm 20) (.seq (.region [⟨(some 21), none, (.build [(.bool false), .nil, .nil] []), []⟩,
  ⟨(some 22), none, .mov, [.tm 6]⟩,
  ⟨none, none, (.store 3), [.tm 4, .tm 21]⟩,
  ⟨(some 5), none, .mov, [.tm 22]⟩])
 .ret)
  .skip))
 (.seq (.draw [] [⟨⟨(some 23), none, (.fieldAddr 0), [.tm 2]⟩, []⟩,
  ⟨⟨(some 24), none, (.load false 1), [.tm 23]⟩, []⟩,
  ⟨⟨(some 25), none, (.fieldAddr 0), [.tm 3]⟩, []⟩,
  ⟨⟨(some 26), none, (.load false 1), [.tm 25]⟩, []⟩,
  ⟨⟨(some 27), none, (.eqb true), [.tm 24, .tm 26]⟩, []⟩,
  ⟨⟨(some 28), none, (.fieldAddr 1), [.tm 2]⟩, []⟩,
  ⟨⟨(some 29), none, (.load false 1), [.tm 28]⟩, []⟩,
  ⟨⟨(some 30), none, (.fieldAddr 2), [.tm 3]⟩, []⟩,
  ⟨⟨(some 31), none, (.load false 1), [.tm 30]⟩, []⟩,
  ⟨⟨(some 33), none, (.fieldAddr 2), [.tm 2]⟩, []⟩,
  ⟨⟨(some 34), none, (.load false 1), [.tm 33]⟩, []⟩,
  ⟨⟨(some 35), none, (.fieldAddr 1), [.tm 3]⟩, []⟩,
  ⟨⟨(some 36), none, (.load false 1), [.tm 35]⟩, []⟩,
  ⟨⟨(some 32), none, (.call 71), [.tm 29, .tm 31]⟩, []⟩,
  ⟨⟨(some 37), none, (.call 71), [.tm 34, .tm 36]⟩, []⟩,
  ⟨⟨(some 38), none, (.call 70), [.tm 27, .tm 32, .tm 37]⟩, []⟩,
  ⟨⟨(some 39), none, (.ext 0), [.tm 38]⟩, []⟩,
  ⟨⟨(some 40), none, (.ext 1), [.tm 38]⟩, []⟩,
  ⟨⟨none, none, (.store 3), [.tm 4, .tm 39]⟩, []⟩,
  ⟨⟨(some 5), none, .mov, [.tm 40]⟩, []⟩])
 .ret))))) }
theorem v68_is : vfunc Try.prog Try.f68 = some v68 := by kernel_rfl
def v72 : VF := { ntmps := 39, res := [.tmp 4, .tmp 5], body :=
 (.seq (.region [⟨(some 2), none, .box, [.tm 0]⟩,
  ⟨(some 3), none, .box, [.tm 1]⟩,
  ⟨(some 4), none, .mov, [.cn (.int .i64 0)]⟩,
  ⟨(some 5), none, .mov, [.cn (.int .i64 0)]⟩])
 (.seq (.region [⟨(some 8), none, (.load true 3), [.tm 2]⟩,
  ⟨(some 9), none, (.load true 3), [.tm 3]⟩,
  ⟨(some 10), none, (.buildSlice 3 2 [(.bool false), .nil, .nil] [(0, 3), (3, 3)]), [.tm 8, .tm 9]⟩,
  ⟨(some 11), none, (.call 69), [.tm 10]⟩,
  ⟨(some 6), none, .mov, [.tm 11]⟩])
 (.seq (.seq (.region [⟨(some 12), none, .mov, [.tm 6]⟩,
  ⟨(some 13), none, (.cmp .neq), [.tm 12, .cn (.int .i64 0)]⟩])
 (.cond (.tm 13) (.seq (.region [⟨(some 14), none, .mov, [.tm 6]⟩,
  ⟨(some 4), none, .mov, [.cn (.int .i64 0)]⟩,
  ⟨(some 5), none, .mov, [.tm 14]⟩])
 .ret)
  .skip))
 (.seq (.draw [] [⟨⟨(some 15), none, (.fieldAddr 1), [.tm 2]⟩, []⟩,
  ⟨⟨(some 16), none, (.load false 1), [.tm 15]⟩, []⟩,
  ⟨⟨(some 17), none, (.fieldAddr 2), [.tm 3]⟩, []⟩,
  ⟨⟨(some 18), none, (.load false 1), [.tm 17]⟩, []⟩,
  ⟨⟨(some 20), none, (.fieldAddr 1), [.tm 3]⟩, []⟩,
  ⟨⟨(some 21), none, (.load false 1), [.tm 20]⟩, []⟩,
  ⟨⟨(some 22), none, (.fieldAddr 2), [.tm 2]⟩, []⟩,
  ⟨⟨(some 23), none, (.load false 1), [.tm 22]⟩, []⟩,
  ⟨⟨(some 19), none, (.call 71), [.tm 16, .tm 18]⟩, []⟩,
  ⟨⟨(some 24), none, (.call 71), [.tm 21, .tm 23]⟩, []⟩,
  ⟨⟨(some 25), none, (.call 58), [.tm 19, .tm 24]⟩, []⟩,
  ⟨⟨(some 7), none, .mov, [.tm 25]⟩, []⟩])
 (.seq (.seq (.region [⟨(some 26), none, (.fieldAddr 0), [.tm 2]⟩,
  ⟨(some 27), none, (.load false 1), [.tm 26]⟩,
  ⟨(some 28), none, .mov, [.tm 27]⟩,
  ⟨(some 29), (some (28, true)), (.fieldAddr 0), [.tm 3]⟩,
  ⟨(some 30), (some (28, true)), (.load false 1), [.tm 29]⟩,
  ⟨(some 31), none, .and, [.tm 28, .tm 30]⟩])
 (.cond (.tm 31) (.seq (.region [⟨(some 32), none, .mov, [.tm 7]⟩,
  ⟨(some 33), none, .neg, [.tm 32]⟩,
  ⟨(some 4), none, .mov, [.tm 33]⟩,
  ⟨(some 5), none, .mov, [.cn (.int .i64 0)]⟩])
 .ret)
  .skip))
 (.seq (.seq (.region [⟨(some 34), none, (.fieldAddr 0), [.tm 2]⟩,
  ⟨(some 35), none, (.load false 1), [.tm 34]⟩])
 (.cond (.tm 35) (.seq (.region [⟨(some 4), none, .mov, [.cn (.int .i64 (-1))]⟩,
  ⟨(some 5), none, .mov, [.cn (.int .i64 0)]⟩])
 .ret)
  .skip))
 (.seq (.seq (.region [⟨(some 36), none, (.fieldAddr 0), [.tm 3]⟩,
  ⟨(some 37), none, (.load false 1), [.tm 36]⟩])
 (.cond (.tm 37) (.seq (.region [⟨(some 4), none, .mov, [.cn (.int .i64 1)]⟩,
  ⟨(some 5), none, .mov, [.cn (.int .i64 0)]⟩])
 .ret)
  .skip))
 (.seq (.region [⟨(some 38), none, .mov, [.tm 7]⟩,
  ⟨(some 4), none, .mov, [.tm 38]⟩,
  ⟨(some 5), none, .mov, [.cn (.int .i64 0)]⟩])
 .ret)))))))) }
theorem v72_is : vfunc Try.prog Try.f72 = some v72 := by kernel_rfl
def v88 : VF := { ntmps := 35, res := [.tmp 2, .tmp 3, .tmp 4], body :=
 (.seq (.region [⟨(some 1), none, .box, [.tm 0]⟩,
  ⟨(some 2), none, .mov, [.cn (.bool false)]⟩,
  ⟨(some 3), none, .mov, [.cn .nil]⟩,
  ⟨(some 4), none, .mov, [.cn (.int .i64 0)]⟩])
 (.seq (.region [⟨(some 8), none, (.load true 3), [.tm 1]⟩,
  ⟨(some 9), none, (.buildSlice 3 1 [(.bool false), .nil, .nil] [(0, 3)]), [.tm 8]⟩,
  ⟨(some 10), none, (.call 69), [.tm 9]⟩,
  ⟨(some 5), none, .mov, [.tm 10]⟩])
 (.seq (.seq (.region [⟨(some 11), none, .mov, [.tm 5]⟩,
  ⟨(some 12), none, (.cmp .neq), [.tm 11, .cn (.int .i64 0)]⟩])
 (.cond (.tm 12) (.seq (.region [⟨(some 13), none, .mov, [.tm 5]⟩,
  ⟨(some 2), none, .mov, [.cn (.bool false)]⟩,
  ⟨(some 3), none, .mov, [.cn .nil]⟩,
  ⟨(some 4), none, .mov, [.tm 13]⟩])
 .ret)
  .skip))
 (.seq (.region [⟨(some 15), none, (.fieldAddr 1), [.tm 1]⟩,
  ⟨(some 16), none, (.load false 1), [.tm 15]⟩,
  ⟨(some 17), none, (.fieldAddr 2), [.tm 1]⟩,
  ⟨(some 18), none, (.load false 1), [.tm 17]⟩,
  ⟨(some 19), none, (.call 87), [.tm 16, .tm 18]⟩,
  ⟨(some 14), none, .mov, [.tm 19]⟩,
  ⟨(some 20), none, (.ext 0), [.tm 14]⟩,
  ⟨(some 21), none, (.ext 1), [.tm 14]⟩,
  ⟨(some 6), none, .mov, [.tm 20]⟩,
  ⟨(some 7), none, .mov, [.tm 21]⟩])
 (.seq (.seq (.region [⟨(some 22), none, (.fieldAddr 0), [.tm 1]⟩,
  ⟨(some 23), none, (.load false 1), [.tm 22]⟩,
  ⟨(some 24), none, .mov, [.tm 23]⟩,
  ⟨(some 25), (some (24, true)), .mov, [.tm 7]⟩,
  ⟨(some 26), (some (24, true)), .len, [.tm 25]⟩,
  ⟨(some 27), (some (24, true)), (.cmp .gtr), [.tm 26, .cn (.int .i64 0)]⟩,
  ⟨(some 28), none, .and, [.tm 24, .tm 27]⟩])
 (.cond (.tm 28) (.region [⟨(some 29), none, .mov, [.tm 6]⟩,
  ⟨(some 30), none, (.call 55), [.cn (.int .u64 1)]⟩,
  ⟨(some 31), none, (.call 79), [.tm 29, .tm 30]⟩,
  ⟨(some 6), none, .mov, [.tm 31]⟩])
  .skip))
 (.seq (.region [⟨(some 32), none, (.fieldAddr 0), [.tm 1]⟩,
  ⟨(some 33), none, (.load false 1), [.tm 32]⟩,
  ⟨(some 34), none, .mov, [.tm 6]⟩,
  ⟨(some 2), none, .mov, [.tm 33]⟩,
  ⟨(some 3), none, .mov, [.tm 34]⟩,
  ⟨(some 4), none, .mov, [.cn (.int .i64 0)]⟩])
 .ret)))))) }
theorem v88_is : vfunc Try.prog Try.f88 = some v88 := by kernel_rfl


theorem nl_mul {a b : Nat} : nl (a * b) ≤ nl a + nl b := by
  rw [nl_le, Nat.pow_add]
  exact Nat.mul_lt_mul'' (nl_lt a) (nl_lt b)
theorem encF_eq {t : Bool} {p q : Fr} (h : rnum p.1 p.2 = rnum q.1 q.2 ∧ rden p.1 p.2 = rden q.1 q.2 ∧ decide (p.1 < 0) = decide (q.1 < 0)) : encF t p = encF t q := by
  unfold encF; rw [h.1, h.2.1, h.2.2]
theorem frOk_eq {p q : Fr} (h : rnum p.1 p.2 = rnum q.1 q.2 ∧ rden p.1 p.2 = rden q.1 q.2 ∧ decide (p.1 < 0) = decide (q.1 < 0)) (hq : frOk q) (hd : 0 < p.2) : frOk p :=
  ⟨hd, by rw [h.1]; exact hq.2.1, by rw [h.2.1]; exact hq.2.2⟩
theorem list2 {p q : Fr} (hp : frOk p) (hq : frOk q) : ∀ x ∈ [p, q], frOk x := by
  intro x hx
  simp only [List.mem_cons, List.not_mem_nil, or_false] at hx
  rcases hx with rfl | rfl
  · exact hp
  · exact hq
theorem list1 {p : Fr} (hp : frOk p) : ∀ x ∈ [p], frOk x := by
  intro x hx
  simp only [List.mem_cons, List.not_mem_nil, or_false] at hx
  rcases hx with rfl
  exact hp
theorem fr_le {p : Fr} {neg t1 z1 t2 z2 : Bool} {n1 s1 n2 s2 : Nat} {g1 g2 : Nat → List SV} (h : fracP p neg z1 n1 s1 g1 z2 n2 s2 g2) : le 0 0 (.agg [.bool neg, .vs t1 z1 n1 s1 g1, .vs t2 z2 n2 s2 g2]) (.agg (encF false p)) := by
  obtain ⟨_, h1, h2, h3, h4, h5, h6, h7, h8, h9⟩ := h
  simp only [encF, natV, le_agg, leL_cons, leL_nil, le_bool, le_vs]
  exact ⟨h1, ⟨fun h => (by cases h), h2, h6, h4, h8⟩, ⟨fun h => (by cases h), h3, h7, h5, h9⟩, trivial⟩
theorem ans_fr {k : SV → List HO → Prop} {al : Bool} {hp : List HO} {p : Fr} (h : k (.tup [.agg (encF true p), .int .i64 0]) []) : answers al k (.tup [.agg (encF true p), .int .i64 0]) hp :=
  ans_le (show k _ [] from h) (le_self (.tup [.agg (encF true p), .int .i64 0]) ⟨⟨trivial, trivial, trivial, trivial⟩, trivial, trivial⟩) (fun _ => by simp [encF, natV, freshS, freshL])

theorem ans_ii {k : SV → List HO → Prop} {al : Bool} {hp : List HO} {κ κ' : IntKind} {x y : Int} (h : k (.tup [.int κ x, .int κ' y]) []) : answers al k (.tup [.int κ x, .int κ' y]) hp :=
  ans_le (show k _ [] from h) (le_self (.tup [.int κ x, .int κ' y]) ⟨trivial, trivial, trivial⟩) (fun _ => by simp [freshS, freshL])
theorem ordN_rng (a b : Nat) : -1 ≤ ordN a b ∧ ordN a b ≤ 1 := by unfold ordN; split <;> (try split) <;> omega

def qmulC : Ctr := { alias := false, of := fun l => match l with
  | [.agg [.bool neg, .vs _ z1 n1 s1 g1, .vs _ z2 n2 s2 g2], .agg [.bool neg', .vs _ z1' n1' s1' g1', .vs _ z2' n2' s2' g2']] => .ex Fr fun p => .ex Fr fun q =>
      .pre (fracP p neg z1 n1 s1 g1 z2 n2 s2 g2 ∧ fracP q neg' z1' n1' s1' g1' z2' n2' s2' g2' ∧ frOk (p.1 * q.1, p.2 * q.2)) (.fin (.tup [.agg (encF true (p.1 * q.1, p.2 * q.2)), .int .i64 0]) [])
  | _ => noC }
def divF (p q : Fr) : Fr := (nsg (decide (q.1 < 0)) 1 * p.1 * q.2, p.2 * q.1.natAbs)
def qdivC : Ctr := { alias := false, of := fun l => match l with
  | [.agg [.bool neg, .vs _ z1 n1 s1 g1, .vs _ z2 n2 s2 g2], .agg [.bool neg', .vs _ z1' n1' s1' g1', .vs _ z2' n2' s2' g2']] => .ex Fr fun p => .ex Fr fun q =>
      .pre (fracP p neg z1 n1 s1 g1 z2 n2 s2 g2 ∧ fracP q neg' z1' n1' s1' g1' z2' n2' s2' g2' ∧ q.1 ≠ 0 ∧ frOk (divF p q)) (.fin (.tup [.agg (encF true (divF p q)), .int .i64 0]) [])
  | _ => noC }
def qcmpC : Ctr := { alias := false, of := fun l => match l with
  | [.agg [.bool neg, .vs _ z1 n1 s1 g1, .vs _ z2 n2 s2 g2], .agg [.bool neg', .vs _ z1' n1' s1' g1', .vs _ z2' n2' s2' g2']] => .ex Fr fun p => .ex Fr fun q =>
      .pre (fracP p neg z1 n1 s1 g1 z2 n2 s2 g2 ∧ fracP q neg' z1' n1' s1' g1' z2' n2' s2' g2') (.fin (.tup [.int .i64 (cmpQ p.1 p.2 q.1 q.2), .int .i64 0]) [])
  | _ => noC }
def qfloorC : Ctr := { alias := false, of := fun l => match l with
  | [.agg [.bool neg, .vs _ z1 n1 s1 g1, .vs _ z2 n2 s2 g2]] => .ex Fr fun p =>
      .pre (fracP p neg z1 n1 s1 g1 z2 n2 s2 g2) (.fin (.tup [.bool (decide (p.1 < 0)), natS false (p.1 / (p.2 : Int)).natAbs, .int .i64 0]) [])
  | _ => noC }

def R6 : Env := { ct := fun n => match n with | 69 => some badqC | 70 => some lowestC | 71 => some timesC | 58 => some orderC | 55 => some ofC | 87 => some divideC | 79 => some plusC | _ => none, fn := fun _ => none, meth := fun _ _ => none }
theorem R6_ct69 : R6.ct 69 = some badqC := rfl
theorem R6_ct70 : R6.ct 70 = some lowestC := rfl
theorem R6_ct71 : R6.ct 71 = some timesC := rfl
theorem R6_ct58 : R6.ct 58 = some orderC := rfl
theorem R6_ct55 : R6.ct 55 = some ofC := rfl
theorem R6_ct87 : R6.ct 87 = some divideC := rfl
theorem R6_ct79 : R6.ct 79 = some plusC := rfl
theorem R6_ok : EnvOk Try.prog R6 := by
  refine ⟨fun f c h => ?_, fun f vf h => ?_, fun _ _ => rfl, by kernel_rfl⟩
  · simp only [R6] at h
    split at h
    · cases h; exact ⟨badq_ok, Try.f69, Try.func69, by kernel_rfl, by kernel_rfl⟩
    · cases h; exact ⟨lowest_ok, Try.f70, Try.func70, by kernel_rfl, by kernel_rfl⟩
    · cases h; exact ⟨times_ok, Try.f71, Try.func71, by kernel_rfl, by kernel_rfl⟩
    · cases h; exact ⟨order_ok, Try.f58, Try.func58, by kernel_rfl, by kernel_rfl⟩
    · cases h; exact ⟨of_ok, Try.f55, Try.func55, by kernel_rfl, by kernel_rfl⟩
    · cases h; exact ⟨divide_ok, Try.f87, Try.func87, by kernel_rfl, by kernel_rfl⟩
    · cases h; exact ⟨plus_ok, Try.f79, Try.func79, by kernel_rfl, by kernel_rfl⟩
    · cases h
  · cases h


theorem qmul_ok : qmulC.ok Try.prog 47 := by
  refine contract Try.func47 v47_is R6_ok 300 qmulC fun args k h => ?_
  simp only [qmulC] at h
  split at h
  · rename_i neg t1 z1 n1 s1 g1 t2 z2 n2 s2 g2 neg' t1' z1' n1' s1' g1' t2' z2' n2' s2' g2'
    obtain ⟨p, q, ⟨hpp, hqq, hpq⟩, h⟩ := h
    refine ⟨[.agg (encF false p), .agg (encF false q)], ⟨fr_le hpp, fr_le hqq, trivial⟩, ?_⟩
    have hp := hpp.1
    have hq := hqq.1
    clear hpp hqq
    dsimp only [v47, R6_ct69, R6_ct70, R6_ct71, badqC, lowestC, timesC, natS, natV, encF, r_end, r_end1, r_nil, r_op, r_opg, r_runOp, r_op0, r_yld0, r_yld1, r_y, r_rbeg, r_rend, r_rend1, r_rfrm, r_rfrm1, r_range, r_rangeK, r_rangeE, r_draw, r_dnil, r_dop, r_dopg, r_dplq, r_dplh, r_dq, r_dq0, r_dcl1, r_dcl0, r_dct1, r_dct0, r_dgd, r_dgq1, r_dgq0, r_dctG, r_op1, r_eff, r_eff0, r_call, r_call0, r_inl, r_g, r_gq, r_gc, r_effg, r_effg0, r_callg, r_callg0, r_fin, r_pre, r_imp, r_all, r_ex, r_fing, r_preg, r_exg, r_inBlock, r_inLoop, r_frame, r_frame1, r_skip, r_stuck, r_region, r_seq, r_cond, r_cond1, r_block, r_exit, r_exit1, r_exit2, r_ret, r_loop, s_args0, s_args1, s_xt, s_xc, padL, blankL, callee, callArgs, eff, ctOf, getL, setL, S.put, S.upd, unopts, unopt, unoptsO, unoptsB, lazyO, guardOf, gbool, eMov, eNot, eNeg, eConv, eExt, eLenArr, eLen, eLenStr, eEqb, eEqv, allEq, eNil, negIf, eBool2, eCmp, eAri, ari, eBit, eDiv, eSh, eMinMax, foldMin, foldMax, kEq, pure1, cmpB, VO.quiet, resVals, resVal, tupled, popRet, popTo, cond, Option.bind, Option.map, eNew, eBox, asCells, lenH, snocH, eFieldAddr, eField, eLoad, cellsAt, getH, setH, dropL, takeL, mkAgg, lenL, lenS, shift, shiftL, shiftH, viewN, viewL, view, andT, junks, List.append_nil, Nat.beq, eIdxAddr, eIdxArr, idxN_0, idxN_1, idxN_2, idxN_3, eIndex, eStore, storeAt, spliceL, ones, one, eSlice, eSliceArr, bounds, subLo_z, addLo_z, subLo_one, addLo_one, eMake, eAppend, readS, repL, buildCells, chunk, purgeL, purgeLL, purgeH, purge, refs, refsL, List.cons_append, List.nil_append, wrOps, wrAl, wrDops, wrC, junkAt, putAll, putHs, headOf, headK, keepG, List.append_eq, headX, chkP, apartP, apartB, blk, strip, runAl, AL.ho, yld, putPs, lenN, findR, notRound, jumpK, jumpPT, jcode, List.map_cons, List.map_nil, ite_self, reduceIte]
    simp only [true_and, and_true, imp_self, implies_true, decide_eq_true_eq, decide_eq_false_iff_not, Nat.reduceAdd, Nat.reduceLeDiff, Bool.not_not, reduceCtorEq, false_imp_iff, Bool.not_eq_true', Bool.not_eq_false', Bool.false_eq_true, and_self, forall_const, ne_eq, not_false_eq_true, Nat.reduceEqDiff, decide_true, decide_false, Bool.and_true, Bool.true_and, Bool.and_false, Bool.false_and, Bool.not_true, Bool.not_false, Bool.or_false, Bool.false_or, Bool.or_true, Bool.true_or, Bool.and_self, Bool.or_self, Bool.false_eq_true, Bool.true_eq_false, false_imp_iff, forall_const, true_and, and_true, implies_true, reduceCtorEq, not_true_eq_false, not_false_eq_true, ite_true, ite_false]
    have ⟨hp0, hp1, hp2⟩ := hp
    have ⟨hq0, hq1, hq2⟩ := hq
    have m1 := @nl_mul (rnum p.1 p.2) (rnum q.1 q.2)
    have m2 := @nl_mul (rden p.1 p.2) (rden q.1 q.2)
    have hz := q_mul hp0 hq0 (n1 := p.1) (n2 := q.1) rfl
    have hdp : 0 < rden p.1 p.2 * rden q.1 q.2 := Nat.mul_pos (rden_pos hp0) (rden_pos hq0)
    have hM : frOk (nsg (!(decide (p.1 < 0) == decide (q.1 < 0))) (rnum p.1 p.2 * rnum q.1 q.2), rden p.1 p.2 * rden q.1 q.2) := frOk_eq (q := (p.1 * q.1, p.2 * q.2)) hz hpq hdp
    refine ⟨by decide, [p, q], ⟨⟨rfl, rfl, fun k hk => match k, hk with | 0, _ => leXL_self _ | 1, _ => leXL_self _⟩, by simp, list2 hp hq⟩, rnum p.1 p.2, rnum q.1 q.2, ⟨padP_nl (by omega), padP_nl (by omega), by omega⟩, rden p.1 p.2, rden q.1 q.2, ⟨padP_nl (by omega), padP_nl (by omega), by omega⟩,
      rnum p.1 p.2 * rnum q.1 q.2, rden p.1 p.2 * rden q.1 q.2, ⟨padP_nl (by omega), rfl, padP_nl (by omega), rfl, hdp, by omega, by omega, hM⟩, by decide, by decide, ?_⟩
    have e := encF_eq (t := true) (p := (nsg (!(decide (p.1 < 0) == decide (q.1 < 0))) (rnum p.1 p.2 * rnum q.1 q.2), rden p.1 p.2 * rden q.1 q.2)) (q := (p.1 * q.1, p.2 * q.2)) hz
    have h : k (.tup [.agg (encF true (p.1 * q.1, p.2 * q.2)), .int .i64 0]) [] := h
    rw [← e] at h
    exact ans_fr h
  · exact h.1.elim

theorem qdiv_ok : qdivC.ok Try.prog 68 := by
  refine contract Try.func68 v68_is R6_ok 300 qdivC fun args k h => ?_
  simp only [qdivC] at h
  split at h
  · rename_i neg t1 z1 n1 s1 g1 t2 z2 n2 s2 g2 neg' t1' z1' n1' s1' g1' t2' z2' n2' s2' g2'
    obtain ⟨p, q, ⟨hpp, hqq, hn0, hpq⟩, h⟩ := h
    refine ⟨[.agg (encF false p), .agg (encF false q)], ⟨fr_le hpp, fr_le hqq, trivial⟩, ?_⟩
    have hp := hpp.1
    have hq := hqq.1
    clear hpp hqq
    dsimp only [v68, R6_ct69, R6_ct70, R6_ct71, badqC, lowestC, timesC, natS, natV, encF, r_end, r_end1, r_nil, r_op, r_opg, r_runOp, r_op0, r_yld0, r_yld1, r_y, r_rbeg, r_rend, r_rend1, r_rfrm, r_rfrm1, r_range, r_rangeK, r_rangeE, r_draw, r_dnil, r_dop, r_dopg, r_dplq, r_dplh, r_dq, r_dq0, r_dcl1, r_dcl0, r_dct1, r_dct0, r_dgd, r_dgq1, r_dgq0, r_dctG, r_op1, r_eff, r_eff0, r_call, r_call0, r_inl, r_g, r_gq, r_gc, r_effg, r_effg0, r_callg, r_callg0, r_fin, r_pre, r_imp, r_all, r_ex, r_fing, r_preg, r_exg, r_inBlock, r_inLoop, r_frame, r_frame1, r_skip, r_stuck, r_region, r_seq, r_cond, r_cond1, r_block, r_exit, r_exit1, r_exit2, r_ret, r_loop, s_args0, s_args1, s_xt, s_xc, padL, blankL, callee, callArgs, eff, ctOf, getL, setL, S.put, S.upd, unopts, unopt, unoptsO, unoptsB, lazyO, guardOf, gbool, eMov, eNot, eNeg, eConv, eExt, eLenArr, eLen, eLenStr, eEqb, eEqv, allEq, eNil, negIf, eBool2, eCmp, eAri, ari, eBit, eDiv, eSh, eMinMax, foldMin, foldMax, kEq, pure1, cmpB, VO.quiet, resVals, resVal, tupled, popRet, popTo, cond, Option.bind, Option.map, eNew, eBox, asCells, lenH, snocH, eFieldAddr, eField, eLoad, cellsAt, getH, setH, dropL, takeL, mkAgg, lenL, lenS, shift, shiftL, shiftH, viewN, viewL, view, andT, junks, List.append_nil, Nat.beq, eIdxAddr, eIdxArr, idxN_0, idxN_1, idxN_2, idxN_3, eIndex, eStore, storeAt, spliceL, ones, one, eSlice, eSliceArr, bounds, subLo_z, addLo_z, subLo_one, addLo_one, eMake, eAppend, readS, repL, buildCells, chunk, purgeL, purgeLL, purgeH, purge, refs, refsL, List.cons_append, List.nil_append, wrOps, wrAl, wrDops, wrC, junkAt, putAll, putHs, headOf, headK, keepG, List.append_eq, headX, chkP, apartP, apartB, blk, strip, runAl, AL.ho, yld, putPs, lenN, findR, notRound, jumpK, jumpPT, jcode, List.map_cons, List.map_nil, ite_self, reduceIte]
    simp only [true_and, and_true, imp_self, implies_true, decide_eq_true_eq, decide_eq_false_iff_not, Nat.reduceAdd, Nat.reduceLeDiff, Bool.not_not, reduceCtorEq, false_imp_iff, Bool.not_eq_true', Bool.not_eq_false', Bool.false_eq_true, and_self, forall_const, ne_eq, not_false_eq_true, Nat.reduceEqDiff, decide_true, decide_false, Bool.and_true, Bool.true_and, Bool.and_false, Bool.false_and, Bool.not_true, Bool.not_false, Bool.or_false, Bool.false_or, Bool.or_true, Bool.true_or, Bool.and_self, Bool.or_self, Bool.false_eq_true, Bool.true_eq_false, false_imp_iff, forall_const, true_and, and_true, implies_true, reduceCtorEq, not_true_eq_false, not_false_eq_true, ite_true, ite_false]
    have ⟨hp0, hp1, hp2⟩ := hp
    have ⟨hq0, hq1, hq2⟩ := hq
    have m1 := @nl_mul (rnum p.1 p.2) (rden q.1 q.2)
    have m2 := @nl_mul (rden p.1 p.2) (rnum q.1 q.2)
    have hz := q_div hp0 hq0 hn0 (n1 := p.1) (n2 := q.1) rfl
    have hrn : 0 < rnum q.1 q.2 := Nat.pos_of_ne_zero fun hh => hn0 ((rnum_0 hq0).1 hh)
    have hdp : 0 < rden p.1 p.2 * rnum q.1 q.2 := Nat.mul_pos (rden_pos hp0) hrn
    have hrl := nl_pos.2 hrn
    refine ⟨by decide, [p, q], ⟨⟨rfl, rfl, fun k hk => match k, hk with | 0, _ => leXL_self _ | 1, _ => leXL_self _⟩, by simp, list2 hp hq⟩, ?_⟩
    have hM : frOk (nsg (!(decide (p.1 < 0) == decide (q.1 < 0))) (rnum p.1 p.2 * rden q.1 q.2), rden p.1 p.2 * rnum q.1 q.2) := frOk_eq (q := divF p q) hz hpq hdp
    refine ⟨fun hh => by omega, fun _ => ⟨rnum p.1 p.2, rden q.1 q.2, ⟨padP_nl (by omega), padP_nl (by omega), by omega⟩, rden p.1 p.2, rnum q.1 q.2, ⟨padP_nl (by omega), padP_nl (by omega), by omega⟩,
      rnum p.1 p.2 * rden q.1 q.2, rden p.1 p.2 * rnum q.1 q.2, ⟨padP_nl (by omega), rfl, padP_nl (by omega), rfl, hdp, by omega, by omega, hM⟩, by decide, by decide, ?_⟩⟩
    have e := encF_eq (t := true) (p := (nsg (!(decide (p.1 < 0) == decide (q.1 < 0))) (rnum p.1 p.2 * rden q.1 q.2), rden p.1 p.2 * rnum q.1 q.2)) (q := divF p q) hz
    have h : k (.tup [.agg (encF true (divF p q)), .int .i64 0]) [] := h
    rw [← e] at h
    exact ans_fr h
  · exact h.1.elim

theorem qcmp_ok : qcmpC.ok Try.prog 72 := by
  refine contract Try.func72 v72_is R6_ok 300 qcmpC fun args k h => ?_
  simp only [qcmpC] at h
  split at h
  · rename_i neg t1 z1 n1 s1 g1 t2 z2 n2 s2 g2 neg' t1' z1' n1' s1' g1' t2' z2' n2' s2' g2'
    obtain ⟨p, q, ⟨hpp, hqq⟩, h⟩ := h
    refine ⟨[.agg (encF false p), .agg (encF false q)], ⟨fr_le hpp, fr_le hqq, trivial⟩, ?_⟩
    have hp := hpp.1
    have hq := hqq.1
    clear hpp hqq
    dsimp only [v72, R6_ct69, R6_ct58, R6_ct71, badqC, orderC, timesC, natS, natV, encF, r_end, r_end1, r_nil, r_op, r_opg, r_runOp, r_op0, r_yld0, r_yld1, r_y, r_rbeg, r_rend, r_rend1, r_rfrm, r_rfrm1, r_range, r_rangeK, r_rangeE, r_draw, r_dnil, r_dop, r_dopg, r_dplq, r_dplh, r_dq, r_dq0, r_dcl1, r_dcl0, r_dct1, r_dct0, r_dgd, r_dgq1, r_dgq0, r_dctG, r_op1, r_eff, r_eff0, r_call, r_call0, r_inl, r_g, r_gq, r_gc, r_effg, r_effg0, r_callg, r_callg0, r_fin, r_pre, r_imp, r_all, r_ex, r_fing, r_preg, r_exg, r_inBlock, r_inLoop, r_frame, r_frame1, r_skip, r_stuck, r_region, r_seq, r_cond, r_cond1, r_block, r_exit, r_exit1, r_exit2, r_ret, r_loop, s_args0, s_args1, s_xt, s_xc, padL, blankL, callee, callArgs, eff, ctOf, getL, setL, S.put, S.upd, unopts, unopt, unoptsO, unoptsB, lazyO, guardOf, gbool, eMov, eNot, eNeg, eConv, eExt, eLenArr, eLen, eLenStr, eEqb, eEqv, allEq, eNil, negIf, eBool2, eCmp, eAri, ari, eBit, eDiv, eSh, eMinMax, foldMin, foldMax, kEq, pure1, cmpB, VO.quiet, resVals, resVal, tupled, popRet, popTo, cond, Option.bind, Option.map, eNew, eBox, asCells, lenH, snocH, eFieldAddr, eField, eLoad, cellsAt, getH, setH, dropL, takeL, mkAgg, lenL, lenS, shift, shiftL, shiftH, viewN, viewL, view, andT, junks, List.append_nil, Nat.beq, eIdxAddr, eIdxArr, idxN_0, idxN_1, idxN_2, idxN_3, eIndex, eStore, storeAt, spliceL, ones, one, eSlice, eSliceArr, bounds, subLo_z, addLo_z, subLo_one, addLo_one, eMake, eAppend, readS, repL, buildCells, chunk, purgeL, purgeLL, purgeH, purge, refs, refsL, List.cons_append, List.nil_append, wrOps, wrAl, wrDops, wrC, junkAt, putAll, putHs, headOf, headK, keepG, List.append_eq, headX, chkP, apartP, apartB, blk, strip, runAl, AL.ho, yld, putPs, lenN, findR, notRound, jumpK, jumpPT, jcode, List.map_cons, List.map_nil, ite_self, reduceIte]
    simp only [true_and, and_true, imp_self, implies_true, decide_eq_true_eq, decide_eq_false_iff_not, Nat.reduceAdd, Nat.reduceLeDiff, Bool.not_not, reduceCtorEq, false_imp_iff, Bool.not_eq_true', Bool.not_eq_false', Bool.false_eq_true, and_self, forall_const, ne_eq, not_false_eq_true, Nat.reduceEqDiff, decide_true, decide_false, Bool.and_true, Bool.true_and, Bool.and_false, Bool.false_and, Bool.not_true, Bool.not_false, Bool.or_false, Bool.false_or, Bool.or_true, Bool.true_or, Bool.and_self, Bool.or_self, Bool.false_eq_true, Bool.true_eq_false, false_imp_iff, forall_const, true_and, and_true, implies_true, reduceCtorEq, not_true_eq_false, not_false_eq_true, ite_true, ite_false]
    have ⟨hp0, hp1, hp2⟩ := hp
    have ⟨hq0, hq1, hq2⟩ := hq
    have m1 := @nl_mul (rnum p.1 p.2) (rden q.1 q.2)
    have m2 := @nl_mul (rnum q.1 q.2) (rden p.1 p.2)
    refine ⟨by decide, [p, q], ⟨⟨rfl, rfl, fun k hk => match k, hk with | 0, _ => leXL_self _ | 1, _ => leXL_self _⟩, by simp, list2 hp hq⟩, rnum p.1 p.2, rden q.1 q.2, ⟨padP_nl (by omega), padP_nl (by omega), by omega⟩, rnum q.1 q.2, rden p.1 p.2, ⟨padP_nl (by omega), padP_nl (by omega), by omega⟩, rnum p.1 p.2 * rden q.1 q.2, rnum q.1 q.2 * rden p.1 p.2, ⟨padP_nl (by omega), padP_nl (by omega)⟩, ?_⟩
    have e := q_cmp hp0 hq0 (n1 := p.1) (n2 := q.1)
    have h : k (.tup [.int .i64 (cmpQ p.1 p.2 q.1 q.2), .int .i64 0]) [] := h
    rw [e] at h
    have ho := ordN_rng (rnum p.1 p.2 * rden q.1 q.2) (rnum q.1 q.2 * rden p.1 p.2)
    refine ⟨fun hc => ?_, fun hc => ⟨fun hd => ?_, fun hd => ⟨fun he => ?_, fun he => ?_⟩⟩⟩
    · rw [Bool.and_eq_true, decide_eq_true_eq, decide_eq_true_eq] at hc
      rw [if_pos hc] at h
      rw [IntWalk.i64_in _ (by omega), Int.zero_sub]
      exact ans_ii h
    · rw [Bool.and_eq_false_iff, decide_eq_false_iff_not, decide_eq_false_iff_not] at hc
      rw [if_neg (by omega), if_pos hd] at h
      exact ans_ii h
    · rw [if_neg (by omega), if_neg hd, if_pos he] at h
      exact ans_ii h
    · rw [if_neg (by omega), if_neg hd, if_neg he] at h
      exact ans_ii h
  · exact h.1.elim

theorem qfloor_ok : qfloorC.ok Try.prog 88 := by
  refine contract Try.func88 v88_is R6_ok 300 qfloorC fun args k h => ?_
  simp only [qfloorC] at h
  split at h
  · rename_i neg t1 z1 n1 s1 g1 t2 z2 n2 s2 g2
    obtain ⟨p, hpp, h⟩ := h
    refine ⟨[.agg (encF false p)], ⟨fr_le hpp, trivial⟩, ?_⟩
    have hp := hpp.1
    clear hpp
    dsimp only [v88, R6_ct69, R6_ct87, R6_ct79, R6_ct55, badqC, divideC, plusC, ofC, natS, natV, encF, r_end, r_end1, r_nil, r_op, r_opg, r_runOp, r_op0, r_yld0, r_yld1, r_y, r_rbeg, r_rend, r_rend1, r_rfrm, r_rfrm1, r_range, r_rangeK, r_rangeE, r_draw, r_dnil, r_dop, r_dopg, r_dplq, r_dplh, r_dq, r_dq0, r_dcl1, r_dcl0, r_dct1, r_dct0, r_dgd, r_dgq1, r_dgq0, r_dctG, r_op1, r_eff, r_eff0, r_call, r_call0, r_inl, r_g, r_gq, r_gc, r_effg, r_effg0, r_callg, r_callg0, r_fin, r_pre, r_imp, r_all, r_ex, r_fing, r_preg, r_exg, r_inBlock, r_inLoop, r_frame, r_frame1, r_skip, r_stuck, r_region, r_seq, r_cond, r_cond1, r_block, r_exit, r_exit1, r_exit2, r_ret, r_loop, s_args0, s_args1, s_xt, s_xc, padL, blankL, callee, callArgs, eff, ctOf, getL, setL, S.put, S.upd, unopts, unopt, unoptsO, unoptsB, lazyO, guardOf, gbool, eMov, eNot, eNeg, eConv, eExt, eLenArr, eLen, eLenStr, eEqb, eEqv, allEq, eNil, negIf, eBool2, eCmp, eAri, ari, eBit, eDiv, eSh, eMinMax, foldMin, foldMax, kEq, pure1, cmpB, VO.quiet, resVals, resVal, tupled, popRet, popTo, cond, Option.bind, Option.map, eNew, eBox, asCells, lenH, snocH, eFieldAddr, eField, eLoad, cellsAt, getH, setH, dropL, takeL, mkAgg, lenL, lenS, shift, shiftL, shiftH, viewN, viewL, view, andT, junks, List.append_nil, Nat.beq, eIdxAddr, eIdxArr, idxN_0, idxN_1, idxN_2, idxN_3, eIndex, eStore, storeAt, spliceL, ones, one, eSlice, eSliceArr, bounds, subLo_z, addLo_z, subLo_one, addLo_one, eMake, eAppend, readS, repL, buildCells, chunk, purgeL, purgeLL, purgeH, purge, refs, refsL, List.cons_append, List.nil_append, wrOps, wrAl, wrDops, wrC, junkAt, putAll, putHs, headOf, headK, keepG, List.append_eq, headX, chkP, apartP, apartB, blk, strip, runAl, AL.ho, yld, putPs, lenN, findR, notRound, jumpK, jumpPT, jcode, List.map_cons, List.map_nil, ite_self, reduceIte]
    simp only [true_and, and_true, imp_self, implies_true, decide_eq_true_eq, decide_eq_false_iff_not, Nat.reduceAdd, Nat.reduceLeDiff, Bool.not_not, reduceCtorEq, false_imp_iff, Bool.not_eq_true', Bool.not_eq_false', Bool.false_eq_true, and_self, forall_const, ne_eq, not_false_eq_true, Nat.reduceEqDiff, decide_true, decide_false, Bool.and_true, Bool.true_and, Bool.and_false, Bool.false_and, Bool.not_true, Bool.not_false, Bool.or_false, Bool.false_or, Bool.or_true, Bool.true_or, Bool.and_self, Bool.or_self, Bool.false_eq_true, Bool.true_eq_false, false_imp_iff, forall_const, true_and, and_true, implies_true, reduceCtorEq, not_true_eq_false, not_false_eq_true, ite_true, ite_false]
    have ⟨hp0, hp1, hp2⟩ := hp
    refine ⟨by decide, [p], ⟨⟨rfl, rfl, fun k hk => match k, hk with | 0, _ => leXL_self _⟩, by simp, list1 hp⟩, rnum p.1 p.2, rden p.1 p.2, ⟨padP_nl (by omega), rfl, padP_nl (by omega), rden_pos hp0, by omega, by omega⟩, ?_⟩
    have hdl := rden_pos (n := p.1) hp0
    have e := congrArg Int.natAbs (q_floor (n := p.1) hp0)
    rw [nsg_abs] at e
    have h : k (.tup [.bool (decide (p.1 < 0)), natS false (p.1 / (p.2 : Int)).natAbs, .int .i64 0]) [] := h
    rw [e] at h
    have hdv : nl (rnum p.1 p.2 / rden p.1 p.2) ≤ 512 := Nat.le_trans (nl_mono (Nat.div_le_self _ _)) hp1
    have hb : decide (0 < (nl (rnum p.1 p.2 % rden p.1 p.2) : Int)) = decide (rnum p.1 p.2 % rden p.1 p.2 ≠ 0) := by
      congr 1
      have := nl_eq0 (a := rnum p.1 p.2 % rden p.1 p.2)
      exact propext (by omega)
    rw [hb]
    have hfin : ∀ x : Nat, k (.tup [.bool (decide (p.1 < 0)), natS false x, .int .i64 0]) [] → ∀ hp, answers qfloorC.alias k (.tup [.bool (decide (p.1 < 0)), .vs true false (nl x) 1 (fun k => [.int .u32 (dig x k)]), .int .i64 0]) hp := fun x hk hp =>
      ans_le (show k _ [] from hk) (le_self (.tup [.bool (decide (p.1 < 0)), natS false x, .int .i64 0]) ⟨trivial, trivial, trivial, trivial⟩) (fun _ => by simp [natS, freshS, freshL])
    refine ⟨by decide, by decide, fun hc => ⟨by decide, rnum p.1 p.2 / rden p.1 p.2, 1, ⟨padP_nl (by omega), padP_nl (by decide), by omega, by decide⟩, hfin _ ?_ _⟩, fun hc => hfin _ ?_ _⟩
    · rw [floorN, if_pos hc] at h; exact h
    · rw [floorN, if_neg (by rw [hc]; simp)] at h; exact h
  · exact h.1.elim
end Go.Proofs.Ytdognchniaojoaa
