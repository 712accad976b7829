/- Layouts, walked: within, deep; the law of growth. -/
import Derived.Test.YtojaibhjfeojjaaMgX10e
import Derived.Test.YtojaibhjfeojjaaRows
set_option linter.all false
namespace Go.Proofs.Ytojaibhjfeojjaa
open Go Go.Vx
set_option maxRecDepth 100000
set_option maxHeartbeats 4000000

def v18 : VF := { ntmps := 34, res := [.tmp 4], body :=
 (.seq (.region [⟨(some 4), none, .mov, [.cn (.bool false)]⟩])
 (.seq (.seq (.region [⟨(some 5), none, .mov, [.cn (.int .i64 0)]⟩])
 (.block 0 (.loop (.seq (.seq (.region [⟨(some 8), none, .mov, [.tm 5]⟩,
  ⟨(some 9), none, .mov, [.tm 0]⟩,
  ⟨(some 10), none, .len, [.tm 9]⟩,
  ⟨(some 11), none, (.cmp .lss), [.tm 8, .tm 10]⟩])
 (.cond (.tm 11) .skip
  (.exit 0)))
 (.seq (.block 1 (.seq (.region [⟨(some 6), none, .mov, [.cn (.bool false)]⟩])
 (.seq (.seq (.region [⟨(some 7), none, .mov, [.cn (.int .i64 0)]⟩])
 (.block 2 (.loop (.seq (.seq (.region [⟨(some 14), none, .mov, [.tm 7]⟩,
  ⟨(some 15), none, .mov, [.tm 1]⟩,
  ⟨(some 16), none, .len, [.tm 15]⟩,
  ⟨(some 17), none, (.cmp .lss), [.tm 14, .tm 16]⟩])
 (.cond (.tm 17) .skip
  (.exit 2)))
 (.seq (.block 3 (.draw [] [⟨⟨(some 20), none, .mov, [.tm 6]⟩, []⟩,
  ⟨⟨(some 21), none, .mov, [.tm 20]⟩, []⟩,
  ⟨⟨(some 22), (some (21, false)), .mov, [.tm 0]⟩, []⟩,
  ⟨⟨(some 23), (some (21, false)), .mov, [.tm 5]⟩, []⟩,
  ⟨⟨(some 24), (some (21, false)), (.idxAddr 1), [.tm 22, .tm 23]⟩, []⟩,
  ⟨⟨(some 25), (some (21, false)), (.load false 1), [.tm 24]⟩, []⟩,
  ⟨⟨(some 26), (some (21, false)), .mov, [.tm 1]⟩, []⟩,
  ⟨⟨(some 27), (some (21, false)), .mov, [.tm 7]⟩, []⟩,
  ⟨⟨(some 28), (some (21, false)), (.idxAddr 1), [.tm 26, .tm 27]⟩, []⟩,
  ⟨⟨(some 29), (some (21, false)), (.load false 1), [.tm 28]⟩, []⟩,
  ⟨⟨(some 30), (some (21, false)), (.cmp .eql), [.tm 25, .tm 29]⟩, []⟩,
  ⟨⟨(some 31), none, .or, [.tm 21, .tm 30]⟩, []⟩,
  ⟨⟨(some 6), none, .mov, [.tm 31]⟩, []⟩]))
 (.region [⟨(some 18), none, .mov, [.tm 7]⟩,
  ⟨(some 19), none, (.ari .add), [.tm 18, .cn (.int .i64 1)]⟩,
  ⟨(some 7), none, .mov, [.tm 19]⟩]))))))
 (.seq (.region [⟨(some 32), none, .mov, [.tm 6]⟩,
  ⟨(some 33), none, .not, [.tm 32]⟩])
 (.cond (.tm 33) (.seq (.region [⟨(some 4), none, .mov, [.cn (.bool false)]⟩])
 .ret)
  .skip)))))
 (.region [⟨(some 12), none, .mov, [.tm 5]⟩,
  ⟨(some 13), none, (.ari .add), [.tm 12, .cn (.int .i64 1)]⟩,
  ⟨(some 5), none, .mov, [.tm 13]⟩]))))))
 (.seq (.region [⟨(some 4), none, .mov, [.cn (.bool true)]⟩])
 .ret))) }
theorem v18_is : vfunc Try.prog Try.f18 = some v18 := by kernel_rfl
def v19 : VF := { ntmps := 25, res := [.tmp 2], body :=
 (.seq (.region [⟨(some 2), none, .mov, [.cn (.int .i64 0)]⟩])
 (.seq (.region [⟨(some 3), none, .mov, [.cn (.int .i64 0)]⟩])
 (.seq (.seq (.region [⟨(some 4), none, .mov, [.cn (.int .i64 0)]⟩])
 (.block 0 (.loop (.seq (.seq (.region [⟨(some 5), none, .mov, [.tm 4]⟩,
  ⟨(some 6), none, .mov, [.tm 0]⟩,
  ⟨(some 7), none, .len, [.tm 6]⟩,
  ⟨(some 8), none, (.cmp .lss), [.tm 5, .tm 7]⟩])
 (.cond (.tm 8) .skip
  (.exit 0)))
 (.seq (.block 1 (.draw [] [⟨⟨(some 11), none, .mov, [.tm 3]⟩, []⟩,
  ⟨⟨(some 12), none, .mov, [.tm 0]⟩, []⟩,
  ⟨⟨(some 13), none, .mov, [.tm 4]⟩, []⟩,
  ⟨⟨(some 14), none, (.idxAddr 4), [.tm 12, .tm 13]⟩, []⟩,
  ⟨⟨(some 15), none, (.fieldAddr 1), [.tm 14]⟩, []⟩,
  ⟨⟨(some 16), none, (.load false 1), [.tm 15]⟩, []⟩,
  ⟨⟨(some 17), none, .mov, [.tm 0]⟩, []⟩,
  ⟨⟨(some 18), none, .mov, [.tm 4]⟩, []⟩,
  ⟨⟨(some 19), none, (.idxAddr 4), [.tm 17, .tm 18]⟩, []⟩,
  ⟨⟨(some 20), none, (.fieldAddr 2), [.tm 19]⟩, []⟩,
  ⟨⟨(some 21), none, (.load false 1), [.tm 20]⟩, []⟩,
  ⟨⟨(some 22), none, (.ari .add), [.tm 16, .tm 21]⟩, []⟩,
  ⟨⟨(some 23), none, .max, [.tm 11, .tm 22]⟩, []⟩,
  ⟨⟨(some 3), none, .mov, [.tm 23]⟩, []⟩]))
 (.region [⟨(some 9), none, .mov, [.tm 4]⟩,
  ⟨(some 10), none, (.ari .add), [.tm 9, .cn (.int .i64 1)]⟩,
  ⟨(some 4), none, .mov, [.tm 10]⟩]))))))
 (.seq (.region [⟨(some 24), none, .mov, [.tm 3]⟩,
  ⟨(some 2), none, .mov, [.tm 24]⟩])
 .ret)))) }
theorem v19_is : vfunc Try.prog Try.f19 = some v19 := by kernel_rfl
def v5 : VF := { ntmps := 141, res := [.tmp 6], body :=
 (.seq (.region [⟨(some 3), none, .box, [.tm 0]⟩,
  ⟨(some 5), none, .box, [.tm 2]⟩,
  ⟨(some 6), none, .mov, [.cn (.bool false)]⟩])
 (.seq (.seq (.region [⟨(some 18), none, .mov, [.tm 1]⟩,
  ⟨(some 19), none, .len, [.tm 18]⟩,
  ⟨(some 20), none, (.cmp .lss), [.tm 19, .cn (.int .i64 2)]⟩,
  ⟨(some 21), none, .mov, [.tm 20]⟩,
  ⟨(some 22), (some (21, false)), .mov, [.tm 1]⟩,
  ⟨(some 23), (some (21, false)), .len, [.tm 22]⟩,
  ⟨(some 24), (some (21, false)), (.cmp .gtr), [.tm 23, .cn (.int .i64 40)]⟩,
  ⟨(some 25), none, .or, [.tm 21, .tm 24]⟩,
  ⟨(some 26), none, .mov, [.tm 25]⟩,
  ⟨(some 27), (some (26, false)), (.fieldAddr 5), [.tm 3]⟩,
  ⟨(some 28), (some (26, false)), (.load false 1), [.tm 27]⟩,
  ⟨(some 29), (some (26, false)), .len, [.tm 28]⟩,
  ⟨(some 30), (some (26, false)), (.cmp .gtr), [.tm 29, .cn (.int .i64 20)]⟩,
  ⟨(some 31), none, .or, [.tm 26, .tm 30]⟩])
 (.cond (.tm 31) (.seq (.region [⟨(some 32), none, (.call 10), []⟩,
  ⟨(some 6), none, .mov, [.tm 32]⟩])
 .ret)
  .skip))
 (.seq (.region [⟨(some 34), none, (.load true 6), [.tm 3]⟩,
  ⟨(some 35), none, .mov, [.tm 1]⟩,
  ⟨(some 36), none, (.call 17), [.tm 34, .tm 35, .cn (.int .i64 0)]⟩,
  ⟨(some 33), none, .mov, [.tm 36]⟩,
  ⟨(some 37), none, (.ext 0), [.tm 33]⟩,
  ⟨(some 38), none, (.ext 1), [.tm 33]⟩,
  ⟨(some 7), none, .mov, [.tm 37]⟩,
  ⟨(some 8), none, .mov, [.tm 38]⟩])
 (.seq (.seq (.region [⟨(some 39), none, .mov, [.tm 8]⟩,
  ⟨(some 40), none, (.cmp .neq), [.tm 39, .cn (.int .i64 0)]⟩])
 (.cond (.tm 40) (.seq (.region [⟨(some 41), none, .mov, [.tm 7]⟩,
  ⟨(some 42), none, .len, [.tm 41]⟩,
  ⟨(some 43), none, (.cmp .eql), [.tm 42, .cn (.int .i64 0)]⟩,
  ⟨(some 44), none, .mov, [.tm 43]⟩,
  ⟨(some 45), (some (44, true)), (.call 10), []⟩,
  ⟨(some 46), none, .and, [.tm 44, .tm 45]⟩,
  ⟨(some 6), none, .mov, [.tm 46]⟩])
 .ret)
  .skip))
 (.seq (.region [⟨(some 47), none, (.load true 6), [.tm 3]⟩,
  ⟨(some 9), none, (.alloc [(.int .i64 0), (.int .i64 0), (.int .i64 0), (.int .i64 0), (.int .i64 0), .nil]), []⟩,
  ⟨none, none, (.store 6), [.tm 9, .tm 47]⟩])
 (.seq (.region [⟨(some 48), none, (.fieldAddr 3), [.tm 3]⟩,
  ⟨(some 49), none, (.load false 1), [.tm 48]⟩,
  ⟨(some 50), none, (.idxArr 3 1), [.tm 5, .cn (.int .i64 0)]⟩,
  ⟨(some 51), none, (.load false 1), [.tm 50]⟩,
  ⟨(some 52), none, (.conv .i64), [.tm 51]⟩,
  ⟨(some 53), none, (.ari .add), [.tm 49, .tm 52]⟩,
  ⟨(some 54), none, .min, [.tm 53, .cn (.int .i64 10000000)]⟩,
  ⟨(some 55), none, (.fieldAddr 3), [.tm 9]⟩,
  ⟨none, none, (.store 1), [.tm 55, .tm 54]⟩])
 (.seq (.region [⟨(some 56), none, (.fieldAddr 4), [.tm 3]⟩,
  ⟨(some 57), none, (.load false 1), [.tm 56]⟩,
  ⟨(some 58), none, (.idxArr 3 1), [.tm 5, .cn (.int .i64 1)]⟩,
  ⟨(some 59), none, (.load false 1), [.tm 58]⟩,
  ⟨(some 60), none, (.conv .i64), [.tm 59]⟩,
  ⟨(some 61), none, (.ari .sub), [.tm 57, .tm 60]⟩,
  ⟨(some 62), none, .max, [.tm 61, .cn (.int .i64 0)]⟩,
  ⟨(some 63), none, (.fieldAddr 4), [.tm 9]⟩,
  ⟨none, none, (.store 1), [.tm 63, .tm 62]⟩])
 (.seq (.region [⟨(some 64), none, (.fieldAddr 0), [.tm 3]⟩,
  ⟨(some 65), none, (.load false 1), [.tm 64]⟩,
  ⟨(some 66), none, (.idxArr 3 1), [.tm 5, .cn (.int .i64 2)]⟩,
  ⟨(some 67), none, (.load false 1), [.tm 66]⟩,
  ⟨(some 68), none, (.conv .i64), [.tm 67]⟩,
  ⟨(some 69), none, (.ari .add), [.tm 65, .tm 68]⟩,
  ⟨(some 70), none, .min, [.tm 69, .cn (.int .i64 10000000)]⟩,
  ⟨(some 71), none, (.fieldAddr 0), [.tm 9]⟩,
  ⟨none, none, (.store 1), [.tm 71, .tm 70]⟩])
 (.seq (.draw [] [⟨⟨(some 73), none, (.load true 6), [.tm 9]⟩, []⟩,
  ⟨⟨(some 74), none, .mov, [.tm 1]⟩, []⟩,
  ⟨⟨(some 75), none, .mov, [.tm 1]⟩, []⟩,
  ⟨⟨(some 76), none, .len, [.tm 75]⟩, []⟩,
  ⟨⟨(some 77), none, (.ari .sub), [.tm 76, .cn (.int .i64 1)]⟩, []⟩,
  ⟨⟨(some 78), none, (.slice 4 false true), [.tm 74, .tm 77]⟩, []⟩,
  ⟨⟨(some 79), none, (.call 17), [.tm 73, .tm 78, .cn (.int .i64 0)]⟩, []⟩,
  ⟨⟨(some 72), none, .mov, [.tm 79]⟩, []⟩,
  ⟨⟨(some 80), none, (.ext 0), [.tm 72]⟩, []⟩,
  ⟨⟨(some 81), none, (.ext 1), [.tm 72]⟩, []⟩,
  ⟨⟨(some 10), none, .mov, [.tm 80]⟩, []⟩,
  ⟨⟨(some 11), none, .mov, [.tm 81]⟩, []⟩])
 (.seq (.seq (.region [⟨(some 82), none, .mov, [.tm 11]⟩,
  ⟨(some 83), none, (.cmp .neq), [.tm 82, .cn (.int .i64 0)]⟩,
  ⟨(some 84), none, .mov, [.tm 83]⟩,
  ⟨(some 85), (some (84, false)), .mov, [.tm 7]⟩,
  ⟨(some 86), (some (84, false)), .mov, [.tm 10]⟩,
  ⟨(some 87), (some (84, false)), (.call 18), [.tm 85, .tm 86]⟩,
  ⟨(some 88), (some (84, false)), .not, [.tm 87]⟩,
  ⟨(some 89), none, .or, [.tm 84, .tm 88]⟩])
 (.cond (.tm 89) (.seq (.region [⟨(some 6), none, .mov, [.cn (.bool false)]⟩])
 .ret)
  .skip))
 (.seq (.region [⟨(some 12), none, .mov, [.cn .nil]⟩])
 (.seq (.seq (.region [⟨(some 13), none, .mov, [.cn (.int .i64 0)]⟩])
 (.block 0 (.loop (.seq (.seq (.region [⟨(some 90), none, .mov, [.tm 13]⟩,
  ⟨(some 91), none, .mov, [.tm 1]⟩,
  ⟨(some 92), none, .len, [.tm 91]⟩,
  ⟨(some 93), none, (.cmp .lss), [.tm 90, .tm 92]⟩])
 (.cond (.tm 93) .skip
  (.exit 0)))
 (.seq (.block 1 (.draw [] [⟨⟨(some 96), none, .mov, [.tm 12]⟩, []⟩,
  ⟨⟨(some 97), none, .mov, [.tm 1]⟩, []⟩,
  ⟨⟨(some 98), none, .mov, [.tm 13]⟩, []⟩,
  ⟨⟨(some 99), none, (.idxAddr 4), [.tm 97, .tm 98]⟩, []⟩,
  ⟨⟨(some 100), none, (.fieldAddr 2), [.tm 99]⟩, []⟩,
  ⟨⟨(some 101), none, (.load false 1), [.tm 100]⟩, []⟩,
  ⟨⟨(some 102), none, .mov, [.tm 1]⟩, []⟩,
  ⟨⟨(some 103), none, .mov, [.tm 13]⟩, []⟩,
  ⟨⟨(some 104), none, (.idxAddr 4), [.tm 102, .tm 103]⟩, []⟩,
  ⟨⟨(some 105), none, (.fieldAddr 3), [.tm 104]⟩, []⟩,
  ⟨⟨(some 106), none, (.load false 1), [.tm 105]⟩, []⟩,
  ⟨⟨(some 107), none, (.build [(.int .i64 0), (.int .i64 0)] [(0, 1), (1, 1)]), [.tm 101, .tm 106]⟩, []⟩,
  ⟨⟨(some 108), none, (.buildSlice 2 1 [(.int .i64 0), (.int .i64 0)] [(0, 2)]), [.tm 107]⟩, []⟩,
  ⟨⟨(some 109), none, (.append 2 16 [(.int .i64 0), (.int .i64 0)]), [.tm 96, .tm 108]⟩, []⟩,
  ⟨⟨(some 12), none, .mov, [.tm 109]⟩, []⟩]))
 (.region [⟨(some 94), none, .mov, [.tm 13]⟩,
  ⟨(some 95), none, (.ari .add), [.tm 94, .cn (.int .i64 1)]⟩,
  ⟨(some 13), none, .mov, [.tm 95]⟩]))))))
 (.seq (.region [⟨(some 111), none, (.load true 6), [.tm 3]⟩,
  ⟨(some 112), none, .mov, [.tm 12]⟩,
  ⟨(some 113), none, (.call 11), [.tm 111, .tm 112]⟩,
  ⟨(some 110), none, .mov, [.tm 113]⟩,
  ⟨(some 114), none, (.ext 0), [.tm 110]⟩,
  ⟨(some 115), none, (.ext 1), [.tm 110]⟩,
  ⟨(some 14), none, .mov, [.tm 114]⟩,
  ⟨(some 15), none, .mov, [.tm 115]⟩])
 (.seq (.draw [] [⟨⟨(some 117), none, (.load true 6), [.tm 9]⟩, []⟩,
  ⟨⟨(some 118), none, .mov, [.tm 12]⟩, []⟩,
  ⟨⟨(some 119), none, .mov, [.tm 12]⟩, []⟩,
  ⟨⟨(some 120), none, .len, [.tm 119]⟩, []⟩,
  ⟨⟨(some 121), none, (.ari .sub), [.tm 120, .cn (.int .i64 1)]⟩, []⟩,
  ⟨⟨(some 122), none, (.slice 2 false true), [.tm 118, .tm 121]⟩, []⟩,
  ⟨⟨(some 123), none, (.call 11), [.tm 117, .tm 122]⟩, []⟩,
  ⟨⟨(some 116), none, .mov, [.tm 123]⟩, []⟩,
  ⟨⟨(some 124), none, (.ext 0), [.tm 116]⟩, []⟩,
  ⟨⟨(some 125), none, (.ext 1), [.tm 116]⟩, []⟩,
  ⟨⟨(some 16), none, .mov, [.tm 124]⟩, []⟩,
  ⟨⟨(some 17), none, .mov, [.tm 125]⟩, []⟩])
 (.seq (.seq (.region [⟨(some 126), none, .mov, [.tm 15]⟩,
  ⟨(some 127), none, (.cmp .neq), [.tm 126, .cn (.int .i64 0)]⟩])
 (.cond (.tm 127) (.seq (.region [⟨(some 128), none, (.call 10), []⟩,
  ⟨(some 6), none, .mov, [.tm 128]⟩])
 .ret)
  .skip))
 (.seq (.region [⟨(some 129), none, .mov, [.tm 17]⟩,
  ⟨(some 130), none, (.cmp .eql), [.tm 129, .cn (.int .i64 0)]⟩,
  ⟨(some 131), none, .mov, [.tm 130]⟩,
  ⟨(some 132), (some (131, true)), .mov, [.tm 16]⟩,
  ⟨(some 133), (some (131, true)), (.call 19), [.tm 132]⟩,
  ⟨(some 134), (some (131, true)), .mov, [.tm 14]⟩,
  ⟨(some 135), (some (131, true)), (.call 19), [.tm 134]⟩,
  ⟨(some 136), (some (131, true)), (.cmp .leq), [.tm 133, .tm 135]⟩,
  ⟨(some 137), none, .and, [.tm 131, .tm 136]⟩,
  ⟨(some 138), none, .mov, [.tm 137]⟩,
  ⟨(some 139), (some (138, true)), (.call 10), []⟩,
  ⟨(some 140), none, .and, [.tm 138, .tm 139]⟩,
  ⟨(some 6), none, .mov, [.tm 140]⟩])
 .ret)))))))))))))))) }
theorem v5_is : vfunc Try.prog Try.f5 = some v5 := by kernel_rfl


def wthF (a b : List Nat) : Bool := a.all fun x => (List.range b.length).any fun k => decide (x = b.getD k default)
def wthC : Ctr := { alias := false, of := fun l => match l with
  | [.vs _ _ n sz get, .vs _ _ n' sz' get'] => .ex (List Nat) fun a => .ex (List Nat) fun b => .pre (lsP 1 encI n sz get a ∧ lsP 1 encI n' sz' get' b ∧ a.length ≤ 1000000 ∧ b.length ≤ 1000000) (.fin (.bool (wthF a b)) [])
  | _ => noC }
def depC : Ctr := { alias := false, of := fun l => match l with
  | [.vs _ _ n sz get] => .ex (List Std) fun a => .pre (lsP 4 encS n sz get a ∧ a.length ≤ 1000000 ∧ ∀ p ∈ a, -1000000000000 ≤ p.y + p.r ∧ p.y + p.r ≤ 1000000000000) (.fin (.int .i64 (deepL 0 a)) [])
  | _ => noC }
def V0 : Env := { ct := fun _ => none, fn := fun _ => none, meth := fun _ _ => none }
theorem V0_ok : EnvOk Try.prog V0 := by
  refine ⟨fun f c h => ?_, fun f vf h => ?_, fun _ _ => rfl, by kernel_rfl⟩
  · cases h
  · cases h

theorem wth_ok : wthC.ok Try.prog 18 := by
  refine contract Try.func18 v18_is V0_ok 200 wthC fun args k h => ?_
  simp only [wthC] at h
  split at h
  · rename_i t z n sz get t' z' n' sz' get'
    obtain ⟨a, b, ⟨⟨rfl, rfl, hg⟩, ⟨rfl, rfl, hg'⟩, hal, hbl⟩, h⟩ := h
    refine ⟨[.vs t z a.length 1 (fun k => encI (a.getD k default)), .vs t' z' b.length 1 (fun k => encI (b.getD k default))], ⟨by simpa [le] using hg, by simpa [le] using hg', trivial⟩, ?_⟩
    have h : k (.bool (wthF a b)) [] := h
    dsimp only [v18, encI, go_sem, Option.bind, Option.map, List.append_nil, Nat.beq, List.cons_append, List.nil_append, List.append_eq, List.map_cons, List.map_nil, ite_self, reduceIte]
    simp only [true_and, and_true, imp_self, implies_true, decide_eq_true_eq, decide_eq_false_iff_not, Nat.reduceAdd, Nat.reduceLeDiff, Bool.not_not, reduceCtorEq, false_imp_iff, Bool.not_eq_true', Bool.not_eq_false', Bool.false_eq_true, and_self, forall_const, ne_eq, not_false_eq_true, Nat.reduceEqDiff]
    refine Loop.keep [0, 0] Nat (fun i => [(5, .int .i64 i)]) (fun _ => []) [] (fun i => i ≤ a.length ∧ ∀ j, j < i → ((List.range b.length).any fun k => decide (a.getD j default = b.getD k default)) = true) (fun i => a.length - i) ?_ ?_
    · refine ⟨0, ⟨Nat.zero_le _, fun j h => by omega⟩, ?_⟩
      dsimp only [go_sem, Option.bind, Option.map, List.append_nil, Nat.beq, List.cons_append, List.nil_append, List.append_eq, List.map_cons, List.map_nil, ite_self, reduceIte]
      simp only [leS_mk, leL_cons, leL_nil, le_junk, le_int, le_bool, le_nil, leLL_nil, leLL_cons, leH_cons, leH_nil, leH1_box, leH1_own, leH1_gone, le_vs, le_agg, le_tup, le_ptr, le_own, le_xp, le_fn, le_opt, le_val, le_elem, le_nil_own, le_nil_vs, leH_ghost, leL_chunk, leXL_id, bnd_int, bnd_bool, bnd_val, bnd_nil, bnd_junk, bnd_vs, bnd_xp, bnd_agg, bnd_tup, bnd_ptr, bnd_own, bnd_elem, bnd_fn, bnd_iface, bnd_opt, bndL_nil, bndL_cons, lenH_cons, lenH_nil, imp_self, implies_true, true_and, and_true]
      simp
    · rintro i ⟨hi, ha⟩
      dsimp only [Int.toNat_natCast, go_sem, Option.bind, Option.map, List.append_nil, Nat.beq, List.cons_append, List.nil_append, List.append_eq, List.map_cons, List.map_nil, ite_self, reduceIte]
      simp only [true_and, and_true, imp_self, implies_true, decide_eq_true_eq, decide_eq_false_iff_not, Nat.reduceAdd, Nat.reduceLeDiff, Bool.not_not, reduceCtorEq, false_imp_iff, Bool.not_eq_true', Bool.not_eq_false', Bool.false_eq_true, and_self, forall_const, ne_eq, not_false_eq_true, Nat.reduceEqDiff]
      refine ⟨fun hlt => ?_, fun hge => ?_⟩
      · refine Loop.keep [0, 0, 3] Nat (fun n => [(6, .bool ((List.range n).any fun k => decide (a.getD i default = b.getD k default))), (7, .int .i64 n)]) (fun _ => []) [] (fun n => n ≤ b.length) (fun n => b.length - n) ?_ ?_
        · refine ⟨0, Nat.zero_le _, ?_⟩
          dsimp only [go_sem, Option.bind, Option.map, List.append_nil, Nat.beq, List.cons_append, List.nil_append, List.append_eq, List.map_cons, List.map_nil, ite_self, reduceIte]
          simp only [leS_mk, leL_cons, leL_nil, le_junk, le_int, le_bool, le_nil, leLL_nil, leLL_cons, leH_cons, leH_nil, leH1_box, leH1_own, leH1_gone, le_vs, le_agg, le_tup, le_ptr, le_own, le_xp, le_fn, le_opt, le_val, le_elem, le_nil_own, le_nil_vs, leH_ghost, leL_chunk, leXL_id, bnd_int, bnd_bool, bnd_val, bnd_nil, bnd_junk, bnd_vs, bnd_xp, bnd_agg, bnd_tup, bnd_ptr, bnd_own, bnd_elem, bnd_fn, bnd_iface, bnd_opt, bndL_nil, bndL_cons, lenH_cons, lenH_nil, imp_self, implies_true, true_and, and_true]
          simp
        · rintro n hn
          dsimp only [encI, Int.toNat_natCast, go_sem, Option.bind, Option.map, List.append_nil, Nat.beq, List.cons_append, List.nil_append, List.append_eq, List.map_cons, List.map_nil, ite_self, reduceIte]
          simp only [true_and, and_true, imp_self, implies_true, decide_eq_true_eq, decide_eq_false_iff_not, Nat.reduceAdd, Nat.reduceLeDiff, Bool.not_not, reduceCtorEq, false_imp_iff, Bool.not_eq_true', Bool.not_eq_false', Bool.false_eq_true, and_self, forall_const, ne_eq, not_false_eq_true, Nat.reduceEqDiff]
          refine ⟨fun hln => ?_, fun hgn => ?_⟩
          · refine ⟨fun _ => ⟨by omega, hlt⟩, fun _ => ⟨by omega, hln⟩, n + 1, by omega, by omega, ?_⟩
            rw [any_range]
            simp only [w_succ (i := n) (n := b.length) (by omega) (by omega), Int.natCast_inj, leS_mk, leL_cons, leL_nil, le_junk, le_int, le_bool, le_nil, leLL_nil, leLL_cons, leH_cons, leH_nil, leH1_box, leH1_own, leH1_gone, le_vs, le_agg, le_tup, le_ptr, le_own, le_xp, le_fn, le_opt, le_val, le_elem, le_nil_own, le_nil_vs, leH_ghost, leL_chunk, leXL_id, bnd_int, bnd_bool, bnd_val, bnd_nil, bnd_junk, bnd_vs, bnd_xp, bnd_agg, bnd_tup, bnd_ptr, bnd_own, bnd_elem, bnd_fn, bnd_iface, bnd_opt, bndL_nil, bndL_cons, lenH_cons, lenH_nil, imp_self, implies_true, true_and, and_true] <;> simp
          · obtain rfl : n = b.length := by omega
            refine ⟨fun hf => ?_, fun ht => ⟨i + 1, ⟨by omega, fun j hj => ?_⟩, by omega, ?_⟩⟩
            · have e : wthF a b = false := by
                rw [wthF, List.all_eq_false]
                exact ⟨_, getD_mem (show i < a.length by omega), by rw [hf]; simp⟩
              rw [e] at h
              exact ans_bool h
            · rcases Nat.lt_or_ge j i with h' | h'
              · exact ha j h'
              · obtain rfl : j = i := by omega
                exact ht
            · simp only [w_succ (i := i) (n := a.length) (by omega) (by omega), leS_mk, leL_cons, leL_nil, le_junk, le_int, le_bool, le_nil, leLL_nil, leLL_cons, leH_cons, leH_nil, leH1_box, leH1_own, leH1_gone, le_vs, le_agg, le_tup, le_ptr, le_own, le_xp, le_fn, le_opt, le_val, le_elem, le_nil_own, le_nil_vs, leH_ghost, leL_chunk, leXL_id, bnd_int, bnd_bool, bnd_val, bnd_nil, bnd_junk, bnd_vs, bnd_xp, bnd_agg, bnd_tup, bnd_ptr, bnd_own, bnd_elem, bnd_fn, bnd_iface, bnd_opt, bndL_nil, bndL_cons, lenH_cons, lenH_nil, imp_self, implies_true, true_and, and_true] <;> simp
      · have e : wthF a b = true := List.all_eq_true.2 fun x hx => by
          obtain ⟨j, hj, rfl⟩ := mem_getD hx
          exact ha j (by omega)
        rw [e] at h
        exact ans_bool h
  · exact h.1.elim
theorem dep_ok : depC.ok Try.prog 19 := by
  refine contract Try.func19 v19_is V0_ok 200 depC fun args k h => ?_
  simp only [depC] at h
  split at h
  · rename_i t z n sz get
    obtain ⟨a, ⟨⟨rfl, rfl, hg⟩, hal, hr⟩, h⟩ := h
    refine ⟨[.vs t z a.length 4 (fun k => encS (a.getD k default))], ⟨by simpa [le] using hg, trivial⟩, ?_⟩
    have h : k (.int .i64 (deepL 0 a)) [] := h
    dsimp only [v19, encS, go_sem, Option.bind, Option.map, List.append_nil, Nat.beq, List.cons_append, List.nil_append, List.append_eq, List.map_cons, List.map_nil, ite_self, reduceIte]
    simp only [true_and, and_true, imp_self, implies_true, decide_eq_true_eq, decide_eq_false_iff_not, Nat.reduceAdd, Nat.reduceLeDiff, Bool.not_not, reduceCtorEq, false_imp_iff, Bool.not_eq_true', Bool.not_eq_false', Bool.false_eq_true, and_self, forall_const, ne_eq, not_false_eq_true, Nat.reduceEqDiff]
    refine Loop.keep [0] Nat (fun i => [(3, .int .i64 (deepL 0 (a.take i))), (4, .int .i64 i)]) (fun _ => []) [] (fun i => i ≤ a.length) (fun i => a.length - i) ?_ ?_
    · refine ⟨0, Nat.zero_le _, ?_⟩
      dsimp only [go_sem, Option.bind, Option.map, List.append_nil, Nat.beq, List.cons_append, List.nil_append, List.append_eq, List.map_cons, List.map_nil, ite_self, reduceIte]
      simp only [leS_mk, leL_cons, leL_nil, le_junk, le_int, le_bool, le_nil, leLL_nil, leLL_cons, leH_cons, leH_nil, leH1_box, leH1_own, leH1_gone, le_vs, le_agg, le_tup, le_ptr, le_own, le_xp, le_fn, le_opt, le_val, le_elem, le_nil_own, le_nil_vs, leH_ghost, leL_chunk, leXL_id, bnd_int, bnd_bool, bnd_val, bnd_nil, bnd_junk, bnd_vs, bnd_xp, bnd_agg, bnd_tup, bnd_ptr, bnd_own, bnd_elem, bnd_fn, bnd_iface, bnd_opt, bndL_nil, bndL_cons, lenH_cons, lenH_nil, imp_self, implies_true, true_and, and_true]
      simp [deepL]
    · rintro i hi
      dsimp only [Int.toNat_natCast, go_sem, Option.bind, Option.map, List.append_nil, Nat.beq, List.cons_append, List.nil_append, List.append_eq, List.map_cons, List.map_nil, ite_self, reduceIte]
      simp only [true_and, and_true, imp_self, implies_true, decide_eq_true_eq, decide_eq_false_iff_not, Nat.reduceAdd, Nat.reduceLeDiff, Bool.not_not, reduceCtorEq, false_imp_iff, Bool.not_eq_true', Bool.not_eq_false', Bool.false_eq_true, and_self, forall_const, ne_eq, not_false_eq_true, Nat.reduceEqDiff]
      refine ⟨fun hlt => ?_, fun hge => ?_⟩
      · obtain ⟨r1, r2⟩ := hr _ (getD_mem (show i < a.length by omega))
        have e : deepL 0 (a.take (i + 1)) = max (deepL 0 (a.take i)) ((a.getD i default).y + (a.getD i default).r) := by
          rw [List.take_add_one, deepL_app, List.getElem?_eq_getElem (by omega), List.getD_eq_getElem?_getD, List.getElem?_eq_getElem (by omega)]
          rfl
        refine ⟨⟨by omega, hlt⟩, ⟨by omega, hlt⟩, i + 1, by omega, by omega, ?_⟩
        rw [e, mid_w (x := (a.getD i default).y + (a.getD i default).r) (by omega)]
        simp only [w_succ (i := i) (n := a.length) (by omega) (by omega), leS_mk, leL_cons, leL_nil, le_junk, le_int, le_bool, le_nil, leLL_nil, leLL_cons, leH_cons, leH_nil, leH1_box, leH1_own, leH1_gone, le_vs, le_agg, le_tup, le_ptr, le_own, le_xp, le_fn, le_opt, le_val, le_elem, le_nil_own, le_nil_vs, leH_ghost, leL_chunk, leXL_id, bnd_int, bnd_bool, bnd_val, bnd_nil, bnd_junk, bnd_vs, bnd_xp, bnd_agg, bnd_tup, bnd_ptr, bnd_own, bnd_elem, bnd_fn, bnd_iface, bnd_opt, bndL_nil, bndL_cons, lenH_cons, lenH_nil, imp_self, implies_true, true_and, and_true] <;> simp
      · obtain rfl : i = a.length := by omega
        rw [List.take_of_length_le (Nat.le_refl _)]
        exact ans_int h
  · exact h.1.elim
def L4 : Env := { ct := fun n => match n with | 10 => some trueC | 17 => some reaC | 11 => some rowC | 18 => some wthC | 19 => some depC | _ => none, fn := fun _ => none, meth := fun _ _ => none }
theorem L4_ct10 : L4.ct 10 = some trueC := rfl
theorem L4_ct17 : L4.ct 17 = some reaC := rfl
theorem L4_ct11 : L4.ct 11 = some rowC := rfl
theorem L4_ct18 : L4.ct 18 = some wthC := rfl
theorem L4_ct19 : L4.ct 19 = some depC := rfl
theorem L4_ok : EnvOk Try.prog L4 := by
  refine ⟨fun f c h => ?_, fun f vf h => ?_, fun _ _ => rfl, by kernel_rfl⟩
  · simp only [L4] at h
    split at h
    · cases h; exact ⟨awake_ok, Try.f10, Try.func10, by kernel_rfl, by kernel_rfl⟩
    · cases h; exact ⟨rea_ok, Try.f17, Try.func17, by kernel_rfl, by kernel_rfl⟩
    · cases h; exact ⟨row_ok, Try.f11, Try.func11, by kernel_rfl, by kernel_rfl⟩
    · cases h; exact ⟨wth_ok, Try.f18, Try.func18, by kernel_rfl, by kernel_rfl⟩
    · cases h; exact ⟨dep_ok, Try.f19, Try.func19, by kernel_rfl, by kernel_rfl⟩
    · cases h
  · cases h

def lawG : List PSh := [⟨true, shB⟩, ⟨false, [.slice shS]⟩, ⟨true, [.int .u16, .int .u16, .int .u16]⟩]
theorem lawGrows : (lawC lawG).ok Try.prog 5 := by
  refine contract Try.func5 v5_is L4_ok 400 (lawC lawG) fun args k h => ?_
  obtain ⟨ha, hk⟩ := h
  obtain ⟨_, _, rfl, h1, e1⟩ := okPL_cons_inv ha
  obtain ⟨cs, rfl, hcs⟩ := okP_agg_inv h1
  obtain ⟨v, _, rfl, h2, e2⟩ := okPL_cons_inv e1
  obtain ⟨_, _, rfl, h3, e3⟩ := okPL_cons_inv e2
  obtain ⟨ds, rfl, hds⟩ := okP_agg_inv h3
  cases okPL_nil_inv e3
  obtain ⟨_, _, rfl, ⟨m0, rfl, w0⟩, f1⟩ := okSL_cons_inv hds
  obtain ⟨_, _, rfl, ⟨m1, rfl, w1⟩, f2⟩ := okSL_cons_inv f1
  obtain ⟨_, _, rfl, ⟨m2, rfl, w2⟩, f3⟩ := okSL_cons_inv f2
  cases okSL_nil_inv f3
  obtain ⟨z, b, hbl, hbe⟩ := b_of hcs
  obtain ⟨z', l, hll, hle⟩ := list_of (fun _ => s_of) (okP_one_inv h2)
  rw [maxLen_eq] at hbl hll
  simp only [Lit.wf, Bool.and_eq_true, decide_eq_true_eq] at w0 w1 w2
  have w0 : 0 ≤ m0 ∧ m0 ≤ 65535 := w0
  have w1 : 0 ≤ m1 ∧ m1 ≤ 65535 := w1
  have w2 : 0 ≤ m2 ∧ m2 ≤ 65535 := w2
  refine ⟨[.agg (encB false z b), .vs false z' l.length 4 (fun k => encS (l.getD k default)), .agg [.int .u16 m0, .int .u16 m1, .int .u16 m2]], ⟨leXL_le _ _ hbe (by simp [encB, bndL, bnd]), leX_le _ _ hle trivial, leXL_le _ _ (leXL_self _) (by simp [bndL, bnd]), trivial⟩, ?_⟩
  dsimp only [v5, L4_ct10, L4_ct17, L4_ct18, trueC, reaC, wthC, lsR, encB, encT, encS, encI, go_sem, Option.bind, Option.map, List.append_nil, Nat.beq, List.cons_append, List.nil_append, List.append_eq, List.map_cons, List.map_nil, ite_self, reduceIte]
  simp only [true_and, and_true, imp_self, implies_true, decide_eq_true_eq, decide_eq_false_iff_not, Nat.reduceAdd, Nat.reduceLeDiff, Bool.not_not, reduceCtorEq, false_imp_iff, Bool.not_eq_true', Bool.not_eq_false', Bool.false_eq_true, and_self, forall_const, ne_eq, not_false_eq_true, Nat.reduceEqDiff]
  have hk' : k (.bool true) [] := hk
  refine ⟨fun _ => ans_bool hk', fun hf => ?_⟩
  have hf : 2 ≤ l.length ∧ l.length ≤ 40 ∧ b.wk.length ≤ 20 := by
    simp only [Bool.or_eq_false_iff, decide_eq_false_iff_not] at hf
    omega
  obtain ⟨hl2, hl40, hw20⟩ := hf
  refine ⟨b, l, ⟨brdP_self b, lsP_self, by omega⟩, by decide, by decide, fun hc => ?_, fun hc => ?_⟩
  · have e : (reachR b l 0).1 = [] := by
      unfold reachR at hc ⊢
      split
      · rfl
      · rename_i hh
        rw [if_neg hh] at hc
        rw [if_neg (by omega)] at hc
        exact absurd rfl hc
    rw [e]
    exact ans_bool hk'
  · have hchk : chkF b l = 0 := by
      unfold reachR at hc
      split at hc
      · rename_i hh; exact absurd hc hh
      · rename_i hh; omega
    obtain ⟨hb, hl, hlen⟩ := chkF_ok hchk
    obtain ⟨gb, g1, g2, g3, g4⟩ := growB_ok (m0 := m0) (m1 := m1) (m2 := m2) hb w0.1 w1.1 w2.1
    have hb' := hb
    obtain ⟨⟨_, _⟩, ⟨_, _⟩, ⟨_, _⟩, ⟨_, _⟩, ⟨_, _⟩, h8, _⟩ := hb'
    have htl : (l.take (l.length - 1)).length = l.length - 1 := by rw [List.length_take]; omega
    have hl' : ∀ p ∈ l.take (l.length - 1), okP p := fun p hp => hl p (List.mem_of_mem_take hp)
    have hchk' := chk_intro gb hl' (by omega)
    have hget : ∀ k, k < l.length - 1 → (l.take (l.length - 1)).getD k default = l.getD k default := fun k hk => by
      rw [List.getD_eq_getElem?_getD, List.getElem?_take, if_pos hk, ← List.getD_eq_getElem?_getD]
    have r1 : reachR b l 0 = (reachL b l (l.getD 0 default), 0) := by
      rw [reachR, if_neg (by omega), if_neg (by omega)]; rfl
    have r2 : reachR (growB b m0 m1 m2) (l.take (l.length - 1)) 0 = (reachL (growB b m0 m1 m2) (l.take (l.length - 1)) (l.getD 0 default), 0) := by
      rw [reachR, if_neg (by omega), if_neg (by omega)]
      show (reachL _ _ ((l.take (l.length - 1)).getD 0 default), _) = _
      rw [hget 0 (by omega)]
    have ew : IntKind.i64.wrap ((l.length : Int) - 1) = ((l.length - 1 : Nat) : Int) := by rw [mid_w (by omega)]; omega
    rw [ew]
    simp only [Int.toNat_natCast]
    rw [mid_w (x := m0) (by omega), mid_w (x := m1) (by omega), mid_w (x := m2) (by omega), mid_w (x := b.w + m2) (by omega), mid_w (x := b.a + m0) (by omega), mid_w (x := b.s - m1) (by omega)]
    refine ⟨by omega, by omega, by omega, by omega, growB b m0 m1 m2, l.take (l.length - 1), ⟨⟨⟨rfl, rfl, rfl, rfl, rfl⟩, rfl, rfl, fun k _ => leXL_self _⟩, ⟨rfl, htl.symm, fun k hk => by rw [hget k hk]; exact leXL_self _⟩, by omega⟩, by decide, by decide, ?_⟩
    rw [r1, r2]
    have n1 : (reachL b l (l.getD 0 default)).length ≤ 1000000 := Nat.le_trans (part_le (fun k => reachF b l (b.wk.getD k default) (l.getD 0 default)) b.wk.length) (by omega)
    have n2 : (reachL (growB b m0 m1 m2) (l.take (l.length - 1)) (l.getD 0 default)).length ≤ 1000000 := Nat.le_trans (part_le (fun k => reachF (growB b m0 m1 m2) (l.take (l.length - 1)) ((growB b m0 m1 m2).wk.getD k default) (l.getD 0 default)) (growB b m0 m1 m2).wk.length) (by show b.wk.length ≤ _; omega)
    refine ⟨_, _, fun _ => ⟨⟨rfl, rfl, fun k _ => leXL_self _⟩, ⟨rfl, rfl, fun k _ => leXL_self _⟩, n1, n2⟩, ?_⟩
    have hwth : wthF (reachL b l (l.getD 0 default)) (reachL (growB b m0 m1 m2) (l.take (l.length - 1)) (l.getD 0 default)) = true := List.all_eq_true.2 fun x hx => by
      have hx2 := grow_reach (m0 := m0) (m1 := m1) (m2 := m2) hb hl w0.1 w1.1 w2.1 (getD_mem (show 0 < l.length by omega)) x hx
      obtain ⟨j, hj, rfl⟩ := mem_getD hx2
      exact List.any_eq_true.2 ⟨j, List.mem_range.2 hj, decide_eq_true rfl⟩
    rw [hwth]
    refine ⟨fun hh => absurd hh (by simp), fun _ => ?_⟩
    obtain ⟨ft, hft⟩ : ∃ ft : List Ft, ft = l.map (fun p => (p.r, p.h)) := ⟨_, rfl⟩
    have hftl : ft.length = l.length := by rw [hft, List.length_map]
    have hftg : ∀ k, k < l.length → ft.getD k default = ((l.getD k default).r, (l.getD k default).h) := fun k hk => by
      rw [hft, List.getD_eq_getElem?_getD, List.getElem?_map, List.getD_eq_getElem?_getD, List.getElem?_eq_getElem hk]; rfl
    refine Loop.keep [1, 1, 5] Nat (fun j => [(12, .own 3 0 j 2), (13, .int .i64 j)]) (fun j => [(3, .own (decide (j = 0)) 2 j (fun k => encT (ft.getD k default)))]) [.gone] (fun j => j ≤ l.length) (fun j => l.length - j) ?_ ?_
    · refine ⟨0, Nat.zero_le _, ?_⟩
      dsimp only [go_sem, Option.bind, Option.map, List.append_nil, Nat.beq, List.cons_append, List.nil_append, List.append_eq, List.map_cons, List.map_nil, ite_self, reduceIte]
      simp only [leS_mk, leL_cons, leL_nil, le_junk, le_int, le_bool, le_nil, leLL_nil, leLL_cons, leH_cons, leH_nil, leH1_box, leH1_own, leH1_gone, le_vs, le_agg, le_tup, le_ptr, le_own, le_xp, le_fn, le_opt, le_val, le_elem, le_nil_own, le_nil_vs, leH_ghost, leL_chunk, leXL_id, bnd_int, bnd_bool, bnd_val, bnd_nil, bnd_junk, bnd_vs, bnd_xp, bnd_agg, bnd_tup, bnd_ptr, bnd_own, bnd_elem, bnd_fn, bnd_iface, bnd_opt, bndL_nil, bndL_cons, lenH_cons, lenH_nil, imp_self, implies_true, true_and, and_true]
      simp
    · rintro j hj
      dsimp only [L4_ct10, L4_ct11, L4_ct19, trueC, rowC, depC, lsS, encB, encT, encS, encI, Int.toNat_natCast, go_sem, Option.bind, Option.map, List.append_nil, Nat.beq, List.cons_append, List.nil_append, List.append_eq, List.map_cons, List.map_nil, ite_self, reduceIte]
      simp only [true_and, and_true, imp_self, implies_true, decide_eq_true_eq, decide_eq_false_iff_not, Nat.reduceAdd, Nat.reduceLeDiff, Bool.not_not, reduceCtorEq, false_imp_iff, Bool.not_eq_true', Bool.not_eq_false', Bool.false_eq_true, and_self, forall_const, ne_eq, not_false_eq_true, Nat.reduceEqDiff]
      refine ⟨fun hlt => ?_, fun hge => ?_⟩
      · refine ⟨⟨by omega, hlt⟩, ⟨by omega, hlt⟩, by decide, ⟨by unfold capOk; omega, fun q hq => match q, hq with | 0, _ => ⟨rfl, trivial, trivial, trivial⟩⟩, j + 1, by omega, by omega, ?_⟩
        simp only [w_succ (i := j) (n := l.length) (by omega) (by omega), leS_mk, leL_cons, leL_nil, le_junk, le_int, le_bool, le_nil, leLL_nil, leLL_cons, leH_cons, leH_nil, leH1_box, leH1_own, leH1_gone, le_vs, le_agg, le_tup, le_ptr, le_own, le_xp, le_fn, le_opt, le_val, le_elem, le_nil_own, le_nil_vs, leH_ghost, leL_chunk, leXL_id, bnd_int, bnd_bool, bnd_val, bnd_nil, bnd_junk, bnd_vs, bnd_xp, bnd_agg, bnd_tup, bnd_ptr, bnd_own, bnd_elem, bnd_fn, bnd_iface, bnd_opt, bndL_nil, bndL_cons, lenH_cons, lenH_nil, imp_self, implies_true, true_and, and_true]
        refine ⟨by simp, by simp, fun q hq => ?_⟩
        rcases Nat.lt_or_ge q j with h' | h'
        · rw [if_pos h']; exact leL_self [.int _ _, .int _ _] ⟨trivial, trivial, trivial⟩
        · obtain rfl : q = j := by omega
          rw [if_neg (by omega), Nat.sub_self, hftg q (by omega)]
          exact leL_self [.int _ _, .int _ _] ⟨trivial, trivial, trivial⟩
      · obtain rfl : j = l.length := by omega
        rw [ew]
        simp only [Int.toNat_natCast]
        have hfl : (ft.take (l.length - 1)).length = l.length - 1 := by rw [List.length_take]; omega
        have hfg : ∀ k, k < l.length - 1 → (ft.take (l.length - 1)).getD k default = ft.getD k default := fun k hk => by
          rw [List.getD_eq_getElem?_getD, List.getElem?_take, if_pos hk, ← List.getD_eq_getElem?_getD]
        refine ⟨b, ft, ⟨brdP_self b, ⟨rfl, hftl.symm, fun k _ => leXL_self _⟩, by omega⟩, by decide, by decide, by omega, growB b m0 m1 m2, ft.take (l.length - 1), ⟨⟨⟨rfl, rfl, rfl, rfl, rfl⟩, rfl, rfl, fun k _ => leXL_self _⟩, ⟨rfl, hfl.symm, fun k hk => by rw [hfg k hk]; exact leXL_self _⟩, by omega⟩, by decide, by decide, fun _ => ans_bool hk', fun hr => ?_⟩
        obtain ⟨t1, t2⟩ := rows_rng hr
        obtain ⟨u1, u2⟩ := grow_rows (m0 := m0) (m1 := m1) (m2 := m2) w0.1 w1.1 w2.1 (by omega) hr
        rw [hftl] at u1 u2
        obtain ⟨v1, v2⟩ := rows_rng u1
        refine ⟨_, fun _ => ⟨⟨rfl, rfl, fun k _ => leXL_self _⟩, by omega, v2⟩, _, fun _ => ⟨⟨rfl, rfl, fun k _ => leXL_self _⟩, by omega, t2⟩, ?_⟩
        rw [u1, decide_eq_true rfl, decide_eq_true u2]
        exact ans_bool hk'
end Go.Proofs.Ytojaibhjfeojjaa

/- Laws of layout, as they are given, without a condition. -/
set_option linter.all false
namespace Go.Proofs.Ytojaibhjfeojjaa
open Go Go.Vx Go.RowKit
set_option maxRecDepth 100000

theorem own10 : ownKnob Try.prog.godebug = none := by kernel_rfl
theorem laid10 : laidOutB Try.prog = true := by kernel_rfl

theorem layoutGrows_lifted (os : Os) (started : os.Started) (H : Type) (enc : TypeId × Value → H) :
    ReturnsInHanded {} Try.checked os 5 .any (Rows.layoutGrowsSpec.pre6 enc Try.prog Try.f5 Rows.layoutGrowsRow.domain false) (Rows.layoutGrowsSpec.post enc Try.prog Try.f5 false true false false) :=
  law_lifted (C := Try.checked) (tb := 4) own10 started (by kernel_rfl) Try.func5 laid10
    (ChangeSpec.witness6 (enc := enc) (C := Try.checked) false ⟨#[], #[.agg #[.int .i64 0, .int .i64 0, .int .i64 0, .int .i64 0, .int .i64 0, .slice none 0 0], .slice none 0 0, .agg #[.int .u16 0, .int .u16 0, .int .u16 0]], []⟩ 8 (by kernel_rfl) (by kernel_rfl) (by kernel_rfl) (by kernel_rfl))
    (by kernel_rfl) (by kernel_rfl) (by kernel_rfl) (by kernel_rfl) rfl (fun ds h => match ds, h with | [_, _, _], _ => ⟨rfl, rfl, rfl⟩) lawGrows

theorem layoutGrows_holds : Rows.LayoutGrowsSaid :=
  OpenClaim.holds_of_wide 5 Try.f5 rfl rfl rfl rfl rfl rfl rfl ⟨rfl, rfl, rfl, rfl, rfl⟩ rfl rfl rfl rfl rfl (by kernel_rfl) Try.func5 (by kernel_rfl)
    (of_decide_eq_true (by kernel_rfl)) (by unfold Func.isWrapper; first | (rw [if_pos (by decide +kernel)]; kernel_rfl) | (rw [if_neg (by decide +kernel)]; exact ⟨rfl, rfl⟩))
    (fun os started H enc _ => layoutGrows_lifted os started H enc)

end Go.Proofs.Ytojaibhjfeojjaa

