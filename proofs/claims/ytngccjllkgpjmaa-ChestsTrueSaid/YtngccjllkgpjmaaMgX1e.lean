/- Chests, walked: the program's exported functions. -/
import Derived.Test.YtngccjllkgpjmaaMgX1d
import Derived.Test.YtngccjllkgpjmaaMgX1c
import Derived.Test.YtngccjllkgpjmaaRows
/- Chests, walked: the program's exported functions. -/
set_option linter.all false
namespace Go.Proofs.Ytngccjllkgpjmaa
open Go Go.Vx
set_option maxRecDepth 100000
set_option maxHeartbeats 4000000

def v12 : VF := { ntmps := 13, res := [.cell 2 true 2, .tmp 3], body :=
 (.seq (.region [⟨(some 1), none, .box, [.tm 0]⟩,
  ⟨(some 2), none, (.alloc [(.int .i64 0), (.int .i64 0)]), []⟩,
  ⟨(some 3), none, .mov, [.cn (.int .i64 0)]⟩])
 (.seq (.seq (.region [⟨(some 5), none, (.load true 1), [.tm 1]⟩,
  ⟨(some 6), none, (.call 23), [.tm 5]⟩,
  ⟨(some 4), none, .mov, [.tm 6]⟩])
 (.seq (.region [⟨(some 7), none, .mov, [.tm 4]⟩,
  ⟨(some 8), none, (.cmp .neq), [.tm 7, .cn (.int .i64 0)]⟩])
 (.cond (.tm 8) (.seq (.region [⟨(some 9), none, (.build [(.int .i64 0), (.int .i64 0)] []), []⟩,
  ⟨(some 10), none, .mov, [.tm 4]⟩,
  ⟨none, none, (.store 2), [.tm 2, .tm 9]⟩,
  ⟨(some 3), none, .mov, [.tm 10]⟩])
 .ret)
  .skip)))
 (.seq (.region [⟨(some 11), none, (.load true 1), [.tm 1]⟩,
  ⟨(some 12), none, (.call 29), [.tm 11]⟩,
  ⟨none, none, (.store 2), [.tm 2, .tm 12]⟩,
  ⟨(some 3), none, .mov, [.cn (.int .i64 0)]⟩])
 .ret))) }
theorem v12_is : vfunc Try.prog Try.f12 = some v12 := by kernel_rfl
def v20 : VF := { ntmps := 8, res := [.tmp 2, .tmp 3], body :=
 (.seq (.region [⟨(some 1), none, .box, [.tm 0]⟩,
  ⟨(some 2), none, .mov, [.cn (.int .i64 0)]⟩,
  ⟨(some 3), none, .mov, [.cn (.int .i64 0)]⟩])
 (.seq (.seq (.region [⟨(some 4), none, (.load true 4), [.tm 1]⟩,
  ⟨(some 5), none, (.call 25), [.tm 4]⟩])
 (.cond (.tm 5) (.seq (.region [⟨(some 2), none, .mov, [.cn (.int .i64 0)]⟩,
  ⟨(some 3), none, .mov, [.cn (.int .i64 2)]⟩])
 .ret)
  .skip))
 (.seq (.region [⟨(some 6), none, (.load true 4), [.tm 1]⟩,
  ⟨(some 7), none, (.call 27), [.tm 6]⟩,
  ⟨(some 2), none, .mov, [.tm 7]⟩,
  ⟨(some 3), none, .mov, [.cn (.int .i64 0)]⟩])
 .ret))) }
theorem v20_is : vfunc Try.prog Try.f20 = some v20 := by kernel_rfl
def v17 : VF := { ntmps := 16, res := [.cell 4 true 2, .tmp 5], body :=
 (.seq (.region [⟨(some 2), none, .box, [.tm 0]⟩,
  ⟨(some 4), none, (.alloc [(.int .i64 0), (.int .i64 0)]), []⟩,
  ⟨(some 5), none, .mov, [.cn (.int .i64 0)]⟩])
 (.seq (.seq (.region [⟨(some 6), none, (.load true 4), [.tm 2]⟩,
  ⟨(some 7), none, (.call 25), [.tm 6]⟩,
  ⟨(some 8), none, .mov, [.tm 7]⟩,
  ⟨(some 9), (some (8, false)), .mov, [.tm 1]⟩,
  ⟨(some 10), (some (8, false)), (.call 26), [.tm 9, .cn (.int .i64 10), .cn (.int .i64 5000)]⟩,
  ⟨(some 11), none, .or, [.tm 8, .tm 10]⟩])
 (.cond (.tm 11) (.seq (.region [⟨(some 12), none, (.build [(.int .i64 0), (.int .i64 0)] []), []⟩,
  ⟨none, none, (.store 2), [.tm 4, .tm 12]⟩,
  ⟨(some 5), none, .mov, [.cn (.int .i64 2)]⟩])
 .ret)
  .skip))
 (.seq (.region [⟨(some 13), none, (.load true 4), [.tm 2]⟩,
  ⟨(some 14), none, .mov, [.tm 1]⟩,
  ⟨(some 15), none, (.call 41), [.tm 13, .tm 14]⟩,
  ⟨none, none, (.store 2), [.tm 4, .tm 15]⟩,
  ⟨(some 5), none, .mov, [.cn (.int .i64 0)]⟩])
 .ret))) }
theorem v17_is : vfunc Try.prog Try.f17 = some v17 := by kernel_rfl
def v8 : VF := { ntmps := 49, res := [.tmp 6, .tmp 7], body :=
 (.seq (.region [⟨(some 3), none, .box, [.tm 0]⟩,
  ⟨(some 6), none, .mov, [.cn (.int .i64 0)]⟩,
  ⟨(some 7), none, .mov, [.cn (.int .i64 0)]⟩])
 (.seq (.region [⟨(some 12), none, (.load true 1), [.tm 3]⟩,
  ⟨(some 13), none, (.call 23), [.tm 12]⟩,
  ⟨(some 8), none, .mov, [.tm 13]⟩])
 (.seq (.block 0 (.seq (.region [⟨(some 15), none, .mov, [.tm 8]⟩,
  ⟨(some 16), none, (.cmp .eql), [.tm 15, .cn (.int .i64 3)]⟩,
  ⟨(some 17), none, .mov, [.tm 16]⟩,
  ⟨(some 18), (some (17, false)), .mov, [.tm 1]⟩,
  ⟨(some 19), (some (17, false)), .len, [.tm 18]⟩,
  ⟨(some 20), (some (17, false)), (.cmp .gtr), [.tm 19, .cn (.int .i64 40)]⟩,
  ⟨(some 21), none, .or, [.tm 17, .tm 20]⟩,
  ⟨(some 14), none, .mov, [.tm 21]⟩])
 (.cond (.tm 14) (.seq (.region [⟨(some 6), none, .mov, [.cn (.int .i64 0)]⟩,
  ⟨(some 7), none, .mov, [.cn (.int .i64 3)]⟩])
 .ret)
  (.seq (.region [⟨(some 23), none, .mov, [.tm 8]⟩,
  ⟨(some 24), none, (.cmp .neq), [.tm 23, .cn (.int .i64 0)]⟩,
  ⟨(some 25), none, .mov, [.tm 24]⟩,
  ⟨(some 26), (some (25, false)), .mov, [.tm 1]⟩,
  ⟨(some 27), (some (25, false)), (.call 24), [.tm 26, .cn (.fn (.func 25) [] [])]⟩,
  ⟨(some 28), none, .or, [.tm 25, .tm 27]⟩,
  ⟨(some 29), none, .mov, [.tm 28]⟩,
  ⟨(some 30), (some (29, false)), .mov, [.tm 2]⟩,
  ⟨(some 31), (some (29, false)), (.call 26), [.tm 30, .cn (.int .i64 10), .cn (.int .i64 1000)]⟩,
  ⟨(some 32), none, .or, [.tm 29, .tm 31]⟩,
  ⟨(some 22), none, .mov, [.tm 32]⟩])
 (.cond (.tm 22) (.seq (.region [⟨(some 6), none, .mov, [.cn (.int .i64 0)]⟩,
  ⟨(some 7), none, .mov, [.cn (.int .i64 2)]⟩])
 .ret)
  .skip)))))
 (.seq (.region [⟨(some 9), none, .mov, [.cn (.int .i64 0)]⟩])
 (.seq (.seq (.region [⟨(some 33), none, .mov, [.tm 1]⟩,
  ⟨(some 34), none, .len, [.tm 33]⟩,
  ⟨(some 35), none, .mov, [.cn (.int .i64 0)]⟩])
 (.block 1 (.loop (.seq (.region [⟨(some 36), none, (.cmp .lss), [.tm 35, .tm 34]⟩])
 (.seq (.cond (.tm 36) .skip
  (.exit 1))
 (.seq (.block 2 (.seq (.region [⟨(some 37), none, (.idxAddr 4), [.tm 33, .tm 35]⟩,
  ⟨(some 38), none, (.load true 4), [.tm 37]⟩,
  ⟨(some 11), none, (.alloc [(.int .i64 0), (.int .i64 0), (.int .i64 0), (.int .i64 0)]), []⟩,
  ⟨none, none, (.store 4), [.tm 11, .tm 38]⟩])
 (.region [⟨(some 39), none, .mov, [.tm 9]⟩,
  ⟨(some 40), none, (.load true 4), [.tm 11]⟩,
  ⟨(some 41), none, (.call 27), [.tm 40]⟩,
  ⟨(some 42), none, (.ari .add), [.tm 39, .tm 41]⟩,
  ⟨(some 9), none, .mov, [.tm 42]⟩])))
 (.region [⟨(some 43), none, (.ari .add), [.tm 35, .cn (.int .i64 1)]⟩,
  ⟨(some 35), none, .mov, [.tm 43]⟩])))))))
 (.seq (.region [⟨(some 44), none, (.load true 1), [.tm 3]⟩,
  ⟨(some 45), none, (.call 29), [.tm 44]⟩,
  ⟨(some 46), none, .mov, [.tm 9]⟩,
  ⟨(some 47), none, .mov, [.tm 2]⟩,
  ⟨(some 48), none, (.call 28), [.tm 45, .tm 46, .tm 47]⟩,
  ⟨(some 6), none, .mov, [.tm 48]⟩,
  ⟨(some 7), none, .mov, [.cn (.int .i64 0)]⟩])
 .ret)))))) }
theorem v8_is : vfunc Try.prog Try.f8 = some v8 := by kernel_rfl
def v10 : VF := { ntmps := 38, res := [.tmp 6, .tmp 7], body :=
 (.seq (.region [⟨(some 3), none, .box, [.tm 0]⟩,
  ⟨(some 5), none, .box, [.tm 2]⟩,
  ⟨(some 6), none, .mov, [.cn .nil]⟩,
  ⟨(some 7), none, .mov, [.cn (.int .i64 0)]⟩])
 (.seq (.draw [(9, .box [.nil, (.int .i64 0), (.int .i64 0), (.int .i64 0)])] [⟨⟨(some 11), none, (.load true 1), [.tm 3]⟩, []⟩,
  ⟨⟨(some 13), none, .mov, [.tm 1]⟩, []⟩,
  ⟨⟨(some 14), none, (.load true 3), [.tm 5]⟩, []⟩,
  ⟨⟨(some 15), none, (.build [.nil, (.int .i64 0), (.int .i64 0), (.int .i64 0)] [(0, 1), (1, 3)]), [.tm 13, .tm 14]⟩, []⟩,
  ⟨⟨(some 12), none, (.call 23), [.tm 11]⟩, []⟩,
  ⟨⟨(some 8), none, .mov, [.tm 12]⟩, []⟩,
  ⟨⟨none, none, (.store 4), [.tm 9, .tm 15]⟩, []⟩])
 (.seq (.block 0 (.seq (.region [⟨(some 17), none, .mov, [.tm 8]⟩,
  ⟨(some 18), none, (.cmp .eql), [.tm 17, .cn (.int .i64 3)]⟩,
  ⟨(some 19), none, .mov, [.tm 18]⟩,
  ⟨(some 20), (some (19, false)), .mov, [.tm 1]⟩,
  ⟨(some 21), (some (19, false)), .len, [.tm 20]⟩,
  ⟨(some 22), (some (19, false)), (.cmp .gtr), [.tm 21, .cn (.int .i64 40)]⟩,
  ⟨(some 23), none, .or, [.tm 19, .tm 22]⟩,
  ⟨(some 16), none, .mov, [.tm 23]⟩])
 (.cond (.tm 16) (.seq (.region [⟨(some 6), none, .mov, [.cn .nil]⟩,
  ⟨(some 7), none, .mov, [.cn (.int .i64 3)]⟩])
 .ret)
  (.seq (.region [⟨(some 25), none, .mov, [.tm 8]⟩,
  ⟨(some 26), none, (.cmp .neq), [.tm 25, .cn (.int .i64 0)]⟩,
  ⟨(some 27), none, .mov, [.tm 26]⟩,
  ⟨(some 28), (some (27, false)), (.load true 4), [.tm 9]⟩,
  ⟨(some 29), (some (27, false)), (.call 35), [.tm 28]⟩,
  ⟨(some 30), none, .or, [.tm 27, .tm 29]⟩,
  ⟨(some 24), none, .mov, [.tm 30]⟩])
 (.cond (.tm 24) (.seq (.region [⟨(some 6), none, .mov, [.cn .nil]⟩,
  ⟨(some 7), none, .mov, [.cn (.int .i64 2)]⟩])
 .ret)
  .skip)))))
 (.seq (.seq (.draw [] [⟨⟨(some 31), none, (.load true 4), [.tm 9]⟩, []⟩,
  ⟨⟨(some 32), none, (.load true 1), [.tm 3]⟩, []⟩,
  ⟨⟨(some 33), none, (.call 29), [.tm 32]⟩, []⟩,
  ⟨⟨(some 34), none, (.call 36), [.tm 31, .tm 33]⟩, []⟩,
  ⟨⟨(some 10), none, .mov, [.tm 34]⟩, []⟩])
 (.seq (.region [⟨(some 35), none, .mov, [.tm 10]⟩,
  ⟨(some 36), none, (.isNil true), [.tm 35, .cn .nil]⟩])
 (.cond (.tm 36) (.seq (.region [⟨(some 37), none, .mov, [.tm 10]⟩,
  ⟨(some 6), none, .mov, [.tm 37]⟩,
  ⟨(some 7), none, .mov, [.cn (.int .i64 0)]⟩])
 .ret)
  .skip)))
 (.seq (.region [⟨(some 6), none, .mov, [.cn .nil]⟩,
  ⟨(some 7), none, .mov, [.cn (.int .i64 4)]⟩])
 .ret))))) }
theorem v10_is : vfunc Try.prog Try.f10 = some v10 := by kernel_rfl
def v18 : VF := { ntmps := 45, res := [.cell 6 true 2, .tmp 7], body :=
 (.seq (.region [⟨(some 3), none, .box, [.tm 0]⟩,
  ⟨(some 6), none, (.alloc [(.int .i64 0), (.int .i64 0)]), []⟩,
  ⟨(some 7), none, .mov, [.cn (.int .i64 0)]⟩])
 (.seq (.seq (.region [⟨(some 10), none, (.load true 2), [.tm 3]⟩,
  ⟨(some 11), none, (.call 42), [.tm 10]⟩,
  ⟨(some 12), none, .mov, [.tm 11]⟩,
  ⟨(some 13), (some (12, false)), .mov, [.tm 1]⟩,
  ⟨(some 14), (some (12, false)), (.call 26), [.tm 13, .cn (.int .i64 0), .cn (.int .i64 3000000)]⟩,
  ⟨(some 15), none, .or, [.tm 12, .tm 14]⟩,
  ⟨(some 16), none, .mov, [.tm 15]⟩,
  ⟨(some 17), (some (16, false)), .mov, [.tm 2]⟩,
  ⟨(some 18), (some (16, false)), (.cmp .lss), [.tm 17, .cn (.int .i64 0)]⟩,
  ⟨(some 19), none, .or, [.tm 16, .tm 18]⟩,
  ⟨(some 20), none, .mov, [.tm 19]⟩,
  ⟨(some 21), (some (20, false)), .mov, [.tm 2]⟩,
  ⟨(some 22), (some (20, false)), (.cmp .gtr), [.tm 21, .cn (.int .i64 8)]⟩,
  ⟨(some 23), none, .or, [.tm 20, .tm 22]⟩])
 (.cond (.tm 23) (.seq (.region [⟨(some 24), none, (.build [(.int .i64 0), (.int .i64 0)] []), []⟩,
  ⟨none, none, (.store 2), [.tm 6, .tm 24]⟩,
  ⟨(some 7), none, .mov, [.cn (.int .i64 2)]⟩])
 .ret)
  .skip))
 (.seq (.region [⟨(some 26), none, (.fieldAddr 0), [.tm 3]⟩,
  ⟨(some 27), none, (.load false 1), [.tm 26]⟩,
  ⟨(some 28), none, (.fieldAddr 0), [.tm 3]⟩,
  ⟨(some 29), none, (.load false 1), [.tm 28]⟩,
  ⟨(some 30), none, (.ari .mul), [.tm 27, .tm 29]⟩,
  ⟨(some 31), none, (.call 44), [.tm 30]⟩,
  ⟨(some 32), none, .mov, [.tm 1]⟩,
  ⟨(some 33), none, .quo, [.tm 32, .cn (.int .i64 10000)]⟩,
  ⟨(some 34), none, (.ari .add), [.cn (.int .i64 1000), .tm 33]⟩,
  ⟨(some 35), none, .mov, [.tm 2]⟩,
  ⟨(some 36), none, (.ari .mul), [.cn (.int .i64 50), .tm 35]⟩,
  ⟨(some 37), none, (.ari .add), [.tm 34, .tm 36]⟩,
  ⟨(some 38), none, (.call 43), [.tm 31, .tm 37, .cn (.int .i64 1000)]⟩,
  ⟨(some 25), none, .mov, [.tm 38]⟩,
  ⟨(some 39), none, (.ext 0), [.tm 25]⟩,
  ⟨(some 40), none, (.ext 1), [.tm 25]⟩,
  ⟨(some 8), none, (.alloc [(.int .i64 0), (.int .i64 0)]), []⟩,
  ⟨none, none, (.store 2), [.tm 8, .tm 39]⟩,
  ⟨(some 9), none, .mov, [.tm 40]⟩])
 (.seq (.region [⟨(some 41), none, (.load true 2), [.tm 8]⟩,
  ⟨(some 42), none, (.call 45), [.tm 41, .cn (.int .i64 2)]⟩,
  ⟨(some 43), none, (.ext 0), [.tm 42]⟩,
  ⟨(some 44), none, (.ext 1), [.tm 42]⟩,
  ⟨none, none, (.store 2), [.tm 6, .tm 43]⟩,
  ⟨(some 7), none, .mov, [.tm 44]⟩])
 .ret)))) }
theorem v18_is : vfunc Try.prog Try.f18 = some v18 := by kernel_rfl


def aF (c : List Iv) : Iv × Int := if chkT c ≠ 0 then ((0, 0), chkT c) else (areaF c, 0)
def ArC : Ctr := { alias := false, of := fun l => match l with
  | [.agg [.vs _ _ n sz get]] => .ex (List Iv) fun l => .pre (lsP 2 enc2 n sz get l ∧ l.length ≤ 1000000000000) (.fin (.tup [.agg (enc2 (aF l).1), .int .i64 (aF l).2]) [])
  | _ => noC }
def oF (p : Plt) : Int × Int := if palB p then (0, 2) else (openF p, 0)
def OpC : Ctr := { alias := false, of := fun l => match l with
  | [.agg [.int .i64 w, .int .i64 l, .int .i64 t, .int .i64 s]] => .fin (.tup [.int .i64 (oF ⟨w, l, t, s⟩).1, .int .i64 (oF ⟨w, l, t, s⟩).2]) []
  | _ => noC }
def fF (p : Plt) (pr : Int) : Iv × Int := if palB p || outN pr 10 5000 then ((0, 0), 2) else (forceF p pr, 0)
def FoC : Ctr := { alias := false, of := fun l => match l with
  | [.agg [.int .i64 w, .int .i64 l, .int .i64 t, .int .i64 s], .int .i64 pr] => .fin (.tup [.agg (enc2 (fF ⟨w, l, t, s⟩ pr).1), .int .i64 (fF ⟨w, l, t, s⟩ pr).2]) []
  | _ => noC }
def tubS (t : Iv) (len bends : Int) : Iv := (sclF (t.1 * t.1, t.1 * t.1) (1000 + len / 10000 + 50 * bends) 1000).1
def tF (t : Iv) (len bends : Int) : Iv × Int := if (toeB t || outN len 0 3000000 || decide (bends < 0) || decide (8 < bends)) = true then ((0, 0), 2) else rootF (tubS t len bends) 2
def TuC : Ctr := { alias := false, of := fun l => match l with
  | [.agg [.int .i64 x, .int .i64 y], .int .i64 len, .int .i64 b] => .fin (.tup [.agg (enc2 (tF (x, y) len b).1), .int .i64 (tF (x, y) len b).2]) []
  | _ => noC }
def EnC : Ctr := { alias := false, of := fun l => match l with
  | [.agg [.vs _ _ n sz get], .vs _ _ n' sz' get', .int .i64 per] => .ex (List Iv) fun c => .ex (List Plt) fun l => .pre (lsP 2 enc2 n sz get c ∧ lsP 4 encP n' sz' get' l ∧ c.length ≤ 1000000000000 ∧ l.length ≤ 1000000000000) (.fin (.tup [.int .i64 (enoF c l per).1, .int .i64 (enoF c l per).2]) [])
  | _ => noC }
def ChC : Ctr := { alias := false, of := fun l => match l with
  | [.agg [.vs _ _ n sz get], .vs _ _ n' sz' get', .agg [.int .i64 per, .int .i64 pr, .int .i64 most]] => .ex (List Iv) fun c => .ex (List Plt) fun l => .pre (lsP 2 enc2 n sz get c ∧ lsP 4 encP n' sz' get' l ∧ c.length ≤ 1000000000000 ∧ l.length ≤ 1000000000000) (.fin (.tup [vsI (choF c l ⟨per, pr, most⟩).1, .int .i64 (choF c l ⟨per, pr, most⟩).2]) [])
  | _ => noC }

theorem chkT_0 {c : List Iv} (h : chkT c = 0) : c.length ≤ 24 ∧ ∀ t ∈ c, toeB t = false := by
  unfold chkT at h
  split at h
  · cases h
  · split at h
    · cases h
    · rename_i h1 h2
      refine ⟨by omega, fun t ht => ?_⟩
      rw [Bool.not_eq_true, List.any_eq_false] at h2
      simpa using h2 t ht
theorem area_all {c : List Iv} (h : ∀ t ∈ c, toeB t = false) (hl : c.length ≤ 100) : (0 ≤ (areaF c).1 ∧ (areaF c).1 ≤ 1000000000000) ∧ 0 ≤ (areaF c).2 ∧ (areaF c).2 ≤ 1000000000000 := by
  have := area_rng (l := c) (i := c.length) (Nat.le_refl _) h
  rw [take_full (Nat.le_refl _)] at this
  omega
theorem sumO_all {l : List Plt} (h : ∀ t ∈ l, palB t = false) (hl : l.length ≤ 100) : 0 ≤ sumO l ∧ sumO l ≤ 10000000000000 := by
  have := sumO_rng (l := l) (i := l.length) (Nat.le_refl _) h
  rw [take_full (Nat.le_refl _)] at this
  omega
theorem any_f {α : Type} {l : List α} {F : α → Bool} (h : l.any F = false) : ∀ p ∈ l, F p = false := fun p hp => by
  have := List.any_eq_false.1 h p hp
  simpa using this

theorem ans_nilI {k : SV → List HO → Prop} {al : Bool} {hp : List HO} {e : Int} (h : k (.tup [vsI [], .int .i64 e]) []) : answers al k (.tup [.nil, .int .i64 e]) hp :=
  ans_le (show k _ [] from h) (by simp [vsI, expo, view, viewL, le, leL]) (fun _ => by simp [vsI, freshS, freshL])
theorem ans_chI {k : SV → List HO → Prop} {al : Bool} {hp : List HO} {b : List Int} {e : Int} (h : k (.tup [vsI b, .int .i64 e]) []) : answers al k (.tup [vsI b, .int .i64 e]) hp :=
  ans_le (show k _ [] from h) (by simp only [vsI, expo, view, viewL]; exact ⟨⟨fun h => h, rfl, rfl, rfl, fun j _ => by simp [enc1, viewL, view, leXL, leX]⟩, ⟨rfl, rfl⟩, trivial⟩) (fun _ => by simp [vsI, enc1, freshS, freshL])
def H0 : Env := { ct := fun n => match n with | 23 => some chkC | 29 => some areaC | 25 => some palC | 42 => some toeC | 44 => some oneC | 26 => some outC | 27 => some openC | 41 => some forceC | 28 => some cmpC | 24 => some anyPC | 35 => some shopC | 36 => some chooseC | 43 => some sclC | 45 => some rootC | _ => none, fn := fun _ => none, meth := fun _ _ => none }
theorem H0_ct23 : H0.ct 23 = some chkC := rfl
theorem H0_ct29 : H0.ct 29 = some areaC := rfl
theorem H0_ct25 : H0.ct 25 = some palC := rfl
theorem H0_ct42 : H0.ct 42 = some toeC := rfl
theorem H0_ct44 : H0.ct 44 = some oneC := rfl
theorem H0_ct26 : H0.ct 26 = some outC := rfl
theorem H0_ct27 : H0.ct 27 = some openC := rfl
theorem H0_ct41 : H0.ct 41 = some forceC := rfl
theorem H0_ct28 : H0.ct 28 = some cmpC := rfl
theorem H0_ct24 : H0.ct 24 = some anyPC := rfl
theorem H0_ct35 : H0.ct 35 = some shopC := rfl
theorem H0_ct36 : H0.ct 36 = some chooseC := rfl
theorem H0_ct43 : H0.ct 43 = some sclC := rfl
theorem H0_ct45 : H0.ct 45 = some rootC := rfl
theorem H0_ok : EnvOk Try.prog H0 := by
  refine ⟨fun f c h => ?_, fun f vf h => ?_, (fun _ _ _ h => by cases h), by kernel_rfl⟩
  · simp only [H0] at h
    split at h
    · cases h; exact ⟨chk_ok, Try.f23, Try.func23, by kernel_rfl, by kernel_rfl⟩
    · cases h; exact ⟨area_ok, Try.f29, Try.func29, by kernel_rfl, by kernel_rfl⟩
    · cases h; exact ⟨pal_ok, Try.f25, Try.func25, by kernel_rfl, by kernel_rfl⟩
    · cases h; exact ⟨toe_ok, Try.f42, Try.func42, by kernel_rfl, by kernel_rfl⟩
    · cases h; exact ⟨one_ok, Try.f44, Try.func44, by kernel_rfl, by kernel_rfl⟩
    · cases h; exact ⟨out_ok, Try.f26, Try.func26, by kernel_rfl, by kernel_rfl⟩
    · cases h; exact ⟨open_ok, Try.f27, Try.func27, by kernel_rfl, by kernel_rfl⟩
    · cases h; exact ⟨force_ok, Try.f41, Try.func41, by kernel_rfl, by kernel_rfl⟩
    · cases h; exact ⟨cmp_ok, Try.f28, Try.func28, by kernel_rfl, by kernel_rfl⟩
    · cases h; exact ⟨anyP_ok, Try.f24, Try.func24, by kernel_rfl, by kernel_rfl⟩
    · cases h; exact ⟨shop_ok, Try.f35, Try.func35, by kernel_rfl, by kernel_rfl⟩
    · cases h; exact ⟨choose_ok, Try.f36, Try.func36, by kernel_rfl, by kernel_rfl⟩
    · cases h; exact ⟨scl_ok, Try.f43, Try.func43, by kernel_rfl, by kernel_rfl⟩
    · cases h; exact ⟨root_ok, Try.f45, Try.func45, by kernel_rfl, by kernel_rfl⟩
    · cases h
  · cases h


theorem Ar_ok : ArC.ok Try.prog 12 := by
  refine contract Try.func12 v12_is H0_ok 200 ArC fun args k h => ?_
  simp only [ArC] at h
  split at h
  · rename_i t z n sz get
    obtain ⟨l, ⟨⟨rfl, rfl, hg⟩, hl⟩, h⟩ := h
    refine ⟨[.agg [.vs t z l.length 2 (fun k => enc2 (l.getD k default))]], ⟨by simpa [le, leL] using hg, trivial⟩, ?_⟩
    have h : k (.tup [.agg (enc2 (aF l).1), .int .i64 (aF l).2]) [] := h
    dsimp only [v12, H0_ct23, H0_ct29, chkC, areaC, enc2, go_sem, Option.bind, Option.map, List.append_nil, Nat.beq, List.cons_append, List.nil_append, List.append_eq, List.map_cons, List.map_nil, ite_self, reduceIte]
    simp only [true_and, and_true, imp_self, implies_true, decide_eq_true_eq, decide_eq_false_iff_not, Nat.reduceAdd, Nat.reduceLeDiff, Bool.not_not, reduceCtorEq, false_imp_iff, Bool.not_eq_true', Bool.not_eq_false', Bool.false_eq_true, and_self, forall_const, ne_eq, not_false_eq_true, Nat.reduceEqDiff]
    refine ⟨l, ⟨lsP_self, by omega⟩, fun hc => ?_, fun hc => ⟨l, ⟨lsP_self, ?_, (chkT_0 (by simpa using hc)).2⟩, ?_⟩⟩
    · rw [aF, if_pos (by simpa using hc)] at h
      exact ans_iv (r := ((0, 0), chkT l)) h
    · have := (chkT_0 (c := l) (by simpa using hc)).1; omega
    · rw [aF, if_neg (by simpa using hc)] at h
      exact ans_iv (r := (areaF l, 0)) h
  · exact h.1.elim
theorem Op_ok : OpC.ok Try.prog 20 := by
  refine contract Try.func20 v20_is H0_ok 200 OpC fun args k h => ⟨args, ?_⟩
  simp only [OpC] at h
  split at h
  · rename_i w l t s
    refine ⟨by simp [leL, le], ?_⟩
    have h : k (.tup [.int .i64 (oF ⟨w, l, t, s⟩).1, .int .i64 (oF ⟨w, l, t, s⟩).2]) [] := h
    dsimp only [v20, H0_ct25, H0_ct27, palC, openC, go_sem, Option.bind, Option.map, List.append_nil, Nat.beq, List.cons_append, List.nil_append, List.append_eq, List.map_cons, List.map_nil, ite_self, reduceIte]
    simp only [true_and, and_true, imp_self, implies_true, decide_eq_true_eq, decide_eq_false_iff_not, Nat.reduceAdd, Nat.reduceLeDiff, Bool.not_not, reduceCtorEq, false_imp_iff, Bool.not_eq_true', Bool.not_eq_false', Bool.false_eq_true, and_self, forall_const, ne_eq, not_false_eq_true, Nat.reduceEqDiff]
    refine ⟨fun hc => ?_, fun hc => ⟨hc, ?_⟩⟩
    · rw [oF, if_pos hc] at h; exact ans_ii h
    · rw [oF, if_neg (by rw [hc]; simp)] at h; exact ans_ii h
  · exact h.1.elim
theorem Fo_ok : FoC.ok Try.prog 17 := by
  refine contract Try.func17 v17_is H0_ok 200 FoC fun args k h => ⟨args, ?_⟩
  simp only [FoC] at h
  split at h
  · rename_i w l t s pr
    refine ⟨by simp [leL, le], ?_⟩
    have h : k (.tup [.agg (enc2 (fF ⟨w, l, t, s⟩ pr).1), .int .i64 (fF ⟨w, l, t, s⟩ pr).2]) [] := h
    dsimp only [v17, H0_ct25, H0_ct26, H0_ct41, palC, outC, forceC, forC, enc2, go_sem, Option.bind, Option.map, List.append_nil, Nat.beq, List.cons_append, List.nil_append, List.append_eq, List.map_cons, List.map_nil, ite_self, reduceIte]
    simp only [true_and, and_true, imp_self, implies_true, decide_eq_true_eq, decide_eq_false_iff_not, Nat.reduceAdd, Nat.reduceLeDiff, Bool.not_not, reduceCtorEq, false_imp_iff, Bool.not_eq_true', Bool.not_eq_false', Bool.false_eq_true, and_self, forall_const, ne_eq, not_false_eq_true, Nat.reduceEqDiff]
    refine ⟨fun hc => ?_, fun hc => ⟨?_, ?_⟩⟩
    · rw [fF, if_pos hc] at h; exact ans_iv (r := ((0, 0), 2)) h
    · rw [Bool.or_eq_false_iff, outN_f] at hc; exact hc
    · rw [fF, if_neg (by rw [hc]; simp)] at h; exact ans_iv (r := (forceF ⟨w, l, t, s⟩ pr, 0)) h
  · exact h.1.elim
theorem Tu_ok : TuC.ok Try.prog 18 := by
  refine contract Try.func18 v18_is H0_ok 200 TuC fun args k h => ⟨args, ?_⟩
  simp only [TuC] at h
  split at h
  · rename_i x y len b
    refine ⟨by simp [leL, le], ?_⟩
    have h : k (.tup [.agg (enc2 (tF (x, y) len b).1), .int .i64 (tF (x, y) len b).2]) [] := h
    dsimp only [v18, H0_ct42, H0_ct26, H0_ct44, H0_ct43, H0_ct45, toeC, outC, oneC, sclC, rootC, enc2, go_sem, Option.bind, Option.map, List.append_nil, Nat.beq, List.cons_append, List.nil_append, List.append_eq, List.map_cons, List.map_nil, ite_self, reduceIte]
    simp only [true_and, and_true, imp_self, implies_true, decide_eq_true_eq, decide_eq_false_iff_not, Nat.reduceAdd, Nat.reduceLeDiff, Bool.not_not, reduceCtorEq, false_imp_iff, Bool.not_eq_true', Bool.not_eq_false', Bool.false_eq_true, and_self, forall_const, ne_eq, not_false_eq_true, Nat.reduceEqDiff]
    have h40 : ∀ hc : (toeB (x, y) || outN len 0 3000000 || decide (b < 0) || decide (8 < b)) = false, (100 ≤ x ∧ x ≤ 100000) ∧ (0 ≤ len ∧ len ≤ 3000000) ∧ 0 ≤ b ∧ b ≤ 8 := fun hc => by
      rw [Bool.or_eq_false_iff, Bool.or_eq_false_iff, Bool.or_eq_false_iff, outN_f, decide_eq_false_iff_not, decide_eq_false_iff_not] at hc
      obtain ⟨⟨⟨h1, h2⟩, h3⟩, h4⟩ := hc
      have := toe_rng h1
      dsimp only at this
      omega
    refine ⟨fun hc => ?_, fun hc => ⟨by decide, by decide, by decide, by decide, by decide, ?_⟩⟩
    · rw [tF, if_pos hc] at h; exact ans_iv (r := ((0, 0), 2)) h
    · rw [tF, if_neg (by rw [hc]; simp)] at h
      obtain ⟨⟨h1, h2⟩, ⟨h3, h4⟩, h5, h6⟩ := h40 hc
      have m1 : x * x ≤ 100000 * 100000 := mul_le' h2 h2 (by omega) (by omega)
      have m2 : 0 ≤ x * x := Int.mul_nonneg (by omega) (by omega)
      have e1 : len.tdiv 10000 = len / 10000 := Int.tdiv_eq_ediv_of_nonneg h3
      rw [e1, w6_raw (x := x * x) (by omega) (by omega), w6_raw (x := len / 10000) (by omega) (by omega), w6_raw (x := 1000 + len / 10000) (by omega) (by omega), w6_raw (x := 50 * b) (by omega) (by omega), w6_raw (x := _ + 50 * b) (by omega) (by omega)]
      exact ans_iv (r := rootF (tubS (x, y) len b) 2) h
  · exact h.1.elim
theorem En_ok : EnC.ok Try.prog 8 := by
  refine contract Try.func8 v8_is H0_ok 300 EnC fun args k h => ?_
  simp only [EnC] at h
  split at h
  · rename_i t z n sz get t' z' n' sz' get' per
    obtain ⟨c, l, ⟨⟨rfl, rfl, hg⟩, ⟨rfl, rfl, hg'⟩, hl, hl'⟩, h⟩ := h
    refine ⟨[.agg [.vs t z c.length 2 (fun k => enc2 (c.getD k default))], .vs t' z' l.length 4 (fun k => encP (l.getD k default)), .int .i64 per], ⟨by simpa [le, leL] using hg, by simpa [le, leL] using hg', by simp [le, leL], trivial⟩, ?_⟩
    have h : k (.tup [.int .i64 (enoF c l per).1, .int .i64 (enoF c l per).2]) [] := h
    dsimp only [v8, H0_ct23, H0_ct26, H0_ct24, chkC, outC, anyPC, anyC, enc2, encP, go_sem, Option.bind, Option.map, List.append_nil, Nat.beq, List.cons_append, List.nil_append, List.append_eq, List.map_cons, List.map_nil, ite_self, reduceIte]
    simp only [true_and, and_true, imp_self, implies_true, decide_eq_true_eq, decide_eq_false_iff_not, Nat.reduceAdd, Nat.reduceLeDiff, Bool.not_not, reduceCtorEq, false_imp_iff, Bool.not_eq_true', Bool.not_eq_false', Bool.false_eq_true, and_self, forall_const, ne_eq, not_false_eq_true, Nat.reduceEqDiff]
    have e40 : decide ((40 : Int) < (l.length : Int)) = decide (40 < l.length) := by rw [decide_eq_decide]; omega
    rw [e40]
    refine ⟨c, ⟨lsP_self, by omega⟩, fun hc => ?_, fun hc => ⟨l, palB, fun _ => ⟨lsP_self, by omega, rfl, rfl, rfl⟩, fun hd => ?_, fun hd => ?_⟩⟩
    · rw [enoF, if_pos hc] at h; exact ans_ii h
    · rw [enoF, if_neg (by rw [hc]; simp), if_pos hd] at h; exact ans_ii h
    · rw [enoF, if_neg (by rw [hc]; simp), if_neg (by rw [hd]; simp)] at h
      rw [Bool.or_eq_false_iff, Bool.or_eq_false_iff, Bool.not_eq_false', decide_eq_true_eq, outN_f] at hd
      obtain ⟨⟨hd1, hd2⟩, hd3⟩ := hd
      have hv := any_f hd2
      obtain ⟨hcl, hct⟩ := chkT_0 hd1
      have h24 : l.length ≤ 40 := by
        rw [Bool.or_eq_false_iff, decide_eq_false_iff_not, decide_eq_false_iff_not] at hc; omega
      refine Loop.keep [1, 0, 0, 2, 0, 25, 0] Nat (fun i => [(9, .int .i64 (sumO (l.take i))), (35, .int .i64 i)]) (fun _ => []) [] (fun i => i ≤ l.length) (fun i => l.length - i) ?_ ?_
      · refine ⟨0, Nat.zero_le _, ?_⟩
        dsimp only [go_sem, Option.bind, Option.map, List.append_nil, Nat.beq, List.cons_append, List.nil_append, List.append_eq, List.map_cons, List.map_nil, ite_self, reduceIte]
        simp only [leS_mk, leL_cons, leL_nil, le_junk, le_int, le_bool, le_nil, leLL_nil, leLL_cons, leH_cons, leH_nil, leH1_box, leH1_own, leH1_gone, le_vs, le_agg, le_tup, le_ptr, le_own, le_xp, le_fn, le_opt, le_val, le_elem, le_nil_own, le_nil_vs, leH_ghost, leL_chunk, leXL_id, bnd_int, bnd_bool, bnd_val, bnd_nil, bnd_junk, bnd_vs, bnd_xp, bnd_agg, bnd_tup, bnd_ptr, bnd_own, bnd_elem, bnd_fn, bnd_iface, bnd_opt, bndL_nil, bndL_cons, lenH_cons, lenH_nil, imp_self, implies_true, true_and, and_true] <;> simp [sumO]
      · rintro i hi
        dsimp only [H0_ct27, H0_ct29, H0_ct28, openC, areaC, cmpC, enc2, encP, Int.toNat_natCast, go_sem, Option.bind, Option.map, List.append_nil, Nat.beq, List.cons_append, List.nil_append, List.append_eq, List.map_cons, List.map_nil, ite_self, reduceIte]
        simp only [true_and, and_true, imp_self, implies_true, decide_eq_true_eq, decide_eq_false_iff_not, Nat.reduceAdd, Nat.reduceLeDiff, Bool.not_not, reduceCtorEq, false_imp_iff, Bool.not_eq_true', Bool.not_eq_false', Bool.false_eq_true, and_self, forall_const, ne_eq, not_false_eq_true, Nat.reduceEqDiff, plt_eta]
        refine ⟨fun hlt => ?_, fun hge => ?_⟩
        · have hi' : i < l.length := by omega
          have ho := open_rng (hv _ (getD_mem hi'))
          have hs := sumO_rng (l := l) hi hv
          refine ⟨⟨by omega, hlt⟩, hv _ (getD_mem hi'), i + 1, by omega, by omega, ?_⟩
          rw [w6_raw (x := sumO _ + _) (by omega) (by omega)]
          simp only [w_succ (i := i) (n := l.length) (by omega) (by omega), sumO_take hi', leS_mk, leL_cons, leL_nil, le_junk, le_int, le_bool, le_nil, leLL_nil, leLL_cons, leH_cons, leH_nil, leH1_box, leH1_own, leH1_gone, le_vs, le_agg, le_tup, le_ptr, le_own, le_xp, le_fn, le_opt, le_val, le_elem, le_nil_own, le_nil_vs, leH_ghost, leL_chunk, leXL_id, bnd_int, bnd_bool, bnd_val, bnd_nil, bnd_junk, bnd_vs, bnd_xp, bnd_agg, bnd_tup, bnd_ptr, bnd_own, bnd_elem, bnd_fn, bnd_iface, bnd_opt, bndL_nil, bndL_cons, lenH_cons, lenH_nil, imp_self, implies_true, true_and, and_true] <;> simp
        · obtain rfl : i = l.length := by omega
          rw [take_full (Nat.le_refl _)]
          have ha := area_all hct (by omega)
          refine ⟨c, ⟨lsP_self, by omega, hct⟩, ⟨ha.1, ha.2, sumO_all hv (by omega), hd3⟩, ?_⟩
          exact ans_ii h
  · exact h.1.elim
theorem Ch_ok : ChC.ok Try.prog 10 := by
  refine contract Try.func10 v10_is H0_ok 300 ChC fun args k h => ?_
  simp only [ChC] at h
  split at h
  · rename_i t z n sz get t' z' n' sz' get' per pr most
    obtain ⟨c, l, ⟨⟨rfl, rfl, hg⟩, ⟨rfl, rfl, hg'⟩, hl, hl'⟩, h⟩ := h
    refine ⟨[.agg [.vs t z c.length 2 (fun k => enc2 (c.getD k default))], .vs t' z' l.length 4 (fun k => encP (l.getD k default)), .agg [.int .i64 per, .int .i64 pr, .int .i64 most]], ⟨by simpa [le, leL] using hg, by simpa [le, leL] using hg', by simp [le, leL], trivial⟩, ?_⟩
    have h : k (.tup [vsI (choF c l ⟨per, pr, most⟩).1, .int .i64 (choF c l ⟨per, pr, most⟩).2]) [] := h
    dsimp only [v10, H0_ct23, H0_ct35, H0_ct29, H0_ct36, chkC, shopC, areaC, chooseC, vsI, enc2, encP, go_sem, Option.bind, Option.map, List.append_nil, Nat.beq, List.cons_append, List.nil_append, List.append_eq, List.map_cons, List.map_nil, ite_self, reduceIte]
    simp only [true_and, and_true, imp_self, implies_true, decide_eq_true_eq, decide_eq_false_iff_not, Nat.reduceAdd, Nat.reduceLeDiff, Bool.not_not, reduceCtorEq, false_imp_iff, Bool.not_eq_true', Bool.not_eq_false', Bool.false_eq_true, and_self, forall_const, ne_eq, not_false_eq_true, Nat.reduceEqDiff]
    have e40 : decide ((40 : Int) < (l.length : Int)) = decide (40 < l.length) := by rw [decide_eq_decide]; omega
    rw [e40]
    refine ⟨c, ⟨lsP_self, by omega⟩, fun hc => ?_, fun hc => ⟨l, fun _ => ⟨lsP_self, by omega⟩, fun hd => ?_, fun hd => ?_⟩⟩
    · rw [choF, if_pos hc] at h; exact ans_nilI h
    · rw [choF, if_neg (by rw [hc]; simp), if_pos hd] at h; exact ans_nilI h
    · rw [choF, if_neg (by rw [hc]; simp), if_neg (by rw [hd]; simp)] at h
      rw [Bool.or_eq_false_iff, Bool.or_eq_false_iff, Bool.not_eq_false', decide_eq_true_eq] at hd
      obtain ⟨hd1, hd2, hd3⟩ := hd
      have hv := any_f hd2
      obtain ⟨hcl, hct⟩ := chkT_0 hd1
      have h24 : l.length ≤ 40 := by
        rw [Bool.or_eq_false_iff, decide_eq_false_iff_not, decide_eq_false_iff_not] at hc; omega
      have ha := area_all hct (by omega)
      refine ⟨c, ⟨lsP_self, by omega, hct⟩, l, ⟨lsP_self, by omega, hv, hd3, ha⟩, fun hn => ?_, fun hn => ?_⟩
      · rw [List.isEmpty_eq_false_iff] at hn
        rw [if_pos hn] at h
        exact ans_chI h
      · rw [List.isEmpty_iff] at hn
        rw [if_neg (fun hh => hh hn)] at h
        exact ans_nilI h
  · exact h.1.elim
end Go.Proofs.Ytngccjllkgpjmaa

/- Intervals, walked: the reference's functions without fractions. -/
/- Intervals, walked: the reference's functions without fractions. -/
set_option linter.all false
namespace Go.Proofs.Ytngccjllkgpjmaa
open Go Go.Vx
set_option maxRecDepth 100000
set_option maxHeartbeats 4000000

def Q0 : Env := { ct := fun n => match n with | 80 => some ivlC | _ => none, fn := fun _ => none, meth := fun _ _ => none }
end Go.Proofs.Ytngccjllkgpjmaa

/- Intervals: the laws without a reference, in plain Lean. -/
/- Intervals: the laws without a reference, in plain Lean. -/
set_option linter.all false
namespace Go.Proofs.Ytngccjllkgpjmaa
open Go Go.Vx

def neg (a : Iv) : Iv := (-a.2, -a.1)
end Go.Proofs.Ytngccjllkgpjmaa

/- Intervals, walked: the reference's fractions. -/
/- Intervals, walked: the reference's fractions. -/
set_option linter.all false
namespace Go.Proofs.Ytngccjllkgpjmaa
open Go Go.Vx
set_option maxRecDepth 100000
set_option maxHeartbeats 4000000

end Go.Proofs.Ytngccjllkgpjmaa

/- Intervals, walked: the reference's Scale, Pi. -/
/- Intervals, walked: the reference's Scale, Pi. -/
set_option linter.all false
namespace Go.Proofs.Ytngccjllkgpjmaa
open Go Go.Vx
set_option maxRecDepth 100000
set_option maxHeartbeats 4000000

end Go.Proofs.Ytngccjllkgpjmaa

/- Fractions, walked: powers. -/
/- Fractions, walked: powers. -/
set_option linter.all false
namespace Go.Proofs.Ytngccjllkgpjmaa
open Go Go.Vx
set_option maxRecDepth 100000
set_option maxHeartbeats 4000000

end Go.Proofs.Ytngccjllkgpjmaa

/- Intervals, walked: the reference's Disc, Pow. -/
/- Intervals, walked: the reference's Disc, Pow. -/
set_option linter.all false
namespace Go.Proofs.Ytngccjllkgpjmaa
open Go Go.Vx
set_option maxRecDepth 100000
set_option maxHeartbeats 4000000

end Go.Proofs.Ytngccjllkgpjmaa

/- Fractions with the other sign, differences; the corners of two intervals: walked. -/
/- Fractions with the other sign, differences; the corners of two intervals: walked. -/
set_option linter.all false
namespace Go.Proofs.Ytngccjllkgpjmaa
open Go Go.Vx
set_option maxRecDepth 100000
set_option maxHeartbeats 4000000

end Go.Proofs.Ytngccjllkgpjmaa

/- Intervals: the span of the four corners is what the program computes; the reference's Add, Sub, Mul, Div walked. -/
/- Intervals: the span of the four corners is what the program computes; the reference's Add, Sub, Mul, Div walked. -/
set_option linter.all false
namespace Go.Proofs.Ytngccjllkgpjmaa
open Go Go.Vx
set_option maxRecDepth 100000
set_option maxHeartbeats 4000000

end Go.Proofs.Ytngccjllkgpjmaa

/- Chests, walked: the reference's functions. -/
/- Chests, walked: the reference's functions. -/
set_option linter.all false
namespace Go.Proofs.Ytngccjllkgpjmaa
open Go Go.Vx
set_option maxRecDepth 100000
set_option maxHeartbeats 4000000

def okI (w : Wsh) (l : List Plt) (x : List Int) (i : Nat) : Bool :=
  !(decide (x.getD i default < 0) || decide ((l.length : Int) ≤ x.getD i default) || (decide (0 < i) && decide (x.getD i default < x.getD (i - 1) default))) && !decide (w.most < fh (l.getD (x.getD i default).toNat default) w.pr)
def okA (w : Wsh) (l : List Plt) (x : List Int) : Bool := (List.range x.length).all fun i => okI w l x i
def chs (l : List Plt) (x : List Int) : List Plt := x.map fun i => l.getD i.toNat default
def wtS (l : List Plt) (x : List Int) (pr : Int) : Int := (chs l x).foldl (fun s p => s + fh p pr) 0
def chcF (a : Iv) (w : Wsh) (l : List Plt) (x : List Int) : Int × Bool :=
  if (decide (x.length < 1) || decide (2 < x.length)) = true then (0, false) else if okA w l x = true then (wtS l x w.pr, decide (cmpF a (sumO (chs l x)) w.per = 1)) else (0, false)
end Go.Proofs.Ytngccjllkgpjmaa

/- Chests, walked: the reference's choices. -/
/- Chests, walked: the reference's choices. -/
set_option linter.all false
namespace Go.Proofs.Ytngccjllkgpjmaa
open Go Go.Vx
set_option maxRecDepth 100000
set_option maxHeartbeats 4000000

end Go.Proofs.Ytngccjllkgpjmaa

/- Chests, walked: the laws' helpers; the document's examples; the law of Enough. -/
/- Chests, walked: the laws' helpers; the document's examples; the law of Enough. -/
set_option linter.all false
namespace Go.Proofs.Ytngccjllkgpjmaa
open Go Go.Vx
set_option maxRecDepth 100000
set_option maxHeartbeats 4000000

def v19 : VF := { ntmps := 2, res := [.cell 0 true 4], body :=
 (.seq (.region [⟨(some 0), none, (.alloc [(.int .i64 0), (.int .i64 0), (.int .i64 0), (.int .i64 0)]), []⟩])
 (.seq (.region [⟨(some 1), none, (.build [(.int .i64 0), (.int .i64 0), (.int .i64 0), (.int .i64 0)] [(0, 1), (1, 1), (2, 1), (3, 1)]), [.cn (.int .i64 20000), .cn (.int .i64 200000), .cn (.int .i64 6000), .cn (.int .i64 800000)]⟩,
  ⟨none, none, (.store 4), [.tm 0, .tm 1]⟩])
 .ret)) }
theorem v19_is : vfunc Try.prog Try.f19 = some v19 := by kernel_rfl
def v21 : VF := { ntmps := 17, res := [.cell 2 true 1], body :=
 (.seq (.region [⟨(some 2), none, (.alloc [.nil]), []⟩])
 (.seq (.region [⟨(some 3), none, (.alloc [.nil]), []⟩])
 (.seq (.seq (.region [⟨(some 4), none, .mov, [.cn (.int .i64 0)]⟩])
 (.block 0 (.loop (.seq (.seq (.region [⟨(some 5), none, .mov, [.tm 4]⟩,
  ⟨(some 6), none, .mov, [.tm 0]⟩,
  ⟨(some 7), none, (.cmp .lss), [.tm 5, .tm 6]⟩])
 (.cond (.tm 7) .skip
  (.exit 0)))
 (.seq (.block 1 (.region [⟨(some 10), none, (.fieldAddr 0), [.tm 3]⟩,
  ⟨(some 11), none, (.load false 1), [.tm 10]⟩,
  ⟨(some 12), none, (.build [(.int .i64 0), (.int .i64 0)] [(0, 1), (1, 1)]), [.cn (.int .i64 20000), .cn (.int .i64 700)]⟩,
  ⟨(some 13), none, (.buildSlice 2 1 [(.int .i64 0), (.int .i64 0)] [(0, 2)]), [.tm 12]⟩,
  ⟨(some 14), none, (.append 2 16 [(.int .i64 0), (.int .i64 0)]), [.tm 11, .tm 13]⟩,
  ⟨(some 15), none, (.fieldAddr 0), [.tm 3]⟩,
  ⟨none, none, (.store 1), [.tm 15, .tm 14]⟩]))
 (.region [⟨(some 8), none, .mov, [.tm 4]⟩,
  ⟨(some 9), none, (.ari .add), [.tm 8, .cn (.int .i64 1)]⟩,
  ⟨(some 4), none, .mov, [.tm 9]⟩]))))))
 (.seq (.region [⟨(some 16), none, (.load true 1), [.tm 3]⟩,
  ⟨none, none, (.store 1), [.tm 2, .tm 16]⟩])
 .ret)))) }
theorem v21_is : vfunc Try.prog Try.f21 = some v21 := by kernel_rfl
def v22 : VF := { ntmps := 26, res := [.tmp 4], body :=
 (.seq (.region [⟨(some 4), none, .mov, [.cn (.bool false)]⟩])
 (.seq (.seq (.region [⟨(some 6), none, .mov, [.tm 0]⟩,
  ⟨(some 7), none, .len, [.tm 6]⟩,
  ⟨(some 8), none, .mov, [.tm 1]⟩,
  ⟨(some 9), none, .len, [.tm 8]⟩,
  ⟨(some 10), none, (.cmp .neq), [.tm 7, .tm 9]⟩])
 (.cond (.tm 10) (.seq (.region [⟨(some 4), none, .mov, [.cn (.bool false)]⟩])
 .ret)
  .skip))
 (.seq (.seq (.region [⟨(some 5), none, .mov, [.cn (.int .i64 0)]⟩])
 (.block 0 (.loop (.seq (.seq (.region [⟨(some 11), none, .mov, [.tm 5]⟩,
  ⟨(some 12), none, .mov, [.tm 0]⟩,
  ⟨(some 13), none, .len, [.tm 12]⟩,
  ⟨(some 14), none, (.cmp .lss), [.tm 11, .tm 13]⟩])
 (.cond (.tm 14) .skip
  (.exit 0)))
 (.seq (.block 1 (.seq (.draw [] [⟨⟨(some 17), none, .mov, [.tm 0]⟩, []⟩,
  ⟨⟨(some 18), none, .mov, [.tm 5]⟩, []⟩,
  ⟨⟨(some 19), none, (.idxAddr 1), [.tm 17, .tm 18]⟩, []⟩,
  ⟨⟨(some 20), none, (.load false 1), [.tm 19]⟩, []⟩,
  ⟨⟨(some 21), none, .mov, [.tm 1]⟩, []⟩,
  ⟨⟨(some 22), none, .mov, [.tm 5]⟩, []⟩,
  ⟨⟨(some 23), none, (.idxAddr 1), [.tm 21, .tm 22]⟩, []⟩,
  ⟨⟨(some 24), none, (.load false 1), [.tm 23]⟩, []⟩,
  ⟨⟨(some 25), none, (.cmp .neq), [.tm 20, .tm 24]⟩, []⟩])
 (.cond (.tm 25) (.seq (.region [⟨(some 4), none, .mov, [.cn (.bool false)]⟩])
 .ret)
  .skip)))
 (.region [⟨(some 15), none, .mov, [.tm 5]⟩,
  ⟨(some 16), none, (.ari .add), [.tm 15, .cn (.int .i64 1)]⟩,
  ⟨(some 5), none, .mov, [.tm 16]⟩]))))))
 (.seq (.region [⟨(some 4), none, .mov, [.cn (.bool true)]⟩])
 .ret)))) }
theorem v22_is : vfunc Try.prog Try.f22 = some v22 := by kernel_rfl
def v7 : VF := { ntmps := 112, res := [.tmp 0], body :=
 (.seq (.region [⟨(some 0), none, .mov, [.cn (.bool false)]⟩])
 (.seq (.region [⟨(some 17), none, (.call 19), []⟩,
  ⟨(some 18), none, (.buildSlice 4 1 [(.int .i64 0), (.int .i64 0), (.int .i64 0), (.int .i64 0)] [(0, 4)]), [.tm 17]⟩,
  ⟨(some 1), none, .mov, [.tm 18]⟩])
 (.seq (.region [⟨(some 19), none, (.build [(.int .i64 0), (.int .i64 0), (.int .i64 0)] [(0, 1), (1, 1), (2, 1)]), [.cn (.int .i64 100), .cn (.int .i64 600), .cn (.int .i64 4000000)]⟩,
  ⟨(some 2), none, (.alloc [(.int .i64 0), (.int .i64 0), (.int .i64 0)]), []⟩,
  ⟨none, none, (.store 3), [.tm 2, .tm 19]⟩])
 (.seq (.region [⟨(some 21), none, (.call 19), []⟩,
  ⟨(some 22), none, (.call 20), [.tm 21]⟩,
  ⟨(some 20), none, .mov, [.tm 22]⟩,
  ⟨(some 23), none, (.ext 0), [.tm 20]⟩,
  ⟨(some 24), none, (.ext 1), [.tm 20]⟩,
  ⟨(some 3), none, .mov, [.tm 23]⟩,
  ⟨(some 4), none, .mov, [.tm 24]⟩])
 (.seq (.region [⟨(some 26), none, (.call 19), []⟩,
  ⟨(some 27), none, (.call 17), [.tm 26, .cn (.int .i64 600)]⟩,
  ⟨(some 25), none, .mov, [.tm 27]⟩,
  ⟨(some 28), none, (.ext 0), [.tm 25]⟩,
  ⟨(some 29), none, (.ext 1), [.tm 25]⟩,
  ⟨(some 5), none, (.alloc [(.int .i64 0), (.int .i64 0)]), []⟩,
  ⟨none, none, (.store 2), [.tm 5, .tm 28]⟩,
  ⟨(some 6), none, .mov, [.tm 29]⟩])
 (.seq (.region [⟨(some 31), none, (.call 21), [.cn (.int .i64 1)]⟩,
  ⟨(some 32), none, (.call 12), [.tm 31]⟩,
  ⟨(some 30), none, .mov, [.tm 32]⟩,
  ⟨(some 33), none, (.ext 0), [.tm 30]⟩,
  ⟨(some 34), none, (.ext 1), [.tm 30]⟩,
  ⟨(some 7), none, (.alloc [(.int .i64 0), (.int .i64 0)]), []⟩,
  ⟨none, none, (.store 2), [.tm 7, .tm 33]⟩,
  ⟨(some 8), none, .mov, [.tm 34]⟩])
 (.seq (.region [⟨(some 36), none, (.call 21), [.cn (.int .i64 1)]⟩,
  ⟨(some 37), none, .mov, [.tm 1]⟩,
  ⟨(some 38), none, (.call 8), [.tm 36, .tm 37, .cn (.int .i64 500)]⟩,
  ⟨(some 35), none, .mov, [.tm 38]⟩,
  ⟨(some 39), none, (.ext 0), [.tm 35]⟩,
  ⟨(some 40), none, (.ext 1), [.tm 35]⟩,
  ⟨(some 9), none, .mov, [.tm 39]⟩,
  ⟨(some 10), none, .mov, [.tm 40]⟩])
 (.seq (.draw [] [⟨⟨(some 43), none, .mov, [.tm 1]⟩, []⟩,
  ⟨⟨(some 44), none, (.load true 3), [.tm 2]⟩, []⟩,
  ⟨⟨(some 42), none, (.call 21), [.cn (.int .i64 8)]⟩, []⟩,
  ⟨⟨(some 45), none, (.call 10), [.tm 42, .tm 43, .tm 44]⟩, []⟩,
  ⟨⟨(some 41), none, .mov, [.tm 45]⟩, []⟩,
  ⟨⟨(some 46), none, (.ext 0), [.tm 41]⟩, []⟩,
  ⟨⟨(some 47), none, (.ext 1), [.tm 41]⟩, []⟩,
  ⟨⟨(some 11), none, .mov, [.tm 46]⟩, []⟩,
  ⟨⟨(some 12), none, .mov, [.tm 47]⟩, []⟩])
 (.seq (.draw [] [⟨⟨(some 50), none, .mov, [.tm 1]⟩, []⟩,
  ⟨⟨(some 51), none, (.load true 3), [.tm 2]⟩, []⟩,
  ⟨⟨(some 49), none, (.call 21), [.cn (.int .i64 9)]⟩, []⟩,
  ⟨⟨(some 52), none, (.call 10), [.tm 49, .tm 50, .tm 51]⟩, []⟩,
  ⟨⟨(some 48), none, .mov, [.tm 52]⟩, []⟩,
  ⟨⟨(some 53), none, (.ext 0), [.tm 48]⟩, []⟩,
  ⟨⟨(some 54), none, (.ext 1), [.tm 48]⟩, []⟩,
  ⟨⟨(some 13), none, .mov, [.tm 53]⟩, []⟩,
  ⟨⟨(some 14), none, .mov, [.tm 54]⟩, []⟩])
 (.seq (.region [⟨(some 56), none, (.build [(.int .i64 0), (.int .i64 0)] [(0, 1), (1, 1)]), [.cn (.int .i64 10000), .cn (.int .i64 700)]⟩,
  ⟨(some 57), none, (.call 18), [.tm 56, .cn (.int .i64 1000000), .cn (.int .i64 2)]⟩,
  ⟨(some 55), none, .mov, [.tm 57]⟩,
  ⟨(some 58), none, (.ext 0), [.tm 55]⟩,
  ⟨(some 59), none, (.ext 1), [.tm 55]⟩,
  ⟨(some 15), none, (.alloc [(.int .i64 0), (.int .i64 0)]), []⟩,
  ⟨none, none, (.store 2), [.tm 15, .tm 58]⟩,
  ⟨(some 16), none, .mov, [.tm 59]⟩])
 (.seq (.seq (.region [⟨(some 60), none, .mov, [.tm 4]⟩,
  ⟨(some 61), none, (.cmp .neq), [.tm 60, .cn (.int .i64 0)]⟩,
  ⟨(some 62), none, .mov, [.tm 61]⟩,
  ⟨(some 63), (some (62, false)), .mov, [.tm 6]⟩,
  ⟨(some 64), (some (62, false)), (.cmp .neq), [.tm 63, .cn (.int .i64 0)]⟩,
  ⟨(some 65), none, .or, [.tm 62, .tm 64]⟩,
  ⟨(some 66), none, .mov, [.tm 65]⟩,
  ⟨(some 67), (some (66, false)), .mov, [.tm 8]⟩,
  ⟨(some 68), (some (66, false)), (.cmp .neq), [.tm 67, .cn (.int .i64 0)]⟩,
  ⟨(some 69), none, .or, [.tm 66, .tm 68]⟩,
  ⟨(some 70), none, .mov, [.tm 69]⟩,
  ⟨(some 71), (some (70, false)), .mov, [.tm 10]⟩,
  ⟨(some 72), (some (70, false)), (.cmp .neq), [.tm 71, .cn (.int .i64 0)]⟩,
  ⟨(some 73), none, .or, [.tm 70, .tm 72]⟩,
  ⟨(some 74), none, .mov, [.tm 73]⟩,
  ⟨(some 75), (some (74, false)), .mov, [.tm 12]⟩,
  ⟨(some 76), (some (74, false)), (.cmp .neq), [.tm 75, .cn (.int .i64 0)]⟩,
  ⟨(some 77), none, .or, [.tm 74, .tm 76]⟩,
  ⟨(some 78), none, .mov, [.tm 77]⟩,
  ⟨(some 79), (some (78, false)), .mov, [.tm 14]⟩,
  ⟨(some 80), (some (78, false)), (.cmp .neq), [.tm 79, .cn (.int .i64 4)]⟩,
  ⟨(some 81), none, .or, [.tm 78, .tm 80]⟩,
  ⟨(some 82), none, .mov, [.tm 81]⟩,
  ⟨(some 83), (some (82, false)), .mov, [.tm 16]⟩,
  ⟨(some 84), (some (82, false)), (.cmp .neq), [.tm 83, .cn (.int .i64 0)]⟩,
  ⟨(some 85), none, .or, [.tm 82, .tm 84]⟩])
 (.cond (.tm 85) (.seq (.region [⟨(some 0), none, .mov, [.cn (.bool false)]⟩])
 .ret)
  .skip))
 (.seq (.region [⟨(some 86), none, .mov, [.tm 3]⟩,
  ⟨(some 87), none, (.cmp .eql), [.tm 86, .cn (.int .i64 1320000000)]⟩,
  ⟨(some 88), none, .mov, [.tm 87]⟩,
  ⟨(some 89), (some (88, true)), (.load true 2), [.tm 5]⟩,
  ⟨(some 90), (some (88, true)), (.build [(.int .i64 0), (.int .i64 0)] [(0, 1), (1, 1)]), [.cn (.int .i64 3200000), .cn (.int .i64 3200000)]⟩,
  ⟨(some 91), (some (88, true)), (.eqv false [true, true]), [.tm 89, .tm 90]⟩,
  ⟨(some 92), none, .and, [.tm 88, .tm 91]⟩,
  ⟨(some 93), none, .mov, [.tm 92]⟩,
  ⟨(some 94), (some (93, true)), (.load true 2), [.tm 7]⟩,
  ⟨(some 95), (some (93, true)), (.build [(.int .i64 0), (.int .i64 0)] [(0, 1), (1, 1)]), [.cn (.int .i64 314159265), .cn (.int .i64 314159266)]⟩,
  ⟨(some 96), (some (93, true)), (.eqv false [true, true]), [.tm 94, .tm 95]⟩,
  ⟨(some 97), none, .and, [.tm 93, .tm 96]⟩,
  ⟨(some 98), none, .mov, [.tm 97]⟩,
  ⟨(some 99), (some (98, true)), .mov, [.tm 9]⟩,
  ⟨(some 100), (some (98, true)), (.cmp .eql), [.tm 99, .cn (.int .i64 (-1))]⟩,
  ⟨(some 101), none, .and, [.tm 98, .tm 100]⟩,
  ⟨(some 102), none, .mov, [.tm 101]⟩,
  ⟨(some 103), (some (102, true)), .mov, [.tm 11]⟩,
  ⟨(some 104), (some (102, true)), (.buildSlice 1 2 [(.int .i64 0)] [(0, 1), (1, 1)]), [.cn (.int .i64 0), .cn (.int .i64 0)]⟩,
  ⟨(some 105), (some (102, true)), (.call 22), [.tm 103, .tm 104]⟩,
  ⟨(some 106), none, .and, [.tm 102, .tm 105]⟩,
  ⟨(some 107), none, .mov, [.tm 106]⟩,
  ⟨(some 108), (some (107, true)), (.load true 2), [.tm 15]⟩,
  ⟨(some 109), (some (107, true)), (.build [(.int .i64 0), (.int .i64 0)] [(0, 1), (1, 1)]), [.cn (.int .i64 10954), .cn (.int .i64 10955)]⟩,
  ⟨(some 110), (some (107, true)), (.eqv false [true, true]), [.tm 108, .tm 109]⟩,
  ⟨(some 111), none, .and, [.tm 107, .tm 110]⟩,
  ⟨(some 0), none, .mov, [.tm 111]⟩])
 .ret)))))))))))) }
theorem v7_is : vfunc Try.prog Try.f7 = some v7 := by kernel_rfl
def v3 : VF := { ntmps := 46, res := [.tmp 6], body :=
 (.seq (.region [⟨(some 3), none, .box, [.tm 0]⟩,
  ⟨(some 6), none, .mov, [.cn (.bool false)]⟩])
 (.seq (.seq (.region [⟨(some 11), none, (.fieldAddr 0), [.tm 3]⟩,
  ⟨(some 12), none, (.load false 1), [.tm 11]⟩,
  ⟨(some 13), none, .len, [.tm 12]⟩,
  ⟨(some 14), none, (.cmp .gtr), [.tm 13, .cn (.int .i64 30)]⟩,
  ⟨(some 15), none, .mov, [.tm 14]⟩,
  ⟨(some 16), (some (15, false)), .mov, [.tm 1]⟩,
  ⟨(some 17), (some (15, false)), .len, [.tm 16]⟩,
  ⟨(some 18), (some (15, false)), (.cmp .gtr), [.tm 17, .cn (.int .i64 50)]⟩,
  ⟨(some 19), none, .or, [.tm 15, .tm 18]⟩])
 (.cond (.tm 19) (.seq (.region [⟨(some 20), none, (.call 7), []⟩,
  ⟨(some 6), none, .mov, [.tm 20]⟩])
 .ret)
  .skip))
 (.seq (.region [⟨(some 22), none, (.load true 1), [.tm 3]⟩,
  ⟨(some 23), none, .mov, [.tm 1]⟩,
  ⟨(some 24), none, .mov, [.tm 2]⟩,
  ⟨(some 25), none, (.call 8), [.tm 22, .tm 23, .tm 24]⟩,
  ⟨(some 21), none, .mov, [.tm 25]⟩,
  ⟨(some 26), none, (.ext 0), [.tm 21]⟩,
  ⟨(some 27), none, (.ext 1), [.tm 21]⟩,
  ⟨(some 7), none, .mov, [.tm 26]⟩,
  ⟨(some 8), none, .mov, [.tm 27]⟩])
 (.seq (.region [⟨(some 29), none, (.load true 1), [.tm 3]⟩,
  ⟨(some 30), none, .mov, [.tm 1]⟩,
  ⟨(some 31), none, .mov, [.tm 2]⟩,
  ⟨(some 32), none, (.call 9), [.tm 29, .tm 30, .tm 31]⟩,
  ⟨(some 28), none, .mov, [.tm 32]⟩,
  ⟨(some 33), none, (.ext 0), [.tm 28]⟩,
  ⟨(some 34), none, (.ext 1), [.tm 28]⟩,
  ⟨(some 9), none, .mov, [.tm 33]⟩,
  ⟨(some 10), none, .mov, [.tm 34]⟩])
 (.seq (.region [⟨(some 35), none, .mov, [.tm 7]⟩,
  ⟨(some 36), none, .mov, [.tm 9]⟩,
  ⟨(some 37), none, (.cmp .eql), [.tm 35, .tm 36]⟩,
  ⟨(some 38), none, .mov, [.tm 37]⟩,
  ⟨(some 39), (some (38, true)), .mov, [.tm 8]⟩,
  ⟨(some 40), (some (38, true)), .mov, [.tm 10]⟩,
  ⟨(some 41), (some (38, true)), (.cmp .eql), [.tm 39, .tm 40]⟩,
  ⟨(some 42), none, .and, [.tm 38, .tm 41]⟩,
  ⟨(some 43), none, .mov, [.tm 42]⟩,
  ⟨(some 44), (some (43, true)), (.call 7), []⟩,
  ⟨(some 45), none, .and, [.tm 43, .tm 44]⟩,
  ⟨(some 6), none, .mov, [.tm 45]⟩])
 .ret))))) }
def plC : Ctr := { alias := false, of := fun l => match l with
  | [] => .fin (.agg [.int .i64 20000, .int .i64 200000, .int .i64 6000, .int .i64 800000]) []
  | _ => noC }
def chaC : Ctr := { alias := false, of := fun l => match l with
  | [.int .i64 n] => .pre (0 ≤ n ∧ n ≤ 1000) (.fin (.agg [.vs true (decide (n.toNat = 0)) n.toNat 2 (fun _ => enc2 (20000, 700))]) [])
  | _ => noC }
def samC {α : Type} [Inhabited α] [DecidableEq α] (size : Nat) (e : α → List SV) : Ctr := { alias := false, of := fun l => match l with
  | [.vs _ _ n sz get, .vs _ _ m sz' get'] => .ex (List α) fun a => .ex (List α) fun b => .pre (lsP size e n sz get a ∧ lsP size e m sz' get' b ∧ a.length ≤ 1000000000000) (.fin (.bool (decide (a = b))) [])
  | _ => noC }
def samIC : Ctr := samC 1 enc1
def L0 : Env := { ct := fun _ => none, fn := fun _ => none, meth := fun _ _ => none }
theorem L0_ok : EnvOk Try.prog L0 := by
  refine ⟨fun f c h => ?_, fun f vf h => ?_, (fun _ _ _ h => by cases h), by kernel_rfl⟩
  · cases h
  · cases h

theorem pl_ok : plC.ok Try.prog 19 := by
  refine contract Try.func19 v19_is L0_ok 100 plC fun args k h => ⟨args, ?_⟩
  simp only [plC] at h
  split at h
  · refine ⟨by simp [leL, le], ?_⟩
    dsimp only [v19, go_sem, Option.bind, Option.map, List.append_nil, Nat.beq, List.cons_append, List.nil_append, List.append_eq, List.map_cons, List.map_nil, ite_self, reduceIte]
    simp only [true_and, and_true, imp_self, implies_true, decide_eq_true_eq, decide_eq_false_iff_not, Nat.reduceAdd, Nat.reduceLeDiff, Bool.not_not, reduceCtorEq, false_imp_iff, Bool.not_eq_true', Bool.not_eq_false', Bool.false_eq_true, and_self, forall_const, ne_eq, not_false_eq_true, Nat.reduceEqDiff]
    exact ans_le (show k _ [] from h) (leX_le (.agg [.int _ _, .int _ _, .int _ _, .int _ _]) _ (leXL_self _) ⟨trivial, trivial, trivial, trivial, trivial⟩) (fun _ => by simp [freshS, freshL])
  · exact h.1.elim
theorem cha_ok : chaC.ok Try.prog 21 := by
  refine contract Try.func21 v21_is L0_ok 100 chaC fun args k h => ⟨args, ?_⟩
  simp only [chaC] at h
  split at h
  · rename_i n
    obtain ⟨⟨h0, h1⟩, h⟩ := h
    refine ⟨by simp [leL, le], ?_⟩
    obtain ⟨n, rfl⟩ := Int.eq_ofNat_of_zero_le h0
    have h : k (.agg [.vs true (decide (n = 0)) n 2 (fun _ => enc2 (20000, 700))]) [] := h
    dsimp only [v21, go_sem, Option.bind, Option.map, List.append_nil, Nat.beq, List.cons_append, List.nil_append, List.append_eq, List.map_cons, List.map_nil, ite_self, reduceIte]
    simp only [true_and, and_true, imp_self, implies_true, decide_eq_true_eq, decide_eq_false_iff_not, Nat.reduceAdd, Nat.reduceLeDiff, Bool.not_not, reduceCtorEq, false_imp_iff, Bool.not_eq_true', Bool.not_eq_false', Bool.false_eq_true, and_self, forall_const, ne_eq, not_false_eq_true, Nat.reduceEqDiff]
    refine Loop.keep [0, 1, 0] Nat (fun i => [(4, .int .i64 i)]) (fun i => [(1, .box [.own 2 0 i 2]), (2, .own (decide (i = 0)) 2 i (fun _ => enc2 (20000, 700)))]) [.gone] (fun i => i ≤ n) (fun i => n - i) ?_ ?_
    · refine ⟨0, Nat.zero_le _, ?_⟩
      dsimp only [go_sem, Option.bind, Option.map, List.append_nil, Nat.beq, List.cons_append, List.nil_append, List.append_eq, List.map_cons, List.map_nil, ite_self, reduceIte]
      simp only [leH_ghost, leS_mk, leL_cons, leL_nil, le_junk, le_int, le_bool, le_nil, leLL_nil, leLL_cons, leH_cons, leH_nil, leH1_box, leH1_own, leH1_gone, le_vs, le_agg, le_tup, le_ptr, le_own, le_xp, le_fn, le_opt, le_val, le_elem, le_nil_own, le_nil_vs, leH_ghost, leL_chunk, leXL_id, bnd_int, bnd_bool, bnd_val, bnd_nil, bnd_junk, bnd_vs, bnd_xp, bnd_agg, bnd_tup, bnd_ptr, bnd_own, bnd_elem, bnd_fn, bnd_iface, bnd_opt, bndL_nil, bndL_cons, lenH_cons, lenH_nil, imp_self, implies_true, true_and, and_true] <;> simp
    · rintro i hi
      dsimp only [enc2, go_sem, Option.bind, Option.map, List.append_nil, Nat.beq, List.cons_append, List.nil_append, List.append_eq, List.map_cons, List.map_nil, ite_self, reduceIte]
      simp only [true_and, and_true, imp_self, implies_true, decide_eq_true_eq, decide_eq_false_iff_not, Nat.reduceAdd, Nat.reduceLeDiff, Bool.not_not, reduceCtorEq, false_imp_iff, Bool.not_eq_true', Bool.not_eq_false', Bool.false_eq_true, and_self, forall_const, ne_eq, not_false_eq_true, Nat.reduceEqDiff]
      refine ⟨fun hlt => ?_, fun hge => ?_⟩
      · refine ⟨by decide, ⟨by unfold capOk; omega, fun k hk => ?_⟩, i + 1, by omega, by omega, ?_⟩
        · obtain rfl : k = 0 := by omega
          exact ⟨rfl, trivial, trivial, trivial⟩
        · simp only [w_succ (i := i) (n := n) (by omega) (by omega), leS_mk, leL_cons, leL_nil, le_junk, le_int, le_bool, le_nil, leLL_nil, leLL_cons, leH_cons, leH_nil, leH1_box, leH1_own, leH1_gone, le_vs, le_agg, le_tup, le_ptr, le_own, le_xp, le_fn, le_opt, le_val, le_elem, le_nil_own, le_nil_vs, leH_ghost, leL_chunk, leXL_id, bnd_int, bnd_bool, bnd_val, bnd_nil, bnd_junk, bnd_vs, bnd_xp, bnd_agg, bnd_tup, bnd_ptr, bnd_own, bnd_elem, bnd_fn, bnd_iface, bnd_opt, bndL_nil, bndL_cons, lenH_cons, lenH_nil, imp_self, implies_true, true_and, and_true]
          refine ⟨by omega, by omega, by simp, fun k hk => ?_⟩
          split
          · exact ⟨⟨rfl, rfl⟩, ⟨rfl, rfl⟩, trivial⟩
          · obtain rfl : k = i := by omega
            rw [Nat.sub_self]
            exact ⟨⟨rfl, rfl⟩, ⟨rfl, rfl⟩, trivial⟩
      · obtain rfl : i = n := by omega
        refine ans_le (show k _ [] from h) ?_ (fun _ => by simp [enc2, freshS, freshL])
        simp only [expo, view, viewL, getH]
        exact ⟨⟨fun h => h, rfl, rfl, rfl, fun q _ => ⟨⟨rfl, rfl⟩, ⟨rfl, rfl⟩, trivial⟩⟩, trivial⟩
  · exact h.1.elim
theorem list_ne {α : Type} [Inhabited α] {a b : List α} {i : Nat} (h : a.getD i default ≠ b.getD i default) : a ≠ b := fun e => h (by rw [e])
theorem samI_ok : samIC.ok Try.prog 22 := by
  refine contract Try.func22 v22_is L0_ok 200 samIC fun args k h => ?_
  simp only [samIC, samC] at h
  split at h
  · rename_i t z n sz get t' z' m sz' get'
    obtain ⟨a, b, ⟨⟨rfl, rfl, hg⟩, ⟨rfl, rfl, hg'⟩, hbig⟩, h⟩ := h
    refine ⟨[.vs t z a.length 1 (fun k => enc1 (a.getD k default)), .vs t' z' b.length 1 (fun k => enc1 (b.getD k default))], ⟨by simpa [le] using hg, by simpa [le] using hg', trivial⟩, ?_⟩
    have h : k (.bool (decide (a = b))) [] := h
    dsimp only [v22, enc1, go_sem, Option.bind, Option.map, List.append_nil, Nat.beq, List.cons_append, List.nil_append, List.append_eq, List.map_cons, List.map_nil, ite_self, reduceIte]
    simp only [true_and, and_true, imp_self, implies_true, decide_eq_true_eq, decide_eq_false_iff_not, Nat.reduceAdd, Nat.reduceLeDiff, Bool.not_not, reduceCtorEq, false_imp_iff, Bool.not_eq_true', Bool.not_eq_false', Bool.false_eq_true, and_self, forall_const, ne_eq, not_false_eq_true, Nat.reduceEqDiff]
    refine ⟨fun hc => ?_, fun hc => ?_⟩
    · rw [decide_eq_false (show ¬ a = b from fun e => by rw [e] at hc; omega)] at h; exact ans_bool h
    · have hlen : a.length = b.length := by omega
      refine Loop.keep [0, 0, 3] Nat (fun i => [(5, .int .i64 i)]) (fun _ => []) [] (fun i => i ≤ a.length ∧ ∀ j, j < i → a.getD j default = b.getD j default) (fun i => a.length - i) ?_ ?_
      · refine ⟨0, ⟨Nat.zero_le _, fun j h => by omega⟩, ?_⟩
        dsimp only [go_sem, Option.bind, Option.map, List.append_nil, Nat.beq, List.cons_append, List.nil_append, List.append_eq, List.map_cons, List.map_nil, ite_self, reduceIte]
        simp only [leS_mk, leL_cons, leL_nil, le_junk, le_int, le_bool, le_nil, leLL_nil, leLL_cons, leH_cons, leH_nil, leH1_box, leH1_own, leH1_gone, le_vs, le_agg, le_tup, le_ptr, le_own, le_xp, le_fn, le_opt, le_val, le_elem, le_nil_own, le_nil_vs, leH_ghost, leL_chunk, leXL_id, bnd_int, bnd_bool, bnd_val, bnd_nil, bnd_junk, bnd_vs, bnd_xp, bnd_agg, bnd_tup, bnd_ptr, bnd_own, bnd_elem, bnd_fn, bnd_iface, bnd_opt, bndL_nil, bndL_cons, lenH_cons, lenH_nil, imp_self, implies_true, true_and, and_true]
        simp
      · rintro i ⟨hi, ha⟩
        dsimp only [enc1, Int.toNat_natCast, go_sem, Option.bind, Option.map, List.append_nil, Nat.beq, List.cons_append, List.nil_append, List.append_eq, List.map_cons, List.map_nil, ite_self, reduceIte]
        simp only [true_and, and_true, imp_self, implies_true, decide_eq_true_eq, decide_eq_false_iff_not, Nat.reduceAdd, Nat.reduceLeDiff, Bool.not_not, reduceCtorEq, false_imp_iff, Bool.not_eq_true', Bool.not_eq_false', Bool.false_eq_true, and_self, forall_const, ne_eq, not_false_eq_true, Nat.reduceEqDiff]
        refine ⟨fun hlt => ?_, fun hge => ?_⟩
        · refine ⟨⟨by omega, hlt⟩, ⟨by omega, by omega⟩, ?_⟩
          refine ⟨fun hne => ?_, fun heq => ?_⟩
          · rw [decide_eq_false (list_ne (a := a) (b := b) (i := i) fun e => hne (by rw [e]))] at h; exact ans_bool h
          · refine ⟨i + 1, ⟨by omega, fun j hj => ?_⟩, by omega, ?_⟩
            · rcases Nat.lt_or_ge j i with h' | h'
              · exact ha j h'
              · obtain rfl : j = i := by omega
                omega
            · simp only [w_succ (i := i) (n := a.length) (by omega) (by omega), leS_mk, leL_cons, leL_nil, le_junk, le_int, le_bool, le_nil, leLL_nil, leLL_cons, leH_cons, leH_nil, leH1_box, leH1_own, leH1_gone, le_vs, le_agg, le_tup, le_ptr, le_own, le_xp, le_fn, le_opt, le_val, le_elem, le_nil_own, le_nil_vs, leH_ghost, leL_chunk, leXL_id, bnd_int, bnd_bool, bnd_val, bnd_nil, bnd_junk, bnd_vs, bnd_xp, bnd_agg, bnd_tup, bnd_ptr, bnd_own, bnd_elem, bnd_fn, bnd_iface, bnd_opt, bndL_nil, bndL_cons, lenH_cons, lenH_nil, imp_self, implies_true, true_and, and_true] <;> simp
        · have e : a = b := list_ext hlen fun i h => ha i (by omega)
          rw [decide_eq_true e] at h; exact ans_bool h
  · exact h.1.elim

def A0 : Env := { ct := fun n => match n with | 19 => some plC | 21 => some chaC | 22 => some samIC | 20 => some OpC | 17 => some FoC | 12 => some ArC | 8 => some EnC | 10 => some ChC | 18 => some TuC | _ => none, fn := fun _ => none, meth := fun _ _ => none }
theorem A0_ct19 : A0.ct 19 = some plC := rfl
theorem A0_ct21 : A0.ct 21 = some chaC := rfl
theorem A0_ct22 : A0.ct 22 = some samIC := rfl
theorem A0_ct20 : A0.ct 20 = some OpC := rfl
theorem A0_ct17 : A0.ct 17 = some FoC := rfl
theorem A0_ct12 : A0.ct 12 = some ArC := rfl
theorem A0_ct8 : A0.ct 8 = some EnC := rfl
theorem A0_ct10 : A0.ct 10 = some ChC := rfl
theorem A0_ct18 : A0.ct 18 = some TuC := rfl
theorem A0_ok : EnvOk Try.prog A0 := by
  refine ⟨fun f c h => ?_, fun f vf h => ?_, (fun _ _ _ h => by cases h), by kernel_rfl⟩
  · simp only [A0] at h
    split at h
    · cases h; exact ⟨pl_ok, Try.f19, Try.func19, by kernel_rfl, by kernel_rfl⟩
    · cases h; exact ⟨cha_ok, Try.f21, Try.func21, by kernel_rfl, by kernel_rfl⟩
    · cases h; exact ⟨samI_ok, Try.f22, Try.func22, by kernel_rfl, by kernel_rfl⟩
    · cases h; exact ⟨Op_ok, Try.f20, Try.func20, by kernel_rfl, by kernel_rfl⟩
    · cases h; exact ⟨Fo_ok, Try.f17, Try.func17, by kernel_rfl, by kernel_rfl⟩
    · cases h; exact ⟨Ar_ok, Try.f12, Try.func12, by kernel_rfl, by kernel_rfl⟩
    · cases h; exact ⟨En_ok, Try.f8, Try.func8, by kernel_rfl, by kernel_rfl⟩
    · cases h; exact ⟨Ch_ok, Try.f10, Try.func10, by kernel_rfl, by kernel_rfl⟩
    · cases h; exact ⟨Tu_ok, Try.f18, Try.func18, by kernel_rfl, by kernel_rfl⟩
    · cases h
  · cases h

def toes (n : Nat) : List Iv := List.replicate n (20000, 700)
def pal0 : Plt := ⟨20000, 200000, 6000, 800000⟩
theorem toes_ls {n : Nat} : lsP 2 enc2 n 2 (fun _ => [SV.int .i64 20000, .int .i64 700]) (toes n) := by
  refine ⟨rfl, by simp [toes], fun k hk => ?_⟩
  rw [show (toes n).getD k default = (20000, 700) by simp [toes, List.getD_eq_getElem?_getD, List.getElem?_replicate, hk]]
  exact leXL_self _
theorem awake_ok : trueC.ok Try.prog 7 := by
  refine contract Try.func7 v7_is A0_ok 400 trueC fun args k h => ⟨args, ?_⟩
  simp only [trueC] at h
  split at h
  · refine ⟨by simp [leL], ?_⟩
    dsimp only [v7, A0_ct19, A0_ct21, A0_ct22, A0_ct20, A0_ct17, A0_ct12, A0_ct8, A0_ct10, A0_ct18, plC, chaC, samIC, samC, OpC, FoC, ArC, EnC, ChC, TuC, vsI, enc2, enc1, go_sem, Option.bind, Option.map, List.append_nil, Nat.beq, List.cons_append, List.nil_append, List.append_eq, List.map_cons, List.map_nil, ite_self, reduceIte]
    simp only [true_and, and_true, imp_self, implies_true, decide_eq_true_eq, decide_eq_false_iff_not, Nat.reduceAdd, Nat.reduceLeDiff, Bool.not_not, reduceCtorEq, false_imp_iff, Bool.not_eq_true', Bool.not_eq_false', Bool.false_eq_true, and_self, forall_const, ne_eq, not_false_eq_true, Nat.reduceEqDiff]
    have hp : ∀ G : Nat → List SV, leXL (G 0) (encP pal0) → lsP 4 encP 1 4 G [pal0] := fun G hG => ⟨rfl, rfl, fun k hk => match k, hk with | 0, _ => hG⟩
    refine ⟨by decide, by decide, by decide, by decide, by decide, by decide, toes 1, ⟨toes_ls, by simp [toes]⟩, by decide, by decide, by decide, toes 1, [pal0], ⟨toes_ls, hp _ (leXL_self _), by simp [toes], by simp⟩, by decide, by decide, by decide, toes 8, [pal0], ⟨toes_ls, hp _ (leXL_self _), by simp [toes], by simp⟩, ?_⟩
    refine ⟨by decide, by decide, by decide, toes 9, [pal0], ⟨toes_ls, hp _ (leXL_self _), by simp [toes], by simp⟩, by decide, by decide, by decide, by decide, ?_⟩
    have e1 : oF ⟨20000, 200000, 6000, 800000⟩ = (1320000000, 0) := by decide +kernel
    have e2 : fF ⟨20000, 200000, 6000, 800000⟩ 600 = ((3200000, 3200000), 0) := by decide +kernel
    have e3 : aF (toes 1) = ((314159265, 314159266), 0) := by decide +kernel
    have e4 : enoF (toes 1) [pal0] 500 = (-1, 0) := by decide +kernel
    have e5 : choF (toes 8) [pal0] ⟨100, 600, 4000000⟩ = ([0, 0], 0) := by decide +kernel
    have e6 : choF (toes 9) [pal0] ⟨100, 600, 4000000⟩ = ([], 4) := by decide +kernel
    have e7 : tF (10000, 700) 1000000 2 = ((10954, 10955), 0) := by decide +kernel
    simp only [e1, e2, e3, e4, e5, e6, e7]
    simp only [true_and, and_true, imp_self, implies_true, decide_eq_true_eq, decide_eq_false_iff_not, Nat.reduceAdd, Nat.reduceLeDiff, Bool.not_not, reduceCtorEq, false_imp_iff, Bool.not_eq_true', Bool.not_eq_false', Bool.false_eq_true, and_self, forall_const, ne_eq, not_false_eq_true, Nat.reduceEqDiff, decide_true, decide_false, Bool.and_true, Bool.true_and, Bool.and_false, Bool.false_and, Bool.not_true, Bool.not_false, Bool.or_false, Bool.false_or, Bool.or_true, Bool.true_or, Bool.and_self, Bool.or_self, Bool.false_eq_true, Bool.true_eq_false, false_imp_iff, forall_const, true_and, and_true, implies_true, reduceCtorEq, not_true_eq_false, not_false_eq_true, ite_true, ite_false]
    refine ⟨by decide, [0, 0], [0, 0], ⟨lsP_self, ⟨rfl, rfl, fun k hk => match k, hk with | 0, _ => leXL_self _ | 1, _ => leXL_self _⟩, by simp⟩, ?_⟩
    exact ans_bool h
  · exact h.1.elim

/-! ### Shapes -/

def shT : List Sh := [.int .i64, .int .i64]
def shP : List Sh := [.int .i64, .int .i64, .int .i64, .int .i64]
def shC : List Sh := [.slice shT]
theorem t_of {c : List SV} (h : okSL shT c) : ∃ p : Iv, c = enc2 p := by
  obtain ⟨_, _, rfl, ⟨n1, rfl, _⟩, e1⟩ := okSL_cons_inv h
  obtain ⟨_, _, rfl, ⟨n2, rfl, _⟩, e2⟩ := okSL_cons_inv e1
  cases okSL_nil_inv e2
  exact ⟨(n1, n2), rfl⟩
theorem p_of {c : List SV} (h : okSL shP c) : ∃ p : Plt, c = encP p := by
  obtain ⟨_, _, rfl, ⟨n1, rfl, _⟩, e1⟩ := okSL_cons_inv h
  obtain ⟨_, _, rfl, ⟨n2, rfl, _⟩, e2⟩ := okSL_cons_inv e1
  obtain ⟨_, _, rfl, ⟨n3, rfl, _⟩, e3⟩ := okSL_cons_inv e2
  obtain ⟨_, _, rfl, ⟨n4, rfl, _⟩, e4⟩ := okSL_cons_inv e3
  cases okSL_nil_inv e4
  exact ⟨⟨n1, n2, n3, n4⟩, rfl⟩
theorem sls_of {α : Type} [Inhabited α] {sh : List Sh} {e : α → List SV} (he : ∀ c, okSL sh c → ∃ p, c = e p) {v : SV} (h : okS (.slice sh) v) :
    ∃ (z : Bool) (l : List α), l.length ≤ maxLen ∧ leX v (.vs false z l.length (lenSh sh) (fun k => e (l.getD k default))) :=
  slice_of (fun c hc => let ⟨p, h⟩ := he c hc; ⟨p, by rw [h]; exact leXL_self _⟩) h
theorem c_of {c : List SV} (h : okSL shC c) : ∃ (z : Bool) (l : List Iv), l.length ≤ maxLen ∧ leXL c [.vs false z l.length 2 (fun k => enc2 (l.getD k default))] := by
  obtain ⟨_, _, rfl, h6, e6⟩ := okSL_cons_inv h
  cases okSL_nil_inv e6
  obtain ⟨z, l, hl, hle⟩ := sls_of (fun _ => t_of) h6
  exact ⟨z, l, hl, hle, trivial⟩

end Go.Proofs.Ytngccjllkgpjmaa

/- Chests, in plain Lean: the best choice is the best. -/
/- Chests, in plain Lean: the best choice is the best. -/
set_option linter.all false
namespace Go.Proofs.Ytngccjllkgpjmaa
open Go Go.Vx

/-- Is a list a choice, and how heavy? -/
def isC (a : Iv) (w : Wsh) (l : List Plt) (x : List Int) : Prop := (chcF a w l x).2 = true
/-- One choice is no worse than another one: fewer pallets, lighter, or a lesser list. -/
def betterEq (x y : List Int × Int) : Prop := x.1.length < y.1.length ∨ x.1.length = y.1.length ∧ (x.2 < y.2 ∨ x.2 = y.2 ∧ (x.1 = y.1 ∨ ∃ i, i < x.1.length ∧ (∀ j, j < i → x.1.getD j default = y.1.getD j default) ∧ x.1.getD i default < y.1.getD i default))

/-- What the search holds after some candidates: the best one of those, if any is a choice. -/
structure Inv (a : Iv) (w : Wsh) (l : List Plt) (b : Bst) (P : List Int → Prop) : Prop where
  nil : b.1 = [] → b.2 = 0 ∧ ∀ x, P x → ¬ isC a w l x
  some : b.1 ≠ [] → P b.1 ∧ chcF a w l b.1 = (b.2, true) ∧ ∀ x, P x → isC a w l x → betterEq b (x, (chcF a w l x).1)

end Go.Proofs.Ytngccjllkgpjmaa

/- Chests, walked: the law of the best choice. -/
/- Chests, walked: the law of the best choice. -/
set_option linter.all false
namespace Go.Proofs.Ytngccjllkgpjmaa
open Go Go.Vx
set_option maxRecDepth 100000
set_option maxHeartbeats 4000000

end Go.Proofs.Ytngccjllkgpjmaa

/- Chests, in plain Lean: the exact area, the exact force; tubes. -/
/- Chests, in plain Lean: the exact area, the exact force; tubes. -/
set_option linter.all false
namespace Go.Proofs.Ytngccjllkgpjmaa
open Go Go.Vx

def sqs (c : List Iv) : Nat := c.foldl (fun s t => s + (t.1 * t.1).toNat) 0
theorem sqs_take {l : List Iv} {i : Nat} (h : i < l.length) : sqs (l.take (i + 1)) = sqs (l.take i) + ((l.getD i default).1 * (l.getD i default).1).toNat := by
  unfold sqs
  rw [foldl_take_succ h]
theorem sq_rng {t : Iv} (h : toeB t = false) : 0 ≤ t.1 * t.1 ∧ t.1 * t.1 ≤ 10000000000 := by
  obtain ⟨h1, h2, _⟩ := toe_rng h
  exact ⟨Int.mul_nonneg (by omega) (by omega), mul_le' h2 h2 (by omega) (by omega)⟩
theorem sqs_rng {l : List Iv} : ∀ {i : Nat}, i ≤ l.length → (∀ t ∈ l, toeB t = false) → sqs (l.take i) ≤ 10000000000 * i
  | 0, _, _ => by simp [sqs]
  | i + 1, h, hl => by
    rw [sqs_take (by omega)]
    have ih := sqs_rng (i := i) (by omega) hl
    have ht := sq_rng (hl _ (getD_mem (by omega : i < l.length)))
    generalize (l.getD i default).1 * (l.getD i default).1 = m at *
    omega
theorem disc_exact {b : Int} (h0 : 0 ≤ b) (h1 : b ≤ 100000) : (discI b).1 * 4000000000000000000 ≤ b * b * 3141592653589793238 ∧ b * b * 3141592653589793239 ≤ (discI b).2 * 4000000000000000000 := by
  unfold discI
  rw [disc_one h0 h1]
  show (discN false b).1 * _ ≤ _ ∧ _ ≤ (discN true b).1 * _
  rw [(discN_up h0 h1 false).2.2.2, (discN_up h0 h1 true).2.2.2]
  have hn0 : 0 ≤ b * b := Int.mul_nonneg h0 h0
  generalize b * b = m at *
  simp only [rndT, Bool.false_eq_true, if_false, if_true]
  omega
theorem area_exact {l : List Iv} : ∀ {i : Nat}, i ≤ l.length → (∀ t ∈ l, toeB t = false) →
    (areaF (l.take i)).1 * 4000000000000000000 ≤ (sqs (l.take i) : Int) * 3141592653589793238 ∧ (sqs (l.take i) : Int) * 3141592653589793239 ≤ (areaF (l.take i)).2 * 4000000000000000000
  | 0, _, _ => by simp [areaF, sqs]
  | i + 1, h, hl => by
    rw [area_take (by omega), sqs_take (by omega)]
    have ih := area_exact (i := i) (by omega) hl
    have hr := toe_rng (hl _ (getD_mem (by omega : i < l.length)))
    have ht := sq_rng (hl _ (getD_mem (by omega : i < l.length)))
    have hd := disc_exact (b := (l.getD i default).1) (by omega) (by omega)
    generalize (l.getD i default).1 * (l.getD i default).1 = m at *
    generalize discI (l.getD i default).1 = d at *
    dsimp only
    omega
theorem force_exact {p : Plt} {pr : Int} (h : palB p = false) (h1 : 10 ≤ pr) (h2 : pr ≤ 5000) :
    (forceF p pr).2 - (forceF p pr).1 ≤ 1 ∧ ((forceF p pr).1 - p.s) * 1000000 ≤ pr * p.w * p.l ∧ pr * p.w * p.l ≤ ((forceF p pr).2 - p.s) * 1000000 ∧ 0 ≤ pr * p.w * p.l ∧ pr * p.w * p.l ≤ 500000000000000 ∧ 0 ≤ pr * p.w ∧ pr * p.w ≤ 500000000 := by
  obtain ⟨e, e1, e2⟩ := scl_one h h1 h2
  obtain ⟨hw, _, _, hs⟩ := pal_rng h
  have e3 : pr * p.w * p.l = p.w * p.l * pr := by rw [Int.mul_assoc, Int.mul_comm]
  have e4 : pr * p.w ≤ 5000 * 100000 := mul_le' h2 hw.2 (by omega) (by omega)
  have e5 : 0 ≤ pr * p.w := Int.mul_nonneg (by omega) (by omega)
  unfold forceF sclI
  rw [e, e3]
  simp only
  generalize p.w * p.l * pr = x at *
  generalize pr * p.w = y at *
  omega

theorem root_mono {a b : Nat} (h : a ≤ b) : rootN a 2 ≤ rootN b 2 := by
  have h1 := (rootN_spec (n := a) (k := 2) (by omega)).1
  have h2 := (rootN_spec (n := b) (k := 2) (by omega)).2
  rcases Nat.lt_or_ge (rootN b 2) (rootN a 2) with h3 | h3
  · have := Nat.pow_le_pow_left (show rootN b 2 + 1 ≤ rootN a 2 by omega) 2
    omega
  · exact h3
theorem rootUp_mono {a b : Nat} (h : a ≤ b) : rootUp a 2 ≤ rootUp b 2 := by
  have hm := root_mono h
  unfold rootUp
  split
  · rename_i h1
    split
    · omega
    · rename_i h2
      have e : rootN b 2 ^ 2 = b := by have := (rootN_spec (n := b) (k := 2) (by omega)).1; omega
      rcases Nat.lt_or_ge (rootN a 2) (rootN b 2) with h3 | h3
      · omega
      · have e2 : rootN a 2 = rootN b 2 := by omega
        rw [e2] at h1
        omega
  · split <;> omega
theorem root_ge {x n : Nat} (h : x * x ≤ n) : x ≤ rootN n 2 := by
  have h2 := (rootN_spec (n := n) (k := 2) (by omega)).2
  rcases Nat.lt_or_ge (rootN n 2) x with h3 | h3
  · have := Nat.pow_le_pow_left (show rootN n 2 + 1 ≤ x by omega) 2
    rw [Nat.pow_two x] at this
    omega
  · exact h3
/-- What a tube's area is. -/
theorem tub_is {t : Iv} {len b : Int} (h1 : 100 ≤ t.1 ∧ t.1 ≤ 100000) (h2 : 0 ≤ len ∧ len ≤ 3000000) (h3 : 0 ≤ b ∧ b ≤ 8) :
    tubS t len b = (t.1 * t.1 * (1000 + len / 10000 + 50 * b) / 1000, -(-(t.1 * t.1 * (1000 + len / 10000 + 50 * b)) / 1000)) ∧ 0 ≤ t.1 * t.1 ∧ t.1 * t.1 ≤ 10000000000 ∧ 0 ≤ t.1 * t.1 * (1000 + len / 10000 + 50 * b) ∧ t.1 * t.1 * (1000 + len / 10000 + 50 * b) ≤ 17000000000000 := by
  unfold tubS
  have m1 : t.1 * t.1 ≤ 100000 * 100000 := mul_le' h1.2 h1.2 (by omega) (by omega)
  have m2 : 0 ≤ t.1 * t.1 := Int.mul_nonneg (by omega) (by omega)
  have hn : 1000 ≤ 1000 + len / 10000 + 50 * b ∧ 1000 + len / 10000 + 50 * b ≤ 1700 := by omega
  generalize 1000 + len / 10000 + 50 * b = n at *
  have e1 : t.1 * t.1 * n ≤ 10000000000 * 1700 := mul_le' m1 hn.2 m2 (by omega)
  have e2 : 0 ≤ t.1 * t.1 * n := Int.mul_nonneg m2 (by omega)
  generalize t.1 * t.1 = m at *
  have h5 : ivE [(m, m)] = 0 := by
    unfold ivE
    rw [if_pos (by simp [numOk]; omega), if_pos (by simp)]
  unfold sclF
  rw [if_neg (by rw [h5]; simp), if_neg (by omega)]
  generalize m * n = x at *
  refine ⟨?_, m2, m1, e2, e1⟩
  simp only [spanI, lowI, highI, List.foldl_cons, List.foldl_nil, Int.lt_irrefl, if_false, rndF, rndB, rndT, Bool.false_eq_true, if_true]
  rw [if_pos (by omega), if_pos (by omega)]
  simp [spanR]
theorem root_is {p : Iv} (h0 : 0 ≤ p.1) (h1 : p.1 ≤ p.2) (h2 : p.2 ≤ 1000000000000) : rootF p 2 = (((rootN p.1.toNat 2 : Int), (rootUp p.2.toNat 2 : Int)), 0) := by
  obtain ⟨lo, hi⟩ := p
  dsimp only at *
  have h5 : ivE [(lo, hi)] = 0 := by
    unfold ivE
    rw [if_pos (by simp [numOk]; omega), if_pos (by simp; omega)]
  unfold rootF
  rw [if_neg (by rw [h5]; simp), if_neg (by omega), if_neg (by show ¬ lo < 0; omega)]
  rfl
def tubB (t : Iv) (len b : Int) : Bool := toeB t || outN len 0 3000000 || decide (b < 0) || decide (8 < b)
theorem tubB_f {t : Iv} {len b : Int} (h : tubB t len b = false) : (100 ≤ t.1 ∧ t.1 ≤ 100000) ∧ (0 ≤ len ∧ len ≤ 3000000) ∧ 0 ≤ b ∧ b ≤ 8 := by
  unfold tubB at h
  rw [Bool.or_eq_false_iff, Bool.or_eq_false_iff, Bool.or_eq_false_iff, outN_f, decide_eq_false_iff_not, decide_eq_false_iff_not] at h
  obtain ⟨⟨⟨h1, h2⟩, h3⟩, h4⟩ := h
  have := toe_rng h1
  omega
theorem tub_rng {t : Iv} {len b : Int} (h : tubB t len b = false) : 0 ≤ (tubS t len b).1 ∧ (tubS t len b).1 ≤ (tubS t len b).2 ∧ (tubS t len b).2 ≤ 1000000000000 ∧ t.1 * t.1 ≤ (tubS t len b).1 := by
  obtain ⟨h1, h2, h3⟩ := tubB_f h
  obtain ⟨e, m1, m2, m3, m4⟩ := tub_is h1 h2 h3
  rw [e]
  have hn : 1000 ≤ 1000 + len / 10000 + 50 * b := by omega
  have : t.1 * t.1 * 1000 ≤ t.1 * t.1 * (1000 + len / 10000 + 50 * b) := Int.mul_le_mul_of_nonneg_left hn m1
  generalize t.1 * t.1 * (1000 + len / 10000 + 50 * b) = x at *
  generalize t.1 * t.1 = m at *
  dsimp only
  omega
/-- A tube that is longer, or has more bends, is no narrower. -/
theorem tub_mono {t : Iv} {len b len' b' : Int} (h : tubB t len b = false) (h' : tubB t len' b' = false) (hl : len ≤ len') (hb : b ≤ b') : (tubS t len b).1 ≤ (tubS t len' b').1 ∧ (tubS t len b).2 ≤ (tubS t len' b').2 := by
  obtain ⟨h1, h2, h3⟩ := tubB_f h
  obtain ⟨h1', h2', h3'⟩ := tubB_f h'
  obtain ⟨e, m1, m2, m3, m4⟩ := tub_is h1 h2 h3
  obtain ⟨e', _, _, m3', m4'⟩ := tub_is h1' h2' h3'
  rw [e, e']
  have hn : 1000 + len / 10000 + 50 * b ≤ 1000 + len' / 10000 + 50 * b' := by omega
  have : t.1 * t.1 * (1000 + len / 10000 + 50 * b) ≤ t.1 * t.1 * (1000 + len' / 10000 + 50 * b') := Int.mul_le_mul_of_nonneg_left hn m1
  generalize t.1 * t.1 * (1000 + len / 10000 + 50 * b) = x at *
  generalize t.1 * t.1 * (1000 + len' / 10000 + 50 * b') = y at *
  dsimp only
  omega
theorem tube_true {t : Iv} {len b : Int} (h : tubB t len b = false) : ∃ lo hi : Int, rootF (tubS t len b) 2 = ((lo, hi), 0) ∧ t.1 ≤ lo ∧
    ∀ len' b' : Int, tubB t len' b' = false → len ≤ len' → b ≤ b' → ∃ lo' hi' : Int, rootF (tubS t len' b') 2 = ((lo', hi'), 0) ∧ lo ≤ lo' ∧ hi ≤ hi' := by
  obtain ⟨r1, r2, r3, r4⟩ := tub_rng h
  obtain ⟨⟨hx, _⟩, _⟩ := tubB_f h
  refine ⟨_, _, root_is r1 r2 r3, ?_, fun len' b' h' hl hb => ?_⟩
  · have := root_ge (x := t.1.toNat) (n := (tubS t len b).1.toNat) ?_
    · omega
    · have e : ((t.1.toNat * t.1.toNat : Nat) : Int) = t.1 * t.1 := by
        rw [Int.natCast_mul, Int.toNat_of_nonneg (by omega)]
      omega
  · obtain ⟨s1, s2, s3, _⟩ := tub_rng h'
    obtain ⟨q1, q2⟩ := tub_mono h h' hl hb
    refine ⟨_, _, root_is s1 s2 s3, ?_, ?_⟩
    · have := root_mono (a := (tubS t len b).1.toNat) (b := (tubS t len' b').1.toNat) (by omega)
      omega
    · have := rootUp_mono (a := (tubS t len b).2.toNat) (b := (tubS t len' b').2.toNat) (by omega)
      omega
theorem tF_is {t : Iv} {len b : Int} : tF t len b = if tubB t len b = true then ((0, 0), 2) else rootF (tubS t len b) 2 := rfl
theorem tube_no {t : Iv} {len b : Int} (h : ¬ (tF t len b).2 = 0) : (tF t len b).1 = (0, 0) := by
  rw [tF_is] at *
  split
  · rfl
  · rename_i hb
    rw [if_neg hb] at h
    obtain ⟨lo, hi, e, _⟩ := tube_true (by simpa using hb)
    rw [e] at h
    exact absurd rfl h
theorem tube_yes {t : Iv} {len b : Int} (h : (tF t len b).2 = 0) : (0 ≤ len ∧ len ≤ 3000000) ∧ (0 ≤ b ∧ b ≤ 8) ∧
    (tF t (min (len + 100000) 3000000) (min (b + 1) 8)).2 = 0 ∧ t.1 ≤ (tF t len b).1.1 ∧ (tF t len b).1.1 ≤ (tF t (min (len + 100000) 3000000) (min (b + 1) 8)).1.1 ∧ (tF t len b).1.2 ≤ (tF t (min (len + 100000) 3000000) (min (b + 1) 8)).1.2 := by
  have hb : tubB t len b = false := by
    rw [tF_is] at h
    cases hx : tubB t len b with
    | false => rfl
    | true => rw [if_pos hx] at h; cases h
  obtain ⟨h1, h2, h3⟩ := tubB_f hb
  have hb' : tubB t (min (len + 100000) 3000000) (min (b + 1) 8) = false := by
    unfold tubB at hb ⊢
    rw [Bool.or_eq_false_iff, Bool.or_eq_false_iff, Bool.or_eq_false_iff, outN_f, decide_eq_false_iff_not, decide_eq_false_iff_not] at hb ⊢
    exact ⟨⟨⟨hb.1.1.1, by omega⟩, by omega⟩, by omega⟩
  obtain ⟨lo, hi, e, h4, h5⟩ := tube_true hb
  obtain ⟨lo', hi', e', h6, h7⟩ := h5 _ _ hb' (by omega) (by omega)
  have q : tF t len b = ((lo, hi), 0) := by rw [tF_is, if_neg (by rw [hb]; simp), e]
  have q' : tF t (min (len + 100000) 3000000) (min (b + 1) 8) = ((lo', hi'), 0) := by rw [tF_is, if_neg (by rw [hb']; simp), e']
  rw [q, q']
  exact ⟨h2, h3, rfl, h4, h6, h7⟩
theorem force_yes {p : Plt} {pr : Int} (h : (fF p pr).2 = 0) : palB p = false ∧ (10 ≤ pr ∧ pr ≤ 5000) ∧ (fF p pr).1 = forceF p pr := by
  unfold fF at *
  split at h
  · cases h
  · rename_i hb
    rw [if_neg hb]
    rw [Bool.not_eq_true, Bool.or_eq_false_iff, outN_f] at hb
    exact ⟨hb.1, hb.2, rfl⟩
end Go.Proofs.Ytngccjllkgpjmaa

/- Chests, in plain Lean: numbers of the exact area. -/
/- Chests, in plain Lean: numbers of the exact area. -/
set_option linter.all false
namespace Go.Proofs.Ytngccjllkgpjmaa
open Go Go.Vx

theorem nl4 {a : Nat} (h : a < 340282366920938463463374607431768211456) : nl a ≤ 4 := nl_le.2 (by simpa using h)
theorem ord_pos {a b : Nat} (h : a ≤ b) : ¬ 0 < ordN a b := by
  unfold ordN
  split
  · omega
  · rw [if_neg (by omega)]; omega
theorem ord_neg {a b : Nat} (h : b ≤ a) : ¬ ordN a b < 0 := by
  unfold ordN
  rw [if_neg (by omega)]
  split <;> omega
theorem lo_le {a S : Nat} {x : Int} (h0 : 0 ≤ x) (ha : a = x.toNat) (h : x * 4000000000000000000 ≤ (S : Int) * 3141592653589793238) : a * 4000000000000000000 ≤ S * 3141592653589793238 := by
  have : (a : Int) = x := by rw [ha]; exact Int.toNat_of_nonneg h0
  omega
theorem hi_le {a S : Nat} {x : Int} (h0 : 0 ≤ x) (ha : a = x.toNat) (h : (S : Int) * 3141592653589793239 ≤ x * 4000000000000000000) : S * 3141592653589793239 ≤ a * 4000000000000000000 := by
  have : (a : Int) = x := by rw [ha]; exact Int.toNat_of_nonneg h0
  omega
theorem mul_small {a b n m : Nat} (ha : a ≤ n) (hb : b ≤ m) (h : n * m < 340282366920938463463374607431768211456) : nl (a * b) ≤ 4 :=
  nl4 (Nat.lt_of_le_of_lt (Nat.mul_le_mul ha hb) h)
theorem true_nums {x y : Int} {S q1 q2 q3 q4 : Nat} (r1 : 0 ≤ x) (r2 : x ≤ 1000000000000) (r3 : 0 ≤ y) (r4 : y ≤ 1000000000000) (hS : S ≤ 1000000000000)
    (ex1 : x * 4000000000000000000 ≤ (S : Int) * 3141592653589793238) (ex2 : (S : Int) * 3141592653589793239 ≤ y * 4000000000000000000)
    (h1 : q1 = 4) (h2 : q2 = 1000000000000000000) (h3 : q3 = 3141592653589793238) (h4 : q4 = 3141592653589793239) :
    (nl (x.toNat * (q1 * q2)) ≤ 4 ∧ nl (y.toNat * (q1 * q2)) ≤ 4 ∧ nl (S * q3) ≤ 4 ∧ nl (S * q4) ≤ 4) ∧ (nl (q1 * q2) ≤ 4 ∧ nl S ≤ 4 ∧ nl x.toNat ≤ 4 ∧ nl y.toNat ≤ 4) ∧ (nl q1 ≤ 4 ∧ nl q2 ≤ 4 ∧ nl q3 ≤ 4 ∧ nl q4 ≤ 4) ∧
    ¬ 0 < ordN (x.toNat * (q1 * q2)) (S * q3) ∧ ¬ ordN (y.toNat * (q1 * q2)) (S * q4) < 0 := by
  have hU : q1 * q2 = 4000000000000000000 := by rw [h1, h2]
  have hx : x.toNat ≤ 1000000000000 := by clear ex1 ex2; omega
  have hy : y.toNat ≤ 1000000000000 := by clear ex1 ex2; omega
  have e1 := lo_le r1 rfl ex1
  have e2 := hi_le r3 rfl ex2
  clear ex1 ex2
  rw [hU]
  refine ⟨⟨mul_small hx (Nat.le_refl _) (by decide), mul_small hy (Nat.le_refl _) (by decide), mul_small hS (Nat.le_of_eq h3) (by decide), mul_small hS (Nat.le_of_eq h4) (by decide)⟩, ⟨nl4 (by decide), nl4 (Nat.lt_of_le_of_lt hS (by decide)), nl4 (Nat.lt_of_le_of_lt hx (by decide)), nl4 (Nat.lt_of_le_of_lt hy (by decide))⟩, ⟨nl4 (by rw [h1]; decide), nl4 (by rw [h2]; decide), nl4 (by rw [h3]; decide), nl4 (by rw [h4]; decide)⟩, ord_pos (by rw [h3]; exact e1), ord_neg (by rw [h4]; exact e2)⟩
end Go.Proofs.Ytngccjllkgpjmaa

/- Chests, walked: the law of what is true. -/
/- Chests, walked: the law of what is true. -/
set_option linter.all false
namespace Go.Proofs.Ytngccjllkgpjmaa
open Go Go.Vx
set_option maxRecDepth 100000
set_option maxHeartbeats 4000000

def v6 : VF := { ntmps := 195, res := [.tmp 6], body :=
 (.seq (.region [⟨(some 3), none, .box, [.tm 0]⟩,
  ⟨(some 4), none, .box, [.tm 1]⟩,
  ⟨(some 5), none, .box, [.tm 2]⟩,
  ⟨(some 6), none, .mov, [.cn (.bool false)]⟩])
 (.seq (.seq (.region [⟨(some 21), none, (.fieldAddr 0), [.tm 3]⟩,
  ⟨(some 22), none, (.load false 1), [.tm 21]⟩,
  ⟨(some 23), none, .len, [.tm 22]⟩,
  ⟨(some 24), none, (.cmp .gtr), [.tm 23, .cn (.int .i64 30)]⟩])
 (.cond (.tm 24) (.seq (.region [⟨(some 25), none, (.call 7), []⟩,
  ⟨(some 6), none, .mov, [.tm 25]⟩])
 .ret)
  .skip))
 (.seq (.region [⟨(some 27), none, (.load true 1), [.tm 3]⟩,
  ⟨(some 28), none, (.call 12), [.tm 27]⟩,
  ⟨(some 26), none, .mov, [.tm 28]⟩,
  ⟨(some 29), none, (.ext 0), [.tm 26]⟩,
  ⟨(some 30), none, (.ext 1), [.tm 26]⟩,
  ⟨(some 7), none, (.alloc [(.int .i64 0), (.int .i64 0)]), []⟩,
  ⟨none, none, (.store 2), [.tm 7, .tm 29]⟩,
  ⟨(some 8), none, .mov, [.tm 30]⟩])
 (.seq (.seq (.region [⟨(some 31), none, .mov, [.tm 8]⟩,
  ⟨(some 32), none, (.cmp .eql), [.tm 31, .cn (.int .i64 0)]⟩])
 (.cond (.tm 32) (.seq (.region [⟨(some 33), none, (.buildSlice 1 0 [(.int .u32 0)] []), []⟩,
  ⟨(some 9), none, .mov, [.tm 33]⟩])
 (.seq (.seq (.region [⟨(some 10), none, .mov, [.cn (.int .i64 0)]⟩])
 (.block 0 (.loop (.seq (.seq (.region [⟨(some 34), none, .mov, [.tm 10]⟩,
  ⟨(some 35), none, (.fieldAddr 0), [.tm 3]⟩,
  ⟨(some 36), none, (.load false 1), [.tm 35]⟩,
  ⟨(some 37), none, .len, [.tm 36]⟩,
  ⟨(some 38), none, (.cmp .lss), [.tm 34, .tm 37]⟩])
 (.cond (.tm 38) .skip
  (.exit 0)))
 (.seq (.block 1 (.draw [] [⟨⟨(some 41), none, .mov, [.tm 9]⟩, []⟩,
  ⟨⟨(some 42), none, (.fieldAddr 0), [.tm 3]⟩, []⟩,
  ⟨⟨(some 43), none, (.load false 1), [.tm 42]⟩, []⟩,
  ⟨⟨(some 44), none, .mov, [.tm 10]⟩, []⟩,
  ⟨⟨(some 45), none, (.idxAddr 2), [.tm 43, .tm 44]⟩, []⟩,
  ⟨⟨(some 46), none, (.fieldAddr 0), [.tm 45]⟩, []⟩,
  ⟨⟨(some 47), none, (.load false 1), [.tm 46]⟩, []⟩,
  ⟨⟨(some 48), none, (.fieldAddr 0), [.tm 3]⟩, []⟩,
  ⟨⟨(some 49), none, (.load false 1), [.tm 48]⟩, []⟩,
  ⟨⟨(some 50), none, .mov, [.tm 10]⟩, []⟩,
  ⟨⟨(some 51), none, (.idxAddr 2), [.tm 49, .tm 50]⟩, []⟩,
  ⟨⟨(some 52), none, (.fieldAddr 0), [.tm 51]⟩, []⟩,
  ⟨⟨(some 53), none, (.load false 1), [.tm 52]⟩, []⟩,
  ⟨⟨(some 54), none, (.ari .mul), [.tm 47, .tm 53]⟩, []⟩,
  ⟨⟨(some 55), none, (.conv .u64), [.tm 54]⟩, []⟩,
  ⟨⟨(some 56), none, (.call 14), [.tm 55]⟩, []⟩,
  ⟨⟨(some 57), none, (.call 13), [.tm 41, .tm 56]⟩, []⟩,
  ⟨⟨(some 9), none, .mov, [.tm 57]⟩, []⟩]))
 (.region [⟨(some 39), none, .mov, [.tm 10]⟩,
  ⟨(some 40), none, (.ari .add), [.tm 39, .cn (.int .i64 1)]⟩,
  ⟨(some 10), none, .mov, [.tm 40]⟩]))))))
 (.seq (.region [⟨(some 58), none, (.call 14), [.cn (.int .u64 4)]⟩,
  ⟨(some 59), none, (.call 14), [.cn (.int .u64 1000000000000000000)]⟩,
  ⟨(some 60), none, (.call 15), [.tm 58, .tm 59]⟩,
  ⟨(some 11), none, .mov, [.tm 60]⟩])
 (.seq (.region [⟨(some 61), none, .mov, [.tm 9]⟩,
  ⟨(some 62), none, (.call 14), [.cn (.int .u64 3141592653589793238)]⟩,
  ⟨(some 63), none, (.call 15), [.tm 61, .tm 62]⟩,
  ⟨(some 12), none, .mov, [.tm 63]⟩])
 (.seq (.region [⟨(some 64), none, .mov, [.tm 9]⟩,
  ⟨(some 65), none, (.call 14), [.cn (.int .u64 3141592653589793239)]⟩,
  ⟨(some 66), none, (.call 15), [.tm 64, .tm 65]⟩,
  ⟨(some 13), none, .mov, [.tm 66]⟩])
 (.seq (.region [⟨(some 67), none, (.fieldAddr 0), [.tm 7]⟩,
  ⟨(some 68), none, (.load false 1), [.tm 67]⟩,
  ⟨(some 69), none, (.cmp .lss), [.tm 68, .cn (.int .i64 0)]⟩,
  ⟨(some 70), none, .mov, [.tm 69]⟩,
  ⟨(some 71), (some (70, false)), (.fieldAddr 0), [.tm 7]⟩,
  ⟨(some 72), (some (70, false)), (.load false 1), [.tm 71]⟩,
  ⟨(some 73), (some (70, false)), (.conv .u64), [.tm 72]⟩,
  ⟨(some 74), (some (70, false)), (.call 14), [.tm 73]⟩,
  ⟨(some 75), (some (70, false)), .mov, [.tm 11]⟩,
  ⟨(some 76), (some (70, false)), (.call 15), [.tm 74, .tm 75]⟩,
  ⟨(some 77), (some (70, false)), .mov, [.tm 12]⟩,
  ⟨(some 78), (some (70, false)), (.call 16), [.tm 76, .tm 77]⟩,
  ⟨(some 79), (some (70, false)), (.cmp .gtr), [.tm 78, .cn (.int .i64 0)]⟩,
  ⟨(some 80), none, .or, [.tm 70, .tm 79]⟩,
  ⟨(some 81), none, .mov, [.tm 80]⟩,
  ⟨(some 82), (some (81, false)), (.fieldAddr 1), [.tm 7]⟩,
  ⟨(some 83), (some (81, false)), (.load false 1), [.tm 82]⟩,
  ⟨(some 84), (some (81, false)), .max, [.tm 83, .cn (.int .i64 0)]⟩,
  ⟨(some 85), (some (81, false)), (.conv .u64), [.tm 84]⟩,
  ⟨(some 86), (some (81, false)), (.call 14), [.tm 85]⟩,
  ⟨(some 87), (some (81, false)), .mov, [.tm 11]⟩,
  ⟨(some 88), (some (81, false)), (.call 15), [.tm 86, .tm 87]⟩,
  ⟨(some 89), (some (81, false)), .mov, [.tm 13]⟩,
  ⟨(some 90), (some (81, false)), (.call 16), [.tm 88, .tm 89]⟩,
  ⟨(some 91), (some (81, false)), (.cmp .lss), [.tm 90, .cn (.int .i64 0)]⟩,
  ⟨(some 92), none, .or, [.tm 81, .tm 91]⟩])
 (.cond (.tm 92) (.seq (.region [⟨(some 6), none, .mov, [.cn (.bool false)]⟩])
 .ret)
  .skip)))))))
  .skip))
 (.seq (.region [⟨(some 94), none, (.load true 4), [.tm 4]⟩,
  ⟨(some 95), none, (.fieldAddr 4), [.tm 5]⟩,
  ⟨(some 96), none, (.load false 1), [.tm 95]⟩,
  ⟨(some 97), none, (.call 17), [.tm 94, .tm 96]⟩,
  ⟨(some 93), none, .mov, [.tm 97]⟩,
  ⟨(some 98), none, (.ext 0), [.tm 93]⟩,
  ⟨(some 99), none, (.ext 1), [.tm 93]⟩,
  ⟨(some 14), none, (.alloc [(.int .i64 0), (.int .i64 0)]), []⟩,
  ⟨none, none, (.store 2), [.tm 14, .tm 98]⟩,
  ⟨(some 15), none, .mov, [.tm 99]⟩])
 (.seq (.seq (.region [⟨(some 100), none, .mov, [.tm 15]⟩,
  ⟨(some 101), none, (.cmp .eql), [.tm 100, .cn (.int .i64 0)]⟩])
 (.cond (.tm 101) (.seq (.region [⟨(some 102), none, (.fieldAddr 4), [.tm 5]⟩,
  ⟨(some 103), none, (.load false 1), [.tm 102]⟩,
  ⟨(some 104), none, (.fieldAddr 0), [.tm 4]⟩,
  ⟨(some 105), none, (.load false 1), [.tm 104]⟩,
  ⟨(some 106), none, (.ari .mul), [.tm 103, .tm 105]⟩,
  ⟨(some 107), none, (.fieldAddr 1), [.tm 4]⟩,
  ⟨(some 108), none, (.load false 1), [.tm 107]⟩,
  ⟨(some 109), none, (.ari .mul), [.tm 106, .tm 108]⟩,
  ⟨(some 16), none, .mov, [.tm 109]⟩])
 (.seq (.region [⟨(some 110), none, (.fieldAddr 1), [.tm 14]⟩,
  ⟨(some 111), none, (.load false 1), [.tm 110]⟩,
  ⟨(some 112), none, (.fieldAddr 0), [.tm 14]⟩,
  ⟨(some 113), none, (.load false 1), [.tm 112]⟩,
  ⟨(some 114), none, (.ari .sub), [.tm 111, .tm 113]⟩,
  ⟨(some 115), none, (.cmp .gtr), [.tm 114, .cn (.int .i64 1)]⟩,
  ⟨(some 116), none, .mov, [.tm 115]⟩,
  ⟨(some 117), (some (116, false)), (.fieldAddr 0), [.tm 14]⟩,
  ⟨(some 118), (some (116, false)), (.load false 1), [.tm 117]⟩,
  ⟨(some 119), (some (116, false)), (.fieldAddr 3), [.tm 4]⟩,
  ⟨(some 120), (some (116, false)), (.load false 1), [.tm 119]⟩,
  ⟨(some 121), (some (116, false)), (.ari .sub), [.tm 118, .tm 120]⟩,
  ⟨(some 122), (some (116, false)), (.ari .mul), [.tm 121, .cn (.int .i64 1000000)]⟩,
  ⟨(some 123), (some (116, false)), .mov, [.tm 16]⟩,
  ⟨(some 124), (some (116, false)), (.cmp .gtr), [.tm 122, .tm 123]⟩,
  ⟨(some 125), none, .or, [.tm 116, .tm 124]⟩,
  ⟨(some 126), none, .mov, [.tm 125]⟩,
  ⟨(some 127), (some (126, false)), (.fieldAddr 1), [.tm 14]⟩,
  ⟨(some 128), (some (126, false)), (.load false 1), [.tm 127]⟩,
  ⟨(some 129), (some (126, false)), (.fieldAddr 3), [.tm 4]⟩,
  ⟨(some 130), (some (126, false)), (.load false 1), [.tm 129]⟩,
  ⟨(some 131), (some (126, false)), (.ari .sub), [.tm 128, .tm 130]⟩,
  ⟨(some 132), (some (126, false)), (.ari .mul), [.tm 131, .cn (.int .i64 1000000)]⟩,
  ⟨(some 133), (some (126, false)), .mov, [.tm 16]⟩,
  ⟨(some 134), (some (126, false)), (.cmp .lss), [.tm 132, .tm 133]⟩,
  ⟨(some 135), none, .or, [.tm 126, .tm 134]⟩])
 (.cond (.tm 135) (.seq (.region [⟨(some 6), none, .mov, [.cn (.bool false)]⟩])
 .ret)
  .skip)))
  .skip))
 (.seq (.region [⟨(some 137), none, (.fieldAddr 0), [.tm 5]⟩,
  ⟨(some 138), none, (.load true 2), [.tm 137]⟩,
  ⟨(some 139), none, (.fieldAddr 2), [.tm 5]⟩,
  ⟨(some 140), none, (.load false 1), [.tm 139]⟩,
  ⟨(some 141), none, (.fieldAddr 3), [.tm 5]⟩,
  ⟨(some 142), none, (.load false 1), [.tm 141]⟩,
  ⟨(some 143), none, (.call 18), [.tm 138, .tm 140, .tm 142]⟩,
  ⟨(some 136), none, .mov, [.tm 143]⟩,
  ⟨(some 144), none, (.ext 0), [.tm 136]⟩,
  ⟨(some 145), none, (.ext 1), [.tm 136]⟩,
  ⟨(some 17), none, (.alloc [(.int .i64 0), (.int .i64 0)]), []⟩,
  ⟨none, none, (.store 2), [.tm 17, .tm 144]⟩,
  ⟨(some 18), none, .mov, [.tm 145]⟩])
 (.seq (.seq (.region [⟨(some 146), none, .mov, [.tm 18]⟩,
  ⟨(some 147), none, (.cmp .neq), [.tm 146, .cn (.int .i64 0)]⟩])
 (.cond (.tm 147) (.seq (.region [⟨(some 148), none, (.load true 2), [.tm 17]⟩,
  ⟨(some 149), none, (.build [(.int .i64 0), (.int .i64 0)] []), []⟩,
  ⟨(some 150), none, (.eqv false [true, true]), [.tm 148, .tm 149]⟩,
  ⟨(some 151), none, .mov, [.tm 150]⟩,
  ⟨(some 152), (some (151, true)), (.call 7), []⟩,
  ⟨(some 153), none, .and, [.tm 151, .tm 152]⟩,
  ⟨(some 6), none, .mov, [.tm 153]⟩])
 .ret)
  .skip))
 (.seq (.region [⟨(some 155), none, (.fieldAddr 0), [.tm 5]⟩,
  ⟨(some 156), none, (.load true 2), [.tm 155]⟩,
  ⟨(some 157), none, (.fieldAddr 2), [.tm 5]⟩,
  ⟨(some 158), none, (.load false 1), [.tm 157]⟩,
  ⟨(some 159), none, (.ari .add), [.tm 158, .cn (.int .i64 100000)]⟩,
  ⟨(some 160), none, .min, [.tm 159, .cn (.int .i64 3000000)]⟩,
  ⟨(some 161), none, (.fieldAddr 3), [.tm 5]⟩,
  ⟨(some 162), none, (.load false 1), [.tm 161]⟩,
  ⟨(some 163), none, (.ari .add), [.tm 162, .cn (.int .i64 1)]⟩,
  ⟨(some 164), none, .min, [.tm 163, .cn (.int .i64 8)]⟩,
  ⟨(some 165), none, (.call 18), [.tm 156, .tm 160, .tm 164]⟩,
  ⟨(some 154), none, .mov, [.tm 165]⟩,
  ⟨(some 166), none, (.ext 0), [.tm 154]⟩,
  ⟨(some 167), none, (.ext 1), [.tm 154]⟩,
  ⟨(some 19), none, (.alloc [(.int .i64 0), (.int .i64 0)]), []⟩,
  ⟨none, none, (.store 2), [.tm 19, .tm 166]⟩,
  ⟨(some 20), none, .mov, [.tm 167]⟩])
 (.seq (.region [⟨(some 168), none, .mov, [.tm 20]⟩,
  ⟨(some 169), none, (.cmp .eql), [.tm 168, .cn (.int .i64 0)]⟩,
  ⟨(some 170), none, .mov, [.tm 169]⟩,
  ⟨(some 171), (some (170, true)), (.fieldAddr 0), [.tm 17]⟩,
  ⟨(some 172), (some (170, true)), (.load false 1), [.tm 171]⟩,
  ⟨(some 173), (some (170, true)), (.fieldAddr 0), [.tm 5]⟩,
  ⟨(some 174), (some (170, true)), (.fieldAddr 0), [.tm 173]⟩,
  ⟨(some 175), (some (170, true)), (.load false 1), [.tm 174]⟩,
  ⟨(some 176), (some (170, true)), (.cmp .geq), [.tm 172, .tm 175]⟩,
  ⟨(some 177), none, .and, [.tm 170, .tm 176]⟩,
  ⟨(some 178), none, .mov, [.tm 177]⟩,
  ⟨(some 179), (some (178, true)), (.fieldAddr 0), [.tm 19]⟩,
  ⟨(some 180), (some (178, true)), (.load false 1), [.tm 179]⟩,
  ⟨(some 181), (some (178, true)), (.fieldAddr 0), [.tm 17]⟩,
  ⟨(some 182), (some (178, true)), (.load false 1), [.tm 181]⟩,
  ⟨(some 183), (some (178, true)), (.cmp .geq), [.tm 180, .tm 182]⟩,
  ⟨(some 184), none, .and, [.tm 178, .tm 183]⟩,
  ⟨(some 185), none, .mov, [.tm 184]⟩,
  ⟨(some 186), (some (185, true)), (.fieldAddr 1), [.tm 19]⟩,
  ⟨(some 187), (some (185, true)), (.load false 1), [.tm 186]⟩,
  ⟨(some 188), (some (185, true)), (.fieldAddr 1), [.tm 17]⟩,
  ⟨(some 189), (some (185, true)), (.load false 1), [.tm 188]⟩,
  ⟨(some 190), (some (185, true)), (.cmp .geq), [.tm 187, .tm 189]⟩,
  ⟨(some 191), none, .and, [.tm 185, .tm 190]⟩,
  ⟨(some 192), none, .mov, [.tm 191]⟩,
  ⟨(some 193), (some (192, true)), (.call 7), []⟩,
  ⟨(some 194), none, .and, [.tm 192, .tm 193]⟩,
  ⟨(some 6), none, .mov, [.tm 194]⟩])
 .ret)))))))))) }
theorem v6_is : vfunc Try.prog Try.f6 = some v6 := by kernel_rfl


def shX : List Sh := [.int .i64, .int .i64, .int .i64, .int .i64, .int .i64]
theorem x_of {c : List SV} (h : okSL shX c) : ∃ x y len b pr : Int, c = [.int .i64 x, .int .i64 y, .int .i64 len, .int .i64 b, .int .i64 pr] ∧ ((-9223372036854775808 ≤ len ∧ len ≤ 9223372036854775807) ∧ -9223372036854775808 ≤ b ∧ b ≤ 9223372036854775807) := by
  obtain ⟨_, _, rfl, ⟨n1, rfl, _⟩, e1⟩ := okSL_cons_inv h
  obtain ⟨_, _, rfl, ⟨n2, rfl, _⟩, e2⟩ := okSL_cons_inv e1
  obtain ⟨_, _, rfl, ⟨n3, rfl, h3⟩, e3⟩ := okSL_cons_inv e2
  obtain ⟨_, _, rfl, ⟨n4, rfl, h4⟩, e4⟩ := okSL_cons_inv e3
  obtain ⟨_, _, rfl, ⟨n5, rfl, _⟩, e5⟩ := okSL_cons_inv e4
  cases okSL_nil_inv e5
  simp only [Lit.wf, Bool.and_eq_true, decide_eq_true_eq] at h3 h4
  have a3 : -9223372036854775808 ≤ n3 ∧ n3 ≤ 9223372036854775807 := h3
  have a4 : -9223372036854775808 ≤ n4 ∧ n4 ≤ 9223372036854775807 := h4
  exact ⟨n1, n2, n3, n4, n5, rfl, a3, a4⟩

theorem force_law {p : Plt} {pr : Int} (h : (fF p pr).2 = 0) :
    (decide (1 < IntKind.i64.wrap ((fF p pr).1.2 - (fF p pr).1.1)) || decide (IntKind.i64.wrap (IntKind.i64.wrap (pr * p.w) * p.l) < IntKind.i64.wrap (IntKind.i64.wrap ((fF p pr).1.1 - p.s) * 1000000)) ||
      decide (IntKind.i64.wrap (IntKind.i64.wrap ((fF p pr).1.2 - p.s) * 1000000) < IntKind.i64.wrap (IntKind.i64.wrap (pr * p.w) * p.l))) = false := by
  obtain ⟨h1, h2, h3⟩ := force_yes h
  obtain ⟨f1, f2, f3, f4, f5, f6, f7⟩ := force_exact h1 h2.1 h2.2
  obtain ⟨_, _, _, f8, f9⟩ := force_rng h1 h2.1 h2.2
  obtain ⟨_, _, _, s1, s2⟩ := pal_rng h1
  unfold fh at f8 f9
  rw [h3]
  generalize forceF p pr = F at *
  rw [w6_raw (x := pr * p.w) (by omega) (by omega), w6_raw (x := pr * p.w * p.l) (by omega) (by omega), w6_raw (x := F.2 - F.1) (by omega) (by omega), w6_raw (x := F.1 - p.s) (by omega) (by omega), w6_raw (x := F.2 - p.s) (by omega) (by omega), w6_raw (x := (F.1 - p.s) * 1000000) (by omega) (by omega), w6_raw (x := (F.2 - p.s) * 1000000) (by omega) (by omega)]
  rw [Bool.or_eq_false_iff, Bool.or_eq_false_iff, decide_eq_false_iff_not, decide_eq_false_iff_not, decide_eq_false_iff_not]
  omega
theorem tube_law {x y len b : Int} (h : (tF (x, y) len b).2 = 0) :
    (decide ((tF (x, y) (min (IntKind.i64.wrap (len + 100000)) 3000000) (min (IntKind.i64.wrap (b + 1)) 8)).2 = 0) && decide (x ≤ (tF (x, y) len b).1.1) &&
      decide ((tF (x, y) len b).1.1 ≤ (tF (x, y) (min (IntKind.i64.wrap (len + 100000)) 3000000) (min (IntKind.i64.wrap (b + 1)) 8)).1.1) &&
      decide ((tF (x, y) len b).1.2 ≤ (tF (x, y) (min (IntKind.i64.wrap (len + 100000)) 3000000) (min (IntKind.i64.wrap (b + 1)) 8)).1.2) && true) = true := by
  obtain ⟨h1, h2, h3, h4, h5, h6⟩ := tube_yes h
  rw [w6_raw (x := len + 100000) (by omega) (by omega), w6_raw (x := b + 1) (by omega) (by omega), decide_eq_true h3, decide_eq_true h4, decide_eq_true h5, decide_eq_true h6]
  rfl
theorem nl2 {a : Nat} (h : a < 18446744073709551616) : nl a ≤ 2 := nl_le.2 (by simpa using h)
def A3 : Env := { ct := fun n => match n with | 7 => some trueC | 12 => some ArC | 17 => some FoC | 18 => some TuC | 13 => some plusC | 14 => some ofC | 15 => some timesC | 16 => some orderC | _ => none, fn := fun _ => none, meth := fun _ _ => none }
theorem A3_ct7 : A3.ct 7 = some trueC := rfl
theorem A3_ct12 : A3.ct 12 = some ArC := rfl
theorem A3_ct17 : A3.ct 17 = some FoC := rfl
theorem A3_ct18 : A3.ct 18 = some TuC := rfl
theorem A3_ct13 : A3.ct 13 = some plusC := rfl
theorem A3_ct14 : A3.ct 14 = some ofC := rfl
theorem A3_ct15 : A3.ct 15 = some timesC := rfl
theorem A3_ct16 : A3.ct 16 = some orderC := rfl
theorem A3_ok : EnvOk Try.prog A3 := by
  refine ⟨fun f c h => ?_, fun f vf h => ?_, (fun _ _ _ h => by cases h), by kernel_rfl⟩
  · simp only [A3] at h
    split at h
    · cases h; exact ⟨awake_ok, Try.f7, Try.func7, by kernel_rfl, by kernel_rfl⟩
    · cases h; exact ⟨Ar_ok, Try.f12, Try.func12, by kernel_rfl, by kernel_rfl⟩
    · cases h; exact ⟨Fo_ok, Try.f17, Try.func17, by kernel_rfl, by kernel_rfl⟩
    · cases h; exact ⟨Tu_ok, Try.f18, Try.func18, by kernel_rfl, by kernel_rfl⟩
    · cases h; exact ⟨plus_ok, Try.f13, Try.func13, by kernel_rfl, by kernel_rfl⟩
    · cases h; exact ⟨of_ok, Try.f14, Try.func14, by kernel_rfl, by kernel_rfl⟩
    · cases h; exact ⟨times_ok, Try.f15, Try.func15, by kernel_rfl, by kernel_rfl⟩
    · cases h; exact ⟨order_ok, Try.f16, Try.func16, by kernel_rfl, by kernel_rfl⟩
    · cases h
  · cases h

def lawT : List PSh := [⟨true, shC⟩, ⟨true, shP⟩, ⟨true, shX⟩]
theorem lawTrue : (lawC lawT).ok Try.prog 6 := by
  refine contract Try.func6 v6_is A3_ok 400 (lawC lawT) fun args k h => ?_
  obtain ⟨ha, hk⟩ := h
  obtain ⟨_, _, rfl, h1, e1⟩ := okPL_cons_inv ha
  obtain ⟨cs, rfl, hcs⟩ := okP_agg_inv h1
  obtain ⟨_, _, rfl, h2, e2⟩ := okPL_cons_inv e1
  obtain ⟨ps, rfl, hps⟩ := okP_agg_inv h2
  obtain ⟨_, _, rfl, h3, e3⟩ := okPL_cons_inv e2
  obtain ⟨xs, rfl, hxs⟩ := okP_agg_inv h3
  cases okPL_nil_inv e3
  obtain ⟨z, c, hcl, hce⟩ := c_of hcs
  obtain ⟨p, rfl⟩ := p_of hps
  obtain ⟨x, y, len, b, pr, rfl, hlr, hbr⟩ := x_of hxs
  rw [maxLen_eq] at hcl
  refine ⟨[.agg [.vs false z c.length 2 (fun k => enc2 (c.getD k default))], .agg (encP p), .agg [.int .i64 x, .int .i64 y, .int .i64 len, .int .i64 b, .int .i64 pr]], ⟨leXL_le _ _ hce (by simp [bndL, bnd]), le_self (.agg (encP p)) ⟨trivial, trivial, trivial, trivial, trivial⟩, le_self (.agg [.int .i64 x, .int .i64 y, .int .i64 len, .int .i64 b, .int .i64 pr]) ⟨trivial, trivial, trivial, trivial, trivial, trivial⟩, trivial⟩, ?_⟩
  dsimp only [v6, A3_ct7, A3_ct12, A3_ct17, A3_ct18, A3_ct13, A3_ct14, A3_ct15, A3_ct16, trueC, ArC, FoC, TuC, plusC, ofC, timesC, orderC, enc2, encP, go_sem, Option.bind, Option.map, List.append_nil, Nat.beq, List.cons_append, List.nil_append, List.append_eq, List.map_cons, List.map_nil, ite_self, reduceIte]
  simp only [true_and, and_true, imp_self, implies_true, decide_eq_true_eq, decide_eq_false_iff_not, Nat.reduceAdd, Nat.reduceLeDiff, Bool.not_not, reduceCtorEq, false_imp_iff, Bool.not_eq_true', Bool.not_eq_false', Bool.false_eq_true, and_self, forall_const, ne_eq, not_false_eq_true, Nat.reduceEqDiff]
  have hk' : k (.bool true) [] := hk
  refine ⟨fun _ => ans_bool hk', fun hf => ?_⟩
  refine ⟨c, ⟨lsP_self, by omega⟩, by decide, by decide, fun h0 => ⟨by decide, ?_⟩, fun hne => ?_⟩
  · have hchk : chkT c = 0 := by
      unfold aF at h0
      split at h0
      · exact h0
      · rename_i h; omega
    obtain ⟨hc24, hct⟩ := chkT_0 hchk
    have haF : aF c = (areaF c, 0) := by rw [aF, if_neg (by omega)]
    rw [haF]
    refine Loop.keepF [3, 0, 0, 1] Nat (fun i => [(9, .vs true false (nl (sqs (c.take i))) 1 (fun k => [.int .u32 (dig (sqs (c.take i)) k)])), (10, .int .i64 i)]) (fun _ => [(4, .gone)]) [] (fun i => i ≤ c.length) (fun i => c.length - i) ?_ ?_
    · refine ⟨0, Nat.zero_le _, [4], ?_, ?_⟩
      · dsimp only [go_sem, Option.bind, Option.map, List.append_nil, Nat.beq, List.cons_append, List.nil_append, List.append_eq, List.map_cons, List.map_nil, ite_self, reduceIte]
        exact ⟨fun k hk => by omega, trivial⟩
      · dsimp only [go_sem, Option.bind, Option.map, List.append_nil, Nat.beq, List.cons_append, List.nil_append, List.append_eq, List.map_cons, List.map_nil, ite_self, reduceIte]
        simp only [leS_mk, leL_cons, leL_nil, le_junk, le_int, le_bool, le_nil, leLL_nil, leLL_cons, leH_cons, leH_nil, leH1_box, leH1_own, leH1_gone, le_vs, le_agg, le_tup, le_ptr, le_own, le_xp, le_fn, le_opt, le_val, le_elem, le_nil_own, le_nil_vs, leH_ghost, leL_chunk, leXL_id, bnd_int, bnd_bool, bnd_val, bnd_nil, bnd_junk, bnd_vs, bnd_xp, bnd_agg, bnd_tup, bnd_ptr, bnd_own, bnd_elem, bnd_fn, bnd_iface, bnd_opt, bndL_nil, bndL_cons, lenH_cons, lenH_nil, imp_self, implies_true, true_and, and_true]
        exact ⟨by omega, by omega, by omega, by omega, ⟨rfl, fun k hk => by omega⟩, rfl⟩
    · rintro i hi
      dsimp only [A3_ct7, A3_ct12, A3_ct17, A3_ct18, A3_ct13, A3_ct14, A3_ct15, A3_ct16, trueC, ArC, FoC, TuC, plusC, ofC, timesC, orderC, natS, enc2, encP, Int.toNat_natCast, go_sem, Option.bind, Option.map, List.append_nil, Nat.beq, List.cons_append, List.nil_append, List.append_eq, List.map_cons, List.map_nil, ite_self, reduceIte]
      simp only [true_and, and_true, imp_self, implies_true, decide_eq_true_eq, decide_eq_false_iff_not, Nat.reduceAdd, Nat.reduceLeDiff, Bool.not_not, reduceCtorEq, false_imp_iff, Bool.not_eq_true', Bool.not_eq_false', Bool.false_eq_true, and_self, forall_const, ne_eq, not_false_eq_true, Nat.reduceEqDiff, plt_eta]
      have hsq := fun h => sqs_rng (l := c) (i := i) h hct
      have hq40 := hsq hi
      refine ⟨fun hlt => ?_, fun hge => ?_⟩
      · have hlt' : i < c.length := by omega
        have hr := sq_rng (hct _ (getD_mem hlt'))
        have hst := sqs_take hlt'
        generalize (c.getD i default).1 * (c.getD i default).1 = B at *
        have wB : IntKind.u64.wrap (IntKind.i64.wrap B) = B := by
          rw [w6_raw (x := B) (by omega) (by omega), IntWalk.u64_in _ (by omega)]
        rw [wB]
        have n1 := nl2 (a := sqs (c.take i)) (by omega)
        have n2 := nl2 (a := B.toNat) (by omega)
        refine ⟨⟨by omega, hlt⟩, ⟨by omega, hlt⟩, ⟨by omega, by omega⟩, sqs (c.take i), B.toNat, ⟨padP_nl (by omega), padP_nl (by omega), by omega, by omega⟩, i + 1, by omega, by omega, [], trivial, ?_⟩
        rw [hst]
        dsimp only [go_sem, Option.bind, Option.map, List.append_nil, Nat.beq, List.cons_append, List.nil_append, List.append_eq, List.map_cons, List.map_nil, ite_self, reduceIte]
        simp only [w_succ (i := i) (n := c.length) (by omega) (by omega), leS_mk, leL_cons, leL_nil, le_junk, le_int, le_bool, le_nil, leLL_nil, leLL_cons, leH_cons, leH_nil, leH1_box, leH1_own, leH1_gone, le_vs, le_agg, le_tup, le_ptr, le_own, le_xp, le_fn, le_opt, le_val, le_elem, le_nil_own, le_nil_vs, leH_ghost, leL_chunk, leXL_id, bnd_int, bnd_bool, bnd_val, bnd_nil, bnd_junk, bnd_vs, bnd_xp, bnd_agg, bnd_tup, bnd_ptr, bnd_own, bnd_elem, bnd_fn, bnd_iface, bnd_opt, bndL_nil, bndL_cons, lenH_cons, lenH_nil, imp_self, implies_true, true_and, and_true] <;> simp
      · obtain rfl : i = c.length := by omega
        rw [take_full (Nat.le_refl _)] at hq40 ⊢
        obtain ⟨⟨r1, r2⟩, r3, r4⟩ := area_all (c := c) hct (by omega)
        have ex := area_exact (l := c) (i := c.length) (Nat.le_refl _) hct
        rw [take_full (Nat.le_refl _)] at ex
        generalize areaF c = A at *
        have wA : IntKind.u64.wrap A.1 = A.1 := IntWalk.u64_in _ (by omega)
        have wB : IntKind.u64.wrap (max A.2 0) = A.2 := by rw [show max A.2 0 = A.2 by omega]; exact IntWalk.u64_in _ (by omega)
        obtain ⟨q1, hq1⟩ : ∃ q : Nat, q = 4 := ⟨_, rfl⟩
        obtain ⟨q2, hq2⟩ : ∃ q : Nat, q = 1000000000000000000 := ⟨_, rfl⟩
        obtain ⟨q3, hq3⟩ : ∃ q : Nat, q = 3141592653589793238 := ⟨_, rfl⟩
        obtain ⟨q4, hq4⟩ : ∃ q : Nat, q = 3141592653589793239 := ⟨_, rfl⟩
        have t1 : Int.toNat 4 = q1 := by rw [hq1]; rfl
        have t2 : Int.toNat 1000000000000000000 = q2 := by rw [hq2]; rfl
        have t3 : Int.toNat 3141592653589793238 = q3 := by rw [hq3]; rfl
        have t4 : Int.toNat 3141592653589793239 = q4 := by rw [hq4]; rfl
        have hU : q1 * q2 = 4000000000000000000 := by rw [hq1, hq2]
        simp only [wA, wB, t1, t2, t3, t4]
        clear t1 t2 t3 t4
        generalize sqs c = S at *
        have hS : S ≤ 1000000000000 := by clear ex; omega
        obtain ⟨⟨b1, b2, b3, b4⟩, ⟨b5, b6, b7, b8⟩, ⟨c1, c2, c3, c4⟩, o1, o2⟩ := true_nums r1 r2 r3 r4 hS ex.1 ex.2 hq1 hq2 hq3 hq4
        have hneg : ¬ A.1 < 0 := by clear ex; omega
        have p1 : 0 ≤ A.1 ∧ A.1 < 18446744073709551616 := by clear ex; omega
        have p2 : 0 ≤ A.2 ∧ A.2 < 18446744073709551616 := by clear ex; omega
        clear ex hq1 hq2 hq3 hq4 hU r1 r2 r3 r4 hS hq40 hsq wA wB
        refine ⟨by decide, by decide, q1, q2, ⟨padP_nl (by omega), padP_nl (by omega), by omega⟩, by decide, S, q3, ⟨padP_nl (by omega), padP_nl (by omega), by omega⟩, by decide, S, q4, ⟨padP_nl (by omega), padP_nl (by omega), by omega⟩, fun _ => p1, A.1.toNat, q1 * q2, fun _ => ⟨padP_nl (by omega), padP_nl (by omega), by omega⟩,
          A.1.toNat * (q1 * q2), S * q3, fun _ => ⟨padP_nl (by omega), padP_nl (by omega)⟩, fun _ => p2, A.2.toNat, q1 * q2, fun _ => ⟨padP_nl (by omega), padP_nl (by omega), by omega⟩, A.2.toNat * (q1 * q2), S * q4, fun _ => ⟨padP_nl (by omega), padP_nl (by omega)⟩, fun hx => ?_, fun _ => ?_⟩
        · rw [decide_eq_false hneg, decide_eq_false o1, decide_eq_false o2] at hx
          cases hx
        · refine ⟨by decide, by decide, fun hf0 => ⟨fun hc => ?_, fun _ => ⟨by decide, by decide, fun hn => ?_, fun h0 => ⟨by decide, by decide, ?_⟩⟩⟩, fun _ => ⟨by decide, by decide, fun hn => ?_, fun h0 => ⟨by decide, by decide, ?_⟩⟩⟩
          · rw [force_law hf0] at hc; cases hc
          · rw [tube_no hn]; exact ans_bool hk'
          · rw [tube_law h0]; exact ans_bool hk'
          · rw [tube_no hn]; exact ans_bool hk'
          · rw [tube_law h0]; exact ans_bool hk'
  · clear hne
    simp only [plt_eta]
    refine ⟨by decide, by decide, fun hf0 => ⟨fun hc => ?_, fun _ => ⟨by decide, by decide, fun hn => ?_, fun h0 => ⟨by decide, by decide, ?_⟩⟩⟩, fun _ => ⟨by decide, by decide, fun hn => ?_, fun h0 => ⟨by decide, by decide, ?_⟩⟩⟩
    · rw [force_law hf0] at hc; cases hc
    · rw [tube_no hn]; exact ans_bool hk'
    · rw [tube_law h0]; exact ans_bool hk'
    · rw [tube_no hn]; exact ans_bool hk'
    · rw [tube_law h0]; exact ans_bool hk'
end Go.Proofs.Ytngccjllkgpjmaa

/- Laws of chests, as they are given, without a condition. -/
/- Laws of chests, as they are given, without a condition. -/
set_option linter.all false
namespace Go.Proofs.Ytngccjllkgpjmaa
open Go Go.Vx Go.RowKit
set_option maxRecDepth 100000

theorem ownX1 : ownKnob Try.prog.godebug = none := by kernel_rfl
theorem laidX1 : laidOutB Try.prog = true := by kernel_rfl

theorem chestsTrue_lifted (os : Os) (started : os.Started) (H : Type) (enc : TypeId × Value → H) :
    ReturnsInHanded {} Try.checked os 6 .any (Rows.chestsTrueSpec.pre6 enc Try.prog Try.f6 Rows.chestsTrueRow.domain false) (Rows.chestsTrueSpec.post enc Try.prog Try.f6 false true false false) :=
  law_lifted (C := Try.checked) (tb := 4) ownX1 started (by kernel_rfl) Try.func6 laidX1
    (ChangeSpec.witness6 (enc := enc) (C := Try.checked) false ⟨#[], #[.agg #[.slice none 0 0], .agg #[.int .i64 0, .int .i64 0, .int .i64 0, .int .i64 0], .agg #[.int .i64 0, .int .i64 0, .int .i64 0, .int .i64 0, .int .i64 0]], []⟩ 8 (by kernel_rfl) (by kernel_rfl) (by kernel_rfl) (by kernel_rfl))
    (by kernel_rfl) (by kernel_rfl) (by kernel_rfl) (by kernel_rfl) rfl (fun ds h => match ds, h with | [_, _, _], _ => ⟨rfl, rfl, rfl⟩) lawTrue

theorem chestsTrue_holds : Rows.ChestsTrueSaid :=
  OpenClaim.holds_of_wide 6 Try.f6 rfl rfl rfl rfl rfl rfl rfl ⟨rfl, rfl, rfl, rfl, rfl⟩ rfl rfl rfl rfl rfl (by kernel_rfl) Try.func6 (by kernel_rfl)
    (of_decide_eq_true (by kernel_rfl)) (by unfold Func.isWrapper; first | (rw [if_pos (by decide +kernel)]; kernel_rfl) | (rw [if_neg (by decide +kernel)]; exact ⟨rfl, rfl⟩))
    (fun os started H enc _ => chestsTrue_lifted os started H enc)

end Go.Proofs.Ytngccjllkgpjmaa

