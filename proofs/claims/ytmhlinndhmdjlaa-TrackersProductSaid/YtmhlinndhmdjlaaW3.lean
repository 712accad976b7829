/- Trackers: what Travel, Needed and Touch return. -/
import Derived.Test.YtmhlinndhmdjlaaW2
set_option linter.all false
namespace Go.Proofs.Ytmhlinndhmdjlaa
open Go Go.Vx
set_option maxRecDepth 100000

def v9 : VF := { ntmps := 22, res := [.cell 6 true 2, .tmp 7], body :=
 (.seq (.region [⟨(some 3), none, .box, [.tm 0]⟩,
  ⟨(some 6), none, (.alloc [(.int .i64 0), (.int .i64 0)]), []⟩,
  ⟨(some 7), none, .mov, [.cn (.int .i64 0)]⟩])
 (.seq (.seq (.region [⟨(some 9), none, (.load true 3), [.tm 3]⟩,
  ⟨(some 10), none, .mov, [.tm 1]⟩,
  ⟨(some 11), none, .mov, [.tm 2]⟩,
  ⟨(some 12), none, (.call 27), [.tm 9, .tm 10, .tm 11]⟩,
  ⟨(some 8), none, .mov, [.tm 12]⟩])
 (.seq (.region [⟨(some 13), none, .mov, [.tm 8]⟩,
  ⟨(some 14), none, (.cmp .neq), [.tm 13, .cn (.int .i64 0)]⟩])
 (.cond (.tm 14) (.seq (.region [⟨(some 15), none, (.build [(.int .i64 0), (.int .i64 0)] []), []⟩,
  ⟨(some 16), none, .mov, [.tm 8]⟩,
  ⟨none, none, (.store 2), [.tm 6, .tm 15]⟩,
  ⟨(some 7), none, .mov, [.tm 16]⟩])
 .ret)
  .skip)))
 (.seq (.region [⟨(some 17), none, (.load true 3), [.tm 3]⟩,
  ⟨(some 18), none, .mov, [.tm 1]⟩,
  ⟨(some 19), none, .mov, [.tm 2]⟩,
  ⟨(some 20), none, (.call 28), [.tm 17, .tm 18, .tm 19]⟩,
  ⟨(some 21), none, (.call 29), [.tm 20]⟩,
  ⟨none, none, (.store 2), [.tm 6, .tm 21]⟩,
  ⟨(some 7), none, .mov, [.cn (.int .i64 0)]⟩])
 .ret))) }
theorem v9_is : vfunc Try.prog Try.f9 = some v9 := by kernel_rfl
def v10 : VF := { ntmps := 22, res := [.cell 6 true 2, .tmp 7], body :=
 (.seq (.region [⟨(some 3), none, .box, [.tm 0]⟩,
  ⟨(some 6), none, (.alloc [(.int .i64 0), (.int .i64 0)]), []⟩,
  ⟨(some 7), none, .mov, [.cn (.int .i64 0)]⟩])
 (.seq (.region [⟨(some 9), none, (.load true 3), [.tm 3]⟩,
  ⟨(some 10), none, .mov, [.tm 1]⟩,
  ⟨(some 11), none, .mov, [.tm 2]⟩,
  ⟨(some 12), none, (.call 30), [.tm 9, .tm 10, .tm 11]⟩,
  ⟨(some 8), none, .mov, [.tm 12]⟩])
 (.seq (.seq (.region [⟨(some 13), none, .mov, [.tm 8]⟩,
  ⟨(some 14), none, (.cmp .neq), [.tm 13, .cn (.int .i64 0)]⟩])
 (.cond (.tm 14) (.seq (.region [⟨(some 15), none, (.build [(.int .i64 0), (.int .i64 0)] []), []⟩,
  ⟨(some 16), none, .mov, [.tm 8]⟩,
  ⟨none, none, (.store 2), [.tm 6, .tm 15]⟩,
  ⟨(some 7), none, .mov, [.tm 16]⟩])
 .ret)
  .skip))
 (.seq (.region [⟨(some 17), none, (.load true 3), [.tm 3]⟩,
  ⟨(some 18), none, .mov, [.tm 1]⟩,
  ⟨(some 19), none, .mov, [.tm 2]⟩,
  ⟨(some 20), none, (.call 32), [.tm 17, .tm 18, .tm 19]⟩,
  ⟨(some 21), none, (.call 31), [.tm 20]⟩,
  ⟨none, none, (.store 2), [.tm 6, .tm 21]⟩,
  ⟨(some 7), none, .mov, [.cn (.int .i64 0)]⟩])
 .ret)))) }
theorem v10_is : vfunc Try.prog Try.f10 = some v10 := by kernel_rfl
def v11 : VF := { ntmps := 47, res := [.tmp 6, .tmp 7], body :=
 (.seq (.region [⟨(some 3), none, .box, [.tm 0]⟩,
  ⟨(some 6), none, .mov, [.cn (.int .i64 0)]⟩,
  ⟨(some 7), none, .mov, [.cn (.int .i64 0)]⟩])
 (.seq (.seq (.region [⟨(some 12), none, (.load true 3), [.tm 3]⟩,
  ⟨(some 13), none, .mov, [.tm 1]⟩,
  ⟨(some 14), none, .mov, [.tm 2]⟩,
  ⟨(some 15), none, (.call 27), [.tm 12, .tm 13, .tm 14]⟩,
  ⟨(some 8), none, .mov, [.tm 15]⟩])
 (.seq (.region [⟨(some 16), none, .mov, [.tm 8]⟩,
  ⟨(some 17), none, (.cmp .neq), [.tm 16, .cn (.int .i64 0)]⟩])
 (.cond (.tm 17) (.seq (.region [⟨(some 18), none, .mov, [.tm 8]⟩,
  ⟨(some 6), none, .mov, [.cn (.int .i64 0)]⟩,
  ⟨(some 7), none, .mov, [.tm 18]⟩])
 .ret)
  .skip)))
 (.seq (.seq (.region [⟨(some 19), none, .mov, [.tm 2]⟩,
  ⟨(some 20), none, (.cmp .eql), [.tm 19, .cn (.int .i64 0)]⟩])
 (.cond (.tm 20) (.seq (.region [⟨(some 6), none, .mov, [.cn (.int .i64 0)]⟩,
  ⟨(some 7), none, .mov, [.cn (.int .i64 0)]⟩])
 .ret)
  .skip))
 (.seq (.region [⟨(some 21), none, .mov, [.tm 2]⟩,
  ⟨(some 22), none, (.build [(.int .i64 0), (.int .i64 0)] [(0, 1), (1, 1)]), [.tm 21, .cn (.int .i64 1)]⟩,
  ⟨(some 9), none, (.alloc [(.int .i64 0), (.int .i64 0)]), []⟩,
  ⟨none, none, (.store 2), [.tm 9, .tm 22]⟩])
 (.seq (.seq (.region [⟨(some 23), none, (.load true 3), [.tm 3]⟩,
  ⟨(some 24), none, .mov, [.tm 1]⟩,
  ⟨(some 25), none, (.call 33), [.tm 23, .tm 24, .cn (.bool true)]⟩])
 (.block 0 (.rangeFn (.tm 25) [26] (.region [⟨(some 10), none, (.alloc [(.int .i64 0), (.int .i64 0), (.int .i64 0), (.int .i64 0)]), []⟩,
  ⟨none, none, (.store 4), [.tm 10, .tm 26]⟩])
 (.block 1 (.region [⟨(some 27), none, (.fieldAddr 0), [.tm 9]⟩,
  ⟨(some 28), none, (.load false 1), [.tm 27]⟩,
  ⟨(some 29), none, (.fieldAddr 1), [.tm 10]⟩,
  ⟨(some 30), none, (.load false 1), [.tm 29]⟩,
  ⟨(some 31), none, (.ari .mul), [.tm 28, .tm 30]⟩,
  ⟨(some 32), none, (.fieldAddr 1), [.tm 9]⟩,
  ⟨(some 33), none, (.load false 1), [.tm 32]⟩,
  ⟨(some 34), none, (.fieldAddr 0), [.tm 10]⟩,
  ⟨(some 35), none, (.load false 1), [.tm 34]⟩,
  ⟨(some 36), none, (.ari .mul), [.tm 33, .tm 35]⟩,
  ⟨(some 37), none, (.build [(.int .i64 0), (.int .i64 0)] [(0, 1), (1, 1)]), [.tm 31, .tm 36]⟩,
  ⟨(some 38), none, (.fieldAddr 2), [.tm 10]⟩,
  ⟨(some 39), none, (.load false 1), [.tm 38]⟩,
  ⟨(some 40), none, (.call 34), [.tm 37, .tm 39]⟩,
  ⟨none, none, (.store 2), [.tm 9, .tm 40]⟩])))))
 (.seq (.region [⟨(some 41), none, (.load true 2), [.tm 9]⟩,
  ⟨(some 42), none, (.call 29), [.tm 41]⟩,
  ⟨(some 43), none, (.field false 1 1), [.tm 42]⟩,
  ⟨(some 11), none, .mov, [.tm 43]⟩])
 (.seq (.seq (.region [⟨(some 44), none, .mov, [.tm 11]⟩,
  ⟨(some 45), none, (.cmp .gtr), [.tm 44, .cn (.int .i64 50000)]⟩])
 (.cond (.tm 45) (.seq (.region [⟨(some 6), none, .mov, [.cn (.int .i64 0)]⟩,
  ⟨(some 7), none, .mov, [.cn (.int .i64 7)]⟩])
 .ret)
  .skip))
 (.seq (.region [⟨(some 46), none, .mov, [.tm 11]⟩,
  ⟨(some 6), none, .mov, [.tm 46]⟩,
  ⟨(some 7), none, .mov, [.cn (.int .i64 0)]⟩])
 .ret)))))))) }
theorem v11_is : vfunc Try.prog Try.f11 = some v11 := by kernel_rfl
def v12 : VF := { ntmps := 27, res := [.tmp 6, .tmp 7], body :=
 (.seq (.region [⟨(some 3), none, .box, [.tm 0]⟩,
  ⟨(some 6), none, .mov, [.cn (.int .i64 0)]⟩,
  ⟨(some 7), none, .mov, [.cn (.int .i64 0)]⟩])
 (.seq (.region [⟨(some 10), none, (.load true 3), [.tm 3]⟩,
  ⟨(some 11), none, .mov, [.tm 1]⟩,
  ⟨(some 12), none, .mov, [.tm 2]⟩,
  ⟨(some 13), none, (.call 30), [.tm 10, .tm 11, .tm 12]⟩,
  ⟨(some 8), none, .mov, [.tm 13]⟩])
 (.seq (.seq (.region [⟨(some 14), none, .mov, [.tm 8]⟩,
  ⟨(some 15), none, (.cmp .neq), [.tm 14, .cn (.int .i64 0)]⟩])
 (.cond (.tm 15) (.seq (.region [⟨(some 16), none, .mov, [.tm 8]⟩,
  ⟨(some 6), none, .mov, [.cn (.int .i64 0)]⟩,
  ⟨(some 7), none, .mov, [.tm 16]⟩])
 .ret)
  .skip))
 (.seq (.seq (.region [⟨(some 9), none, .mov, [.cn (.int .i64 0)]⟩])
 (.block 0 (.loop (.seq (.seq (.region [⟨(some 17), none, .mov, [.tm 9]⟩,
  ⟨(some 18), none, (.cmp .leq), [.tm 17, .cn (.int .i64 50000)]⟩])
 (.cond (.tm 18) .skip
  (.exit 0)))
 (.seq (.block 1 (.seq (.region [⟨(some 21), none, (.load true 3), [.tm 3]⟩,
  ⟨(some 22), none, .mov, [.tm 1]⟩,
  ⟨(some 23), none, .mov, [.tm 9]⟩,
  ⟨(some 24), none, .mov, [.tm 2]⟩,
  ⟨(some 25), none, (.call 35), [.tm 21, .tm 22, .tm 23, .tm 24]⟩])
 (.cond (.tm 25) (.seq (.region [⟨(some 26), none, .mov, [.tm 9]⟩,
  ⟨(some 6), none, .mov, [.tm 26]⟩,
  ⟨(some 7), none, .mov, [.cn (.int .i64 0)]⟩])
 .ret)
  .skip)))
 (.region [⟨(some 19), none, .mov, [.tm 9]⟩,
  ⟨(some 20), none, (.ari .add), [.tm 19, .cn (.int .i64 1)]⟩,
  ⟨(some 9), none, .mov, [.tm 20]⟩]))))))
 (.seq (.region [⟨(some 6), none, .mov, [.cn (.int .i64 0)]⟩,
  ⟨(some 7), none, .mov, [.cn (.int .i64 7)]⟩])
 .ret))))) }
theorem v12_is : vfunc Try.prog Try.f12 = some v12 := by kernel_rfl
def v19 : VF := { ntmps := 14, res := [.cell 2 true 2, .tmp 3], body :=
 (.seq (.region [⟨(some 1), none, .box, [.tm 0]⟩,
  ⟨(some 2), none, (.alloc [(.int .i64 0), (.int .i64 0)]), []⟩,
  ⟨(some 3), none, .mov, [.cn (.int .i64 0)]⟩])
 (.seq (.seq (.region [⟨(some 5), none, (.load true 3), [.tm 1]⟩,
  ⟨(some 6), none, (.call 13), [.tm 5]⟩,
  ⟨(some 4), none, .mov, [.tm 6]⟩])
 (.seq (.region [⟨(some 7), none, .mov, [.tm 4]⟩,
  ⟨(some 8), none, (.cmp .neq), [.tm 7, .cn (.int .i64 0)]⟩])
 (.cond (.tm 8) (.seq (.region [⟨(some 9), none, (.build [(.int .i64 0), (.int .i64 0)] []), []⟩,
  ⟨(some 10), none, .mov, [.tm 4]⟩,
  ⟨none, none, (.store 2), [.tm 2, .tm 9]⟩,
  ⟨(some 3), none, .mov, [.tm 10]⟩])
 .ret)
  .skip)))
 (.seq (.region [⟨(some 11), none, (.load true 3), [.tm 1]⟩,
  ⟨(some 12), none, (.call 42), [.tm 11]⟩,
  ⟨(some 13), none, (.call 29), [.tm 12]⟩,
  ⟨none, none, (.store 2), [.tm 2, .tm 13]⟩,
  ⟨(some 3), none, .mov, [.cn (.int .i64 0)]⟩])
 .ret))) }
theorem v19_is : vfunc Try.prog Try.f19 = some v19 := by kernel_rfl
def v21 : VF := { ntmps := 14, res := [.cell 2 true 2, .tmp 3], body :=
 (.seq (.region [⟨(some 1), none, .box, [.tm 0]⟩,
  ⟨(some 2), none, (.alloc [(.int .i64 0), (.int .i64 0)]), []⟩,
  ⟨(some 3), none, .mov, [.cn (.int .i64 0)]⟩])
 (.seq (.region [⟨(some 5), none, (.load true 3), [.tm 1]⟩,
  ⟨(some 6), none, (.call 14), [.tm 5]⟩,
  ⟨(some 4), none, .mov, [.tm 6]⟩])
 (.seq (.seq (.region [⟨(some 7), none, .mov, [.tm 4]⟩,
  ⟨(some 8), none, (.cmp .neq), [.tm 7, .cn (.int .i64 0)]⟩])
 (.cond (.tm 8) (.seq (.region [⟨(some 9), none, (.build [(.int .i64 0), (.int .i64 0)] []), []⟩,
  ⟨(some 10), none, .mov, [.tm 4]⟩,
  ⟨none, none, (.store 2), [.tm 2, .tm 9]⟩,
  ⟨(some 3), none, .mov, [.tm 10]⟩])
 .ret)
  .skip))
 (.seq (.region [⟨(some 11), none, (.load true 3), [.tm 1]⟩,
  ⟨(some 12), none, (.call 43), [.tm 11]⟩,
  ⟨(some 13), none, (.call 31), [.tm 12]⟩,
  ⟨none, none, (.store 2), [.tm 2, .tm 13]⟩,
  ⟨(some 3), none, .mov, [.cn (.int .i64 0)]⟩])
 .ret)))) }
theorem v21_is : vfunc Try.prog Try.f21 = some v21 := by kernel_rfl


def F1 : Env := { ct := fun n => match n with | 27 => some askC | 30 => some askC | 28 => some travC | 32 => some travC | 29 => some ivC | 31 => some rivC | 34 => some moreC | 35 => some enoC | 13 => some chkC | 14 => some chkC | 42 => some touC | 43 => some touC | _ => none, fn := fun n => match n with | 33 => some v33 | 47 => some v47 | _ => none, meth := fun _ _ => none }
theorem F1_ct27 : F1.ct 27 = some askC := rfl
theorem F1_ct30 : F1.ct 30 = some askC := rfl
theorem F1_ct28 : F1.ct 28 = some travC := rfl
theorem F1_ct32 : F1.ct 32 = some travC := rfl
theorem F1_ct29 : F1.ct 29 = some ivC := rfl
theorem F1_ct31 : F1.ct 31 = some rivC := rfl
theorem F1_ct34 : F1.ct 34 = some moreC := rfl
theorem F1_ct35 : F1.ct 35 = some enoC := rfl
theorem F1_ct13 : F1.ct 13 = some chkC := rfl
theorem F1_ct14 : F1.ct 14 = some chkC := rfl
theorem F1_ct42 : F1.ct 42 = some touC := rfl
theorem F1_ct43 : F1.ct 43 = some touC := rfl
theorem F1_ct33 : F1.ct 33 = none := rfl
theorem F1_fn33 : F1.fn 33 = some v33 := rfl
theorem F1_ct47 : F1.ct 47 = none := rfl
theorem F1_fn47 : F1.fn 47 = some v47 := rfl
theorem F1_ok : EnvOk Try.prog F1 := by
  refine ⟨fun f c h => ?_, fun f vf h => ?_, fun _ _ => rfl, by kernel_rfl⟩
  · simp only [F1] at h
    split at h
    · cases h; exact ⟨ask27, Try.f27, Try.func27, by kernel_rfl, by kernel_rfl⟩
    · cases h; exact ⟨ask30, Try.f30, Try.func30, by kernel_rfl, by kernel_rfl⟩
    · cases h; exact ⟨trav28, Try.f28, Try.func28, by kernel_rfl, by kernel_rfl⟩
    · cases h; exact ⟨trav32, Try.f32, Try.func32, by kernel_rfl, by kernel_rfl⟩
    · cases h; exact ⟨iv29, Try.f29, Try.func29, by kernel_rfl, by kernel_rfl⟩
    · cases h; exact ⟨riv31, Try.f31, Try.func31, by kernel_rfl, by kernel_rfl⟩
    · cases h; exact ⟨more34, Try.f34, Try.func34, by kernel_rfl, by kernel_rfl⟩
    · cases h; exact ⟨eno35, Try.f35, Try.func35, by kernel_rfl, by kernel_rfl⟩
    · cases h; exact ⟨chk13, Try.f13, Try.func13, by kernel_rfl, by kernel_rfl⟩
    · cases h; exact ⟨chk14, Try.f14, Try.func14, by kernel_rfl, by kernel_rfl⟩
    · cases h; exact ⟨tou42, Try.f42, Try.func42, by kernel_rfl, by kernel_rfl⟩
    · cases h; exact ⟨tou43, Try.f43, Try.func43, by kernel_rfl, by kernel_rfl⟩
    · cases h
  · simp only [F1] at h
    split at h
    · cases h; exact ⟨Try.f33, Try.func33, v33_is, Try.f33, Try.func33, by kernel_rfl, by kernel_rfl⟩
    · cases h; exact ⟨Try.f47, Try.func47, v47_is, Try.f47, Try.func47, by kernel_rfl, by kernel_rfl⟩
    · cases h


def ch3C (r : List Part → Int → Int → Int → Int → SV) : Ctr := { alias := false, of := fun l => match l with
  | [.agg [.vs _ _ n sz get, .int .i64 p, .int .i64 t], .int .i64 turns, .int .i64 x] => .ex (List Part) fun l => .pre (sz = 4 ∧ n = l.length ∧ ∀ k, k < n → get k = enc (l.getD k default)) (.fin (r l p t turns x) [])
  | _ => noC }
def TravC : Ctr := ch3C fun l p t turns x => .tup [.agg [.int .i64 (travLo l p t turns x), .int .i64 (travHi l p t turns x)], .int .i64 (askedF l p t turns x)]
def NeedC : Ctr := ch3C fun l p t turns x => .tup [.int .i64 (needF l p t turns x).1, .int .i64 (needF l p t turns x).2]
def TouC : Ctr := { alias := false, of := chC fun l p t => .fin (.tup [.agg [.int .i64 (touLo l p t), .int .i64 (touHi l p t)], .int .i64 (checkF l p t)]) [] }

theorem travLo_e {l : List Part} {p t turns x : Int} (h : askedF l p t turns x ≠ 0) : travLo l p t turns x = 0 ∧ travHi l p t turns x = 0 := by simp [travLo, travHi, h]
theorem travLo_o {l : List Part} {p t turns x : Int} (h : askedF l p t turns x = 0) : travLo l p t turns x = ivLo (tq l t turns x) ∧ travHi l p t turns x = ivHi (tq l t turns x) := by simp [travLo, travHi, h]
theorem touLo_e {l : List Part} {p t : Int} (h : checkF l p t ≠ 0) : touLo l p t = 0 ∧ touHi l p t = 0 := by simp [touLo, touHi, h]
theorem touLo_o {l : List Part} {p t : Int} (h : checkF l p t = 0) : touLo l p t = ivLo (uq l p) ∧ touHi l p t = ivHi (uq l p) := by simp [touLo, touHi, h]

theorem Trav9 : TravC.ok Try.prog 9 := by
  refine contract Try.func9 v9_is F1_ok 400 TravC fun args k h => ?_
  simp only [TravC, ch3C] at h
  split at h
  · rename_i tt z n sz get p t turns x
    obtain ⟨l, ⟨rfl, rfl, hg⟩, h⟩ := h
    refine ⟨[.agg [.vs tt z l.length 4 (fun k => enc (l.getD k default)), .int .i64 p, .int .i64 t], .int .i64 turns, .int .i64 x], by simpa [leL, le] using fun k hk => leXL_eq (hg k hk), ?_⟩
    dsimp only [v9, F1_ct27, askC, F1_ct28, travC, F1_ct29, ivC, enc, encQ, r_end, r_end1, r_nil, r_op, r_opg, r_runOp, r_op0, r_yld0, r_yld1, r_y, r_rbeg, r_rend, r_rend1, r_rfrm, r_rfrm1, r_range, r_rangeK, r_rangeE, r_draw, r_dnil, r_dop, r_dopg, r_dplq, r_dplh, r_dq, r_dq0, r_dcl1, r_dcl0, r_dct1, r_dct0, r_dgd, r_dgq1, r_dgq0, r_dctG, r_op1, r_eff, r_eff0, r_call, r_call0, r_inl, r_g, r_gq, r_gc, r_effg, r_effg0, r_callg, r_callg0, r_fin, r_pre, r_imp, r_all, r_ex, r_fing, r_preg, r_exg, r_inBlock, r_inLoop, r_frame, r_frame1, r_skip, r_region, r_seq, r_cond, r_cond1, r_block, r_exit, r_exit1, r_exit2, r_ret, r_loop, s_args0, s_args1, s_xt, s_xc, padL, blankL, callee, callArgs, eff, ctOf, getL, setL, S.put, S.upd, unopts, unopt, unoptsO, unoptsB, lazyO, guardOf, gbool, eMov, eNot, eNeg, eConv, eExt, eLenArr, eLen, eLenStr, eEqb, eEqv, allEq, eNil, negIf, eBool2, eCmp, eAri, ari, eBit, eDiv, eSh, eMinMax, foldMin, foldMax, kEq, pure1, cmpB, VO.quiet, resVals, resVal, tupled, popRet, popTo, cond, Option.bind, Option.map, eNew, eBox, asCells, lenH, snocH, eFieldAddr, eField, eLoad, cellsAt, getH, setH, dropL, takeL, mkAgg, lenL, lenS, shift, shiftL, shiftH, viewN, viewL, view, andT, junks, List.append_nil, Nat.beq, eIdxAddr, eIdxArr, eIndex, eStore, storeAt, spliceL, ones, one, eSlice, eSliceArr, bounds, subLo, addLo, eMake, eAppend, readS, repL, buildCells, chunk, purgeL, purgeLL, purgeH, purge, refs, refsL, List.cons_append, List.nil_append, wrOps, wrAl, wrDops, wrC, junkAt, putAll, putHs, headOf, headK, keepG, List.append_eq, headX, chkP, apartP, apartB, blk, strip, runAl, yld, putPs, lenN, findR, notRound, jumpK, jumpPT, jcode, List.map_cons, List.map_nil, ite_self, reduceIte]
    simp only [true_and, and_true, imp_self, implies_true, decide_eq_true_eq, decide_eq_false_iff_not, Nat.reduceAdd, Nat.reduceLeDiff, Bool.not_not, reduceCtorEq, false_imp_iff, Bool.not_eq_true', Bool.not_eq_false', Bool.false_eq_true, and_self, forall_const, ne_eq, not_false_eq_true, Nat.reduceEqDiff]
    refine ⟨l, ⟨rfl, fun _ _ => rfl⟩, fun he => ?_, fun he => ?_⟩
    · refine ans_le (show k _ [] from h) ?_ ?_
      · simp [expo, view, viewL, le, leL, travLo_e he]
      · simp [freshS, freshL]
    · obtain ⟨h1, h2, h3⟩ := tq_iv he
      refine ⟨l, ⟨⟨rfl, fun _ _ => rfl⟩, h2⟩, h1, ans_le (show k _ [] from h) ?_ ?_⟩
      · simp [expo, view, viewL, le, leL, travLo_o he, he, tq]
      · simp [freshS, freshL]
  · exact h.1.elim

theorem Trav10 : TravC.ok Try.prog 10 := by
  refine contract Try.func10 v10_is F1_ok 400 TravC fun args k h => ?_
  simp only [TravC, ch3C] at h
  split at h
  · rename_i tt z n sz get p t turns x
    obtain ⟨l, ⟨rfl, rfl, hg⟩, h⟩ := h
    refine ⟨[.agg [.vs tt z l.length 4 (fun k => enc (l.getD k default)), .int .i64 p, .int .i64 t], .int .i64 turns, .int .i64 x], by simpa [leL, le] using fun k hk => leXL_eq (hg k hk), ?_⟩
    dsimp only [v10, F1_ct30, askC, F1_ct32, travC, F1_ct31, rivC, enc, encQ, r_end, r_end1, r_nil, r_op, r_opg, r_runOp, r_op0, r_yld0, r_yld1, r_y, r_rbeg, r_rend, r_rend1, r_rfrm, r_rfrm1, r_range, r_rangeK, r_rangeE, r_draw, r_dnil, r_dop, r_dopg, r_dplq, r_dplh, r_dq, r_dq0, r_dcl1, r_dcl0, r_dct1, r_dct0, r_dgd, r_dgq1, r_dgq0, r_dctG, r_op1, r_eff, r_eff0, r_call, r_call0, r_inl, r_g, r_gq, r_gc, r_effg, r_effg0, r_callg, r_callg0, r_fin, r_pre, r_imp, r_all, r_ex, r_fing, r_preg, r_exg, r_inBlock, r_inLoop, r_frame, r_frame1, r_skip, r_region, r_seq, r_cond, r_cond1, r_block, r_exit, r_exit1, r_exit2, r_ret, r_loop, s_args0, s_args1, s_xt, s_xc, padL, blankL, callee, callArgs, eff, ctOf, getL, setL, S.put, S.upd, unopts, unopt, unoptsO, unoptsB, lazyO, guardOf, gbool, eMov, eNot, eNeg, eConv, eExt, eLenArr, eLen, eLenStr, eEqb, eEqv, allEq, eNil, negIf, eBool2, eCmp, eAri, ari, eBit, eDiv, eSh, eMinMax, foldMin, foldMax, kEq, pure1, cmpB, VO.quiet, resVals, resVal, tupled, popRet, popTo, cond, Option.bind, Option.map, eNew, eBox, asCells, lenH, snocH, eFieldAddr, eField, eLoad, cellsAt, getH, setH, dropL, takeL, mkAgg, lenL, lenS, shift, shiftL, shiftH, viewN, viewL, view, andT, junks, List.append_nil, Nat.beq, eIdxAddr, eIdxArr, eIndex, eStore, storeAt, spliceL, ones, one, eSlice, eSliceArr, bounds, subLo, addLo, eMake, eAppend, readS, repL, buildCells, chunk, purgeL, purgeLL, purgeH, purge, refs, refsL, List.cons_append, List.nil_append, wrOps, wrAl, wrDops, wrC, junkAt, putAll, putHs, headOf, headK, keepG, List.append_eq, headX, chkP, apartP, apartB, blk, strip, runAl, yld, putPs, lenN, findR, notRound, jumpK, jumpPT, jcode, List.map_cons, List.map_nil, ite_self, reduceIte]
    simp only [true_and, and_true, imp_self, implies_true, decide_eq_true_eq, decide_eq_false_iff_not, Nat.reduceAdd, Nat.reduceLeDiff, Bool.not_not, reduceCtorEq, false_imp_iff, Bool.not_eq_true', Bool.not_eq_false', Bool.false_eq_true, and_self, forall_const, ne_eq, not_false_eq_true, Nat.reduceEqDiff]
    refine ⟨l, ⟨rfl, fun _ _ => rfl⟩, fun he => ?_, fun he => ?_⟩
    · refine ans_le (show k _ [] from h) ?_ ?_
      · simp [expo, view, viewL, le, leL, travLo_e he]
      · simp [freshS, freshL]
    · obtain ⟨h1, h2, h3⟩ := tq_iv he
      refine ⟨l, ⟨⟨rfl, fun _ _ => rfl⟩, h2⟩, h1, ans_le (show k _ [] from h) ?_ ?_⟩
      · rw [tq] at h3
        simp [expo, view, viewL, le, leL, travLo_o he, he, tq, h3]
      · simp [freshS, freshL]
  · exact h.1.elim

theorem Tou19 : TouC.ok Try.prog 19 := by
  refine contract Try.func19 v19_is F1_ok 400 TouC fun args k h => ?_
  simp only [TouC, chC] at h
  split at h
  · rename_i tt z n sz get p t
    obtain ⟨l, ⟨rfl, rfl, hg⟩, h⟩ := h
    refine ⟨[.agg [.vs tt z l.length 4 (fun k => enc (l.getD k default)), .int .i64 p, .int .i64 t]], by simpa [leL, le] using fun k hk => leXL_eq (hg k hk), ?_⟩
    dsimp only [v19, F1_ct13, chkC, chC, F1_ct42, touC, F1_ct29, ivC, enc, encQ, r_end, r_end1, r_nil, r_op, r_opg, r_runOp, r_op0, r_yld0, r_yld1, r_y, r_rbeg, r_rend, r_rend1, r_rfrm, r_rfrm1, r_range, r_rangeK, r_rangeE, r_draw, r_dnil, r_dop, r_dopg, r_dplq, r_dplh, r_dq, r_dq0, r_dcl1, r_dcl0, r_dct1, r_dct0, r_dgd, r_dgq1, r_dgq0, r_dctG, r_op1, r_eff, r_eff0, r_call, r_call0, r_inl, r_g, r_gq, r_gc, r_effg, r_effg0, r_callg, r_callg0, r_fin, r_pre, r_imp, r_all, r_ex, r_fing, r_preg, r_exg, r_inBlock, r_inLoop, r_frame, r_frame1, r_skip, r_region, r_seq, r_cond, r_cond1, r_block, r_exit, r_exit1, r_exit2, r_ret, r_loop, s_args0, s_args1, s_xt, s_xc, padL, blankL, callee, callArgs, eff, ctOf, getL, setL, S.put, S.upd, unopts, unopt, unoptsO, unoptsB, lazyO, guardOf, gbool, eMov, eNot, eNeg, eConv, eExt, eLenArr, eLen, eLenStr, eEqb, eEqv, allEq, eNil, negIf, eBool2, eCmp, eAri, ari, eBit, eDiv, eSh, eMinMax, foldMin, foldMax, kEq, pure1, cmpB, VO.quiet, resVals, resVal, tupled, popRet, popTo, cond, Option.bind, Option.map, eNew, eBox, asCells, lenH, snocH, eFieldAddr, eField, eLoad, cellsAt, getH, setH, dropL, takeL, mkAgg, lenL, lenS, shift, shiftL, shiftH, viewN, viewL, view, andT, junks, List.append_nil, Nat.beq, eIdxAddr, eIdxArr, eIndex, eStore, storeAt, spliceL, ones, one, eSlice, eSliceArr, bounds, subLo, addLo, eMake, eAppend, readS, repL, buildCells, chunk, purgeL, purgeLL, purgeH, purge, refs, refsL, List.cons_append, List.nil_append, wrOps, wrAl, wrDops, wrC, junkAt, putAll, putHs, headOf, headK, keepG, List.append_eq, headX, chkP, apartP, apartB, blk, strip, runAl, yld, putPs, lenN, findR, notRound, jumpK, jumpPT, jcode, List.map_cons, List.map_nil, ite_self, reduceIte]
    simp only [true_and, and_true, imp_self, implies_true, decide_eq_true_eq, decide_eq_false_iff_not, Nat.reduceAdd, Nat.reduceLeDiff, Bool.not_not, reduceCtorEq, false_imp_iff, Bool.not_eq_true', Bool.not_eq_false', Bool.false_eq_true, and_self, forall_const, ne_eq, not_false_eq_true, Nat.reduceEqDiff]
    refine ⟨l, ⟨rfl, fun _ _ => rfl⟩, fun he => ?_, fun he => ?_⟩
    · refine ans_le (show k _ [] from h) ?_ ?_
      · simp [expo, view, viewL, le, leL, touLo_e he]
      · simp [freshS, freshL]
    · obtain ⟨h1, h2, h3⟩ := uq_iv he
      refine ⟨l, ⟨⟨rfl, fun _ _ => rfl⟩, h2⟩, h1, ans_le (show k _ [] from h) ?_ ?_⟩
      · simp [expo, view, viewL, le, leL, touLo_o he, he, uq]
      · simp [freshS, freshL]
  · exact h.1.elim

theorem Tou21 : TouC.ok Try.prog 21 := by
  refine contract Try.func21 v21_is F1_ok 400 TouC fun args k h => ?_
  simp only [TouC, chC] at h
  split at h
  · rename_i tt z n sz get p t
    obtain ⟨l, ⟨rfl, rfl, hg⟩, h⟩ := h
    refine ⟨[.agg [.vs tt z l.length 4 (fun k => enc (l.getD k default)), .int .i64 p, .int .i64 t]], by simpa [leL, le] using fun k hk => leXL_eq (hg k hk), ?_⟩
    dsimp only [v21, F1_ct14, chkC, chC, F1_ct43, touC, F1_ct31, rivC, enc, encQ, r_end, r_end1, r_nil, r_op, r_opg, r_runOp, r_op0, r_yld0, r_yld1, r_y, r_rbeg, r_rend, r_rend1, r_rfrm, r_rfrm1, r_range, r_rangeK, r_rangeE, r_draw, r_dnil, r_dop, r_dopg, r_dplq, r_dplh, r_dq, r_dq0, r_dcl1, r_dcl0, r_dct1, r_dct0, r_dgd, r_dgq1, r_dgq0, r_dctG, r_op1, r_eff, r_eff0, r_call, r_call0, r_inl, r_g, r_gq, r_gc, r_effg, r_effg0, r_callg, r_callg0, r_fin, r_pre, r_imp, r_all, r_ex, r_fing, r_preg, r_exg, r_inBlock, r_inLoop, r_frame, r_frame1, r_skip, r_region, r_seq, r_cond, r_cond1, r_block, r_exit, r_exit1, r_exit2, r_ret, r_loop, s_args0, s_args1, s_xt, s_xc, padL, blankL, callee, callArgs, eff, ctOf, getL, setL, S.put, S.upd, unopts, unopt, unoptsO, unoptsB, lazyO, guardOf, gbool, eMov, eNot, eNeg, eConv, eExt, eLenArr, eLen, eLenStr, eEqb, eEqv, allEq, eNil, negIf, eBool2, eCmp, eAri, ari, eBit, eDiv, eSh, eMinMax, foldMin, foldMax, kEq, pure1, cmpB, VO.quiet, resVals, resVal, tupled, popRet, popTo, cond, Option.bind, Option.map, eNew, eBox, asCells, lenH, snocH, eFieldAddr, eField, eLoad, cellsAt, getH, setH, dropL, takeL, mkAgg, lenL, lenS, shift, shiftL, shiftH, viewN, viewL, view, andT, junks, List.append_nil, Nat.beq, eIdxAddr, eIdxArr, eIndex, eStore, storeAt, spliceL, ones, one, eSlice, eSliceArr, bounds, subLo, addLo, eMake, eAppend, readS, repL, buildCells, chunk, purgeL, purgeLL, purgeH, purge, refs, refsL, List.cons_append, List.nil_append, wrOps, wrAl, wrDops, wrC, junkAt, putAll, putHs, headOf, headK, keepG, List.append_eq, headX, chkP, apartP, apartB, blk, strip, runAl, yld, putPs, lenN, findR, notRound, jumpK, jumpPT, jcode, List.map_cons, List.map_nil, ite_self, reduceIte]
    simp only [true_and, and_true, imp_self, implies_true, decide_eq_true_eq, decide_eq_false_iff_not, Nat.reduceAdd, Nat.reduceLeDiff, Bool.not_not, reduceCtorEq, false_imp_iff, Bool.not_eq_true', Bool.not_eq_false', Bool.false_eq_true, and_self, forall_const, ne_eq, not_false_eq_true, Nat.reduceEqDiff]
    refine ⟨l, ⟨rfl, fun _ _ => rfl⟩, fun he => ?_, fun he => ?_⟩
    · refine ans_le (show k _ [] from h) ?_ ?_
      · simp [expo, view, viewL, le, leL, touLo_e he]
      · simp [freshS, freshL]
    · obtain ⟨h1, h2, h3⟩ := uq_iv he
      refine ⟨l, ⟨⟨rfl, fun _ _ => rfl⟩, h2⟩, h1, ans_le (show k _ [] from h) ?_ ?_⟩
      · rw [uq] at h3
        simp [expo, view, viewL, le, leL, touLo_o he, he, uq, h3]
      · simp [freshS, freshL]
  · exact h.1.elim

theorem Need11 : NeedC.ok Try.prog 11 := by
  refine contract Try.func11 v11_is F1_ok 600 NeedC fun args k h => ?_
  simp only [NeedC, ch3C] at h
  split at h
  · rename_i tt z n sz get p t turns x
    obtain ⟨l, ⟨rfl, rfl, hg⟩, h⟩ := h
    refine ⟨[.agg [.vs tt z l.length 4 (fun k => enc (l.getD k default)), .int .i64 p, .int .i64 t], .int .i64 turns, .int .i64 x], by simpa [leL, le] using fun k hk => leXL_eq (hg k hk), ?_⟩
    dsimp only [v11, F1_ct27, askC, F1_ct33, F1_fn33, v33, F1_fn47, v47, enc, r_end, r_end1, r_nil, r_op, r_opg, r_runOp, r_op0, r_yld0, r_yld1, r_y, r_rbeg, r_rend, r_rend1, r_rfrm, r_rfrm1, r_range, r_rangeK, r_rangeE, r_draw, r_dnil, r_dop, r_dopg, r_dplq, r_dplh, r_dq, r_dq0, r_dcl1, r_dcl0, r_dct1, r_dct0, r_dgd, r_dgq1, r_dgq0, r_dctG, r_op1, r_eff, r_eff0, r_call, r_call0, r_inl, r_g, r_gq, r_gc, r_effg, r_effg0, r_callg, r_callg0, r_fin, r_pre, r_imp, r_all, r_ex, r_fing, r_preg, r_exg, r_inBlock, r_inLoop, r_frame, r_frame1, r_skip, r_region, r_seq, r_cond, r_cond1, r_block, r_exit, r_exit1, r_exit2, r_ret, r_loop, s_args0, s_args1, s_xt, s_xc, padL, blankL, callee, callArgs, eff, ctOf, getL, setL, S.put, S.upd, unopts, unopt, unoptsO, unoptsB, lazyO, guardOf, gbool, eMov, eNot, eNeg, eConv, eExt, eLenArr, eLen, eLenStr, eEqb, eEqv, allEq, eNil, negIf, eBool2, eCmp, eAri, ari, eBit, eDiv, eSh, eMinMax, foldMin, foldMax, kEq, pure1, cmpB, VO.quiet, resVals, resVal, tupled, popRet, popTo, cond, Option.bind, Option.map, eNew, eBox, asCells, lenH, snocH, eFieldAddr, eField, eLoad, cellsAt, getH, setH, dropL, takeL, mkAgg, lenL, lenS, shift, shiftL, shiftH, viewN, viewL, view, andT, junks, List.append_nil, Nat.beq, eIdxAddr, eIdxArr, eIndex, eStore, storeAt, spliceL, ones, one, eSlice, eSliceArr, bounds, subLo, addLo, eMake, eAppend, readS, repL, buildCells, chunk, purgeL, purgeLL, purgeH, purge, refs, refsL, List.cons_append, List.nil_append, wrOps, wrAl, wrDops, wrC, junkAt, putAll, putHs, headOf, headK, keepG, List.append_eq, headX, chkP, apartP, apartB, blk, strip, runAl, yld, putPs, lenN, findR, notRound, jumpK, jumpPT, jcode, List.map_cons, List.map_nil, ite_self, reduceIte]
    simp only [true_and, and_true, imp_self, implies_true, decide_eq_true_eq, decide_eq_false_iff_not, Nat.reduceAdd, Nat.reduceLeDiff, Bool.not_not, reduceCtorEq, false_imp_iff, Bool.not_eq_true', Bool.not_eq_false', Bool.false_eq_true, and_self, forall_const, ne_eq, not_false_eq_true, Nat.reduceEqDiff]
    refine ⟨l, ⟨rfl, fun _ _ => rfl⟩, fun he => ?_, fun he => ⟨fun h0 => ?_, fun h0 => ?_⟩⟩
    · refine ans_le (show k _ [] from h) ?_ ?_
      · simp [expo, view, viewL, le, leL, needF, he]
      · simp [freshS, freshL]
    · refine ans_le (show k _ [] from h) ?_ ?_
      · have : needF l p t turns x = (0, 0) := by rw [needF, if_neg (by rw [he]; simp), if_pos h0]
        simp [expo, view, viewL, le, leL, this]
      · simp [freshS, freshL]
    · intro lp
      obtain ⟨b1, h100⟩ := bq_iv he
      refine Loop.at Nat (fun i => [(10, .int .i64 i)]) (fun i => [(1, .box (encQ (backF ((adjL t turns l).reverse.take i) ⟨x, 1⟩)))]) [] (fun i => i ≤ l.length) (fun i => l.length - i) ?_ ?_
      · refine ⟨0, Nat.zero_le _, ?_⟩
        dsimp only [encQ, backF, List.take_zero, List.foldl_nil, r_end, r_end1, r_nil, r_op, r_opg, r_runOp, r_op0, r_yld0, r_yld1, r_y, r_rbeg, r_rend, r_rend1, r_rfrm, r_rfrm1, r_range, r_rangeK, r_rangeE, r_draw, r_dnil, r_dop, r_dopg, r_dplq, r_dplh, r_dq, r_dq0, r_dcl1, r_dcl0, r_dct1, r_dct0, r_dgd, r_dgq1, r_dgq0, r_dctG, r_op1, r_eff, r_eff0, r_call, r_call0, r_inl, r_g, r_gq, r_gc, r_effg, r_effg0, r_callg, r_callg0, r_fin, r_pre, r_imp, r_all, r_ex, r_fing, r_preg, r_exg, r_inBlock, r_inLoop, r_frame, r_frame1, r_skip, r_region, r_seq, r_cond, r_cond1, r_block, r_exit, r_exit1, r_exit2, r_ret, r_loop, s_args0, s_args1, s_xt, s_xc, padL, blankL, callee, callArgs, eff, ctOf, getL, setL, S.put, S.upd, unopts, unopt, unoptsO, unoptsB, lazyO, guardOf, gbool, eMov, eNot, eNeg, eConv, eExt, eLenArr, eLen, eLenStr, eEqb, eEqv, allEq, eNil, negIf, eBool2, eCmp, eAri, ari, eBit, eDiv, eSh, eMinMax, foldMin, foldMax, kEq, pure1, cmpB, VO.quiet, resVals, resVal, tupled, popRet, popTo, cond, Option.bind, Option.map, eNew, eBox, asCells, lenH, snocH, eFieldAddr, eField, eLoad, cellsAt, getH, setH, dropL, takeL, mkAgg, lenL, lenS, shift, shiftL, shiftH, viewN, viewL, view, andT, junks, List.append_nil, Nat.beq, eIdxAddr, eIdxArr, eIndex, eStore, storeAt, spliceL, ones, one, eSlice, eSliceArr, bounds, subLo, addLo, eMake, eAppend, readS, repL, buildCells, chunk, purgeL, purgeLL, purgeH, purge, refs, refsL, List.cons_append, List.nil_append, wrOps, wrAl, wrDops, wrC, junkAt, putAll, putHs, headOf, headK, keepG, List.append_eq, headX, chkP, apartP, apartB, blk, strip, runAl, yld, putPs, lenN, findR, notRound, jumpK, jumpPT, jcode, List.map_cons, List.map_nil, ite_self, reduceIte]
        simp only [leS_mk, leL_cons, leL_nil, le_junk, le_int, le_bool, le_nil, leLL_nil, leLL_cons, leH_cons, leH_nil, leH1_box, leH1_own, leH1_gone, le_vs, le_agg, le_tup, le_ptr, le_own, le_xp, le_fn, le_opt, le_val, le_elem, le_nil_own, le_nil_vs, leH_ghost, leL_chunk, leXL_id, bnd_int, bnd_bool, bnd_val, bnd_nil, bnd_junk, bnd_vs, bnd_xp, bnd_agg, bnd_tup, bnd_ptr, bnd_own, bnd_elem, bnd_fn, bnd_iface, bnd_opt, bndL_nil, bndL_cons, lenH_cons, lenH_nil, imp_self, implies_true, true_and, and_true]
        simp
      · rintro i hi
        dsimp only [F1_ct34, moreC, F1_ct29, ivC, enc, encQ, Int.toNat_natCast, r_end, r_end1, r_nil, r_op, r_opg, r_runOp, r_op0, r_yld0, r_yld1, r_y, r_rbeg, r_rend, r_rend1, r_rfrm, r_rfrm1, r_range, r_rangeK, r_rangeE, r_draw, r_dnil, r_dop, r_dopg, r_dplq, r_dplh, r_dq, r_dq0, r_dcl1, r_dcl0, r_dct1, r_dct0, r_dgd, r_dgq1, r_dgq0, r_dctG, r_op1, r_eff, r_eff0, r_call, r_call0, r_inl, r_g, r_gq, r_gc, r_effg, r_effg0, r_callg, r_callg0, r_fin, r_pre, r_imp, r_all, r_ex, r_fing, r_preg, r_exg, r_inBlock, r_inLoop, r_frame, r_frame1, r_skip, r_region, r_seq, r_cond, r_cond1, r_block, r_exit, r_exit1, r_exit2, r_ret, r_loop, s_args0, s_args1, s_xt, s_xc, padL, blankL, callee, callArgs, eff, ctOf, getL, setL, S.put, S.upd, unopts, unopt, unoptsO, unoptsB, lazyO, guardOf, gbool, eMov, eNot, eNeg, eConv, eExt, eLenArr, eLen, eLenStr, eEqb, eEqv, allEq, eNil, negIf, eBool2, eCmp, eAri, ari, eBit, eDiv, eSh, eMinMax, foldMin, foldMax, kEq, pure1, cmpB, VO.quiet, resVals, resVal, tupled, popRet, popTo, cond, Option.bind, Option.map, eNew, eBox, asCells, lenH, snocH, eFieldAddr, eField, eLoad, cellsAt, getH, setH, dropL, takeL, mkAgg, lenL, lenS, shift, shiftL, shiftH, viewN, viewL, view, andT, junks, List.append_nil, Nat.beq, eIdxAddr, eIdxArr, eIndex, eStore, storeAt, spliceL, ones, one, eSlice, eSliceArr, bounds, subLo, addLo, eMake, eAppend, readS, repL, buildCells, chunk, purgeL, purgeLL, purgeH, purge, refs, refsL, List.cons_append, List.nil_append, wrOps, wrAl, wrDops, wrC, junkAt, putAll, putHs, headOf, headK, keepG, List.append_eq, headX, chkP, apartP, apartB, blk, strip, runAl, yld, putPs, lenN, findR, notRound, jumpK, jumpPT, jcode, List.map_cons, List.map_nil, ite_self, reduceIte]
        simp only [true_and, and_true, imp_self, implies_true, decide_eq_true_eq, decide_eq_false_iff_not, Nat.reduceAdd, Nat.reduceLeDiff, Bool.not_not, reduceCtorEq, false_imp_iff, Bool.not_eq_true', Bool.not_eq_false', Bool.false_eq_true, and_self, forall_const, ne_eq, not_false_eq_true, Nat.reduceEqDiff]
        refine ⟨fun hlt => ?_, fun hge => ?_⟩
        · have hil : i < l.length := by omega
          have hx := back_ix hil h100
          have hi2 : i < (adjL t turns l).reverse.length := by rw [List.length_reverse, adjL_len]; exact hil
          have hr : (adjL t turns l).reverse.getD i default = (adjL t turns l).getD (l.length - 1 - i) default := by rw [rev_get (by rw [adjL_len]; exact hil), adjL_len]
          refine ⟨by rw [hx]; omega, fun hz => ?_, fun hz => ?_⟩
          · have hz2 : l.length - 1 - i = 0 := by omega
            refine ⟨i + 1, by omega, by omega, ?_⟩
            rw [back_succ hi2, hr]
            have hw := w_succ (i := i) (n := l.length) (by omega) (by omega)
            simp only [hw, hx, hz2, Int.toNat_natCast, leS_mk, leL_cons, leL_nil, le_junk, le_int, le_bool, le_nil, leLL_nil, leLL_cons, leH_cons, leH_nil, leH1_box, leH1_own, leH1_gone, le_vs, le_agg, le_tup, le_ptr, le_own, le_xp, le_fn, le_opt, le_val, le_elem, le_nil_own, le_nil_vs, leH_ghost, leL_chunk, leXL_id, bnd_int, bnd_bool, bnd_val, bnd_nil, bnd_junk, bnd_vs, bnd_xp, bnd_agg, bnd_tup, bnd_ptr, bnd_own, bnd_elem, bnd_fn, bnd_iface, bnd_opt, bndL_nil, bndL_cons, lenH_cons, lenH_nil, imp_self, implies_true, true_and, and_true]
            rw [adjL_zero t turns (by omega)]
            simp [adj, moreF, w6]
          · refine ⟨i + 1, by omega, by omega, ?_⟩
            rw [back_succ hi2, hr, adjL_succ t turns (by omega)]
            have hw := w_succ (i := i) (n := l.length) (by omega) (by omega)
            simp only [hw, hx, Int.toNat_natCast, leS_mk, leL_cons, leL_nil, le_junk, le_int, le_bool, le_nil, leLL_nil, leLL_cons, leH_cons, leH_nil, leH1_box, leH1_own, leH1_gone, le_vs, le_agg, le_tup, le_ptr, le_own, le_xp, le_fn, le_opt, le_val, le_elem, le_nil_own, le_nil_vs, leH_ghost, leL_chunk, leXL_id, bnd_int, bnd_bool, bnd_val, bnd_nil, bnd_junk, bnd_vs, bnd_xp, bnd_agg, bnd_tup, bnd_ptr, bnd_own, bnd_elem, bnd_fn, bnd_iface, bnd_opt, bndL_nil, bndL_cons, lenH_cons, lenH_nil, imp_self, implies_true, true_and, and_true]
            simp [moreF, w6]
        · rw [take_full (by rw [List.length_reverse, adjL_len]; omega)]
          refine ⟨b1, fun hb => ?_, fun hb => ?_⟩
          · refine ans_le (show k _ [] from h) ?_ ?_
            · have : 50000 < ivHi (bq l t turns x) := hb
              simp [expo, view, viewL, le, leL, needF, he, h0, this]
            · simp [freshS, freshL]
          · refine ans_le (show k _ [] from h) ?_ ?_
            · have : ¬ 50000 < ivHi (bq l t turns x) := hb
              simp only [needF, he, h0, this, if_false, ne_eq, not_true_eq_false]
              simp [expo, view, viewL, le, leL, bq]
            · simp [freshS, freshL]
  · exact h.1.elim

theorem Need12 : NeedC.ok Try.prog 12 := by
  refine contract Try.func12 v12_is F1_ok 600 NeedC fun args k h => ?_
  simp only [NeedC, ch3C] at h
  split at h
  · rename_i tt z n sz get p t turns x
    obtain ⟨l, ⟨rfl, rfl, hg⟩, h⟩ := h
    refine ⟨[.agg [.vs tt z l.length 4 (fun k => enc (l.getD k default)), .int .i64 p, .int .i64 t], .int .i64 turns, .int .i64 x], by simpa [leL, le] using fun k hk => leXL_eq (hg k hk), ?_⟩
    dsimp only [v12, F1_ct30, askC, enc, r_end, r_end1, r_nil, r_op, r_opg, r_runOp, r_op0, r_yld0, r_yld1, r_y, r_rbeg, r_rend, r_rend1, r_rfrm, r_rfrm1, r_range, r_rangeK, r_rangeE, r_draw, r_dnil, r_dop, r_dopg, r_dplq, r_dplh, r_dq, r_dq0, r_dcl1, r_dcl0, r_dct1, r_dct0, r_dgd, r_dgq1, r_dgq0, r_dctG, r_op1, r_eff, r_eff0, r_call, r_call0, r_inl, r_g, r_gq, r_gc, r_effg, r_effg0, r_callg, r_callg0, r_fin, r_pre, r_imp, r_all, r_ex, r_fing, r_preg, r_exg, r_inBlock, r_inLoop, r_frame, r_frame1, r_skip, r_region, r_seq, r_cond, r_cond1, r_block, r_exit, r_exit1, r_exit2, r_ret, r_loop, s_args0, s_args1, s_xt, s_xc, padL, blankL, callee, callArgs, eff, ctOf, getL, setL, S.put, S.upd, unopts, unopt, unoptsO, unoptsB, lazyO, guardOf, gbool, eMov, eNot, eNeg, eConv, eExt, eLenArr, eLen, eLenStr, eEqb, eEqv, allEq, eNil, negIf, eBool2, eCmp, eAri, ari, eBit, eDiv, eSh, eMinMax, foldMin, foldMax, kEq, pure1, cmpB, VO.quiet, resVals, resVal, tupled, popRet, popTo, cond, Option.bind, Option.map, eNew, eBox, asCells, lenH, snocH, eFieldAddr, eField, eLoad, cellsAt, getH, setH, dropL, takeL, mkAgg, lenL, lenS, shift, shiftL, shiftH, viewN, viewL, view, andT, junks, List.append_nil, Nat.beq, eIdxAddr, eIdxArr, eIndex, eStore, storeAt, spliceL, ones, one, eSlice, eSliceArr, bounds, subLo, addLo, eMake, eAppend, readS, repL, buildCells, chunk, purgeL, purgeLL, purgeH, purge, refs, refsL, List.cons_append, List.nil_append, wrOps, wrAl, wrDops, wrC, junkAt, putAll, putHs, headOf, headK, keepG, List.append_eq, headX, chkP, apartP, apartB, blk, strip, runAl, yld, putPs, lenN, findR, notRound, jumpK, jumpPT, jcode, List.map_cons, List.map_nil, ite_self, reduceIte]
    simp only [true_and, and_true, imp_self, implies_true, decide_eq_true_eq, decide_eq_false_iff_not, Nat.reduceAdd, Nat.reduceLeDiff, Bool.not_not, reduceCtorEq, false_imp_iff, Bool.not_eq_true', Bool.not_eq_false', Bool.false_eq_true, and_self, forall_const, ne_eq, not_false_eq_true, Nat.reduceEqDiff]
    refine ⟨l, ⟨rfl, fun _ _ => rfl⟩, fun he => ?_, fun he => ?_⟩
    · refine ans_le (show k _ [] from h) ?_ ?_
      · simp [expo, view, viewL, le, leL, needF, he]
      · simp [freshS, freshL]
    · obtain ⟨m, hm0, hlo, hhi, hres⟩ := need_spec he
      obtain ⟨_, h100⟩ := bq_iv he
      refine Loop.at Nat (fun i => [(9, .int .i64 i)]) (fun _ => []) [] (fun i => i ≤ 50001 ∧ ((i : Int) ≤ m)) (fun i => 50001 - i) ?_ ?_
      · refine ⟨0, ⟨Nat.zero_le _, hm0⟩, ?_⟩
        dsimp only [r_end, r_end1, r_nil, r_op, r_opg, r_runOp, r_op0, r_yld0, r_yld1, r_y, r_rbeg, r_rend, r_rend1, r_rfrm, r_rfrm1, r_range, r_rangeK, r_rangeE, r_draw, r_dnil, r_dop, r_dopg, r_dplq, r_dplh, r_dq, r_dq0, r_dcl1, r_dcl0, r_dct1, r_dct0, r_dgd, r_dgq1, r_dgq0, r_dctG, r_op1, r_eff, r_eff0, r_call, r_call0, r_inl, r_g, r_gq, r_gc, r_effg, r_effg0, r_callg, r_callg0, r_fin, r_pre, r_imp, r_all, r_ex, r_fing, r_preg, r_exg, r_inBlock, r_inLoop, r_frame, r_frame1, r_skip, r_region, r_seq, r_cond, r_cond1, r_block, r_exit, r_exit1, r_exit2, r_ret, r_loop, s_args0, s_args1, s_xt, s_xc, padL, blankL, callee, callArgs, eff, ctOf, getL, setL, S.put, S.upd, unopts, unopt, unoptsO, unoptsB, lazyO, guardOf, gbool, eMov, eNot, eNeg, eConv, eExt, eLenArr, eLen, eLenStr, eEqb, eEqv, allEq, eNil, negIf, eBool2, eCmp, eAri, ari, eBit, eDiv, eSh, eMinMax, foldMin, foldMax, kEq, pure1, cmpB, VO.quiet, resVals, resVal, tupled, popRet, popTo, cond, Option.bind, Option.map, eNew, eBox, asCells, lenH, snocH, eFieldAddr, eField, eLoad, cellsAt, getH, setH, dropL, takeL, mkAgg, lenL, lenS, shift, shiftL, shiftH, viewN, viewL, view, andT, junks, List.append_nil, Nat.beq, eIdxAddr, eIdxArr, eIndex, eStore, storeAt, spliceL, ones, one, eSlice, eSliceArr, bounds, subLo, addLo, eMake, eAppend, readS, repL, buildCells, chunk, purgeL, purgeLL, purgeH, purge, refs, refsL, List.cons_append, List.nil_append, wrOps, wrAl, wrDops, wrC, junkAt, putAll, putHs, headOf, headK, keepG, List.append_eq, headX, chkP, apartP, apartB, blk, strip, runAl, yld, putPs, lenN, findR, notRound, jumpK, jumpPT, jcode, List.map_cons, List.map_nil, ite_self, reduceIte]
        simp only [leS_mk, leL_cons, leL_nil, le_junk, le_int, le_bool, le_nil, leLL_nil, leLL_cons, leH_cons, leH_nil, leH1_box, leH1_own, leH1_gone, le_vs, le_agg, le_tup, le_ptr, le_own, le_xp, le_fn, le_opt, le_val, le_elem, le_nil_own, le_nil_vs, leH_ghost, leL_chunk, leXL_id, bnd_int, bnd_bool, bnd_val, bnd_nil, bnd_junk, bnd_vs, bnd_xp, bnd_agg, bnd_tup, bnd_ptr, bnd_own, bnd_elem, bnd_fn, bnd_iface, bnd_opt, bndL_nil, bndL_cons, lenH_cons, lenH_nil, imp_self, implies_true, true_and, and_true]
        simp
      · rintro i ⟨hi, him⟩
        dsimp only [F1_ct35, enoC, enc, r_end, r_end1, r_nil, r_op, r_opg, r_runOp, r_op0, r_yld0, r_yld1, r_y, r_rbeg, r_rend, r_rend1, r_rfrm, r_rfrm1, r_range, r_rangeK, r_rangeE, r_draw, r_dnil, r_dop, r_dopg, r_dplq, r_dplh, r_dq, r_dq0, r_dcl1, r_dcl0, r_dct1, r_dct0, r_dgd, r_dgq1, r_dgq0, r_dctG, r_op1, r_eff, r_eff0, r_call, r_call0, r_inl, r_g, r_gq, r_gc, r_effg, r_effg0, r_callg, r_callg0, r_fin, r_pre, r_imp, r_all, r_ex, r_fing, r_preg, r_exg, r_inBlock, r_inLoop, r_frame, r_frame1, r_skip, r_region, r_seq, r_cond, r_cond1, r_block, r_exit, r_exit1, r_exit2, r_ret, r_loop, s_args0, s_args1, s_xt, s_xc, padL, blankL, callee, callArgs, eff, ctOf, getL, setL, S.put, S.upd, unopts, unopt, unoptsO, unoptsB, lazyO, guardOf, gbool, eMov, eNot, eNeg, eConv, eExt, eLenArr, eLen, eLenStr, eEqb, eEqv, allEq, eNil, negIf, eBool2, eCmp, eAri, ari, eBit, eDiv, eSh, eMinMax, foldMin, foldMax, kEq, pure1, cmpB, VO.quiet, resVals, resVal, tupled, popRet, popTo, cond, Option.bind, Option.map, eNew, eBox, asCells, lenH, snocH, eFieldAddr, eField, eLoad, cellsAt, getH, setH, dropL, takeL, mkAgg, lenL, lenS, shift, shiftL, shiftH, viewN, viewL, view, andT, junks, List.append_nil, Nat.beq, eIdxAddr, eIdxArr, eIndex, eStore, storeAt, spliceL, ones, one, eSlice, eSliceArr, bounds, subLo, addLo, eMake, eAppend, readS, repL, buildCells, chunk, purgeL, purgeLL, purgeH, purge, refs, refsL, List.cons_append, List.nil_append, wrOps, wrAl, wrDops, wrC, junkAt, putAll, putHs, headOf, headK, keepG, List.append_eq, headX, chkP, apartP, apartB, blk, strip, runAl, yld, putPs, lenN, findR, notRound, jumpK, jumpPT, jcode, List.map_cons, List.map_nil, ite_self, reduceIte]
        simp only [true_and, and_true, imp_self, implies_true, decide_eq_true_eq, decide_eq_false_iff_not, Nat.reduceAdd, Nat.reduceLeDiff, Bool.not_not, reduceCtorEq, false_imp_iff, Bool.not_eq_true', Bool.not_eq_false', Bool.false_eq_true, and_self, forall_const, ne_eq, not_false_eq_true, Nat.reduceEqDiff]
        refine ⟨fun hle => ⟨l, ⟨⟨rfl, fun _ _ => rfl⟩, h100⟩, fun hb => ?_, fun hb => ?_⟩, fun hgt => ?_⟩
        · have : m ≤ i := by
            rcases Int.lt_or_le i m with h' | h'
            · rw [hlo i (by omega) h' (by omega)] at hb; cases hb
            · exact h'
          have e : m = i := by omega
          refine ans_le (show k _ [] from h) ?_ ?_
          · rw [hres, if_neg (by omega), e]
            simp [expo, view, viewL, le, leL]
          · simp [freshS, freshL]
        · have : (i : Int) < m := by
            rcases Int.lt_or_le i m with h' | h'
            · exact h'
            · rw [hhi i (by omega) h' (by omega)] at hb; cases hb
          refine ⟨i + 1, ⟨by omega, by omega⟩, by omega, ?_⟩
          have hw := w_succ (i := i) (n := 50001) (by omega) (by omega)
          simp only [hw, leS_mk, leL_cons, leL_nil, le_junk, le_int, le_bool, le_nil, leLL_nil, leLL_cons, leH_cons, leH_nil, leH1_box, leH1_own, leH1_gone, le_vs, le_agg, le_tup, le_ptr, le_own, le_xp, le_fn, le_opt, le_val, le_elem, le_nil_own, le_nil_vs, leH_ghost, leL_chunk, leXL_id, bnd_int, bnd_bool, bnd_val, bnd_nil, bnd_junk, bnd_vs, bnd_xp, bnd_agg, bnd_tup, bnd_ptr, bnd_own, bnd_elem, bnd_fn, bnd_iface, bnd_opt, bndL_nil, bndL_cons, lenH_cons, lenH_nil, imp_self, implies_true, true_and, and_true]
          simp
        · refine ans_le (show k _ [] from h) ?_ ?_
          · rw [hres, if_pos (by omega)]
            simp [expo, view, viewL, le, leL]
          · simp [freshS, freshL]
  · exact h.1.elim
end Go.Proofs.Ytmhlinndhmdjlaa
