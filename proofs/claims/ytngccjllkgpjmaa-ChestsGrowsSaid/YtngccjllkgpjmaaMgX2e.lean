/- Chests, walked: the best choice. -/
import Derived.Test.YtngccjllkgpjmaaMgX2d
import Derived.Test.YtngccjllkgpjmaaMgX2c
import Derived.Test.YtngccjllkgpjmaaRows
/- Chests, walked: the best choice. -/
set_option linter.all false
namespace Go.Proofs.Ytngccjllkgpjmaa
open Go Go.Vx
set_option maxRecDepth 100000
set_option maxHeartbeats 4000000

def v36 : VF := { ntmps := 65, res := [.tmp 4], body :=
 (.seq (.region [⟨(some 2), none, .box, [.tm 0]⟩,
  ⟨(some 3), none, .box, [.tm 1]⟩,
  ⟨(some 4), none, .mov, [.cn .nil]⟩])
 (.seq (.region [⟨(some 5), none, (.alloc [.nil]), []⟩])
 (.seq (.region [⟨(some 6), none, (.alloc [(.int .i64 0)]), []⟩])
 (.seq (.region [⟨(some 14), none, (.mkfn (.func 55) 0), [.tm 2, .tm 3, .tm 5, .tm 6]⟩,
  ⟨(some 7), none, .mov, [.tm 14]⟩])
 (.seq (.seq (.region [⟨(some 15), none, (.fieldAddr 0), [.tm 2]⟩,
  ⟨(some 16), none, (.load false 1), [.tm 15]⟩,
  ⟨(some 17), none, .len, [.tm 16]⟩,
  ⟨(some 18), none, .mov, [.cn (.int .i64 0)]⟩])
 (.block 0 (.loop (.seq (.region [⟨(some 19), none, (.cmp .lss), [.tm 18, .tm 17]⟩])
 (.seq (.cond (.tm 19) .skip
  (.exit 0))
 (.seq (.block 1 (.seq (.region [⟨(some 20), none, .mov, [.tm 18]⟩,
  ⟨(some 21), none, (.idxAddr 4), [.tm 16, .tm 18]⟩,
  ⟨(some 22), none, (.load true 4), [.tm 21]⟩,
  ⟨(some 9), none, (.alloc [(.int .i64 0), (.int .i64 0), (.int .i64 0), (.int .i64 0)]), []⟩,
  ⟨(some 8), none, .mov, [.tm 20]⟩,
  ⟨none, none, (.store 4), [.tm 9, .tm 22]⟩])
 (.region [⟨(some 23), none, .mov, [.tm 7]⟩,
  ⟨(some 24), none, (.load true 4), [.tm 9]⟩,
  ⟨(some 25), none, (.iface 70), [.tm 24]⟩,
  ⟨(some 26), none, .mov, [.tm 8]⟩,
  ⟨(some 27), none, (.buildSlice 1 1 [(.int .i64 0)] [(0, 1)]), [.tm 26]⟩,
  ⟨(some 28), none, .callv, [.tm 23, .tm 25, .tm 27]⟩])))
 (.region [⟨(some 29), none, (.ari .add), [.tm 18, .cn (.int .i64 1)]⟩,
  ⟨(some 18), none, .mov, [.tm 29]⟩])))))))
 (.seq (.seq (.region [⟨(some 30), none, (.load false 1), [.tm 5]⟩,
  ⟨(some 31), none, (.isNil true), [.tm 30, .cn .nil]⟩])
 (.cond (.tm 31) (.seq (.region [⟨(some 32), none, (.load false 1), [.tm 5]⟩,
  ⟨(some 4), none, .mov, [.tm 32]⟩])
 .ret)
  .skip))
 (.seq (.seq (.region [⟨(some 33), none, (.fieldAddr 0), [.tm 2]⟩,
  ⟨(some 34), none, (.load false 1), [.tm 33]⟩,
  ⟨(some 35), none, .len, [.tm 34]⟩,
  ⟨(some 36), none, .mov, [.cn (.int .i64 0)]⟩])
 (.block 2 (.loop (.seq (.region [⟨(some 37), none, (.cmp .lss), [.tm 36, .tm 35]⟩])
 (.seq (.cond (.tm 37) .skip
  (.exit 2))
 (.seq (.block 3 (.seq (.region [⟨(some 38), none, .mov, [.tm 36]⟩,
  ⟨(some 39), none, (.idxAddr 4), [.tm 34, .tm 36]⟩,
  ⟨(some 40), none, (.load true 4), [.tm 39]⟩,
  ⟨(some 11), none, (.alloc [(.int .i64 0), (.int .i64 0), (.int .i64 0), (.int .i64 0)]), []⟩,
  ⟨(some 10), none, .mov, [.tm 38]⟩,
  ⟨none, none, (.store 4), [.tm 11, .tm 40]⟩])
 (.seq (.region [⟨(some 41), none, (.fieldAddr 0), [.tm 2]⟩,
  ⟨(some 42), none, (.load false 1), [.tm 41]⟩,
  ⟨(some 43), none, .mov, [.tm 10]⟩,
  ⟨(some 44), none, (.slice 4 true false), [.tm 42, .tm 43]⟩,
  ⟨(some 45), none, .len, [.tm 44]⟩,
  ⟨(some 46), none, .mov, [.cn (.int .i64 0)]⟩])
 (.block 4 (.loop (.seq (.region [⟨(some 47), none, (.cmp .lss), [.tm 46, .tm 45]⟩])
 (.seq (.cond (.tm 47) .skip
  (.exit 4))
 (.seq (.block 5 (.seq (.region [⟨(some 48), none, .mov, [.tm 46]⟩,
  ⟨(some 49), none, (.idxAddr 4), [.tm 44, .tm 46]⟩,
  ⟨(some 50), none, (.load true 4), [.tm 49]⟩,
  ⟨(some 13), none, (.alloc [(.int .i64 0), (.int .i64 0), (.int .i64 0), (.int .i64 0)]), []⟩,
  ⟨(some 12), none, .mov, [.tm 48]⟩,
  ⟨none, none, (.store 4), [.tm 13, .tm 50]⟩])
 (.region [⟨(some 51), none, .mov, [.tm 7]⟩,
  ⟨(some 52), none, (.load true 4), [.tm 11]⟩,
  ⟨(some 53), none, (.load true 4), [.tm 13]⟩,
  ⟨(some 54), none, (.build [(.int .i64 0), (.int .i64 0), (.int .i64 0), (.int .i64 0), (.int .i64 0), (.int .i64 0), (.int .i64 0), (.int .i64 0)] [(0, 4), (4, 4)]), [.tm 52, .tm 53]⟩,
  ⟨(some 55), none, (.iface 100), [.tm 54]⟩,
  ⟨(some 56), none, .mov, [.tm 10]⟩,
  ⟨(some 57), none, .mov, [.tm 10]⟩,
  ⟨(some 58), none, .mov, [.tm 12]⟩,
  ⟨(some 59), none, (.ari .add), [.tm 57, .tm 58]⟩,
  ⟨(some 60), none, (.buildSlice 1 2 [(.int .i64 0)] [(0, 1), (1, 1)]), [.tm 56, .tm 59]⟩,
  ⟨(some 61), none, .callv, [.tm 51, .tm 55, .tm 60]⟩])))
 (.region [⟨(some 62), none, (.ari .add), [.tm 46, .cn (.int .i64 1)]⟩,
  ⟨(some 46), none, .mov, [.tm 62]⟩])))))))))
 (.region [⟨(some 63), none, (.ari .add), [.tm 36, .cn (.int .i64 1)]⟩,
  ⟨(some 36), none, .mov, [.tm 63]⟩])))))))
 (.seq (.region [⟨(some 64), none, (.load false 1), [.tm 5]⟩,
  ⟨(some 4), none, .mov, [.tm 64]⟩])
 .ret)))))))) }
theorem v36_is : vfunc Try.prog Try.f36 = some v36 := by kernel_rfl
def v55 : VF := { ntmps := 42, res := [], body :=
 (.seq (.seq (.draw [] [⟨⟨(some 9), none, .mov, [.tm 0]⟩, []⟩,
  ⟨⟨(some 10), none, (.fieldAddr 1), [.tm 2]⟩, []⟩,
  ⟨⟨(some 11), none, (.fieldAddr 1), [.tm 10]⟩, []⟩,
  ⟨⟨(some 12), none, (.load false 1), [.tm 11]⟩, []⟩,
  ⟨⟨(some 14), none, (.fieldAddr 1), [.tm 2]⟩, []⟩,
  ⟨⟨(some 15), none, (.fieldAddr 2), [.tm 14]⟩, []⟩,
  ⟨⟨(some 16), none, (.load false 1), [.tm 15]⟩, []⟩,
  ⟨⟨(some 13), none, (.invoke "quintadena/chests.heaviest"), [.tm 9, .tm 12]⟩, []⟩,
  ⟨⟨(some 17), none, (.cmp .gtr), [.tm 13, .tm 16]⟩, []⟩,
  ⟨⟨(some 18), none, .mov, [.tm 17]⟩, []⟩,
  ⟨⟨(some 19), (some (18, false)), (.load true 2), [.tm 3]⟩, []⟩,
  ⟨⟨(some 20), (some (18, false)), .mov, [.tm 0]⟩, []⟩,
  ⟨⟨(some 22), (some (18, false)), (.fieldAddr 1), [.tm 2]⟩, []⟩,
  ⟨⟨(some 23), (some (18, false)), (.fieldAddr 0), [.tm 22]⟩, []⟩,
  ⟨⟨(some 24), (some (18, false)), (.load false 1), [.tm 23]⟩, []⟩,
  ⟨⟨(some 21), (some (18, false)), (.invoke "quintadena/chests.opening"), [.tm 20]⟩, []⟩,
  ⟨⟨(some 25), (some (18, false)), (.call 28), [.tm 19, .tm 21, .tm 24]⟩, []⟩,
  ⟨⟨(some 26), (some (18, false)), (.cmp .neq), [.tm 25, .cn (.int .i64 1)]⟩, []⟩,
  ⟨⟨(some 27), none, .or, [.tm 18, .tm 26]⟩, []⟩])
 (.cond (.tm 27) .ret
  .skip))
 (.seq (.region [⟨(some 28), none, .mov, [.tm 0]⟩,
  ⟨(some 29), none, (.fieldAddr 1), [.tm 2]⟩,
  ⟨(some 30), none, (.fieldAddr 1), [.tm 29]⟩,
  ⟨(some 31), none, (.load false 1), [.tm 30]⟩,
  ⟨(some 32), none, (.invoke "quintadena/chests.weight"), [.tm 28, .tm 31]⟩,
  ⟨(some 8), none, .mov, [.tm 32]⟩])
 (.seq (.region [⟨(some 33), none, (.load false 1), [.tm 4]⟩,
  ⟨(some 34), none, (.isNil false), [.tm 33, .cn .nil]⟩,
  ⟨(some 35), none, .mov, [.tm 34]⟩,
  ⟨(some 36), (some (35, false)), .mov, [.tm 8]⟩,
  ⟨(some 37), (some (35, false)), (.load false 1), [.tm 5]⟩,
  ⟨(some 38), (some (35, false)), (.cmp .lss), [.tm 36, .tm 37]⟩,
  ⟨(some 39), none, .or, [.tm 35, .tm 38]⟩])
 (.cond (.tm 39) (.region [⟨(some 40), none, .mov, [.tm 1]⟩,
  ⟨(some 41), none, .mov, [.tm 8]⟩,
  ⟨none, none, (.store 1), [.tm 4, .tm 40]⟩,
  ⟨none, none, (.store 1), [.tm 5, .tm 41]⟩])
  .skip)))) }
theorem v55_is : vfunc Try.prog Try.f55 = some v55 := by kernel_rfl


theorem plt_eta (p : Plt) : (⟨p.w, p.l, p.t, p.s⟩ : Plt) = p := rfl
def vsI (b : List Int) : SV := .vs true b.isEmpty b.length 1 (fun k => enc1 (b.getD k default))
def chooseC : Ctr := { alias := false, of := fun l => match l with
  | [.agg [.vs _ _ n sz get, .int .i64 per, .int .i64 pr, .int .i64 most], .agg [.int .i64 x, .int .i64 y]] => .ex (List Plt) fun l => .pre (lsP 4 encP n sz get l ∧ l.length ≤ 1000 ∧ (∀ p ∈ l, palB p = false) ∧ wshB ⟨per, pr, most⟩ = false ∧ (0 ≤ x ∧ x ≤ 1000000000000) ∧ 0 ≤ y ∧ y ≤ 1000000000000) (.fin (vsI (bestF (x, y) ⟨per, pr, most⟩ l)) [])
  | _ => noC }
def G0 : Env := { ct := fun n => match n with | 120 => some fhC | 121 => some fhC | 27 => some openC | 122 => some heavy2C | 124 => some weight2C | 123 => some open2C | 28 => some cmpC | _ => none, fn := fun n => match n with | 55 => some v55 | _ => none, meth := fun t m => match t, m with | 70, "quintadena/chests.heaviest" => some 120 | 70, "quintadena/chests.opening" => some 27 | 70, "quintadena/chests.weight" => some 121 | 100, "quintadena/chests.heaviest" => some 122 | 100, "quintadena/chests.opening" => some 123 | 100, "quintadena/chests.weight" => some 124 | _, _ => none }
theorem G0_ct120 : G0.ct 120 = some fhC := rfl
theorem G0_ct121 : G0.ct 121 = some fhC := rfl
theorem G0_ct27 : G0.ct 27 = some openC := rfl
theorem G0_ct122 : G0.ct 122 = some heavy2C := rfl
theorem G0_ct124 : G0.ct 124 = some weight2C := rfl
theorem G0_ct123 : G0.ct 123 = some open2C := rfl
theorem G0_ct28 : G0.ct 28 = some cmpC := rfl
theorem G0_ct55 : G0.ct 55 = none := rfl
theorem G0_fn55 : G0.fn 55 = some v55 := rfl
theorem G0_ok : EnvOk Try.prog G0 := by
  refine ⟨fun f c h => ?_, fun f vf h => ?_, fun t m f h => ?_, by kernel_rfl⟩
  · simp only [G0] at h
    split at h
    · cases h; exact ⟨heavy_ok, Try.f120, Try.func120, by kernel_rfl, by kernel_rfl⟩
    · cases h; exact ⟨weight_ok, Try.f121, Try.func121, by kernel_rfl, by kernel_rfl⟩
    · cases h; exact ⟨open_ok, Try.f27, Try.func27, by kernel_rfl, by kernel_rfl⟩
    · cases h; exact ⟨heavy2_ok, Try.f122, Try.func122, by kernel_rfl, by kernel_rfl⟩
    · cases h; exact ⟨weight2_ok, Try.f124, Try.func124, by kernel_rfl, by kernel_rfl⟩
    · cases h; exact ⟨open2_ok, Try.f123, Try.func123, by kernel_rfl, by kernel_rfl⟩
    · cases h; exact ⟨cmp_ok, Try.f28, Try.func28, by kernel_rfl, by kernel_rfl⟩
    · cases h
  · simp only [G0] at h
    split at h
    · cases h; exact ⟨Try.f55, Try.func55, v55_is, Try.f55, Try.func55, by kernel_rfl, by kernel_rfl⟩
    · cases h
  · simp only [G0] at h
    split at h
    · cases h; kernel_rfl
    · cases h; kernel_rfl
    · cases h; kernel_rfl
    · cases h; kernel_rfl
    · cases h; kernel_rfl
    · cases h; kernel_rfl
    · cases h
theorem G0_me70heaviest : G0.meth 70 "quintadena/chests.heaviest" = some 120 := rfl
theorem G0_me70opening : G0.meth 70 "quintadena/chests.opening" = some 27 := rfl
theorem G0_me70weight : G0.meth 70 "quintadena/chests.weight" = some 121 := rfl
theorem G0_me100heaviest : G0.meth 100 "quintadena/chests.heaviest" = some 122 := rfl
theorem G0_me100opening : G0.meth 100 "quintadena/chests.opening" = some 123 := rfl
theorem G0_me100weight : G0.meth 100 "quintadena/chests.weight" = some 124 := rfl


theorem ans_vsI {k : SV → List HO → Prop} {al : Bool} {hp : List HO} {b : List Int} (h : k (vsI b) []) : answers al k (vsI b) hp :=
  ans_le (show k _ [] from h) (by simp only [vsI, expo, view]; exact ⟨fun h => h, rfl, rfl, rfl, fun j _ => by simp [enc1, viewL, view, leXL, leX]⟩) (fun _ => by simp [vsI, enc1, freshS, freshL])
theorem choose_ok : chooseC.ok Try.prog 36 := by
  refine contract Try.func36 v36_is G0_ok 400 chooseC fun args k h => ?_
  simp only [chooseC] at h
  split at h
  · rename_i t z n sz get per pr most x y
    obtain ⟨l, ⟨⟨rfl, rfl, hg⟩, hl, hv, hw, ha1, ha2⟩, h⟩ := h
    refine ⟨[.agg [.vs t z l.length 4 (fun k => encP (l.getD k default)), .int .i64 per, .int .i64 pr, .int .i64 most], .agg [.int .i64 x, .int .i64 y]], ⟨by simpa [le, leL] using hg, by simp [le, leL], trivial⟩, ?_⟩
    have h : k (vsI (bestF (x, y) ⟨per, pr, most⟩ l)) [] := h
    have hpr : (10 ≤ per ∧ per ≤ 1000) ∧ 10 ≤ pr ∧ pr ≤ 5000 := by
      unfold wshB at hw
      rw [Bool.or_eq_false_iff, Bool.or_eq_false_iff, outN_f, outN_f] at hw; exact hw.1
    dsimp only [v36, encP, go_sem, Option.bind, Option.map, List.append_nil, Nat.beq, List.cons_append, List.nil_append, List.append_eq, List.map_cons, List.map_nil, ite_self, reduceIte]
    simp only [true_and, and_true, imp_self, implies_true, decide_eq_true_eq, decide_eq_false_iff_not, Nat.reduceAdd, Nat.reduceLeDiff, Bool.not_not, reduceCtorEq, false_imp_iff, Bool.not_eq_true', Bool.not_eq_false', Bool.false_eq_true, and_self, forall_const, ne_eq, not_false_eq_true, Nat.reduceEqDiff]
    refine Loop.keepF [2, 0, 1, 0, 0, 8, 0] Nat (fun i => [(18, .int .i64 i)]) (fun i => [(2, .box [vsI (ones1 (x, y) ⟨per, pr, most⟩ l i).1]), (3, .box [.int .i64 (ones1 (x, y) ⟨per, pr, most⟩ l i).2])]) [] (fun i => i ≤ l.length) (fun i => l.length - i) ?_ ?_
    · refine ⟨0, Nat.zero_le _, [], trivial, ?_⟩
      dsimp only [vsI, ones1, List.isEmpty_nil, List.length_nil, go_sem, Option.bind, Option.map, List.append_nil, Nat.beq, List.cons_append, List.nil_append, List.append_eq, List.map_cons, List.map_nil, ite_self, reduceIte]
      simp only [leS_mk, leL_cons, leL_nil, le_junk, le_int, le_bool, le_nil, leLL_nil, leLL_cons, leH_cons, leH_nil, leH1_box, leH1_own, leH1_gone, le_vs, le_agg, le_tup, le_ptr, le_own, le_xp, le_fn, le_opt, le_val, le_elem, le_nil_own, le_nil_vs, leH_ghost, leL_chunk, leXL_id, bnd_int, bnd_bool, bnd_val, bnd_nil, bnd_junk, bnd_vs, bnd_xp, bnd_agg, bnd_tup, bnd_ptr, bnd_own, bnd_elem, bnd_fn, bnd_iface, bnd_opt, bndL_nil, bndL_cons, lenH_cons, lenH_nil, imp_self, implies_true, true_and, and_true] <;> simp
    · rintro i hi
      dsimp only [v55, vsI, G0_ct55, G0_fn55, G0_ct120, G0_ct27, G0_ct121, G0_ct28, G0_me70heaviest, G0_me70opening, G0_me70weight, fhC, forC, openC, cmpC, encP, Int.toNat_natCast, go_sem, Option.bind, Option.map, List.append_nil, Nat.beq, List.cons_append, List.nil_append, List.append_eq, List.map_cons, List.map_nil, ite_self, reduceIte]
      simp only [true_and, and_true, imp_self, implies_true, decide_eq_true_eq, decide_eq_false_iff_not, Nat.reduceAdd, Nat.reduceLeDiff, Bool.not_not, reduceCtorEq, false_imp_iff, Bool.not_eq_true', Bool.not_eq_false', Bool.false_eq_true, and_self, forall_const, ne_eq, not_false_eq_true, Nat.reduceEqDiff, plt_eta]
      refine ⟨fun hlt => ?_, fun hge => ?_⟩
      · have hi' : i < l.length := by omega
        have hp := hv _ (getD_mem hi')
        have ho := open_rng hp
        have e1 : ones1 (x, y) ⟨per, pr, most⟩ l (i + 1) = tryF (x, y) ⟨per, pr, most⟩ (ones1 (x, y) ⟨per, pr, most⟩ l i) (cand1 ⟨per, pr, most⟩ l i) := rfl
        unfold tryF cand1 at e1
        dsimp only at e1
        refine ⟨⟨by omega, hlt⟩, by decide, ⟨hp, hpr.2⟩, fun _ => hp, fun _ => ⟨ha1, ha2, ⟨ho.1, by omega⟩, hpr.1⟩, fun hc => ?_, fun hc => ⟨⟨hp, hpr.2⟩, fun hd => ?_, fun hd => ?_⟩⟩
        · rw [Bool.or_eq_true, decide_eq_true_eq, Bool.not_eq_true', decide_eq_false_iff_not] at hc
          rw [if_pos hc] at e1
          refine ⟨i + 1, by omega, by omega, [5], ?_, ?_⟩
          · dsimp only [go_sem, Option.bind, Option.map, List.append_nil, Nat.beq, List.cons_append, List.nil_append, List.append_eq, List.map_cons, List.map_nil, ite_self, reduceIte]
            exact ⟨fun k hk => by obtain rfl : k = 0 := by omega
                                  rfl, trivial⟩
          · dsimp only [go_sem, Option.bind, Option.map, List.append_nil, Nat.beq, List.cons_append, List.nil_append, List.append_eq, List.map_cons, List.map_nil, ite_self, reduceIte]
            simp only [w_succ (i := i) (n := l.length) (by omega) (by omega), e1, leS_mk, leL_cons, leL_nil, le_junk, le_int, le_bool, le_nil, leLL_nil, leLL_cons, leH_cons, leH_nil, leH1_box, leH1_own, leH1_gone, le_vs, le_agg, le_tup, le_ptr, le_own, le_xp, le_fn, le_opt, le_val, le_elem, le_nil_own, le_nil_vs, leH_ghost, leL_chunk, leXL_id, bnd_int, bnd_bool, bnd_val, bnd_nil, bnd_junk, bnd_vs, bnd_xp, bnd_agg, bnd_tup, bnd_ptr, bnd_own, bnd_elem, bnd_fn, bnd_iface, bnd_opt, bndL_nil, bndL_cons, lenH_cons, lenH_nil, imp_self, implies_true, true_and, and_true] <;> simp
        · rw [Bool.or_eq_false_iff, decide_eq_false_iff_not, Bool.not_eq_false', decide_eq_true_eq] at hc
          rw [if_neg (by omega)] at e1
          rw [Bool.or_eq_true, List.isEmpty_iff, decide_eq_true_eq] at hd
          rw [if_pos hd] at e1
          refine ⟨i + 1, by omega, by omega, [5], ?_, ?_⟩
          · dsimp only [go_sem, Option.bind, Option.map, List.append_nil, Nat.beq, List.cons_append, List.nil_append, List.append_eq, List.map_cons, List.map_nil, ite_self, reduceIte]
            exact ⟨fun k hk => by obtain rfl : k = 0 := by omega
                                  rfl, trivial⟩
          · dsimp only [go_sem, Option.bind, Option.map, List.append_nil, Nat.beq, List.cons_append, List.nil_append, List.append_eq, List.map_cons, List.map_nil, ite_self, reduceIte]
            simp only [w_succ (i := i) (n := l.length) (by omega) (by omega), e1, leS_mk, leL_cons, leL_nil, le_junk, le_int, le_bool, le_nil, leLL_nil, leLL_cons, leH_cons, leH_nil, leH1_box, leH1_own, leH1_gone, le_vs, le_agg, le_tup, le_ptr, le_own, le_xp, le_fn, le_opt, le_val, le_elem, le_nil_own, le_nil_vs, leH_ghost, leL_chunk, leXL_id, bnd_int, bnd_bool, bnd_val, bnd_nil, bnd_junk, bnd_vs, bnd_xp, bnd_agg, bnd_tup, bnd_ptr, bnd_own, bnd_elem, bnd_fn, bnd_iface, bnd_opt, bndL_nil, bndL_cons, lenH_cons, lenH_nil, imp_self, implies_true, true_and, and_true] <;> simp
            exact leXL_self _
        · rw [Bool.or_eq_false_iff, decide_eq_false_iff_not, Bool.not_eq_false', decide_eq_true_eq] at hc
          rw [if_neg (by omega)] at e1
          rw [Bool.or_eq_false_iff, List.isEmpty_eq_false_iff, decide_eq_false_iff_not] at hd
          rw [if_neg (by rintro (h | h); exact hd.1 h; exact hd.2 h)] at e1
          refine ⟨i + 1, by omega, by omega, [5], ?_, ?_⟩
          · dsimp only [go_sem, Option.bind, Option.map, List.append_nil, Nat.beq, List.cons_append, List.nil_append, List.append_eq, List.map_cons, List.map_nil, ite_self, reduceIte]
            exact ⟨fun k hk => by obtain rfl : k = 0 := by omega
                                  rfl, trivial⟩
          · dsimp only [go_sem, Option.bind, Option.map, List.append_nil, Nat.beq, List.cons_append, List.nil_append, List.append_eq, List.map_cons, List.map_nil, ite_self, reduceIte]
            simp only [w_succ (i := i) (n := l.length) (by omega) (by omega), e1, leS_mk, leL_cons, leL_nil, le_junk, le_int, le_bool, le_nil, leLL_nil, leLL_cons, leH_cons, leH_nil, leH1_box, leH1_own, leH1_gone, le_vs, le_agg, le_tup, le_ptr, le_own, le_xp, le_fn, le_opt, le_val, le_elem, le_nil_own, le_nil_vs, leH_ghost, leL_chunk, leXL_id, bnd_int, bnd_bool, bnd_val, bnd_nil, bnd_junk, bnd_vs, bnd_xp, bnd_agg, bnd_tup, bnd_ptr, bnd_own, bnd_elem, bnd_fn, bnd_iface, bnd_opt, bndL_nil, bndL_cons, lenH_cons, lenH_nil, imp_self, implies_true, true_and, and_true] <;> simp
      · obtain rfl : i = l.length := by omega
        refine ⟨fun hn => ?_, fun hn => ?_⟩
        · rw [List.isEmpty_eq_false_iff] at hn
          rw [bestF, if_pos hn] at h
          exact ans_vsI h
        · rw [List.isEmpty_iff] at hn
          rw [bestF, if_neg (by rw [hn]; simp)] at h
          generalize ones1 (x, y) ⟨per, pr, most⟩ l l.length = b0 at *
          refine Loop.keepF [2, 0, 1, 0, 0, 26, 0] Nat (fun i => [(36, .int .i64 i)]) (fun i => [(2, .box [vsI (twos (x, y) ⟨per, pr, most⟩ l b0 i).1]), (3, .box [.int .i64 (twos (x, y) ⟨per, pr, most⟩ l b0 i).2])]) [] (fun i => i ≤ l.length) (fun i => l.length - i) ?_ ?_
          · refine ⟨0, Nat.zero_le _, [], trivial, ?_⟩
            dsimp only [vsI, twos, go_sem, Option.bind, Option.map, List.append_nil, Nat.beq, List.cons_append, List.nil_append, List.append_eq, List.map_cons, List.map_nil, ite_self, reduceIte]
            simp only [leS_mk, leL_cons, leL_nil, le_junk, le_int, le_bool, le_nil, leLL_nil, leLL_cons, leH_cons, leH_nil, leH1_box, leH1_own, leH1_gone, le_vs, le_agg, le_tup, le_ptr, le_own, le_xp, le_fn, le_opt, le_val, le_elem, le_nil_own, le_nil_vs, leH_ghost, leL_chunk, leXL_id, bnd_int, bnd_bool, bnd_val, bnd_nil, bnd_junk, bnd_vs, bnd_xp, bnd_agg, bnd_tup, bnd_ptr, bnd_own, bnd_elem, bnd_fn, bnd_iface, bnd_opt, bndL_nil, bndL_cons, lenH_cons, lenH_nil, imp_self, implies_true, true_and, and_true] <;> simp
          · rintro i hi
            dsimp only [vsI, encP, Int.toNat_natCast, go_sem, Option.bind, Option.map, List.append_nil, Nat.beq, List.cons_append, List.nil_append, List.append_eq, List.map_cons, List.map_nil, ite_self, reduceIte]
            simp only [true_and, and_true, imp_self, implies_true, decide_eq_true_eq, decide_eq_false_iff_not, Nat.reduceAdd, Nat.reduceLeDiff, Bool.not_not, reduceCtorEq, false_imp_iff, Bool.not_eq_true', Bool.not_eq_false', Bool.false_eq_true, and_self, forall_const, ne_eq, not_false_eq_true, Nat.reduceEqDiff, plt_eta]
            refine ⟨fun hlt => ?_, fun hge => ?_⟩
            · have hi' : i < l.length := by omega
              have hp := hv _ (getD_mem hi')
              have ho := open_rng hp
              refine ⟨⟨by omega, hlt⟩, ⟨by omega, by omega⟩, ?_⟩
              have hsub : subLo l.length i = l.length - i := by cases i <;> rfl
              rw [hsub]
              generalize hb : twos (x, y) ⟨per, pr, most⟩ l b0 i = b
              refine Loop.keepF [2, 0, 1, 0, 0, 2, 0, 22, 0, 0, 7, 0] Nat (fun d => [(46, .int .i64 d)]) (fun d => [(2, .box [vsI (row2 (x, y) ⟨per, pr, most⟩ l i b d).1]), (3, .box [.int .i64 (row2 (x, y) ⟨per, pr, most⟩ l i b d).2])]) [] (fun d => d ≤ l.length - i) (fun d => l.length - i - d) ?_ ?_
              · refine ⟨0, Nat.zero_le _, [], trivial, ?_⟩
                dsimp only [vsI, row2, go_sem, Option.bind, Option.map, List.append_nil, Nat.beq, List.cons_append, List.nil_append, List.append_eq, List.map_cons, List.map_nil, ite_self, reduceIte]
                simp only [leS_mk, leL_cons, leL_nil, le_junk, le_int, le_bool, le_nil, leLL_nil, leLL_cons, leH_cons, leH_nil, leH1_box, leH1_own, leH1_gone, le_vs, le_agg, le_tup, le_ptr, le_own, le_xp, le_fn, le_opt, le_val, le_elem, le_nil_own, le_nil_vs, leH_ghost, leL_chunk, leXL_id, bnd_int, bnd_bool, bnd_val, bnd_nil, bnd_junk, bnd_vs, bnd_xp, bnd_agg, bnd_tup, bnd_ptr, bnd_own, bnd_elem, bnd_fn, bnd_iface, bnd_opt, bndL_nil, bndL_cons, lenH_cons, lenH_nil, imp_self, implies_true, true_and, and_true] <;> simp
              · rintro d hd
                dsimp only [v55, vsI, G0_ct55, G0_fn55, G0_ct122, G0_ct123, G0_ct124, G0_ct28, G0_me100heaviest, G0_me100opening, G0_me100weight, heavy2C, weight2C, pairC, open2C, cmpC, encP, Int.toNat_natCast, go_sem, Option.bind, Option.map, List.append_nil, Nat.beq, List.cons_append, List.nil_append, List.append_eq, List.map_cons, List.map_nil, ite_self, reduceIte]
                have hadd : addLo i d = i + d := by cases i <;> simp [addLo]
                simp only [true_and, and_true, imp_self, implies_true, decide_eq_true_eq, decide_eq_false_iff_not, Nat.reduceAdd, Nat.reduceLeDiff, Bool.not_not, reduceCtorEq, false_imp_iff, Bool.not_eq_true', Bool.not_eq_false', Bool.false_eq_true, and_self, forall_const, ne_eq, not_false_eq_true, Nat.reduceEqDiff, plt_eta, hadd]
                refine ⟨fun hlt2 => ?_, fun hge2 => ?_⟩
                · have hi2 : i + d < l.length := by omega
                  have hp2 := hv _ (getD_mem hi2)
                  have ho2 := open_rng hp2
                  have e1 : row2 (x, y) ⟨per, pr, most⟩ l i b (d + 1) = tryF (x, y) ⟨per, pr, most⟩ (row2 (x, y) ⟨per, pr, most⟩ l i b d) (cand2 ⟨per, pr, most⟩ l i (i + d)) := rfl
                  unfold tryF cand2 at e1
                  dsimp only at e1
                  have hid : IntKind.i64.wrap ((i : Int) + (d : Int)) = ((i + d : Nat) : Int) := by rw [w6_raw (by omega) (by omega)]; omega
                  refine ⟨⟨by omega, hlt2⟩, by decide, ⟨⟨hp, hp2⟩, hpr.2⟩, fun _ => ⟨hp, hp2⟩, fun _ => ⟨ha1, ha2, ⟨by omega, by omega⟩, hpr.1⟩, fun hc => ?_, fun hc => ⟨⟨⟨hp, hp2⟩, hpr.2⟩, fun hd => ?_, fun hd => ?_⟩⟩
                  · rw [Bool.or_eq_true, decide_eq_true_eq, Bool.not_eq_true', decide_eq_false_iff_not] at hc
                    rw [if_pos hc] at e1
                    refine ⟨d + 1, by omega, by omega, [6], ?_, ?_⟩
                    · dsimp only [go_sem, Option.bind, Option.map, List.append_nil, Nat.beq, List.cons_append, List.nil_append, List.append_eq, List.map_cons, List.map_nil, ite_self, reduceIte]
                      refine ⟨fun k hk => ?_, trivial⟩
                      match k, hk with
                      | 0, _ => rfl
                      | 1, _ => rfl
                    · dsimp only [go_sem, Option.bind, Option.map, List.append_nil, Nat.beq, List.cons_append, List.nil_append, List.append_eq, List.map_cons, List.map_nil, ite_self, reduceIte]
                      simp only [w_succ (i := d) (n := l.length - i) (by omega) (by omega), hid, e1, leS_mk, leL_cons, leL_nil, le_junk, le_int, le_bool, le_nil, leLL_nil, leLL_cons, leH_cons, leH_nil, leH1_box, leH1_own, leH1_gone, le_vs, le_agg, le_tup, le_ptr, le_own, le_xp, le_fn, le_opt, le_val, le_elem, le_nil_own, le_nil_vs, leH_ghost, leL_chunk, leXL_id, bnd_int, bnd_bool, bnd_val, bnd_nil, bnd_junk, bnd_vs, bnd_xp, bnd_agg, bnd_tup, bnd_ptr, bnd_own, bnd_elem, bnd_fn, bnd_iface, bnd_opt, bndL_nil, bndL_cons, lenH_cons, lenH_nil, imp_self, implies_true, true_and, and_true] <;> simp
                  · rw [Bool.or_eq_false_iff, decide_eq_false_iff_not, Bool.not_eq_false', decide_eq_true_eq] at hc
                    rw [if_neg (by omega)] at e1
                    rw [Bool.or_eq_true, List.isEmpty_iff, decide_eq_true_eq] at hd
                    rw [if_pos hd] at e1
                    refine ⟨d + 1, by omega, by omega, [6], ?_, ?_⟩
                    · dsimp only [go_sem, Option.bind, Option.map, List.append_nil, Nat.beq, List.cons_append, List.nil_append, List.append_eq, List.map_cons, List.map_nil, ite_self, reduceIte]
                      refine ⟨fun k hk => ?_, trivial⟩
                      match k, hk with
                      | 0, _ => rfl
                      | 1, _ => rfl
                    · dsimp only [go_sem, Option.bind, Option.map, List.append_nil, Nat.beq, List.cons_append, List.nil_append, List.append_eq, List.map_cons, List.map_nil, ite_self, reduceIte]
                      simp only [w_succ (i := d) (n := l.length - i) (by omega) (by omega), hid, e1, leS_mk, leL_cons, leL_nil, le_junk, le_int, le_bool, le_nil, leLL_nil, leLL_cons, leH_cons, leH_nil, leH1_box, leH1_own, leH1_gone, le_vs, le_agg, le_tup, le_ptr, le_own, le_xp, le_fn, le_opt, le_val, le_elem, le_nil_own, le_nil_vs, leH_ghost, leL_chunk, leXL_id, bnd_int, bnd_bool, bnd_val, bnd_nil, bnd_junk, bnd_vs, bnd_xp, bnd_agg, bnd_tup, bnd_ptr, bnd_own, bnd_elem, bnd_fn, bnd_iface, bnd_opt, bndL_nil, bndL_cons, lenH_cons, lenH_nil, imp_self, implies_true, true_and, and_true] <;> simp
                      intro k hk
                      match k, hk with
                      | 0, _ => exact leXL_self _
                      | 1, _ => exact leXL_self _
                  · rw [Bool.or_eq_false_iff, decide_eq_false_iff_not, Bool.not_eq_false', decide_eq_true_eq] at hc
                    rw [if_neg (by omega)] at e1
                    rw [Bool.or_eq_false_iff, List.isEmpty_eq_false_iff, decide_eq_false_iff_not] at hd
                    rw [if_neg (by rintro (h | h); exact hd.1 h; exact hd.2 h)] at e1
                    refine ⟨d + 1, by omega, by omega, [6], ?_, ?_⟩
                    · dsimp only [go_sem, Option.bind, Option.map, List.append_nil, Nat.beq, List.cons_append, List.nil_append, List.append_eq, List.map_cons, List.map_nil, ite_self, reduceIte]
                      refine ⟨fun k hk => ?_, trivial⟩
                      match k, hk with
                      | 0, _ => rfl
                      | 1, _ => rfl
                    · dsimp only [go_sem, Option.bind, Option.map, List.append_nil, Nat.beq, List.cons_append, List.nil_append, List.append_eq, List.map_cons, List.map_nil, ite_self, reduceIte]
                      simp only [w_succ (i := d) (n := l.length - i) (by omega) (by omega), hid, e1, leS_mk, leL_cons, leL_nil, le_junk, le_int, le_bool, le_nil, leLL_nil, leLL_cons, leH_cons, leH_nil, leH1_box, leH1_own, leH1_gone, le_vs, le_agg, le_tup, le_ptr, le_own, le_xp, le_fn, le_opt, le_val, le_elem, le_nil_own, le_nil_vs, leH_ghost, leL_chunk, leXL_id, bnd_int, bnd_bool, bnd_val, bnd_nil, bnd_junk, bnd_vs, bnd_xp, bnd_agg, bnd_tup, bnd_ptr, bnd_own, bnd_elem, bnd_fn, bnd_iface, bnd_opt, bndL_nil, bndL_cons, lenH_cons, lenH_nil, imp_self, implies_true, true_and, and_true] <;> simp
                · obtain rfl : d = l.length - i := by omega
                  refine ⟨i + 1, by omega, by omega, [], trivial, ?_⟩
                  have e2 : twos (x, y) ⟨per, pr, most⟩ l b0 (i + 1) = row2 (x, y) ⟨per, pr, most⟩ l i (twos (x, y) ⟨per, pr, most⟩ l b0 i) (l.length - i) := rfl
                  rw [hb] at e2
                  dsimp only [go_sem, Option.bind, Option.map, List.append_nil, Nat.beq, List.cons_append, List.nil_append, List.append_eq, List.map_cons, List.map_nil, ite_self, reduceIte]
                  simp only [w_succ (i := i) (n := l.length) (by omega) (by omega), e2, leS_mk, leL_cons, leL_nil, le_junk, le_int, le_bool, le_nil, leLL_nil, leLL_cons, leH_cons, leH_nil, leH1_box, leH1_own, leH1_gone, le_vs, le_agg, le_tup, le_ptr, le_own, le_xp, le_fn, le_opt, le_val, le_elem, le_nil_own, le_nil_vs, leH_ghost, leL_chunk, leXL_id, bnd_int, bnd_bool, bnd_val, bnd_nil, bnd_junk, bnd_vs, bnd_xp, bnd_agg, bnd_tup, bnd_ptr, bnd_own, bnd_elem, bnd_fn, bnd_iface, bnd_opt, bndL_nil, bndL_cons, lenH_cons, lenH_nil, imp_self, implies_true, true_and, and_true] <;> simp
            · obtain rfl : i = l.length := by omega
              exact ans_vsI h
  · exact h.1.elim
end Go.Proofs.Ytngccjllkgpjmaa

/- Chests, walked: the program's exported functions. -/
/- Chests, walked: the program's exported functions. -/
set_option linter.all false
namespace Go.Proofs.Ytngccjllkgpjmaa
open Go Go.Vx
set_option maxRecDepth 100000
set_option maxHeartbeats 4000000

def v12 : VF := { ntmps := 13, res := [.cell 2 true 2, .tmp 3], body :=
 (.seq (.region [⟨(some 1), none, .box, [.tm 0]⟩,
  ⟨(some 2), none, (.alloc [(.int .i64 0), (.int .i64 0)]), []⟩,
  ⟨(some 3), none, .mov, [.cn (.int .i64 0)]⟩])
 (.seq (.seq (.region [⟨(some 5), none, (.load true 1), [.tm 1]⟩,
  ⟨(some 6), none, (.call 23), [.tm 5]⟩,
  ⟨(some 4), none, .mov, [.tm 6]⟩])
 (.seq (.region [⟨(some 7), none, .mov, [.tm 4]⟩,
  ⟨(some 8), none, (.cmp .neq), [.tm 7, .cn (.int .i64 0)]⟩])
 (.cond (.tm 8) (.seq (.region [⟨(some 9), none, (.build [(.int .i64 0), (.int .i64 0)] []), []⟩,
  ⟨(some 10), none, .mov, [.tm 4]⟩,
  ⟨none, none, (.store 2), [.tm 2, .tm 9]⟩,
  ⟨(some 3), none, .mov, [.tm 10]⟩])
 .ret)
  .skip)))
 (.seq (.region [⟨(some 11), none, (.load true 1), [.tm 1]⟩,
  ⟨(some 12), none, (.call 29), [.tm 11]⟩,
  ⟨none, none, (.store 2), [.tm 2, .tm 12]⟩,
  ⟨(some 3), none, .mov, [.cn (.int .i64 0)]⟩])
 .ret))) }
theorem v12_is : vfunc Try.prog Try.f12 = some v12 := by kernel_rfl
def v20 : VF := { ntmps := 8, res := [.tmp 2, .tmp 3], body :=
 (.seq (.region [⟨(some 1), none, .box, [.tm 0]⟩,
  ⟨(some 2), none, .mov, [.cn (.int .i64 0)]⟩,
  ⟨(some 3), none, .mov, [.cn (.int .i64 0)]⟩])
 (.seq (.seq (.region [⟨(some 4), none, (.load true 4), [.tm 1]⟩,
  ⟨(some 5), none, (.call 25), [.tm 4]⟩])
 (.cond (.tm 5) (.seq (.region [⟨(some 2), none, .mov, [.cn (.int .i64 0)]⟩,
  ⟨(some 3), none, .mov, [.cn (.int .i64 2)]⟩])
 .ret)
  .skip))
 (.seq (.region [⟨(some 6), none, (.load true 4), [.tm 1]⟩,
  ⟨(some 7), none, (.call 27), [.tm 6]⟩,
  ⟨(some 2), none, .mov, [.tm 7]⟩,
  ⟨(some 3), none, .mov, [.cn (.int .i64 0)]⟩])
 .ret))) }
theorem v20_is : vfunc Try.prog Try.f20 = some v20 := by kernel_rfl
def v17 : VF := { ntmps := 16, res := [.cell 4 true 2, .tmp 5], body :=
 (.seq (.region [⟨(some 2), none, .box, [.tm 0]⟩,
  ⟨(some 4), none, (.alloc [(.int .i64 0), (.int .i64 0)]), []⟩,
  ⟨(some 5), none, .mov, [.cn (.int .i64 0)]⟩])
 (.seq (.seq (.region [⟨(some 6), none, (.load true 4), [.tm 2]⟩,
  ⟨(some 7), none, (.call 25), [.tm 6]⟩,
  ⟨(some 8), none, .mov, [.tm 7]⟩,
  ⟨(some 9), (some (8, false)), .mov, [.tm 1]⟩,
  ⟨(some 10), (some (8, false)), (.call 26), [.tm 9, .cn (.int .i64 10), .cn (.int .i64 5000)]⟩,
  ⟨(some 11), none, .or, [.tm 8, .tm 10]⟩])
 (.cond (.tm 11) (.seq (.region [⟨(some 12), none, (.build [(.int .i64 0), (.int .i64 0)] []), []⟩,
  ⟨none, none, (.store 2), [.tm 4, .tm 12]⟩,
  ⟨(some 5), none, .mov, [.cn (.int .i64 2)]⟩])
 .ret)
  .skip))
 (.seq (.region [⟨(some 13), none, (.load true 4), [.tm 2]⟩,
  ⟨(some 14), none, .mov, [.tm 1]⟩,
  ⟨(some 15), none, (.call 41), [.tm 13, .tm 14]⟩,
  ⟨none, none, (.store 2), [.tm 4, .tm 15]⟩,
  ⟨(some 5), none, .mov, [.cn (.int .i64 0)]⟩])
 .ret))) }
theorem v17_is : vfunc Try.prog Try.f17 = some v17 := by kernel_rfl
def v8 : VF := { ntmps := 49, res := [.tmp 6, .tmp 7], body :=
 (.seq (.region [⟨(some 3), none, .box, [.tm 0]⟩,
  ⟨(some 6), none, .mov, [.cn (.int .i64 0)]⟩,
  ⟨(some 7), none, .mov, [.cn (.int .i64 0)]⟩])
 (.seq (.region [⟨(some 12), none, (.load true 1), [.tm 3]⟩,
  ⟨(some 13), none, (.call 23), [.tm 12]⟩,
  ⟨(some 8), none, .mov, [.tm 13]⟩])
 (.seq (.block 0 (.seq (.region [⟨(some 15), none, .mov, [.tm 8]⟩,
  ⟨(some 16), none, (.cmp .eql), [.tm 15, .cn (.int .i64 3)]⟩,
  ⟨(some 17), none, .mov, [.tm 16]⟩,
  ⟨(some 18), (some (17, false)), .mov, [.tm 1]⟩,
  ⟨(some 19), (some (17, false)), .len, [.tm 18]⟩,
  ⟨(some 20), (some (17, false)), (.cmp .gtr), [.tm 19, .cn (.int .i64 40)]⟩,
  ⟨(some 21), none, .or, [.tm 17, .tm 20]⟩,
  ⟨(some 14), none, .mov, [.tm 21]⟩])
 (.cond (.tm 14) (.seq (.region [⟨(some 6), none, .mov, [.cn (.int .i64 0)]⟩,
  ⟨(some 7), none, .mov, [.cn (.int .i64 3)]⟩])
 .ret)
  (.seq (.region [⟨(some 23), none, .mov, [.tm 8]⟩,
  ⟨(some 24), none, (.cmp .neq), [.tm 23, .cn (.int .i64 0)]⟩,
  ⟨(some 25), none, .mov, [.tm 24]⟩,
  ⟨(some 26), (some (25, false)), .mov, [.tm 1]⟩,
  ⟨(some 27), (some (25, false)), (.call 24), [.tm 26, .cn (.fn (.func 25) [] [])]⟩,
  ⟨(some 28), none, .or, [.tm 25, .tm 27]⟩,
  ⟨(some 29), none, .mov, [.tm 28]⟩,
  ⟨(some 30), (some (29, false)), .mov, [.tm 2]⟩,
  ⟨(some 31), (some (29, false)), (.call 26), [.tm 30, .cn (.int .i64 10), .cn (.int .i64 1000)]⟩,
  ⟨(some 32), none, .or, [.tm 29, .tm 31]⟩,
  ⟨(some 22), none, .mov, [.tm 32]⟩])
 (.cond (.tm 22) (.seq (.region [⟨(some 6), none, .mov, [.cn (.int .i64 0)]⟩,
  ⟨(some 7), none, .mov, [.cn (.int .i64 2)]⟩])
 .ret)
  .skip)))))
 (.seq (.region [⟨(some 9), none, .mov, [.cn (.int .i64 0)]⟩])
 (.seq (.seq (.region [⟨(some 33), none, .mov, [.tm 1]⟩,
  ⟨(some 34), none, .len, [.tm 33]⟩,
  ⟨(some 35), none, .mov, [.cn (.int .i64 0)]⟩])
 (.block 1 (.loop (.seq (.region [⟨(some 36), none, (.cmp .lss), [.tm 35, .tm 34]⟩])
 (.seq (.cond (.tm 36) .skip
  (.exit 1))
 (.seq (.block 2 (.seq (.region [⟨(some 37), none, (.idxAddr 4), [.tm 33, .tm 35]⟩,
  ⟨(some 38), none, (.load true 4), [.tm 37]⟩,
  ⟨(some 11), none, (.alloc [(.int .i64 0), (.int .i64 0), (.int .i64 0), (.int .i64 0)]), []⟩,
  ⟨none, none, (.store 4), [.tm 11, .tm 38]⟩])
 (.region [⟨(some 39), none, .mov, [.tm 9]⟩,
  ⟨(some 40), none, (.load true 4), [.tm 11]⟩,
  ⟨(some 41), none, (.call 27), [.tm 40]⟩,
  ⟨(some 42), none, (.ari .add), [.tm 39, .tm 41]⟩,
  ⟨(some 9), none, .mov, [.tm 42]⟩])))
 (.region [⟨(some 43), none, (.ari .add), [.tm 35, .cn (.int .i64 1)]⟩,
  ⟨(some 35), none, .mov, [.tm 43]⟩])))))))
 (.seq (.region [⟨(some 44), none, (.load true 1), [.tm 3]⟩,
  ⟨(some 45), none, (.call 29), [.tm 44]⟩,
  ⟨(some 46), none, .mov, [.tm 9]⟩,
  ⟨(some 47), none, .mov, [.tm 2]⟩,
  ⟨(some 48), none, (.call 28), [.tm 45, .tm 46, .tm 47]⟩,
  ⟨(some 6), none, .mov, [.tm 48]⟩,
  ⟨(some 7), none, .mov, [.cn (.int .i64 0)]⟩])
 .ret)))))) }
theorem v8_is : vfunc Try.prog Try.f8 = some v8 := by kernel_rfl
def v10 : VF := { ntmps := 38, res := [.tmp 6, .tmp 7], body :=
 (.seq (.region [⟨(some 3), none, .box, [.tm 0]⟩,
  ⟨(some 5), none, .box, [.tm 2]⟩,
  ⟨(some 6), none, .mov, [.cn .nil]⟩,
  ⟨(some 7), none, .mov, [.cn (.int .i64 0)]⟩])
 (.seq (.draw [(9, .box [.nil, (.int .i64 0), (.int .i64 0), (.int .i64 0)])] [⟨⟨(some 11), none, (.load true 1), [.tm 3]⟩, []⟩,
  ⟨⟨(some 13), none, .mov, [.tm 1]⟩, []⟩,
  ⟨⟨(some 14), none, (.load true 3), [.tm 5]⟩, []⟩,
  ⟨⟨(some 15), none, (.build [.nil, (.int .i64 0), (.int .i64 0), (.int .i64 0)] [(0, 1), (1, 3)]), [.tm 13, .tm 14]⟩, []⟩,
  ⟨⟨(some 12), none, (.call 23), [.tm 11]⟩, []⟩,
  ⟨⟨(some 8), none, .mov, [.tm 12]⟩, []⟩,
  ⟨⟨none, none, (.store 4), [.tm 9, .tm 15]⟩, []⟩])
 (.seq (.block 0 (.seq (.region [⟨(some 17), none, .mov, [.tm 8]⟩,
  ⟨(some 18), none, (.cmp .eql), [.tm 17, .cn (.int .i64 3)]⟩,
  ⟨(some 19), none, .mov, [.tm 18]⟩,
  ⟨(some 20), (some (19, false)), .mov, [.tm 1]⟩,
  ⟨(some 21), (some (19, false)), .len, [.tm 20]⟩,
  ⟨(some 22), (some (19, false)), (.cmp .gtr), [.tm 21, .cn (.int .i64 40)]⟩,
  ⟨(some 23), none, .or, [.tm 19, .tm 22]⟩,
  ⟨(some 16), none, .mov, [.tm 23]⟩])
 (.cond (.tm 16) (.seq (.region [⟨(some 6), none, .mov, [.cn .nil]⟩,
  ⟨(some 7), none, .mov, [.cn (.int .i64 3)]⟩])
 .ret)
  (.seq (.region [⟨(some 25), none, .mov, [.tm 8]⟩,
  ⟨(some 26), none, (.cmp .neq), [.tm 25, .cn (.int .i64 0)]⟩,
  ⟨(some 27), none, .mov, [.tm 26]⟩,
  ⟨(some 28), (some (27, false)), (.load true 4), [.tm 9]⟩,
  ⟨(some 29), (some (27, false)), (.call 35), [.tm 28]⟩,
  ⟨(some 30), none, .or, [.tm 27, .tm 29]⟩,
  ⟨(some 24), none, .mov, [.tm 30]⟩])
 (.cond (.tm 24) (.seq (.region [⟨(some 6), none, .mov, [.cn .nil]⟩,
  ⟨(some 7), none, .mov, [.cn (.int .i64 2)]⟩])
 .ret)
  .skip)))))
 (.seq (.seq (.draw [] [⟨⟨(some 31), none, (.load true 4), [.tm 9]⟩, []⟩,
  ⟨⟨(some 32), none, (.load true 1), [.tm 3]⟩, []⟩,
  ⟨⟨(some 33), none, (.call 29), [.tm 32]⟩, []⟩,
  ⟨⟨(some 34), none, (.call 36), [.tm 31, .tm 33]⟩, []⟩,
  ⟨⟨(some 10), none, .mov, [.tm 34]⟩, []⟩])
 (.seq (.region [⟨(some 35), none, .mov, [.tm 10]⟩,
  ⟨(some 36), none, (.isNil true), [.tm 35, .cn .nil]⟩])
 (.cond (.tm 36) (.seq (.region [⟨(some 37), none, .mov, [.tm 10]⟩,
  ⟨(some 6), none, .mov, [.tm 37]⟩,
  ⟨(some 7), none, .mov, [.cn (.int .i64 0)]⟩])
 .ret)
  .skip)))
 (.seq (.region [⟨(some 6), none, .mov, [.cn .nil]⟩,
  ⟨(some 7), none, .mov, [.cn (.int .i64 4)]⟩])
 .ret))))) }
theorem v10_is : vfunc Try.prog Try.f10 = some v10 := by kernel_rfl
def v18 : VF := { ntmps := 45, res := [.cell 6 true 2, .tmp 7], body :=
 (.seq (.region [⟨(some 3), none, .box, [.tm 0]⟩,
  ⟨(some 6), none, (.alloc [(.int .i64 0), (.int .i64 0)]), []⟩,
  ⟨(some 7), none, .mov, [.cn (.int .i64 0)]⟩])
 (.seq (.seq (.region [⟨(some 10), none, (.load true 2), [.tm 3]⟩,
  ⟨(some 11), none, (.call 42), [.tm 10]⟩,
  ⟨(some 12), none, .mov, [.tm 11]⟩,
  ⟨(some 13), (some (12, false)), .mov, [.tm 1]⟩,
  ⟨(some 14), (some (12, false)), (.call 26), [.tm 13, .cn (.int .i64 0), .cn (.int .i64 3000000)]⟩,
  ⟨(some 15), none, .or, [.tm 12, .tm 14]⟩,
  ⟨(some 16), none, .mov, [.tm 15]⟩,
  ⟨(some 17), (some (16, false)), .mov, [.tm 2]⟩,
  ⟨(some 18), (some (16, false)), (.cmp .lss), [.tm 17, .cn (.int .i64 0)]⟩,
  ⟨(some 19), none, .or, [.tm 16, .tm 18]⟩,
  ⟨(some 20), none, .mov, [.tm 19]⟩,
  ⟨(some 21), (some (20, false)), .mov, [.tm 2]⟩,
  ⟨(some 22), (some (20, false)), (.cmp .gtr), [.tm 21, .cn (.int .i64 8)]⟩,
  ⟨(some 23), none, .or, [.tm 20, .tm 22]⟩])
 (.cond (.tm 23) (.seq (.region [⟨(some 24), none, (.build [(.int .i64 0), (.int .i64 0)] []), []⟩,
  ⟨none, none, (.store 2), [.tm 6, .tm 24]⟩,
  ⟨(some 7), none, .mov, [.cn (.int .i64 2)]⟩])
 .ret)
  .skip))
 (.seq (.region [⟨(some 26), none, (.fieldAddr 0), [.tm 3]⟩,
  ⟨(some 27), none, (.load false 1), [.tm 26]⟩,
  ⟨(some 28), none, (.fieldAddr 0), [.tm 3]⟩,
  ⟨(some 29), none, (.load false 1), [.tm 28]⟩,
  ⟨(some 30), none, (.ari .mul), [.tm 27, .tm 29]⟩,
  ⟨(some 31), none, (.call 44), [.tm 30]⟩,
  ⟨(some 32), none, .mov, [.tm 1]⟩,
  ⟨(some 33), none, .quo, [.tm 32, .cn (.int .i64 10000)]⟩,
  ⟨(some 34), none, (.ari .add), [.cn (.int .i64 1000), .tm 33]⟩,
  ⟨(some 35), none, .mov, [.tm 2]⟩,
  ⟨(some 36), none, (.ari .mul), [.cn (.int .i64 50), .tm 35]⟩,
  ⟨(some 37), none, (.ari .add), [.tm 34, .tm 36]⟩,
  ⟨(some 38), none, (.call 43), [.tm 31, .tm 37, .cn (.int .i64 1000)]⟩,
  ⟨(some 25), none, .mov, [.tm 38]⟩,
  ⟨(some 39), none, (.ext 0), [.tm 25]⟩,
  ⟨(some 40), none, (.ext 1), [.tm 25]⟩,
  ⟨(some 8), none, (.alloc [(.int .i64 0), (.int .i64 0)]), []⟩,
  ⟨none, none, (.store 2), [.tm 8, .tm 39]⟩,
  ⟨(some 9), none, .mov, [.tm 40]⟩])
 (.seq (.region [⟨(some 41), none, (.load true 2), [.tm 8]⟩,
  ⟨(some 42), none, (.call 45), [.tm 41, .cn (.int .i64 2)]⟩,
  ⟨(some 43), none, (.ext 0), [.tm 42]⟩,
  ⟨(some 44), none, (.ext 1), [.tm 42]⟩,
  ⟨none, none, (.store 2), [.tm 6, .tm 43]⟩,
  ⟨(some 7), none, .mov, [.tm 44]⟩])
 .ret)))) }
theorem v18_is : vfunc Try.prog Try.f18 = some v18 := by kernel_rfl


def aF (c : List Iv) : Iv × Int := if chkT c ≠ 0 then ((0, 0), chkT c) else (areaF c, 0)
def ArC : Ctr := { alias := false, of := fun l => match l with
  | [.agg [.vs _ _ n sz get]] => .ex (List Iv) fun l => .pre (lsP 2 enc2 n sz get l ∧ l.length ≤ 1000000000000) (.fin (.tup [.agg (enc2 (aF l).1), .int .i64 (aF l).2]) [])
  | _ => noC }
def oF (p : Plt) : Int × Int := if palB p then (0, 2) else (openF p, 0)
def OpC : Ctr := { alias := false, of := fun l => match l with
  | [.agg [.int .i64 w, .int .i64 l, .int .i64 t, .int .i64 s]] => .fin (.tup [.int .i64 (oF ⟨w, l, t, s⟩).1, .int .i64 (oF ⟨w, l, t, s⟩).2]) []
  | _ => noC }
def fF (p : Plt) (pr : Int) : Iv × Int := if palB p || outN pr 10 5000 then ((0, 0), 2) else (forceF p pr, 0)
def FoC : Ctr := { alias := false, of := fun l => match l with
  | [.agg [.int .i64 w, .int .i64 l, .int .i64 t, .int .i64 s], .int .i64 pr] => .fin (.tup [.agg (enc2 (fF ⟨w, l, t, s⟩ pr).1), .int .i64 (fF ⟨w, l, t, s⟩ pr).2]) []
  | _ => noC }
def tubS (t : Iv) (len bends : Int) : Iv := (sclF (t.1 * t.1, t.1 * t.1) (1000 + len / 10000 + 50 * bends) 1000).1
def tF (t : Iv) (len bends : Int) : Iv × Int := if (toeB t || outN len 0 3000000 || decide (bends < 0) || decide (8 < bends)) = true then ((0, 0), 2) else rootF (tubS t len bends) 2
def TuC : Ctr := { alias := false, of := fun l => match l with
  | [.agg [.int .i64 x, .int .i64 y], .int .i64 len, .int .i64 b] => .fin (.tup [.agg (enc2 (tF (x, y) len b).1), .int .i64 (tF (x, y) len b).2]) []
  | _ => noC }
def EnC : Ctr := { alias := false, of := fun l => match l with
  | [.agg [.vs _ _ n sz get], .vs _ _ n' sz' get', .int .i64 per] => .ex (List Iv) fun c => .ex (List Plt) fun l => .pre (lsP 2 enc2 n sz get c ∧ lsP 4 encP n' sz' get' l ∧ c.length ≤ 1000000000000 ∧ l.length ≤ 1000000000000) (.fin (.tup [.int .i64 (enoF c l per).1, .int .i64 (enoF c l per).2]) [])
  | _ => noC }
def ChC : Ctr := { alias := false, of := fun l => match l with
  | [.agg [.vs _ _ n sz get], .vs _ _ n' sz' get', .agg [.int .i64 per, .int .i64 pr, .int .i64 most]] => .ex (List Iv) fun c => .ex (List Plt) fun l => .pre (lsP 2 enc2 n sz get c ∧ lsP 4 encP n' sz' get' l ∧ c.length ≤ 1000000000000 ∧ l.length ≤ 1000000000000) (.fin (.tup [vsI (choF c l ⟨per, pr, most⟩).1, .int .i64 (choF c l ⟨per, pr, most⟩).2]) [])
  | _ => noC }

theorem chkT_0 {c : List Iv} (h : chkT c = 0) : c.length ≤ 24 ∧ ∀ t ∈ c, toeB t = false := by
  unfold chkT at h
  split at h
  · cases h
  · split at h
    · cases h
    · rename_i h1 h2
      refine ⟨by omega, fun t ht => ?_⟩
      rw [Bool.not_eq_true, List.any_eq_false] at h2
      simpa using h2 t ht
theorem area_all {c : List Iv} (h : ∀ t ∈ c, toeB t = false) (hl : c.length ≤ 100) : (0 ≤ (areaF c).1 ∧ (areaF c).1 ≤ 1000000000000) ∧ 0 ≤ (areaF c).2 ∧ (areaF c).2 ≤ 1000000000000 := by
  have := area_rng (l := c) (i := c.length) (Nat.le_refl _) h
  rw [take_full (Nat.le_refl _)] at this
  omega
theorem sumO_all {l : List Plt} (h : ∀ t ∈ l, palB t = false) (hl : l.length ≤ 100) : 0 ≤ sumO l ∧ sumO l ≤ 10000000000000 := by
  have := sumO_rng (l := l) (i := l.length) (Nat.le_refl _) h
  rw [take_full (Nat.le_refl _)] at this
  omega
theorem any_f {α : Type} {l : List α} {F : α → Bool} (h : l.any F = false) : ∀ p ∈ l, F p = false := fun p hp => by
  have := List.any_eq_false.1 h p hp
  simpa using this

theorem ans_nilI {k : SV → List HO → Prop} {al : Bool} {hp : List HO} {e : Int} (h : k (.tup [vsI [], .int .i64 e]) []) : answers al k (.tup [.nil, .int .i64 e]) hp :=
  ans_le (show k _ [] from h) (by simp [vsI, expo, view, viewL, le, leL]) (fun _ => by simp [vsI, freshS, freshL])
theorem ans_chI {k : SV → List HO → Prop} {al : Bool} {hp : List HO} {b : List Int} {e : Int} (h : k (.tup [vsI b, .int .i64 e]) []) : answers al k (.tup [vsI b, .int .i64 e]) hp :=
  ans_le (show k _ [] from h) (by simp only [vsI, expo, view, viewL]; exact ⟨⟨fun h => h, rfl, rfl, rfl, fun j _ => by simp [enc1, viewL, view, leXL, leX]⟩, ⟨rfl, rfl⟩, trivial⟩) (fun _ => by simp [vsI, enc1, freshS, freshL])
def H0 : Env := { ct := fun n => match n with | 23 => some chkC | 29 => some areaC | 25 => some palC | 42 => some toeC | 44 => some oneC | 26 => some outC | 27 => some openC | 41 => some forceC | 28 => some cmpC | 24 => some anyPC | 35 => some shopC | 36 => some chooseC | 43 => some sclC | 45 => some rootC | _ => none, fn := fun _ => none, meth := fun _ _ => none }
theorem H0_ct23 : H0.ct 23 = some chkC := rfl
theorem H0_ct29 : H0.ct 29 = some areaC := rfl
theorem H0_ct25 : H0.ct 25 = some palC := rfl
theorem H0_ct42 : H0.ct 42 = some toeC := rfl
theorem H0_ct44 : H0.ct 44 = some oneC := rfl
theorem H0_ct26 : H0.ct 26 = some outC := rfl
theorem H0_ct27 : H0.ct 27 = some openC := rfl
theorem H0_ct41 : H0.ct 41 = some forceC := rfl
theorem H0_ct28 : H0.ct 28 = some cmpC := rfl
theorem H0_ct24 : H0.ct 24 = some anyPC := rfl
theorem H0_ct35 : H0.ct 35 = some shopC := rfl
theorem H0_ct36 : H0.ct 36 = some chooseC := rfl
theorem H0_ct43 : H0.ct 43 = some sclC := rfl
theorem H0_ct45 : H0.ct 45 = some rootC := rfl
theorem H0_ok : EnvOk Try.prog H0 := by
  refine ⟨fun f c h => ?_, fun f vf h => ?_, (fun _ _ _ h => by cases h), by kernel_rfl⟩
  · simp only [H0] at h
    split at h
    · cases h; exact ⟨chk_ok, Try.f23, Try.func23, by kernel_rfl, by kernel_rfl⟩
    · cases h; exact ⟨area_ok, Try.f29, Try.func29, by kernel_rfl, by kernel_rfl⟩
    · cases h; exact ⟨pal_ok, Try.f25, Try.func25, by kernel_rfl, by kernel_rfl⟩
    · cases h; exact ⟨toe_ok, Try.f42, Try.func42, by kernel_rfl, by kernel_rfl⟩
    · cases h; exact ⟨one_ok, Try.f44, Try.func44, by kernel_rfl, by kernel_rfl⟩
    · cases h; exact ⟨out_ok, Try.f26, Try.func26, by kernel_rfl, by kernel_rfl⟩
    · cases h; exact ⟨open_ok, Try.f27, Try.func27, by kernel_rfl, by kernel_rfl⟩
    · cases h; exact ⟨force_ok, Try.f41, Try.func41, by kernel_rfl, by kernel_rfl⟩
    · cases h; exact ⟨cmp_ok, Try.f28, Try.func28, by kernel_rfl, by kernel_rfl⟩
    · cases h; exact ⟨anyP_ok, Try.f24, Try.func24, by kernel_rfl, by kernel_rfl⟩
    · cases h; exact ⟨shop_ok, Try.f35, Try.func35, by kernel_rfl, by kernel_rfl⟩
    · cases h; exact ⟨choose_ok, Try.f36, Try.func36, by kernel_rfl, by kernel_rfl⟩
    · cases h; exact ⟨scl_ok, Try.f43, Try.func43, by kernel_rfl, by kernel_rfl⟩
    · cases h; exact ⟨root_ok, Try.f45, Try.func45, by kernel_rfl, by kernel_rfl⟩
    · cases h
  · cases h


theorem Ar_ok : ArC.ok Try.prog 12 := by
  refine contract Try.func12 v12_is H0_ok 200 ArC fun args k h => ?_
  simp only [ArC] at h
  split at h
  · rename_i t z n sz get
    obtain ⟨l, ⟨⟨rfl, rfl, hg⟩, hl⟩, h⟩ := h
    refine ⟨[.agg [.vs t z l.length 2 (fun k => enc2 (l.getD k default))]], ⟨by simpa [le, leL] using hg, trivial⟩, ?_⟩
    have h : k (.tup [.agg (enc2 (aF l).1), .int .i64 (aF l).2]) [] := h
    dsimp only [v12, H0_ct23, H0_ct29, chkC, areaC, enc2, go_sem, Option.bind, Option.map, List.append_nil, Nat.beq, List.cons_append, List.nil_append, List.append_eq, List.map_cons, List.map_nil, ite_self, reduceIte]
    simp only [true_and, and_true, imp_self, implies_true, decide_eq_true_eq, decide_eq_false_iff_not, Nat.reduceAdd, Nat.reduceLeDiff, Bool.not_not, reduceCtorEq, false_imp_iff, Bool.not_eq_true', Bool.not_eq_false', Bool.false_eq_true, and_self, forall_const, ne_eq, not_false_eq_true, Nat.reduceEqDiff]
    refine ⟨l, ⟨lsP_self, by omega⟩, fun hc => ?_, fun hc => ⟨l, ⟨lsP_self, ?_, (chkT_0 (by simpa using hc)).2⟩, ?_⟩⟩
    · rw [aF, if_pos (by simpa using hc)] at h
      exact ans_iv (r := ((0, 0), chkT l)) h
    · have := (chkT_0 (c := l) (by simpa using hc)).1; omega
    · rw [aF, if_neg (by simpa using hc)] at h
      exact ans_iv (r := (areaF l, 0)) h
  · exact h.1.elim
theorem Op_ok : OpC.ok Try.prog 20 := by
  refine contract Try.func20 v20_is H0_ok 200 OpC fun args k h => ⟨args, ?_⟩
  simp only [OpC] at h
  split at h
  · rename_i w l t s
    refine ⟨by simp [leL, le], ?_⟩
    have h : k (.tup [.int .i64 (oF ⟨w, l, t, s⟩).1, .int .i64 (oF ⟨w, l, t, s⟩).2]) [] := h
    dsimp only [v20, H0_ct25, H0_ct27, palC, openC, go_sem, Option.bind, Option.map, List.append_nil, Nat.beq, List.cons_append, List.nil_append, List.append_eq, List.map_cons, List.map_nil, ite_self, reduceIte]
    simp only [true_and, and_true, imp_self, implies_true, decide_eq_true_eq, decide_eq_false_iff_not, Nat.reduceAdd, Nat.reduceLeDiff, Bool.not_not, reduceCtorEq, false_imp_iff, Bool.not_eq_true', Bool.not_eq_false', Bool.false_eq_true, and_self, forall_const, ne_eq, not_false_eq_true, Nat.reduceEqDiff]
    refine ⟨fun hc => ?_, fun hc => ⟨hc, ?_⟩⟩
    · rw [oF, if_pos hc] at h; exact ans_ii h
    · rw [oF, if_neg (by rw [hc]; simp)] at h; exact ans_ii h
  · exact h.1.elim
theorem Fo_ok : FoC.ok Try.prog 17 := by
  refine contract Try.func17 v17_is H0_ok 200 FoC fun args k h => ⟨args, ?_⟩
  simp only [FoC] at h
  split at h
  · rename_i w l t s pr
    refine ⟨by simp [leL, le], ?_⟩
    have h : k (.tup [.agg (enc2 (fF ⟨w, l, t, s⟩ pr).1), .int .i64 (fF ⟨w, l, t, s⟩ pr).2]) [] := h
    dsimp only [v17, H0_ct25, H0_ct26, H0_ct41, palC, outC, forceC, forC, enc2, go_sem, Option.bind, Option.map, List.append_nil, Nat.beq, List.cons_append, List.nil_append, List.append_eq, List.map_cons, List.map_nil, ite_self, reduceIte]
    simp only [true_and, and_true, imp_self, implies_true, decide_eq_true_eq, decide_eq_false_iff_not, Nat.reduceAdd, Nat.reduceLeDiff, Bool.not_not, reduceCtorEq, false_imp_iff, Bool.not_eq_true', Bool.not_eq_false', Bool.false_eq_true, and_self, forall_const, ne_eq, not_false_eq_true, Nat.reduceEqDiff]
    refine ⟨fun hc => ?_, fun hc => ⟨?_, ?_⟩⟩
    · rw [fF, if_pos hc] at h; exact ans_iv (r := ((0, 0), 2)) h
    · rw [Bool.or_eq_false_iff, outN_f] at hc; exact hc
    · rw [fF, if_neg (by rw [hc]; simp)] at h; exact ans_iv (r := (forceF ⟨w, l, t, s⟩ pr, 0)) h
  · exact h.1.elim
theorem Tu_ok : TuC.ok Try.prog 18 := by
  refine contract Try.func18 v18_is H0_ok 200 TuC fun args k h => ⟨args, ?_⟩
  simp only [TuC] at h
  split at h
  · rename_i x y len b
    refine ⟨by simp [leL, le], ?_⟩
    have h : k (.tup [.agg (enc2 (tF (x, y) len b).1), .int .i64 (tF (x, y) len b).2]) [] := h
    dsimp only [v18, H0_ct42, H0_ct26, H0_ct44, H0_ct43, H0_ct45, toeC, outC, oneC, sclC, rootC, enc2, go_sem, Option.bind, Option.map, List.append_nil, Nat.beq, List.cons_append, List.nil_append, List.append_eq, List.map_cons, List.map_nil, ite_self, reduceIte]
    simp only [true_and, and_true, imp_self, implies_true, decide_eq_true_eq, decide_eq_false_iff_not, Nat.reduceAdd, Nat.reduceLeDiff, Bool.not_not, reduceCtorEq, false_imp_iff, Bool.not_eq_true', Bool.not_eq_false', Bool.false_eq_true, and_self, forall_const, ne_eq, not_false_eq_true, Nat.reduceEqDiff]
    have h40 : ∀ hc : (toeB (x, y) || outN len 0 3000000 || decide (b < 0) || decide (8 < b)) = false, (100 ≤ x ∧ x ≤ 100000) ∧ (0 ≤ len ∧ len ≤ 3000000) ∧ 0 ≤ b ∧ b ≤ 8 := fun hc => by
      rw [Bool.or_eq_false_iff, Bool.or_eq_false_iff, Bool.or_eq_false_iff, outN_f, decide_eq_false_iff_not, decide_eq_false_iff_not] at hc
      obtain ⟨⟨⟨h1, h2⟩, h3⟩, h4⟩ := hc
      have := toe_rng h1
      dsimp only at this
      omega
    refine ⟨fun hc => ?_, fun hc => ⟨by decide, by decide, by decide, by decide, by decide, ?_⟩⟩
    · rw [tF, if_pos hc] at h; exact ans_iv (r := ((0, 0), 2)) h
    · rw [tF, if_neg (by rw [hc]; simp)] at h
      obtain ⟨⟨h1, h2⟩, ⟨h3, h4⟩, h5, h6⟩ := h40 hc
      have m1 : x * x ≤ 100000 * 100000 := mul_le' h2 h2 (by omega) (by omega)
      have m2 : 0 ≤ x * x := Int.mul_nonneg (by omega) (by omega)
      have e1 : len.tdiv 10000 = len / 10000 := Int.tdiv_eq_ediv_of_nonneg h3
      rw [e1, w6_raw (x := x * x) (by omega) (by omega), w6_raw (x := len / 10000) (by omega) (by omega), w6_raw (x := 1000 + len / 10000) (by omega) (by omega), w6_raw (x := 50 * b) (by omega) (by omega), w6_raw (x := _ + 50 * b) (by omega) (by omega)]
      exact ans_iv (r := rootF (tubS (x, y) len b) 2) h
  · exact h.1.elim
theorem En_ok : EnC.ok Try.prog 8 := by
  refine contract Try.func8 v8_is H0_ok 300 EnC fun args k h => ?_
  simp only [EnC] at h
  split at h
  · rename_i t z n sz get t' z' n' sz' get' per
    obtain ⟨c, l, ⟨⟨rfl, rfl, hg⟩, ⟨rfl, rfl, hg'⟩, hl, hl'⟩, h⟩ := h
    refine ⟨[.agg [.vs t z c.length 2 (fun k => enc2 (c.getD k default))], .vs t' z' l.length 4 (fun k => encP (l.getD k default)), .int .i64 per], ⟨by simpa [le, leL] using hg, by simpa [le, leL] using hg', by simp [le, leL], trivial⟩, ?_⟩
    have h : k (.tup [.int .i64 (enoF c l per).1, .int .i64 (enoF c l per).2]) [] := h
    dsimp only [v8, H0_ct23, H0_ct26, H0_ct24, chkC, outC, anyPC, anyC, enc2, encP, go_sem, Option.bind, Option.map, List.append_nil, Nat.beq, List.cons_append, List.nil_append, List.append_eq, List.map_cons, List.map_nil, ite_self, reduceIte]
    simp only [true_and, and_true, imp_self, implies_true, decide_eq_true_eq, decide_eq_false_iff_not, Nat.reduceAdd, Nat.reduceLeDiff, Bool.not_not, reduceCtorEq, false_imp_iff, Bool.not_eq_true', Bool.not_eq_false', Bool.false_eq_true, and_self, forall_const, ne_eq, not_false_eq_true, Nat.reduceEqDiff]
    have e40 : decide ((40 : Int) < (l.length : Int)) = decide (40 < l.length) := by rw [decide_eq_decide]; omega
    rw [e40]
    refine ⟨c, ⟨lsP_self, by omega⟩, fun hc => ?_, fun hc => ⟨l, palB, fun _ => ⟨lsP_self, by omega, rfl, rfl, rfl⟩, fun hd => ?_, fun hd => ?_⟩⟩
    · rw [enoF, if_pos hc] at h; exact ans_ii h
    · rw [enoF, if_neg (by rw [hc]; simp), if_pos hd] at h; exact ans_ii h
    · rw [enoF, if_neg (by rw [hc]; simp), if_neg (by rw [hd]; simp)] at h
      rw [Bool.or_eq_false_iff, Bool.or_eq_false_iff, Bool.not_eq_false', decide_eq_true_eq, outN_f] at hd
      obtain ⟨⟨hd1, hd2⟩, hd3⟩ := hd
      have hv := any_f hd2
      obtain ⟨hcl, hct⟩ := chkT_0 hd1
      have h24 : l.length ≤ 40 := by
        rw [Bool.or_eq_false_iff, decide_eq_false_iff_not, decide_eq_false_iff_not] at hc; omega
      refine Loop.keep [1, 0, 0, 2, 0, 25, 0] Nat (fun i => [(9, .int .i64 (sumO (l.take i))), (35, .int .i64 i)]) (fun _ => []) [] (fun i => i ≤ l.length) (fun i => l.length - i) ?_ ?_
      · refine ⟨0, Nat.zero_le _, ?_⟩
        dsimp only [go_sem, Option.bind, Option.map, List.append_nil, Nat.beq, List.cons_append, List.nil_append, List.append_eq, List.map_cons, List.map_nil, ite_self, reduceIte]
        simp only [leS_mk, leL_cons, leL_nil, le_junk, le_int, le_bool, le_nil, leLL_nil, leLL_cons, leH_cons, leH_nil, leH1_box, leH1_own, leH1_gone, le_vs, le_agg, le_tup, le_ptr, le_own, le_xp, le_fn, le_opt, le_val, le_elem, le_nil_own, le_nil_vs, leH_ghost, leL_chunk, leXL_id, bnd_int, bnd_bool, bnd_val, bnd_nil, bnd_junk, bnd_vs, bnd_xp, bnd_agg, bnd_tup, bnd_ptr, bnd_own, bnd_elem, bnd_fn, bnd_iface, bnd_opt, bndL_nil, bndL_cons, lenH_cons, lenH_nil, imp_self, implies_true, true_and, and_true] <;> simp [sumO]
      · rintro i hi
        dsimp only [H0_ct27, H0_ct29, H0_ct28, openC, areaC, cmpC, enc2, encP, Int.toNat_natCast, go_sem, Option.bind, Option.map, List.append_nil, Nat.beq, List.cons_append, List.nil_append, List.append_eq, List.map_cons, List.map_nil, ite_self, reduceIte]
        simp only [true_and, and_true, imp_self, implies_true, decide_eq_true_eq, decide_eq_false_iff_not, Nat.reduceAdd, Nat.reduceLeDiff, Bool.not_not, reduceCtorEq, false_imp_iff, Bool.not_eq_true', Bool.not_eq_false', Bool.false_eq_true, and_self, forall_const, ne_eq, not_false_eq_true, Nat.reduceEqDiff, plt_eta]
        refine ⟨fun hlt => ?_, fun hge => ?_⟩
        · have hi' : i < l.length := by omega
          have ho := open_rng (hv _ (getD_mem hi'))
          have hs := sumO_rng (l := l) hi hv
          refine ⟨⟨by omega, hlt⟩, hv _ (getD_mem hi'), i + 1, by omega, by omega, ?_⟩
          rw [w6_raw (x := sumO _ + _) (by omega) (by omega)]
          simp only [w_succ (i := i) (n := l.length) (by omega) (by omega), sumO_take hi', leS_mk, leL_cons, leL_nil, le_junk, le_int, le_bool, le_nil, leLL_nil, leLL_cons, leH_cons, leH_nil, leH1_box, leH1_own, leH1_gone, le_vs, le_agg, le_tup, le_ptr, le_own, le_xp, le_fn, le_opt, le_val, le_elem, le_nil_own, le_nil_vs, leH_ghost, leL_chunk, leXL_id, bnd_int, bnd_bool, bnd_val, bnd_nil, bnd_junk, bnd_vs, bnd_xp, bnd_agg, bnd_tup, bnd_ptr, bnd_own, bnd_elem, bnd_fn, bnd_iface, bnd_opt, bndL_nil, bndL_cons, lenH_cons, lenH_nil, imp_self, implies_true, true_and, and_true] <;> simp
        · obtain rfl : i = l.length := by omega
          rw [take_full (Nat.le_refl _)]
          have ha := area_all hct (by omega)
          refine ⟨c, ⟨lsP_self, by omega, hct⟩, ⟨ha.1, ha.2, sumO_all hv (by omega), hd3⟩, ?_⟩
          exact ans_ii h
  · exact h.1.elim
theorem Ch_ok : ChC.ok Try.prog 10 := by
  refine contract Try.func10 v10_is H0_ok 300 ChC fun args k h => ?_
  simp only [ChC] at h
  split at h
  · rename_i t z n sz get t' z' n' sz' get' per pr most
    obtain ⟨c, l, ⟨⟨rfl, rfl, hg⟩, ⟨rfl, rfl, hg'⟩, hl, hl'⟩, h⟩ := h
    refine ⟨[.agg [.vs t z c.length 2 (fun k => enc2 (c.getD k default))], .vs t' z' l.length 4 (fun k => encP (l.getD k default)), .agg [.int .i64 per, .int .i64 pr, .int .i64 most]], ⟨by simpa [le, leL] using hg, by simpa [le, leL] using hg', by simp [le, leL], trivial⟩, ?_⟩
    have h : k (.tup [vsI (choF c l ⟨per, pr, most⟩).1, .int .i64 (choF c l ⟨per, pr, most⟩).2]) [] := h
    dsimp only [v10, H0_ct23, H0_ct35, H0_ct29, H0_ct36, chkC, shopC, areaC, chooseC, vsI, enc2, encP, go_sem, Option.bind, Option.map, List.append_nil, Nat.beq, List.cons_append, List.nil_append, List.append_eq, List.map_cons, List.map_nil, ite_self, reduceIte]
    simp only [true_and, and_true, imp_self, implies_true, decide_eq_true_eq, decide_eq_false_iff_not, Nat.reduceAdd, Nat.reduceLeDiff, Bool.not_not, reduceCtorEq, false_imp_iff, Bool.not_eq_true', Bool.not_eq_false', Bool.false_eq_true, and_self, forall_const, ne_eq, not_false_eq_true, Nat.reduceEqDiff]
    have e40 : decide ((40 : Int) < (l.length : Int)) = decide (40 < l.length) := by rw [decide_eq_decide]; omega
    rw [e40]
    refine ⟨c, ⟨lsP_self, by omega⟩, fun hc => ?_, fun hc => ⟨l, fun _ => ⟨lsP_self, by omega⟩, fun hd => ?_, fun hd => ?_⟩⟩
    · rw [choF, if_pos hc] at h; exact ans_nilI h
    · rw [choF, if_neg (by rw [hc]; simp), if_pos hd] at h; exact ans_nilI h
    · rw [choF, if_neg (by rw [hc]; simp), if_neg (by rw [hd]; simp)] at h
      rw [Bool.or_eq_false_iff, Bool.or_eq_false_iff, Bool.not_eq_false', decide_eq_true_eq] at hd
      obtain ⟨hd1, hd2, hd3⟩ := hd
      have hv := any_f hd2
      obtain ⟨hcl, hct⟩ := chkT_0 hd1
      have h24 : l.length ≤ 40 := by
        rw [Bool.or_eq_false_iff, decide_eq_false_iff_not, decide_eq_false_iff_not] at hc; omega
      have ha := area_all hct (by omega)
      refine ⟨c, ⟨lsP_self, by omega, hct⟩, l, ⟨lsP_self, by omega, hv, hd3, ha⟩, fun hn => ?_, fun hn => ?_⟩
      · rw [List.isEmpty_eq_false_iff] at hn
        rw [if_pos hn] at h
        exact ans_chI h
      · rw [List.isEmpty_iff] at hn
        rw [if_neg (fun hh => hh hn)] at h
        exact ans_nilI h
  · exact h.1.elim
end Go.Proofs.Ytngccjllkgpjmaa

/- Intervals, walked: the reference's functions without fractions. -/
/- Intervals, walked: the reference's functions without fractions. -/
set_option linter.all false
namespace Go.Proofs.Ytngccjllkgpjmaa
open Go Go.Vx
set_option maxRecDepth 100000
set_option maxHeartbeats 4000000

def Q0 : Env := { ct := fun n => match n with | 80 => some ivlC | _ => none, fn := fun _ => none, meth := fun _ _ => none }
end Go.Proofs.Ytngccjllkgpjmaa

/- Intervals: the laws without a reference, in plain Lean. -/
/- Intervals: the laws without a reference, in plain Lean. -/
set_option linter.all false
namespace Go.Proofs.Ytngccjllkgpjmaa
open Go Go.Vx

def neg (a : Iv) : Iv := (-a.2, -a.1)
end Go.Proofs.Ytngccjllkgpjmaa

/- Intervals, walked: the reference's fractions. -/
/- Intervals, walked: the reference's fractions. -/
set_option linter.all false
namespace Go.Proofs.Ytngccjllkgpjmaa
open Go Go.Vx
set_option maxRecDepth 100000
set_option maxHeartbeats 4000000

end Go.Proofs.Ytngccjllkgpjmaa

/- Intervals, walked: the reference's Scale, Pi. -/
/- Intervals, walked: the reference's Scale, Pi. -/
set_option linter.all false
namespace Go.Proofs.Ytngccjllkgpjmaa
open Go Go.Vx
set_option maxRecDepth 100000
set_option maxHeartbeats 4000000

end Go.Proofs.Ytngccjllkgpjmaa

/- Fractions, walked: powers. -/
/- Fractions, walked: powers. -/
set_option linter.all false
namespace Go.Proofs.Ytngccjllkgpjmaa
open Go Go.Vx
set_option maxRecDepth 100000
set_option maxHeartbeats 4000000

end Go.Proofs.Ytngccjllkgpjmaa

/- Intervals, walked: the reference's Disc, Pow. -/
/- Intervals, walked: the reference's Disc, Pow. -/
set_option linter.all false
namespace Go.Proofs.Ytngccjllkgpjmaa
open Go Go.Vx
set_option maxRecDepth 100000
set_option maxHeartbeats 4000000

end Go.Proofs.Ytngccjllkgpjmaa

/- Fractions with the other sign, differences; the corners of two intervals: walked. -/
/- Fractions with the other sign, differences; the corners of two intervals: walked. -/
set_option linter.all false
namespace Go.Proofs.Ytngccjllkgpjmaa
open Go Go.Vx
set_option maxRecDepth 100000
set_option maxHeartbeats 4000000

end Go.Proofs.Ytngccjllkgpjmaa

/- Intervals: the span of the four corners is what the program computes; the reference's Add, Sub, Mul, Div walked. -/
/- Intervals: the span of the four corners is what the program computes; the reference's Add, Sub, Mul, Div walked. -/
set_option linter.all false
namespace Go.Proofs.Ytngccjllkgpjmaa
open Go Go.Vx
set_option maxRecDepth 100000
set_option maxHeartbeats 4000000

end Go.Proofs.Ytngccjllkgpjmaa

/- Chests, walked: the reference's functions. -/
/- Chests, walked: the reference's functions. -/
set_option linter.all false
namespace Go.Proofs.Ytngccjllkgpjmaa
open Go Go.Vx
set_option maxRecDepth 100000
set_option maxHeartbeats 4000000

def okI (w : Wsh) (l : List Plt) (x : List Int) (i : Nat) : Bool :=
  !(decide (x.getD i default < 0) || decide ((l.length : Int) ≤ x.getD i default) || (decide (0 < i) && decide (x.getD i default < x.getD (i - 1) default))) && !decide (w.most < fh (l.getD (x.getD i default).toNat default) w.pr)
def okA (w : Wsh) (l : List Plt) (x : List Int) : Bool := (List.range x.length).all fun i => okI w l x i
def chs (l : List Plt) (x : List Int) : List Plt := x.map fun i => l.getD i.toNat default
def wtS (l : List Plt) (x : List Int) (pr : Int) : Int := (chs l x).foldl (fun s p => s + fh p pr) 0
def chcF (a : Iv) (w : Wsh) (l : List Plt) (x : List Int) : Int × Bool :=
  if (decide (x.length < 1) || decide (2 < x.length)) = true then (0, false) else if okA w l x = true then (wtS l x w.pr, decide (cmpF a (sumO (chs l x)) w.per = 1)) else (0, false)
end Go.Proofs.Ytngccjllkgpjmaa

/- Chests, walked: the reference's choices. -/
/- Chests, walked: the reference's choices. -/
set_option linter.all false
namespace Go.Proofs.Ytngccjllkgpjmaa
open Go Go.Vx
set_option maxRecDepth 100000
set_option maxHeartbeats 4000000

end Go.Proofs.Ytngccjllkgpjmaa

/- Chests, walked: the laws' helpers; the document's examples; the law of Enough. -/
/- Chests, walked: the laws' helpers; the document's examples; the law of Enough. -/
set_option linter.all false
namespace Go.Proofs.Ytngccjllkgpjmaa
open Go Go.Vx
set_option maxRecDepth 100000
set_option maxHeartbeats 4000000

def v19 : VF := { ntmps := 2, res := [.cell 0 true 4], body :=
 (.seq (.region [⟨(some 0), none, (.alloc [(.int .i64 0), (.int .i64 0), (.int .i64 0), (.int .i64 0)]), []⟩])
 (.seq (.region [⟨(some 1), none, (.build [(.int .i64 0), (.int .i64 0), (.int .i64 0), (.int .i64 0)] [(0, 1), (1, 1), (2, 1), (3, 1)]), [.cn (.int .i64 20000), .cn (.int .i64 200000), .cn (.int .i64 6000), .cn (.int .i64 800000)]⟩,
  ⟨none, none, (.store 4), [.tm 0, .tm 1]⟩])
 .ret)) }
theorem v19_is : vfunc Try.prog Try.f19 = some v19 := by kernel_rfl
def v21 : VF := { ntmps := 17, res := [.cell 2 true 1], body :=
 (.seq (.region [⟨(some 2), none, (.alloc [.nil]), []⟩])
 (.seq (.region [⟨(some 3), none, (.alloc [.nil]), []⟩])
 (.seq (.seq (.region [⟨(some 4), none, .mov, [.cn (.int .i64 0)]⟩])
 (.block 0 (.loop (.seq (.seq (.region [⟨(some 5), none, .mov, [.tm 4]⟩,
  ⟨(some 6), none, .mov, [.tm 0]⟩,
  ⟨(some 7), none, (.cmp .lss), [.tm 5, .tm 6]⟩])
 (.cond (.tm 7) .skip
  (.exit 0)))
 (.seq (.block 1 (.region [⟨(some 10), none, (.fieldAddr 0), [.tm 3]⟩,
  ⟨(some 11), none, (.load false 1), [.tm 10]⟩,
  ⟨(some 12), none, (.build [(.int .i64 0), (.int .i64 0)] [(0, 1), (1, 1)]), [.cn (.int .i64 20000), .cn (.int .i64 700)]⟩,
  ⟨(some 13), none, (.buildSlice 2 1 [(.int .i64 0), (.int .i64 0)] [(0, 2)]), [.tm 12]⟩,
  ⟨(some 14), none, (.append 2 16 [(.int .i64 0), (.int .i64 0)]), [.tm 11, .tm 13]⟩,
  ⟨(some 15), none, (.fieldAddr 0), [.tm 3]⟩,
  ⟨none, none, (.store 1), [.tm 15, .tm 14]⟩]))
 (.region [⟨(some 8), none, .mov, [.tm 4]⟩,
  ⟨(some 9), none, (.ari .add), [.tm 8, .cn (.int .i64 1)]⟩,
  ⟨(some 4), none, .mov, [.tm 9]⟩]))))))
 (.seq (.region [⟨(some 16), none, (.load true 1), [.tm 3]⟩,
  ⟨none, none, (.store 1), [.tm 2, .tm 16]⟩])
 .ret)))) }
theorem v21_is : vfunc Try.prog Try.f21 = some v21 := by kernel_rfl
def v22 : VF := { ntmps := 26, res := [.tmp 4], body :=
 (.seq (.region [⟨(some 4), none, .mov, [.cn (.bool false)]⟩])
 (.seq (.seq (.region [⟨(some 6), none, .mov, [.tm 0]⟩,
  ⟨(some 7), none, .len, [.tm 6]⟩,
  ⟨(some 8), none, .mov, [.tm 1]⟩,
  ⟨(some 9), none, .len, [.tm 8]⟩,
  ⟨(some 10), none, (.cmp .neq), [.tm 7, .tm 9]⟩])
 (.cond (.tm 10) (.seq (.region [⟨(some 4), none, .mov, [.cn (.bool false)]⟩])
 .ret)
  .skip))
 (.seq (.seq (.region [⟨(some 5), none, .mov, [.cn (.int .i64 0)]⟩])
 (.block 0 (.loop (.seq (.seq (.region [⟨(some 11), none, .mov, [.tm 5]⟩,
  ⟨(some 12), none, .mov, [.tm 0]⟩,
  ⟨(some 13), none, .len, [.tm 12]⟩,
  ⟨(some 14), none, (.cmp .lss), [.tm 11, .tm 13]⟩])
 (.cond (.tm 14) .skip
  (.exit 0)))
 (.seq (.block 1 (.seq (.draw [] [⟨⟨(some 17), none, .mov, [.tm 0]⟩, []⟩,
  ⟨⟨(some 18), none, .mov, [.tm 5]⟩, []⟩,
  ⟨⟨(some 19), none, (.idxAddr 1), [.tm 17, .tm 18]⟩, []⟩,
  ⟨⟨(some 20), none, (.load false 1), [.tm 19]⟩, []⟩,
  ⟨⟨(some 21), none, .mov, [.tm 1]⟩, []⟩,
  ⟨⟨(some 22), none, .mov, [.tm 5]⟩, []⟩,
  ⟨⟨(some 23), none, (.idxAddr 1), [.tm 21, .tm 22]⟩, []⟩,
  ⟨⟨(some 24), none, (.load false 1), [.tm 23]⟩, []⟩,
  ⟨⟨(some 25), none, (.cmp .neq), [.tm 20, .tm 24]⟩, []⟩])
 (.cond (.tm 25) (.seq (.region [⟨(some 4), none, .mov, [.cn (.bool false)]⟩])
 .ret)
  .skip)))
 (.region [⟨(some 15), none, .mov, [.tm 5]⟩,
  ⟨(some 16), none, (.ari .add), [.tm 15, .cn (.int .i64 1)]⟩,
  ⟨(some 5), none, .mov, [.tm 16]⟩]))))))
 (.seq (.region [⟨(some 4), none, .mov, [.cn (.bool true)]⟩])
 .ret)))) }
theorem v22_is : vfunc Try.prog Try.f22 = some v22 := by kernel_rfl
def v7 : VF := { ntmps := 112, res := [.tmp 0], body :=
 (.seq (.region [⟨(some 0), none, .mov, [.cn (.bool false)]⟩])
 (.seq (.region [⟨(some 17), none, (.call 19), []⟩,
  ⟨(some 18), none, (.buildSlice 4 1 [(.int .i64 0), (.int .i64 0), (.int .i64 0), (.int .i64 0)] [(0, 4)]), [.tm 17]⟩,
  ⟨(some 1), none, .mov, [.tm 18]⟩])
 (.seq (.region [⟨(some 19), none, (.build [(.int .i64 0), (.int .i64 0), (.int .i64 0)] [(0, 1), (1, 1), (2, 1)]), [.cn (.int .i64 100), .cn (.int .i64 600), .cn (.int .i64 4000000)]⟩,
  ⟨(some 2), none, (.alloc [(.int .i64 0), (.int .i64 0), (.int .i64 0)]), []⟩,
  ⟨none, none, (.store 3), [.tm 2, .tm 19]⟩])
 (.seq (.region [⟨(some 21), none, (.call 19), []⟩,
  ⟨(some 22), none, (.call 20), [.tm 21]⟩,
  ⟨(some 20), none, .mov, [.tm 22]⟩,
  ⟨(some 23), none, (.ext 0), [.tm 20]⟩,
  ⟨(some 24), none, (.ext 1), [.tm 20]⟩,
  ⟨(some 3), none, .mov, [.tm 23]⟩,
  ⟨(some 4), none, .mov, [.tm 24]⟩])
 (.seq (.region [⟨(some 26), none, (.call 19), []⟩,
  ⟨(some 27), none, (.call 17), [.tm 26, .cn (.int .i64 600)]⟩,
  ⟨(some 25), none, .mov, [.tm 27]⟩,
  ⟨(some 28), none, (.ext 0), [.tm 25]⟩,
  ⟨(some 29), none, (.ext 1), [.tm 25]⟩,
  ⟨(some 5), none, (.alloc [(.int .i64 0), (.int .i64 0)]), []⟩,
  ⟨none, none, (.store 2), [.tm 5, .tm 28]⟩,
  ⟨(some 6), none, .mov, [.tm 29]⟩])
 (.seq (.region [⟨(some 31), none, (.call 21), [.cn (.int .i64 1)]⟩,
  ⟨(some 32), none, (.call 12), [.tm 31]⟩,
  ⟨(some 30), none, .mov, [.tm 32]⟩,
  ⟨(some 33), none, (.ext 0), [.tm 30]⟩,
  ⟨(some 34), none, (.ext 1), [.tm 30]⟩,
  ⟨(some 7), none, (.alloc [(.int .i64 0), (.int .i64 0)]), []⟩,
  ⟨none, none, (.store 2), [.tm 7, .tm 33]⟩,
  ⟨(some 8), none, .mov, [.tm 34]⟩])
 (.seq (.region [⟨(some 36), none, (.call 21), [.cn (.int .i64 1)]⟩,
  ⟨(some 37), none, .mov, [.tm 1]⟩,
  ⟨(some 38), none, (.call 8), [.tm 36, .tm 37, .cn (.int .i64 500)]⟩,
  ⟨(some 35), none, .mov, [.tm 38]⟩,
  ⟨(some 39), none, (.ext 0), [.tm 35]⟩,
  ⟨(some 40), none, (.ext 1), [.tm 35]⟩,
  ⟨(some 9), none, .mov, [.tm 39]⟩,
  ⟨(some 10), none, .mov, [.tm 40]⟩])
 (.seq (.draw [] [⟨⟨(some 43), none, .mov, [.tm 1]⟩, []⟩,
  ⟨⟨(some 44), none, (.load true 3), [.tm 2]⟩, []⟩,
  ⟨⟨(some 42), none, (.call 21), [.cn (.int .i64 8)]⟩, []⟩,
  ⟨⟨(some 45), none, (.call 10), [.tm 42, .tm 43, .tm 44]⟩, []⟩,
  ⟨⟨(some 41), none, .mov, [.tm 45]⟩, []⟩,
  ⟨⟨(some 46), none, (.ext 0), [.tm 41]⟩, []⟩,
  ⟨⟨(some 47), none, (.ext 1), [.tm 41]⟩, []⟩,
  ⟨⟨(some 11), none, .mov, [.tm 46]⟩, []⟩,
  ⟨⟨(some 12), none, .mov, [.tm 47]⟩, []⟩])
 (.seq (.draw [] [⟨⟨(some 50), none, .mov, [.tm 1]⟩, []⟩,
  ⟨⟨(some 51), none, (.load true 3), [.tm 2]⟩, []⟩,
  ⟨⟨(some 49), none, (.call 21), [.cn (.int .i64 9)]⟩, []⟩,
  ⟨⟨(some 52), none, (.call 10), [.tm 49, .tm 50, .tm 51]⟩, []⟩,
  ⟨⟨(some 48), none, .mov, [.tm 52]⟩, []⟩,
  ⟨⟨(some 53), none, (.ext 0), [.tm 48]⟩, []⟩,
  ⟨⟨(some 54), none, (.ext 1), [.tm 48]⟩, []⟩,
  ⟨⟨(some 13), none, .mov, [.tm 53]⟩, []⟩,
  ⟨⟨(some 14), none, .mov, [.tm 54]⟩, []⟩])
 (.seq (.region [⟨(some 56), none, (.build [(.int .i64 0), (.int .i64 0)] [(0, 1), (1, 1)]), [.cn (.int .i64 10000), .cn (.int .i64 700)]⟩,
  ⟨(some 57), none, (.call 18), [.tm 56, .cn (.int .i64 1000000), .cn (.int .i64 2)]⟩,
  ⟨(some 55), none, .mov, [.tm 57]⟩,
  ⟨(some 58), none, (.ext 0), [.tm 55]⟩,
  ⟨(some 59), none, (.ext 1), [.tm 55]⟩,
  ⟨(some 15), none, (.alloc [(.int .i64 0), (.int .i64 0)]), []⟩,
  ⟨none, none, (.store 2), [.tm 15, .tm 58]⟩,
  ⟨(some 16), none, .mov, [.tm 59]⟩])
 (.seq (.seq (.region [⟨(some 60), none, .mov, [.tm 4]⟩,
  ⟨(some 61), none, (.cmp .neq), [.tm 60, .cn (.int .i64 0)]⟩,
  ⟨(some 62), none, .mov, [.tm 61]⟩,
  ⟨(some 63), (some (62, false)), .mov, [.tm 6]⟩,
  ⟨(some 64), (some (62, false)), (.cmp .neq), [.tm 63, .cn (.int .i64 0)]⟩,
  ⟨(some 65), none, .or, [.tm 62, .tm 64]⟩,
  ⟨(some 66), none, .mov, [.tm 65]⟩,
  ⟨(some 67), (some (66, false)), .mov, [.tm 8]⟩,
  ⟨(some 68), (some (66, false)), (.cmp .neq), [.tm 67, .cn (.int .i64 0)]⟩,
  ⟨(some 69), none, .or, [.tm 66, .tm 68]⟩,
  ⟨(some 70), none, .mov, [.tm 69]⟩,
  ⟨(some 71), (some (70, false)), .mov, [.tm 10]⟩,
  ⟨(some 72), (some (70, false)), (.cmp .neq), [.tm 71, .cn (.int .i64 0)]⟩,
  ⟨(some 73), none, .or, [.tm 70, .tm 72]⟩,
  ⟨(some 74), none, .mov, [.tm 73]⟩,
  ⟨(some 75), (some (74, false)), .mov, [.tm 12]⟩,
  ⟨(some 76), (some (74, false)), (.cmp .neq), [.tm 75, .cn (.int .i64 0)]⟩,
  ⟨(some 77), none, .or, [.tm 74, .tm 76]⟩,
  ⟨(some 78), none, .mov, [.tm 77]⟩,
  ⟨(some 79), (some (78, false)), .mov, [.tm 14]⟩,
  ⟨(some 80), (some (78, false)), (.cmp .neq), [.tm 79, .cn (.int .i64 4)]⟩,
  ⟨(some 81), none, .or, [.tm 78, .tm 80]⟩,
  ⟨(some 82), none, .mov, [.tm 81]⟩,
  ⟨(some 83), (some (82, false)), .mov, [.tm 16]⟩,
  ⟨(some 84), (some (82, false)), (.cmp .neq), [.tm 83, .cn (.int .i64 0)]⟩,
  ⟨(some 85), none, .or, [.tm 82, .tm 84]⟩])
 (.cond (.tm 85) (.seq (.region [⟨(some 0), none, .mov, [.cn (.bool false)]⟩])
 .ret)
  .skip))
 (.seq (.region [⟨(some 86), none, .mov, [.tm 3]⟩,
  ⟨(some 87), none, (.cmp .eql), [.tm 86, .cn (.int .i64 1320000000)]⟩,
  ⟨(some 88), none, .mov, [.tm 87]⟩,
  ⟨(some 89), (some (88, true)), (.load true 2), [.tm 5]⟩,
  ⟨(some 90), (some (88, true)), (.build [(.int .i64 0), (.int .i64 0)] [(0, 1), (1, 1)]), [.cn (.int .i64 3200000), .cn (.int .i64 3200000)]⟩,
  ⟨(some 91), (some (88, true)), (.eqv false [true, true]), [.tm 89, .tm 90]⟩,
  ⟨(some 92), none, .and, [.tm 88, .tm 91]⟩,
  ⟨(some 93), none, .mov, [.tm 92]⟩,
  ⟨(some 94), (some (93, true)), (.load true 2), [.tm 7]⟩,
  ⟨(some 95), (some (93, true)), (.build [(.int .i64 0), (.int .i64 0)] [(0, 1), (1, 1)]), [.cn (.int .i64 314159265), .cn (.int .i64 314159266)]⟩,
  ⟨(some 96), (some (93, true)), (.eqv false [true, true]), [.tm 94, .tm 95]⟩,
  ⟨(some 97), none, .and, [.tm 93, .tm 96]⟩,
  ⟨(some 98), none, .mov, [.tm 97]⟩,
  ⟨(some 99), (some (98, true)), .mov, [.tm 9]⟩,
  ⟨(some 100), (some (98, true)), (.cmp .eql), [.tm 99, .cn (.int .i64 (-1))]⟩,
  ⟨(some 101), none, .and, [.tm 98, .tm 100]⟩,
  ⟨(some 102), none, .mov, [.tm 101]⟩,
  ⟨(some 103), (some (102, true)), .mov, [.tm 11]⟩,
  ⟨(some 104), (some (102, true)), (.buildSlice 1 2 [(.int .i64 0)] [(0, 1), (1, 1)]), [.cn (.int .i64 0), .cn (.int .i64 0)]⟩,
  ⟨(some 105), (some (102, true)), (.call 22), [.tm 103, .tm 104]⟩,
  ⟨(some 106), none, .and, [.tm 102, .tm 105]⟩,
  ⟨(some 107), none, .mov, [.tm 106]⟩,
  ⟨(some 108), (some (107, true)), (.load true 2), [.tm 15]⟩,
  ⟨(some 109), (some (107, true)), (.build [(.int .i64 0), (.int .i64 0)] [(0, 1), (1, 1)]), [.cn (.int .i64 10954), .cn (.int .i64 10955)]⟩,
  ⟨(some 110), (some (107, true)), (.eqv false [true, true]), [.tm 108, .tm 109]⟩,
  ⟨(some 111), none, .and, [.tm 107, .tm 110]⟩,
  ⟨(some 0), none, .mov, [.tm 111]⟩])
 .ret)))))))))))) }
theorem v7_is : vfunc Try.prog Try.f7 = some v7 := by kernel_rfl
def v3 : VF := { ntmps := 46, res := [.tmp 6], body :=
 (.seq (.region [⟨(some 3), none, .box, [.tm 0]⟩,
  ⟨(some 6), none, .mov, [.cn (.bool false)]⟩])
 (.seq (.seq (.region [⟨(some 11), none, (.fieldAddr 0), [.tm 3]⟩,
  ⟨(some 12), none, (.load false 1), [.tm 11]⟩,
  ⟨(some 13), none, .len, [.tm 12]⟩,
  ⟨(some 14), none, (.cmp .gtr), [.tm 13, .cn (.int .i64 30)]⟩,
  ⟨(some 15), none, .mov, [.tm 14]⟩,
  ⟨(some 16), (some (15, false)), .mov, [.tm 1]⟩,
  ⟨(some 17), (some (15, false)), .len, [.tm 16]⟩,
  ⟨(some 18), (some (15, false)), (.cmp .gtr), [.tm 17, .cn (.int .i64 50)]⟩,
  ⟨(some 19), none, .or, [.tm 15, .tm 18]⟩])
 (.cond (.tm 19) (.seq (.region [⟨(some 20), none, (.call 7), []⟩,
  ⟨(some 6), none, .mov, [.tm 20]⟩])
 .ret)
  .skip))
 (.seq (.region [⟨(some 22), none, (.load true 1), [.tm 3]⟩,
  ⟨(some 23), none, .mov, [.tm 1]⟩,
  ⟨(some 24), none, .mov, [.tm 2]⟩,
  ⟨(some 25), none, (.call 8), [.tm 22, .tm 23, .tm 24]⟩,
  ⟨(some 21), none, .mov, [.tm 25]⟩,
  ⟨(some 26), none, (.ext 0), [.tm 21]⟩,
  ⟨(some 27), none, (.ext 1), [.tm 21]⟩,
  ⟨(some 7), none, .mov, [.tm 26]⟩,
  ⟨(some 8), none, .mov, [.tm 27]⟩])
 (.seq (.region [⟨(some 29), none, (.load true 1), [.tm 3]⟩,
  ⟨(some 30), none, .mov, [.tm 1]⟩,
  ⟨(some 31), none, .mov, [.tm 2]⟩,
  ⟨(some 32), none, (.call 9), [.tm 29, .tm 30, .tm 31]⟩,
  ⟨(some 28), none, .mov, [.tm 32]⟩,
  ⟨(some 33), none, (.ext 0), [.tm 28]⟩,
  ⟨(some 34), none, (.ext 1), [.tm 28]⟩,
  ⟨(some 9), none, .mov, [.tm 33]⟩,
  ⟨(some 10), none, .mov, [.tm 34]⟩])
 (.seq (.region [⟨(some 35), none, .mov, [.tm 7]⟩,
  ⟨(some 36), none, .mov, [.tm 9]⟩,
  ⟨(some 37), none, (.cmp .eql), [.tm 35, .tm 36]⟩,
  ⟨(some 38), none, .mov, [.tm 37]⟩,
  ⟨(some 39), (some (38, true)), .mov, [.tm 8]⟩,
  ⟨(some 40), (some (38, true)), .mov, [.tm 10]⟩,
  ⟨(some 41), (some (38, true)), (.cmp .eql), [.tm 39, .tm 40]⟩,
  ⟨(some 42), none, .and, [.tm 38, .tm 41]⟩,
  ⟨(some 43), none, .mov, [.tm 42]⟩,
  ⟨(some 44), (some (43, true)), (.call 7), []⟩,
  ⟨(some 45), none, .and, [.tm 43, .tm 44]⟩,
  ⟨(some 6), none, .mov, [.tm 45]⟩])
 .ret))))) }
def plC : Ctr := { alias := false, of := fun l => match l with
  | [] => .fin (.agg [.int .i64 20000, .int .i64 200000, .int .i64 6000, .int .i64 800000]) []
  | _ => noC }
def chaC : Ctr := { alias := false, of := fun l => match l with
  | [.int .i64 n] => .pre (0 ≤ n ∧ n ≤ 1000) (.fin (.agg [.vs true (decide (n.toNat = 0)) n.toNat 2 (fun _ => enc2 (20000, 700))]) [])
  | _ => noC }
def samC {α : Type} [Inhabited α] [DecidableEq α] (size : Nat) (e : α → List SV) : Ctr := { alias := false, of := fun l => match l with
  | [.vs _ _ n sz get, .vs _ _ m sz' get'] => .ex (List α) fun a => .ex (List α) fun b => .pre (lsP size e n sz get a ∧ lsP size e m sz' get' b ∧ a.length ≤ 1000000000000) (.fin (.bool (decide (a = b))) [])
  | _ => noC }
def samIC : Ctr := samC 1 enc1
def L0 : Env := { ct := fun _ => none, fn := fun _ => none, meth := fun _ _ => none }
theorem L0_ok : EnvOk Try.prog L0 := by
  refine ⟨fun f c h => ?_, fun f vf h => ?_, (fun _ _ _ h => by cases h), by kernel_rfl⟩
  · cases h
  · cases h

theorem pl_ok : plC.ok Try.prog 19 := by
  refine contract Try.func19 v19_is L0_ok 100 plC fun args k h => ⟨args, ?_⟩
  simp only [plC] at h
  split at h
  · refine ⟨by simp [leL, le], ?_⟩
    dsimp only [v19, go_sem, Option.bind, Option.map, List.append_nil, Nat.beq, List.cons_append, List.nil_append, List.append_eq, List.map_cons, List.map_nil, ite_self, reduceIte]
    simp only [true_and, and_true, imp_self, implies_true, decide_eq_true_eq, decide_eq_false_iff_not, Nat.reduceAdd, Nat.reduceLeDiff, Bool.not_not, reduceCtorEq, false_imp_iff, Bool.not_eq_true', Bool.not_eq_false', Bool.false_eq_true, and_self, forall_const, ne_eq, not_false_eq_true, Nat.reduceEqDiff]
    exact ans_le (show k _ [] from h) (leX_le (.agg [.int _ _, .int _ _, .int _ _, .int _ _]) _ (leXL_self _) ⟨trivial, trivial, trivial, trivial, trivial⟩) (fun _ => by simp [freshS, freshL])
  · exact h.1.elim
theorem cha_ok : chaC.ok Try.prog 21 := by
  refine contract Try.func21 v21_is L0_ok 100 chaC fun args k h => ⟨args, ?_⟩
  simp only [chaC] at h
  split at h
  · rename_i n
    obtain ⟨⟨h0, h1⟩, h⟩ := h
    refine ⟨by simp [leL, le], ?_⟩
    obtain ⟨n, rfl⟩ := Int.eq_ofNat_of_zero_le h0
    have h : k (.agg [.vs true (decide (n = 0)) n 2 (fun _ => enc2 (20000, 700))]) [] := h
    dsimp only [v21, go_sem, Option.bind, Option.map, List.append_nil, Nat.beq, List.cons_append, List.nil_append, List.append_eq, List.map_cons, List.map_nil, ite_self, reduceIte]
    simp only [true_and, and_true, imp_self, implies_true, decide_eq_true_eq, decide_eq_false_iff_not, Nat.reduceAdd, Nat.reduceLeDiff, Bool.not_not, reduceCtorEq, false_imp_iff, Bool.not_eq_true', Bool.not_eq_false', Bool.false_eq_true, and_self, forall_const, ne_eq, not_false_eq_true, Nat.reduceEqDiff]
    refine Loop.keep [0, 1, 0] Nat (fun i => [(4, .int .i64 i)]) (fun i => [(1, .box [.own 2 0 i 2]), (2, .own (decide (i = 0)) 2 i (fun _ => enc2 (20000, 700)))]) [.gone] (fun i => i ≤ n) (fun i => n - i) ?_ ?_
    · refine ⟨0, Nat.zero_le _, ?_⟩
      dsimp only [go_sem, Option.bind, Option.map, List.append_nil, Nat.beq, List.cons_append, List.nil_append, List.append_eq, List.map_cons, List.map_nil, ite_self, reduceIte]
      simp only [leH_ghost, leS_mk, leL_cons, leL_nil, le_junk, le_int, le_bool, le_nil, leLL_nil, leLL_cons, leH_cons, leH_nil, leH1_box, leH1_own, leH1_gone, le_vs, le_agg, le_tup, le_ptr, le_own, le_xp, le_fn, le_opt, le_val, le_elem, le_nil_own, le_nil_vs, leH_ghost, leL_chunk, leXL_id, bnd_int, bnd_bool, bnd_val, bnd_nil, bnd_junk, bnd_vs, bnd_xp, bnd_agg, bnd_tup, bnd_ptr, bnd_own, bnd_elem, bnd_fn, bnd_iface, bnd_opt, bndL_nil, bndL_cons, lenH_cons, lenH_nil, imp_self, implies_true, true_and, and_true] <;> simp
    · rintro i hi
      dsimp only [enc2, go_sem, Option.bind, Option.map, List.append_nil, Nat.beq, List.cons_append, List.nil_append, List.append_eq, List.map_cons, List.map_nil, ite_self, reduceIte]
      simp only [true_and, and_true, imp_self, implies_true, decide_eq_true_eq, decide_eq_false_iff_not, Nat.reduceAdd, Nat.reduceLeDiff, Bool.not_not, reduceCtorEq, false_imp_iff, Bool.not_eq_true', Bool.not_eq_false', Bool.false_eq_true, and_self, forall_const, ne_eq, not_false_eq_true, Nat.reduceEqDiff]
      refine ⟨fun hlt => ?_, fun hge => ?_⟩
      · refine ⟨by decide, ⟨by unfold capOk; omega, fun k hk => ?_⟩, i + 1, by omega, by omega, ?_⟩
        · obtain rfl : k = 0 := by omega
          exact ⟨rfl, trivial, trivial, trivial⟩
        · simp only [w_succ (i := i) (n := n) (by omega) (by omega), leS_mk, leL_cons, leL_nil, le_junk, le_int, le_bool, le_nil, leLL_nil, leLL_cons, leH_cons, leH_nil, leH1_box, leH1_own, leH1_gone, le_vs, le_agg, le_tup, le_ptr, le_own, le_xp, le_fn, le_opt, le_val, le_elem, le_nil_own, le_nil_vs, leH_ghost, leL_chunk, leXL_id, bnd_int, bnd_bool, bnd_val, bnd_nil, bnd_junk, bnd_vs, bnd_xp, bnd_agg, bnd_tup, bnd_ptr, bnd_own, bnd_elem, bnd_fn, bnd_iface, bnd_opt, bndL_nil, bndL_cons, lenH_cons, lenH_nil, imp_self, implies_true, true_and, and_true]
          refine ⟨by omega, by omega, by simp, fun k hk => ?_⟩
          split
          · exact ⟨⟨rfl, rfl⟩, ⟨rfl, rfl⟩, trivial⟩
          · obtain rfl : k = i := by omega
            rw [Nat.sub_self]
            exact ⟨⟨rfl, rfl⟩, ⟨rfl, rfl⟩, trivial⟩
      · obtain rfl : i = n := by omega
        refine ans_le (show k _ [] from h) ?_ (fun _ => by simp [enc2, freshS, freshL])
        simp only [expo, view, viewL, getH]
        exact ⟨⟨fun h => h, rfl, rfl, rfl, fun q _ => ⟨⟨rfl, rfl⟩, ⟨rfl, rfl⟩, trivial⟩⟩, trivial⟩
  · exact h.1.elim
theorem list_ne {α : Type} [Inhabited α] {a b : List α} {i : Nat} (h : a.getD i default ≠ b.getD i default) : a ≠ b := fun e => h (by rw [e])
theorem samI_ok : samIC.ok Try.prog 22 := by
  refine contract Try.func22 v22_is L0_ok 200 samIC fun args k h => ?_
  simp only [samIC, samC] at h
  split at h
  · rename_i t z n sz get t' z' m sz' get'
    obtain ⟨a, b, ⟨⟨rfl, rfl, hg⟩, ⟨rfl, rfl, hg'⟩, hbig⟩, h⟩ := h
    refine ⟨[.vs t z a.length 1 (fun k => enc1 (a.getD k default)), .vs t' z' b.length 1 (fun k => enc1 (b.getD k default))], ⟨by simpa [le] using hg, by simpa [le] using hg', trivial⟩, ?_⟩
    have h : k (.bool (decide (a = b))) [] := h
    dsimp only [v22, enc1, go_sem, Option.bind, Option.map, List.append_nil, Nat.beq, List.cons_append, List.nil_append, List.append_eq, List.map_cons, List.map_nil, ite_self, reduceIte]
    simp only [true_and, and_true, imp_self, implies_true, decide_eq_true_eq, decide_eq_false_iff_not, Nat.reduceAdd, Nat.reduceLeDiff, Bool.not_not, reduceCtorEq, false_imp_iff, Bool.not_eq_true', Bool.not_eq_false', Bool.false_eq_true, and_self, forall_const, ne_eq, not_false_eq_true, Nat.reduceEqDiff]
    refine ⟨fun hc => ?_, fun hc => ?_⟩
    · rw [decide_eq_false (show ¬ a = b from fun e => by rw [e] at hc; omega)] at h; exact ans_bool h
    · have hlen : a.length = b.length := by omega
      refine Loop.keep [0, 0, 3] Nat (fun i => [(5, .int .i64 i)]) (fun _ => []) [] (fun i => i ≤ a.length ∧ ∀ j, j < i → a.getD j default = b.getD j default) (fun i => a.length - i) ?_ ?_
      · refine ⟨0, ⟨Nat.zero_le _, fun j h => by omega⟩, ?_⟩
        dsimp only [go_sem, Option.bind, Option.map, List.append_nil, Nat.beq, List.cons_append, List.nil_append, List.append_eq, List.map_cons, List.map_nil, ite_self, reduceIte]
        simp only [leS_mk, leL_cons, leL_nil, le_junk, le_int, le_bool, le_nil, leLL_nil, leLL_cons, leH_cons, leH_nil, leH1_box, leH1_own, leH1_gone, le_vs, le_agg, le_tup, le_ptr, le_own, le_xp, le_fn, le_opt, le_val, le_elem, le_nil_own, le_nil_vs, leH_ghost, leL_chunk, leXL_id, bnd_int, bnd_bool, bnd_val, bnd_nil, bnd_junk, bnd_vs, bnd_xp, bnd_agg, bnd_tup, bnd_ptr, bnd_own, bnd_elem, bnd_fn, bnd_iface, bnd_opt, bndL_nil, bndL_cons, lenH_cons, lenH_nil, imp_self, implies_true, true_and, and_true]
        simp
      · rintro i ⟨hi, ha⟩
        dsimp only [enc1, Int.toNat_natCast, go_sem, Option.bind, Option.map, List.append_nil, Nat.beq, List.cons_append, List.nil_append, List.append_eq, List.map_cons, List.map_nil, ite_self, reduceIte]
        simp only [true_and, and_true, imp_self, implies_true, decide_eq_true_eq, decide_eq_false_iff_not, Nat.reduceAdd, Nat.reduceLeDiff, Bool.not_not, reduceCtorEq, false_imp_iff, Bool.not_eq_true', Bool.not_eq_false', Bool.false_eq_true, and_self, forall_const, ne_eq, not_false_eq_true, Nat.reduceEqDiff]
        refine ⟨fun hlt => ?_, fun hge => ?_⟩
        · refine ⟨⟨by omega, hlt⟩, ⟨by omega, by omega⟩, ?_⟩
          refine ⟨fun hne => ?_, fun heq => ?_⟩
          · rw [decide_eq_false (list_ne (a := a) (b := b) (i := i) fun e => hne (by rw [e]))] at h; exact ans_bool h
          · refine ⟨i + 1, ⟨by omega, fun j hj => ?_⟩, by omega, ?_⟩
            · rcases Nat.lt_or_ge j i with h' | h'
              · exact ha j h'
              · obtain rfl : j = i := by omega
                omega
            · simp only [w_succ (i := i) (n := a.length) (by omega) (by omega), leS_mk, leL_cons, leL_nil, le_junk, le_int, le_bool, le_nil, leLL_nil, leLL_cons, leH_cons, leH_nil, leH1_box, leH1_own, leH1_gone, le_vs, le_agg, le_tup, le_ptr, le_own, le_xp, le_fn, le_opt, le_val, le_elem, le_nil_own, le_nil_vs, leH_ghost, leL_chunk, leXL_id, bnd_int, bnd_bool, bnd_val, bnd_nil, bnd_junk, bnd_vs, bnd_xp, bnd_agg, bnd_tup, bnd_ptr, bnd_own, bnd_elem, bnd_fn, bnd_iface, bnd_opt, bndL_nil, bndL_cons, lenH_cons, lenH_nil, imp_self, implies_true, true_and, and_true] <;> simp
        · have e : a = b := list_ext hlen fun i h => ha i (by omega)
          rw [decide_eq_true e] at h; exact ans_bool h
  · exact h.1.elim

def A0 : Env := { ct := fun n => match n with | 19 => some plC | 21 => some chaC | 22 => some samIC | 20 => some OpC | 17 => some FoC | 12 => some ArC | 8 => some EnC | 10 => some ChC | 18 => some TuC | _ => none, fn := fun _ => none, meth := fun _ _ => none }
theorem A0_ct19 : A0.ct 19 = some plC := rfl
theorem A0_ct21 : A0.ct 21 = some chaC := rfl
theorem A0_ct22 : A0.ct 22 = some samIC := rfl
theorem A0_ct20 : A0.ct 20 = some OpC := rfl
theorem A0_ct17 : A0.ct 17 = some FoC := rfl
theorem A0_ct12 : A0.ct 12 = some ArC := rfl
theorem A0_ct8 : A0.ct 8 = some EnC := rfl
theorem A0_ct10 : A0.ct 10 = some ChC := rfl
theorem A0_ct18 : A0.ct 18 = some TuC := rfl
theorem A0_ok : EnvOk Try.prog A0 := by
  refine ⟨fun f c h => ?_, fun f vf h => ?_, (fun _ _ _ h => by cases h), by kernel_rfl⟩
  · simp only [A0] at h
    split at h
    · cases h; exact ⟨pl_ok, Try.f19, Try.func19, by kernel_rfl, by kernel_rfl⟩
    · cases h; exact ⟨cha_ok, Try.f21, Try.func21, by kernel_rfl, by kernel_rfl⟩
    · cases h; exact ⟨samI_ok, Try.f22, Try.func22, by kernel_rfl, by kernel_rfl⟩
    · cases h; exact ⟨Op_ok, Try.f20, Try.func20, by kernel_rfl, by kernel_rfl⟩
    · cases h; exact ⟨Fo_ok, Try.f17, Try.func17, by kernel_rfl, by kernel_rfl⟩
    · cases h; exact ⟨Ar_ok, Try.f12, Try.func12, by kernel_rfl, by kernel_rfl⟩
    · cases h; exact ⟨En_ok, Try.f8, Try.func8, by kernel_rfl, by kernel_rfl⟩
    · cases h; exact ⟨Ch_ok, Try.f10, Try.func10, by kernel_rfl, by kernel_rfl⟩
    · cases h; exact ⟨Tu_ok, Try.f18, Try.func18, by kernel_rfl, by kernel_rfl⟩
    · cases h
  · cases h

def toes (n : Nat) : List Iv := List.replicate n (20000, 700)
def pal0 : Plt := ⟨20000, 200000, 6000, 800000⟩
theorem toes_ls {n : Nat} : lsP 2 enc2 n 2 (fun _ => [SV.int .i64 20000, .int .i64 700]) (toes n) := by
  refine ⟨rfl, by simp [toes], fun k hk => ?_⟩
  rw [show (toes n).getD k default = (20000, 700) by simp [toes, List.getD_eq_getElem?_getD, List.getElem?_replicate, hk]]
  exact leXL_self _
theorem awake_ok : trueC.ok Try.prog 7 := by
  refine contract Try.func7 v7_is A0_ok 400 trueC fun args k h => ⟨args, ?_⟩
  simp only [trueC] at h
  split at h
  · refine ⟨by simp [leL], ?_⟩
    dsimp only [v7, A0_ct19, A0_ct21, A0_ct22, A0_ct20, A0_ct17, A0_ct12, A0_ct8, A0_ct10, A0_ct18, plC, chaC, samIC, samC, OpC, FoC, ArC, EnC, ChC, TuC, vsI, enc2, enc1, go_sem, Option.bind, Option.map, List.append_nil, Nat.beq, List.cons_append, List.nil_append, List.append_eq, List.map_cons, List.map_nil, ite_self, reduceIte]
    simp only [true_and, and_true, imp_self, implies_true, decide_eq_true_eq, decide_eq_false_iff_not, Nat.reduceAdd, Nat.reduceLeDiff, Bool.not_not, reduceCtorEq, false_imp_iff, Bool.not_eq_true', Bool.not_eq_false', Bool.false_eq_true, and_self, forall_const, ne_eq, not_false_eq_true, Nat.reduceEqDiff]
    have hp : ∀ G : Nat → List SV, leXL (G 0) (encP pal0) → lsP 4 encP 1 4 G [pal0] := fun G hG => ⟨rfl, rfl, fun k hk => match k, hk with | 0, _ => hG⟩
    refine ⟨by decide, by decide, by decide, by decide, by decide, by decide, toes 1, ⟨toes_ls, by simp [toes]⟩, by decide, by decide, by decide, toes 1, [pal0], ⟨toes_ls, hp _ (leXL_self _), by simp [toes], by simp⟩, by decide, by decide, by decide, toes 8, [pal0], ⟨toes_ls, hp _ (leXL_self _), by simp [toes], by simp⟩, ?_⟩
    refine ⟨by decide, by decide, by decide, toes 9, [pal0], ⟨toes_ls, hp _ (leXL_self _), by simp [toes], by simp⟩, by decide, by decide, by decide, by decide, ?_⟩
    have e1 : oF ⟨20000, 200000, 6000, 800000⟩ = (1320000000, 0) := by decide +kernel
    have e2 : fF ⟨20000, 200000, 6000, 800000⟩ 600 = ((3200000, 3200000), 0) := by decide +kernel
    have e3 : aF (toes 1) = ((314159265, 314159266), 0) := by decide +kernel
    have e4 : enoF (toes 1) [pal0] 500 = (-1, 0) := by decide +kernel
    have e5 : choF (toes 8) [pal0] ⟨100, 600, 4000000⟩ = ([0, 0], 0) := by decide +kernel
    have e6 : choF (toes 9) [pal0] ⟨100, 600, 4000000⟩ = ([], 4) := by decide +kernel
    have e7 : tF (10000, 700) 1000000 2 = ((10954, 10955), 0) := by decide +kernel
    simp only [e1, e2, e3, e4, e5, e6, e7]
    simp only [true_and, and_true, imp_self, implies_true, decide_eq_true_eq, decide_eq_false_iff_not, Nat.reduceAdd, Nat.reduceLeDiff, Bool.not_not, reduceCtorEq, false_imp_iff, Bool.not_eq_true', Bool.not_eq_false', Bool.false_eq_true, and_self, forall_const, ne_eq, not_false_eq_true, Nat.reduceEqDiff, decide_true, decide_false, Bool.and_true, Bool.true_and, Bool.and_false, Bool.false_and, Bool.not_true, Bool.not_false, Bool.or_false, Bool.false_or, Bool.or_true, Bool.true_or, Bool.and_self, Bool.or_self, Bool.false_eq_true, Bool.true_eq_false, false_imp_iff, forall_const, true_and, and_true, implies_true, reduceCtorEq, not_true_eq_false, not_false_eq_true, ite_true, ite_false]
    refine ⟨by decide, [0, 0], [0, 0], ⟨lsP_self, ⟨rfl, rfl, fun k hk => match k, hk with | 0, _ => leXL_self _ | 1, _ => leXL_self _⟩, by simp⟩, ?_⟩
    exact ans_bool h
  · exact h.1.elim

/-! ### Shapes -/

def shT : List Sh := [.int .i64, .int .i64]
def shP : List Sh := [.int .i64, .int .i64, .int .i64, .int .i64]
theorem t_of {c : List SV} (h : okSL shT c) : ∃ p : Iv, c = enc2 p := by
  obtain ⟨_, _, rfl, ⟨n1, rfl, _⟩, e1⟩ := okSL_cons_inv h
  obtain ⟨_, _, rfl, ⟨n2, rfl, _⟩, e2⟩ := okSL_cons_inv e1
  cases okSL_nil_inv e2
  exact ⟨(n1, n2), rfl⟩
theorem p_of {c : List SV} (h : okSL shP c) : ∃ p : Plt, c = encP p := by
  obtain ⟨_, _, rfl, ⟨n1, rfl, _⟩, e1⟩ := okSL_cons_inv h
  obtain ⟨_, _, rfl, ⟨n2, rfl, _⟩, e2⟩ := okSL_cons_inv e1
  obtain ⟨_, _, rfl, ⟨n3, rfl, _⟩, e3⟩ := okSL_cons_inv e2
  obtain ⟨_, _, rfl, ⟨n4, rfl, _⟩, e4⟩ := okSL_cons_inv e3
  cases okSL_nil_inv e4
  exact ⟨⟨n1, n2, n3, n4⟩, rfl⟩
theorem sls_of {α : Type} [Inhabited α] {sh : List Sh} {e : α → List SV} (he : ∀ c, okSL sh c → ∃ p, c = e p) {v : SV} (h : okS (.slice sh) v) :
    ∃ (z : Bool) (l : List α), l.length ≤ maxLen ∧ leX v (.vs false z l.length (lenSh sh) (fun k => e (l.getD k default))) :=
  slice_of (fun c hc => let ⟨p, h⟩ := he c hc; ⟨p, by rw [h]; exact leXL_self _⟩) h
end Go.Proofs.Ytngccjllkgpjmaa

/- Chests, in plain Lean: the best choice is the best. -/
/- Chests, in plain Lean: the best choice is the best. -/
set_option linter.all false
namespace Go.Proofs.Ytngccjllkgpjmaa
open Go Go.Vx

/-- Is a list a choice, and how heavy? -/
def isC (a : Iv) (w : Wsh) (l : List Plt) (x : List Int) : Prop := (chcF a w l x).2 = true
/-- One choice is no worse than another one: fewer pallets, lighter, or a lesser list. -/
def betterEq (x y : List Int × Int) : Prop := x.1.length < y.1.length ∨ x.1.length = y.1.length ∧ (x.2 < y.2 ∨ x.2 = y.2 ∧ (x.1 = y.1 ∨ ∃ i, i < x.1.length ∧ (∀ j, j < i → x.1.getD j default = y.1.getD j default) ∧ x.1.getD i default < y.1.getD i default))

theorem chc1 {a : Iv} {w : Wsh} {l : List Plt} {i : Int} : chcF a w l [i] = (if (0 ≤ i ∧ i < l.length) ∧ fh (l.getD i.toNat default) w.pr ≤ w.most then (fh (l.getD i.toNat default) w.pr, decide (cmpF a (openF (l.getD i.toNat default)) w.per = 1)) else (0, false)) := by
  have e1 : okA w l [i] = (decide ((0 ≤ i ∧ i < l.length) ∧ fh (l.getD i.toNat default) w.pr ≤ w.most)) := by
    rw [Bool.eq_iff_iff, decide_eq_true_eq]
    simp [okA, okI, List.range, List.range.loop]
  have e2 : chs l [i] = [l.getD i.toNat default] := rfl
  unfold chcF
  rw [if_neg (by simp), e1, e2]
  simp [wtS, chs, sumO]
theorem chc2 {a : Iv} {w : Wsh} {l : List Plt} {i j : Int} : chcF a w l [i, j] = (if (0 ≤ i ∧ i ≤ j ∧ j < l.length) ∧ fh (l.getD i.toNat default) w.pr ≤ w.most ∧ fh (l.getD j.toNat default) w.pr ≤ w.most then (fh (l.getD i.toNat default) w.pr + fh (l.getD j.toNat default) w.pr, decide (cmpF a (openF (l.getD i.toNat default) + openF (l.getD j.toNat default)) w.per = 1)) else (0, false)) := by
  have e1 : okA w l [i, j] = (decide ((0 ≤ i ∧ i ≤ j ∧ j < l.length) ∧ fh (l.getD i.toNat default) w.pr ≤ w.most ∧ fh (l.getD j.toNat default) w.pr ≤ w.most)) := by
    rw [Bool.eq_iff_iff, decide_eq_true_eq]
    simp [okA, okI, List.range, List.range.loop]
    omega
  have e2 : chs l [i, j] = [l.getD i.toNat default, l.getD j.toNat default] := rfl
  unfold chcF
  rw [if_neg (by simp), e1, e2]
  simp [wtS, chs, sumO]
theorem chc_len {a : Iv} {w : Wsh} {l : List Plt} {x : List Int} (h : (chcF a w l x).2 = true) : x.length = 1 ∨ x.length = 2 := by
  unfold chcF at h
  split at h
  · cases h
  · rename_i hn
    rw [Bool.or_eq_true, decide_eq_true_eq, decide_eq_true_eq] at hn
    omega

/-- What the search holds after some candidates: the best one of those, if any is a choice. -/
structure Inv (a : Iv) (w : Wsh) (l : List Plt) (b : Bst) (P : List Int → Prop) : Prop where
  nil : b.1 = [] → b.2 = 0 ∧ ∀ x, P x → ¬ isC a w l x
  some : b.1 ≠ [] → P b.1 ∧ chcF a w l b.1 = (b.2, true) ∧ ∀ x, P x → isC a w l x → betterEq b (x, (chcF a w l x).1)

theorem better_refl {x : List Int × Int} : betterEq x x := .inr ⟨rfl, .inr ⟨rfl, .inl rfl⟩⟩

/-- One candidate more, which comes after all others. -/
theorem inv_step {a : Iv} {w : Wsh} {l : List Plt} {b : Bst} {P : List Int → Prop} {c : Cnd} (h : Inv a w l b P) (hlen : ∀ x, P x → x.length = c.ids.length) (hne : c.ids ≠ [])
    (hlt : ∀ x, P x → x = c.ids ∨ ∃ i, i < x.length ∧ (∀ j, j < i → x.getD j default = c.ids.getD j default) ∧ x.getD i default < c.ids.getD i default)
    (hc : (isC a w l c.ids ↔ ¬ (w.most < c.hv ∨ cmpF a c.op w.per ≠ 1)) ∧ (isC a w l c.ids → chcF a w l c.ids = (c.wt, true))) :
    Inv a w l (tryF a w b c) (fun x => P x ∨ x = c.ids) := by
  unfold tryF
  split
  · rename_i hno
    have hn : ¬ isC a w l c.ids := fun hi => hc.1.1 hi hno
    refine ⟨fun hb => ⟨(h.nil hb).1, ?_⟩, fun hb => ⟨.inl (h.some hb).1, (h.some hb).2.1, ?_⟩⟩
    · rintro x (hx | rfl)
      · exact (h.nil hb).2 x hx
      · exact hn
    · rintro x (hx | rfl) hi
      · exact (h.some hb).2.2 x hx hi
      · exact absurd hi hn
  · rename_i hyes
    have hi := hc.1.2 hyes
    have hv := hc.2 hi
    split
    · rename_i hr
      refine ⟨fun hb => absurd hb hne, fun _ => ⟨.inr rfl, hv, ?_⟩⟩
      rintro x (hx | rfl) hxi
      · rcases hr with hb | hw
        · exact absurd hxi ((h.nil hb).2 x hx)
        · by_cases hb : b.1 = []
          · exact absurd hxi ((h.nil hb).2 x hx)
          · have := (h.some hb).2.2 x hx hxi
            have hl1 := hlen _ (h.some hb).1
            have hl2 := hlen _ hx
            refine .inr ⟨by show c.ids.length = x.length; omega, .inl ?_⟩
            show c.wt < (chcF a w l x).1
            rcases this with h | ⟨_, h | ⟨h, _⟩⟩
            · dsimp only at h; omega
            · dsimp only at h; omega
            · dsimp only at h; omega
      · rw [hv]; exact better_refl
    · rename_i hr
      have hb : b.1 ≠ [] := fun h => hr (.inl h)
      refine ⟨fun h => absurd h hb, fun _ => ⟨.inl (h.some hb).1, (h.some hb).2.1, ?_⟩⟩
      rintro x (hx | rfl) hxi
      · exact (h.some hb).2.2 x hx hxi
      · rw [hv]
        have hl1 := hlen _ (h.some hb).1
        refine .inr ⟨hl1, ?_⟩
        show b.2 < c.wt ∨ b.2 = c.wt ∧ _
        rcases Int.lt_or_le b.2 c.wt with h1 | h1
        · exact .inl h1
        · refine .inr ⟨by have : ¬ c.wt < b.2 := fun h => hr (.inr h)
                          omega, ?_⟩
          exact hlt _ (h.some hb).1
theorem Inv.cong {a : Iv} {w : Wsh} {l : List Plt} {b : Bst} {P Q : List Int → Prop} (h : Inv a w l b P) (hpq : ∀ x, P x ↔ Q x) : Inv a w l b Q :=
  ⟨fun hb => ⟨(h.nil hb).1, fun x hx => (h.nil hb).2 x ((hpq x).2 hx)⟩, fun hb => ⟨(hpq _).1 (h.some hb).1, (h.some hb).2.1, fun x hx => (h.some hb).2.2 x ((hpq x).2 hx)⟩⟩

def Pn1 (i : Nat) (x : List Int) : Prop := ∃ k : Nat, k < i ∧ x = [(k : Int)]
theorem ones_inv {a : Iv} {w : Wsh} {l : List Plt} : ∀ {i : Nat}, i ≤ l.length → Inv a w l (ones1 a w l i) (Pn1 i)
  | 0, _ => ⟨fun _ => ⟨rfl, fun x ⟨k, hk, _⟩ => by omega⟩, fun h => absurd rfl h⟩
  | i + 1, hi => by
    have ih := ones_inv (a := a) (w := w) (l := l) (i := i) (by omega)
    have hs := inv_step (c := cand1 w l i) ih (fun x ⟨k, _, hx⟩ => by rw [hx]; rfl) (by simp [cand1]) (fun x ⟨k, hk, hx⟩ => .inr ⟨0, by rw [hx]; simp, fun j hj => by omega, by rw [hx]; simp [cand1]; exact_mod_cast hk⟩) ?_
    · refine hs.cong fun x => ⟨?_, ?_⟩
      · rintro (⟨k, hk, rfl⟩ | rfl)
        · exact ⟨k, by omega, rfl⟩
        · exact ⟨i, by omega, rfl⟩
      · rintro ⟨k, hk, rfl⟩
        rcases Nat.lt_or_ge k i with h | h
        · exact .inl ⟨k, h, rfl⟩
        · obtain rfl : k = i := by omega
          exact .inr rfl
    · unfold isC cand1
      dsimp only
      rw [chc1]
      have e : ((i : Int)).toNat = i := Int.toNat_natCast i
      rw [e]
      generalize fh (l.getD i default) w.pr = f
      generalize cmpF a (openF (l.getD i default)) w.per = g
      by_cases hm : f ≤ w.most
      · rw [if_pos ⟨⟨by omega, by omega⟩, hm⟩]
        by_cases hcm : g = 1
        · simp [hcm]; omega
        · simp [hcm]
      · rw [if_neg (fun h => hm h.2)]
        simp; omega

def Pn2 (i d : Nat) (n : Nat) (x : List Int) : Prop := ∃ k m : Nat, k ≤ m ∧ m < n ∧ (k < i ∨ k = i ∧ m < i + d) ∧ x = [(k : Int), (m : Int)]
theorem row_inv {a : Iv} {w : Wsh} {l : List Plt} {i : Nat} {b : Bst} (hi : i < l.length) (hb : Inv a w l b (Pn2 i 0 l.length)) : ∀ {d : Nat}, d ≤ l.length - i → Inv a w l (row2 a w l i b d) (Pn2 i d l.length)
  | 0, _ => hb
  | d + 1, hd => by
    have ih := row_inv hi hb (d := d) (by omega)
    have hs := inv_step (c := cand2 w l i (i + d)) ih (fun x ⟨k, m, _, _, _, hx⟩ => by rw [hx]; rfl) (by simp [cand2]) ?_ ?_
    · refine hs.cong fun x => ⟨?_, ?_⟩
      · rintro (⟨k, m, h1, h2, h3, rfl⟩ | rfl)
        · exact ⟨k, m, h1, h2, by omega, rfl⟩
        · exact ⟨i, i + d, by omega, by omega, by omega, rfl⟩
      · rintro ⟨k, m, h1, h2, h3, rfl⟩
        by_cases h : k = i ∧ m = i + d
        · obtain ⟨rfl, rfl⟩ := h
          exact .inr rfl
        · exact .inl ⟨k, m, h1, h2, by omega, rfl⟩
    · rintro x ⟨k, m, h1, h2, h3, rfl⟩
      rcases h3 with h3 | ⟨rfl, h3⟩
      · exact .inr ⟨0, by simp, fun j hj => by omega, by simp [cand2]; exact_mod_cast h3⟩
      · refine .inr ⟨1, by simp, fun j hj => ?_, ?_⟩
        · obtain rfl : j = 0 := by omega
          rfl
        · show (m : Int) < ((k + d : Nat) : Int)
          omega
    · unfold isC cand2
      dsimp only
      rw [chc2]
      have e : ((i : Int)).toNat = i := Int.toNat_natCast i
      have e' : (((i + d : Nat) : Int)).toNat = i + d := Int.toNat_natCast _
      rw [e, e']
      generalize fh (l.getD i default) w.pr = f
      generalize fh (l.getD (i + d) default) w.pr = f'
      generalize cmpF a (openF (l.getD i default) + openF (l.getD (i + d) default)) w.per = g
      by_cases hm : f ≤ w.most ∧ f' ≤ w.most
      · rw [if_pos ⟨⟨by omega, by omega, by omega⟩, hm⟩]
        by_cases hcm : g = 1
        · simp [hcm]; omega
        · simp [hcm]
      · rw [if_neg (fun h => hm h.2)]
        simp; omega
theorem twos_inv {a : Iv} {w : Wsh} {l : List Plt} {b : Bst} (hb : Inv a w l b (fun _ => False)) : ∀ {i : Nat}, i ≤ l.length → Inv a w l (twos a w l b i) (Pn2 i 0 l.length)
  | 0, _ => hb.cong fun x => ⟨False.elim, fun ⟨k, m, _, _, h, _⟩ => by omega⟩
  | i + 1, hi => by
    have ih := twos_inv hb (i := i) (by omega)
    have := row_inv (by omega : i < l.length) ih (d := l.length - i) (Nat.le_refl _)
    refine this.cong fun x => ⟨?_, ?_⟩
    · rintro ⟨k, m, h1, h2, h3, rfl⟩
      exact ⟨k, m, h1, h2, by omega, rfl⟩
    · rintro ⟨k, m, h1, h2, h3, rfl⟩
      exact ⟨k, m, h1, h2, by omega, rfl⟩

theorem one_P {a : Iv} {w : Wsh} {l : List Plt} {x : List Int} (h : isC a w l x) (hl : x.length = 1) : Pn1 l.length x := by
  obtain ⟨i, rfl⟩ := List.length_eq_one_iff.1 hl
  unfold isC at h
  rw [chc1] at h
  split at h
  · rename_i hh
    exact ⟨i.toNat, by omega, by rw [Int.toNat_of_nonneg hh.1.1]⟩
  · cases h
theorem two_P {a : Iv} {w : Wsh} {l : List Plt} {x : List Int} (h : isC a w l x) (hl : x.length = 2) : Pn2 l.length 0 l.length x := by
  obtain ⟨i, j, rfl⟩ : ∃ i j, x = [i, j] := by
    match x, hl with
    | [i, j], _ => exact ⟨i, j, rfl⟩
  unfold isC at h
  rw [chc2] at h
  split at h
  · rename_i hh
    exact ⟨i.toNat, j.toNat, by omega, by omega, by omega, by rw [Int.toNat_of_nonneg hh.1.1, Int.toNat_of_nonneg (by omega)]⟩
  · cases h

/-- THE BEST CHOICE IS THE BEST ONE. -/
theorem best_none {a : Iv} {w : Wsh} {l : List Plt} (h : bestF a w l = []) (x : List Int) : ¬ isC a w l x := by
  intro hx
  unfold bestF at h
  split at h
  · rename_i hn; exact hn h
  · rename_i hn
    have hn : (ones1 a w l l.length).1 = [] := Classical.not_not.1 hn
    have h1 := (ones_inv (a := a) (w := w) (Nat.le_refl l.length)).nil hn
    have hb : Inv a w l (ones1 a w l l.length) (fun _ => False) := ⟨fun _ => ⟨h1.1, fun _ h => h.elim⟩, fun h => absurd hn h⟩
    have h2 := (twos_inv hb (Nat.le_refl l.length)).nil h
    rcases chc_len hx with hl | hl
    · exact h1.2 x (one_P hx hl) hx
    · exact h2.2 x (two_P hx hl) hx
theorem best_some {a : Iv} {w : Wsh} {l : List Plt} (h : bestF a w l ≠ []) : ∃ v, chcF a w l (bestF a w l) = (v, true) ∧ ∀ x, isC a w l x → betterEq (bestF a w l, v) (x, (chcF a w l x).1) := by
  unfold bestF at h ⊢
  split at h
  · rename_i hn
    rw [if_pos hn]
    obtain ⟨⟨k, hk, hb⟩, h2, h3⟩ := (ones_inv (a := a) (w := w) (Nat.le_refl l.length)).some hn
    refine ⟨_, h2, fun x hx => ?_⟩
    rcases chc_len hx with hl | hl
    · exact h3 x (one_P hx hl) hx
    · refine .inl ?_
      dsimp only
      rw [hb, hl]; simp
  · rename_i hn
    rw [if_neg hn]
    have hn : (ones1 a w l l.length).1 = [] := Classical.not_not.1 hn
    have h1 := (ones_inv (a := a) (w := w) (Nat.le_refl l.length)).nil hn
    have hb : Inv a w l (ones1 a w l l.length) (fun _ => False) := ⟨fun _ => ⟨h1.1, fun _ h => h.elim⟩, fun h => absurd hn h⟩
    obtain ⟨_, h2, h3⟩ := (twos_inv hb (Nat.le_refl l.length)).some h
    refine ⟨_, h2, fun x hx => ?_⟩
    rcases chc_len hx with hl | hl
    · exact absurd hx (h1.2 x (one_P hx hl))
    · exact h3 x (two_P hx hl) hx
end Go.Proofs.Ytngccjllkgpjmaa

/- Chests, walked: the law of the best choice. -/
/- Chests, walked: the law of the best choice. -/
set_option linter.all false
namespace Go.Proofs.Ytngccjllkgpjmaa
open Go Go.Vx
set_option maxRecDepth 100000
set_option maxHeartbeats 4000000

def shI1 : List Sh := [.int .i64]
theorem i_of {c : List SV} (h : okSL shI1 c) : ∃ p : Int, c = enc1 p := by
  obtain ⟨_, _, rfl, ⟨n1, rfl, _⟩, e1⟩ := okSL_cons_inv h
  cases okSL_nil_inv e1
  exact ⟨n1, rfl⟩
def shWt : List Sh := [.slice shT, .int .i64, .int .i64, .int .i64, .slice shI1, .int .i64, .int .i64, .int .u16]
theorem w_of {c : List SV} (h : okSL shWt c) : ∃ (z z' : Bool) (l : List Iv) (a b e : Int) (m : List Int) (x y q : Int), l.length ≤ maxLen ∧ m.length ≤ maxLen ∧ (0 ≤ q ∧ q ≤ 65535) ∧
    leXL c [.vs false z l.length 2 (fun k => enc2 (l.getD k default)), .int .i64 a, .int .i64 b, .int .i64 e, .vs false z' m.length 1 (fun k => enc1 (m.getD k default)), .int .i64 x, .int .i64 y, .int .u16 q] := by
  obtain ⟨_, _, rfl, h1, e1⟩ := okSL_cons_inv h
  obtain ⟨_, _, rfl, ⟨n2, rfl, _⟩, e2⟩ := okSL_cons_inv e1
  obtain ⟨_, _, rfl, ⟨n3, rfl, _⟩, e3⟩ := okSL_cons_inv e2
  obtain ⟨_, _, rfl, ⟨n4, rfl, _⟩, e4⟩ := okSL_cons_inv e3
  obtain ⟨_, _, rfl, h5, e5⟩ := okSL_cons_inv e4
  obtain ⟨_, _, rfl, ⟨n6, rfl, _⟩, e6⟩ := okSL_cons_inv e5
  obtain ⟨_, _, rfl, ⟨n7, rfl, _⟩, e7⟩ := okSL_cons_inv e6
  obtain ⟨_, _, rfl, ⟨n8, rfl, h8⟩, e8⟩ := okSL_cons_inv e7
  cases okSL_nil_inv e8
  obtain ⟨z, l, hl, hle⟩ := sls_of (fun _ => t_of) h1
  obtain ⟨z', m, hm, hme⟩ := sls_of (fun _ => i_of) h5
  refine ⟨z, z', l, n2, n3, n4, m, n6, n7, n8, hl, hm, ?_, hle, ⟨rfl, rfl⟩, ⟨rfl, rfl⟩, ⟨rfl, rfl⟩, hme, ⟨rfl, rfl⟩, ⟨rfl, rfl⟩, ⟨rfl, rfl⟩, trivial⟩
  simp only [Lit.wf, Bool.and_eq_true, decide_eq_true_eq] at h8
  have h8' : 0 ≤ n8 ∧ n8 ≤ 65535 := h8
  exact h8'

end Go.Proofs.Ytngccjllkgpjmaa

/- Chests, in plain Lean: what grows. -/
/- Chests, in plain Lean: what grows. -/
set_option linter.all false
namespace Go.Proofs.Ytngccjllkgpjmaa
open Go Go.Vx

theorem cmp_one {a : Iv} {o per : Int} : cmpF a o per = 1 ↔ per * a.2 ≤ 100 * o := by
  unfold cmpF
  split
  · simp [*]
  · split <;> simp [*]
theorem isC_mono {a a' : Iv} {w w' : Wsh} {l : List Plt} {x : List Int} (h : isC a w l x) (hp : w'.pr = w.pr) (hm : w.most ≤ w'.most) (ha : w'.per * a'.2 ≤ w.per * a.2) : isC a' w' l x := by
  have hlen := chc_len h
  unfold isC at *
  rcases hlen with hl | hl
  · obtain ⟨i, rfl⟩ := List.length_eq_one_iff.1 hl
    rw [chc1] at h ⊢
    split at h
    · rename_i hh
      rw [hp, if_pos ⟨hh.1, Int.le_trans hh.2 hm⟩]
      simp only [decide_eq_true_eq, cmp_one] at h ⊢
      omega
    · cases h
  · obtain ⟨i, j, rfl⟩ : ∃ i j, x = [i, j] := by
      match x, hl with
      | [i, j], _ => exact ⟨i, j, rfl⟩
    rw [chc2] at h ⊢
    split at h
    · rename_i hh
      rw [hp, if_pos ⟨hh.1, Int.le_trans hh.2.1 hm, Int.le_trans hh.2.2 hm⟩]
      simp only [decide_eq_true_eq, cmp_one] at h ⊢
      omega
    · cases h
theorem best_mono {a a' : Iv} {w w' : Wsh} {l : List Plt} (h : bestF a w l ≠ []) (hp : w'.pr = w.pr) (hm : w.most ≤ w'.most) (ha : w'.per * a'.2 ≤ w.per * a.2) : bestF a' w' l ≠ [] ∧ (bestF a' w' l).length ≤ (bestF a w l).length := by
  obtain ⟨v, hv, _⟩ := best_some h
  have hc : isC a w l (bestF a w l) := by unfold isC; rw [hv]
  have hc' := isC_mono hc hp hm ha
  have hne : bestF a' w' l ≠ [] := fun he => best_none he _ hc'
  refine ⟨hne, ?_⟩
  obtain ⟨v', _, hv'⟩ := best_some hne
  rcases hv' _ hc' with hlt | ⟨he, _⟩
  · exact Nat.le_of_lt hlt
  · exact Nat.le_of_eq he
theorem cmp_mono {a a' : Iv} {o o' per : Int} (h1 : 100 * o ≤ 100 * o') (h2 : per * a'.1 ≤ per * a.1) (h3 : per * a'.2 ≤ per * a.2) (h4 : per * a.1 ≤ per * a.2) : cmpF a o per ≤ cmpF a' o' per := by
  unfold cmpF
  generalize per * a.1 = x1 at *
  generalize per * a.2 = x2 at *
  generalize per * a'.1 = y1 at *
  generalize per * a'.2 = y2 at *
  split <;> split <;> (try split) <;> (try split) <;> omega

theorem area_snoc {c : List Iv} {t : Iv} : areaF (c ++ [t]) = ((areaF c).1 + (discI t.1).1, (areaF c).2 + (discI t.1).2) := by
  unfold areaF
  rw [List.foldl_append]; rfl
theorem sumO_snoc {l : List Plt} {p : Plt} : sumO (l ++ [p]) = sumO l + openF p := by
  unfold sumO
  rw [List.foldl_append]; rfl
theorem area_al {c : List Iv} (h : ∀ t ∈ c, toeB t = false) : 0 ≤ (areaF c).1 ∧ 0 ≤ (areaF c).2 ∧ (areaF c).1 ≤ (areaF c).2 := by
  have := area_rng (l := c) (i := c.length) (Nat.le_refl _) h
  rw [List.take_length] at this
  omega
/-- What Enough says of valid things. -/
theorem eno_ok {c : List Iv} {l : List Plt} {per : Int} (hc : c.length ≤ 24) (hl : l.length ≤ 40) : ((enoF c l per).2 = 0 ∧ chkT c = 0 ∧ l.any palB = false ∧ (10 ≤ per ∧ per ≤ 1000) ∧ (enoF c l per).1 = cmpF (areaF c) (sumO l) per) ∨ ((enoF c l per).2 = 2 ∧ (!decide (chkT c = 0) || l.any palB || outN per 10 1000) = true) := by
  have h3 : chkT c ≠ 3 := by unfold chkT; rw [if_neg (by omega)]; split <;> omega
  unfold enoF
  rw [if_neg (by simp [h3]; omega)]
  split
  · rename_i h; exact .inr ⟨rfl, h⟩
  · rename_i h
    rw [Bool.not_eq_true, Bool.or_eq_false_iff, Bool.or_eq_false_iff, Bool.not_eq_false', decide_eq_true_eq, outN_f] at h
    exact .inl ⟨rfl, h.1.1, h.1.2, h.2, rfl⟩
/-- What Choose says of valid things. -/
theorem cho_ok {c : List Iv} {l : List Plt} {w : Wsh} (hc : c.length ≤ 24) (hl : l.length ≤ 40) : (choF c l w = ([], 2) ∧ (!decide (chkT c = 0) || l.any palB || wshB w) = true) ∨
    ((chkT c = 0 ∧ l.any palB = false ∧ wshB w = false) ∧ ((bestF (areaF c) w l ≠ [] ∧ choF c l w = (bestF (areaF c) w l, 0)) ∨ (bestF (areaF c) w l = [] ∧ choF c l w = ([], 4)))) := by
  have h3 : chkT c ≠ 3 := by unfold chkT; rw [if_neg (by omega)]; split <;> omega
  unfold choF
  rw [if_neg (by simp [h3]; omega)]
  rw [Bool.or_assoc]
  split
  · rename_i h; exact .inl ⟨rfl, h⟩
  · rename_i h
    rw [Bool.not_eq_true, Bool.or_eq_false_iff, Bool.or_eq_false_iff, Bool.not_eq_false', decide_eq_true_eq] at h
    refine .inr ⟨⟨h.1, h.2.1, h.2.2⟩, ?_⟩
    by_cases hb : bestF (areaF c) w l = []
    · exact .inr ⟨hb, by rw [if_neg (fun hh => hh hb)]⟩
    · exact .inl ⟨hb, by rw [if_pos hb]⟩

/-- What is not valid for Enough is not for Choose. -/
theorem gr_bad {c : List Iv} {l : List Plt} {w : Wsh} (hc : c.length ≤ 24) (hl : l.length ≤ 40) (h : (enoF c l w.per).2 ≠ 0) : (choF c l w).2 = (enoF c l w.per).2 := by
  rcases eno_ok (per := w.per) hc hl with h1 | h1
  · exact absurd h1.1 h
  · rcases cho_ok (w := w) hc hl with h2 | h2
    · rw [h1.1, h2.1]
    · exfalso
      have h3 : outN w.per 10 1000 = false := by
        have := h2.1.2.2
        unfold wshB at this
        rw [Bool.or_eq_false_iff, Bool.or_eq_false_iff] at this
        exact this.1.1
      have := h1.2
      rw [h2.1.1, h2.1.2.1, h3] at this
      simp at this
/-- More force, less opening. -/
theorem gr_more {c : List Iv} {l : List Plt} {w : Wsh} {q : Int} (hc : c.length ≤ 24) (hl : l.length ≤ 40) (hq : 0 ≤ q ∧ q ≤ 65535) (he : (choF c l w).2 = 0) (hm : w.most ≤ min w.most 999934464 + q) :
    (choF c l ⟨max (w.per - q) 10, w.pr, min w.most 999934464 + q⟩).2 = 0 ∧ (choF c l ⟨max (w.per - q) 10, w.pr, min w.most 999934464 + q⟩).1.length ≤ (choF c l w).1.length := by
  rcases cho_ok (w := w) hc hl with h1 | ⟨⟨h1, h2, h3⟩, h4⟩
  · rw [h1.1] at he; cases he
  · unfold wshB at h3
    rw [Bool.or_eq_false_iff, Bool.or_eq_false_iff, outN_f, outN_f, outN_f] at h3
    rcases h4 with ⟨h4, h5⟩ | ⟨h4, h5⟩
    · have ha := area_al (chkT_0 h1).2
      have hmul : max (w.per - q) 10 * (areaF c).2 ≤ w.per * (areaF c).2 := Int.mul_le_mul_of_nonneg_right (by omega) ha.2.1
      have hb := best_mono (w' := ⟨max (w.per - q) 10, w.pr, min w.most 999934464 + q⟩) h4 rfl hm hmul
      rcases cho_ok (w := ⟨max (w.per - q) 10, w.pr, min w.most 999934464 + q⟩) hc hl with g1 | ⟨_, g4⟩
      · exfalso
        have g2 := g1.2
        have g3 : wshB ⟨max (w.per - q) 10, w.pr, min w.most 999934464 + q⟩ = false := by
          unfold wshB
          rw [Bool.or_eq_false_iff, Bool.or_eq_false_iff, outN_f, outN_f, outN_f]
          dsimp only
          omega
        rw [h1, h2, g3] at g2
        simp at g2
      · rcases g4 with ⟨g4, g5⟩ | ⟨g4, g5⟩
        · rw [g5, h5]; exact ⟨rfl, hb.2⟩
        · exact absurd g4 hb.1
    · rw [h5] at he; cases he
/-- A pallet more. -/
theorem gr_pal {c : List Iv} {l : List Plt} {per : Int} {p : Plt} (hc : c.length ≤ 24) (hl : l.length < 40) (hp : p ∈ l) (h : (enoF c l per).2 = 0) : (enoF c (l ++ [p]) per).2 = 0 ∧ (enoF c l per).1 ≤ (enoF c (l ++ [p]) per).1 := by
  rcases eno_ok (c := c) (l := l) (per := per) hc (by omega) with ⟨_, h1, h2, h3, h4⟩ | h1
  · rcases eno_ok (c := c) (l := l ++ [p]) (per := per) hc (by simp; omega) with ⟨g0, g1, g2, g3, g4⟩ | g1
    · refine ⟨g0, ?_⟩
      rw [h4, g4, sumO_snoc]
      have ha := area_al (chkT_0 h1).2
      have ho := open_rng (any_f h2 p hp)
      refine cmp_mono (by omega) (Int.le_refl _) (Int.le_refl _) (Int.mul_le_mul_of_nonneg_left ha.2.2 (by omega))
    · exfalso
      have g2 := g1.2
      have h5 : palB p = false := any_f h2 p hp
      have h6 : outN per 10 1000 = false := by rw [outN_f]; exact h3
      rw [h1, List.any_append, h2, h6] at g2
      simp [h5] at g2
  · rw [h1.1] at h; cases h
/-- A toe more. -/
theorem gr_toe {c : List Iv} {l : List Plt} {w : Wsh} {t : Iv} (hc : c.length < 24) (hl : l.length ≤ 40) (h : (enoF c l w.per).2 = 0) (hi : (choF (c ++ [t]) l w).2 ≠ 2) (he : (choF c l w).2 ≠ 2) :
    (enoF (c ++ [t]) l w.per).2 = 0 ∧ (enoF (c ++ [t]) l w.per).1 ≤ (enoF c l w.per).1 ∧ ((choF (c ++ [t]) l w).2 = 0 → (choF c l w).2 = 0 ∧ (choF c l w).1.length ≤ (choF (c ++ [t]) l w).1.length) := by
  rcases cho_ok (c := c ++ [t]) (l := l) (w := w) (by simp; omega) hl with h1 | ⟨⟨h1, h2, h3⟩, h4⟩
  · rw [h1.1] at hi; exact absurd rfl hi
  · rcases eno_ok (c := c) (l := l) (per := w.per) (by omega) hl with ⟨_, k1, k2, k3, k4⟩ | k1
    · have hall := (chkT_0 h1).2
      have ht := toe_rng (hall t (by simp))
      have hd := discI_rng (b := t.1) (by omega) (by omega)
      have ha := area_al (chkT_0 k1).2
      have ha' := area_al hall
      rw [area_snoc] at ha' h4
      have m1 : w.per * (areaF c).1 ≤ w.per * ((areaF c).1 + (discI t.1).1) := Int.mul_le_mul_of_nonneg_left (by omega) (by omega)
      have m2 : w.per * (areaF c).2 ≤ w.per * ((areaF c).2 + (discI t.1).2) := Int.mul_le_mul_of_nonneg_left (by omega) (by omega)
      rcases eno_ok (c := c ++ [t]) (l := l) (per := w.per) (by simp; omega) hl with ⟨g0, g1, g2, g3, g4⟩ | g1
      · refine ⟨g0, ?_, fun h0 => ?_⟩
        · rw [g4, k4, area_snoc]
          exact cmp_mono (Int.le_refl _) m1 m2 (Int.mul_le_mul_of_nonneg_left ha'.2.2 (by omega))
        · rcases h4 with ⟨h4, h5⟩ | ⟨h4, h5⟩
          · have hb := best_mono (a' := areaF c) (w' := w) h4 rfl (Int.le_refl _) m2
            rcases cho_ok (c := c) (l := l) (w := w) (by omega) hl with j1 | ⟨_, ⟨j4, j5⟩ | ⟨j4, j5⟩⟩
            · rw [j1.1] at he; exact absurd rfl he
            · rw [j5, h5]; exact ⟨rfl, hb.2⟩
            · exact absurd j4 hb.1
          · rw [h5] at h0; cases h0
      · exfalso
        have g2 := g1.2
        have h6 : outN w.per 10 1000 = false := by rw [outN_f]; exact k3
        rw [h1, h2, h6] at g2
        simp at g2
    · rw [k1.1] at h; cases h
end Go.Proofs.Ytngccjllkgpjmaa

/- Chests, walked: the law of what grows. -/
/- Chests, walked: the law of what grows. -/
set_option linter.all false
namespace Go.Proofs.Ytngccjllkgpjmaa
open Go Go.Vx
set_option maxRecDepth 100000
set_option maxHeartbeats 4000000

def v5 : VF := { ntmps := 192, res := [.tmp 4], body :=
 (.seq (.region [⟨(some 2), none, .box, [.tm 0]⟩,
  ⟨(some 4), none, .mov, [.cn (.bool false)]⟩])
 (.seq (.seq (.region [⟨(some 19), none, (.fieldAddr 0), [.tm 2]⟩,
  ⟨(some 20), none, (.fieldAddr 0), [.tm 19]⟩,
  ⟨(some 21), none, (.load false 1), [.tm 20]⟩,
  ⟨(some 22), none, .len, [.tm 21]⟩,
  ⟨(some 23), none, (.cmp .geq), [.tm 22, .cn (.int .i64 24)]⟩,
  ⟨(some 24), none, .mov, [.tm 23]⟩,
  ⟨(some 25), (some (24, false)), .mov, [.tm 1]⟩,
  ⟨(some 26), (some (24, false)), .len, [.tm 25]⟩,
  ⟨(some 27), (some (24, false)), (.cmp .geq), [.tm 26, .cn (.int .i64 40)]⟩,
  ⟨(some 28), none, .or, [.tm 24, .tm 27]⟩])
 (.cond (.tm 28) (.seq (.region [⟨(some 29), none, (.call 7), []⟩,
  ⟨(some 4), none, .mov, [.tm 29]⟩])
 .ret)
  .skip))
 (.seq (.region [⟨(some 31), none, (.fieldAddr 0), [.tm 2]⟩,
  ⟨(some 32), none, (.load true 1), [.tm 31]⟩,
  ⟨(some 33), none, .mov, [.tm 1]⟩,
  ⟨(some 34), none, (.fieldAddr 1), [.tm 2]⟩,
  ⟨(some 35), none, (.load true 3), [.tm 34]⟩,
  ⟨(some 36), none, (.call 10), [.tm 32, .tm 33, .tm 35]⟩,
  ⟨(some 30), none, .mov, [.tm 36]⟩,
  ⟨(some 37), none, (.ext 0), [.tm 30]⟩,
  ⟨(some 38), none, (.ext 1), [.tm 30]⟩,
  ⟨(some 5), none, .mov, [.tm 37]⟩,
  ⟨(some 6), none, .mov, [.tm 38]⟩])
 (.seq (.region [⟨(some 40), none, (.fieldAddr 0), [.tm 2]⟩,
  ⟨(some 41), none, (.load true 1), [.tm 40]⟩,
  ⟨(some 42), none, .mov, [.tm 1]⟩,
  ⟨(some 43), none, (.fieldAddr 1), [.tm 2]⟩,
  ⟨(some 44), none, (.fieldAddr 0), [.tm 43]⟩,
  ⟨(some 45), none, (.load false 1), [.tm 44]⟩,
  ⟨(some 46), none, (.call 8), [.tm 41, .tm 42, .tm 45]⟩,
  ⟨(some 39), none, .mov, [.tm 46]⟩,
  ⟨(some 47), none, (.ext 0), [.tm 39]⟩,
  ⟨(some 48), none, (.ext 1), [.tm 39]⟩,
  ⟨(some 7), none, .mov, [.tm 47]⟩,
  ⟨(some 8), none, .mov, [.tm 48]⟩])
 (.seq (.seq (.region [⟨(some 49), none, .mov, [.tm 8]⟩,
  ⟨(some 50), none, (.cmp .neq), [.tm 49, .cn (.int .i64 0)]⟩])
 (.cond (.tm 50) (.seq (.region [⟨(some 51), none, .mov, [.tm 6]⟩,
  ⟨(some 52), none, .mov, [.tm 8]⟩,
  ⟨(some 53), none, (.cmp .eql), [.tm 51, .tm 52]⟩,
  ⟨(some 54), none, .mov, [.tm 53]⟩,
  ⟨(some 55), (some (54, true)), (.call 7), []⟩,
  ⟨(some 56), none, .and, [.tm 54, .tm 55]⟩,
  ⟨(some 4), none, .mov, [.tm 56]⟩])
 .ret)
  .skip))
 (.seq (.region [⟨(some 57), none, (.fieldAddr 1), [.tm 2]⟩,
  ⟨(some 58), none, (.load true 3), [.tm 57]⟩,
  ⟨(some 9), none, (.alloc [(.int .i64 0), (.int .i64 0), (.int .i64 0)]), []⟩,
  ⟨none, none, (.store 3), [.tm 9, .tm 58]⟩])
 (.seq (.region [⟨(some 59), none, (.fieldAddr 1), [.tm 2]⟩,
  ⟨(some 60), none, (.fieldAddr 2), [.tm 59]⟩,
  ⟨(some 61), none, (.load false 1), [.tm 60]⟩,
  ⟨(some 62), none, .min, [.tm 61, .cn (.int .i64 999934464)]⟩,
  ⟨(some 63), none, (.fieldAddr 7), [.tm 2]⟩,
  ⟨(some 64), none, (.load false 1), [.tm 63]⟩,
  ⟨(some 65), none, (.conv .i64), [.tm 64]⟩,
  ⟨(some 66), none, (.ari .add), [.tm 62, .tm 65]⟩,
  ⟨(some 67), none, (.fieldAddr 2), [.tm 9]⟩,
  ⟨none, none, (.store 1), [.tm 67, .tm 66]⟩])
 (.seq (.region [⟨(some 68), none, (.fieldAddr 1), [.tm 2]⟩,
  ⟨(some 69), none, (.fieldAddr 0), [.tm 68]⟩,
  ⟨(some 70), none, (.load false 1), [.tm 69]⟩,
  ⟨(some 71), none, (.fieldAddr 7), [.tm 2]⟩,
  ⟨(some 72), none, (.load false 1), [.tm 71]⟩,
  ⟨(some 73), none, (.conv .i64), [.tm 72]⟩,
  ⟨(some 74), none, (.ari .sub), [.tm 70, .tm 73]⟩,
  ⟨(some 75), none, .max, [.tm 74, .cn (.int .i64 10)]⟩,
  ⟨(some 76), none, (.fieldAddr 0), [.tm 9]⟩,
  ⟨none, none, (.store 1), [.tm 76, .tm 75]⟩])
 (.seq (.region [⟨(some 78), none, (.fieldAddr 0), [.tm 2]⟩,
  ⟨(some 79), none, (.load true 1), [.tm 78]⟩,
  ⟨(some 80), none, .mov, [.tm 1]⟩,
  ⟨(some 81), none, (.load true 3), [.tm 9]⟩,
  ⟨(some 82), none, (.call 10), [.tm 79, .tm 80, .tm 81]⟩,
  ⟨(some 77), none, .mov, [.tm 82]⟩,
  ⟨(some 83), none, (.ext 0), [.tm 77]⟩,
  ⟨(some 84), none, (.ext 1), [.tm 77]⟩,
  ⟨(some 10), none, .mov, [.tm 83]⟩,
  ⟨(some 11), none, .mov, [.tm 84]⟩])
 (.seq (.seq (.region [⟨(some 85), none, .mov, [.tm 6]⟩,
  ⟨(some 86), none, (.cmp .eql), [.tm 85, .cn (.int .i64 0)]⟩,
  ⟨(some 87), none, .mov, [.tm 86]⟩,
  ⟨(some 88), (some (87, true)), (.fieldAddr 2), [.tm 9]⟩,
  ⟨(some 89), (some (87, true)), (.load false 1), [.tm 88]⟩,
  ⟨(some 90), (some (87, true)), (.fieldAddr 1), [.tm 2]⟩,
  ⟨(some 91), (some (87, true)), (.fieldAddr 2), [.tm 90]⟩,
  ⟨(some 92), (some (87, true)), (.load false 1), [.tm 91]⟩,
  ⟨(some 93), (some (87, true)), (.cmp .geq), [.tm 89, .tm 92]⟩,
  ⟨(some 94), none, .and, [.tm 87, .tm 93]⟩,
  ⟨(some 95), none, .mov, [.tm 94]⟩,
  ⟨(some 96), (some (95, true)), .mov, [.tm 11]⟩,
  ⟨(some 97), (some (95, true)), (.cmp .neq), [.tm 96, .cn (.int .i64 0)]⟩,
  ⟨(some 98), (some (95, true)), .mov, [.tm 97]⟩,
  ⟨(some 99), (some (98, false)), .mov, [.tm 10]⟩,
  ⟨(some 100), (some (98, false)), .len, [.tm 99]⟩,
  ⟨(some 101), (some (98, false)), .mov, [.tm 5]⟩,
  ⟨(some 102), (some (98, false)), .len, [.tm 101]⟩,
  ⟨(some 103), (some (98, false)), (.cmp .gtr), [.tm 100, .tm 102]⟩,
  ⟨(some 104), (some (95, true)), .or, [.tm 98, .tm 103]⟩,
  ⟨(some 105), none, .and, [.tm 95, .tm 104]⟩])
 (.cond (.tm 105) (.seq (.region [⟨(some 4), none, .mov, [.cn (.bool false)]⟩])
 .ret)
  .skip))
 (.seq (.seq (.region [⟨(some 106), none, .mov, [.tm 1]⟩,
  ⟨(some 107), none, .len, [.tm 106]⟩,
  ⟨(some 108), none, (.cmp .gtr), [.tm 107, .cn (.int .i64 0)]⟩])
 (.cond (.tm 108) (.seq (.drawT [] (.ops [⟨⟨(some 110), none, (.fieldAddr 0), [.tm 2]⟩, []⟩] (.ops [⟨⟨(some 111), none, (.load true 1), [.tm 110]⟩, []⟩] (.ops [⟨⟨(some 113), none, .mov, [.tm 1]⟩, []⟩] (.ops [⟨⟨(some 115), none, .mov, [.tm 1]⟩, []⟩] (.ops [⟨⟨(some 116), none, (.idxAddr 4), [.tm 115, .cn (.int .i64 0)]⟩, []⟩] (.ops [⟨⟨(some 117), none, (.load true 4), [.tm 116]⟩, []⟩] (.ops [⟨⟨(some 120), none, (.fieldAddr 1), [.tm 2]⟩, []⟩] (.ops [⟨⟨(some 121), none, (.fieldAddr 0), [.tm 120]⟩, []⟩] (.ops [⟨⟨(some 122), none, (.load false 1), [.tm 121]⟩, []⟩] (.br (.ops [⟨⟨(some 112), none, (.buildSlice 4 0 [(.int .i64 0), (.int .i64 0), (.int .i64 0), (.int .i64 0)] []), []⟩, []⟩] (.br (.ops [⟨⟨(some 114), none, (.append 4 32 [(.int .i64 0), (.int .i64 0), (.int .i64 0), (.int .i64 0)]), [.tm 112, .tm 113]⟩, [.tm 2, .tm 110, .tm 110, .tm 111, .tm 1, .tm 115, .tm 115, .tm 116, .tm 116, .tm 117, .tm 2, .tm 120, .tm 120, .tm 121, .tm 121, .tm 122]⟩] (.ops [⟨⟨(some 118), none, (.buildSlice 4 1 [(.int .i64 0), (.int .i64 0), (.int .i64 0), (.int .i64 0)] [(0, 4)]), [.tm 117]⟩, []⟩] (.ops [⟨⟨(some 119), none, (.append 4 32 [(.int .i64 0), (.int .i64 0), (.int .i64 0), (.int .i64 0)]), [.tm 114, .tm 118]⟩, [.tm 2, .tm 110, .tm 110, .tm 111, .tm 2, .tm 120, .tm 120, .tm 121, .tm 121, .tm 122]⟩] (.ops [⟨⟨(some 123), none, (.call 8), [.tm 111, .tm 119, .tm 122]⟩, []⟩] (.ops [⟨⟨(some 109), none, .mov, [.tm 123]⟩, []⟩] (.ops [⟨⟨(some 124), none, (.ext 0), [.tm 109]⟩, []⟩] (.ops [⟨⟨(some 125), none, (.ext 1), [.tm 109]⟩, []⟩] (.ops [⟨⟨(some 12), none, .mov, [.tm 124]⟩, []⟩] (.ops [⟨⟨(some 13), none, .mov, [.tm 125]⟩, []⟩] .leaf)))))))))
 (.ops [⟨⟨(some 118), none, (.buildSlice 4 1 [(.int .i64 0), (.int .i64 0), (.int .i64 0), (.int .i64 0)] [(0, 4)]), [.tm 117]⟩, []⟩] (.ops [⟨⟨(some 114), none, (.append 4 32 [(.int .i64 0), (.int .i64 0), (.int .i64 0), (.int .i64 0)]), [.tm 112, .tm 113]⟩, [.tm 2, .tm 110, .tm 110, .tm 111, .tm 1, .tm 115, .tm 115, .tm 116, .tm 116, .tm 117, .tm 2, .tm 120, .tm 120, .tm 121, .tm 121, .tm 122]⟩] (.ops [⟨⟨(some 119), none, (.append 4 32 [(.int .i64 0), (.int .i64 0), (.int .i64 0), (.int .i64 0)]), [.tm 114, .tm 118]⟩, [.tm 2, .tm 110, .tm 110, .tm 111, .tm 2, .tm 120, .tm 120, .tm 121, .tm 121, .tm 122]⟩] (.ops [⟨⟨(some 123), none, (.call 8), [.tm 111, .tm 119, .tm 122]⟩, []⟩] (.ops [⟨⟨(some 109), none, .mov, [.tm 123]⟩, []⟩] (.ops [⟨⟨(some 124), none, (.ext 0), [.tm 109]⟩, []⟩] (.ops [⟨⟨(some 125), none, (.ext 1), [.tm 109]⟩, []⟩] (.ops [⟨⟨(some 12), none, .mov, [.tm 124]⟩, []⟩] (.ops [⟨⟨(some 13), none, .mov, [.tm 125]⟩, []⟩] .leaf)))))))))))
 (.ops [⟨⟨(some 118), none, (.buildSlice 4 1 [(.int .i64 0), (.int .i64 0), (.int .i64 0), (.int .i64 0)] [(0, 4)]), [.tm 117]⟩, []⟩] (.ops [⟨⟨(some 112), none, (.buildSlice 4 0 [(.int .i64 0), (.int .i64 0), (.int .i64 0), (.int .i64 0)] []), []⟩, []⟩] (.ops [⟨⟨(some 114), none, (.append 4 32 [(.int .i64 0), (.int .i64 0), (.int .i64 0), (.int .i64 0)]), [.tm 112, .tm 113]⟩, [.tm 2, .tm 110, .tm 110, .tm 111, .tm 1, .tm 115, .tm 115, .tm 116, .tm 116, .tm 117, .tm 2, .tm 120, .tm 120, .tm 121, .tm 121, .tm 122]⟩] (.ops [⟨⟨(some 119), none, (.append 4 32 [(.int .i64 0), (.int .i64 0), (.int .i64 0), (.int .i64 0)]), [.tm 114, .tm 118]⟩, [.tm 2, .tm 110, .tm 110, .tm 111, .tm 2, .tm 120, .tm 120, .tm 121, .tm 121, .tm 122]⟩] (.ops [⟨⟨(some 123), none, (.call 8), [.tm 111, .tm 119, .tm 122]⟩, []⟩] (.ops [⟨⟨(some 109), none, .mov, [.tm 123]⟩, []⟩] (.ops [⟨⟨(some 124), none, (.ext 0), [.tm 109]⟩, []⟩] (.ops [⟨⟨(some 125), none, (.ext 1), [.tm 109]⟩, []⟩] (.ops [⟨⟨(some 12), none, .mov, [.tm 124]⟩, []⟩] (.ops [⟨⟨(some 13), none, .mov, [.tm 125]⟩, []⟩] .leaf)))))))))))))))))))))
 (.seq (.region [⟨(some 126), none, .mov, [.tm 13]⟩,
  ⟨(some 127), none, (.cmp .neq), [.tm 126, .cn (.int .i64 0)]⟩,
  ⟨(some 128), none, .mov, [.tm 127]⟩,
  ⟨(some 129), (some (128, false)), .mov, [.tm 12]⟩,
  ⟨(some 130), (some (128, false)), .mov, [.tm 7]⟩,
  ⟨(some 131), (some (128, false)), (.cmp .lss), [.tm 129, .tm 130]⟩,
  ⟨(some 132), none, .or, [.tm 128, .tm 131]⟩])
 (.cond (.tm 132) (.seq (.region [⟨(some 4), none, .mov, [.cn (.bool false)]⟩])
 .ret)
  .skip)))
  .skip))
 (.seq (.drawT [(14, .box [.nil])] (.ops [⟨⟨(some 134), none, (.fieldAddr 0), [.tm 2]⟩, []⟩] (.ops [⟨⟨(some 135), none, (.fieldAddr 0), [.tm 134]⟩, []⟩] (.ops [⟨⟨(some 136), none, (.load false 1), [.tm 135]⟩, []⟩] (.ops [⟨⟨(some 138), none, (.fieldAddr 5), [.tm 2]⟩, []⟩] (.ops [⟨⟨(some 139), none, (.load true 2), [.tm 138]⟩, []⟩] (.ops [] (.br (.ops [⟨⟨(some 133), none, (.buildSlice 2 0 [(.int .i64 0), (.int .i64 0)] []), []⟩, []⟩] (.br (.ops [⟨⟨(some 137), none, (.append 2 16 [(.int .i64 0), (.int .i64 0)]), [.tm 133, .tm 136]⟩, [.tm 2, .tm 138, .tm 138, .tm 139]⟩] (.ops [⟨⟨(some 140), none, (.buildSlice 2 1 [(.int .i64 0), (.int .i64 0)] [(0, 2)]), [.tm 139]⟩, []⟩] (.ops [⟨⟨(some 141), none, (.append 2 16 [(.int .i64 0), (.int .i64 0)]), [.tm 137, .tm 140]⟩, []⟩] (.ops [⟨⟨(some 142), none, (.build [.nil] [(0, 1)]), [.tm 141]⟩, []⟩] (.ops [⟨⟨none, none, (.store 1), [.tm 14, .tm 142]⟩, []⟩] .leaf)))))
 (.ops [⟨⟨(some 140), none, (.buildSlice 2 1 [(.int .i64 0), (.int .i64 0)] [(0, 2)]), [.tm 139]⟩, []⟩] (.ops [⟨⟨(some 137), none, (.append 2 16 [(.int .i64 0), (.int .i64 0)]), [.tm 133, .tm 136]⟩, [.tm 2, .tm 138, .tm 138, .tm 139]⟩] (.ops [⟨⟨(some 141), none, (.append 2 16 [(.int .i64 0), (.int .i64 0)]), [.tm 137, .tm 140]⟩, []⟩] (.ops [⟨⟨(some 142), none, (.build [.nil] [(0, 1)]), [.tm 141]⟩, []⟩] (.ops [⟨⟨none, none, (.store 1), [.tm 14, .tm 142]⟩, []⟩] .leaf)))))))
 (.ops [⟨⟨(some 140), none, (.buildSlice 2 1 [(.int .i64 0), (.int .i64 0)] [(0, 2)]), [.tm 139]⟩, []⟩] (.ops [⟨⟨(some 133), none, (.buildSlice 2 0 [(.int .i64 0), (.int .i64 0)] []), []⟩, []⟩] (.ops [⟨⟨(some 137), none, (.append 2 16 [(.int .i64 0), (.int .i64 0)]), [.tm 133, .tm 136]⟩, [.tm 2, .tm 138, .tm 138, .tm 139]⟩] (.ops [⟨⟨(some 141), none, (.append 2 16 [(.int .i64 0), (.int .i64 0)]), [.tm 137, .tm 140]⟩, []⟩] (.ops [⟨⟨(some 142), none, (.build [.nil] [(0, 1)]), [.tm 141]⟩, []⟩] (.ops [⟨⟨none, none, (.store 1), [.tm 14, .tm 142]⟩, []⟩] .leaf))))))))))))))
 (.seq (.region [⟨(some 144), none, (.load true 1), [.tm 14]⟩,
  ⟨(some 145), none, .mov, [.tm 1]⟩,
  ⟨(some 146), none, (.fieldAddr 1), [.tm 2]⟩,
  ⟨(some 147), none, (.load true 3), [.tm 146]⟩,
  ⟨(some 148), none, (.call 10), [.tm 144, .tm 145, .tm 147]⟩,
  ⟨(some 143), none, .mov, [.tm 148]⟩,
  ⟨(some 149), none, (.ext 0), [.tm 143]⟩,
  ⟨(some 150), none, (.ext 1), [.tm 143]⟩,
  ⟨(some 15), none, .mov, [.tm 149]⟩,
  ⟨(some 16), none, .mov, [.tm 150]⟩])
 (.seq (.seq (.region [⟨(some 151), none, .mov, [.tm 16]⟩,
  ⟨(some 152), none, (.cmp .eql), [.tm 151, .cn (.int .i64 2)]⟩,
  ⟨(some 153), none, .mov, [.tm 152]⟩,
  ⟨(some 154), (some (153, false)), .mov, [.tm 6]⟩,
  ⟨(some 155), (some (153, false)), (.cmp .eql), [.tm 154, .cn (.int .i64 2)]⟩,
  ⟨(some 156), none, .or, [.tm 153, .tm 155]⟩])
 (.cond (.tm 156) (.seq (.region [⟨(some 157), none, (.call 7), []⟩,
  ⟨(some 4), none, .mov, [.tm 157]⟩])
 .ret)
  .skip))
 (.seq (.region [⟨(some 159), none, (.load true 1), [.tm 14]⟩,
  ⟨(some 160), none, .mov, [.tm 1]⟩,
  ⟨(some 161), none, (.fieldAddr 1), [.tm 2]⟩,
  ⟨(some 162), none, (.fieldAddr 0), [.tm 161]⟩,
  ⟨(some 163), none, (.load false 1), [.tm 162]⟩,
  ⟨(some 164), none, (.call 8), [.tm 159, .tm 160, .tm 163]⟩,
  ⟨(some 158), none, .mov, [.tm 164]⟩,
  ⟨(some 165), none, (.ext 0), [.tm 158]⟩,
  ⟨(some 166), none, (.ext 1), [.tm 158]⟩,
  ⟨(some 17), none, .mov, [.tm 165]⟩,
  ⟨(some 18), none, .mov, [.tm 166]⟩])
 (.seq (.region [⟨(some 167), none, .mov, [.tm 18]⟩,
  ⟨(some 168), none, (.cmp .eql), [.tm 167, .cn (.int .i64 0)]⟩,
  ⟨(some 169), none, .mov, [.tm 168]⟩,
  ⟨(some 170), (some (169, true)), .mov, [.tm 17]⟩,
  ⟨(some 171), (some (169, true)), .mov, [.tm 7]⟩,
  ⟨(some 172), (some (169, true)), (.cmp .leq), [.tm 170, .tm 171]⟩,
  ⟨(some 173), none, .and, [.tm 169, .tm 172]⟩,
  ⟨(some 174), none, .mov, [.tm 173]⟩,
  ⟨(some 175), (some (174, true)), .mov, [.tm 16]⟩,
  ⟨(some 176), (some (174, true)), (.cmp .neq), [.tm 175, .cn (.int .i64 0)]⟩,
  ⟨(some 177), (some (174, true)), .mov, [.tm 176]⟩,
  ⟨(some 178), (some (177, false)), .mov, [.tm 6]⟩,
  ⟨(some 179), (some (177, false)), (.cmp .eql), [.tm 178, .cn (.int .i64 0)]⟩,
  ⟨(some 180), (some (177, false)), .mov, [.tm 179]⟩,
  ⟨(some 181), (some (180, true)), .mov, [.tm 15]⟩,
  ⟨(some 182), (some (180, true)), .len, [.tm 181]⟩,
  ⟨(some 183), (some (180, true)), .mov, [.tm 5]⟩,
  ⟨(some 184), (some (180, true)), .len, [.tm 183]⟩,
  ⟨(some 185), (some (180, true)), (.cmp .geq), [.tm 182, .tm 184]⟩,
  ⟨(some 186), (some (177, false)), .and, [.tm 180, .tm 185]⟩,
  ⟨(some 187), (some (174, true)), .or, [.tm 177, .tm 186]⟩,
  ⟨(some 188), none, .and, [.tm 174, .tm 187]⟩,
  ⟨(some 189), none, .mov, [.tm 188]⟩,
  ⟨(some 190), (some (189, true)), (.call 7), []⟩,
  ⟨(some 191), none, .and, [.tm 189, .tm 190]⟩,
  ⟨(some 4), none, .mov, [.tm 191]⟩])
 .ret)))))))))))))))) }
theorem v5_is : vfunc Try.prog Try.f5 = some v5 := by kernel_rfl


theorem snoc_lsP {α : Type} [Inhabited α] {sz : Nat} {enc : α → List SV} {get : Nat → List SV} {l : List α} {x : α} (h1 : ∀ k, k < l.length → leXL (get k) (enc (l.getD k default))) (h2 : leXL (get l.length) (enc x)) : lsP sz enc (0 + l.length + 1) sz get (l ++ [x]) := by
  refine ⟨rfl, by simp, fun k hk => ?_⟩
  rcases Nat.lt_or_ge k l.length with h | h
  · have e : (l ++ [x]).getD k default = l.getD k default := by
      simp [List.getD_eq_getElem?_getD, List.getElem?_append_left h]
    rw [e]; exact h1 k h
  · obtain rfl : k = l.length := by omega
    have e : (l ++ [x]).getD l.length default = x := by simp [List.getD_eq_getElem?_getD]
    rw [e]; exact h2
def A4 : Env := { ct := fun n => match n with | 7 => some trueC | 10 => some ChC | 8 => some EnC | _ => none, fn := fun _ => none, meth := fun _ _ => none }
theorem A4_ct7 : A4.ct 7 = some trueC := rfl
theorem A4_ct10 : A4.ct 10 = some ChC := rfl
theorem A4_ct8 : A4.ct 8 = some EnC := rfl
theorem A4_ok : EnvOk Try.prog A4 := by
  refine ⟨fun f c h => ?_, fun f vf h => ?_, (fun _ _ _ h => by cases h), by kernel_rfl⟩
  · simp only [A4] at h
    split at h
    · cases h; exact ⟨awake_ok, Try.f7, Try.func7, by kernel_rfl, by kernel_rfl⟩
    · cases h; exact ⟨Ch_ok, Try.f10, Try.func10, by kernel_rfl, by kernel_rfl⟩
    · cases h; exact ⟨En_ok, Try.f8, Try.func8, by kernel_rfl, by kernel_rfl⟩
    · cases h
  · cases h

def lawG : List PSh := [⟨true, shWt⟩, ⟨false, [.slice shP]⟩]
theorem lawGrows : (lawC lawG).ok Try.prog 5 := by
  refine contract Try.func5 v5_is A4_ok 600 (lawC lawG) fun args k h => ?_
  obtain ⟨ha, hk⟩ := h
  obtain ⟨_, _, rfl, h1, e1⟩ := okPL_cons_inv ha
  obtain ⟨cs, rfl, hcs⟩ := okP_agg_inv h1
  obtain ⟨v, _, rfl, h2, e2⟩ := okPL_cons_inv e1
  cases okPL_nil_inv e2
  obtain ⟨z, zm, c, per, pr, most, m, tx, ty, q, hcl, hml, hq, hce⟩ := w_of hcs
  obtain ⟨z', l, hll, hle⟩ := sls_of (fun _ => p_of) (okP_one_inv h2)
  rw [maxLen_eq] at hcl hll hml
  refine ⟨[.agg [.vs false z c.length 2 (fun k => enc2 (c.getD k default)), .int .i64 per, .int .i64 pr, .int .i64 most, .vs false zm m.length 1 (fun k => enc1 (m.getD k default)), .int .i64 tx, .int .i64 ty, .int .u16 q], .vs false z' l.length 4 (fun k => encP (l.getD k default))], ⟨leXL_le _ _ hce (by simp [bndL, bnd]), leX_le _ _ hle trivial, trivial⟩, ?_⟩
  dsimp only [v5, A4_ct7, A4_ct10, A4_ct8, trueC, ChC, EnC, vsI, enc1, enc2, encP, go_sem, Option.bind, Option.map, List.append_nil, Nat.beq, List.cons_append, List.nil_append, List.append_eq, List.map_cons, List.map_nil, ite_self, reduceIte]
  simp only [true_and, and_true, imp_self, implies_true, decide_eq_true_eq, decide_eq_false_iff_not, Nat.reduceAdd, Nat.reduceLeDiff, Bool.not_not, reduceCtorEq, false_imp_iff, Bool.not_eq_true', Bool.not_eq_false', Bool.false_eq_true, and_self, forall_const, ne_eq, not_false_eq_true, Nat.reduceEqDiff]
  have hk' : k (.bool true) [] := hk
  refine ⟨fun _ => ans_bool hk', fun hf => ?_⟩
  rw [Bool.or_eq_false_iff, decide_eq_false_iff_not, decide_eq_false_iff_not] at hf
  have hq2 : IntKind.i64.wrap q = q := w6_raw (x := q) (by omega) (by omega)
  have hcl24 : c.length < 24 := by omega
  have hll40 : l.length < 40 := by omega
  refine ⟨c, l, ⟨lsP_self, lsP_self, by omega, by omega⟩, by decide, by decide, c, l, ⟨lsP_self, lsP_self, by omega, by omega⟩, by decide, by decide, fun hne => ?_, fun h0 => ⟨c, l, ⟨lsP_self, lsP_self, by omega, by omega⟩, by decide, by decide, ?_, ?_, fun _ => ⟨fun hpos => ⟨?_, ?_⟩, fun hneg => ?_⟩⟩⟩
  · rw [gr_bad (w := ⟨per, pr, most⟩) (by omega) (by omega) hne, decide_eq_true rfl]
    exact ans_bool hk'
  · intro a b
    rw [a, decide_eq_true b]; rfl
  · intro hh
    exfalso
    rw [hq2] at hh
    rw [Bool.and_eq_true, Bool.and_eq_true, decide_eq_true_eq, decide_eq_true_eq] at hh
    obtain ⟨⟨g1, g2⟩, g3⟩ := hh
    have hr : (10 ≤ per ∧ per ≤ 1000) ∧ 0 ≤ most ∧ most ≤ 1000000000 := by
      rcases cho_ok (c := c) (l := l) (w := ⟨per, pr, most⟩) (by omega) (by omega) with j1 | ⟨⟨_, _, j3⟩, _⟩
      · rw [j1.1] at g1; cases g1
      · unfold wshB at j3
        rw [Bool.or_eq_false_iff, Bool.or_eq_false_iff, outN_f, outN_f, outN_f] at j3
        exact ⟨j3.1.1, j3.2⟩
    rw [w6_raw (x := min most 999934464 + q) (by omega) (by omega)] at g2 g3
    rw [w6_raw (x := per - q) (by omega) (by omega)] at g3
    obtain ⟨m1, m2⟩ := gr_more (c := c) (l := l) (w := ⟨per, pr, most⟩) (q := q) (by omega) (by omega) hq g1 g2
    rw [Bool.or_eq_true, Bool.not_eq_true', decide_eq_false_iff_not, decide_eq_true_eq] at g3
    rcases g3 with g3 | g3
    · exact g3 m1
    · have m2' : (choF c l ⟨max (per - q) 10, pr, min most 999934464 + q⟩).1.length ≤ (choF c l ⟨per, pr, most⟩).1.length := m2
      omega
  · exact ⟨by omega, hpos⟩
  · refine ⟨⟨by decide, ?_, ?_⟩, ?_⟩
    · refine ⟨by unfold capOk; omega, ?_⟩
      try refine ⟨by decide, ?_⟩
      refine ⟨⟨by unfold capOk; omega, ?_⟩, c, l ++ [l.getD 0 default], ⟨lsP_self, ?_, by omega, by simp; omega⟩, by decide, by decide, ?_⟩
      · intro k hk
        obtain rfl : k = 0 := by omega
        simp [takeL, dropL, lenL, ones, one, purgeL, purge, refs]
      · refine snoc_lsP (fun k hk => ?_) ?_
        · try dsimp only
          rw [if_pos (by omega), if_neg (by omega)]
          simp [purgeL, purge, refs, viewL, view, leXL, leX, enc2, encP]
        · try dsimp only
          rw [if_neg (by omega)]
          simp [purgeL, purge, refs, viewL, view, leXL, leX, enc2, encP, takeL, dropL]
      · obtain ⟨k1, k2⟩ := gr_pal (c := c) (l := l) (per := per) (p := l.getD 0 default) (by omega) hll40 (getD_mem (by omega)) h0
        refine ⟨fun hb => ?_, fun _ => ?_⟩
        · exfalso
          rw [decide_eq_true k1, decide_eq_false (by omega)] at hb
          cases hb
        · refine ⟨⟨by decide, ?_, ?_⟩, ?_⟩
          · refine ⟨by unfold capOk; omega, ?_⟩
            try refine ⟨by decide, ?_⟩
            refine ⟨⟨by unfold capOk; omega, ?_⟩, c ++ [(tx, ty)], l, ⟨?_, lsP_self, by simp; omega, by omega⟩, by decide, by decide, fun hb => ans_bool hk', fun hg => ⟨c ++ [(tx, ty)], l, ⟨?_, lsP_self, by simp; omega, by omega⟩, by decide, by decide, ?_⟩⟩
            · intro k hk
              obtain rfl : k = 0 := by omega
              simp [takeL, dropL, lenL, ones, one, purgeL, purge, refs]
            · refine snoc_lsP (fun k hk => ?_) ?_
              · try dsimp only
                rw [if_pos (by omega), if_neg (by omega)]
                simp [purgeL, purge, refs, viewL, view, leXL, leX, enc2, encP]
              · try dsimp only
                rw [if_neg (by omega)]
                simp [purgeL, purge, refs, viewL, view, leXL, leX, enc2, encP, takeL, dropL]
            · refine snoc_lsP (fun k hk => ?_) ?_
              · try dsimp only
                rw [if_pos (by omega), if_neg (by omega)]
                simp [purgeL, purge, refs, viewL, view, leXL, leX, enc2, encP]
              · try dsimp only
                rw [if_neg (by omega)]
                simp [purgeL, purge, refs, viewL, view, leXL, leX, enc2, encP, takeL, dropL]
            · rw [Bool.or_eq_false_iff, decide_eq_false_iff_not, decide_eq_false_iff_not] at hg
              obtain ⟨k1, k2, k3⟩ := gr_toe (w := ⟨per, pr, most⟩) hcl24 (by omega) h0 hg.1 hg.2
              refine ⟨fun a b => by rw [a, decide_eq_true b]; rfl, fun a b => by rw [a, decide_eq_true b]; rfl, ?_⟩
              rw [decide_eq_true k1, decide_eq_true k2]
              by_cases hd : (choF (c ++ [(tx, ty)]) l ⟨per, pr, most⟩).2 = 0
              · obtain ⟨k4, k5⟩ := k3 hd
                rw [decide_eq_true hd, decide_eq_true k4, decide_eq_true (by omega)]
                exact ans_bool hk'
              · rw [decide_eq_false hd]
                exact ans_bool hk'
          · refine ⟨by decide, ?_⟩
            refine ⟨by unfold capOk; omega, ?_⟩
            try refine ⟨by decide, ?_⟩
            refine ⟨⟨by unfold capOk; omega, ?_⟩, c ++ [(tx, ty)], l, ⟨?_, lsP_self, by simp; omega, by omega⟩, by decide, by decide, fun hb => ans_bool hk', fun hg => ⟨c ++ [(tx, ty)], l, ⟨?_, lsP_self, by simp; omega, by omega⟩, by decide, by decide, ?_⟩⟩
            · intro k hk
              obtain rfl : k = 0 := by omega
              simp [takeL, dropL, lenL, ones, one, purgeL, purge, refs]
            · refine snoc_lsP (fun k hk => ?_) ?_
              · try dsimp only
                rw [if_pos (by omega), if_neg (by omega)]
                simp [purgeL, purge, refs, viewL, view, leXL, leX, enc2, encP]
              · try dsimp only
                rw [if_neg (by omega)]
                simp [purgeL, purge, refs, viewL, view, leXL, leX, enc2, encP, takeL, dropL]
            · refine snoc_lsP (fun k hk => ?_) ?_
              · try dsimp only
                rw [if_pos (by omega), if_neg (by omega)]
                simp [purgeL, purge, refs, viewL, view, leXL, leX, enc2, encP]
              · try dsimp only
                rw [if_neg (by omega)]
                simp [purgeL, purge, refs, viewL, view, leXL, leX, enc2, encP, takeL, dropL]
            · rw [Bool.or_eq_false_iff, decide_eq_false_iff_not, decide_eq_false_iff_not] at hg
              obtain ⟨k1, k2, k3⟩ := gr_toe (w := ⟨per, pr, most⟩) hcl24 (by omega) h0 hg.1 hg.2
              refine ⟨fun a b => by rw [a, decide_eq_true b]; rfl, fun a b => by rw [a, decide_eq_true b]; rfl, ?_⟩
              rw [decide_eq_true k1, decide_eq_true k2]
              by_cases hd : (choF (c ++ [(tx, ty)]) l ⟨per, pr, most⟩).2 = 0
              · obtain ⟨k4, k5⟩ := k3 hd
                rw [decide_eq_true hd, decide_eq_true k4, decide_eq_true (by omega)]
                exact ans_bool hk'
              · rw [decide_eq_false hd]
                exact ans_bool hk'
          · refine ⟨by decide, by decide, ?_⟩
            refine ⟨by unfold capOk; omega, ?_⟩
            try refine ⟨by decide, ?_⟩
            refine ⟨⟨by unfold capOk; omega, ?_⟩, c ++ [(tx, ty)], l, ⟨?_, lsP_self, by simp; omega, by omega⟩, by decide, by decide, fun hb => ans_bool hk', fun hg => ⟨c ++ [(tx, ty)], l, ⟨?_, lsP_self, by simp; omega, by omega⟩, by decide, by decide, ?_⟩⟩
            · intro k hk
              obtain rfl : k = 0 := by omega
              simp [takeL, dropL, lenL, ones, one, purgeL, purge, refs]
            · refine snoc_lsP (fun k hk => ?_) ?_
              · try dsimp only
                rw [if_pos (by omega), if_neg (by omega)]
                simp [purgeL, purge, refs, viewL, view, leXL, leX, enc2, encP]
              · try dsimp only
                rw [if_neg (by omega)]
                simp [purgeL, purge, refs, viewL, view, leXL, leX, enc2, encP, takeL, dropL]
            · refine snoc_lsP (fun k hk => ?_) ?_
              · try dsimp only
                rw [if_pos (by omega), if_neg (by omega)]
                simp [purgeL, purge, refs, viewL, view, leXL, leX, enc2, encP]
              · try dsimp only
                rw [if_neg (by omega)]
                simp [purgeL, purge, refs, viewL, view, leXL, leX, enc2, encP, takeL, dropL]
            · rw [Bool.or_eq_false_iff, decide_eq_false_iff_not, decide_eq_false_iff_not] at hg
              obtain ⟨k1, k2, k3⟩ := gr_toe (w := ⟨per, pr, most⟩) hcl24 (by omega) h0 hg.1 hg.2
              refine ⟨fun a b => by rw [a, decide_eq_true b]; rfl, fun a b => by rw [a, decide_eq_true b]; rfl, ?_⟩
              rw [decide_eq_true k1, decide_eq_true k2]
              by_cases hd : (choF (c ++ [(tx, ty)]) l ⟨per, pr, most⟩).2 = 0
              · obtain ⟨k4, k5⟩ := k3 hd
                rw [decide_eq_true hd, decide_eq_true k4, decide_eq_true (by omega)]
                exact ans_bool hk'
              · rw [decide_eq_false hd]
                exact ans_bool hk'
    · refine ⟨by decide, ?_⟩
      refine ⟨by unfold capOk; omega, ?_⟩
      try refine ⟨by decide, ?_⟩
      refine ⟨⟨by unfold capOk; omega, ?_⟩, c, l ++ [l.getD 0 default], ⟨lsP_self, ?_, by omega, by simp; omega⟩, by decide, by decide, ?_⟩
      · intro k hk
        obtain rfl : k = 0 := by omega
        simp [takeL, dropL, lenL, ones, one, purgeL, purge, refs]
      · refine snoc_lsP (fun k hk => ?_) ?_
        · try dsimp only
          rw [if_pos (by omega), if_neg (by omega)]
          simp [purgeL, purge, refs, viewL, view, leXL, leX, enc2, encP]
        · try dsimp only
          rw [if_neg (by omega)]
          simp [purgeL, purge, refs, viewL, view, leXL, leX, enc2, encP, takeL, dropL]
      · obtain ⟨k1, k2⟩ := gr_pal (c := c) (l := l) (per := per) (p := l.getD 0 default) (by omega) hll40 (getD_mem (by omega)) h0
        refine ⟨fun hb => ?_, fun _ => ?_⟩
        · exfalso
          rw [decide_eq_true k1, decide_eq_false (by omega)] at hb
          cases hb
        · refine ⟨⟨by decide, ?_, ?_⟩, ?_⟩
          · refine ⟨by unfold capOk; omega, ?_⟩
            try refine ⟨by decide, ?_⟩
            refine ⟨⟨by unfold capOk; omega, ?_⟩, c ++ [(tx, ty)], l, ⟨?_, lsP_self, by simp; omega, by omega⟩, by decide, by decide, fun hb => ans_bool hk', fun hg => ⟨c ++ [(tx, ty)], l, ⟨?_, lsP_self, by simp; omega, by omega⟩, by decide, by decide, ?_⟩⟩
            · intro k hk
              obtain rfl : k = 0 := by omega
              simp [takeL, dropL, lenL, ones, one, purgeL, purge, refs]
            · refine snoc_lsP (fun k hk => ?_) ?_
              · try dsimp only
                rw [if_pos (by omega), if_neg (by omega)]
                simp [purgeL, purge, refs, viewL, view, leXL, leX, enc2, encP]
              · try dsimp only
                rw [if_neg (by omega)]
                simp [purgeL, purge, refs, viewL, view, leXL, leX, enc2, encP, takeL, dropL]
            · refine snoc_lsP (fun k hk => ?_) ?_
              · try dsimp only
                rw [if_pos (by omega), if_neg (by omega)]
                simp [purgeL, purge, refs, viewL, view, leXL, leX, enc2, encP]
              · try dsimp only
                rw [if_neg (by omega)]
                simp [purgeL, purge, refs, viewL, view, leXL, leX, enc2, encP, takeL, dropL]
            · rw [Bool.or_eq_false_iff, decide_eq_false_iff_not, decide_eq_false_iff_not] at hg
              obtain ⟨k1, k2, k3⟩ := gr_toe (w := ⟨per, pr, most⟩) hcl24 (by omega) h0 hg.1 hg.2
              refine ⟨fun a b => by rw [a, decide_eq_true b]; rfl, fun a b => by rw [a, decide_eq_true b]; rfl, ?_⟩
              rw [decide_eq_true k1, decide_eq_true k2]
              by_cases hd : (choF (c ++ [(tx, ty)]) l ⟨per, pr, most⟩).2 = 0
              · obtain ⟨k4, k5⟩ := k3 hd
                rw [decide_eq_true hd, decide_eq_true k4, decide_eq_true (by omega)]
                exact ans_bool hk'
              · rw [decide_eq_false hd]
                exact ans_bool hk'
          · refine ⟨by decide, ?_⟩
            refine ⟨by unfold capOk; omega, ?_⟩
            try refine ⟨by decide, ?_⟩
            refine ⟨⟨by unfold capOk; omega, ?_⟩, c ++ [(tx, ty)], l, ⟨?_, lsP_self, by simp; omega, by omega⟩, by decide, by decide, fun hb => ans_bool hk', fun hg => ⟨c ++ [(tx, ty)], l, ⟨?_, lsP_self, by simp; omega, by omega⟩, by decide, by decide, ?_⟩⟩
            · intro k hk
              obtain rfl : k = 0 := by omega
              simp [takeL, dropL, lenL, ones, one, purgeL, purge, refs]
            · refine snoc_lsP (fun k hk => ?_) ?_
              · try dsimp only
                rw [if_pos (by omega), if_neg (by omega)]
                simp [purgeL, purge, refs, viewL, view, leXL, leX, enc2, encP]
              · try dsimp only
                rw [if_neg (by omega)]
                simp [purgeL, purge, refs, viewL, view, leXL, leX, enc2, encP, takeL, dropL]
            · refine snoc_lsP (fun k hk => ?_) ?_
              · try dsimp only
                rw [if_pos (by omega), if_neg (by omega)]
                simp [purgeL, purge, refs, viewL, view, leXL, leX, enc2, encP]
              · try dsimp only
                rw [if_neg (by omega)]
                simp [purgeL, purge, refs, viewL, view, leXL, leX, enc2, encP, takeL, dropL]
            · rw [Bool.or_eq_false_iff, decide_eq_false_iff_not, decide_eq_false_iff_not] at hg
              obtain ⟨k1, k2, k3⟩ := gr_toe (w := ⟨per, pr, most⟩) hcl24 (by omega) h0 hg.1 hg.2
              refine ⟨fun a b => by rw [a, decide_eq_true b]; rfl, fun a b => by rw [a, decide_eq_true b]; rfl, ?_⟩
              rw [decide_eq_true k1, decide_eq_true k2]
              by_cases hd : (choF (c ++ [(tx, ty)]) l ⟨per, pr, most⟩).2 = 0
              · obtain ⟨k4, k5⟩ := k3 hd
                rw [decide_eq_true hd, decide_eq_true k4, decide_eq_true (by omega)]
                exact ans_bool hk'
              · rw [decide_eq_false hd]
                exact ans_bool hk'
          · refine ⟨by decide, by decide, ?_⟩
            refine ⟨by unfold capOk; omega, ?_⟩
            try refine ⟨by decide, ?_⟩
            refine ⟨⟨by unfold capOk; omega, ?_⟩, c ++ [(tx, ty)], l, ⟨?_, lsP_self, by simp; omega, by omega⟩, by decide, by decide, fun hb => ans_bool hk', fun hg => ⟨c ++ [(tx, ty)], l, ⟨?_, lsP_self, by simp; omega, by omega⟩, by decide, by decide, ?_⟩⟩
            · intro k hk
              obtain rfl : k = 0 := by omega
              simp [takeL, dropL, lenL, ones, one, purgeL, purge, refs]
            · refine snoc_lsP (fun k hk => ?_) ?_
              · try dsimp only
                rw [if_pos (by omega), if_neg (by omega)]
                simp [purgeL, purge, refs, viewL, view, leXL, leX, enc2, encP]
              · try dsimp only
                rw [if_neg (by omega)]
                simp [purgeL, purge, refs, viewL, view, leXL, leX, enc2, encP, takeL, dropL]
            · refine snoc_lsP (fun k hk => ?_) ?_
              · try dsimp only
                rw [if_pos (by omega), if_neg (by omega)]
                simp [purgeL, purge, refs, viewL, view, leXL, leX, enc2, encP]
              · try dsimp only
                rw [if_neg (by omega)]
                simp [purgeL, purge, refs, viewL, view, leXL, leX, enc2, encP, takeL, dropL]
            · rw [Bool.or_eq_false_iff, decide_eq_false_iff_not, decide_eq_false_iff_not] at hg
              obtain ⟨k1, k2, k3⟩ := gr_toe (w := ⟨per, pr, most⟩) hcl24 (by omega) h0 hg.1 hg.2
              refine ⟨fun a b => by rw [a, decide_eq_true b]; rfl, fun a b => by rw [a, decide_eq_true b]; rfl, ?_⟩
              rw [decide_eq_true k1, decide_eq_true k2]
              by_cases hd : (choF (c ++ [(tx, ty)]) l ⟨per, pr, most⟩).2 = 0
              · obtain ⟨k4, k5⟩ := k3 hd
                rw [decide_eq_true hd, decide_eq_true k4, decide_eq_true (by omega)]
                exact ans_bool hk'
              · rw [decide_eq_false hd]
                exact ans_bool hk'
    · refine ⟨by decide, by decide, ?_⟩
      refine ⟨by unfold capOk; omega, ?_⟩
      try refine ⟨by decide, ?_⟩
      refine ⟨⟨by unfold capOk; omega, ?_⟩, c, l ++ [l.getD 0 default], ⟨lsP_self, ?_, by omega, by simp; omega⟩, by decide, by decide, ?_⟩
      · intro k hk
        obtain rfl : k = 0 := by omega
        simp [takeL, dropL, lenL, ones, one, purgeL, purge, refs]
      · refine snoc_lsP (fun k hk => ?_) ?_
        · try dsimp only
          rw [if_pos (by omega), if_neg (by omega)]
          simp [purgeL, purge, refs, viewL, view, leXL, leX, enc2, encP]
        · try dsimp only
          rw [if_neg (by omega)]
          simp [purgeL, purge, refs, viewL, view, leXL, leX, enc2, encP, takeL, dropL]
      · obtain ⟨k1, k2⟩ := gr_pal (c := c) (l := l) (per := per) (p := l.getD 0 default) (by omega) hll40 (getD_mem (by omega)) h0
        refine ⟨fun hb => ?_, fun _ => ?_⟩
        · exfalso
          rw [decide_eq_true k1, decide_eq_false (by omega)] at hb
          cases hb
        · refine ⟨⟨by decide, ?_, ?_⟩, ?_⟩
          · refine ⟨by unfold capOk; omega, ?_⟩
            try refine ⟨by decide, ?_⟩
            refine ⟨⟨by unfold capOk; omega, ?_⟩, c ++ [(tx, ty)], l, ⟨?_, lsP_self, by simp; omega, by omega⟩, by decide, by decide, fun hb => ans_bool hk', fun hg => ⟨c ++ [(tx, ty)], l, ⟨?_, lsP_self, by simp; omega, by omega⟩, by decide, by decide, ?_⟩⟩
            · intro k hk
              obtain rfl : k = 0 := by omega
              simp [takeL, dropL, lenL, ones, one, purgeL, purge, refs]
            · refine snoc_lsP (fun k hk => ?_) ?_
              · try dsimp only
                rw [if_pos (by omega), if_neg (by omega)]
                simp [purgeL, purge, refs, viewL, view, leXL, leX, enc2, encP]
              · try dsimp only
                rw [if_neg (by omega)]
                simp [purgeL, purge, refs, viewL, view, leXL, leX, enc2, encP, takeL, dropL]
            · refine snoc_lsP (fun k hk => ?_) ?_
              · try dsimp only
                rw [if_pos (by omega), if_neg (by omega)]
                simp [purgeL, purge, refs, viewL, view, leXL, leX, enc2, encP]
              · try dsimp only
                rw [if_neg (by omega)]
                simp [purgeL, purge, refs, viewL, view, leXL, leX, enc2, encP, takeL, dropL]
            · rw [Bool.or_eq_false_iff, decide_eq_false_iff_not, decide_eq_false_iff_not] at hg
              obtain ⟨k1, k2, k3⟩ := gr_toe (w := ⟨per, pr, most⟩) hcl24 (by omega) h0 hg.1 hg.2
              refine ⟨fun a b => by rw [a, decide_eq_true b]; rfl, fun a b => by rw [a, decide_eq_true b]; rfl, ?_⟩
              rw [decide_eq_true k1, decide_eq_true k2]
              by_cases hd : (choF (c ++ [(tx, ty)]) l ⟨per, pr, most⟩).2 = 0
              · obtain ⟨k4, k5⟩ := k3 hd
                rw [decide_eq_true hd, decide_eq_true k4, decide_eq_true (by omega)]
                exact ans_bool hk'
              · rw [decide_eq_false hd]
                exact ans_bool hk'
          · refine ⟨by decide, ?_⟩
            refine ⟨by unfold capOk; omega, ?_⟩
            try refine ⟨by decide, ?_⟩
            refine ⟨⟨by unfold capOk; omega, ?_⟩, c ++ [(tx, ty)], l, ⟨?_, lsP_self, by simp; omega, by omega⟩, by decide, by decide, fun hb => ans_bool hk', fun hg => ⟨c ++ [(tx, ty)], l, ⟨?_, lsP_self, by simp; omega, by omega⟩, by decide, by decide, ?_⟩⟩
            · intro k hk
              obtain rfl : k = 0 := by omega
              simp [takeL, dropL, lenL, ones, one, purgeL, purge, refs]
            · refine snoc_lsP (fun k hk => ?_) ?_
              · try dsimp only
                rw [if_pos (by omega), if_neg (by omega)]
                simp [purgeL, purge, refs, viewL, view, leXL, leX, enc2, encP]
              · try dsimp only
                rw [if_neg (by omega)]
                simp [purgeL, purge, refs, viewL, view, leXL, leX, enc2, encP, takeL, dropL]
            · refine snoc_lsP (fun k hk => ?_) ?_
              · try dsimp only
                rw [if_pos (by omega), if_neg (by omega)]
                simp [purgeL, purge, refs, viewL, view, leXL, leX, enc2, encP]
              · try dsimp only
                rw [if_neg (by omega)]
                simp [purgeL, purge, refs, viewL, view, leXL, leX, enc2, encP, takeL, dropL]
            · rw [Bool.or_eq_false_iff, decide_eq_false_iff_not, decide_eq_false_iff_not] at hg
              obtain ⟨k1, k2, k3⟩ := gr_toe (w := ⟨per, pr, most⟩) hcl24 (by omega) h0 hg.1 hg.2
              refine ⟨fun a b => by rw [a, decide_eq_true b]; rfl, fun a b => by rw [a, decide_eq_true b]; rfl, ?_⟩
              rw [decide_eq_true k1, decide_eq_true k2]
              by_cases hd : (choF (c ++ [(tx, ty)]) l ⟨per, pr, most⟩).2 = 0
              · obtain ⟨k4, k5⟩ := k3 hd
                rw [decide_eq_true hd, decide_eq_true k4, decide_eq_true (by omega)]
                exact ans_bool hk'
              · rw [decide_eq_false hd]
                exact ans_bool hk'
          · refine ⟨by decide, by decide, ?_⟩
            refine ⟨by unfold capOk; omega, ?_⟩
            try refine ⟨by decide, ?_⟩
            refine ⟨⟨by unfold capOk; omega, ?_⟩, c ++ [(tx, ty)], l, ⟨?_, lsP_self, by simp; omega, by omega⟩, by decide, by decide, fun hb => ans_bool hk', fun hg => ⟨c ++ [(tx, ty)], l, ⟨?_, lsP_self, by simp; omega, by omega⟩, by decide, by decide, ?_⟩⟩
            · intro k hk
              obtain rfl : k = 0 := by omega
              simp [takeL, dropL, lenL, ones, one, purgeL, purge, refs]
            · refine snoc_lsP (fun k hk => ?_) ?_
              · try dsimp only
                rw [if_pos (by omega), if_neg (by omega)]
                simp [purgeL, purge, refs, viewL, view, leXL, leX, enc2, encP]
              · try dsimp only
                rw [if_neg (by omega)]
                simp [purgeL, purge, refs, viewL, view, leXL, leX, enc2, encP, takeL, dropL]
            · refine snoc_lsP (fun k hk => ?_) ?_
              · try dsimp only
                rw [if_pos (by omega), if_neg (by omega)]
                simp [purgeL, purge, refs, viewL, view, leXL, leX, enc2, encP]
              · try dsimp only
                rw [if_neg (by omega)]
                simp [purgeL, purge, refs, viewL, view, leXL, leX, enc2, encP, takeL, dropL]
            · rw [Bool.or_eq_false_iff, decide_eq_false_iff_not, decide_eq_false_iff_not] at hg
              obtain ⟨k1, k2, k3⟩ := gr_toe (w := ⟨per, pr, most⟩) hcl24 (by omega) h0 hg.1 hg.2
              refine ⟨fun a b => by rw [a, decide_eq_true b]; rfl, fun a b => by rw [a, decide_eq_true b]; rfl, ?_⟩
              rw [decide_eq_true k1, decide_eq_true k2]
              by_cases hd : (choF (c ++ [(tx, ty)]) l ⟨per, pr, most⟩).2 = 0
              · obtain ⟨k4, k5⟩ := k3 hd
                rw [decide_eq_true hd, decide_eq_true k4, decide_eq_true (by omega)]
                exact ans_bool hk'
              · rw [decide_eq_false hd]
                exact ans_bool hk'
  · refine ⟨⟨by decide, ?_, ?_⟩, ?_⟩
    · refine ⟨by unfold capOk; omega, ?_⟩
      try refine ⟨by decide, ?_⟩
      refine ⟨⟨by unfold capOk; omega, ?_⟩, c ++ [(tx, ty)], l, ⟨?_, lsP_self, by simp; omega, by omega⟩, by decide, by decide, fun hb => ans_bool hk', fun hg => ⟨c ++ [(tx, ty)], l, ⟨?_, lsP_self, by simp; omega, by omega⟩, by decide, by decide, ?_⟩⟩
      · intro k hk
        obtain rfl : k = 0 := by omega
        simp [takeL, dropL, lenL, ones, one, purgeL, purge, refs]
      · refine snoc_lsP (fun k hk => ?_) ?_
        · try dsimp only
          rw [if_pos (by omega), if_neg (by omega)]
          simp [purgeL, purge, refs, viewL, view, leXL, leX, enc2, encP]
        · try dsimp only
          rw [if_neg (by omega)]
          simp [purgeL, purge, refs, viewL, view, leXL, leX, enc2, encP, takeL, dropL]
      · refine snoc_lsP (fun k hk => ?_) ?_
        · try dsimp only
          rw [if_pos (by omega), if_neg (by omega)]
          simp [purgeL, purge, refs, viewL, view, leXL, leX, enc2, encP]
        · try dsimp only
          rw [if_neg (by omega)]
          simp [purgeL, purge, refs, viewL, view, leXL, leX, enc2, encP, takeL, dropL]
      · rw [Bool.or_eq_false_iff, decide_eq_false_iff_not, decide_eq_false_iff_not] at hg
        obtain ⟨k1, k2, k3⟩ := gr_toe (w := ⟨per, pr, most⟩) hcl24 (by omega) h0 hg.1 hg.2
        refine ⟨fun a b => by rw [a, decide_eq_true b]; rfl, fun a b => by rw [a, decide_eq_true b]; rfl, ?_⟩
        rw [decide_eq_true k1, decide_eq_true k2]
        by_cases hd : (choF (c ++ [(tx, ty)]) l ⟨per, pr, most⟩).2 = 0
        · obtain ⟨k4, k5⟩ := k3 hd
          rw [decide_eq_true hd, decide_eq_true k4, decide_eq_true (by omega)]
          exact ans_bool hk'
        · rw [decide_eq_false hd]
          exact ans_bool hk'
    · refine ⟨by decide, ?_⟩
      refine ⟨by unfold capOk; omega, ?_⟩
      try refine ⟨by decide, ?_⟩
      refine ⟨⟨by unfold capOk; omega, ?_⟩, c ++ [(tx, ty)], l, ⟨?_, lsP_self, by simp; omega, by omega⟩, by decide, by decide, fun hb => ans_bool hk', fun hg => ⟨c ++ [(tx, ty)], l, ⟨?_, lsP_self, by simp; omega, by omega⟩, by decide, by decide, ?_⟩⟩
      · intro k hk
        obtain rfl : k = 0 := by omega
        simp [takeL, dropL, lenL, ones, one, purgeL, purge, refs]
      · refine snoc_lsP (fun k hk => ?_) ?_
        · try dsimp only
          rw [if_pos (by omega), if_neg (by omega)]
          simp [purgeL, purge, refs, viewL, view, leXL, leX, enc2, encP]
        · try dsimp only
          rw [if_neg (by omega)]
          simp [purgeL, purge, refs, viewL, view, leXL, leX, enc2, encP, takeL, dropL]
      · refine snoc_lsP (fun k hk => ?_) ?_
        · try dsimp only
          rw [if_pos (by omega), if_neg (by omega)]
          simp [purgeL, purge, refs, viewL, view, leXL, leX, enc2, encP]
        · try dsimp only
          rw [if_neg (by omega)]
          simp [purgeL, purge, refs, viewL, view, leXL, leX, enc2, encP, takeL, dropL]
      · rw [Bool.or_eq_false_iff, decide_eq_false_iff_not, decide_eq_false_iff_not] at hg
        obtain ⟨k1, k2, k3⟩ := gr_toe (w := ⟨per, pr, most⟩) hcl24 (by omega) h0 hg.1 hg.2
        refine ⟨fun a b => by rw [a, decide_eq_true b]; rfl, fun a b => by rw [a, decide_eq_true b]; rfl, ?_⟩
        rw [decide_eq_true k1, decide_eq_true k2]
        by_cases hd : (choF (c ++ [(tx, ty)]) l ⟨per, pr, most⟩).2 = 0
        · obtain ⟨k4, k5⟩ := k3 hd
          rw [decide_eq_true hd, decide_eq_true k4, decide_eq_true (by omega)]
          exact ans_bool hk'
        · rw [decide_eq_false hd]
          exact ans_bool hk'
    · refine ⟨by decide, by decide, ?_⟩
      refine ⟨by unfold capOk; omega, ?_⟩
      try refine ⟨by decide, ?_⟩
      refine ⟨⟨by unfold capOk; omega, ?_⟩, c ++ [(tx, ty)], l, ⟨?_, lsP_self, by simp; omega, by omega⟩, by decide, by decide, fun hb => ans_bool hk', fun hg => ⟨c ++ [(tx, ty)], l, ⟨?_, lsP_self, by simp; omega, by omega⟩, by decide, by decide, ?_⟩⟩
      · intro k hk
        obtain rfl : k = 0 := by omega
        simp [takeL, dropL, lenL, ones, one, purgeL, purge, refs]
      · refine snoc_lsP (fun k hk => ?_) ?_
        · try dsimp only
          rw [if_pos (by omega), if_neg (by omega)]
          simp [purgeL, purge, refs, viewL, view, leXL, leX, enc2, encP]
        · try dsimp only
          rw [if_neg (by omega)]
          simp [purgeL, purge, refs, viewL, view, leXL, leX, enc2, encP, takeL, dropL]
      · refine snoc_lsP (fun k hk => ?_) ?_
        · try dsimp only
          rw [if_pos (by omega), if_neg (by omega)]
          simp [purgeL, purge, refs, viewL, view, leXL, leX, enc2, encP]
        · try dsimp only
          rw [if_neg (by omega)]
          simp [purgeL, purge, refs, viewL, view, leXL, leX, enc2, encP, takeL, dropL]
      · rw [Bool.or_eq_false_iff, decide_eq_false_iff_not, decide_eq_false_iff_not] at hg
        obtain ⟨k1, k2, k3⟩ := gr_toe (w := ⟨per, pr, most⟩) hcl24 (by omega) h0 hg.1 hg.2
        refine ⟨fun a b => by rw [a, decide_eq_true b]; rfl, fun a b => by rw [a, decide_eq_true b]; rfl, ?_⟩
        rw [decide_eq_true k1, decide_eq_true k2]
        by_cases hd : (choF (c ++ [(tx, ty)]) l ⟨per, pr, most⟩).2 = 0
        · obtain ⟨k4, k5⟩ := k3 hd
          rw [decide_eq_true hd, decide_eq_true k4, decide_eq_true (by omega)]
          exact ans_bool hk'
        · rw [decide_eq_false hd]
          exact ans_bool hk'
end Go.Proofs.Ytngccjllkgpjmaa

/- Laws of chests, as they are given, without a condition. -/
/- Laws of chests, as they are given, without a condition. -/
set_option linter.all false
namespace Go.Proofs.Ytngccjllkgpjmaa
open Go Go.Vx Go.RowKit
set_option maxRecDepth 100000

theorem ownX2 : ownKnob Try.prog.godebug = none := by kernel_rfl
theorem laidX2 : laidOutB Try.prog = true := by kernel_rfl

theorem chestsGrows_lifted (os : Os) (started : os.Started) (H : Type) (enc : TypeId × Value → H) :
    ReturnsInHanded {} Try.checked os 5 .any (Rows.chestsGrowsSpec.pre6 enc Try.prog Try.f5 Rows.chestsGrowsRow.domain false) (Rows.chestsGrowsSpec.post enc Try.prog Try.f5 false true false false) :=
  law_lifted (C := Try.checked) (tb := 4) ownX2 started (by kernel_rfl) Try.func5 laidX2
    (ChangeSpec.witness6 (enc := enc) (C := Try.checked) false ⟨#[], #[.agg #[.slice none 0 0, .int .i64 0, .int .i64 0, .int .i64 0, .slice none 0 0, .int .i64 0, .int .i64 0, .int .u16 0], .slice none 0 0], []⟩ 8 (by kernel_rfl) (by kernel_rfl) (by kernel_rfl) (by kernel_rfl))
    (by kernel_rfl) (by kernel_rfl) (by kernel_rfl) (by kernel_rfl) rfl (fun ds h => match ds, h with | [_, _], _ => ⟨rfl, rfl, rfl⟩) lawGrows

theorem chestsGrows_holds : Rows.ChestsGrowsSaid :=
  OpenClaim.holds_of_wide 5 Try.f5 rfl rfl rfl rfl rfl rfl rfl ⟨rfl, rfl, rfl, rfl, rfl⟩ rfl rfl rfl rfl rfl (by kernel_rfl) Try.func5 (by kernel_rfl)
    (of_decide_eq_true (by kernel_rfl)) (by unfold Func.isWrapper; first | (rw [if_pos (by decide +kernel)]; kernel_rfl) | (rw [if_neg (by decide +kernel)]; exact ⟨rfl, rfl⟩))
    (fun os started H enc _ => chestsGrows_lifted os started H enc)
end Go.Proofs.Ytngccjllkgpjmaa

