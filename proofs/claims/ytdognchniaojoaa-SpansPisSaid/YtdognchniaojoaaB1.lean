/- Words of 64 bits, walked: Len64, LeadingZeros64, Mul64, Div64. -/
import Derived.Test.YtdognchniaojoaaR6
import Derived.Test.YtdognchniaojoaaN4
import Derived.Test.YtdognchniaojoaaBL
set_option linter.all false
namespace Go.Proofs.Ytdognchniaojoaa
open Go Go.Vx
set_option maxRecDepth 100000
set_option maxHeartbeats 4000000

theorem bitLenAux_eq : ∀ (f x : Nat), x < 2 ^ f → Lib.bitLenAux f x = bitsN x
  | 0, x, h => by
    have : x = 0 := by simpa using h
    subst this; rfl
  | f + 1, x, h => by
    rw [Lib.bitLenAux]
    split
    · rename_i h0; subst h0; rfl
    · rename_i h0
      rw [Nat.pow_succ] at h
      rw [bitLenAux_eq f (x / 2) (by omega), bitsN_half (a := x) (by omega)]; omega
theorem bitLen_eq {x : Nat} (h : x < 18446744073709551616) : Lib.bitLen x = bitsN x := bitLenAux_eq 64 x h

def len64C : Ctr := { alias := false, of := fun l => match l with
  | [.int .u64 x] => .pre (0 ≤ x ∧ x ≤ 18446744073709551615) (.fin (.int .i64 (bitsN x.toNat)) [])
  | _ => noC }
theorem len64_ok : len64C.ok Try.prog 96 := by
  intro args vs w k hx hc
  simp only [len64C] at hc
  split at hc
  · rename_i x
    obtain ⟨⟨h0, h1⟩, hc⟩ := hc
    cases hx with | cons _ v _ l g1 hx =>
    cases hx
    cases g1
    refine (len64_calls x w h0 h1).mono ?_
    rintro e w' ⟨rfl, rfl⟩
    rw [bitLen_eq (by omega)]
    exact ⟨_, [], _, [], hc, rfl, .x _ _ (.int _ _), hp_nil, Go.RowKit.Below.refl _ _, fun _ => ⟨trivial, trivial⟩⟩
  · exact hc.1.elim

def v91 : VF := { ntmps := 6, res := [.tmp 2], body :=
 (.seq (.region [⟨(some 2), none, .mov, [.cn (.int .i64 0)]⟩])
 (.seq (.region [⟨(some 3), none, .mov, [.tm 0]⟩,
  ⟨(some 4), none, (.call 96), [.tm 3]⟩,
  ⟨(some 5), none, (.ari .sub), [.cn (.int .i64 64), .tm 4]⟩,
  ⟨(some 2), none, .mov, [.tm 5]⟩])
 .ret)) }
theorem v91_is : vfunc Try.prog Try.f91 = some v91 := by kernel_rfl
def v67 : VF := { ntmps := 51, res := [.tmp 4, .tmp 5], body :=
 (.seq (.region [⟨(some 4), none, .mov, [.cn (.int .u64 0)]⟩,
  ⟨(some 5), none, .mov, [.cn (.int .u64 0)]⟩])
 (.seq (.region [⟨(some 14), none, .mov, [.tm 0]⟩,
  ⟨(some 15), none, (.bit .and), [.tm 14, .cn (.int .u64 4294967295)]⟩,
  ⟨(some 6), none, .mov, [.tm 15]⟩])
 (.seq (.region [⟨(some 16), none, .mov, [.tm 0]⟩,
  ⟨(some 17), none, .shr, [.tm 16, .cn (.int .u64 32)]⟩,
  ⟨(some 7), none, .mov, [.tm 17]⟩])
 (.seq (.region [⟨(some 18), none, .mov, [.tm 1]⟩,
  ⟨(some 19), none, (.bit .and), [.tm 18, .cn (.int .u64 4294967295)]⟩,
  ⟨(some 8), none, .mov, [.tm 19]⟩])
 (.seq (.region [⟨(some 20), none, .mov, [.tm 1]⟩,
  ⟨(some 21), none, .shr, [.tm 20, .cn (.int .u64 32)]⟩,
  ⟨(some 9), none, .mov, [.tm 21]⟩])
 (.seq (.region [⟨(some 22), none, .mov, [.tm 6]⟩,
  ⟨(some 23), none, .mov, [.tm 8]⟩,
  ⟨(some 24), none, (.ari .mul), [.tm 22, .tm 23]⟩,
  ⟨(some 10), none, .mov, [.tm 24]⟩])
 (.seq (.region [⟨(some 25), none, .mov, [.tm 7]⟩,
  ⟨(some 26), none, .mov, [.tm 8]⟩,
  ⟨(some 27), none, (.ari .mul), [.tm 25, .tm 26]⟩,
  ⟨(some 28), none, .mov, [.tm 10]⟩,
  ⟨(some 29), none, .shr, [.tm 28, .cn (.int .u64 32)]⟩,
  ⟨(some 30), none, (.ari .add), [.tm 27, .tm 29]⟩,
  ⟨(some 11), none, .mov, [.tm 30]⟩])
 (.seq (.region [⟨(some 31), none, .mov, [.tm 11]⟩,
  ⟨(some 32), none, (.bit .and), [.tm 31, .cn (.int .u64 4294967295)]⟩,
  ⟨(some 12), none, .mov, [.tm 32]⟩])
 (.seq (.region [⟨(some 33), none, .mov, [.tm 11]⟩,
  ⟨(some 34), none, .shr, [.tm 33, .cn (.int .u64 32)]⟩,
  ⟨(some 13), none, .mov, [.tm 34]⟩])
 (.seq (.region [⟨(some 35), none, .mov, [.tm 12]⟩,
  ⟨(some 36), none, .mov, [.tm 6]⟩,
  ⟨(some 37), none, .mov, [.tm 9]⟩,
  ⟨(some 38), none, (.ari .mul), [.tm 36, .tm 37]⟩,
  ⟨(some 39), none, (.ari .add), [.tm 35, .tm 38]⟩,
  ⟨(some 12), none, .mov, [.tm 39]⟩])
 (.seq (.region [⟨(some 40), none, .mov, [.tm 7]⟩,
  ⟨(some 41), none, .mov, [.tm 9]⟩,
  ⟨(some 42), none, (.ari .mul), [.tm 40, .tm 41]⟩,
  ⟨(some 43), none, .mov, [.tm 13]⟩,
  ⟨(some 44), none, (.ari .add), [.tm 42, .tm 43]⟩,
  ⟨(some 45), none, .mov, [.tm 12]⟩,
  ⟨(some 46), none, .shr, [.tm 45, .cn (.int .u64 32)]⟩,
  ⟨(some 47), none, (.ari .add), [.tm 44, .tm 46]⟩,
  ⟨(some 4), none, .mov, [.tm 47]⟩])
 (.seq (.region [⟨(some 48), none, .mov, [.tm 0]⟩,
  ⟨(some 49), none, .mov, [.tm 1]⟩,
  ⟨(some 50), none, (.ari .mul), [.tm 48, .tm 49]⟩,
  ⟨(some 5), none, .mov, [.tm 50]⟩])
 .ret)))))))))))) }
theorem v67_is : vfunc Try.prog Try.f67 = some v67 := by kernel_rfl
def v83 : VF := { ntmps := 135, res := [.tmp 6, .tmp 7], body :=
 (.seq (.region [⟨(some 6), none, .mov, [.cn (.int .u64 0)]⟩,
  ⟨(some 7), none, .mov, [.cn (.int .u64 0)]⟩])
 (.seq (.seq (.region [⟨(some 19), none, .mov, [.tm 2]⟩,
  ⟨(some 20), none, (.cmp .eql), [.tm 19, .cn (.int .u64 0)]⟩])
 (.cond (.tm 20) .stuck
  .skip))
 (.seq (.seq (.region [⟨(some 22), none, .mov, [.tm 2]⟩,
  ⟨(some 23), none, .mov, [.tm 0]⟩,
  ⟨(some 24), none, (.cmp .leq), [.tm 22, .tm 23]⟩])
 (.cond (.tm 24) .stuck
  .skip))
 (.seq (.seq (.region [⟨(some 26), none, .mov, [.tm 0]⟩,
  ⟨(some 27), none, (.cmp .eql), [.tm 26, .cn (.int .u64 0)]⟩])
 (.cond (.tm 27) (.seq (.draw [] [⟨⟨(some 28), none, .mov, [.tm 1]⟩, []⟩,
  ⟨⟨(some 29), none, .mov, [.tm 2]⟩, []⟩,
  ⟨⟨(some 30), none, .quo, [.tm 28, .tm 29]⟩, []⟩,
  ⟨⟨(some 31), none, .mov, [.tm 1]⟩, []⟩,
  ⟨⟨(some 32), none, .mov, [.tm 2]⟩, []⟩,
  ⟨⟨(some 33), none, .rem, [.tm 31, .tm 32]⟩, []⟩,
  ⟨⟨(some 6), none, .mov, [.tm 30]⟩, []⟩,
  ⟨⟨(some 7), none, .mov, [.tm 33]⟩, []⟩])
 .ret)
  .skip))
 (.seq (.region [⟨(some 34), none, .mov, [.tm 2]⟩,
  ⟨(some 35), none, (.call 91), [.tm 34]⟩,
  ⟨(some 36), none, (.conv .u64), [.tm 35]⟩,
  ⟨(some 8), none, .mov, [.tm 36]⟩])
 (.seq (.region [⟨(some 37), none, .mov, [.tm 2]⟩,
  ⟨(some 38), none, .mov, [.tm 8]⟩,
  ⟨(some 39), none, .shl, [.tm 37, .tm 38]⟩,
  ⟨(some 2), none, .mov, [.tm 39]⟩])
 (.seq (.region [⟨(some 40), none, .mov, [.tm 2]⟩,
  ⟨(some 41), none, .shr, [.tm 40, .cn (.int .u64 32)]⟩,
  ⟨(some 9), none, .mov, [.tm 41]⟩])
 (.seq (.region [⟨(some 42), none, .mov, [.tm 2]⟩,
  ⟨(some 43), none, (.bit .and), [.tm 42, .cn (.int .u64 4294967295)]⟩,
  ⟨(some 10), none, .mov, [.tm 43]⟩])
 (.seq (.region [⟨(some 44), none, .mov, [.tm 0]⟩,
  ⟨(some 45), none, .mov, [.tm 8]⟩,
  ⟨(some 46), none, .shl, [.tm 44, .tm 45]⟩,
  ⟨(some 47), none, .mov, [.tm 1]⟩,
  ⟨(some 48), none, .mov, [.tm 8]⟩,
  ⟨(some 49), none, (.ari .sub), [.cn (.int .u64 64), .tm 48]⟩,
  ⟨(some 50), none, .shr, [.tm 47, .tm 49]⟩,
  ⟨(some 51), none, (.bit .or), [.tm 46, .tm 50]⟩,
  ⟨(some 11), none, .mov, [.tm 51]⟩])
 (.seq (.region [⟨(some 52), none, .mov, [.tm 1]⟩,
  ⟨(some 53), none, .mov, [.tm 8]⟩,
  ⟨(some 54), none, .shl, [.tm 52, .tm 53]⟩,
  ⟨(some 12), none, .mov, [.tm 54]⟩])
 (.seq (.region [⟨(some 55), none, .mov, [.tm 12]⟩,
  ⟨(some 56), none, .shr, [.tm 55, .cn (.int .u64 32)]⟩,
  ⟨(some 13), none, .mov, [.tm 56]⟩])
 (.seq (.region [⟨(some 57), none, .mov, [.tm 12]⟩,
  ⟨(some 58), none, (.bit .and), [.tm 57, .cn (.int .u64 4294967295)]⟩,
  ⟨(some 14), none, .mov, [.tm 58]⟩])
 (.seq (.region [⟨(some 59), none, .mov, [.tm 11]⟩,
  ⟨(some 60), none, .mov, [.tm 9]⟩,
  ⟨(some 61), none, .quo, [.tm 59, .tm 60]⟩,
  ⟨(some 15), none, .mov, [.tm 61]⟩])
 (.seq (.region [⟨(some 62), none, .mov, [.tm 11]⟩,
  ⟨(some 63), none, .mov, [.tm 15]⟩,
  ⟨(some 64), none, .mov, [.tm 9]⟩,
  ⟨(some 65), none, (.ari .mul), [.tm 63, .tm 64]⟩,
  ⟨(some 66), none, (.ari .sub), [.tm 62, .tm 65]⟩,
  ⟨(some 16), none, .mov, [.tm 66]⟩])
 (.seq (.block 0 (.loop (.seq (.seq (.region [⟨(some 67), none, .mov, [.tm 15]⟩,
  ⟨(some 68), none, (.cmp .geq), [.tm 67, .cn (.int .u64 4294967296)]⟩,
  ⟨(some 69), none, .mov, [.tm 68]⟩,
  ⟨(some 70), (some (69, false)), .mov, [.tm 15]⟩,
  ⟨(some 71), (some (69, false)), .mov, [.tm 10]⟩,
  ⟨(some 72), (some (69, false)), (.ari .mul), [.tm 70, .tm 71]⟩,
  ⟨(some 73), (some (69, false)), .mov, [.tm 16]⟩,
  ⟨(some 74), (some (69, false)), (.ari .mul), [.cn (.int .u64 4294967296), .tm 73]⟩,
  ⟨(some 75), (some (69, false)), .mov, [.tm 13]⟩,
  ⟨(some 76), (some (69, false)), (.ari .add), [.tm 74, .tm 75]⟩,
  ⟨(some 77), (some (69, false)), (.cmp .gtr), [.tm 72, .tm 76]⟩,
  ⟨(some 78), none, .or, [.tm 69, .tm 77]⟩])
 (.cond (.tm 78) .skip
  (.exit 0)))
 (.block 1 (.seq (.region [⟨(some 79), none, .mov, [.tm 15]⟩,
  ⟨(some 80), none, (.ari .sub), [.tm 79, .cn (.int .u64 1)]⟩,
  ⟨(some 15), none, .mov, [.tm 80]⟩])
 (.seq (.region [⟨(some 81), none, .mov, [.tm 16]⟩,
  ⟨(some 82), none, .mov, [.tm 9]⟩,
  ⟨(some 83), none, (.ari .add), [.tm 81, .tm 82]⟩,
  ⟨(some 16), none, .mov, [.tm 83]⟩])
 (.seq (.region [⟨(some 84), none, .mov, [.tm 16]⟩,
  ⟨(some 85), none, (.cmp .geq), [.tm 84, .cn (.int .u64 4294967296)]⟩])
 (.cond (.tm 85) (.exit 0)
  .skip))))))))
 (.seq (.region [⟨(some 86), none, .mov, [.tm 11]⟩,
  ⟨(some 87), none, (.ari .mul), [.tm 86, .cn (.int .u64 4294967296)]⟩,
  ⟨(some 88), none, .mov, [.tm 13]⟩,
  ⟨(some 89), none, (.ari .add), [.tm 87, .tm 88]⟩,
  ⟨(some 90), none, .mov, [.tm 15]⟩,
  ⟨(some 91), none, .mov, [.tm 2]⟩,
  ⟨(some 92), none, (.ari .mul), [.tm 90, .tm 91]⟩,
  ⟨(some 93), none, (.ari .sub), [.tm 89, .tm 92]⟩,
  ⟨(some 17), none, .mov, [.tm 93]⟩])
 (.seq (.region [⟨(some 94), none, .mov, [.tm 17]⟩,
  ⟨(some 95), none, .mov, [.tm 9]⟩,
  ⟨(some 96), none, .quo, [.tm 94, .tm 95]⟩,
  ⟨(some 18), none, .mov, [.tm 96]⟩])
 (.seq (.region [⟨(some 97), none, .mov, [.tm 17]⟩,
  ⟨(some 98), none, .mov, [.tm 18]⟩,
  ⟨(some 99), none, .mov, [.tm 9]⟩,
  ⟨(some 100), none, (.ari .mul), [.tm 98, .tm 99]⟩,
  ⟨(some 101), none, (.ari .sub), [.tm 97, .tm 100]⟩,
  ⟨(some 16), none, .mov, [.tm 101]⟩])
 (.seq (.block 2 (.loop (.seq (.seq (.region [⟨(some 102), none, .mov, [.tm 18]⟩,
  ⟨(some 103), none, (.cmp .geq), [.tm 102, .cn (.int .u64 4294967296)]⟩,
  ⟨(some 104), none, .mov, [.tm 103]⟩,
  ⟨(some 105), (some (104, false)), .mov, [.tm 18]⟩,
  ⟨(some 106), (some (104, false)), .mov, [.tm 10]⟩,
  ⟨(some 107), (some (104, false)), (.ari .mul), [.tm 105, .tm 106]⟩,
  ⟨(some 108), (some (104, false)), .mov, [.tm 16]⟩,
  ⟨(some 109), (some (104, false)), (.ari .mul), [.cn (.int .u64 4294967296), .tm 108]⟩,
  ⟨(some 110), (some (104, false)), .mov, [.tm 14]⟩,
  ⟨(some 111), (some (104, false)), (.ari .add), [.tm 109, .tm 110]⟩,
  ⟨(some 112), (some (104, false)), (.cmp .gtr), [.tm 107, .tm 111]⟩,
  ⟨(some 113), none, .or, [.tm 104, .tm 112]⟩])
 (.cond (.tm 113) .skip
  (.exit 2)))
 (.block 3 (.seq (.region [⟨(some 114), none, .mov, [.tm 18]⟩,
  ⟨(some 115), none, (.ari .sub), [.tm 114, .cn (.int .u64 1)]⟩,
  ⟨(some 18), none, .mov, [.tm 115]⟩])
 (.seq (.region [⟨(some 116), none, .mov, [.tm 16]⟩,
  ⟨(some 117), none, .mov, [.tm 9]⟩,
  ⟨(some 118), none, (.ari .add), [.tm 116, .tm 117]⟩,
  ⟨(some 16), none, .mov, [.tm 118]⟩])
 (.seq (.region [⟨(some 119), none, .mov, [.tm 16]⟩,
  ⟨(some 120), none, (.cmp .geq), [.tm 119, .cn (.int .u64 4294967296)]⟩])
 (.cond (.tm 120) (.exit 2)
  .skip))))))))
 (.seq (.region [⟨(some 121), none, .mov, [.tm 15]⟩,
  ⟨(some 122), none, (.ari .mul), [.tm 121, .cn (.int .u64 4294967296)]⟩,
  ⟨(some 123), none, .mov, [.tm 18]⟩,
  ⟨(some 124), none, (.ari .add), [.tm 122, .tm 123]⟩,
  ⟨(some 125), none, .mov, [.tm 17]⟩,
  ⟨(some 126), none, (.ari .mul), [.tm 125, .cn (.int .u64 4294967296)]⟩,
  ⟨(some 127), none, .mov, [.tm 14]⟩,
  ⟨(some 128), none, (.ari .add), [.tm 126, .tm 127]⟩,
  ⟨(some 129), none, .mov, [.tm 18]⟩,
  ⟨(some 130), none, .mov, [.tm 2]⟩,
  ⟨(some 131), none, (.ari .mul), [.tm 129, .tm 130]⟩,
  ⟨(some 132), none, (.ari .sub), [.tm 128, .tm 131]⟩,
  ⟨(some 133), none, .mov, [.tm 8]⟩,
  ⟨(some 134), none, .shr, [.tm 132, .tm 133]⟩,
  ⟨(some 6), none, .mov, [.tm 124]⟩,
  ⟨(some 7), none, .mov, [.tm 134]⟩])
 .ret)))))))))))))))))))) }
theorem v83_is : vfunc Try.prog Try.f83 = some v83 := by kernel_rfl


def lz64C : Ctr := { alias := false, of := fun l => match l with
  | [.int .u64 x] => .pre (0 ≤ x ∧ x ≤ 18446744073709551615) (.fin (.int .i64 (64 - (bitsN x.toNat : Int))) [])
  | _ => noC }
def mul64C : Ctr := { alias := false, of := fun l => match l with
  | [.int .u64 x, .int .u64 y] => .pre ((0 ≤ x ∧ x ≤ 18446744073709551615) ∧ 0 ≤ y ∧ y ≤ 18446744073709551615) (.fin (.tup [.int .u64 (x * y / 18446744073709551616), .int .u64 (x * y % 18446744073709551616)]) [])
  | _ => noC }
def div64C : Ctr := { alias := false, of := fun l => match l with
  | [.int .u64 h, .int .u64 x, .int .u64 y] => .pre ((0 ≤ x ∧ x ≤ 18446744073709551615) ∧ 0 ≤ h ∧ h < y ∧ y ≤ 18446744073709551615) (.fin (.tup [.int .u64 ((h * 18446744073709551616 + x) / y), .int .u64 ((h * 18446744073709551616 + x) % y)]) [])
  | _ => noC }

def B0 : Env := { ct := fun n => match n with | 96 => some len64C | _ => none, fn := fun _ => none, meth := fun _ _ => none }
theorem B0_ct96 : B0.ct 96 = some len64C := rfl
theorem B0_ok : EnvOk Try.prog B0 := by
  refine ⟨fun f c h => ?_, fun f vf h => ?_, fun _ _ => rfl, by kernel_rfl⟩
  · simp only [B0] at h
    split at h
    · cases h; exact ⟨len64_ok, Try.f96, Try.func96, by kernel_rfl, by kernel_rfl⟩
    · cases h
  · cases h

theorem lz64_ok : lz64C.ok Try.prog 91 := by
  refine contract Try.func91 v91_is B0_ok 100 lz64C fun args k h => ?_
  simp only [lz64C] at h
  split at h
  · rename_i x
    obtain ⟨⟨h0, h1⟩, h⟩ := h
    refine ⟨[.int .u64 x], by simp [leL, le], ?_⟩
    dsimp only [v91, B0_ct96, len64C, r_end, r_end1, r_nil, r_op, r_opg, r_runOp, r_op0, r_yld0, r_yld1, r_y, r_rbeg, r_rend, r_rend1, r_rfrm, r_rfrm1, r_range, r_rangeK, r_rangeE, r_draw, r_dnil, r_dop, r_dopg, r_dplq, r_dplh, r_dq, r_dq0, r_dcl1, r_dcl0, r_dct1, r_dct0, r_dgd, r_dgq1, r_dgq0, r_dctG, r_op1, r_eff, r_eff0, r_call, r_call0, r_inl, r_g, r_gq, r_gc, r_effg, r_effg0, r_callg, r_callg0, r_fin, r_pre, r_imp, r_all, r_ex, r_fing, r_preg, r_exg, r_inBlock, r_inLoop, r_frame, r_frame1, r_skip, r_stuck, r_region, r_seq, r_cond, r_cond1, r_block, r_exit, r_exit1, r_exit2, r_ret, r_loop, s_args0, s_args1, s_xt, s_xc, padL, blankL, callee, callArgs, eff, ctOf, getL, setL, S.put, S.upd, unopts, unopt, unoptsO, unoptsB, lazyO, guardOf, gbool, eMov, eNot, eNeg, eConv, eExt, eLenArr, eLen, eLenStr, eEqb, eEqv, allEq, eNil, negIf, eBool2, eCmp, eAri, ari, eBit, eDiv, eSh, eMinMax, foldMin, foldMax, kEq, pure1, cmpB, VO.quiet, resVals, resVal, tupled, popRet, popTo, cond, Option.bind, Option.map, eNew, eBox, asCells, lenH, snocH, eFieldAddr, eField, eLoad, cellsAt, getH, setH, dropL, takeL, mkAgg, lenL, lenS, shift, shiftL, shiftH, viewN, viewL, view, andT, junks, List.append_nil, Nat.beq, eIdxAddr, eIdxArr, idxN_0, idxN_1, idxN_2, idxN_3, eIndex, eStore, storeAt, spliceL, ones, one, eSlice, eSliceArr, bounds, subLo_z, addLo_z, subLo_one, addLo_one, eMake, eAppend, readS, repL, buildCells, chunk, purgeL, purgeLL, purgeH, purge, refs, refsL, List.cons_append, List.nil_append, wrOps, wrAl, wrDops, wrC, junkAt, putAll, putHs, headOf, headK, keepG, List.append_eq, headX, chkP, apartP, apartB, blk, strip, runAl, AL.ho, yld, putPs, lenN, findR, notRound, jumpK, jumpPT, jcode, List.map_cons, List.map_nil, ite_self, reduceIte]
    simp only [true_and, and_true, imp_self, implies_true, decide_eq_true_eq, decide_eq_false_iff_not, Nat.reduceAdd, Nat.reduceLeDiff, Bool.not_not, reduceCtorEq, false_imp_iff, Bool.not_eq_true', Bool.not_eq_false', Bool.false_eq_true, and_self, forall_const, ne_eq, not_false_eq_true, Nat.reduceEqDiff]
    refine ⟨⟨h0, h1⟩, ans_int ?_⟩
    have : bitsN x.toNat ≤ 64 := bitsN_le.2 (by have : (2 : Nat) ^ 64 = 18446744073709551616 := rfl; omega)
    rw [IntWalk.i64_in _ (by omega)]
    exact h
  · exact h.1.elim

theorem mul64_ok : mul64C.ok Try.prog 67 := by
  refine contract Try.func67 v67_is B0_ok 200 mul64C fun args k h => ?_
  simp only [mul64C] at h
  split at h
  · rename_i x y
    obtain ⟨⟨⟨h0, h1⟩, h2, h3⟩, h⟩ := h
    obtain ⟨x, rfl⟩ := Int.eq_ofNat_of_zero_le h0
    obtain ⟨y, rfl⟩ := Int.eq_ofNat_of_zero_le h2
    refine ⟨[.int .u64 x, .int .u64 y], by simp [leL, le], ?_⟩
    dsimp only [v67, bitI, r_end, r_end1, r_nil, r_op, r_opg, r_runOp, r_op0, r_yld0, r_yld1, r_y, r_rbeg, r_rend, r_rend1, r_rfrm, r_rfrm1, r_range, r_rangeK, r_rangeE, r_draw, r_dnil, r_dop, r_dopg, r_dplq, r_dplh, r_dq, r_dq0, r_dcl1, r_dcl0, r_dct1, r_dct0, r_dgd, r_dgq1, r_dgq0, r_dctG, r_op1, r_eff, r_eff0, r_call, r_call0, r_inl, r_g, r_gq, r_gc, r_effg, r_effg0, r_callg, r_callg0, r_fin, r_pre, r_imp, r_all, r_ex, r_fing, r_preg, r_exg, r_inBlock, r_inLoop, r_frame, r_frame1, r_skip, r_stuck, r_region, r_seq, r_cond, r_cond1, r_block, r_exit, r_exit1, r_exit2, r_ret, r_loop, s_args0, s_args1, s_xt, s_xc, padL, blankL, callee, callArgs, eff, ctOf, getL, setL, S.put, S.upd, unopts, unopt, unoptsO, unoptsB, lazyO, guardOf, gbool, eMov, eNot, eNeg, eConv, eExt, eLenArr, eLen, eLenStr, eEqb, eEqv, allEq, eNil, negIf, eBool2, eCmp, eAri, ari, eBit, eDiv, eSh, eMinMax, foldMin, foldMax, kEq, pure1, cmpB, VO.quiet, resVals, resVal, tupled, popRet, popTo, cond, Option.bind, Option.map, eNew, eBox, asCells, lenH, snocH, eFieldAddr, eField, eLoad, cellsAt, getH, setH, dropL, takeL, mkAgg, lenL, lenS, shift, shiftL, shiftH, viewN, viewL, view, andT, junks, List.append_nil, Nat.beq, eIdxAddr, eIdxArr, idxN_0, idxN_1, idxN_2, idxN_3, eIndex, eStore, storeAt, spliceL, ones, one, eSlice, eSliceArr, bounds, subLo_z, addLo_z, subLo_one, addLo_one, eMake, eAppend, readS, repL, buildCells, chunk, purgeL, purgeLL, purgeH, purge, refs, refsL, List.cons_append, List.nil_append, wrOps, wrAl, wrDops, wrC, junkAt, putAll, putHs, headOf, headK, keepG, List.append_eq, headX, chkP, apartP, apartB, blk, strip, runAl, AL.ho, yld, putPs, lenN, findR, notRound, jumpK, jumpPT, jcode, List.map_cons, List.map_nil, ite_self, reduceIte]
    simp only [true_and, and_true, imp_self, implies_true, decide_eq_true_eq, decide_eq_false_iff_not, Nat.reduceAdd, Nat.reduceLeDiff, Bool.not_not, reduceCtorEq, false_imp_iff, Bool.not_eq_true', Bool.not_eq_false', Bool.false_eq_true, and_self, forall_const, ne_eq, not_false_eq_true, Nat.reduceEqDiff]
    have hx : x < 18446744073709551616 := by omega
    have hy : y < 18446744073709551616 := by omega
    obtain ⟨e, b1, b2, b3, b4, b5, b6, b7, b8⟩ := mul_hi hx hy
    have s32 : ∀ z : Nat, (z : Int).fdiv (2 ^ min (Int.toNat 32) IntKind.u64.bits) = ((z / 4294967296 : Nat) : Int) := fun z => shr_nat (s := 32) (by decide)
    have hm : ∀ z : Nat, z % 4294967296 < 18446744073709551616 := fun z => by omega
    rw [show IntKind.u64.bits = 64 from rfl] at *
    rw [and_mask hx, and_mask hy, s32 x, s32 y, u_mul b1, s32 (x % 4294967296 * (y % 4294967296)), u_mul b2, u_add b3, s32 (x / 4294967296 * (y % 4294967296) + x % 4294967296 * (y % 4294967296) / 4294967296), and_mask b3, u_mul b4, u_add b5, s32, u_mul b6, u_add b7, u_add b8, e, u_mod]
    refine ⟨by decide, by decide, by decide, by decide, by decide, ?_⟩
    have h : k (.tup [.int .u64 ((x : Int) * y / 18446744073709551616), .int .u64 ((x : Int) * y % 18446744073709551616)]) [] := h
    have e2 : ((x * y / 18446744073709551616 : Nat) : Int) = (x : Int) * y / 18446744073709551616 := by
      rw [← Int.natCast_mul]; generalize x * y = z; omega
    rw [e2]
    exact ans_ii h
  · exact h.1.elim
def B2 : Env := { ct := fun n => match n with | 91 => some lz64C | _ => none, fn := fun _ => none, meth := fun _ _ => none }
theorem B2_ct91 : B2.ct 91 = some lz64C := rfl
theorem B2_ok : EnvOk Try.prog B2 := by
  refine ⟨fun f c h => ?_, fun f vf h => ?_, fun _ _ => rfl, by kernel_rfl⟩
  · simp only [B2] at h
    split at h
    · cases h; exact ⟨lz64_ok, Try.f91, Try.func91, by kernel_rfl, by kernel_rfl⟩
    · cases h
  · cases h


theorem div64_ok : div64C.ok Try.prog 83 := by
  refine contract Try.func83 v83_is B2_ok 300 div64C fun args k h => ?_
  simp only [div64C] at h
  split at h
  · rename_i hh x y
    obtain ⟨⟨⟨h0, h1⟩, h2, h3, h4⟩, h⟩ := h
    obtain ⟨x, rfl⟩ := Int.eq_ofNat_of_zero_le h0
    obtain ⟨hh, rfl⟩ := Int.eq_ofNat_of_zero_le h2
    obtain ⟨y, rfl⟩ := Int.eq_ofNat_of_zero_le (by omega : 0 ≤ y)
    refine ⟨[.int .u64 hh, .int .u64 x, .int .u64 y], by simp [leL, le], ?_⟩
    dsimp only [v83, B2_ct91, lz64C, bitI, r_end, r_end1, r_nil, r_op, r_opg, r_runOp, r_op0, r_yld0, r_yld1, r_y, r_rbeg, r_rend, r_rend1, r_rfrm, r_rfrm1, r_range, r_rangeK, r_rangeE, r_draw, r_dnil, r_dop, r_dopg, r_dplq, r_dplh, r_dq, r_dq0, r_dcl1, r_dcl0, r_dct1, r_dct0, r_dgd, r_dgq1, r_dgq0, r_dctG, r_op1, r_eff, r_eff0, r_call, r_call0, r_inl, r_g, r_gq, r_gc, r_effg, r_effg0, r_callg, r_callg0, r_fin, r_pre, r_imp, r_all, r_ex, r_fing, r_preg, r_exg, r_inBlock, r_inLoop, r_frame, r_frame1, r_skip, r_stuck, r_region, r_seq, r_cond, r_cond1, r_block, r_exit, r_exit1, r_exit2, r_ret, r_loop, s_args0, s_args1, s_xt, s_xc, padL, blankL, callee, callArgs, eff, ctOf, getL, setL, S.put, S.upd, unopts, unopt, unoptsO, unoptsB, lazyO, guardOf, gbool, eMov, eNot, eNeg, eConv, eExt, eLenArr, eLen, eLenStr, eEqb, eEqv, allEq, eNil, negIf, eBool2, eCmp, eAri, ari, eBit, eDiv, eSh, eMinMax, foldMin, foldMax, kEq, pure1, cmpB, VO.quiet, resVals, resVal, tupled, popRet, popTo, cond, Option.bind, Option.map, eNew, eBox, asCells, lenH, snocH, eFieldAddr, eField, eLoad, cellsAt, getH, setH, dropL, takeL, mkAgg, lenL, lenS, shift, shiftL, shiftH, viewN, viewL, view, andT, junks, List.append_nil, Nat.beq, eIdxAddr, eIdxArr, idxN_0, idxN_1, idxN_2, idxN_3, eIndex, eStore, storeAt, spliceL, ones, one, eSlice, eSliceArr, bounds, subLo_z, addLo_z, subLo_one, addLo_one, eMake, eAppend, readS, repL, buildCells, chunk, purgeL, purgeLL, purgeH, purge, refs, refsL, List.cons_append, List.nil_append, wrOps, wrAl, wrDops, wrC, junkAt, putAll, putHs, headOf, headK, keepG, List.append_eq, headX, chkP, apartP, apartB, blk, strip, runAl, AL.ho, yld, putPs, lenN, findR, notRound, jumpK, jumpPT, jcode, List.map_cons, List.map_nil, ite_self, reduceIte]
    simp only [true_and, and_true, imp_self, implies_true, decide_eq_true_eq, decide_eq_false_iff_not, Nat.reduceAdd, Nat.reduceLeDiff, Bool.not_not, reduceCtorEq, false_imp_iff, Bool.not_eq_true', Bool.not_eq_false', Bool.false_eq_true, and_self, forall_const, ne_eq, not_false_eq_true, Nat.reduceEqDiff]
    have hx : x < 18446744073709551616 := by omega
    have hy : y < 18446744073709551616 := by omega
    have hlt : hh < y := by omega
    rw [show IntKind.u64.bits = 64 from rfl] at *
    refine ⟨fun hc => by omega, fun _ => ⟨fun hc => by omega, fun _ => ⟨fun hz => ?_, fun hz => ?_⟩⟩⟩
    · obtain rfl : hh = 0 := by omega
      have e1 : (x : Int).tdiv y = ((x / y : Nat) : Int) := IntWalk.up_tdiv rfl rfl
      have e2 : (x : Int).tmod y = ((x % y : Nat) : Int) := IntWalk.up_tmod rfl rfl
      have h : k (.tup [.int .u64 ((((0 : Nat) : Int) * 18446744073709551616 + x) / y), .int .u64 ((((0 : Nat) : Int) * 18446744073709551616 + x) % y)]) [] := h
      have e3 : ((0 : Nat) : Int) * 18446744073709551616 + x = x := by omega
      rw [e3] at h
      rw [e1, e2, u_nat (Nat.lt_of_le_of_lt (Nat.div_le_self _ _) hx)]
      refine ⟨by omega, by omega, ?_⟩
      exact ans_ii h
    · obtain ⟨s, hs⟩ : ∃ s, s = 64 - bitsN y := ⟨_, rfl⟩
      obtain ⟨f1, f2, f3⟩ := norm_facts hy (by omega)
      rw [← hs] at f2 f3
      have hs64 : s ≤ 64 := by omega
      obtain ⟨g1, g2, g3⟩ := hi_shift (h := hh) hs64 hx
      have hsh : hh * 2 ^ s < y * 2 ^ s := Nat.mul_lt_mul_of_pos_right hlt (p2_pos s)
      have es : IntKind.u64.wrap (64 - (bitsN ((y : Int)).toNat : Int)) = (s : Int) := by
        rw [Int.toNat_natCast, IntWalk.u64_in _ (by omega)]; omega
      have es2 : IntKind.u64.wrap (64 - (s : Int)) = ((64 - s : Nat) : Int) := by rw [IntWalk.u64_in _ (by omega)]; omega
      have sY := shl_nat hs64 f3
      have sH := shl_nat hs64 (Nat.lt_trans hsh f3)
      have sX1 := shr_nat (x := x) (s := 64 - s) (by omega)
      have hxs : x / 2 ^ (64 - s) < 18446744073709551616 := Nat.lt_of_le_of_lt (Nat.div_le_self _ _) hx
      have sO := or_nat6 (Nat.lt_trans hsh f3) hxs
      rw [g1] at sO
      have sX : IntKind.u64.wrap ((x : Int) * 2 ^ min s 64) = ((x * 2 ^ s % 18446744073709551616 : Nat) : Int) := by
        rw [Nat.min_eq_left hs64]
        have : (x : Int) * 2 ^ s = ((x * 2 ^ s : Nat) : Int) := by simp
        rw [this, u_modn]
      have s32 : ∀ z : Nat, (z : Int).fdiv (2 ^ min (Int.toNat 32) 64) = ((z / 4294967296 : Nat) : Int) := fun z => shr_nat (s := 32) (by decide)
      have mY := and_mask f3
      have mX := and_mask (Nat.mod_lt (x * 2 ^ s) (show 0 < 18446744073709551616 by omega))
      rw [es]
      simp only [Int.toNat_natCast, es2, sY, sH, sX1, sO, sX, s32, mY, mX]
      have hN := g3
      generalize hY : y * 2 ^ s = Y at f2 f3 hsh ⊢
      generalize hX : x * 2 ^ s % 18446744073709551616 = X at hN ⊢
      generalize hA : hh * 2 ^ s + x / 2 ^ (64 - s) = A at hN ⊢
      have hX6 : X < 18446744073709551616 := by rw [← hX]; exact Nat.mod_lt _ (show 0 < 18446744073709551616 by omega)
      have hAY : A < Y := by
        have : hh * 2 ^ s + 2 ^ s ≤ y * 2 ^ s := by rw [← Nat.succ_mul]; exact Nat.mul_le_mul_right _ hlt
        omega
      clear mY mX sX sO sX1 sH sY es es2 g1 g2 g3
      have y1a : 2147483648 ≤ Y / 4294967296 := by omega
      have y1b : Y / 4294967296 < 4294967296 := by omega
      have y1p : 0 < Y / 4294967296 := by omega
      have eY : Y / 4294967296 * 4294967296 + Y % 4294967296 = Y := Nat.div_add_mod' Y 4294967296
      have y0b : Y % 4294967296 < 4294967296 := by omega
      have u1b : X / 4294967296 < 4294967296 := by omega
      have u0b : X % 4294967296 < 4294967296 := by omega
      have hYp : 0 < Y := by omega
      have start := fun (a u : Nat) (ha : a < Y) (hu : u < 4294967296) => (dig_start (u := u) y1a y0b (by rw [eY]; exact ha) hu).resolve_right (by omega)
      have eq0 : ∀ a : Nat, a < Y → IntKind.u64.wrap ((a : Int).tdiv ((Y / 4294967296 : Nat) : Int)) = ((a / (Y / 4294967296) : Nat) : Int) := fun a ha => by
        have : (a : Int).tdiv ((Y / 4294967296 : Nat) : Int) = ((a / (Y / 4294967296) : Nat) : Int) := IntWalk.up_tdiv rfl rfl
        rw [this]; exact u_nat (Nat.lt_of_le_of_lt (Nat.div_le_self _ _) (Nat.lt_trans ha f3))
      have er0 : ∀ a : Nat, a < Y → IntKind.u64.wrap ((a : Int) - IntKind.u64.wrap (((a / (Y / 4294967296) : Nat) : Int) * ((Y / 4294967296 : Nat) : Int))) = ((a - a / (Y / 4294967296) * (Y / 4294967296) : Nat) : Int) := fun a ha => by
        have hle : a / (Y / 4294967296) * (Y / 4294967296) ≤ a := Nat.div_mul_le_self _ _
        have h6 := Nat.lt_trans ha f3
        rw [u_mul (Nat.lt_of_le_of_lt hle h6), u_sub hle h6]
      -- the word behind a digit
      have eR : ∀ a u q : Nat, u < 4294967296 → q = (a * 4294967296 + u) / Y → IntKind.u64.wrap (IntKind.u64.wrap (IntKind.u64.wrap ((a : Int) * 4294967296) + (u : Int)) - IntKind.u64.wrap ((q : Int) * (Y : Int))) = (((a * 4294967296 + u) % Y : Nat) : Int) := fun a u q hu hq => by
        have e := Nat.div_add_mod (a * 4294967296 + u) Y
        have hm := Nat.mod_lt (a * 4294967296 + u) hYp
        rw [← hq, Nat.mul_comm] at e
        have e2 : ((q * Y : Nat) : Int) = (q : Int) * (Y : Int) := Int.natCast_mul _ _
        generalize (a * 4294967296 + u) % Y = m at *
        simp only [u_mod]
        rw [← e2]
        generalize q * Y = t at *
        omega
      -- the condition of a loop
      have cnd : ∀ (q r u : Nat), r < 4294967296 → u < 4294967296 → ((decide (4294967296 ≤ (q : Int)) || decide (IntKind.u64.wrap (IntKind.u64.wrap (4294967296 * (r : Int)) + (u : Int)) < IntKind.u64.wrap ((q : Int) * ((Y % 4294967296 : Nat) : Int)))) = true ↔ 4294967296 ≤ q ∨ 4294967296 * r + u < q * (Y % 4294967296)) := fun q r u hr hu => by
        rcases Nat.lt_or_ge q 4294967296 with hq | hq
        · have hm : q * (Y % 4294967296) ≤ 4294967295 * 4294967295 := Nat.mul_le_mul (by omega) (by omega)
          rw [u_mul (by omega), IntWalk.u64_in (4294967296 * (r : Int)) (by omega), IntWalk.u64_in _ (by omega), Bool.or_eq_true, decide_eq_true_eq, decide_eq_true_eq]
          generalize q * (Y % 4294967296) = t
          omega
        · simp [hq]; omega
      have sY1 : ∀ r : Nat, r < 4294967296 → IntKind.u64.wrap ((r : Int) + ((Y / 4294967296 : Nat) : Int)) = ((r + Y / 4294967296 : Nat) : Int) := fun r hr => u_add (by omega)
      have dY : ∀ q : Nat, 0 < q → q ≤ 4294967297 → IntKind.u64.wrap ((q : Int) - 1) = ((q - 1 : Nat) : Int) := fun q h1 h2 => by rw [IntWalk.u64_in _ (by omega)]; omega
      rw [eq0 A hAY, er0 A hAY]
      refine ⟨⟨by omega, by omega⟩, by omega, by decide, by omega, by omega, by omega, by decide, by omega, ?_⟩
      refine Loop.keep [2, 5, 0, 0, 0, 1, 0] (Nat × Nat) (fun x => [(15, .int .u64 x.1), (16, .int .u64 x.2)]) (fun _ => []) [] (fun x => DigInv (Y / 4294967296) (Y % 4294967296) A (X / 4294967296) x.1 x.2 ∧ x.2 < 4294967296) (fun x => x.1) ?_ ?_
      · refine ⟨(A / (Y / 4294967296), A - A / (Y / 4294967296) * (Y / 4294967296)), start A (X / 4294967296) hAY u1b, ?_⟩
        dsimp only [r_end, r_end1, r_nil, r_op, r_opg, r_runOp, r_op0, r_yld0, r_yld1, r_y, r_rbeg, r_rend, r_rend1, r_rfrm, r_rfrm1, r_range, r_rangeK, r_rangeE, r_draw, r_dnil, r_dop, r_dopg, r_dplq, r_dplh, r_dq, r_dq0, r_dcl1, r_dcl0, r_dct1, r_dct0, r_dgd, r_dgq1, r_dgq0, r_dctG, r_op1, r_eff, r_eff0, r_call, r_call0, r_inl, r_g, r_gq, r_gc, r_effg, r_effg0, r_callg, r_callg0, r_fin, r_pre, r_imp, r_all, r_ex, r_fing, r_preg, r_exg, r_inBlock, r_inLoop, r_frame, r_frame1, r_skip, r_stuck, r_region, r_seq, r_cond, r_cond1, r_block, r_exit, r_exit1, r_exit2, r_ret, r_loop, s_args0, s_args1, s_xt, s_xc, padL, blankL, callee, callArgs, eff, ctOf, getL, setL, S.put, S.upd, unopts, unopt, unoptsO, unoptsB, lazyO, guardOf, gbool, eMov, eNot, eNeg, eConv, eExt, eLenArr, eLen, eLenStr, eEqb, eEqv, allEq, eNil, negIf, eBool2, eCmp, eAri, ari, eBit, eDiv, eSh, eMinMax, foldMin, foldMax, kEq, pure1, cmpB, VO.quiet, resVals, resVal, tupled, popRet, popTo, cond, Option.bind, Option.map, eNew, eBox, asCells, lenH, snocH, eFieldAddr, eField, eLoad, cellsAt, getH, setH, dropL, takeL, mkAgg, lenL, lenS, shift, shiftL, shiftH, viewN, viewL, view, andT, junks, List.append_nil, Nat.beq, eIdxAddr, eIdxArr, idxN_0, idxN_1, idxN_2, idxN_3, eIndex, eStore, storeAt, spliceL, ones, one, eSlice, eSliceArr, bounds, subLo_z, addLo_z, subLo_one, addLo_one, eMake, eAppend, readS, repL, buildCells, chunk, purgeL, purgeLL, purgeH, purge, refs, refsL, List.cons_append, List.nil_append, wrOps, wrAl, wrDops, wrC, junkAt, putAll, putHs, headOf, headK, keepG, List.append_eq, headX, chkP, apartP, apartB, blk, strip, runAl, AL.ho, yld, putPs, lenN, findR, notRound, jumpK, jumpPT, jcode, List.map_cons, List.map_nil, ite_self, reduceIte]
        simp only [leS_mk, leL_cons, leL_nil, le_junk, le_int, le_bool, le_nil, leLL_nil, leLL_cons, leH_cons, leH_nil, leH1_box, leH1_own, leH1_gone, le_vs, le_agg, le_tup, le_ptr, le_own, le_xp, le_fn, le_opt, le_val, le_elem, le_nil_own, le_nil_vs, leH_ghost, leL_chunk, leXL_id, bnd_int, bnd_bool, bnd_val, bnd_nil, bnd_junk, bnd_vs, bnd_xp, bnd_agg, bnd_tup, bnd_ptr, bnd_own, bnd_elem, bnd_fn, bnd_iface, bnd_opt, bndL_nil, bndL_cons, lenH_cons, lenH_nil, imp_self, implies_true, true_and, and_true]
      · rintro ⟨q, r⟩ ⟨hd, hr⟩
        dsimp only at hd hr
        dsimp only [r_end, r_end1, r_nil, r_op, r_opg, r_runOp, r_op0, r_yld0, r_yld1, r_y, r_rbeg, r_rend, r_rend1, r_rfrm, r_rfrm1, r_range, r_rangeK, r_rangeE, r_draw, r_dnil, r_dop, r_dopg, r_dplq, r_dplh, r_dq, r_dq0, r_dcl1, r_dcl0, r_dct1, r_dct0, r_dgd, r_dgq1, r_dgq0, r_dctG, r_op1, r_eff, r_eff0, r_call, r_call0, r_inl, r_g, r_gq, r_gc, r_effg, r_effg0, r_callg, r_callg0, r_fin, r_pre, r_imp, r_all, r_ex, r_fing, r_preg, r_exg, r_inBlock, r_inLoop, r_frame, r_frame1, r_skip, r_stuck, r_region, r_seq, r_cond, r_cond1, r_block, r_exit, r_exit1, r_exit2, r_ret, r_loop, s_args0, s_args1, s_xt, s_xc, padL, blankL, callee, callArgs, eff, ctOf, getL, setL, S.put, S.upd, unopts, unopt, unoptsO, unoptsB, lazyO, guardOf, gbool, eMov, eNot, eNeg, eConv, eExt, eLenArr, eLen, eLenStr, eEqb, eEqv, allEq, eNil, negIf, eBool2, eCmp, eAri, ari, eBit, eDiv, eSh, eMinMax, foldMin, foldMax, kEq, pure1, cmpB, VO.quiet, resVals, resVal, tupled, popRet, popTo, cond, Option.bind, Option.map, eNew, eBox, asCells, lenH, snocH, eFieldAddr, eField, eLoad, cellsAt, getH, setH, dropL, takeL, mkAgg, lenL, lenS, shift, shiftL, shiftH, viewN, viewL, view, andT, junks, List.append_nil, Nat.beq, eIdxAddr, eIdxArr, idxN_0, idxN_1, idxN_2, idxN_3, eIndex, eStore, storeAt, spliceL, ones, one, eSlice, eSliceArr, bounds, subLo_z, addLo_z, subLo_one, addLo_one, eMake, eAppend, readS, repL, buildCells, chunk, purgeL, purgeLL, purgeH, purge, refs, refsL, List.cons_append, List.nil_append, wrOps, wrAl, wrDops, wrC, junkAt, putAll, putHs, headOf, headK, keepG, List.append_eq, headX, chkP, apartP, apartB, blk, strip, runAl, AL.ho, yld, putPs, lenN, findR, notRound, jumpK, jumpPT, jcode, List.map_cons, List.map_nil, ite_self, reduceIte]
        simp only [true_and, and_true, imp_self, implies_true, decide_eq_true_eq, decide_eq_false_iff_not, Nat.reduceAdd, Nat.reduceLeDiff, Bool.not_not, reduceCtorEq, false_imp_iff, Bool.not_eq_true', Bool.not_eq_false', Bool.false_eq_true, and_self, forall_const, ne_eq, not_false_eq_true, Nat.reduceEqDiff]
        rw [cnd q r _ hr u1b]
        have hql := hd.le
        refine ⟨fun hc => ?_, fun hc => ?_⟩
        · obtain ⟨hq0, hn⟩ := dig_next hd y1p (by rw [eY]; exact hAY) u1b hc
          rw [dY q hq0 hql, sY1 r hr]
          refine ⟨fun hb => ⟨by omega, ?_⟩, fun hb => ⟨(q - 1, r + Y / 4294967296), ⟨hn, by simp only; omega⟩, by simp only; omega, ?_⟩⟩
          · have hQ1 := dig_break hn y1p y0b (by omega) (by omega)
            rw [eY] at hQ1
            generalize q - 1 = Q1 at hQ1 ⊢
            have hR1Y : (A * 4294967296 + X / 4294967296) % Y < Y := Nat.mod_lt _ hYp
            rw [eR A _ Q1 u1b hQ1]
            generalize hR1 : (A * 4294967296 + X / 4294967296) % Y = R1 at hR1Y ⊢
            rw [eq0 R1 hR1Y, er0 R1 hR1Y]
            refine Loop.keep [2, 5, 0, 0, 3, 0, 1] (Nat × Nat) (fun x => [(18, .int .u64 x.1), (16, .int .u64 x.2)]) (fun _ => []) [] (fun x => DigInv (Y / 4294967296) (Y % 4294967296) R1 (X % 4294967296) x.1 x.2 ∧ x.2 < 4294967296) (fun x => x.1) ?_ ?_
            · refine ⟨(R1 / (Y / 4294967296), R1 - R1 / (Y / 4294967296) * (Y / 4294967296)), start R1 (X % 4294967296) hR1Y u0b, ?_⟩
              dsimp only [r_end, r_end1, r_nil, r_op, r_opg, r_runOp, r_op0, r_yld0, r_yld1, r_y, r_rbeg, r_rend, r_rend1, r_rfrm, r_rfrm1, r_range, r_rangeK, r_rangeE, r_draw, r_dnil, r_dop, r_dopg, r_dplq, r_dplh, r_dq, r_dq0, r_dcl1, r_dcl0, r_dct1, r_dct0, r_dgd, r_dgq1, r_dgq0, r_dctG, r_op1, r_eff, r_eff0, r_call, r_call0, r_inl, r_g, r_gq, r_gc, r_effg, r_effg0, r_callg, r_callg0, r_fin, r_pre, r_imp, r_all, r_ex, r_fing, r_preg, r_exg, r_inBlock, r_inLoop, r_frame, r_frame1, r_skip, r_stuck, r_region, r_seq, r_cond, r_cond1, r_block, r_exit, r_exit1, r_exit2, r_ret, r_loop, s_args0, s_args1, s_xt, s_xc, padL, blankL, callee, callArgs, eff, ctOf, getL, setL, S.put, S.upd, unopts, unopt, unoptsO, unoptsB, lazyO, guardOf, gbool, eMov, eNot, eNeg, eConv, eExt, eLenArr, eLen, eLenStr, eEqb, eEqv, allEq, eNil, negIf, eBool2, eCmp, eAri, ari, eBit, eDiv, eSh, eMinMax, foldMin, foldMax, kEq, pure1, cmpB, VO.quiet, resVals, resVal, tupled, popRet, popTo, cond, Option.bind, Option.map, eNew, eBox, asCells, lenH, snocH, eFieldAddr, eField, eLoad, cellsAt, getH, setH, dropL, takeL, mkAgg, lenL, lenS, shift, shiftL, shiftH, viewN, viewL, view, andT, junks, List.append_nil, Nat.beq, eIdxAddr, eIdxArr, idxN_0, idxN_1, idxN_2, idxN_3, eIndex, eStore, storeAt, spliceL, ones, one, eSlice, eSliceArr, bounds, subLo_z, addLo_z, subLo_one, addLo_one, eMake, eAppend, readS, repL, buildCells, chunk, purgeL, purgeLL, purgeH, purge, refs, refsL, List.cons_append, List.nil_append, wrOps, wrAl, wrDops, wrC, junkAt, putAll, putHs, headOf, headK, keepG, List.append_eq, headX, chkP, apartP, apartB, blk, strip, runAl, AL.ho, yld, putPs, lenN, findR, notRound, jumpK, jumpPT, jcode, List.map_cons, List.map_nil, ite_self, reduceIte]
              simp only [leS_mk, leL_cons, leL_nil, le_junk, le_int, le_bool, le_nil, leLL_nil, leLL_cons, leH_cons, leH_nil, leH1_box, leH1_own, leH1_gone, le_vs, le_agg, le_tup, le_ptr, le_own, le_xp, le_fn, le_opt, le_val, le_elem, le_nil_own, le_nil_vs, leH_ghost, leL_chunk, leXL_id, bnd_int, bnd_bool, bnd_val, bnd_nil, bnd_junk, bnd_vs, bnd_xp, bnd_agg, bnd_tup, bnd_ptr, bnd_own, bnd_elem, bnd_fn, bnd_iface, bnd_opt, bndL_nil, bndL_cons, lenH_cons, lenH_nil, imp_self, implies_true, true_and, and_true]
            · rintro ⟨q, r⟩ ⟨hd, hr⟩
              dsimp only at hd hr
              dsimp only [r_end, r_end1, r_nil, r_op, r_opg, r_runOp, r_op0, r_yld0, r_yld1, r_y, r_rbeg, r_rend, r_rend1, r_rfrm, r_rfrm1, r_range, r_rangeK, r_rangeE, r_draw, r_dnil, r_dop, r_dopg, r_dplq, r_dplh, r_dq, r_dq0, r_dcl1, r_dcl0, r_dct1, r_dct0, r_dgd, r_dgq1, r_dgq0, r_dctG, r_op1, r_eff, r_eff0, r_call, r_call0, r_inl, r_g, r_gq, r_gc, r_effg, r_effg0, r_callg, r_callg0, r_fin, r_pre, r_imp, r_all, r_ex, r_fing, r_preg, r_exg, r_inBlock, r_inLoop, r_frame, r_frame1, r_skip, r_stuck, r_region, r_seq, r_cond, r_cond1, r_block, r_exit, r_exit1, r_exit2, r_ret, r_loop, s_args0, s_args1, s_xt, s_xc, padL, blankL, callee, callArgs, eff, ctOf, getL, setL, S.put, S.upd, unopts, unopt, unoptsO, unoptsB, lazyO, guardOf, gbool, eMov, eNot, eNeg, eConv, eExt, eLenArr, eLen, eLenStr, eEqb, eEqv, allEq, eNil, negIf, eBool2, eCmp, eAri, ari, eBit, eDiv, eSh, eMinMax, foldMin, foldMax, kEq, pure1, cmpB, VO.quiet, resVals, resVal, tupled, popRet, popTo, cond, Option.bind, Option.map, eNew, eBox, asCells, lenH, snocH, eFieldAddr, eField, eLoad, cellsAt, getH, setH, dropL, takeL, mkAgg, lenL, lenS, shift, shiftL, shiftH, viewN, viewL, view, andT, junks, List.append_nil, Nat.beq, eIdxAddr, eIdxArr, idxN_0, idxN_1, idxN_2, idxN_3, eIndex, eStore, storeAt, spliceL, ones, one, eSlice, eSliceArr, bounds, subLo_z, addLo_z, subLo_one, addLo_one, eMake, eAppend, readS, repL, buildCells, chunk, purgeL, purgeLL, purgeH, purge, refs, refsL, List.cons_append, List.nil_append, wrOps, wrAl, wrDops, wrC, junkAt, putAll, putHs, headOf, headK, keepG, List.append_eq, headX, chkP, apartP, apartB, blk, strip, runAl, AL.ho, yld, putPs, lenN, findR, notRound, jumpK, jumpPT, jcode, List.map_cons, List.map_nil, ite_self, reduceIte]
              simp only [true_and, and_true, imp_self, implies_true, decide_eq_true_eq, decide_eq_false_iff_not, Nat.reduceAdd, Nat.reduceLeDiff, Bool.not_not, reduceCtorEq, false_imp_iff, Bool.not_eq_true', Bool.not_eq_false', Bool.false_eq_true, and_self, forall_const, ne_eq, not_false_eq_true, Nat.reduceEqDiff]
              rw [cnd q r _ hr u0b]
              have hql := hd.le
              refine ⟨fun hc => ?_, fun hc => ?_⟩
              · obtain ⟨hq0, hn⟩ := dig_next hd y1p (by rw [eY]; exact hR1Y) u0b hc
                rw [dY q hq0 hql, sY1 r hr]
                refine ⟨fun hb => ?_, fun hb => ⟨(q - 1, r + Y / 4294967296), ⟨hn, by simp only; omega⟩, by simp only; omega, ?_⟩⟩
                · have hQ0 := dig_break hn y1p y0b (by omega) (by omega)
                  rw [eY] at hQ0
                  generalize q - 1 = Q0 at hQ0 ⊢
                  obtain ⟨eT1, eT2⟩ := two_digits hYp hQ1 hR1.symm hQ0
                  have eX : X / 4294967296 * 4294967296 + X % 4294967296 = X := Nat.div_add_mod' X 4294967296
                  rw [eX, hN, ← hY, Nat.mul_div_mul_right _ _ (p2_pos s)] at eT1
                  rw [eX, hN, ← hY, Nat.mul_mod_mul_right] at eT2
                  have hNy : (hh * 18446744073709551616 + x) / y < 18446744073709551616 := by
                    rw [Nat.div_lt_iff_lt_mul (by omega)]; omega
                  rw [Int.toNat_natCast, eR R1 _ Q0 u0b hQ0, show IntKind.u64.bits = 64 from rfl, shr_nat hs64, ← hY, eT2, Nat.mul_div_cancel _ (p2_pos s), IntWalk.u64_in ((Q1 : Int) * 4294967296) (by omega), IntWalk.u64_in _ (by omega)]
                  refine ⟨by omega, ?_⟩
                  have h : k (.tup [.int .u64 (((hh : Int) * 18446744073709551616 + x) / y), .int .u64 (((hh : Int) * 18446744073709551616 + x) % y)]) [] := h
                  have e1 : ((hh : Int) * 18446744073709551616 + x) / y = (Q1 : Int) * 4294967296 + Q0 := by
                    have : ((hh : Int) * 18446744073709551616 + x) / y = (((hh * 18446744073709551616 + x) / y : Nat) : Int) := by
                      rw [Int.natCast_ediv] <;> first | rfl | (congr 1; omega)
                    rw [this, ← eT1]; omega
                  have e2 : ((hh : Int) * 18446744073709551616 + x) % y = (((hh * 18446744073709551616 + x) % y : Nat) : Int) := by
                    rw [Int.natCast_emod] <;> first | rfl | (congr 1; omega)
                  rw [e1, e2] at h
                  exact ans_ii h
                · simp only [leS_mk, leL_cons, leL_nil, le_junk, le_int, le_bool, le_nil, leLL_nil, leLL_cons, leH_cons, leH_nil, leH1_box, leH1_own, leH1_gone, le_vs, le_agg, le_tup, le_ptr, le_own, le_xp, le_fn, le_opt, le_val, le_elem, le_nil_own, le_nil_vs, leH_ghost, leL_chunk, leXL_id, bnd_int, bnd_bool, bnd_val, bnd_nil, bnd_junk, bnd_vs, bnd_xp, bnd_agg, bnd_tup, bnd_ptr, bnd_own, bnd_elem, bnd_fn, bnd_iface, bnd_opt, bndL_nil, bndL_cons, lenH_cons, lenH_nil, imp_self, implies_true, true_and, and_true]
              · have hc : ¬ (4294967296 ≤ q ∨ 4294967296 * r + X % 4294967296 < q * (Y % 4294967296)) := fun hh => by
                  have := (cnd q r _ hr u0b).2 hh
                  rw [hc] at this; cases this
                have hQ0 := dig_end hd y1p (by omega)
                rw [eY] at hQ0
                generalize q = Q0 at hQ0 ⊢
                obtain ⟨eT1, eT2⟩ := two_digits hYp hQ1 hR1.symm hQ0
                have eX : X / 4294967296 * 4294967296 + X % 4294967296 = X := Nat.div_add_mod' X 4294967296
                rw [eX, hN, ← hY, Nat.mul_div_mul_right _ _ (p2_pos s)] at eT1
                rw [eX, hN, ← hY, Nat.mul_mod_mul_right] at eT2
                have hNy : (hh * 18446744073709551616 + x) / y < 18446744073709551616 := by
                  rw [Nat.div_lt_iff_lt_mul (by omega)]; omega
                rw [Int.toNat_natCast, eR R1 _ Q0 u0b hQ0, show IntKind.u64.bits = 64 from rfl, shr_nat hs64, ← hY, eT2, Nat.mul_div_cancel _ (p2_pos s), IntWalk.u64_in ((Q1 : Int) * 4294967296) (by omega), IntWalk.u64_in _ (by omega)]
                refine ⟨by omega, ?_⟩
                have h : k (.tup [.int .u64 (((hh : Int) * 18446744073709551616 + x) / y), .int .u64 (((hh : Int) * 18446744073709551616 + x) % y)]) [] := h
                have e1 : ((hh : Int) * 18446744073709551616 + x) / y = (Q1 : Int) * 4294967296 + Q0 := by
                  have : ((hh : Int) * 18446744073709551616 + x) / y = (((hh * 18446744073709551616 + x) / y : Nat) : Int) := by
                    rw [Int.natCast_ediv] <;> first | rfl | (congr 1; omega)
                  rw [this, ← eT1]; omega
                have e2 : ((hh : Int) * 18446744073709551616 + x) % y = (((hh * 18446744073709551616 + x) % y : Nat) : Int) := by
                  rw [Int.natCast_emod] <;> first | rfl | (congr 1; omega)
                rw [e1, e2] at h
                exact ans_ii h
          · simp only [leS_mk, leL_cons, leL_nil, le_junk, le_int, le_bool, le_nil, leLL_nil, leLL_cons, leH_cons, leH_nil, leH1_box, leH1_own, leH1_gone, le_vs, le_agg, le_tup, le_ptr, le_own, le_xp, le_fn, le_opt, le_val, le_elem, le_nil_own, le_nil_vs, leH_ghost, leL_chunk, leXL_id, bnd_int, bnd_bool, bnd_val, bnd_nil, bnd_junk, bnd_vs, bnd_xp, bnd_agg, bnd_tup, bnd_ptr, bnd_own, bnd_elem, bnd_fn, bnd_iface, bnd_opt, bndL_nil, bndL_cons, lenH_cons, lenH_nil, imp_self, implies_true, true_and, and_true]
        · have hc : ¬ (4294967296 ≤ q ∨ 4294967296 * r + X / 4294967296 < q * (Y % 4294967296)) := fun hh => by
            have := (cnd q r _ hr u1b).2 hh
            rw [hc] at this; cases this
          have hQ1 := dig_end hd y1p (by omega)
          rw [eY] at hQ1
          refine ⟨by omega, ?_⟩
          generalize q = Q1 at hQ1 ⊢
          have hR1Y : (A * 4294967296 + X / 4294967296) % Y < Y := Nat.mod_lt _ hYp
          rw [eR A _ Q1 u1b hQ1]
          generalize hR1 : (A * 4294967296 + X / 4294967296) % Y = R1 at hR1Y ⊢
          rw [eq0 R1 hR1Y, er0 R1 hR1Y]
          refine Loop.keep [2, 5, 0, 0, 3, 0, 1] (Nat × Nat) (fun x => [(18, .int .u64 x.1), (16, .int .u64 x.2)]) (fun _ => []) [] (fun x => DigInv (Y / 4294967296) (Y % 4294967296) R1 (X % 4294967296) x.1 x.2 ∧ x.2 < 4294967296) (fun x => x.1) ?_ ?_
          · refine ⟨(R1 / (Y / 4294967296), R1 - R1 / (Y / 4294967296) * (Y / 4294967296)), start R1 (X % 4294967296) hR1Y u0b, ?_⟩
            dsimp only [r_end, r_end1, r_nil, r_op, r_opg, r_runOp, r_op0, r_yld0, r_yld1, r_y, r_rbeg, r_rend, r_rend1, r_rfrm, r_rfrm1, r_range, r_rangeK, r_rangeE, r_draw, r_dnil, r_dop, r_dopg, r_dplq, r_dplh, r_dq, r_dq0, r_dcl1, r_dcl0, r_dct1, r_dct0, r_dgd, r_dgq1, r_dgq0, r_dctG, r_op1, r_eff, r_eff0, r_call, r_call0, r_inl, r_g, r_gq, r_gc, r_effg, r_effg0, r_callg, r_callg0, r_fin, r_pre, r_imp, r_all, r_ex, r_fing, r_preg, r_exg, r_inBlock, r_inLoop, r_frame, r_frame1, r_skip, r_stuck, r_region, r_seq, r_cond, r_cond1, r_block, r_exit, r_exit1, r_exit2, r_ret, r_loop, s_args0, s_args1, s_xt, s_xc, padL, blankL, callee, callArgs, eff, ctOf, getL, setL, S.put, S.upd, unopts, unopt, unoptsO, unoptsB, lazyO, guardOf, gbool, eMov, eNot, eNeg, eConv, eExt, eLenArr, eLen, eLenStr, eEqb, eEqv, allEq, eNil, negIf, eBool2, eCmp, eAri, ari, eBit, eDiv, eSh, eMinMax, foldMin, foldMax, kEq, pure1, cmpB, VO.quiet, resVals, resVal, tupled, popRet, popTo, cond, Option.bind, Option.map, eNew, eBox, asCells, lenH, snocH, eFieldAddr, eField, eLoad, cellsAt, getH, setH, dropL, takeL, mkAgg, lenL, lenS, shift, shiftL, shiftH, viewN, viewL, view, andT, junks, List.append_nil, Nat.beq, eIdxAddr, eIdxArr, idxN_0, idxN_1, idxN_2, idxN_3, eIndex, eStore, storeAt, spliceL, ones, one, eSlice, eSliceArr, bounds, subLo_z, addLo_z, subLo_one, addLo_one, eMake, eAppend, readS, repL, buildCells, chunk, purgeL, purgeLL, purgeH, purge, refs, refsL, List.cons_append, List.nil_append, wrOps, wrAl, wrDops, wrC, junkAt, putAll, putHs, headOf, headK, keepG, List.append_eq, headX, chkP, apartP, apartB, blk, strip, runAl, AL.ho, yld, putPs, lenN, findR, notRound, jumpK, jumpPT, jcode, List.map_cons, List.map_nil, ite_self, reduceIte]
            simp only [leS_mk, leL_cons, leL_nil, le_junk, le_int, le_bool, le_nil, leLL_nil, leLL_cons, leH_cons, leH_nil, leH1_box, leH1_own, leH1_gone, le_vs, le_agg, le_tup, le_ptr, le_own, le_xp, le_fn, le_opt, le_val, le_elem, le_nil_own, le_nil_vs, leH_ghost, leL_chunk, leXL_id, bnd_int, bnd_bool, bnd_val, bnd_nil, bnd_junk, bnd_vs, bnd_xp, bnd_agg, bnd_tup, bnd_ptr, bnd_own, bnd_elem, bnd_fn, bnd_iface, bnd_opt, bndL_nil, bndL_cons, lenH_cons, lenH_nil, imp_self, implies_true, true_and, and_true]
          · rintro ⟨q, r⟩ ⟨hd, hr⟩
            dsimp only at hd hr
            dsimp only [r_end, r_end1, r_nil, r_op, r_opg, r_runOp, r_op0, r_yld0, r_yld1, r_y, r_rbeg, r_rend, r_rend1, r_rfrm, r_rfrm1, r_range, r_rangeK, r_rangeE, r_draw, r_dnil, r_dop, r_dopg, r_dplq, r_dplh, r_dq, r_dq0, r_dcl1, r_dcl0, r_dct1, r_dct0, r_dgd, r_dgq1, r_dgq0, r_dctG, r_op1, r_eff, r_eff0, r_call, r_call0, r_inl, r_g, r_gq, r_gc, r_effg, r_effg0, r_callg, r_callg0, r_fin, r_pre, r_imp, r_all, r_ex, r_fing, r_preg, r_exg, r_inBlock, r_inLoop, r_frame, r_frame1, r_skip, r_stuck, r_region, r_seq, r_cond, r_cond1, r_block, r_exit, r_exit1, r_exit2, r_ret, r_loop, s_args0, s_args1, s_xt, s_xc, padL, blankL, callee, callArgs, eff, ctOf, getL, setL, S.put, S.upd, unopts, unopt, unoptsO, unoptsB, lazyO, guardOf, gbool, eMov, eNot, eNeg, eConv, eExt, eLenArr, eLen, eLenStr, eEqb, eEqv, allEq, eNil, negIf, eBool2, eCmp, eAri, ari, eBit, eDiv, eSh, eMinMax, foldMin, foldMax, kEq, pure1, cmpB, VO.quiet, resVals, resVal, tupled, popRet, popTo, cond, Option.bind, Option.map, eNew, eBox, asCells, lenH, snocH, eFieldAddr, eField, eLoad, cellsAt, getH, setH, dropL, takeL, mkAgg, lenL, lenS, shift, shiftL, shiftH, viewN, viewL, view, andT, junks, List.append_nil, Nat.beq, eIdxAddr, eIdxArr, idxN_0, idxN_1, idxN_2, idxN_3, eIndex, eStore, storeAt, spliceL, ones, one, eSlice, eSliceArr, bounds, subLo_z, addLo_z, subLo_one, addLo_one, eMake, eAppend, readS, repL, buildCells, chunk, purgeL, purgeLL, purgeH, purge, refs, refsL, List.cons_append, List.nil_append, wrOps, wrAl, wrDops, wrC, junkAt, putAll, putHs, headOf, headK, keepG, List.append_eq, headX, chkP, apartP, apartB, blk, strip, runAl, AL.ho, yld, putPs, lenN, findR, notRound, jumpK, jumpPT, jcode, List.map_cons, List.map_nil, ite_self, reduceIte]
            simp only [true_and, and_true, imp_self, implies_true, decide_eq_true_eq, decide_eq_false_iff_not, Nat.reduceAdd, Nat.reduceLeDiff, Bool.not_not, reduceCtorEq, false_imp_iff, Bool.not_eq_true', Bool.not_eq_false', Bool.false_eq_true, and_self, forall_const, ne_eq, not_false_eq_true, Nat.reduceEqDiff]
            rw [cnd q r _ hr u0b]
            have hql := hd.le
            refine ⟨fun hc => ?_, fun hc => ?_⟩
            · obtain ⟨hq0, hn⟩ := dig_next hd y1p (by rw [eY]; exact hR1Y) u0b hc
              rw [dY q hq0 hql, sY1 r hr]
              refine ⟨fun hb => ?_, fun hb => ⟨(q - 1, r + Y / 4294967296), ⟨hn, by simp only; omega⟩, by simp only; omega, ?_⟩⟩
              · have hQ0 := dig_break hn y1p y0b (by omega) (by omega)
                rw [eY] at hQ0
                generalize q - 1 = Q0 at hQ0 ⊢
                obtain ⟨eT1, eT2⟩ := two_digits hYp hQ1 hR1.symm hQ0
                have eX : X / 4294967296 * 4294967296 + X % 4294967296 = X := Nat.div_add_mod' X 4294967296
                rw [eX, hN, ← hY, Nat.mul_div_mul_right _ _ (p2_pos s)] at eT1
                rw [eX, hN, ← hY, Nat.mul_mod_mul_right] at eT2
                have hNy : (hh * 18446744073709551616 + x) / y < 18446744073709551616 := by
                  rw [Nat.div_lt_iff_lt_mul (by omega)]; omega
                rw [Int.toNat_natCast, eR R1 _ Q0 u0b hQ0, show IntKind.u64.bits = 64 from rfl, shr_nat hs64, ← hY, eT2, Nat.mul_div_cancel _ (p2_pos s), IntWalk.u64_in ((Q1 : Int) * 4294967296) (by omega), IntWalk.u64_in _ (by omega)]
                refine ⟨by omega, ?_⟩
                have h : k (.tup [.int .u64 (((hh : Int) * 18446744073709551616 + x) / y), .int .u64 (((hh : Int) * 18446744073709551616 + x) % y)]) [] := h
                have e1 : ((hh : Int) * 18446744073709551616 + x) / y = (Q1 : Int) * 4294967296 + Q0 := by
                  have : ((hh : Int) * 18446744073709551616 + x) / y = (((hh * 18446744073709551616 + x) / y : Nat) : Int) := by
                    rw [Int.natCast_ediv] <;> first | rfl | (congr 1; omega)
                  rw [this, ← eT1]; omega
                have e2 : ((hh : Int) * 18446744073709551616 + x) % y = (((hh * 18446744073709551616 + x) % y : Nat) : Int) := by
                  rw [Int.natCast_emod] <;> first | rfl | (congr 1; omega)
                rw [e1, e2] at h
                exact ans_ii h
              · simp only [leS_mk, leL_cons, leL_nil, le_junk, le_int, le_bool, le_nil, leLL_nil, leLL_cons, leH_cons, leH_nil, leH1_box, leH1_own, leH1_gone, le_vs, le_agg, le_tup, le_ptr, le_own, le_xp, le_fn, le_opt, le_val, le_elem, le_nil_own, le_nil_vs, leH_ghost, leL_chunk, leXL_id, bnd_int, bnd_bool, bnd_val, bnd_nil, bnd_junk, bnd_vs, bnd_xp, bnd_agg, bnd_tup, bnd_ptr, bnd_own, bnd_elem, bnd_fn, bnd_iface, bnd_opt, bndL_nil, bndL_cons, lenH_cons, lenH_nil, imp_self, implies_true, true_and, and_true]
            · have hc : ¬ (4294967296 ≤ q ∨ 4294967296 * r + X % 4294967296 < q * (Y % 4294967296)) := fun hh => by
                have := (cnd q r _ hr u0b).2 hh
                rw [hc] at this; cases this
              have hQ0 := dig_end hd y1p (by omega)
              rw [eY] at hQ0
              generalize q = Q0 at hQ0 ⊢
              obtain ⟨eT1, eT2⟩ := two_digits hYp hQ1 hR1.symm hQ0
              have eX : X / 4294967296 * 4294967296 + X % 4294967296 = X := Nat.div_add_mod' X 4294967296
              rw [eX, hN, ← hY, Nat.mul_div_mul_right _ _ (p2_pos s)] at eT1
              rw [eX, hN, ← hY, Nat.mul_mod_mul_right] at eT2
              have hNy : (hh * 18446744073709551616 + x) / y < 18446744073709551616 := by
                rw [Nat.div_lt_iff_lt_mul (by omega)]; omega
              rw [Int.toNat_natCast, eR R1 _ Q0 u0b hQ0, show IntKind.u64.bits = 64 from rfl, shr_nat hs64, ← hY, eT2, Nat.mul_div_cancel _ (p2_pos s), IntWalk.u64_in ((Q1 : Int) * 4294967296) (by omega), IntWalk.u64_in _ (by omega)]
              refine ⟨by omega, ?_⟩
              have h : k (.tup [.int .u64 (((hh : Int) * 18446744073709551616 + x) / y), .int .u64 (((hh : Int) * 18446744073709551616 + x) % y)]) [] := h
              have e1 : ((hh : Int) * 18446744073709551616 + x) / y = (Q1 : Int) * 4294967296 + Q0 := by
                have : ((hh : Int) * 18446744073709551616 + x) / y = (((hh * 18446744073709551616 + x) / y : Nat) : Int) := by
                  rw [Int.natCast_ediv] <;> first | rfl | (congr 1; omega)
                rw [this, ← eT1]; omega
              have e2 : ((hh : Int) * 18446744073709551616 + x) % y = (((hh * 18446744073709551616 + x) % y : Nat) : Int) := by
                rw [Int.natCast_emod] <;> first | rfl | (congr 1; omega)
              rw [e1, e2] at h
              exact ans_ii h
  · exact h.1.elim
end Go.Proofs.Ytdognchniaojoaa
