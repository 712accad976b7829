/- Intervals, walked: the reference's fractions. -/
import Derived.Test.YtdognchniaojoaaSP4
import Derived.Test.YtdognchniaojoaaR6
import Derived.Test.YtdognchniaojoaaP1
set_option linter.all false
namespace Go.Proofs.Ytdognchniaojoaa
open Go Go.Vx
set_option maxRecDepth 100000
set_option maxHeartbeats 4000000

def v48 : VF := { ntmps := 16, res := [.cell 2 true 3], body :=
 (.seq (.region [⟨(some 2), none, (.alloc [(.bool false), .nil, .nil]), []⟩])
 (.seq (.seq (.region [⟨(some 3), none, .mov, [.tm 0]⟩,
  ⟨(some 4), none, (.cmp .lss), [.tm 3, .cn (.int .i64 0)]⟩])
 (.cond (.tm 4) (.seq (.region [⟨(some 5), none, .mov, [.tm 0]⟩,
  ⟨(some 6), none, .neg, [.tm 5]⟩,
  ⟨(some 7), none, (.conv .u64), [.tm 6]⟩,
  ⟨(some 8), none, (.call 55), [.tm 7]⟩,
  ⟨(some 9), none, (.call 55), [.cn (.int .u64 1)]⟩,
  ⟨(some 10), none, (.build [(.bool false), .nil, .nil] [(0, 1), (1, 1), (2, 1)]), [.cn (.bool true), .tm 8, .tm 9]⟩,
  ⟨none, none, (.store 3), [.tm 2, .tm 10]⟩])
 .ret)
  .skip))
 (.seq (.region [⟨(some 11), none, .mov, [.tm 0]⟩,
  ⟨(some 12), none, (.conv .u64), [.tm 11]⟩,
  ⟨(some 13), none, (.call 55), [.tm 12]⟩,
  ⟨(some 14), none, (.call 55), [.cn (.int .u64 1)]⟩,
  ⟨(some 15), none, (.build [(.bool false), .nil, .nil] [(1, 1), (2, 1)]), [.tm 13, .tm 14]⟩,
  ⟨none, none, (.store 3), [.tm 2, .tm 15]⟩])
 .ret))) }
theorem v48_is : vfunc Try.prog Try.f48 = some v48 := by kernel_rfl
def v46 : VF := { ntmps := 16, res := [.cell 4 true 3], body :=
 (.seq (.region [⟨(some 4), none, (.alloc [(.bool false), .nil, .nil]), []⟩])
 (.seq (.region [⟨(some 8), none, .mov, [.tm 0]⟩,
  ⟨(some 9), none, (.call 48), [.tm 8]⟩,
  ⟨(some 10), none, .mov, [.tm 1]⟩,
  ⟨(some 11), none, (.call 48), [.tm 10]⟩,
  ⟨(some 12), none, (.call 68), [.tm 9, .tm 11]⟩,
  ⟨(some 7), none, .mov, [.tm 12]⟩,
  ⟨(some 13), none, (.ext 0), [.tm 7]⟩,
  ⟨(some 14), none, (.ext 1), [.tm 7]⟩,
  ⟨(some 5), none, (.alloc [(.bool false), .nil, .nil]), []⟩,
  ⟨none, none, (.store 3), [.tm 5, .tm 13]⟩,
  ⟨(some 6), none, .mov, [.tm 14]⟩])
 (.seq (.region [⟨(some 15), none, (.load true 3), [.tm 5]⟩,
  ⟨none, none, (.store 3), [.tm 4, .tm 15]⟩])
 .ret))) }
theorem v46_is : vfunc Try.prog Try.f46 = some v46 := by kernel_rfl
def v73 : VF := { ntmps := 32, res := [.tmp 2, .tmp 3], body :=
 (.seq (.region [⟨(some 1), none, .box, [.tm 0]⟩,
  ⟨(some 2), none, .mov, [.cn (.int .i64 0)]⟩,
  ⟨(some 3), none, .mov, [.cn (.bool false)]⟩])
 (.seq (.region [⟨(some 10), none, (.load true 3), [.tm 1]⟩,
  ⟨(some 11), none, (.call 88), [.tm 10]⟩,
  ⟨(some 9), none, .mov, [.tm 11]⟩,
  ⟨(some 12), none, (.ext 0), [.tm 9]⟩,
  ⟨(some 13), none, (.ext 1), [.tm 9]⟩,
  ⟨(some 14), none, (.ext 2), [.tm 9]⟩,
  ⟨(some 4), none, .mov, [.tm 12]⟩,
  ⟨(some 5), none, .mov, [.tm 13]⟩,
  ⟨(some 6), none, .mov, [.tm 14]⟩])
 (.seq (.region [⟨(some 16), none, .mov, [.tm 5]⟩,
  ⟨(some 17), none, (.call 57), [.tm 16]⟩,
  ⟨(some 15), none, .mov, [.tm 17]⟩,
  ⟨(some 18), none, (.ext 0), [.tm 15]⟩,
  ⟨(some 19), none, (.ext 1), [.tm 15]⟩,
  ⟨(some 7), none, .mov, [.tm 18]⟩,
  ⟨(some 8), none, .mov, [.tm 19]⟩])
 (.seq (.seq (.region [⟨(some 20), none, .mov, [.tm 8]⟩,
  ⟨(some 21), none, (.cmp .neq), [.tm 20, .cn (.int .i64 0)]⟩,
  ⟨(some 22), none, .mov, [.tm 21]⟩,
  ⟨(some 23), (some (22, false)), .mov, [.tm 7]⟩,
  ⟨(some 24), (some (22, false)), (.cmp .gtr), [.tm 23, .cn (.int .u64 4611686018427387904)]⟩,
  ⟨(some 25), none, .or, [.tm 22, .tm 24]⟩])
 (.cond (.tm 25) (.seq (.region [⟨(some 2), none, .mov, [.cn (.int .i64 0)]⟩,
  ⟨(some 3), none, .mov, [.cn (.bool false)]⟩])
 .ret)
  .skip))
 (.seq (.seq (.region [⟨(some 26), none, .mov, [.tm 4]⟩])
 (.cond (.tm 26) (.seq (.region [⟨(some 27), none, .mov, [.tm 7]⟩,
  ⟨(some 28), none, (.conv .i64), [.tm 27]⟩,
  ⟨(some 29), none, .neg, [.tm 28]⟩,
  ⟨(some 2), none, .mov, [.tm 29]⟩,
  ⟨(some 3), none, .mov, [.cn (.bool true)]⟩])
 .ret)
  .skip))
 (.seq (.region [⟨(some 30), none, .mov, [.tm 7]⟩,
  ⟨(some 31), none, (.conv .i64), [.tm 30]⟩,
  ⟨(some 2), none, .mov, [.tm 31]⟩,
  ⟨(some 3), none, .mov, [.cn (.bool true)]⟩])
 .ret)))))) }
theorem v73_is : vfunc Try.prog Try.f73 = some v73 := by kernel_rfl
def v74 : VF := { ntmps := 27, res := [.tmp 2, .tmp 3], body :=
 (.seq (.region [⟨(some 1), none, .box, [.tm 0]⟩,
  ⟨(some 2), none, .mov, [.cn (.int .i64 0)]⟩,
  ⟨(some 3), none, .mov, [.cn (.bool false)]⟩])
 (.seq (.region [⟨(some 7), none, (.fieldAddr 0), [.tm 1]⟩,
  ⟨(some 8), none, (.load false 1), [.tm 7]⟩,
  ⟨(some 9), none, .not, [.tm 8]⟩,
  ⟨(some 10), none, .mov, [.tm 9]⟩,
  ⟨(some 11), (some (10, true)), (.fieldAddr 1), [.tm 1]⟩,
  ⟨(some 12), (some (10, true)), (.load false 1), [.tm 11]⟩,
  ⟨(some 13), (some (10, true)), .len, [.tm 12]⟩,
  ⟨(some 14), (some (10, true)), (.cmp .gtr), [.tm 13, .cn (.int .i64 0)]⟩,
  ⟨(some 15), none, .and, [.tm 10, .tm 14]⟩,
  ⟨(some 16), none, (.fieldAddr 1), [.tm 1]⟩,
  ⟨(some 17), none, (.load false 1), [.tm 16]⟩,
  ⟨(some 18), none, (.fieldAddr 2), [.tm 1]⟩,
  ⟨(some 19), none, (.load false 1), [.tm 18]⟩,
  ⟨(some 20), none, (.build [(.bool false), .nil, .nil] [(0, 1), (1, 1), (2, 1)]), [.tm 15, .tm 17, .tm 19]⟩,
  ⟨(some 21), none, (.call 73), [.tm 20]⟩,
  ⟨(some 6), none, .mov, [.tm 21]⟩,
  ⟨(some 22), none, (.ext 0), [.tm 6]⟩,
  ⟨(some 23), none, (.ext 1), [.tm 6]⟩,
  ⟨(some 4), none, .mov, [.tm 22]⟩,
  ⟨(some 5), none, .mov, [.tm 23]⟩])
 (.seq (.region [⟨(some 24), none, .mov, [.tm 4]⟩,
  ⟨(some 25), none, .neg, [.tm 24]⟩,
  ⟨(some 26), none, .mov, [.tm 5]⟩,
  ⟨(some 2), none, .mov, [.tm 25]⟩,
  ⟨(some 3), none, .mov, [.tm 26]⟩])
 .ret))) }
theorem v74_is : vfunc Try.prog Try.f74 = some v74 := by kernel_rfl
def v49 : VF := { ntmps := 75, res := [.cell 2 true 2, .tmp 3], body :=
 (.seq (.region [⟨(some 2), none, (.alloc [(.int .i64 0), (.int .i64 0)]), []⟩,
  ⟨(some 3), none, .mov, [.cn (.int .i64 0)]⟩])
 (.seq (.draw [(4, .box [(.bool false), .nil, .nil]), (5, .box [(.bool false), .nil, .nil])] [⟨⟨(some 13), none, .mov, [.tm 0]⟩, []⟩,
  ⟨⟨(some 14), none, (.idxAddr 3), [.tm 13, .cn (.int .i64 0)]⟩, []⟩,
  ⟨⟨(some 15), none, (.load true 3), [.tm 14]⟩, []⟩,
  ⟨⟨(some 16), none, .mov, [.tm 0]⟩, []⟩,
  ⟨⟨(some 17), none, (.idxAddr 3), [.tm 16, .cn (.int .i64 0)]⟩, []⟩,
  ⟨⟨(some 18), none, (.load true 3), [.tm 17]⟩, []⟩,
  ⟨⟨none, none, (.store 3), [.tm 4, .tm 15]⟩, [.tm 17]⟩,
  ⟨⟨none, none, (.store 3), [.tm 5, .tm 18]⟩, []⟩])
 (.seq (.seq (.region [⟨(some 6), none, .mov, [.cn (.int .i64 1)]⟩])
 (.block 0 (.loop (.seq (.seq (.region [⟨(some 19), none, .mov, [.tm 6]⟩,
  ⟨(some 20), none, .mov, [.tm 0]⟩,
  ⟨(some 21), none, .len, [.tm 20]⟩,
  ⟨(some 22), none, (.cmp .lss), [.tm 19, .tm 21]⟩])
 (.cond (.tm 22) .skip
  (.exit 0)))
 (.seq (.block 1 (.seq (.draw [] [⟨⟨(some 26), none, .mov, [.tm 0]⟩, []⟩,
  ⟨⟨(some 27), none, .mov, [.tm 6]⟩, []⟩,
  ⟨⟨(some 28), none, (.idxAddr 3), [.tm 26, .tm 27]⟩, []⟩,
  ⟨⟨(some 29), none, (.load true 3), [.tm 28]⟩, []⟩,
  ⟨⟨(some 30), none, (.load true 3), [.tm 4]⟩, []⟩,
  ⟨⟨(some 31), none, (.call 72), [.tm 29, .tm 30]⟩, []⟩,
  ⟨⟨(some 25), none, .mov, [.tm 31]⟩, []⟩,
  ⟨⟨(some 32), none, (.ext 0), [.tm 25]⟩, []⟩,
  ⟨⟨(some 33), none, (.ext 1), [.tm 25]⟩, []⟩,
  ⟨⟨(some 7), none, .mov, [.tm 32]⟩, []⟩,
  ⟨⟨(some 8), none, .mov, [.tm 33]⟩, []⟩])
 (.seq (.seq (.region [⟨(some 34), none, .mov, [.tm 7]⟩,
  ⟨(some 35), none, (.cmp .lss), [.tm 34, .cn (.int .i64 0)]⟩])
 (.cond (.tm 35) (.region [⟨(some 36), none, .mov, [.tm 0]⟩,
  ⟨(some 37), none, .mov, [.tm 6]⟩,
  ⟨(some 38), none, (.idxAddr 3), [.tm 36, .tm 37]⟩,
  ⟨(some 39), none, (.load true 3), [.tm 38]⟩,
  ⟨none, none, (.store 3), [.tm 4, .tm 39]⟩])
  .skip))
 (.seq (.draw [] [⟨⟨(some 41), none, .mov, [.tm 0]⟩, []⟩,
  ⟨⟨(some 42), none, .mov, [.tm 6]⟩, []⟩,
  ⟨⟨(some 43), none, (.idxAddr 3), [.tm 41, .tm 42]⟩, []⟩,
  ⟨⟨(some 44), none, (.load true 3), [.tm 43]⟩, []⟩,
  ⟨⟨(some 45), none, (.load true 3), [.tm 5]⟩, []⟩,
  ⟨⟨(some 46), none, (.call 72), [.tm 44, .tm 45]⟩, []⟩,
  ⟨⟨(some 40), none, .mov, [.tm 46]⟩, []⟩,
  ⟨⟨(some 47), none, (.ext 0), [.tm 40]⟩, []⟩,
  ⟨⟨(some 48), none, (.ext 1), [.tm 40]⟩, []⟩,
  ⟨⟨(some 7), none, .mov, [.tm 47]⟩, []⟩])
 (.seq (.region [⟨(some 49), none, .mov, [.tm 7]⟩,
  ⟨(some 50), none, (.cmp .gtr), [.tm 49, .cn (.int .i64 0)]⟩])
 (.cond (.tm 50) (.region [⟨(some 51), none, .mov, [.tm 0]⟩,
  ⟨(some 52), none, .mov, [.tm 6]⟩,
  ⟨(some 53), none, (.idxAddr 3), [.tm 51, .tm 52]⟩,
  ⟨(some 54), none, (.load true 3), [.tm 53]⟩,
  ⟨none, none, (.store 3), [.tm 5, .tm 54]⟩])
  .skip))))))
 (.region [⟨(some 23), none, .mov, [.tm 6]⟩,
  ⟨(some 24), none, (.ari .add), [.tm 23, .cn (.int .i64 1)]⟩,
  ⟨(some 6), none, .mov, [.tm 24]⟩]))))))
 (.seq (.region [⟨(some 56), none, (.load true 3), [.tm 4]⟩,
  ⟨(some 57), none, (.call 73), [.tm 56]⟩,
  ⟨(some 55), none, .mov, [.tm 57]⟩,
  ⟨(some 58), none, (.ext 0), [.tm 55]⟩,
  ⟨(some 59), none, (.ext 1), [.tm 55]⟩,
  ⟨(some 9), none, .mov, [.tm 58]⟩,
  ⟨(some 10), none, .mov, [.tm 59]⟩])
 (.seq (.region [⟨(some 61), none, (.load true 3), [.tm 5]⟩,
  ⟨(some 62), none, (.call 74), [.tm 61]⟩,
  ⟨(some 60), none, .mov, [.tm 62]⟩,
  ⟨(some 63), none, (.ext 0), [.tm 60]⟩,
  ⟨(some 64), none, (.ext 1), [.tm 60]⟩,
  ⟨(some 11), none, .mov, [.tm 63]⟩,
  ⟨(some 12), none, .mov, [.tm 64]⟩])
 (.seq (.seq (.region [⟨(some 65), none, .mov, [.tm 10]⟩,
  ⟨(some 66), none, .not, [.tm 65]⟩,
  ⟨(some 67), none, .mov, [.tm 66]⟩,
  ⟨(some 68), (some (67, false)), .mov, [.tm 12]⟩,
  ⟨(some 69), (some (67, false)), .not, [.tm 68]⟩,
  ⟨(some 70), none, .or, [.tm 67, .tm 69]⟩])
 (.cond (.tm 70) (.seq (.region [⟨(some 71), none, (.build [(.int .i64 0), (.int .i64 0)] []), []⟩,
  ⟨none, none, (.store 2), [.tm 2, .tm 71]⟩,
  ⟨(some 3), none, .mov, [.cn (.int .i64 7)]⟩])
 .ret)
  .skip))
 (.seq (.region [⟨(some 72), none, .mov, [.tm 9]⟩,
  ⟨(some 73), none, .mov, [.tm 11]⟩,
  ⟨(some 74), none, (.build [(.int .i64 0), (.int .i64 0)] [(0, 1), (1, 1)]), [.tm 72, .tm 73]⟩,
  ⟨none, none, (.store 2), [.tm 2, .tm 74]⟩,
  ⟨(some 3), none, .mov, [.cn (.int .i64 0)]⟩])
 .ret))))))) }
theorem v49_is : vfunc Try.prog Try.f49 = some v49 := by kernel_rfl


theorem frOk_8 {p : Fr} (hd : 0 < p.2) (h1 : p.1.natAbs < 4294967296 ^ 8) (h2 : p.2 < 4294967296 ^ 8) : frOk p :=
  ⟨hd, Nat.le_trans (nl_le.2 (Nat.lt_of_le_of_lt (rnum_le _ _) h1)) (by decide), Nat.le_trans (nl_le.2 (Nat.lt_of_le_of_lt (rden_le _ _) h2)) (by decide)⟩
theorem frOk_1 {n : Int} (h : -4611686018427387904 ≤ n ∧ n ≤ 4611686018427387904) : frOk (n, 1) :=
  frOk_8 (show 0 < 1 by decide) (by dsimp only; omega) (show 1 < 4294967296 ^ 8 by decide)
theorem rnum_1 (n : Int) : rnum n 1 = n.natAbs := by simp [rnum, fg]
theorem rden_1 (n : Int) : rden n 1 = 1 := by simp [rden, fg]
theorem fl_red (p : Fr) (hd : 0 < p.2) : p.1 / (p.2 : Int) = nsg (decide (p.1 < 0)) (rnum p.1 p.2) / (rden p.1 p.2 : Int) := by
  have h1 := n_eq p.1 p.2
  have h2 := d_eq p.1 p.2
  have hg : 0 < ((fg p.1 p.2 : Nat) : Int) := by have := fg_pos (n := p.1) hd; omega
  conv => lhs; rw [h1, h2]
  exact Int.mul_ediv_mul_of_pos_left _ _ hg
theorem fl_abs {p : Fr} (hd : 0 < p.2) : (p.1 / (p.2 : Int)).natAbs ≤ rnum p.1 p.2 := by
  rw [fl_red p hd]
  have hr := rden_pos (n := p.1) hd
  have := quo_absM (x := nsg (decide (p.1 < 0)) (rnum p.1 p.2)) (y := (rden p.1 p.2 : Int)) (M := (rnum p.1 p.2 : Int)) (by unfold nsg; split <;> omega) (by omega)
  omega

theorem ans_frA {k : SV → List HO → Prop} {al : Bool} {hp : List HO} {p : Fr} (h : k (.agg (encF true p)) []) : answers al k (.agg (encF true p)) hp :=
  ans_le h (le_self _ ⟨trivial, trivial, trivial, trivial⟩) (fun _ => by simp [encF, natV, freshS, freshL])
theorem ans_ib' {k : SV → List HO → Prop} {al : Bool} {hp : List HO} {κ : IntKind} {x : Int} {b : Bool} (h : k (.tup [.int κ x, .bool b]) []) : answers al k (.tup [.int κ x, .bool b]) hp :=
  ans_le h (le_self _ ⟨trivial, trivial, trivial⟩) (fun _ => by simp [freshS, freshL])

def quoiC : Ctr := { alias := false, of := fun l => match l with
  | [.int .i64 n] => .pre (-4611686018427387904 ≤ n ∧ n ≤ 4611686018427387904) (.fin (.agg (encF true (n, 1))) [])
  | _ => noC }
def ofrC : Ctr := { alias := false, of := fun l => match l with
  | [.int .i64 n, .int .i64 d] => .pre ((-4611686018427387904 ≤ n ∧ n ≤ 4611686018427387904) ∧ 0 < d ∧ d ≤ 4611686018427387904) (.fin (.agg (encF true (n, d.toNat))) [])
  | _ => noC }
def floC (up : Bool) : Ctr := { alias := false, of := fun l => match l with
  | [.agg [.bool neg, .vs _ z1 n1 s1 g1, .vs _ z2 n2 s2 g2]] => .ex Fr fun p => .pre (fracP p neg z1 n1 s1 g1 z2 n2 s2 g2) (.fin (.tup [.int .i64 (rndF up p.1 p.2).1, .bool (rndF up p.1 p.2).2]) [])
  | _ => noC }

def floorC := floC false
def ceilC := floC true

def S1 : Env := { ct := fun n => match n with | 55 => some ofC | 88 => some qfloorC | 57 => some smallC | _ => none, fn := fun _ => none, meth := fun _ _ => none }
theorem S1_ct55 : S1.ct 55 = some ofC := rfl
theorem S1_ct88 : S1.ct 88 = some qfloorC := rfl
theorem S1_ct57 : S1.ct 57 = some smallC := rfl
theorem S1_ok : EnvOk Try.prog S1 := by
  refine ⟨fun f c h => ?_, fun f vf h => ?_, fun _ _ => rfl, by kernel_rfl⟩
  · simp only [S1] at h
    split at h
    · cases h; exact ⟨of_ok, Try.f55, Try.func55, by kernel_rfl, by kernel_rfl⟩
    · cases h; exact ⟨qfloor_ok, Try.f88, Try.func88, by kernel_rfl, by kernel_rfl⟩
    · cases h; exact ⟨small_ok, Try.f57, Try.func57, by kernel_rfl, by kernel_rfl⟩
    · cases h
  · cases h


theorem quoi_ok : quoiC.ok Try.prog 48 := by
  refine contract Try.func48 v48_is S1_ok 200 quoiC fun args k h => ⟨args, ?_⟩
  simp only [quoiC] at h
  split at h
  · rename_i n
    obtain ⟨hn, h⟩ := h
    refine ⟨by simp [leL, le], ?_⟩
    dsimp only [v48, S1_ct55, ofC, natS, r_end, r_end1, r_nil, r_op, r_opg, r_runOp, r_op0, r_yld0, r_yld1, r_y, r_rbeg, r_rend, r_rend1, r_rfrm, r_rfrm1, r_range, r_rangeK, r_rangeE, r_draw, r_dnil, r_dop, r_dopg, r_dplq, r_dplh, r_dq, r_dq0, r_dcl1, r_dcl0, r_dct1, r_dct0, r_dgd, r_dgq1, r_dgq0, r_dctG, r_op1, r_eff, r_eff0, r_call, r_call0, r_inl, r_g, r_gq, r_gc, r_effg, r_effg0, r_callg, r_callg0, r_fin, r_pre, r_imp, r_all, r_ex, r_fing, r_preg, r_exg, r_inBlock, r_inLoop, r_frame, r_frame1, r_skip, r_stuck, r_region, r_seq, r_cond, r_cond1, r_block, r_exit, r_exit1, r_exit2, r_ret, r_loop, s_args0, s_args1, s_xt, s_xc, padL, blankL, callee, callArgs, eff, ctOf, getL, setL, S.put, S.upd, unopts, unopt, unoptsO, unoptsB, lazyO, guardOf, gbool, eMov, eNot, eNeg, eConv, eExt, eLenArr, eLen, eLenStr, eEqb, eEqv, allEq, eNil, negIf, eBool2, eCmp, eAri, ari, eBit, eDiv, eSh, eMinMax, foldMin, foldMax, kEq, pure1, cmpB, VO.quiet, resVals, resVal, tupled, popRet, popTo, cond, Option.bind, Option.map, eNew, eBox, asCells, lenH, snocH, eFieldAddr, eField, eLoad, cellsAt, getH, setH, dropL, takeL, mkAgg, lenL, lenS, shift, shiftL, shiftH, viewN, viewL, view, andT, junks, List.append_nil, Nat.beq, eIdxAddr, eIdxArr, idxN_0, idxN_1, idxN_2, idxN_3, eIndex, eStore, storeAt, spliceL, ones, one, eSlice, eSliceArr, bounds, subLo_z, addLo_z, subLo_one, addLo_one, eMake, eAppend, readS, repL, buildCells, chunk, purgeL, purgeLL, purgeH, purge, refs, refsL, List.cons_append, List.nil_append, wrOps, wrAl, wrDops, wrC, junkAt, putAll, putHs, headOf, headK, keepG, List.append_eq, headX, chkP, apartP, apartB, blk, strip, runAl, AL.ho, yld, putPs, lenN, findR, notRound, jumpK, jumpPT, jcode, List.map_cons, List.map_nil, ite_self, reduceIte]
    simp only [true_and, and_true, imp_self, implies_true, decide_eq_true_eq, decide_eq_false_iff_not, Nat.reduceAdd, Nat.reduceLeDiff, Bool.not_not, reduceCtorEq, false_imp_iff, Bool.not_eq_true', Bool.not_eq_false', Bool.false_eq_true, and_self, forall_const, ne_eq, not_false_eq_true, Nat.reduceEqDiff]
    have h : k (.agg (encF true (n, 1))) [] := h
    have e : encF true (n, 1) = [.bool (decide (n < 0)), natV true false n.natAbs, natV true false 1] := by unfold encF; rw [rnum_1, rden_1]
    refine ⟨fun h0 => ?_, fun h0 => ?_⟩
    · have w1 : IntKind.u64.wrap (IntKind.i64.wrap (0 - n)) = -n := by rw [IntWalk.i64_in (0 - n) (by omega), IntWalk.u64_in _ (by omega)]; omega
      have w2 : (-n).toNat = n.natAbs := by omega
      rw [w1, w2]
      refine ⟨by omega, by decide, ?_⟩
      have h2 := ans_frA (al := quoiC.alias) (hp := [HO.box (encF true (n, 1))]) h
      rw [e, decide_eq_true h0] at h2; exact h2
    · have w1 : IntKind.u64.wrap n = n := IntWalk.u64_in _ (by omega)
      have w2 : n.toNat = n.natAbs := by omega
      rw [w1, w2]
      refine ⟨by omega, by decide, ?_⟩
      have h2 := ans_frA (al := quoiC.alias) (hp := [HO.box (encF true (n, 1))]) h
      rw [e, decide_eq_false h0] at h2; exact h2
  · exact h.1.elim

theorem flo_ok : floorC.ok Try.prog 73 := by
  refine contract Try.func73 v73_is S1_ok 200 floorC fun args k h => ?_
  simp only [floorC, ceilC, floC] at h
  split at h
  · rename_i neg t1 z1 n1 s1 g1 t2 z2 n2 s2 g2
    obtain ⟨p, hp, h⟩ := h
    refine ⟨[.agg (encF false p)], ⟨fr_le hp, trivial⟩, ?_⟩
    have hok := hp.1
    clear hp
    dsimp only [v73, S1_ct88, S1_ct57, qfloorC, smallC, natS, natV, encF, r_end, r_end1, r_nil, r_op, r_opg, r_runOp, r_op0, r_yld0, r_yld1, r_y, r_rbeg, r_rend, r_rend1, r_rfrm, r_rfrm1, r_range, r_rangeK, r_rangeE, r_draw, r_dnil, r_dop, r_dopg, r_dplq, r_dplh, r_dq, r_dq0, r_dcl1, r_dcl0, r_dct1, r_dct0, r_dgd, r_dgq1, r_dgq0, r_dctG, r_op1, r_eff, r_eff0, r_call, r_call0, r_inl, r_g, r_gq, r_gc, r_effg, r_effg0, r_callg, r_callg0, r_fin, r_pre, r_imp, r_all, r_ex, r_fing, r_preg, r_exg, r_inBlock, r_inLoop, r_frame, r_frame1, r_skip, r_stuck, r_region, r_seq, r_cond, r_cond1, r_block, r_exit, r_exit1, r_exit2, r_ret, r_loop, s_args0, s_args1, s_xt, s_xc, padL, blankL, callee, callArgs, eff, ctOf, getL, setL, S.put, S.upd, unopts, unopt, unoptsO, unoptsB, lazyO, guardOf, gbool, eMov, eNot, eNeg, eConv, eExt, eLenArr, eLen, eLenStr, eEqb, eEqv, allEq, eNil, negIf, eBool2, eCmp, eAri, ari, eBit, eDiv, eSh, eMinMax, foldMin, foldMax, kEq, pure1, cmpB, VO.quiet, resVals, resVal, tupled, popRet, popTo, cond, Option.bind, Option.map, eNew, eBox, asCells, lenH, snocH, eFieldAddr, eField, eLoad, cellsAt, getH, setH, dropL, takeL, mkAgg, lenL, lenS, shift, shiftL, shiftH, viewN, viewL, view, andT, junks, List.append_nil, Nat.beq, eIdxAddr, eIdxArr, idxN_0, idxN_1, idxN_2, idxN_3, eIndex, eStore, storeAt, spliceL, ones, one, eSlice, eSliceArr, bounds, subLo_z, addLo_z, subLo_one, addLo_one, eMake, eAppend, readS, repL, buildCells, chunk, purgeL, purgeLL, purgeH, purge, refs, refsL, List.cons_append, List.nil_append, wrOps, wrAl, wrDops, wrC, junkAt, putAll, putHs, headOf, headK, keepG, List.append_eq, headX, chkP, apartP, apartB, blk, strip, runAl, AL.ho, yld, putPs, lenN, findR, notRound, jumpK, jumpPT, jcode, List.map_cons, List.map_nil, ite_self, reduceIte]
    simp only [true_and, and_true, imp_self, implies_true, decide_eq_true_eq, decide_eq_false_iff_not, Nat.reduceAdd, Nat.reduceLeDiff, Bool.not_not, reduceCtorEq, false_imp_iff, Bool.not_eq_true', Bool.not_eq_false', Bool.false_eq_true, and_self, forall_const, ne_eq, not_false_eq_true, Nat.reduceEqDiff]
    have hN : nl (p.1 / (p.2 : Int)).natAbs ≤ 512 := Nat.le_trans (nl_mono (fl_abs hok.1)) hok.2.1
    have h : k (.tup [.int .i64 (rndB (p.1 / (p.2 : Int))).1, .bool (rndB (p.1 / (p.2 : Int))).2]) [] := h
    have s1 : p.1 < 0 → p.1 / (p.2 : Int) < 0 := fun hn => Int.ediv_neg_of_neg_of_pos hn (by have := hok.1; omega)
    have s2 : ¬ p.1 < 0 → 0 ≤ p.1 / (p.2 : Int) := fun hn => Int.ediv_nonneg (by omega) (by omega)
    refine ⟨p, fracP_self hok, by decide, by decide, by decide, (p.1 / (p.2 : Int)).natAbs, ⟨padP_nl (by omega), rfl, hN⟩, by decide, by decide, ?_⟩
    clear hN
    generalize p.1 / (p.2 : Int) = q at *
    have key : (!decide ((if q.natAbs < 18446744073709551616 then (0 : Int) else 7) = 0) || decide ((4611686018427387904 : Int) < if q.natAbs < 18446744073709551616 then (q.natAbs : Int) else 0)) = decide (4611686018427387904 < q.natAbs) := by
      by_cases hN : q.natAbs < 18446744073709551616
      · rw [if_pos hN, if_pos hN, Bool.eq_iff_iff]; simp only [decide_true, Bool.not_true, Bool.false_or, decide_eq_true_eq]; omega
      · rw [if_neg hN, if_neg hN, Bool.eq_iff_iff]; simp only [decide_eq_true_eq]; simp; omega
    rw [key]
    refine ⟨fun hb => ?_, fun hb => ⟨fun hn => ?_, fun hn => ?_⟩⟩
    · rw [decide_eq_true_eq] at hb
      rw [rndB, if_neg (by omega)] at h
      exact ans_ib' h
    · rw [decide_eq_false_iff_not] at hb
      have := s1 hn
      rw [rndB, if_pos (by omega)] at h
      have w : IntKind.i64.wrap (0 - IntKind.i64.wrap (if q.natAbs < 18446744073709551616 then (q.natAbs : Int) else 0)) = q := by
        rw [if_pos (by omega), IntWalk.i64_in ((q.natAbs : Int)) (by omega), IntWalk.i64_in _ (by omega)]; omega
      rw [w]; exact ans_ib' h
    · rw [decide_eq_false_iff_not] at hb
      have := s2 hn
      rw [rndB, if_pos (by omega)] at h
      have w : IntKind.i64.wrap (if q.natAbs < 18446744073709551616 then (q.natAbs : Int) else 0) = q := by
        rw [if_pos (by omega), IntWalk.i64_in _ (by omega)]; omega
      rw [w]; exact ans_ib' h
  · exact h.1.elim

def loQ (x : Fr) (r : List Fr) : Fr := r.foldl (fun low y => if cmpQ y.1 y.2 low.1 low.2 < 0 then y else low) x
def hiQ (x : Fr) (r : List Fr) : Fr := r.foldl (fun high y => if 0 < cmpQ y.1 y.2 high.1 high.2 then y else high) x
def spanQ (x : Fr) (r : List Fr) : Iv × Int := spanR (rndF false (loQ x r).1 (loQ x r).2) (rndF true (hiQ x r).1 (hiQ x r).2)
def spanqC : Ctr := { alias := false, of := fun l => match l with
  | [.vs _ _ n sz get] => .ex Fr fun x => .ex (List Fr) fun r => .pre (lsP 3 (encF false) n sz get (x :: r) ∧ (x :: r).length ≤ 1000 ∧ ∀ p ∈ x :: r, frOk p) (.fin (.tup [.agg (enc2 (spanQ x r).1), .int .i64 (spanQ x r).2]) [])
  | _ => noC }

def S2 : Env := { ct := fun n => match n with | 48 => some quoiC | 68 => some qdivC | 73 => some floorC | _ => none, fn := fun _ => none, meth := fun _ _ => none }
theorem S2_ct48 : S2.ct 48 = some quoiC := rfl
theorem S2_ct68 : S2.ct 68 = some qdivC := rfl
theorem S2_ct73 : S2.ct 73 = some floorC := rfl
theorem S2_ok : EnvOk Try.prog S2 := by
  refine ⟨fun f c h => ?_, fun f vf h => ?_, fun _ _ => rfl, by kernel_rfl⟩
  · simp only [S2] at h
    split at h
    · cases h; exact ⟨quoi_ok, Try.f48, Try.func48, by kernel_rfl, by kernel_rfl⟩
    · cases h; exact ⟨qdiv_ok, Try.f68, Try.func68, by kernel_rfl, by kernel_rfl⟩
    · cases h; exact ⟨flo_ok, Try.f73, Try.func73, by kernel_rfl, by kernel_rfl⟩
    · cases h
  · cases h


theorem ofr_ok : ofrC.ok Try.prog 46 := by
  refine contract Try.func46 v46_is S2_ok 200 ofrC fun args k h => ⟨args, ?_⟩
  simp only [ofrC] at h
  split at h
  · rename_i n d
    obtain ⟨⟨hn, hd0, hd⟩, h⟩ := h
    refine ⟨by simp [leL, le], ?_⟩
    dsimp only [v46, S2_ct48, S2_ct68, quoiC, qdivC, natS, natV, encF, r_end, r_end1, r_nil, r_op, r_opg, r_runOp, r_op0, r_yld0, r_yld1, r_y, r_rbeg, r_rend, r_rend1, r_rfrm, r_rfrm1, r_range, r_rangeK, r_rangeE, r_draw, r_dnil, r_dop, r_dopg, r_dplq, r_dplh, r_dq, r_dq0, r_dcl1, r_dcl0, r_dct1, r_dct0, r_dgd, r_dgq1, r_dgq0, r_dctG, r_op1, r_eff, r_eff0, r_call, r_call0, r_inl, r_g, r_gq, r_gc, r_effg, r_effg0, r_callg, r_callg0, r_fin, r_pre, r_imp, r_all, r_ex, r_fing, r_preg, r_exg, r_inBlock, r_inLoop, r_frame, r_frame1, r_skip, r_stuck, r_region, r_seq, r_cond, r_cond1, r_block, r_exit, r_exit1, r_exit2, r_ret, r_loop, s_args0, s_args1, s_xt, s_xc, padL, blankL, callee, callArgs, eff, ctOf, getL, setL, S.put, S.upd, unopts, unopt, unoptsO, unoptsB, lazyO, guardOf, gbool, eMov, eNot, eNeg, eConv, eExt, eLenArr, eLen, eLenStr, eEqb, eEqv, allEq, eNil, negIf, eBool2, eCmp, eAri, ari, eBit, eDiv, eSh, eMinMax, foldMin, foldMax, kEq, pure1, cmpB, VO.quiet, resVals, resVal, tupled, popRet, popTo, cond, Option.bind, Option.map, eNew, eBox, asCells, lenH, snocH, eFieldAddr, eField, eLoad, cellsAt, getH, setH, dropL, takeL, mkAgg, lenL, lenS, shift, shiftL, shiftH, viewN, viewL, view, andT, junks, List.append_nil, Nat.beq, eIdxAddr, eIdxArr, idxN_0, idxN_1, idxN_2, idxN_3, eIndex, eStore, storeAt, spliceL, ones, one, eSlice, eSliceArr, bounds, subLo_z, addLo_z, subLo_one, addLo_one, eMake, eAppend, readS, repL, buildCells, chunk, purgeL, purgeLL, purgeH, purge, refs, refsL, List.cons_append, List.nil_append, wrOps, wrAl, wrDops, wrC, junkAt, putAll, putHs, headOf, headK, keepG, List.append_eq, headX, chkP, apartP, apartB, blk, strip, runAl, AL.ho, yld, putPs, lenN, findR, notRound, jumpK, jumpPT, jcode, List.map_cons, List.map_nil, ite_self, reduceIte]
    simp only [true_and, and_true, imp_self, implies_true, decide_eq_true_eq, decide_eq_false_iff_not, Nat.reduceAdd, Nat.reduceLeDiff, Bool.not_not, reduceCtorEq, false_imp_iff, Bool.not_eq_true', Bool.not_eq_false', Bool.false_eq_true, and_self, forall_const, ne_eq, not_false_eq_true, Nat.reduceEqDiff]
    have h : k (.agg (encF true (n, d.toNat))) [] := h
    have e : divF (n, 1) (d, 1) = (n, d.toNat) := by
      have h1 : ¬ d < 0 := by omega
      have h2 : d.natAbs = d.toNat := by omega
      simp [divF, nsg, h1, h2]
    rw [← e] at h
    refine ⟨hn, by omega, (n, 1), (d, 1), ⟨fracP_self (frOk_1 hn), fracP_self (frOk_1 (by omega)), by show ¬ d = 0; omega, by rw [e]; exact frOk_8 (by dsimp only; omega) (by dsimp only; omega) (by dsimp only; omega)⟩, by decide, by decide, ?_⟩
    exact ans_frA h
  · exact h.1.elim

theorem rndB_neg (t : Int) : rndB (-t) = (-(rndB t).1, (rndB t).2) := by
  unfold rndB
  by_cases h : -4611686018427387904 ≤ t ∧ t ≤ 4611686018427387904
  · rw [if_pos h, if_pos (by omega)]
  · rw [if_neg h, if_neg (by omega)]; rfl
theorem rndB_bnd (t : Int) : -4611686018427387904 ≤ (rndB t).1 ∧ (rndB t).1 ≤ 4611686018427387904 := by
  unfold rndB; split
  · assumption
  · simp
theorem cei_ok : ceilC.ok Try.prog 74 := by
  refine contract Try.func74 v74_is S2_ok 200 ceilC fun args k h => ?_
  simp only [floorC, ceilC, floC] at h
  split at h
  · rename_i neg t1 z1 n1 s1 g1 t2 z2 n2 s2 g2
    obtain ⟨p, hp, h⟩ := h
    refine ⟨[.agg (encF false p)], ⟨fr_le hp, trivial⟩, ?_⟩
    have hok := hp.1
    clear hp
    dsimp only [v74, S2_ct73, floorC, floC, natS, natV, encF, r_end, r_end1, r_nil, r_op, r_opg, r_runOp, r_op0, r_yld0, r_yld1, r_y, r_rbeg, r_rend, r_rend1, r_rfrm, r_rfrm1, r_range, r_rangeK, r_rangeE, r_draw, r_dnil, r_dop, r_dopg, r_dplq, r_dplh, r_dq, r_dq0, r_dcl1, r_dcl0, r_dct1, r_dct0, r_dgd, r_dgq1, r_dgq0, r_dctG, r_op1, r_eff, r_eff0, r_call, r_call0, r_inl, r_g, r_gq, r_gc, r_effg, r_effg0, r_callg, r_callg0, r_fin, r_pre, r_imp, r_all, r_ex, r_fing, r_preg, r_exg, r_inBlock, r_inLoop, r_frame, r_frame1, r_skip, r_stuck, r_region, r_seq, r_cond, r_cond1, r_block, r_exit, r_exit1, r_exit2, r_ret, r_loop, s_args0, s_args1, s_xt, s_xc, padL, blankL, callee, callArgs, eff, ctOf, getL, setL, S.put, S.upd, unopts, unopt, unoptsO, unoptsB, lazyO, guardOf, gbool, eMov, eNot, eNeg, eConv, eExt, eLenArr, eLen, eLenStr, eEqb, eEqv, allEq, eNil, negIf, eBool2, eCmp, eAri, ari, eBit, eDiv, eSh, eMinMax, foldMin, foldMax, kEq, pure1, cmpB, VO.quiet, resVals, resVal, tupled, popRet, popTo, cond, Option.bind, Option.map, eNew, eBox, asCells, lenH, snocH, eFieldAddr, eField, eLoad, cellsAt, getH, setH, dropL, takeL, mkAgg, lenL, lenS, shift, shiftL, shiftH, viewN, viewL, view, andT, junks, List.append_nil, Nat.beq, eIdxAddr, eIdxArr, idxN_0, idxN_1, idxN_2, idxN_3, eIndex, eStore, storeAt, spliceL, ones, one, eSlice, eSliceArr, bounds, subLo_z, addLo_z, subLo_one, addLo_one, eMake, eAppend, readS, repL, buildCells, chunk, purgeL, purgeLL, purgeH, purge, refs, refsL, List.cons_append, List.nil_append, wrOps, wrAl, wrDops, wrC, junkAt, putAll, putHs, headOf, headK, keepG, List.append_eq, headX, chkP, apartP, apartB, blk, strip, runAl, AL.ho, yld, putPs, lenN, findR, notRound, jumpK, jumpPT, jcode, List.map_cons, List.map_nil, ite_self, reduceIte]
    simp only [true_and, and_true, imp_self, implies_true, decide_eq_true_eq, decide_eq_false_iff_not, Nat.reduceAdd, Nat.reduceLeDiff, Bool.not_not, reduceCtorEq, false_imp_iff, Bool.not_eq_true', Bool.not_eq_false', Bool.false_eq_true, and_self, forall_const, ne_eq, not_false_eq_true, Nat.reduceEqDiff]
    have t := turn_eq hok.1
    have f := fracP_self (turn_ok hok)
    rw [t.1, t.2.1, ← t.2.2] at f
    have h : k (.tup [.int .i64 (rndB (-((-p.1) / (p.2 : Int)))).1, .bool (rndB (-((-p.1) / (p.2 : Int)))).2]) [] := h
    rw [rndB_neg] at h
    refine ⟨turnF p, f, by decide, by decide, ?_⟩
    have e : rndF false (turnF p).1 ((turnF p).2 : Int) = rndB ((-p.1) / (p.2 : Int)) := rfl
    rw [e]
    have b := rndB_bnd ((-p.1) / (p.2 : Int))
    rw [IntWalk.i64_in _ (by omega), Int.zero_sub]
    exact ans_ib' h
  · exact h.1.elim

def S3 : Env := { ct := fun n => match n with | 72 => some qcmpC | 73 => some floorC | 74 => some ceilC | _ => none, fn := fun _ => none, meth := fun _ _ => none }
theorem S3_ct72 : S3.ct 72 = some qcmpC := rfl
theorem S3_ct73 : S3.ct 73 = some floorC := rfl
theorem S3_ct74 : S3.ct 74 = some ceilC := rfl
theorem S3_ok : EnvOk Try.prog S3 := by
  refine ⟨fun f c h => ?_, fun f vf h => ?_, fun _ _ => rfl, by kernel_rfl⟩
  · simp only [S3] at h
    split at h
    · cases h; exact ⟨qcmp_ok, Try.f72, Try.func72, by kernel_rfl, by kernel_rfl⟩
    · cases h; exact ⟨flo_ok, Try.f73, Try.func73, by kernel_rfl, by kernel_rfl⟩
    · cases h; exact ⟨cei_ok, Try.f74, Try.func74, by kernel_rfl, by kernel_rfl⟩
    · cases h
  · cases h


theorem loQ_mem (x : Fr) : ∀ (r : List Fr), loQ x r ∈ x :: r := by
  intro r
  induction r generalizing x with
  | nil => exact List.mem_cons_self
  | cons a r ih =>
    have e : loQ x (a :: r) = loQ (if cmpQ a.1 a.2 x.1 x.2 < 0 then a else x) r := rfl
    rw [e]
    have h := ih (if cmpQ a.1 a.2 x.1 x.2 < 0 then a else x)
    rcases List.mem_cons.1 h with h | h
    · rw [h]; split <;> simp
    · simp [h]
theorem hiQ_mem (x : Fr) : ∀ (r : List Fr), hiQ x r ∈ x :: r := by
  intro r
  induction r generalizing x with
  | nil => exact List.mem_cons_self
  | cons a r ih =>
    have e : hiQ x (a :: r) = hiQ (if 0 < cmpQ a.1 a.2 x.1 x.2 then a else x) r := rfl
    rw [e]
    have h := ih (if 0 < cmpQ a.1 a.2 x.1 x.2 then a else x)
    rcases List.mem_cons.1 h with h | h
    · rw [h]; split <;> simp
    · simp [h]
theorem take_sub {x a : Fr} {r : List Fr} {i : Nat} (h : a ∈ x :: r.take i) : a ∈ x :: r := by
  rcases List.mem_cons.1 h with h | h
  · simp [h]
  · simp [List.mem_of_mem_take h]

theorem spanq_ok : spanqC.ok Try.prog 49 := by
  refine contract Try.func49 v49_is S3_ok 400 spanqC fun args k h => ?_
  simp only [spanqC] at h
  split at h
  · rename_i tt z n sz get
    obtain ⟨x, r, ⟨⟨rfl, rfl, hg⟩, hmax, hall⟩, h⟩ := h
    refine ⟨[.vs tt z (x :: r).length 3 (fun k => encF false ((x :: r).getD k default))], ⟨by simpa [le] using hg, trivial⟩, ?_⟩
    dsimp only [v49, encF, natV, r_end, r_end1, r_nil, r_op, r_opg, r_runOp, r_op0, r_yld0, r_yld1, r_y, r_rbeg, r_rend, r_rend1, r_rfrm, r_rfrm1, r_range, r_rangeK, r_rangeE, r_draw, r_dnil, r_dop, r_dopg, r_dplq, r_dplh, r_dq, r_dq0, r_dcl1, r_dcl0, r_dct1, r_dct0, r_dgd, r_dgq1, r_dgq0, r_dctG, r_op1, r_eff, r_eff0, r_call, r_call0, r_inl, r_g, r_gq, r_gc, r_effg, r_effg0, r_callg, r_callg0, r_fin, r_pre, r_imp, r_all, r_ex, r_fing, r_preg, r_exg, r_inBlock, r_inLoop, r_frame, r_frame1, r_skip, r_stuck, r_region, r_seq, r_cond, r_cond1, r_block, r_exit, r_exit1, r_exit2, r_ret, r_loop, s_args0, s_args1, s_xt, s_xc, padL, blankL, callee, callArgs, eff, ctOf, getL, setL, S.put, S.upd, unopts, unopt, unoptsO, unoptsB, lazyO, guardOf, gbool, eMov, eNot, eNeg, eConv, eExt, eLenArr, eLen, eLenStr, eEqb, eEqv, allEq, eNil, negIf, eBool2, eCmp, eAri, ari, eBit, eDiv, eSh, eMinMax, foldMin, foldMax, kEq, pure1, cmpB, VO.quiet, resVals, resVal, tupled, popRet, popTo, cond, Option.bind, Option.map, eNew, eBox, asCells, lenH, snocH, eFieldAddr, eField, eLoad, cellsAt, getH, setH, dropL, takeL, mkAgg, lenL, lenS, shift, shiftL, shiftH, viewN, viewL, view, andT, junks, List.append_nil, Nat.beq, eIdxAddr, eIdxArr, idxN_0, idxN_1, idxN_2, idxN_3, eIndex, eStore, storeAt, spliceL, ones, one, eSlice, eSliceArr, bounds, subLo_z, addLo_z, subLo_one, addLo_one, eMake, eAppend, readS, repL, buildCells, chunk, purgeL, purgeLL, purgeH, purge, refs, refsL, List.cons_append, List.nil_append, wrOps, wrAl, wrDops, wrC, junkAt, putAll, putHs, headOf, headK, keepG, List.append_eq, headX, chkP, apartP, apartB, blk, strip, runAl, AL.ho, yld, putPs, lenN, findR, notRound, jumpK, jumpPT, jcode, List.map_cons, List.map_nil, ite_self, reduceIte]
    simp only [true_and, and_true, imp_self, implies_true, decide_eq_true_eq, decide_eq_false_iff_not, Nat.reduceAdd, Nat.reduceLeDiff, Bool.not_not, reduceCtorEq, false_imp_iff, Bool.not_eq_true', Bool.not_eq_false', Bool.false_eq_true, and_self, forall_const, ne_eq, not_false_eq_true, Nat.reduceEqDiff]
    have hlen : ((x :: r).length : Int) = r.length + 1 := by simp
    refine ⟨⟨by decide, by omega⟩, ⟨by decide, by omega⟩, ?_⟩
    refine Loop.keep [0, 1, 0, 0, 0, 0] Nat (fun i => [(6, .int .i64 ((i : Int) + 1))]) (fun i => [(1, .box (encF false (loQ x (r.take i)))), (2, .box (encF false (hiQ x (r.take i))))]) [] (fun i => i ≤ r.length) (fun i => r.length - i) ?_ ?_
    · refine ⟨0, Nat.zero_le _, ?_⟩
      dsimp only [encF, natV, r_end, r_end1, r_nil, r_op, r_opg, r_runOp, r_op0, r_yld0, r_yld1, r_y, r_rbeg, r_rend, r_rend1, r_rfrm, r_rfrm1, r_range, r_rangeK, r_rangeE, r_draw, r_dnil, r_dop, r_dopg, r_dplq, r_dplh, r_dq, r_dq0, r_dcl1, r_dcl0, r_dct1, r_dct0, r_dgd, r_dgq1, r_dgq0, r_dctG, r_op1, r_eff, r_eff0, r_call, r_call0, r_inl, r_g, r_gq, r_gc, r_effg, r_effg0, r_callg, r_callg0, r_fin, r_pre, r_imp, r_all, r_ex, r_fing, r_preg, r_exg, r_inBlock, r_inLoop, r_frame, r_frame1, r_skip, r_stuck, r_region, r_seq, r_cond, r_cond1, r_block, r_exit, r_exit1, r_exit2, r_ret, r_loop, s_args0, s_args1, s_xt, s_xc, padL, blankL, callee, callArgs, eff, ctOf, getL, setL, S.put, S.upd, unopts, unopt, unoptsO, unoptsB, lazyO, guardOf, gbool, eMov, eNot, eNeg, eConv, eExt, eLenArr, eLen, eLenStr, eEqb, eEqv, allEq, eNil, negIf, eBool2, eCmp, eAri, ari, eBit, eDiv, eSh, eMinMax, foldMin, foldMax, kEq, pure1, cmpB, VO.quiet, resVals, resVal, tupled, popRet, popTo, cond, Option.bind, Option.map, eNew, eBox, asCells, lenH, snocH, eFieldAddr, eField, eLoad, cellsAt, getH, setH, dropL, takeL, mkAgg, lenL, lenS, shift, shiftL, shiftH, viewN, viewL, view, andT, junks, List.append_nil, Nat.beq, eIdxAddr, eIdxArr, idxN_0, idxN_1, idxN_2, idxN_3, eIndex, eStore, storeAt, spliceL, ones, one, eSlice, eSliceArr, bounds, subLo_z, addLo_z, subLo_one, addLo_one, eMake, eAppend, readS, repL, buildCells, chunk, purgeL, purgeLL, purgeH, purge, refs, refsL, List.cons_append, List.nil_append, wrOps, wrAl, wrDops, wrC, junkAt, putAll, putHs, headOf, headK, keepG, List.append_eq, headX, chkP, apartP, apartB, blk, strip, runAl, AL.ho, yld, putPs, lenN, findR, notRound, jumpK, jumpPT, jcode, List.map_cons, List.map_nil, ite_self, reduceIte]
      simp only [leS_mk, leL_cons, leL_nil, le_junk, le_int, le_bool, le_nil, leLL_nil, leLL_cons, leH_cons, leH_nil, leH1_box, leH1_own, leH1_gone, le_vs, le_agg, le_tup, le_ptr, le_own, le_xp, le_fn, le_opt, le_val, le_elem, le_nil_own, le_nil_vs, leH_ghost, leL_chunk, leXL_id, bnd_int, bnd_bool, bnd_val, bnd_nil, bnd_junk, bnd_vs, bnd_xp, bnd_agg, bnd_tup, bnd_ptr, bnd_own, bnd_elem, bnd_fn, bnd_iface, bnd_opt, bndL_nil, bndL_cons, lenH_cons, lenH_nil, imp_self, implies_true, true_and, and_true]
      refine ⟨by simp, ?_, ?_⟩ <;> simp [loQ, hiQ] <;> exact ⟨rfl, fun k _ => leXL_self _, fun k _ => leXL_self _⟩
    · rintro i hi
      dsimp only [S3_ct72, S3_ct73, S3_ct74, qcmpC, floorC, ceilC, floC, encF, natV, Int.toNat_natCast, r_end, r_end1, r_nil, r_op, r_opg, r_runOp, r_op0, r_yld0, r_yld1, r_y, r_rbeg, r_rend, r_rend1, r_rfrm, r_rfrm1, r_range, r_rangeK, r_rangeE, r_draw, r_dnil, r_dop, r_dopg, r_dplq, r_dplh, r_dq, r_dq0, r_dcl1, r_dcl0, r_dct1, r_dct0, r_dgd, r_dgq1, r_dgq0, r_dctG, r_op1, r_eff, r_eff0, r_call, r_call0, r_inl, r_g, r_gq, r_gc, r_effg, r_effg0, r_callg, r_callg0, r_fin, r_pre, r_imp, r_all, r_ex, r_fing, r_preg, r_exg, r_inBlock, r_inLoop, r_frame, r_frame1, r_skip, r_stuck, r_region, r_seq, r_cond, r_cond1, r_block, r_exit, r_exit1, r_exit2, r_ret, r_loop, s_args0, s_args1, s_xt, s_xc, padL, blankL, callee, callArgs, eff, ctOf, getL, setL, S.put, S.upd, unopts, unopt, unoptsO, unoptsB, lazyO, guardOf, gbool, eMov, eNot, eNeg, eConv, eExt, eLenArr, eLen, eLenStr, eEqb, eEqv, allEq, eNil, negIf, eBool2, eCmp, eAri, ari, eBit, eDiv, eSh, eMinMax, foldMin, foldMax, kEq, pure1, cmpB, VO.quiet, resVals, resVal, tupled, popRet, popTo, cond, Option.bind, Option.map, eNew, eBox, asCells, lenH, snocH, eFieldAddr, eField, eLoad, cellsAt, getH, setH, dropL, takeL, mkAgg, lenL, lenS, shift, shiftL, shiftH, viewN, viewL, view, andT, junks, List.append_nil, Nat.beq, eIdxAddr, eIdxArr, idxN_0, idxN_1, idxN_2, idxN_3, eIndex, eStore, storeAt, spliceL, ones, one, eSlice, eSliceArr, bounds, subLo_z, addLo_z, subLo_one, addLo_one, eMake, eAppend, readS, repL, buildCells, chunk, purgeL, purgeLL, purgeH, purge, refs, refsL, List.cons_append, List.nil_append, wrOps, wrAl, wrDops, wrC, junkAt, putAll, putHs, headOf, headK, keepG, List.append_eq, headX, chkP, apartP, apartB, blk, strip, runAl, AL.ho, yld, putPs, lenN, findR, notRound, jumpK, jumpPT, jcode, List.map_cons, List.map_nil, ite_self, reduceIte]
      simp only [true_and, and_true, imp_self, implies_true, decide_eq_true_eq, decide_eq_false_iff_not, Nat.reduceAdd, Nat.reduceLeDiff, Bool.not_not, reduceCtorEq, false_imp_iff, Bool.not_eq_true', Bool.not_eq_false', Bool.false_eq_true, and_self, forall_const, ne_eq, not_false_eq_true, Nat.reduceEqDiff]
      have ey : (x :: r).getD ((i : Int) + 1).toNat default = r.getD i default := by
        have : ((i : Int) + 1).toNat = i + 1 := by omega
        rw [this]; rfl
      simp only [ey, hlen]
      have hL : frOk (loQ x (r.take i)) := hall _ (take_sub (loQ_mem x _))
      have hH : frOk (hiQ x (r.take i)) := hall _ (take_sub (hiQ_mem x _))
      refine ⟨fun hlt => ?_, fun hge => ?_⟩
      · have hi' : i < r.length := by omega
        have hY : frOk (r.getD i default) := hall _ (List.mem_cons_of_mem _ (getD_mem hi'))
        have eL : loQ x (r.take (i + 1)) = if cmpQ (r.getD i default).1 (r.getD i default).2 (loQ x (r.take i)).1 (loQ x (r.take i)).2 < 0 then r.getD i default else loQ x (r.take i) := foldl_take_succ hi'
        have eH : hiQ x (r.take (i + 1)) = if 0 < cmpQ (r.getD i default).1 (r.getD i default).2 (hiQ x (r.take i)).1 (hiQ x (r.take i)).2 then r.getD i default else hiQ x (r.take i) := foldl_take_succ hi'
        have hw : IntKind.i64.wrap ((i : Int) + 1 + 1) = ((i + 1 : Nat) : Int) + 1 := by
          rw [List.length_cons] at hmax
          rw [IntWalk.i64_in _ (by omega)]; omega
        have bd : 0 ≤ (i : Int) + 1 ∧ (i : Int) + 1 < (r.length : Int) + 1 := by omega
        refine ⟨bd, r.getD i default, loQ x (r.take i), ⟨fracP_self hY, fracP_self hL⟩, by decide, by decide,
          fun h1 => ⟨bd, bd, r.getD i default, hiQ x (r.take i), ⟨fracP_self hY, fracP_self hH⟩, by decide, by decide, fun h2 => ⟨bd, i + 1, by omega, by omega, ?_⟩, fun h2 => ⟨i + 1, by omega, by omega, ?_⟩⟩,
          fun h1 => ⟨bd, r.getD i default, hiQ x (r.take i), ⟨fracP_self hY, fracP_self hH⟩, by decide, by decide, fun h2 => ⟨bd, i + 1, by omega, by omega, ?_⟩, fun h2 => ⟨i + 1, by omega, by omega, ?_⟩⟩⟩
        · simp only [eL, eH, if_pos h1, if_pos h2, hw, leS_mk, leL_cons, leL_nil, le_junk, le_int, le_bool, le_nil, leLL_nil, leLL_cons, leH_cons, leH_nil, leH1_box, leH1_own, leH1_gone, le_vs, le_agg, le_tup, le_ptr, le_own, le_xp, le_fn, le_opt, le_val, le_elem, le_nil_own, le_nil_vs, leH_ghost, leL_chunk, leXL_id, bnd_int, bnd_bool, bnd_val, bnd_nil, bnd_junk, bnd_vs, bnd_xp, bnd_agg, bnd_tup, bnd_ptr, bnd_own, bnd_elem, bnd_fn, bnd_iface, bnd_opt, bndL_nil, bndL_cons, lenH_cons, lenH_nil, imp_self, implies_true, true_and, and_true]
          simp
        · simp only [eL, eH, if_pos h1, if_neg h2, hw, leS_mk, leL_cons, leL_nil, le_junk, le_int, le_bool, le_nil, leLL_nil, leLL_cons, leH_cons, leH_nil, leH1_box, leH1_own, leH1_gone, le_vs, le_agg, le_tup, le_ptr, le_own, le_xp, le_fn, le_opt, le_val, le_elem, le_nil_own, le_nil_vs, leH_ghost, leL_chunk, leXL_id, bnd_int, bnd_bool, bnd_val, bnd_nil, bnd_junk, bnd_vs, bnd_xp, bnd_agg, bnd_tup, bnd_ptr, bnd_own, bnd_elem, bnd_fn, bnd_iface, bnd_opt, bndL_nil, bndL_cons, lenH_cons, lenH_nil, imp_self, implies_true, true_and, and_true]
          simp
        · simp only [eL, eH, if_neg h1, if_pos h2, hw, leS_mk, leL_cons, leL_nil, le_junk, le_int, le_bool, le_nil, leLL_nil, leLL_cons, leH_cons, leH_nil, leH1_box, leH1_own, leH1_gone, le_vs, le_agg, le_tup, le_ptr, le_own, le_xp, le_fn, le_opt, le_val, le_elem, le_nil_own, le_nil_vs, leH_ghost, leL_chunk, leXL_id, bnd_int, bnd_bool, bnd_val, bnd_nil, bnd_junk, bnd_vs, bnd_xp, bnd_agg, bnd_tup, bnd_ptr, bnd_own, bnd_elem, bnd_fn, bnd_iface, bnd_opt, bndL_nil, bndL_cons, lenH_cons, lenH_nil, imp_self, implies_true, true_and, and_true]
          simp
        · simp only [eL, eH, if_neg h1, if_neg h2, hw, leS_mk, leL_cons, leL_nil, le_junk, le_int, le_bool, le_nil, leLL_nil, leLL_cons, leH_cons, leH_nil, leH1_box, leH1_own, leH1_gone, le_vs, le_agg, le_tup, le_ptr, le_own, le_xp, le_fn, le_opt, le_val, le_elem, le_nil_own, le_nil_vs, leH_ghost, leL_chunk, leXL_id, bnd_int, bnd_bool, bnd_val, bnd_nil, bnd_junk, bnd_vs, bnd_xp, bnd_agg, bnd_tup, bnd_ptr, bnd_own, bnd_elem, bnd_fn, bnd_iface, bnd_opt, bndL_nil, bndL_cons, lenH_cons, lenH_nil, imp_self, implies_true, true_and, and_true]
          simp
      · obtain rfl : i = r.length := by omega
        rw [List.take_length] at hL hH
        rw [List.take_length]
        refine ⟨loQ x r, fracP_self hL, by decide, by decide, hiQ x r, fracP_self hH, by decide, by decide, ?_⟩
        have h : k (.tup [.agg (enc2 (spanQ x r).1), .int .i64 (spanQ x r).2]) [] := h
        unfold spanQ spanR at h
        refine ⟨fun hb => ?_, fun hb => ?_⟩
        · rw [if_neg (by rw [← Bool.not_and, Bool.not_eq_true'] at hb; rw [hb]; simp)] at h
          exact ans_iv (r := ((0, 0), 7)) h
        · rw [if_pos (by rw [← Bool.not_and, Bool.not_eq_false'] at hb; exact hb)] at h
          exact ans_iv h
  · exact h.1.elim

/-! ### Fractions with one denominator -/

theorem cmpQ_one {n m : Int} {d : Nat} (hd : 0 < d) : (cmpQ n d m d < 0 ↔ n < m) ∧ (0 < cmpQ n d m d ↔ m < n) := by
  have h1 := mul_lt_iff (x := n) (y := m) hd
  have h2 := mul_lt_iff (x := m) (y := n) hd
  unfold cmpQ cmpI
  rw [← h1, ← h2]
  generalize n * (d : Int) = N
  generalize m * (d : Int) = M
  clear h1 h2
  by_cases c1 : N < M
  · rw [if_pos c1]; omega
  · rw [if_neg c1]
    by_cases c2 : M < N
    · rw [if_pos c2]; omega
    · rw [if_neg c2]; omega
theorem loQ_one {d : Nat} (hd : 0 < d) (n : Int) (r : List Int) : loQ (n, d) (r.map fun m => (m, d)) = (lowI n r, d) := by
  induction r generalizing n with
  | nil => rfl
  | cons a r ih =>
    have e : loQ (n, d) ((a :: r).map fun m => (m, d)) = loQ (if cmpQ a d n d < 0 then (a, d) else (n, d)) (r.map fun m => (m, d)) := rfl
    have e2 : lowI n (a :: r) = lowI (if a < n then a else n) r := rfl
    rw [e, e2, ← ih]
    by_cases h : a < n
    · rw [if_pos ((cmpQ_one hd).1.2 h), if_pos h]
    · rw [if_neg (fun hh => h ((cmpQ_one hd).1.1 hh)), if_neg h]
theorem hiQ_one {d : Nat} (hd : 0 < d) (n : Int) (r : List Int) : hiQ (n, d) (r.map fun m => (m, d)) = (highI n r, d) := by
  induction r generalizing n with
  | nil => rfl
  | cons a r ih =>
    have e : hiQ (n, d) ((a :: r).map fun m => (m, d)) = hiQ (if 0 < cmpQ a d n d then (a, d) else (n, d)) (r.map fun m => (m, d)) := rfl
    have e2 : highI n (a :: r) = highI (if n < a then a else n) r := rfl
    rw [e, e2, ← ih]
    by_cases h : n < a
    · rw [if_pos ((cmpQ_one hd).2.2 h), if_pos h]
    · rw [if_neg (fun hh => h ((cmpQ_one hd).2.1 hh)), if_neg h]
theorem spanQ_one {d : Nat} (hd : 0 < d) (n : Int) (r : List Int) : spanQ (n, d) (r.map fun m => (m, d)) = spanI d n r := by
  rw [spanQ, loQ_one hd, hiQ_one hd]; rfl

end Go.Proofs.Ytdognchniaojoaa
