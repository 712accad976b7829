/- Trackers: the laws, walked. -/
import Derived.Test.YtmhlinndhmdjlaaW6
import Derived.Test.YtmhlinndhmdjlaaVxL1
set_option linter.all false
namespace Go.Proofs.Ytmhlinndhmdjlaa
open Go Go.Vx
set_option maxRecDepth 100000
set_option maxHeartbeats 4000000

def v3 : VF := { ntmps := 76, res := [.tmp 6], body :=
 (.seq (.region [⟨(some 3), none, .box, [.tm 0]⟩,
  ⟨(some 6), none, .mov, [.cn (.bool false)]⟩])
 (.seq (.seq (.region [⟨(some 15), none, (.fieldAddr 0), [.tm 3]⟩,
  ⟨(some 16), none, (.load false 1), [.tm 15]⟩,
  ⟨(some 17), none, .len, [.tm 16]⟩,
  ⟨(some 18), none, (.cmp .gtr), [.tm 17, .cn (.int .i64 100)]⟩])
 (.cond (.tm 18) (.seq (.region [⟨(some 19), none, (.call 8), []⟩,
  ⟨(some 6), none, .mov, [.tm 19]⟩])
 .ret)
  .skip))
 (.seq (.region [⟨(some 21), none, (.load true 3), [.tm 3]⟩,
  ⟨(some 22), none, .mov, [.tm 1]⟩,
  ⟨(some 23), none, .mov, [.tm 2]⟩,
  ⟨(some 24), none, (.call 9), [.tm 21, .tm 22, .tm 23]⟩,
  ⟨(some 20), none, .mov, [.tm 24]⟩,
  ⟨(some 25), none, (.ext 0), [.tm 20]⟩,
  ⟨(some 26), none, (.ext 1), [.tm 20]⟩,
  ⟨(some 7), none, (.alloc [(.int .i64 0), (.int .i64 0)]), []⟩,
  ⟨none, none, (.store 2), [.tm 7, .tm 25]⟩,
  ⟨(some 8), none, .mov, [.tm 26]⟩])
 (.seq (.region [⟨(some 28), none, (.load true 3), [.tm 3]⟩,
  ⟨(some 29), none, .mov, [.tm 1]⟩,
  ⟨(some 30), none, .mov, [.tm 2]⟩,
  ⟨(some 31), none, (.call 10), [.tm 28, .tm 29, .tm 30]⟩,
  ⟨(some 27), none, .mov, [.tm 31]⟩,
  ⟨(some 32), none, (.ext 0), [.tm 27]⟩,
  ⟨(some 33), none, (.ext 1), [.tm 27]⟩,
  ⟨(some 9), none, (.alloc [(.int .i64 0), (.int .i64 0)]), []⟩,
  ⟨none, none, (.store 2), [.tm 9, .tm 32]⟩,
  ⟨(some 10), none, .mov, [.tm 33]⟩])
 (.seq (.region [⟨(some 35), none, (.load true 3), [.tm 3]⟩,
  ⟨(some 36), none, .mov, [.tm 1]⟩,
  ⟨(some 37), none, .mov, [.tm 2]⟩,
  ⟨(some 38), none, (.call 11), [.tm 35, .tm 36, .tm 37]⟩,
  ⟨(some 34), none, .mov, [.tm 38]⟩,
  ⟨(some 39), none, (.ext 0), [.tm 34]⟩,
  ⟨(some 40), none, (.ext 1), [.tm 34]⟩,
  ⟨(some 11), none, .mov, [.tm 39]⟩,
  ⟨(some 12), none, .mov, [.tm 40]⟩])
 (.seq (.region [⟨(some 42), none, (.load true 3), [.tm 3]⟩,
  ⟨(some 43), none, .mov, [.tm 1]⟩,
  ⟨(some 44), none, .mov, [.tm 2]⟩,
  ⟨(some 45), none, (.call 12), [.tm 42, .tm 43, .tm 44]⟩,
  ⟨(some 41), none, .mov, [.tm 45]⟩,
  ⟨(some 46), none, (.ext 0), [.tm 41]⟩,
  ⟨(some 47), none, (.ext 1), [.tm 41]⟩,
  ⟨(some 13), none, .mov, [.tm 46]⟩,
  ⟨(some 14), none, .mov, [.tm 47]⟩])
 (.seq (.draw [] [⟨⟨(some 48), none, (.load true 3), [.tm 3]⟩, []⟩,
  ⟨⟨(some 50), none, (.load true 3), [.tm 3]⟩, []⟩,
  ⟨⟨(some 49), none, (.call 13), [.tm 48]⟩, []⟩,
  ⟨⟨(some 51), none, (.call 14), [.tm 50]⟩, []⟩,
  ⟨⟨(some 52), none, (.cmp .eql), [.tm 49, .tm 51]⟩, []⟩,
  ⟨⟨(some 53), none, .mov, [.tm 52]⟩, []⟩,
  ⟨⟨(some 54), (some (53, true)), (.load true 2), [.tm 7]⟩, []⟩,
  ⟨⟨(some 55), (some (53, true)), (.load true 2), [.tm 9]⟩, []⟩,
  ⟨⟨(some 56), (some (53, true)), (.eqv false [true, true]), [.tm 54, .tm 55]⟩, []⟩,
  ⟨⟨(some 57), none, .and, [.tm 53, .tm 56]⟩, []⟩,
  ⟨⟨(some 58), none, .mov, [.tm 57]⟩, []⟩,
  ⟨⟨(some 59), (some (58, true)), .mov, [.tm 8]⟩, []⟩,
  ⟨⟨(some 60), (some (58, true)), .mov, [.tm 10]⟩, []⟩,
  ⟨⟨(some 61), (some (58, true)), (.cmp .eql), [.tm 59, .tm 60]⟩, []⟩,
  ⟨⟨(some 62), none, .and, [.tm 58, .tm 61]⟩, []⟩,
  ⟨⟨(some 63), none, .mov, [.tm 62]⟩, []⟩,
  ⟨⟨(some 64), (some (63, true)), .mov, [.tm 11]⟩, []⟩,
  ⟨⟨(some 65), (some (63, true)), .mov, [.tm 13]⟩, []⟩,
  ⟨⟨(some 66), (some (63, true)), (.cmp .eql), [.tm 64, .tm 65]⟩, []⟩,
  ⟨⟨(some 67), none, .and, [.tm 63, .tm 66]⟩, []⟩,
  ⟨⟨(some 68), none, .mov, [.tm 67]⟩, []⟩,
  ⟨⟨(some 69), (some (68, true)), .mov, [.tm 12]⟩, []⟩,
  ⟨⟨(some 70), (some (68, true)), .mov, [.tm 14]⟩, []⟩,
  ⟨⟨(some 71), (some (68, true)), (.cmp .eql), [.tm 69, .tm 70]⟩, []⟩,
  ⟨⟨(some 72), none, .and, [.tm 68, .tm 71]⟩, []⟩,
  ⟨⟨(some 73), none, .mov, [.tm 72]⟩, []⟩,
  ⟨⟨(some 74), (some (73, true)), (.call 8), []⟩, []⟩,
  ⟨⟨(some 75), none, .and, [.tm 73, .tm 74]⟩, []⟩,
  ⟨⟨(some 6), none, .mov, [.tm 75]⟩, []⟩])
 .ret))))))) }
theorem v3_is : vfunc Try.prog Try.f3 = some v3 := by kernel_rfl
def v4 : VF := { ntmps := 39, res := [.tmp 6], body :=
 (.seq (.region [⟨(some 6), none, .mov, [.cn (.bool false)]⟩])
 (.seq (.seq (.region [⟨(some 11), none, .mov, [.tm 0]⟩,
  ⟨(some 12), none, (.call 15), [.tm 11]⟩])
 (.cond (.tm 12) (.seq (.region [⟨(some 13), none, (.call 8), []⟩,
  ⟨(some 6), none, .mov, [.tm 13]⟩])
 .ret)
  .skip))
 (.seq (.region [⟨(some 15), none, .mov, [.tm 0]⟩,
  ⟨(some 16), none, .mov, [.tm 1]⟩,
  ⟨(some 17), none, .mov, [.tm 2]⟩,
  ⟨(some 18), none, (.call 16), [.tm 15, .tm 16, .tm 17]⟩,
  ⟨(some 14), none, .mov, [.tm 18]⟩,
  ⟨(some 19), none, (.ext 0), [.tm 14]⟩,
  ⟨(some 20), none, (.ext 1), [.tm 14]⟩,
  ⟨(some 7), none, .mov, [.tm 19]⟩,
  ⟨(some 8), none, .mov, [.tm 20]⟩])
 (.seq (.region [⟨(some 22), none, .mov, [.tm 0]⟩,
  ⟨(some 23), none, .mov, [.tm 1]⟩,
  ⟨(some 24), none, .mov, [.tm 2]⟩,
  ⟨(some 25), none, (.call 17), [.tm 22, .tm 23, .tm 24]⟩,
  ⟨(some 21), none, .mov, [.tm 25]⟩,
  ⟨(some 26), none, (.ext 0), [.tm 21]⟩,
  ⟨(some 27), none, (.ext 1), [.tm 21]⟩,
  ⟨(some 9), none, .mov, [.tm 26]⟩,
  ⟨(some 10), none, .mov, [.tm 27]⟩])
 (.seq (.region [⟨(some 28), none, .mov, [.tm 7]⟩,
  ⟨(some 29), none, .mov, [.tm 9]⟩,
  ⟨(some 30), none, (.call 18), [.tm 28, .tm 29]⟩,
  ⟨(some 31), none, .mov, [.tm 30]⟩,
  ⟨(some 32), (some (31, true)), .mov, [.tm 8]⟩,
  ⟨(some 33), (some (31, true)), .mov, [.tm 10]⟩,
  ⟨(some 34), (some (31, true)), (.cmp .eql), [.tm 32, .tm 33]⟩,
  ⟨(some 35), none, .and, [.tm 31, .tm 34]⟩,
  ⟨(some 36), none, .mov, [.tm 35]⟩,
  ⟨(some 37), (some (36, true)), (.call 8), []⟩,
  ⟨(some 38), none, .and, [.tm 36, .tm 37]⟩,
  ⟨(some 6), none, .mov, [.tm 38]⟩])
 .ret))))) }
theorem v4_is : vfunc Try.prog Try.f4 = some v4 := by kernel_rfl
def v7 : VF := { ntmps := 76, res := [.tmp 6], body :=
 (.seq (.region [⟨(some 3), none, .box, [.tm 0]⟩,
  ⟨(some 6), none, .mov, [.cn (.bool false)]⟩])
 (.seq (.seq (.region [⟨(some 17), none, (.fieldAddr 0), [.tm 3]⟩,
  ⟨(some 18), none, (.load false 1), [.tm 17]⟩,
  ⟨(some 19), none, .len, [.tm 18]⟩,
  ⟨(some 20), none, (.cmp .gtr), [.tm 19, .cn (.int .i64 100)]⟩,
  ⟨(some 21), none, .mov, [.tm 20]⟩,
  ⟨(some 22), (some (21, false)), .mov, [.tm 1]⟩,
  ⟨(some 23), (some (21, false)), (.call 15), [.tm 22]⟩,
  ⟨(some 24), none, .or, [.tm 21, .tm 23]⟩])
 (.cond (.tm 24) (.seq (.region [⟨(some 25), none, (.call 8), []⟩,
  ⟨(some 6), none, .mov, [.tm 25]⟩])
 .ret)
  .skip))
 (.seq (.region [⟨(some 27), none, (.load true 3), [.tm 3]⟩,
  ⟨(some 28), none, (.call 19), [.tm 27]⟩,
  ⟨(some 26), none, .mov, [.tm 28]⟩,
  ⟨(some 29), none, (.ext 0), [.tm 26]⟩,
  ⟨(some 30), none, (.ext 1), [.tm 26]⟩,
  ⟨(some 7), none, (.alloc [(.int .i64 0), (.int .i64 0)]), []⟩,
  ⟨none, none, (.store 2), [.tm 7, .tm 29]⟩,
  ⟨(some 8), none, .mov, [.tm 30]⟩])
 (.seq (.region [⟨(some 32), none, (.load true 3), [.tm 3]⟩,
  ⟨(some 33), none, (.call 21), [.tm 32]⟩,
  ⟨(some 31), none, .mov, [.tm 33]⟩,
  ⟨(some 34), none, (.ext 0), [.tm 31]⟩,
  ⟨(some 35), none, (.ext 1), [.tm 31]⟩,
  ⟨(some 9), none, (.alloc [(.int .i64 0), (.int .i64 0)]), []⟩,
  ⟨none, none, (.store 2), [.tm 9, .tm 34]⟩,
  ⟨(some 10), none, .mov, [.tm 35]⟩])
 (.seq (.region [⟨(some 37), none, .mov, [.tm 1]⟩,
  ⟨(some 38), none, .mov, [.tm 2]⟩,
  ⟨(some 39), none, (.call 22), [.tm 37, .tm 38]⟩,
  ⟨(some 36), none, .mov, [.tm 39]⟩,
  ⟨(some 40), none, (.ext 0), [.tm 36]⟩,
  ⟨(some 41), none, (.ext 1), [.tm 36]⟩,
  ⟨(some 42), none, (.ext 2), [.tm 36]⟩,
  ⟨(some 12), none, (.alloc [(.int .i64 0), (.int .i64 0)]), []⟩,
  ⟨(some 11), none, .mov, [.tm 40]⟩,
  ⟨none, none, (.store 2), [.tm 12, .tm 41]⟩,
  ⟨(some 13), none, .mov, [.tm 42]⟩])
 (.seq (.region [⟨(some 44), none, .mov, [.tm 1]⟩,
  ⟨(some 45), none, .mov, [.tm 2]⟩,
  ⟨(some 46), none, (.call 23), [.tm 44, .tm 45]⟩,
  ⟨(some 43), none, .mov, [.tm 46]⟩,
  ⟨(some 47), none, (.ext 0), [.tm 43]⟩,
  ⟨(some 48), none, (.ext 1), [.tm 43]⟩,
  ⟨(some 49), none, (.ext 2), [.tm 43]⟩,
  ⟨(some 15), none, (.alloc [(.int .i64 0), (.int .i64 0)]), []⟩,
  ⟨(some 14), none, .mov, [.tm 47]⟩,
  ⟨none, none, (.store 2), [.tm 15, .tm 48]⟩,
  ⟨(some 16), none, .mov, [.tm 49]⟩])
 (.seq (.region [⟨(some 50), none, (.load true 2), [.tm 7]⟩,
  ⟨(some 51), none, (.load true 2), [.tm 9]⟩,
  ⟨(some 52), none, (.eqv false [true, true]), [.tm 50, .tm 51]⟩,
  ⟨(some 53), none, .mov, [.tm 52]⟩,
  ⟨(some 54), (some (53, true)), .mov, [.tm 8]⟩,
  ⟨(some 55), (some (53, true)), .mov, [.tm 10]⟩,
  ⟨(some 56), (some (53, true)), (.cmp .eql), [.tm 54, .tm 55]⟩,
  ⟨(some 57), none, .and, [.tm 53, .tm 56]⟩,
  ⟨(some 58), none, .mov, [.tm 57]⟩,
  ⟨(some 59), (some (58, true)), .mov, [.tm 11]⟩,
  ⟨(some 60), (some (58, true)), .mov, [.tm 14]⟩,
  ⟨(some 61), (some (58, true)), (.call 24), [.tm 59, .tm 60]⟩,
  ⟨(some 62), none, .and, [.tm 58, .tm 61]⟩,
  ⟨(some 63), none, .mov, [.tm 62]⟩,
  ⟨(some 64), (some (63, true)), (.load true 2), [.tm 12]⟩,
  ⟨(some 65), (some (63, true)), (.load true 2), [.tm 15]⟩,
  ⟨(some 66), (some (63, true)), (.eqv false [true, true]), [.tm 64, .tm 65]⟩,
  ⟨(some 67), none, .and, [.tm 63, .tm 66]⟩,
  ⟨(some 68), none, .mov, [.tm 67]⟩,
  ⟨(some 69), (some (68, true)), .mov, [.tm 13]⟩,
  ⟨(some 70), (some (68, true)), .mov, [.tm 16]⟩,
  ⟨(some 71), (some (68, true)), (.cmp .eql), [.tm 69, .tm 70]⟩,
  ⟨(some 72), none, .and, [.tm 68, .tm 71]⟩,
  ⟨(some 73), none, .mov, [.tm 72]⟩,
  ⟨(some 74), (some (73, true)), (.call 8), []⟩,
  ⟨(some 75), none, .and, [.tm 73, .tm 74]⟩,
  ⟨(some 6), none, .mov, [.tm 75]⟩])
 .ret))))))) }
theorem v7_is : vfunc Try.prog Try.f7 = some v7 := by kernel_rfl


def L1 : Env := { ct := fun n => match n with | 8 => some trueC | 9 => some TravC | 10 => some TravC | 11 => some NeedC | 12 => some NeedC | 13 => some chkC | 14 => some chkC | 15 => some farC | 16 => some regC | 17 => some regC | 18 => some same1C | 19 => some TouC | 21 => some TouC | 22 => some coupC | 23 => some coupC | 24 => some same2C | _ => none, fn := fun _ => none, meth := fun _ _ => none }
theorem L1_ct8 : L1.ct 8 = some trueC := rfl
theorem L1_ct9 : L1.ct 9 = some TravC := rfl
theorem L1_ct10 : L1.ct 10 = some TravC := rfl
theorem L1_ct11 : L1.ct 11 = some NeedC := rfl
theorem L1_ct12 : L1.ct 12 = some NeedC := rfl
theorem L1_ct13 : L1.ct 13 = some chkC := rfl
theorem L1_ct14 : L1.ct 14 = some chkC := rfl
theorem L1_ct15 : L1.ct 15 = some farC := rfl
theorem L1_ct16 : L1.ct 16 = some regC := rfl
theorem L1_ct17 : L1.ct 17 = some regC := rfl
theorem L1_ct18 : L1.ct 18 = some same1C := rfl
theorem L1_ct19 : L1.ct 19 = some TouC := rfl
theorem L1_ct21 : L1.ct 21 = some TouC := rfl
theorem L1_ct22 : L1.ct 22 = some coupC := rfl
theorem L1_ct23 : L1.ct 23 = some coupC := rfl
theorem L1_ct24 : L1.ct 24 = some same2C := rfl
theorem L1_ok : EnvOk Try.prog L1 := by
  refine ⟨fun f c h => ?_, fun f vf h => ?_, fun _ _ => rfl, by kernel_rfl⟩
  · simp only [L1] at h
    split at h
    · cases h; exact ⟨shown8, Try.f8, Try.func8, by kernel_rfl, by kernel_rfl⟩
    · cases h; exact ⟨Trav9, Try.f9, Try.func9, by kernel_rfl, by kernel_rfl⟩
    · cases h; exact ⟨Trav10, Try.f10, Try.func10, by kernel_rfl, by kernel_rfl⟩
    · cases h; exact ⟨Need11, Try.f11, Try.func11, by kernel_rfl, by kernel_rfl⟩
    · cases h; exact ⟨Need12, Try.f12, Try.func12, by kernel_rfl, by kernel_rfl⟩
    · cases h; exact ⟨chk13, Try.f13, Try.func13, by kernel_rfl, by kernel_rfl⟩
    · cases h; exact ⟨chk14, Try.f14, Try.func14, by kernel_rfl, by kernel_rfl⟩
    · cases h; exact ⟨far15, Try.f15, Try.func15, by kernel_rfl, by kernel_rfl⟩
    · cases h; exact ⟨Reg16, Try.f16, Try.func16, by kernel_rfl, by kernel_rfl⟩
    · cases h; exact ⟨Reg17, Try.f17, Try.func17, by kernel_rfl, by kernel_rfl⟩
    · cases h; exact ⟨same18, Try.f18, Try.func18, by kernel_rfl, by kernel_rfl⟩
    · cases h; exact ⟨Tou19, Try.f19, Try.func19, by kernel_rfl, by kernel_rfl⟩
    · cases h; exact ⟨Tou21, Try.f21, Try.func21, by kernel_rfl, by kernel_rfl⟩
    · cases h; exact ⟨Coup22, Try.f22, Try.func22, by kernel_rfl, by kernel_rfl⟩
    · cases h; exact ⟨Coup23, Try.f23, Try.func23, by kernel_rfl, by kernel_rfl⟩
    · cases h; exact ⟨same24, Try.f24, Try.func24, by kernel_rfl, by kernel_rfl⟩
    · cases h
  · cases h


def shPart : List Sh := [.int .i64, .int .i64, .int .i64, .int .i64]
def shChain : List Sh := [.slice shPart, .int .i64, .int .i64]

theorem part_of {c : List SV} (h : okSL shPart c) : ∃ p : Part, c = enc p := by
  obtain ⟨_, _, rfl, ⟨n1, rfl, _⟩, e1⟩ := okSL_cons_inv h
  obtain ⟨_, _, rfl, ⟨n2, rfl, _⟩, e2⟩ := okSL_cons_inv e1
  obtain ⟨_, _, rfl, ⟨n3, rfl, _⟩, e3⟩ := okSL_cons_inv e2
  obtain ⟨_, _, rfl, ⟨n4, rfl, _⟩, e4⟩ := okSL_cons_inv e3
  cases okSL_nil_inv e4
  exact ⟨⟨n1, n2, n3, n4⟩, rfl⟩

theorem chain_of {c : List SV} (h : okSL shChain c) : ∃ ch : Chain, leXL c (encC ch) ∧ ch.parts.length ≤ maxLen := by
  obtain ⟨_, _, rfl, ⟨z, n, get, rfl, hn, hg⟩, e1⟩ := okSL_cons_inv h
  obtain ⟨_, _, rfl, ⟨n2, rfl, _⟩, e2⟩ := okSL_cons_inv e1
  obtain ⟨_, _, rfl, ⟨n3, rfl, _⟩, e3⟩ := okSL_cons_inv e2
  cases okSL_nil_inv e3
  obtain ⟨l, hl, hp⟩ := list_of (P := fun k p => get k = enc p) fun k hk => part_of (hg k hk)
  refine ⟨⟨z, l, n2, n3⟩, ?_, by rw [hl]; exact hn⟩
  exact ⟨⟨fun h => h, rfl, hl.symm, rfl, fun k hk => by rw [hp k hk]; exact leXL_self _⟩, ⟨rfl, rfl⟩, ⟨rfl, rfl⟩, trivial⟩

theorem chains_of {v : SV} (h : okS (.slice shChain) v) : ∃ (z : Bool) (l : List Chain), l.length ≤ maxLen ∧ leX v (.vs false z l.length 3 (fun k => encC (l.getD k default))) := by
  obtain ⟨z, n, get, rfl, hn, hg⟩ := h
  obtain ⟨l, hl, hp⟩ := list_of (P := fun k ch => leXL (get k) (encC ch)) fun k hk => let ⟨ch, h1, _⟩ := chain_of (hg k hk); ⟨ch, h1⟩
  exact ⟨z, l, by rw [hl]; exact hn, fun h => h, rfl, hl.symm, rfl, hp⟩

def lawT : List PSh := [⟨true, shChain⟩, ⟨false, [.int .i64]⟩, ⟨false, [.int .i64]⟩]

theorem maxLen_eq : maxLen = 9223372036854775807 := by decide

theorem lawTravel : (lawC lawT).ok Try.prog 3 := by
  refine contract Try.func3 v3_is L1_ok 800 (lawC lawT) fun args k h => ?_
  obtain ⟨ha, hk⟩ := h
  obtain ⟨_, _, rfl, h1, e1⟩ := okPL_cons_inv ha
  obtain ⟨cs, rfl, hcs⟩ := okP_agg_inv h1
  obtain ⟨_, _, rfl, h2, e2⟩ := okPL_cons_inv e1
  obtain ⟨turns, rfl, _⟩ := okP_one_inv h2
  obtain ⟨_, _, rfl, h3, e3⟩ := okPL_cons_inv e2
  obtain ⟨x, rfl, _⟩ := okP_one_inv h3
  cases okPL_nil_inv e3
  obtain ⟨⟨z, l, p, t⟩, hle, hmax⟩ := chain_of hcs
  refine ⟨[.agg (encC ⟨z, l, p, t⟩), .int .i64 turns, .int .i64 x], ⟨leXL_le _ _ hle (by simp only [encC, bndL_cons, bndL_nil, bnd_vs, bnd_int, and_self]), ⟨rfl, rfl⟩, ⟨rfl, rfl⟩, trivial⟩, ?_⟩
  dsimp only [v3, L1_ct8, trueC, L1_ct9, L1_ct10, TravC, ch3C, L1_ct11, L1_ct12, NeedC, L1_ct13, L1_ct14, chkC, chC, encC, enc, r_end, r_end1, r_nil, r_op, r_opg, r_runOp, r_op0, r_yld0, r_yld1, r_y, r_rbeg, r_rend, r_rend1, r_rfrm, r_rfrm1, r_range, r_rangeK, r_rangeE, r_draw, r_dnil, r_dop, r_dopg, r_dplq, r_dplh, r_dq, r_dq0, r_dcl1, r_dcl0, r_dct1, r_dct0, r_dgd, r_dgq1, r_dgq0, r_dctG, r_op1, r_eff, r_eff0, r_call, r_call0, r_inl, r_g, r_gq, r_gc, r_effg, r_effg0, r_callg, r_callg0, r_fin, r_pre, r_imp, r_all, r_ex, r_fing, r_preg, r_exg, r_inBlock, r_inLoop, r_frame, r_frame1, r_skip, r_region, r_seq, r_cond, r_cond1, r_block, r_exit, r_exit1, r_exit2, r_ret, r_loop, s_args0, s_args1, s_xt, s_xc, padL, blankL, callee, callArgs, eff, ctOf, getL, setL, S.put, S.upd, unopts, unopt, unoptsO, unoptsB, lazyO, guardOf, gbool, eMov, eNot, eNeg, eConv, eExt, eLenArr, eLen, eLenStr, eEqb, eEqv, allEq, eNil, negIf, eBool2, eCmp, eAri, ari, eBit, eDiv, eSh, eMinMax, foldMin, foldMax, kEq, pure1, cmpB, VO.quiet, resVals, resVal, tupled, popRet, popTo, cond, Option.bind, Option.map, eNew, eBox, asCells, lenH, snocH, eFieldAddr, eField, eLoad, cellsAt, getH, setH, dropL, takeL, mkAgg, lenL, lenS, shift, shiftL, shiftH, viewN, viewL, view, andT, junks, List.append_nil, Nat.beq, eIdxAddr, eIdxArr, eIndex, eStore, storeAt, spliceL, ones, one, eSlice, eSliceArr, bounds, subLo, addLo, eMake, eAppend, readS, repL, buildCells, chunk, purgeL, purgeLL, purgeH, purge, refs, refsL, List.cons_append, List.nil_append, wrOps, wrAl, wrDops, wrC, junkAt, putAll, putHs, headOf, headK, keepG, List.append_eq, headX, chkP, apartP, apartB, blk, strip, runAl, yld, putPs, lenN, findR, notRound, jumpK, jumpPT, jcode, List.map_cons, List.map_nil, ite_self, reduceIte]
  simp only [true_and, and_true, imp_self, implies_true, decide_eq_true_eq, decide_eq_false_iff_not, Nat.reduceAdd, Nat.reduceLeDiff, Bool.not_not, reduceCtorEq, false_imp_iff, Bool.not_eq_true', Bool.not_eq_false', Bool.false_eq_true, and_self, forall_const, ne_eq, not_false_eq_true, Nat.reduceEqDiff]
  have key : l.length = l.length ∧ ∀ k : Nat, k < l.length → [SV.int .i64 (l.getD k default).num, SV.int .i64 (l.getD k default).den, SV.int .i64 (l.getD k default).play, SV.int .i64 (l.getD k default).weight] = [SV.int .i64 (l.getD k default).num, SV.int .i64 (l.getD k default).den, SV.int .i64 (l.getD k default).play, SV.int .i64 (l.getD k default).weight] := ⟨rfl, fun _ _ => rfl⟩
  refine ⟨fun _ => ans_bool hk, fun _ => ⟨l, key, by decide, by decide, l, key, by decide, by decide, l, key, by decide, by decide, l, key, by decide, by decide, l, key, l, key, ans_bool ?_⟩⟩
  have hk' : k (.bool true) [] := hk
  simpa using hk'

def lawR : List PSh := [⟨false, [.slice shChain]⟩, ⟨false, [.int .i64]⟩, ⟨false, [.int .i64]⟩]

theorem lawRegulate : (lawC lawR).ok Try.prog 4 := by
  refine contract Try.func4 v4_is L1_ok 800 (lawC lawR) fun args k h => ?_
  obtain ⟨ha, hk⟩ := h
  obtain ⟨v, _, rfl, h1, e1⟩ := okPL_cons_inv ha
  obtain ⟨_, _, rfl, h2, e2⟩ := okPL_cons_inv e1
  obtain ⟨x, rfl, _⟩ := okP_one_inv h2
  obtain ⟨_, _, rfl, h3, e3⟩ := okPL_cons_inv e2
  obtain ⟨y, rfl, _⟩ := okP_one_inv h3
  cases okPL_nil_inv e3
  obtain ⟨z, l, hmax, hle⟩ := chains_of (okP_one_inv h1)
  rw [maxLen_eq] at hmax
  refine ⟨[.vs false z l.length 3 (fun k => encC (l.getD k default)), .int .i64 x, .int .i64 y], ⟨leX_le _ _ hle trivial, ⟨rfl, rfl⟩, ⟨rfl, rfl⟩, trivial⟩, ?_⟩
  dsimp only [v4, L1_ct15, farC, L1_ct8, trueC, L1_ct16, L1_ct17, regC, L1_ct18, same1C, sameC, encC, enc, enc1, r_end, r_end1, r_nil, r_op, r_opg, r_runOp, r_op0, r_yld0, r_yld1, r_y, r_rbeg, r_rend, r_rend1, r_rfrm, r_rfrm1, r_range, r_rangeK, r_rangeE, r_draw, r_dnil, r_dop, r_dopg, r_dplq, r_dplh, r_dq, r_dq0, r_dcl1, r_dcl0, r_dct1, r_dct0, r_dgd, r_dgq1, r_dgq0, r_dctG, r_op1, r_eff, r_eff0, r_call, r_call0, r_inl, r_g, r_gq, r_gc, r_effg, r_effg0, r_callg, r_callg0, r_fin, r_pre, r_imp, r_all, r_ex, r_fing, r_preg, r_exg, r_inBlock, r_inLoop, r_frame, r_frame1, r_skip, r_region, r_seq, r_cond, r_cond1, r_block, r_exit, r_exit1, r_exit2, r_ret, r_loop, s_args0, s_args1, s_xt, s_xc, padL, blankL, callee, callArgs, eff, ctOf, getL, setL, S.put, S.upd, unopts, unopt, unoptsO, unoptsB, lazyO, guardOf, gbool, eMov, eNot, eNeg, eConv, eExt, eLenArr, eLen, eLenStr, eEqb, eEqv, allEq, eNil, negIf, eBool2, eCmp, eAri, ari, eBit, eDiv, eSh, eMinMax, foldMin, foldMax, kEq, pure1, cmpB, VO.quiet, resVals, resVal, tupled, popRet, popTo, cond, Option.bind, Option.map, eNew, eBox, asCells, lenH, snocH, eFieldAddr, eField, eLoad, cellsAt, getH, setH, dropL, takeL, mkAgg, lenL, lenS, shift, shiftL, shiftH, viewN, viewL, view, andT, junks, List.append_nil, Nat.beq, eIdxAddr, eIdxArr, eIndex, eStore, storeAt, spliceL, ones, one, eSlice, eSliceArr, bounds, subLo, addLo, eMake, eAppend, readS, repL, buildCells, chunk, purgeL, purgeLL, purgeH, purge, refs, refsL, List.cons_append, List.nil_append, wrOps, wrAl, wrDops, wrC, junkAt, putAll, putHs, headOf, headK, keepG, List.append_eq, headX, chkP, apartP, apartB, blk, strip, runAl, yld, putPs, lenN, findR, notRound, jumpK, jumpPT, jcode, List.map_cons, List.map_nil, ite_self, reduceIte]
  simp only [true_and, and_true, imp_self, implies_true, decide_eq_true_eq, decide_eq_false_iff_not, Nat.reduceAdd, Nat.reduceLeDiff, Bool.not_not, reduceCtorEq, false_imp_iff, Bool.not_eq_true', Bool.not_eq_false', Bool.false_eq_true, and_self, forall_const, ne_eq, not_false_eq_true, Nat.reduceEqDiff]
  have key : lsP 3 encC l.length 3 (fun k => [SV.vs false (l.getD k default).z (l.getD k default).parts.length 4 fun j => [SV.int .i64 ((l.getD k default).parts.getD j default).num, SV.int .i64 ((l.getD k default).parts.getD j default).den, SV.int .i64 ((l.getD k default).parts.getD j default).play, SV.int .i64 ((l.getD k default).parts.getD j default).weight], SV.int .i64 (l.getD k default).pluck, SV.int .i64 (l.getD k default).turn]) l := ⟨rfl, rfl, fun k _ => leXL_self _⟩
  refine ⟨l, ⟨key, hmax⟩, fun _ => ans_bool hk, fun _ => ⟨l, key, by decide, by decide, l, key, by decide, by decide, (regF l x y).1, ⟨⟨rfl, rfl, fun k _ => leXL_self _⟩, ?_⟩, (regF l x y).1, ⟨rfl, rfl, fun k _ => leXL_self _⟩, ans_bool ?_⟩⟩
  · unfold regF
    split
    · simp
    · split
      · simpa using hmax
      · simp
  · have hk' : k (.bool true) [] := hk
    simpa using hk'

def lawU : List PSh := [⟨true, shChain⟩, ⟨false, [.slice shChain]⟩, ⟨false, [.int .i64]⟩]

theorem lawTouch : (lawC lawU).ok Try.prog 7 := by
  refine contract Try.func7 v7_is L1_ok 800 (lawC lawU) fun args k h => ?_
  obtain ⟨ha, hk⟩ := h
  obtain ⟨_, _, rfl, h1, e1⟩ := okPL_cons_inv ha
  obtain ⟨cs, rfl, hcs⟩ := okP_agg_inv h1
  obtain ⟨v, _, rfl, h2, e2⟩ := okPL_cons_inv e1
  obtain ⟨_, _, rfl, h3, e3⟩ := okPL_cons_inv e2
  obtain ⟨x, rfl, _⟩ := okP_one_inv h3
  cases okPL_nil_inv e3
  obtain ⟨⟨zc, c, p, t⟩, hlec, hmaxc⟩ := chain_of hcs
  obtain ⟨z, l, hmax, hle⟩ := chains_of (okP_one_inv h2)
  rw [maxLen_eq] at hmax
  refine ⟨[.agg (encC ⟨zc, c, p, t⟩), .vs false z l.length 3 (fun k => encC (l.getD k default)), .int .i64 x], ⟨leXL_le _ _ hlec (by simp only [encC, bndL_cons, bndL_nil, bnd_vs, bnd_int, and_self]), leX_le _ _ hle trivial, ⟨rfl, rfl⟩, trivial⟩, ?_⟩
  dsimp only [v7, L1_ct15, farC, L1_ct8, trueC, L1_ct19, L1_ct21, TouC, chC, L1_ct22, L1_ct23, coupC, L1_ct24, same2C, sameC, encC, enc, enc2, r_end, r_end1, r_nil, r_op, r_opg, r_runOp, r_op0, r_yld0, r_yld1, r_y, r_rbeg, r_rend, r_rend1, r_rfrm, r_rfrm1, r_range, r_rangeK, r_rangeE, r_draw, r_dnil, r_dop, r_dopg, r_dplq, r_dplh, r_dq, r_dq0, r_dcl1, r_dcl0, r_dct1, r_dct0, r_dgd, r_dgq1, r_dgq0, r_dctG, r_op1, r_eff, r_eff0, r_call, r_call0, r_inl, r_g, r_gq, r_gc, r_effg, r_effg0, r_callg, r_callg0, r_fin, r_pre, r_imp, r_all, r_ex, r_fing, r_preg, r_exg, r_inBlock, r_inLoop, r_frame, r_frame1, r_skip, r_region, r_seq, r_cond, r_cond1, r_block, r_exit, r_exit1, r_exit2, r_ret, r_loop, s_args0, s_args1, s_xt, s_xc, padL, blankL, callee, callArgs, eff, ctOf, getL, setL, S.put, S.upd, unopts, unopt, unoptsO, unoptsB, lazyO, guardOf, gbool, eMov, eNot, eNeg, eConv, eExt, eLenArr, eLen, eLenStr, eEqb, eEqv, allEq, eNil, negIf, eBool2, eCmp, eAri, ari, eBit, eDiv, eSh, eMinMax, foldMin, foldMax, kEq, pure1, cmpB, VO.quiet, resVals, resVal, tupled, popRet, popTo, cond, Option.bind, Option.map, eNew, eBox, asCells, lenH, snocH, eFieldAddr, eField, eLoad, cellsAt, getH, setH, dropL, takeL, mkAgg, lenL, lenS, shift, shiftL, shiftH, viewN, viewL, view, andT, junks, List.append_nil, Nat.beq, eIdxAddr, eIdxArr, eIndex, eStore, storeAt, spliceL, ones, one, eSlice, eSliceArr, bounds, subLo, addLo, eMake, eAppend, readS, repL, buildCells, chunk, purgeL, purgeLL, purgeH, purge, refs, refsL, List.cons_append, List.nil_append, wrOps, wrAl, wrDops, wrC, junkAt, putAll, putHs, headOf, headK, keepG, List.append_eq, headX, chkP, apartP, apartB, blk, strip, runAl, yld, putPs, lenN, findR, notRound, jumpK, jumpPT, jcode, List.map_cons, List.map_nil, ite_self, reduceIte]
  simp only [true_and, and_true, imp_self, implies_true, decide_eq_true_eq, decide_eq_false_iff_not, Nat.reduceAdd, Nat.reduceLeDiff, Bool.not_not, reduceCtorEq, false_imp_iff, Bool.not_eq_true', Bool.not_eq_false', Bool.false_eq_true, and_self, forall_const, ne_eq, not_false_eq_true, Nat.reduceEqDiff]
  have key : lsP 3 encC l.length 3 (fun k => [SV.vs false (l.getD k default).z (l.getD k default).parts.length 4 fun j => [SV.int .i64 ((l.getD k default).parts.getD j default).num, SV.int .i64 ((l.getD k default).parts.getD j default).den, SV.int .i64 ((l.getD k default).parts.getD j default).play, SV.int .i64 ((l.getD k default).parts.getD j default).weight], SV.int .i64 (l.getD k default).pluck, SV.int .i64 (l.getD k default).turn]) l := ⟨rfl, rfl, fun k _ => leXL_self _⟩
  refine ⟨l, fun _ => ⟨key, hmax⟩, fun _ => ans_bool hk, fun _ => ⟨c, ⟨rfl, fun _ _ => rfl⟩, by decide, by decide, c, ⟨rfl, fun _ _ => rfl⟩, by decide, by decide, l, key, by decide, by decide, by decide, l, key, by decide, by decide, by decide, (coupF l x).1, fun _ => ⟨⟨rfl, rfl, fun k _ => leXL_self _⟩, ?_⟩, (coupF l x).1, fun _ => ⟨rfl, rfl, fun k _ => leXL_self _⟩, ans_bool ?_⟩⟩
  · unfold coupF
    split
    · simp
    · simpa using hmax
  · have hk' : k (.bool true) [] := hk
    simpa using hk'
end Go.Proofs.Ytmhlinndhmdjlaa
