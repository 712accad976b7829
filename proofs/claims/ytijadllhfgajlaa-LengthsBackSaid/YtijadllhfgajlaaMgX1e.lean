/- Logarithms of the program, walked: quick, plus, over, guess. -/
import Derived.Test.YtijadllhfgajlaaMgX1d
/- Logarithms of the program, walked: quick, plus, over, guess. -/
set_option linter.all false
namespace Go.Proofs.Ytijadllhfgajlaa
open Go Go.Vx
set_option maxRecDepth 100000
set_option maxHeartbeats 4000000

def v60 : VF := { ntmps := 31, res := [.cell 6 true 2], body :=
 (.seq (.region [u1 3 .box [.tm 0],
 u1 6 (.alloc [(.int .u64 0), (.int .u64 0)]) []])
 (.seq (.region [u1 11 .mov [.tm 1],
 u1 12 .mov [.tm 2],
 u1 13 (.call 38) [.tm 11, .tm 12],
 u1 10 .mov [.tm 13],
 u1 14 (.ext 0) [.tm 10],
 u1 15 (.ext 1) [.tm 10],
 u1 7 .mov [.tm 14],
 u1 8 .mov [.tm 15]])
 (.seq (.region [u1 17 (.fieldAddr 1) [.tm 3],
 u1 18 (.load false 1) [.tm 17],
 u1 19 .mov [.tm 8],
 u1 20 .addc [.tm 18, .tm 19, .cn (.int .u64 0)],
 u1 16 .mov [.tm 20],
 u1 21 (.ext 0) [.tm 16],
 u1 22 (.ext 1) [.tm 16],
 u1 8 .mov [.tm 21],
 u1 9 .mov [.tm 22]])
 (.seq (.region [u1 23 (.fieldAddr 0) [.tm 3],
 u1 24 (.load false 1) [.tm 23],
 u1 25 .mov [.tm 7],
 u1 26 (.ari .add) [.tm 24, .tm 25],
 u1 27 .mov [.tm 9],
 u1 28 (.ari .add) [.tm 26, .tm 27],
 u1 29 .mov [.tm 8],
 u1 30 (.build [(.int .u64 0), (.int .u64 0)] [(0, 1), (1, 1)]) [.tm 28, .tm 29],
 u0 (.store 2) [.tm 6, .tm 30]])
 .ret)))) }
theorem v60_is : vfunc Try.prog Try.f60 = some v60 := by kernel_rfl
def v61 : VF := { ntmps := 24, res := [.tmp 4], body :=
 (.seq (.region [u1 2 .box [.tm 0],
 u1 3 .box [.tm 1],
 u1 4 .mov [.cn (.bool false)]])
 (.seq (.region [u1 5 (.fieldAddr 0) [.tm 2],
 u1 6 (.load false 1) [.tm 5],
 u1 7 (.fieldAddr 0) [.tm 3],
 u1 8 (.load false 1) [.tm 7],
 u1 9 (.cmp .gtr) [.tm 6, .tm 8],
 u1 10 .mov [.tm 9],
 u2 11 10 false (.fieldAddr 0) [.tm 2],
 u2 12 10 false (.load false 1) [.tm 11],
 u2 13 10 false (.fieldAddr 0) [.tm 3],
 u2 14 10 false (.load false 1) [.tm 13],
 u2 15 10 false (.cmp .eql) [.tm 12, .tm 14],
 u2 16 10 false .mov [.tm 15],
 u2 17 16 true (.fieldAddr 1) [.tm 2],
 u2 18 16 true (.load false 1) [.tm 17],
 u2 19 16 true (.fieldAddr 1) [.tm 3],
 u2 20 16 true (.load false 1) [.tm 19],
 u2 21 16 true (.cmp .gtr) [.tm 18, .tm 20],
 u2 22 10 false .and [.tm 16, .tm 21],
 u1 23 .or [.tm 10, .tm 22],
 u1 4 .mov [.tm 23]])
 .ret)) }
theorem v61_is : vfunc Try.prog Try.f61 = some v61 := by kernel_rfl
def v59 : VF := { ntmps := 100, res := [.tmp 2, .tmp 3], body :=
 (.seq (.region [u1 2 .mov [.cn (.int .u64 0)],
 u1 3 .mov [.cn (.int .u64 0)]])
 (.seq (.region [u1 15 .mov [.tm 0],
 u1 16 (.conv .u64) [.tm 15],
 u1 17 (.call 54) [.tm 16],
 u1 18 (.ari .sub) [.tm 17, .cn (.int .i64 1)],
 u1 4 .mov [.tm 18]])
 (.seq (.region [u1 19 .mov [.tm 4],
 u1 20 (.conv .u64) [.tm 19],
 u1 5 .mov [.tm 20]])
 (.seq (.seq (.region [u1 21 .mov [.tm 0],
 u1 22 .mov [.tm 0],
 u1 23 (.ari .sub) [.tm 22, .cn (.int .i64 1)],
 u1 24 (.bit .and) [.tm 21, .tm 23],
 u1 25 (.cmp .eql) [.tm 24, .cn (.int .i64 0)]])
 (.cond (.tm 25) (.seq (.region [u1 26 .mov [.tm 5],
 u1 27 .shl [.tm 26, .cn (.int .u64 28)],
 u1 28 .mov [.tm 5],
 u1 29 .shl [.tm 28, .cn (.int .u64 28)],
 u1 2 .mov [.tm 27],
 u1 3 .mov [.tm 29]])
 .ret)
  .skip))
 (.seq (.region [u1 30 .mov [.tm 0],
 u1 31 (.conv .u64) [.tm 30],
 u1 32 .mov [.tm 4],
 u1 33 (.ari .sub) [.cn (.int .i64 63), .tm 32],
 u1 34 .shl [.tm 31, .tm 33],
 u1 6 .mov [.tm 34]])
 (.seq (.region [u1 35 .mov [.tm 6],
 u1 7 .mov [.tm 35]])
 (.seq (.seq (.region [u1 36 .mov [.cn (.int .i64 0)]])
 (.block 0 (.loop (.seq (.region [u1 37 (.cmp .lss) [.tm 36, .cn (.int .i64 28)]])
 (.seq (.cond (.tm 37) .skip
  (.exit 0))
 (.seq (.block 1 (.seq (.region [u1 38 .mov [.tm 36],
 u1 8 .mov [.tm 38]])
 (.seq (.region [u1 40 .mov [.tm 6],
 u1 41 .mov [.tm 6],
 u1 42 (.call 38) [.tm 40, .tm 41],
 u1 39 .mov [.tm 42],
 u1 43 (.ext 0) [.tm 39],
 u1 44 (.ext 1) [.tm 39],
 u1 9 .mov [.tm 43],
 u1 10 .mov [.tm 44]])
 (.seq (.region [u1 46 .mov [.tm 7],
 u1 47 .mov [.tm 7],
 u1 48 (.call 38) [.tm 46, .tm 47],
 u1 45 .mov [.tm 48],
 u1 49 (.ext 0) [.tm 45],
 u1 50 (.ext 1) [.tm 45],
 u1 11 .mov [.tm 49],
 u1 12 .mov [.tm 50]])
 (.seq (.region [u1 51 .mov [.tm 9],
 u1 52 .shr [.tm 51, .cn (.int .u64 63)],
 u1 13 .mov [.tm 52]])
 (.seq (.region [u1 53 .mov [.tm 13],
 u1 54 .mov [.tm 11],
 u1 55 .shr [.tm 54, .cn (.int .u64 63)],
 u1 56 (.cmp .eql) [.tm 53, .tm 55],
 u1 14 .mov [.tm 56]])
 (.seq (.seq (.region [u1 57 .mov [.tm 13],
 u1 58 (.cmp .eql) [.tm 57, .cn (.int .u64 0)]])
 (.cond (.tm 58) (.region [u1 59 .mov [.tm 9],
 u1 60 .shl [.tm 59, .cn (.int .u64 1)],
 u1 61 .mov [.tm 10],
 u1 62 .shr [.tm 61, .cn (.int .u64 63)],
 u1 63 (.bit .or) [.tm 60, .tm 62],
 u1 64 .mov [.tm 11],
 u1 65 .shl [.tm 64, .cn (.int .u64 1)],
 u1 66 .mov [.tm 12],
 u1 67 .shr [.tm 66, .cn (.int .u64 63)],
 u1 68 (.bit .or) [.tm 65, .tm 67],
 u1 69 .mov [.tm 12],
 u1 70 .shl [.tm 69, .cn (.int .u64 1)],
 u1 9 .mov [.tm 63],
 u1 11 .mov [.tm 68],
 u1 12 .mov [.tm 70]])
  .skip))
 (.seq (.seq (.region [u1 71 .mov [.tm 12],
 u1 72 (.cmp .gtr) [.tm 71, .cn (.int .u64 0)]])
 (.cond (.tm 72) (.region [u1 73 .mov [.tm 11],
 u1 74 (.ari .add) [.tm 73, .cn (.int .u64 1)],
 u1 11 .mov [.tm 74]])
  .skip))
 (.seq (.seq (.region [u1 75 .mov [.tm 14],
 u1 76 .not [.tm 75],
 u1 77 .mov [.tm 76],
 u2 78 77 false .mov [.tm 11],
 u2 79 77 false (.cmp .eql) [.tm 78, .cn (.int .u64 0)],
 u1 80 .or [.tm 77, .tm 79]])
 (.cond (.tm 80) (.seq (.draw [] [w1 81 .mov [.tm 5],
 w1 82 .mov [.tm 8],
 w1 83 (.ari .sub) [.cn (.int .i64 28), .tm 82],
 w1 84 .shl [.tm 81, .tm 83],
 w1 85 .mov [.tm 5],
 w1 86 (.ari .add) [.tm 85, .cn (.int .u64 1)],
 w1 87 .mov [.tm 8],
 w1 88 (.ari .sub) [.cn (.int .i64 28), .tm 87],
 w1 89 .shl [.tm 86, .tm 88],
 w1 2 .mov [.tm 84],
 w1 3 .mov [.tm 89]])
 .ret)
  .skip))
 (.region [u1 90 .mov [.tm 9],
 u1 91 .mov [.tm 11],
 u1 92 .mov [.tm 5],
 u1 93 .shl [.tm 92, .cn (.int .u64 1)],
 u1 94 .mov [.tm 13],
 u1 95 (.bit .or) [.tm 93, .tm 94],
 u1 6 .mov [.tm 90],
 u1 7 .mov [.tm 91],
 u1 5 .mov [.tm 95]]))))))))))
 (.region [u1 96 (.ari .add) [.tm 36, .cn (.int .i64 1)],
 u1 36 .mov [.tm 96]])))))))
 (.seq (.region [u1 97 .mov [.tm 5],
 u1 98 .mov [.tm 5],
 u1 99 (.ari .add) [.tm 98, .cn (.int .u64 1)],
 u1 2 .mov [.tm 97],
 u1 3 .mov [.tm 99]])
 .ret)))))))) }
theorem v59_is : vfunc Try.prog Try.f59 = some v59 := by kernel_rfl


/-! ### Numbers of 128 bits -/

def plusL (a : Int × Int) (x y : Int) : Int × Int :=
  (IntKind.u64.wrap (IntKind.u64.wrap (a.1 + x * y / 18446744073709551616) + (a.2 + x * y % 18446744073709551616) / 18446744073709551616), (a.2 + x * y % 18446744073709551616) % 18446744073709551616)
def overL (a b : Int × Int) : Bool := decide (b.1 < a.1) || (decide (a.1 = b.1) && decide (b.2 < a.2))
def okL (a : Int × Int) : Prop := (0 ≤ a.1 ∧ a.1 ≤ 18446744073709551615) ∧ 0 ≤ a.2 ∧ a.2 ≤ 18446744073709551615
def lpC : Ctr := { alias := false, of := fun l => match l with
  | [.agg [.int .u64 a, .int .u64 b], .int .u64 x, .int .u64 y] => .pre (okL (a, b) ∧ (0 ≤ x ∧ x ≤ 18446744073709551615) ∧ 0 ≤ y ∧ y ≤ 18446744073709551615) (.fin (.agg [.int .u64 (plusL (a, b) x y).1, .int .u64 (plusL (a, b) x y).2]) [])
  | _ => noC }
def loC : Ctr := { alias := false, of := fun l => match l with
  | [.agg [.int .u64 a, .int .u64 b], .agg [.int .u64 c, .int .u64 d]] => .fin (.bool (overL (a, b) (c, d))) []
  | _ => noC }
def RA5 : Env := { ct := fun n => match n with | 38 => some mul64C | _ => none, fn := fun _ => none, meth := fun _ _ => none }
theorem RA5_ct38 : RA5.ct 38 = some mul64C := rfl
theorem RA5_ok : EnvOk Try.prog RA5 := by
  refine ⟨fun f c h => ?_, fun f vf h => ?_, (fun _ _ _ h => by cases h), by kernel_rfl, (fun _ h => by cases h)⟩
  · simp only [RA5] at h
    split at h
    · cases h; exact ⟨mul64_ok, Try.f38, Try.func38, by kernel_rfl, by kernel_rfl⟩
    · cases h
  · cases h

theorem lp_c : lpC.ok Try.prog 60 := by
  refine contract Try.func60 v60_is RA5_ok 200 lpC fun args k h => ?_
  simp only [lpC] at h
  split at h
  · rename_i a b x y
    obtain ⟨⟨⟨⟨a0, a1⟩, b0, b1⟩, hx, hy⟩, h⟩ := h
    refine ⟨[.agg [.int .u64 a, .int .u64 b], .int .u64 x, .int .u64 y], by simp [leL, le], ?_⟩
    dsimp only [v60, RA5_ct38, mul64C, eAddc, go_sem, Option.bind, Option.map, List.append_nil, Nat.beq, List.cons_append, List.nil_append, List.append_eq, List.map_cons, List.map_nil, ite_self, reduceIte]
    simp only [true_and, and_true, imp_self, implies_true, decide_eq_true_eq, decide_eq_false_iff_not, Nat.reduceAdd, Nat.reduceLeDiff, Bool.not_not, reduceCtorEq, false_imp_iff, Bool.not_eq_true', Bool.not_eq_false', Bool.false_eq_true, and_self, forall_const, ne_eq, not_false_eq_true, Nat.reduceEqDiff]
    refine ⟨⟨hx, hy⟩, by decide, by decide, ⟨b0, Int.emod_nonneg _ (by decide), by decide, by decide⟩, by decide, by decide, ?_⟩
    rw [Int.add_zero]
    exact ans_le (show k _ [] from h) (le_self (.agg [.int .u64 (plusL (a, b) x y).1, .int .u64 (plusL (a, b) x y).2]) ⟨trivial, trivial, trivial⟩) (fun _ => by simp [freshS, freshL])
  · exact h.1.elim
theorem lo_c : loC.ok Try.prog 61 := by
  refine contract Try.func61 v61_is RA5_ok 200 loC fun args k h => ?_
  simp only [loC] at h
  split at h
  · rename_i a b c d
    refine ⟨[.agg [.int .u64 a, .int .u64 b], .agg [.int .u64 c, .int .u64 d]], by simp [leL, le], ?_⟩
    dsimp only [v61, go_sem, Option.bind, Option.map, List.append_nil, Nat.beq, List.cons_append, List.nil_append, List.append_eq, List.map_cons, List.map_nil, ite_self, reduceIte]
    simp only [true_and, and_true, imp_self, implies_true, decide_eq_true_eq, decide_eq_false_iff_not, Nat.reduceAdd, Nat.reduceLeDiff, Bool.not_not, reduceCtorEq, false_imp_iff, Bool.not_eq_true', Bool.not_eq_false', Bool.false_eq_true, and_self, forall_const, ne_eq, not_false_eq_true, Nat.reduceEqDiff]
    exact ⟨fun h1 h2 => by rw [decide_eq_false h1, decide_eq_true h2]; rfl, ans_bool h⟩
  · exact h.1.elim

def RA6 : Env := { ct := fun n => match n with | 54 => some len64C | 38 => some mul64C | _ => none, fn := fun _ => none, meth := fun _ _ => none }
theorem RA6_ct54 : RA6.ct 54 = some len64C := rfl
theorem RA6_ct38 : RA6.ct 38 = some mul64C := rfl
theorem RA6_ok : EnvOk Try.prog RA6 := by
  refine ⟨fun f c h => ?_, fun f vf h => ?_, (fun _ _ _ h => by cases h), by kernel_rfl, (fun _ h => by cases h)⟩
  · simp only [RA6] at h
    split at h
    · cases h; exact ⟨len64_ok, Try.f54, Try.func54, by kernel_rfl, by kernel_rfl⟩
    · cases h; exact ⟨mul64_ok, Try.f38, Try.func38, by kernel_rfl, by kernel_rfl⟩
    · cases h
  · cases h

abbrev hiW (a : Int) : Int := a * a / 18446744073709551616
abbrev loW (a : Int) : Int := a * a % 18446744073709551616
abbrev sr63 (x : Int) : Int := x.fdiv (2 ^ min (Int.toNat 63) 64)
abbrev sl1 (x : Int) : Int := IntKind.u64.wrap (x * 2 ^ min (Int.toNat 1) 64)
abbrev dblW (x y : Int) : Int := bitI .or .u64 (sl1 x) (sr63 y)
abbrev shW (S : Int) (f : Nat) : Int := IntKind.u64.wrap (S * 2 ^ min f 64)
def quickL : Nat → Int → Int → Int → Int × Int
  | 0, S, _, _ => (S, IntKind.u64.wrap (S + 1))
  | f + 1, S, a, b =>
    if sr63 (hiW a) = 0 then
      if 0 < sl1 (loW b) then
        if (!decide (sr63 (hiW a) = sr63 (hiW b)) || decide (IntKind.u64.wrap (dblW (hiW b) (loW b) + 1) = 0)) = true then (shW S (f + 1), shW (IntKind.u64.wrap (S + 1)) (f + 1))
        else quickL f (bitI .or .u64 (sl1 S) (sr63 (hiW a))) (dblW (hiW a) (loW a)) (IntKind.u64.wrap (dblW (hiW b) (loW b) + 1))
      else
        if (!decide (sr63 (hiW a) = sr63 (hiW b)) || decide (dblW (hiW b) (loW b) = 0)) = true then (shW S (f + 1), shW (IntKind.u64.wrap (S + 1)) (f + 1))
        else quickL f (bitI .or .u64 (sl1 S) (sr63 (hiW a))) (dblW (hiW a) (loW a)) (dblW (hiW b) (loW b))
    else
      if 0 < loW b then
        if (!decide (sr63 (hiW a) = sr63 (hiW b)) || decide (IntKind.u64.wrap (hiW b + 1) = 0)) = true then (shW S (f + 1), shW (IntKind.u64.wrap (S + 1)) (f + 1))
        else quickL f (bitI .or .u64 (sl1 S) (sr63 (hiW a))) (hiW a) (IntKind.u64.wrap (hiW b + 1))
      else
        if (!decide (sr63 (hiW a) = sr63 (hiW b)) || decide (hiW b = 0)) = true then (shW S (f + 1), shW (IntKind.u64.wrap (S + 1)) (f + 1))
        else quickL f (bitI .or .u64 (sl1 S) (sr63 (hiW a))) (hiW a) (hiW b)
def quickF (n : Int) : Int × Int :=
  if isPow n = true then (IntKind.u64.wrap (((bitsN n.toNat - 1 : Nat) : Int) * 2 ^ min (Int.toNat 28) 64), IntKind.u64.wrap (((bitsN n.toNat - 1 : Nat) : Int) * 2 ^ min (Int.toNat 28) 64))
  else quickL 28 ((bitsN n.toNat - 1 : Nat) : Int) (shW n (63 - (bitsN n.toNat - 1))) (shW n (63 - (bitsN n.toNat - 1)))
theorem u64_rng (x : Int) : 0 ≤ IntKind.u64.wrap x ∧ IntKind.u64.wrap x ≤ 18446744073709551615 := by rw [u_mod]; omega
theorem bor_rng (x y : Int) : 0 ≤ bitI .or .u64 x y ∧ bitI .or .u64 x y ≤ 18446744073709551615 := u64_rng _
theorem hiW_rng {a : Int} (h0 : 0 ≤ a) (h1 : a ≤ 18446744073709551615) : 0 ≤ hiW a ∧ hiW a ≤ 18446744073709551615 := by
  have h2 : a * a ≤ 18446744073709551615 * 18446744073709551615 := mul_le' h1 h1 h0 (by decide)
  have h3 : 0 ≤ a * a := Int.mul_nonneg h0 h0
  unfold hiW
  omega
def quickC : Ctr := { alias := false, of := fun l => match l with
  | [.int .i64 n] => .pre (1 ≤ n ∧ n ≤ 4611686018427387904) (.fin (.tup [.int .u64 (quickF n).1, .int .u64 (quickF n).2]) [])
  | _ => noC }
theorem quick_c : quickC.ok Try.prog 59 := by
  refine contract Try.func59 v59_is RA6_ok 400 quickC fun args k h => ?_
  simp only [quickC] at h
  split at h
  · rename_i n
    obtain ⟨⟨n0, n1⟩, h⟩ := h
    refine ⟨[.int .i64 n], by simp [leL, le], ?_⟩
    dsimp only [v59, RA6_ct54, RA6_ct38, len64C, mul64C, go_sem, Option.bind, Option.map, List.append_nil, Nat.beq, List.cons_append, List.nil_append, List.append_eq, List.map_cons, List.map_nil, ite_self, reduceIte]
    simp only [true_and, and_true, imp_self, implies_true, decide_eq_true_eq, decide_eq_false_iff_not, Nat.reduceAdd, Nat.reduceLeDiff, Bool.not_not, reduceCtorEq, false_imp_iff, Bool.not_eq_true', Bool.not_eq_false', Bool.false_eq_true, and_self, forall_const, ne_eq, not_false_eq_true, Nat.reduceEqDiff]
    have hb1 : bitsN n.toNat ≤ 63 := bitsN_le.2 (by have : (2 : Nat) ^ 63 = 9223372036854775808 := rfl; omega)
    have hb0 : bitsN n.toNat ≠ 0 := fun e => by have := bitsN_eq0.1 e; omega
    obtain ⟨K, hK⟩ : ∃ K, K = bitsN n.toNat - 1 := ⟨_, rfl⟩
    have eu : IntKind.u64.wrap n = n := IntWalk.u64_in _ (by omega)
    have ek : IntKind.i64.wrap ((bitsN n.toNat : Int) - 1) = (K : Int) := by rw [hK, IntWalk.i64_in _ (by omega)]; omega
    have ek2 : IntKind.i64.wrap (63 - (K : Int)) = ((63 - K : Nat) : Int) := by rw [IntWalk.i64_in _ (by omega)]; omega
    have ek3 : IntKind.u64.wrap (K : Int) = (K : Int) := IntWalk.u64_in _ (by omega)
    rw [eu, ek, ek2, ek3]
    refine ⟨by omega, fun hc => ⟨by decide, by decide, ?_⟩, fun hc => ⟨by omega, ?_⟩⟩
    · rw [quickF, if_pos (show isPow n = true from decide_eq_true hc), ← hK] at h
      exact ans_oi h
    · have e : quickF n = quickL 28 K (shW n (63 - K)) (shW n (63 - K)) := by rw [quickF, if_neg (show ¬ isPow n = true from fun hh => hc (of_decide_eq_true hh)), ← hK]
      rw [e] at h
      rw [Int.toNat_natCast]
      obtain ⟨A, hA⟩ : ∃ A, A = shW n (63 - K) := ⟨_, rfl⟩
      rw [← hA] at h
      obtain ⟨R, hR⟩ : ∃ R, R = quickL 28 K A A := ⟨_, rfl⟩
      rw [← hR] at h
      rw [show IntKind.u64.wrap (n * 2 ^ min (63 - K) 64) = A from hA.symm]
      have hAr : 0 ≤ A ∧ A ≤ 18446744073709551615 := by rw [hA]; exact u64_rng _
      refine Loop.keep [] (Int × Int × Int × Nat) (fun s => [(5, .int .u64 s.1), (6, .int .u64 s.2.1), (7, .int .u64 s.2.2.1), (36, .int .i64 s.2.2.2)]) (fun _ => []) [] (fun s => s.2.2.2 ≤ 28 ∧ R = quickL (28 - s.2.2.2) s.1 s.2.1 s.2.2.1 ∧ (0 ≤ s.2.1 ∧ s.2.1 ≤ 18446744073709551615) ∧ 0 ≤ s.2.2.1 ∧ s.2.2.1 ≤ 18446744073709551615) (fun s => 28 - s.2.2.2) ?_ ?_
      · refine ⟨(K, A, A, 0), ⟨by simp only; omega, hR, hAr, hAr⟩, ?_⟩
        dsimp only [go_sem, Option.bind, Option.map, List.append_nil, Nat.beq, List.cons_append, List.nil_append, List.append_eq, List.map_cons, List.map_nil, ite_self, reduceIte]
        simp only [leS_mk, leL_cons, leL_nil, le_junk, le_int, le_bool, le_nil, leLL_nil, leLL_cons, leH_cons, leH_nil, leH1_box, leH1_own, leH1_gone, le_vs, le_agg, le_tup, le_ptr, le_own, le_xp, le_fn, le_opt, le_val, le_elem, le_nil_own, le_nil_vs, leH_ghost, leL_chunk, leXL_id, bnd_int, bnd_bool, bnd_val, bnd_nil, bnd_junk, bnd_vs, bnd_xp, bnd_agg, bnd_tup, bnd_ptr, bnd_own, bnd_elem, bnd_fn, bnd_iface, bnd_opt, bnd_row, bnd_rcell, bnd_imap, bnd_smp, le_row, le_rcell, le_imap, le_smp, leH1_smap, bndL_nil, bndL_cons, lenH_cons, lenH_nil, imp_self, implies_true, true_and, and_true]
        try simp
      · rintro ⟨S, a, b, i⟩ ⟨hi, he, ha, hb⟩
        dsimp only at hi he ha hb
        dsimp only [RA6_ct54, RA6_ct38, len64C, mul64C, go_sem, Option.bind, Option.map, List.append_nil, Nat.beq, List.cons_append, List.nil_append, List.append_eq, List.map_cons, List.map_nil, ite_self, reduceIte]
        simp only [true_and, and_true, imp_self, implies_true, decide_eq_true_eq, decide_eq_false_iff_not, Nat.reduceAdd, Nat.reduceLeDiff, Bool.not_not, reduceCtorEq, false_imp_iff, Bool.not_eq_true', Bool.not_eq_false', Bool.false_eq_true, and_self, forall_const, ne_eq, not_false_eq_true, Nat.reduceEqDiff]
        have ei : IntKind.i64.wrap (28 - (i : Int)) = ((28 - i : Nat) : Int) := by rw [IntWalk.i64_in _ (by omega)]; omega
        rw [ei]
        have hA2 := hiW_rng ha.1 ha.2
        have hB2 := hiW_rng hb.1 hb.2
        refine ⟨fun hlt => ?_, fun hge => ?_⟩
        · obtain ⟨f, hf⟩ : ∃ f, 28 - i = f + 1 := ⟨28 - i - 1, by omega⟩
          rw [hf, quickL] at he
          rw [hf, Int.toNat_natCast]
          refine ⟨ha, by decide, by decide, hb, by decide, by decide, by decide, by decide, fun hc1 => ⟨by decide, by decide, by decide, by decide, by decide, fun hc2 => ⟨fun hc3 => ?_, fun hc3 => ?_⟩, fun hc2 => ⟨fun hc3 => ?_, fun hc3 => ?_⟩⟩, fun hc1 => ⟨fun hc2 => ⟨fun hc3 => ?_, fun hc3 => ?_⟩, fun hc2 => ⟨fun hc3 => ?_, fun hc3 => ?_⟩⟩⟩
          · rw [if_pos hc1, if_pos hc2, if_pos hc3] at he
            rw [he] at h
            exact ⟨by omega, by omega, ans_oi h⟩
          · rw [if_pos hc1, if_pos hc2, if_neg (by rw [hc3]; decide)] at he
            refine ⟨by decide, (bitI .or .u64 (sl1 S) (sr63 (hiW a)), dblW (hiW a) (loW a), IntKind.u64.wrap (dblW (hiW b) (loW b) + 1), i + 1), ⟨by simp only; omega, by rw [show 28 - (i + 1) = f by omega]; exact he, bor_rng _ _, u64_rng _⟩, by simp only; omega, ?_⟩
            rw [IntWalk.i64_in ((i : Int) + 1) (by omega)]
            simp only [leS_mk, leL_cons, leL_nil, le_junk, le_int, le_bool, le_nil, leLL_nil, leLL_cons, leH_cons, leH_nil, leH1_box, leH1_own, leH1_gone, le_vs, le_agg, le_tup, le_ptr, le_own, le_xp, le_fn, le_opt, le_val, le_elem, le_nil_own, le_nil_vs, leH_ghost, leL_chunk, leXL_id, bnd_int, bnd_bool, bnd_val, bnd_nil, bnd_junk, bnd_vs, bnd_xp, bnd_agg, bnd_tup, bnd_ptr, bnd_own, bnd_elem, bnd_fn, bnd_iface, bnd_opt, bnd_row, bnd_rcell, bnd_imap, bnd_smp, le_row, le_rcell, le_imap, le_smp, leH1_smap, bndL_nil, bndL_cons, lenH_cons, lenH_nil, imp_self, implies_true, true_and, and_true]
            simp
          · rw [if_pos hc1, if_neg hc2, if_pos hc3] at he
            rw [he] at h
            exact ⟨by omega, by omega, ans_oi h⟩
          · rw [if_pos hc1, if_neg hc2, if_neg (by rw [hc3]; decide)] at he
            refine ⟨by decide, (bitI .or .u64 (sl1 S) (sr63 (hiW a)), dblW (hiW a) (loW a), dblW (hiW b) (loW b), i + 1), ⟨by simp only; omega, by rw [show 28 - (i + 1) = f by omega]; exact he, bor_rng _ _, bor_rng _ _⟩, by simp only; omega, ?_⟩
            rw [IntWalk.i64_in ((i : Int) + 1) (by omega)]
            simp only [leS_mk, leL_cons, leL_nil, le_junk, le_int, le_bool, le_nil, leLL_nil, leLL_cons, leH_cons, leH_nil, leH1_box, leH1_own, leH1_gone, le_vs, le_agg, le_tup, le_ptr, le_own, le_xp, le_fn, le_opt, le_val, le_elem, le_nil_own, le_nil_vs, leH_ghost, leL_chunk, leXL_id, bnd_int, bnd_bool, bnd_val, bnd_nil, bnd_junk, bnd_vs, bnd_xp, bnd_agg, bnd_tup, bnd_ptr, bnd_own, bnd_elem, bnd_fn, bnd_iface, bnd_opt, bnd_row, bnd_rcell, bnd_imap, bnd_smp, le_row, le_rcell, le_imap, le_smp, leH1_smap, bndL_nil, bndL_cons, lenH_cons, lenH_nil, imp_self, implies_true, true_and, and_true]
            simp
          · rw [if_neg hc1, if_pos hc2, if_pos hc3] at he
            rw [he] at h
            exact ⟨by omega, by omega, ans_oi h⟩
          · rw [if_neg hc1, if_pos hc2, if_neg (by rw [hc3]; decide)] at he
            refine ⟨by decide, (bitI .or .u64 (sl1 S) (sr63 (hiW a)), hiW a, IntKind.u64.wrap (hiW b + 1), i + 1), ⟨by simp only; omega, by rw [show 28 - (i + 1) = f by omega]; exact he, hA2, u64_rng _⟩, by simp only; omega, ?_⟩
            rw [IntWalk.i64_in ((i : Int) + 1) (by omega)]
            simp only [leS_mk, leL_cons, leL_nil, le_junk, le_int, le_bool, le_nil, leLL_nil, leLL_cons, leH_cons, leH_nil, leH1_box, leH1_own, leH1_gone, le_vs, le_agg, le_tup, le_ptr, le_own, le_xp, le_fn, le_opt, le_val, le_elem, le_nil_own, le_nil_vs, leH_ghost, leL_chunk, leXL_id, bnd_int, bnd_bool, bnd_val, bnd_nil, bnd_junk, bnd_vs, bnd_xp, bnd_agg, bnd_tup, bnd_ptr, bnd_own, bnd_elem, bnd_fn, bnd_iface, bnd_opt, bnd_row, bnd_rcell, bnd_imap, bnd_smp, le_row, le_rcell, le_imap, le_smp, leH1_smap, bndL_nil, bndL_cons, lenH_cons, lenH_nil, imp_self, implies_true, true_and, and_true]
            simp
          · rw [if_neg hc1, if_neg hc2, if_pos hc3] at he
            rw [he] at h
            exact ⟨by omega, by omega, ans_oi h⟩
          · rw [if_neg hc1, if_neg hc2, if_neg (by rw [hc3]; decide)] at he
            refine ⟨by decide, (bitI .or .u64 (sl1 S) (sr63 (hiW a)), hiW a, hiW b, i + 1), ⟨by simp only; omega, by rw [show 28 - (i + 1) = f by omega]; exact he, hA2, hB2⟩, by simp only; omega, ?_⟩
            rw [IntWalk.i64_in ((i : Int) + 1) (by omega)]
            simp only [leS_mk, leL_cons, leL_nil, le_junk, le_int, le_bool, le_nil, leLL_nil, leLL_cons, leH_cons, leH_nil, leH1_box, leH1_own, leH1_gone, le_vs, le_agg, le_tup, le_ptr, le_own, le_xp, le_fn, le_opt, le_val, le_elem, le_nil_own, le_nil_vs, leH_ghost, leL_chunk, leXL_id, bnd_int, bnd_bool, bnd_val, bnd_nil, bnd_junk, bnd_vs, bnd_xp, bnd_agg, bnd_tup, bnd_ptr, bnd_own, bnd_elem, bnd_fn, bnd_iface, bnd_opt, bnd_row, bnd_rcell, bnd_imap, bnd_smp, le_row, le_rcell, le_imap, le_smp, leH1_smap, bndL_nil, bndL_cons, lenH_cons, lenH_nil, imp_self, implies_true, true_and, and_true]
            simp
        · rw [show 28 - i = 0 by omega, quickL] at he
          rw [he] at h
          exact ans_oi h
  · exact h.1.elim
end Go.Proofs.Ytijadllhfgajlaa

/- Signs of the program, walked: guess. -/
/- Signs of the program, walked: guess. -/
set_option linter.all false
namespace Go.Proofs.Ytijadllhfgajlaa
open Go Go.Vx
set_option maxRecDepth 100000
set_option maxHeartbeats 4000000

def v55 : VF := { ntmps := 72, res := [.tmp 2, .tmp 3], body :=
 (.seq (.region [u1 2 .mov [.cn (.int .i64 0)],
 u1 3 .mov [.cn (.bool false)]])
 (.seq (.region [u1 4 (.allocArr 2 2 [(.int .u64 0), (.int .u64 0), (.int .u64 0), (.int .u64 0)]) [],
 u1 5 (.allocArr 2 2 [(.int .u64 0), (.int .u64 0), (.int .u64 0), (.int .u64 0)]) []])
 (.seq (.seq (.region [u1 10 .mov [.tm 0],
 u1 11 .len [.tm 10],
 u1 12 .mov [.cn (.int .i64 0)]])
 (.block 0 (.loop (.seq (.region [u1 13 (.cmp .lss) [.tm 12, .tm 11]])
 (.seq (.cond (.tm 13) .skip
  (.exit 0))
 (.seq (.block 1 (.seq (.region [u1 14 (.idxAddr 2) [.tm 10, .tm 12],
 u1 15 (.load true 2) [.tm 14],
 u1 7 (.alloc [(.int .i64 0), (.int .i64 0)]) [],
 u0 (.store 2) [.tm 7, .tm 15]])
 (.seq (.region [u1 17 (.fieldAddr 0) [.tm 7],
 u1 18 (.load false 1) [.tm 17],
 u1 19 (.call 59) [.tm 18],
 u1 16 .mov [.tm 19],
 u1 20 (.ext 0) [.tm 16],
 u1 21 (.ext 1) [.tm 16],
 u1 8 .mov [.tm 20],
 u1 9 .mov [.tm 21]])
 (.seq (.region [u1 22 (.fieldAddr 1) [.tm 7],
 u1 23 (.load false 1) [.tm 22],
 u1 24 (.cmp .geq) [.tm 23, .cn (.int .i64 0)]])
 (.cond (.tm 24) (.draw [] [w1 25 (.idxArr 2 2) [.tm 4, .cn (.int .i64 0)],
 w1 26 (.load true 2) [.tm 25],
 w1 27 .mov [.tm 8],
 w1 28 (.fieldAddr 1) [.tm 7],
 w1 29 (.load false 1) [.tm 28],
 w1 30 (.conv .u64) [.tm 29],
 w1 32 (.idxArr 2 2) [.tm 4, .cn (.int .i64 1)],
 w1 33 (.load true 2) [.tm 32],
 w1 34 .mov [.tm 9],
 w1 35 (.fieldAddr 1) [.tm 7],
 w1 36 (.load false 1) [.tm 35],
 w1 37 (.conv .u64) [.tm 36],
 w1 31 (.call 60) [.tm 26, .tm 27, .tm 30],
 w1 39 (.idxArr 2 2) [.tm 4, .cn (.int .i64 0)],
 w1 38 (.call 60) [.tm 33, .tm 34, .tm 37],
 w0 (.store 2) [.tm 39, .tm 31],
 w1 40 (.idxArr 2 2) [.tm 4, .cn (.int .i64 1)],
 w0 (.store 2) [.tm 40, .tm 38]])
  (.draw [] [w1 41 (.idxArr 2 2) [.tm 5, .cn (.int .i64 0)],
 w1 42 (.load true 2) [.tm 41],
 w1 43 .mov [.tm 8],
 w1 44 (.fieldAddr 1) [.tm 7],
 w1 45 (.load false 1) [.tm 44],
 w1 46 .neg [.tm 45],
 w1 47 (.conv .u64) [.tm 46],
 w1 49 (.idxArr 2 2) [.tm 5, .cn (.int .i64 1)],
 w1 50 (.load true 2) [.tm 49],
 w1 51 .mov [.tm 9],
 w1 52 (.fieldAddr 1) [.tm 7],
 w1 53 (.load false 1) [.tm 52],
 w1 54 .neg [.tm 53],
 w1 55 (.conv .u64) [.tm 54],
 w1 48 (.call 60) [.tm 42, .tm 43, .tm 47],
 w1 57 (.idxArr 2 2) [.tm 5, .cn (.int .i64 0)],
 w1 56 (.call 60) [.tm 50, .tm 51, .tm 55],
 w0 (.store 2) [.tm 57, .tm 48],
 w1 58 (.idxArr 2 2) [.tm 5, .cn (.int .i64 1)],
 w0 (.store 2) [.tm 58, .tm 56]]))))))
 (.region [u1 59 (.ari .add) [.tm 12, .cn (.int .i64 1)],
 u1 12 .mov [.tm 59]])))))))
 (.seq (.block 2 (.seq (.region [u1 61 (.idxArr 2 2) [.tm 4, .cn (.int .i64 0)],
 u1 62 (.load true 2) [.tm 61],
 u1 63 (.idxArr 2 2) [.tm 5, .cn (.int .i64 1)],
 u1 64 (.load true 2) [.tm 63],
 u1 65 (.call 61) [.tm 62, .tm 64],
 u1 60 .mov [.tm 65]])
 (.cond (.tm 60) (.seq (.region [u1 2 .mov [.cn (.int .i64 1)],
 u1 3 .mov [.cn (.bool true)]])
 .ret)
  (.seq (.region [u1 67 (.idxArr 2 2) [.tm 5, .cn (.int .i64 0)],
 u1 68 (.load true 2) [.tm 67],
 u1 69 (.idxArr 2 2) [.tm 4, .cn (.int .i64 1)],
 u1 70 (.load true 2) [.tm 69],
 u1 71 (.call 61) [.tm 68, .tm 70],
 u1 66 .mov [.tm 71]])
 (.cond (.tm 66) (.seq (.region [u1 2 .mov [.cn (.int .i64 (-1))],
 u1 3 .mov [.cn (.bool true)]])
 .ret)
  .skip)))))
 (.seq (.region [u1 2 .mov [.cn (.int .i64 0)],
 u1 3 .mov [.cn (.bool false)]])
 .ret))))) }
theorem v55_is : vfunc Try.prog Try.f55 = some v55 := by kernel_rfl


structure Gss where
  u0 : Int × Int
  u1 : Int × Int
  d0 : Int × Int
  d1 : Int × Int
def Gss.ok (s : Gss) : Prop := okL s.u0 ∧ okL s.u1 ∧ okL s.d0 ∧ okL s.d1
def gssS (s : Gss) (x : Int × Int) : Gss :=
  if 0 ≤ x.2 then { s with u0 := plusL s.u0 (quickF x.1).1 x.2, u1 := plusL s.u1 (quickF x.1).2 x.2 }
  else { s with d0 := plusL s.d0 (quickF x.1).1 (-x.2), d1 := plusL s.d1 (quickF x.1).2 (-x.2) }
def gss0 : Gss := ⟨(0, 0), (0, 0), (0, 0), (0, 0)⟩
def guessF (l : List (Int × Int)) : Int × Bool :=
  let s := l.foldl gssS gss0
  if overL s.u0 s.d1 = true then (1, true) else if overL s.d0 s.u1 = true then (-1, true) else (0, false)
theorem plusL_ok (a : Int × Int) (x y : Int) (h : okL a) : okL (plusL a x y) := by
  unfold plusL
  exact ⟨u64_rng _, Int.emod_nonneg _ (by decide), by show _ % _ ≤ _; omega⟩
theorem gssS_ok (s : Gss) (x : Int × Int) (h : s.ok) : (gssS s x).ok := by
  obtain ⟨h1, h2, h3, h4⟩ := h
  unfold gssS
  split
  · exact ⟨plusL_ok _ _ _ h1, plusL_ok _ _ _ h2, h3, h4⟩
  · exact ⟨h1, h2, plusL_ok _ _ _ h3, plusL_ok _ _ _ h4⟩
theorem quickL_rng : ∀ (f : Nat) (S a b : Int), (0 ≤ S ∧ S ≤ 18446744073709551615) → (0 ≤ (quickL f S a b).1 ∧ (quickL f S a b).1 ≤ 18446744073709551615) ∧ 0 ≤ (quickL f S a b).2 ∧ (quickL f S a b).2 ≤ 18446744073709551615
  | 0, S, a, b, h => ⟨h, u64_rng _⟩
  | f + 1, S, a, b, h => by
    rw [quickL]
    split
    · split
      · split
        · exact ⟨u64_rng _, u64_rng _⟩
        · exact quickL_rng f _ _ _ (bor_rng _ _)
      · split
        · exact ⟨u64_rng _, u64_rng _⟩
        · exact quickL_rng f _ _ _ (bor_rng _ _)
    · split
      · split
        · exact ⟨u64_rng _, u64_rng _⟩
        · exact quickL_rng f _ _ _ (bor_rng _ _)
      · split
        · exact ⟨u64_rng _, u64_rng _⟩
        · exact quickL_rng f _ _ _ (bor_rng _ _)
theorem quickF_rng (n : Int) (hn : n ≤ 4611686018427387904) : (0 ≤ (quickF n).1 ∧ (quickF n).1 ≤ 18446744073709551615) ∧ 0 ≤ (quickF n).2 ∧ (quickF n).2 ≤ 18446744073709551615 := by
  unfold quickF
  split
  · exact ⟨u64_rng _, u64_rng _⟩
  · have hb1 : bitsN n.toNat ≤ 63 := bitsN_le.2 (by have : (2 : Nat) ^ 63 = 9223372036854775808 := rfl; omega)
    exact quickL_rng _ _ _ _ ⟨by omega, by omega⟩
def guessC : Ctr := { alias := false, of := fun l => match l with
  | [.vs _ _ n sz get] => .ex (List (Int × Int)) fun l => .pre (lsP 2 enc2 n sz get l ∧ (∀ x, x ∈ l → okT x) ∧ n ≤ 100) (.fin (.tup [.int .i64 (guessF l).1, .bool (guessF l).2]) [])
  | _ => noC }
def RA7 : Env := { ct := fun n => match n with | 59 => some quickC | 60 => some lpC | 61 => some loC | _ => none, fn := fun _ => none, meth := fun _ _ => none }
theorem RA7_ct59 : RA7.ct 59 = some quickC := rfl
theorem RA7_ct60 : RA7.ct 60 = some lpC := rfl
theorem RA7_ct61 : RA7.ct 61 = some loC := rfl
theorem RA7_ok : EnvOk Try.prog RA7 := by
  refine ⟨fun f c h => ?_, fun f vf h => ?_, (fun _ _ _ h => by cases h), by kernel_rfl, (fun _ h => by cases h)⟩
  · simp only [RA7] at h
    split at h
    · cases h; exact ⟨quick_c, Try.f59, Try.func59, by kernel_rfl, by kernel_rfl⟩
    · cases h; exact ⟨lp_c, Try.f60, Try.func60, by kernel_rfl, by kernel_rfl⟩
    · cases h; exact ⟨lo_c, Try.f61, Try.func61, by kernel_rfl, by kernel_rfl⟩
    · cases h
  · cases h

theorem ans_wib {k : SV → List HO → Prop} {al : Bool} {hp : List HO} {κ : IntKind} {x : Int} {b : Bool} (h : k (.tup [.int κ x, .bool b]) []) : answers al k (.tup [.int κ x, .bool b]) hp :=
  ans_le (show k _ [] from h) (le_self (.tup [.int κ x, .bool b]) ⟨trivial, trivial, trivial⟩) (fun _ => by simp [freshS, freshL])
theorem guess_c : guessC.ok Try.prog 55 := by
  refine contract Try.func55 v55_is RA7_ok 500 guessC fun args k h => ?_
  simp only [guessC] at h
  split at h
  · rename_i tt z n sz get
    obtain ⟨l, ⟨⟨rfl, rfl, hg⟩, hl, hn⟩, h⟩ := h
    refine ⟨[.vs tt z l.length 2 (fun k => enc2 (l.getD k default))], ⟨⟨id, rfl, rfl, rfl, hg⟩, trivial⟩, ?_⟩
    dsimp only [v55, enc2, go_sem, Option.bind, Option.map, List.append_nil, Nat.beq, List.cons_append, List.nil_append, List.append_eq, List.map_cons, List.map_nil, ite_self, reduceIte]
    simp only [true_and, and_true, imp_self, implies_true, decide_eq_true_eq, decide_eq_false_iff_not, Nat.reduceAdd, Nat.reduceLeDiff, Bool.not_not, reduceCtorEq, false_imp_iff, Bool.not_eq_true', Bool.not_eq_false', Bool.false_eq_true, and_self, forall_const, ne_eq, not_false_eq_true, Nat.reduceEqDiff]
    refine Loop.keep [0, 3, 0, 4, 0] (Nat × Gss) (fun s => [(12, .int .i64 s.1)]) (fun s => [(0, .own false 2 2 (chunk 2 [.int .u64 s.2.u0.1, .int .u64 s.2.u0.2, .int .u64 s.2.u1.1, .int .u64 s.2.u1.2])), (1, .own false 2 2 (chunk 2 [.int .u64 s.2.d0.1, .int .u64 s.2.d0.2, .int .u64 s.2.d1.1, .int .u64 s.2.d1.2]))]) [] (fun s => s.1 ≤ l.length ∧ s.2 = (l.take s.1).foldl gssS gss0 ∧ s.2.ok) (fun s => l.length - s.1) ?_ ?_
    · refine ⟨(0, gss0), ⟨by simp only; omega, rfl, by simp [Gss.ok, gss0, okL]⟩, ?_⟩
      dsimp only [gss0, go_sem, Option.bind, Option.map, List.append_nil, Nat.beq, List.cons_append, List.nil_append, List.append_eq, List.map_cons, List.map_nil, ite_self, reduceIte]
      simp only [leS_mk, leL_cons, leL_nil, le_junk, le_int, le_bool, le_nil, leLL_nil, leLL_cons, leH_cons, leH_nil, leH1_box, leH1_own, leH1_gone, le_vs, le_agg, le_tup, le_ptr, le_own, le_xp, le_fn, le_opt, le_val, le_elem, le_nil_own, le_nil_vs, leH_ghost, leL_chunk, leXL_id, bnd_int, bnd_bool, bnd_val, bnd_nil, bnd_junk, bnd_vs, bnd_xp, bnd_agg, bnd_tup, bnd_ptr, bnd_own, bnd_elem, bnd_fn, bnd_iface, bnd_opt, bnd_row, bnd_rcell, bnd_imap, bnd_smp, le_row, le_rcell, le_imap, le_smp, leH1_smap, bndL_nil, bndL_cons, lenH_cons, lenH_nil, imp_self, implies_true, true_and, and_true]
      exact ⟨by decide, by decide, rfl⟩
    · rintro ⟨i, G⟩ ⟨hi, hG, hok⟩
      dsimp only at hi hG hok
      dsimp only [RA7_ct59, RA7_ct60, RA7_ct61, quickC, lpC, loC, enc2, Int.toNat_natCast, Int.reduceToNat, Nat.reduceMul, Int.toNat_zero, Int.toNat_one, go_sem, Option.bind, Option.map, List.append_nil, Nat.beq, List.cons_append, List.nil_append, List.append_eq, List.map_cons, List.map_nil, ite_self, reduceIte]
      simp only [true_and, and_true, imp_self, implies_true, decide_eq_true_eq, decide_eq_false_iff_not, Nat.reduceAdd, Nat.reduceLeDiff, Bool.not_not, reduceCtorEq, false_imp_iff, Bool.not_eq_true', Bool.not_eq_false', Bool.false_eq_true, and_self, forall_const, ne_eq, not_false_eq_true, Nat.reduceEqDiff]
      refine ⟨fun hlt => ?_, fun hge => ?_⟩
      · have hx := hl _ (getD_mem (by omega : i < l.length))
        generalize hxe : l.getD i default = x at hx ⊢
        obtain ⟨q0, q1, q2, q3⟩ := hx
        have hstep : (l.take (i + 1)).foldl gssS gss0 = gssS G x := by
          rw [foldl_take_succ (by omega), ← hG, hxe]
        obtain ⟨g1, g2⟩ := quickF_rng x.1 (by omega)
        have hok' := gssS_ok G x hok
        obtain ⟨o1, o2, o3, o4⟩ := hok
        refine ⟨⟨by omega, by omega⟩, ⟨by omega, by omega⟩, by decide, by decide, fun hc => ?_, fun hc => ?_⟩
        · have ew : IntKind.u64.wrap x.2 = x.2 := IntWalk.u64_in _ (by omega)
          rw [ew]
          refine ⟨by decide, by decide, by decide, by decide, ⟨o1, g1, by omega, by omega⟩, by decide, ⟨o2, g2, by omega, by omega⟩, by decide, by decide, by decide, (i + 1, gssS G x), ⟨by simp only; omega, hstep.symm, hok'⟩, by simp only; omega, ?_⟩
          rw [IntWalk.i64_in ((i : Int) + 1) (by omega)]
          simp only [gssS, if_pos hc]
          simp only [leS_mk, leL_cons, leL_nil, le_junk, le_int, le_bool, le_nil, leLL_nil, leLL_cons, leH_cons, leH_nil, leH1_box, leH1_own, leH1_gone, le_vs, le_agg, le_tup, le_ptr, le_own, le_xp, le_fn, le_opt, le_val, le_elem, le_nil_own, le_nil_vs, leH_ghost, leL_chunk, leXL_id, bnd_int, bnd_bool, bnd_val, bnd_nil, bnd_junk, bnd_vs, bnd_xp, bnd_agg, bnd_tup, bnd_ptr, bnd_own, bnd_elem, bnd_fn, bnd_iface, bnd_opt, bnd_row, bnd_rcell, bnd_imap, bnd_smp, le_row, le_rcell, le_imap, le_smp, leH1_smap, bndL_nil, bndL_cons, lenH_cons, lenH_nil, imp_self, implies_true, true_and, and_true]
          refine ⟨⟨by decide, by decide, by simp⟩, fun j hj => ?_⟩
          match j, hj with
          | 0, _ => exact ⟨⟨rfl, rfl⟩, ⟨rfl, rfl⟩, trivial⟩
          | 1, _ => exact ⟨⟨rfl, rfl⟩, ⟨rfl, rfl⟩, trivial⟩
        · have en : IntKind.i64.wrap (0 - x.2) = -x.2 := by rw [IntWalk.i64_in _ (by omega)]; omega
          rw [en]
          have ew : IntKind.u64.wrap (-x.2) = -x.2 := IntWalk.u64_in _ (by omega)
          rw [ew]
          refine ⟨by decide, by decide, by decide, by decide, ⟨o3, g1, by omega, by omega⟩, by decide, ⟨o4, g2, by omega, by omega⟩, by decide, by decide, by decide, (i + 1, gssS G x), ⟨by simp only; omega, hstep.symm, hok'⟩, by simp only; omega, ?_⟩
          rw [IntWalk.i64_in ((i : Int) + 1) (by omega)]
          simp only [gssS, if_neg hc]
          simp only [leS_mk, leL_cons, leL_nil, le_junk, le_int, le_bool, le_nil, leLL_nil, leLL_cons, leH_cons, leH_nil, leH1_box, leH1_own, leH1_gone, le_vs, le_agg, le_tup, le_ptr, le_own, le_xp, le_fn, le_opt, le_val, le_elem, le_nil_own, le_nil_vs, leH_ghost, leL_chunk, leXL_id, bnd_int, bnd_bool, bnd_val, bnd_nil, bnd_junk, bnd_vs, bnd_xp, bnd_agg, bnd_tup, bnd_ptr, bnd_own, bnd_elem, bnd_fn, bnd_iface, bnd_opt, bnd_row, bnd_rcell, bnd_imap, bnd_smp, le_row, le_rcell, le_imap, le_smp, leH1_smap, bndL_nil, bndL_cons, lenH_cons, lenH_nil, imp_self, implies_true, true_and, and_true]
          refine ⟨⟨by decide, by decide, by simp⟩, fun j hj => ?_⟩
          match j, hj with
          | 0, _ => exact ⟨⟨rfl, rfl⟩, ⟨rfl, rfl⟩, trivial⟩
          | 1, _ => exact ⟨⟨rfl, rfl⟩, ⟨rfl, rfl⟩, trivial⟩
      · obtain rfl : i = l.length := by omega
        rw [List.take_length] at hG
        rw [guessF, ← hG] at h
        refine ⟨by decide, by decide, by decide, by decide, fun hc => ?_, fun hc => ⟨by decide, by decide, by decide, by decide, fun hd => ?_, fun hd => ?_⟩⟩
        · rw [show overL G.u0 G.d1 = true from hc] at h
          exact ans_wib h
        · rw [show overL G.u0 G.d1 = false from hc, show overL G.d0 G.u1 = true from hd] at h
          exact ans_wib h
        · rw [show overL G.u0 G.d1 = false from hc, show overL G.d0 G.u1 = false from hd] at h
          exact ans_wib h
  · exact h.1.elim
end Go.Proofs.Ytijadllhfgajlaa

/- Signs of the program, walked: base. -/
/- Signs of the program, walked: base. -/
set_option linter.all false
namespace Go.Proofs.Ytijadllhfgajlaa
open Go Go.Vx
set_option maxRecDepth 100000
set_option maxHeartbeats 4000000



/-! ### Numbers without common divisors -/

def encB (x : Nat) : List SV := [.int .i64 x]
/-- The first that has a divisor with n. -/
def hitF (out : List Nat) (n : Nat) : Nat := leastF (fun i => decide (1 < Nat.gcd (out.getD i 0) n)) out.length 0
def drain : Nat → List Nat → List Nat → List Nat
  | 0, _, out => out
  | f + 1, wait, out =>
    if wait.length = 0 then out
    else if wait.getD (wait.length - 1) 0 = 1 then drain f (wait.take (wait.length - 1)) out
    else if hitF out (wait.getD (wait.length - 1) 0) < out.length then
      drain f (wait.take (wait.length - 1) ++ [Nat.gcd (out.getD (hitF out (wait.getD (wait.length - 1) 0)) 0) (wait.getD (wait.length - 1) 0), out.getD (hitF out (wait.getD (wait.length - 1) 0)) 0 / Nat.gcd (out.getD (hitF out (wait.getD (wait.length - 1) 0)) 0) (wait.getD (wait.length - 1) 0), wait.getD (wait.length - 1) 0 / Nat.gcd (out.getD (hitF out (wait.getD (wait.length - 1) 0)) 0) (wait.getD (wait.length - 1) 0)])
        (out.take (hitF out (wait.getD (wait.length - 1) 0)) ++ out.drop (hitF out (wait.getD (wait.length - 1) 0) + 1))
    else drain f (wait.take (wait.length - 1)) (out ++ [wait.getD (wait.length - 1) 0])
def drainF (out : List Nat) (x : Int × Int) : List Nat := drain 3000 [x.1.toNat] out
def baseF (l : List (Int × Int)) : List Nat := l.foldl drainF []

def prodL : List Nat → Nat
  | [] => 1
  | x :: l => x * prodL l
theorem prodL_append : ∀ (a b : List Nat), prodL (a ++ b) = prodL a * prodL b
  | [], b => by simp [prodL]
  | x :: a, b => by rw [List.cons_append, prodL, prodL, prodL_append a b, Nat.mul_assoc]
theorem prodL_pos : ∀ {l : List Nat}, (∀ x, x ∈ l → 1 ≤ x) → 1 ≤ prodL l
  | [], _ => by decide
  | x :: l, h => by
    have h1 := prodL_pos (l := l) fun y hy => h y (List.mem_cons_of_mem _ hy)
    have h2 := h x (List.mem_cons_self ..)
    rw [prodL]
    exact Nat.mul_pos h2 h1
theorem split_last {w : List Nat} (h : w.length ≠ 0) : w = w.take (w.length - 1) ++ [w.getD (w.length - 1) 0] := by
  have := take_succ_eq (l := w) (i := w.length - 1) (by omega)
  rw [show w.length - 1 + 1 = w.length by omega, List.take_length] at this
  exact this
theorem split_at {w : List Nat} {i : Nat} (h : i < w.length) : w = w.take i ++ w.getD i 0 :: w.drop (i + 1) := by
  have h1 := List.take_append_drop i w
  have h2 : w.drop i = w.getD i 0 :: w.drop (i + 1) := by
    rw [List.drop_eq_getElem_cons h, List.getD_eq_getElem?_getD, List.getElem?_eq_getElem h]; rfl
  rw [h2] at h1
  exact h1.symm
/-- What is in wait and out. -/
structure DrOk (B f : Nat) (wait out : List Nat) : Prop where
  wp : ∀ x, x ∈ wait → 1 ≤ x ∧ x ≤ 1099511627776
  op : ∀ x, x ∈ out → 2 ≤ x ∧ x ≤ 1099511627776
  pb : bitsN (prodL out * prodL wait) ≤ B
  mu : 3 * bitsN (prodL out * prodL wait) + wait.length ≤ f
theorem DrOk.pop {B f : Nat} {wait out : List Nat} (h : DrOk B f wait out) (hw : wait.length ≠ 0) (h1 : wait.getD (wait.length - 1) 0 = 1) : ∃ g, f = g + 1 ∧ DrOk B g (wait.take (wait.length - 1)) out := by
  have hm := h.mu
  have hpb := h.pb
  refine ⟨f - 1, by omega, ?_⟩
  have e := split_last hw
  have e2 : prodL wait = prodL (wait.take (wait.length - 1)) := by
    conv => lhs; rw [e]
    rw [prodL_append, h1]; simp [prodL]
  refine ⟨fun x hx => h.wp x (List.mem_of_mem_take hx), h.op, by rw [← e2]; exact hpb, ?_⟩
  rw [← e2, List.length_take]
  omega
theorem DrOk.push {B f : Nat} {wait out : List Nat} (h : DrOk B f wait out) (hw : wait.length ≠ 0) (h1 : wait.getD (wait.length - 1) 0 ≠ 1) : ∃ g, f = g + 1 ∧ DrOk B g (wait.take (wait.length - 1)) (out ++ [wait.getD (wait.length - 1) 0]) := by
  have hm := h.mu
  have hn := h.wp _ (getD_mem (l := wait) (i := wait.length - 1) (by omega))
  have hn' : 1 ≤ wait.getD (wait.length - 1) 0 ∧ wait.getD (wait.length - 1) 0 ≤ 1099511627776 := hn
  have hpb := h.pb
  have e := split_last hw
  have e2 : prodL out * prodL wait = prodL (out ++ [wait.getD (wait.length - 1) 0]) * prodL (wait.take (wait.length - 1)) := by
    conv => lhs; rw [e]
    rw [prodL_append, prodL_append]
    simp only [prodL, Nat.mul_one]
    rw [Nat.mul_comm (prodL (wait.take _)), Nat.mul_assoc]
  refine ⟨f - 1, by omega, ⟨fun x hx => h.wp x (List.mem_of_mem_take hx), fun x hx => ?_, by rw [← e2]; exact hpb, ?_⟩⟩
  · rcases List.mem_append.1 hx with hx | hx
    · exact h.op x hx
    · rw [List.mem_singleton] at hx
      subst hx
      omega
  rw [← e2, List.length_take]
  omega
theorem bitsN_mono {a b : Nat} (h : a ≤ b) : bitsN a ≤ bitsN b := bitsN_le.2 (Nat.lt_of_le_of_lt h (bitsN_lt b))
theorem DrOk.hit {B f : Nat} {wait out : List Nat} (h : DrOk B f wait out) (hw : wait.length ≠ 0) {i : Nat} (hi : i < out.length) (hg : 1 < Nat.gcd (out.getD i 0) (wait.getD (wait.length - 1) 0)) :
    ∃ g, f = g + 1 ∧ DrOk B g (wait.take (wait.length - 1) ++ [Nat.gcd (out.getD i 0) (wait.getD (wait.length - 1) 0), out.getD i 0 / Nat.gcd (out.getD i 0) (wait.getD (wait.length - 1) 0), wait.getD (wait.length - 1) 0 / Nat.gcd (out.getD i 0) (wait.getD (wait.length - 1) 0)]) (out.take i ++ out.drop (i + 1)) := by
  have hm := h.mu
  have hn : 1 ≤ wait.getD (wait.length - 1) 0 ∧ wait.getD (wait.length - 1) 0 ≤ 1099511627776 := h.wp _ (getD_mem (l := wait) (i := wait.length - 1) (by omega))
  have hb : 2 ≤ out.getD i 0 ∧ out.getD i 0 ≤ 1099511627776 := h.op _ (getD_mem (l := out) (i := i) hi)
  have e := split_last hw
  have e' := split_at hi
  generalize wait.getD (wait.length - 1) 0 = n at *
  generalize out.getD i 0 = b at *
  have d1 := Nat.gcd_dvd_left b n
  have d2 := Nat.gcd_dvd_right b n
  generalize Nat.gcd b n = g at *
  obtain ⟨b1, rfl⟩ := d1
  obtain ⟨n1, rfl⟩ := d2
  rw [Nat.mul_div_cancel_left _ (by omega), Nat.mul_div_cancel_left _ (by omega)]
  have hb1 : 1 ≤ b1 := Nat.pos_of_ne_zero fun hh => by rw [hh, Nat.mul_zero] at hb; omega
  have hn1 : 1 ≤ n1 := Nat.pos_of_ne_zero fun hh => by rw [hh, Nat.mul_zero] at hn; omega
  have gb : g ≤ g * b1 := Nat.le_mul_of_pos_right _ hb1
  have bb : b1 ≤ g * b1 := Nat.le_mul_of_pos_left _ (by omega)
  have nb : n1 ≤ g * n1 := Nat.le_mul_of_pos_left _ (by omega)
  have hpt : 1 ≤ prodL (out.take i ++ out.drop (i + 1)) * prodL (wait.take (wait.length - 1)) := by
    refine Nat.mul_pos (prodL_pos fun x hx => ?_) (prodL_pos fun x hx => (h.wp x (List.mem_of_mem_take hx)).1)
    rcases List.mem_append.1 hx with hx | hx
    · have := (h.op x (List.mem_of_mem_take hx)).1; omega
    · have := (h.op x (List.mem_of_mem_drop hx)).1; omega
  have eP : prodL out * prodL wait = g * (prodL (out.take i ++ out.drop (i + 1)) * prodL (wait.take (wait.length - 1) ++ [g, b1, n1])) := by
    conv => lhs; rw [e, e']
    simp only [prodL_append, prodL, Nat.mul_one]
    generalize prodL (out.take i) = A
    generalize prodL (out.drop (i + 1)) = B
    generalize prodL (wait.take (wait.length - 1)) = C
    simp only [Nat.mul_assoc, Nat.mul_left_comm, Nat.mul_comm]
  have hp1 : 1 ≤ prodL (out.take i ++ out.drop (i + 1)) * prodL (wait.take (wait.length - 1) ++ [g, b1, n1]) := by
    rw [prodL_append (wait.take _), ← Nat.mul_assoc]
    refine Nat.mul_pos hpt ?_
    simp only [prodL, Nat.mul_one]
    exact Nat.mul_pos (by omega) (Nat.mul_pos hb1 hn1)
  have hP : bitsN (prodL (out.take i ++ out.drop (i + 1)) * prodL (wait.take (wait.length - 1) ++ [g, b1, n1])) + 1 ≤ bitsN (prodL out * prodL wait) := by
    generalize hQ : prodL (out.take i ++ out.drop (i + 1)) * prodL (wait.take (wait.length - 1) ++ [g, b1, n1]) = Q at *
    rw [eP]
    have h2 : 2 * Q ≤ g * Q := Nat.mul_le_mul_right _ (by omega)
    have h3 := bitsN_half (a := g * Q) (by omega)
    have h4 : bitsN Q ≤ bitsN (g * Q / 2) := bitsN_mono (by omega)
    omega
  have hpb := h.pb
  refine ⟨f - 1, by omega, ⟨fun x hx => ?_, fun x hx => ?_, by omega, ?_⟩⟩
  · rcases List.mem_append.1 hx with hx | hx
    · exact h.wp x (List.mem_of_mem_take hx)
    · simp only [List.mem_cons, List.not_mem_nil, or_false] at hx
      rcases hx with rfl | rfl | rfl <;> omega
  · rcases List.mem_append.1 hx with hx | hx
    · exact h.op x (List.mem_of_mem_take hx)
    · exact h.op x (List.mem_of_mem_drop hx)
  · rw [List.length_append, List.length_take]
    simp only [List.length_cons, List.length_nil]
    omega
theorem bitsN_mul (a b : Nat) : bitsN (a * b) ≤ bitsN a + bitsN b := by
  rw [bitsN_le, Nat.pow_add]
  exact Nat.mul_lt_mul_of_lt_of_le (bitsN_lt a) (Nat.le_of_lt (bitsN_lt b)) (p2_pos _)
theorem DrOk.start {i N : Nat} {out : List Nat} (hN0 : 1 ≤ N) (hN1 : N ≤ 1000000000001) (ho : ∀ x, x ∈ out → 2 ≤ x ∧ x ≤ 1099511627776) (hb : bitsN (prodL out) ≤ 40 * i + 1) (hi : i < 20) : DrOk (40 * (i + 1) + 1) 3000 [N] out := by
  have h1 : bitsN N ≤ 40 := bitsN_le.2 (by omega)
  have h2 : bitsN (prodL out * prodL [N]) ≤ 40 * (i + 1) + 1 := by
    have := bitsN_mul (prodL out) (prodL [N])
    have e : prodL [N] = N := by simp [prodL]
    rw [e] at this ⊢
    omega
  refine ⟨fun x hx => ?_, ho, h2, ?_⟩
  · rw [List.mem_singleton] at hx
    subst hx
    omega
  · simp only [List.length_cons, List.length_nil]
    omega
end Go.Proofs.Ytijadllhfgajlaa

/- Signs of the program, walked: base. -/
/- Signs of the program, walked: base. -/
set_option linter.all false
namespace Go.Proofs.Ytijadllhfgajlaa
open Go Go.Vx
set_option maxRecDepth 100000
set_option maxHeartbeats 4000000

def v58 : VF := { ntmps := 73, res := [.tmp 2], body :=
 (.seq (.region [u1 2 .mov [.cn .nil]])
 (.seq (.region [u1 3 .mov [.cn .nil]])
 (.seq (.seq (.region [u1 11 .mov [.tm 0],
 u1 12 .len [.tm 11],
 u1 13 .mov [.cn (.int .i64 0)]])
 (.block 0 (.loop (.seq (.region [u1 14 (.cmp .lss) [.tm 13, .tm 12]])
 (.seq (.cond (.tm 14) .skip
  (.exit 0))
 (.seq (.block 1 (.seq (.region [u1 15 (.idxAddr 2) [.tm 11, .tm 13],
 u1 16 (.load true 2) [.tm 15],
 u1 5 (.alloc [(.int .i64 0), (.int .i64 0)]) [],
 u0 (.store 2) [.tm 5, .tm 16]])
 (.scope (.seq (.region [u1 17 (.fieldAddr 0) [.tm 5],
 u1 18 (.load false 1) [.tm 17],
 u1 19 (.buildSlice 1 1 [(.int .i64 0)] [(0, 1)]) [.tm 18],
 u1 6 .mov [.tm 19]])
 (.seq .skip
 (.block 2 (.loop (.seq (.seq (.region [u1 20 .mov [.tm 6],
 u1 21 .len [.tm 20],
 u1 22 (.cmp .gtr) [.tm 21, .cn (.int .i64 0)]])
 (.cond (.tm 22) .skip
  (.exit 2)))
 (.block 3 (.seq (.region [u1 23 .mov [.tm 6],
 u1 24 .mov [.tm 6],
 u1 25 .len [.tm 24],
 u1 26 (.ari .sub) [.tm 25, .cn (.int .i64 1)],
 u1 27 (.idxAddr 1) [.tm 23, .tm 26],
 u1 28 (.load false 1) [.tm 27],
 u1 7 .mov [.tm 28]])
 (.seq (.region [u1 29 .mov [.tm 6],
 u1 30 .mov [.tm 6],
 u1 31 .len [.tm 30],
 u1 32 (.ari .sub) [.tm 31, .cn (.int .i64 1)],
 u1 33 (.slice 1 false true) [.tm 29, .tm 32],
 u1 6 .mov [.tm 33]])
 (.seq (.seq (.region [u1 34 .mov [.tm 7],
 u1 35 (.cmp .eql) [.tm 34, .cn (.int .i64 1)]])
 (.cond (.tm 35) (.exit 3)
  .skip))
 (.seq (.seq (.region [u1 36 .mov [.tm 3],
 u1 37 .len [.tm 36],
 u1 38 .mov [.cn (.int .i64 0)]])
 (.block 4 (.loop (.seq (.region [u1 39 (.cmp .lss) [.tm 38, .tm 37]])
 (.seq (.cond (.tm 39) .skip
  (.exit 4))
 (.seq (.block 5 (.seq (.region [u1 40 .mov [.tm 38],
 u1 41 (.idxAddr 1) [.tm 36, .tm 38],
 u1 42 (.load false 1) [.tm 41],
 u1 8 .mov [.tm 40],
 u1 9 .mov [.tm 42]])
 (.seq (.region [u1 43 .mov [.tm 9],
 u1 44 .mov [.tm 7],
 u1 45 (.call 67) [.tm 43, .tm 44],
 u1 10 .mov [.tm 45]])
 (.seq (.region [u1 46 .mov [.tm 10],
 u1 47 (.cmp .gtr) [.tm 46, .cn (.int .i64 1)]])
 (.cond (.tm 47) (.seq (.draw [] [w1 48 .mov [.tm 3],
 w1 49 .mov [.tm 8],
 w1 50 (.slice 1 false true) [.tm 48, .tm 49],
 w1 51 .mov [.tm 3],
 w1 52 .mov [.tm 8],
 w1 53 (.ari .add) [.tm 52, .cn (.int .i64 1)],
 w1 54 (.slice 1 true false) [.tm 51, .tm 53],
 w1 55 (.append 1 8 [(.int .i64 0)]) [.tm 50, .tm 54],
 w1 3 .mov [.tm 55]])
 (.seq (.draw [] [w1 56 .mov [.tm 6],
 w1 57 .mov [.tm 10],
 w1 58 .mov [.tm 9],
 w1 59 .mov [.tm 10],
 w1 60 .quo [.tm 58, .tm 59],
 w1 61 .mov [.tm 7],
 w1 62 .mov [.tm 10],
 w1 63 .quo [.tm 61, .tm 62],
 w1 64 (.buildSlice 1 3 [(.int .i64 0)] [(0, 1), (1, 1), (2, 1)]) [.tm 57, .tm 60, .tm 63],
 w1 65 (.append 1 8 [(.int .i64 0)]) [.tm 56, .tm 64],
 w1 6 .mov [.tm 65]])
 (.exit 3)))
  .skip)))))
 (.region [u1 66 (.ari .add) [.tm 38, .cn (.int .i64 1)],
 u1 38 .mov [.tm 66]])))))))
 (.region [u1 67 .mov [.tm 3],
 u1 68 .mov [.tm 7],
 u1 69 (.buildSlice 1 1 [(.int .i64 0)] [(0, 1)]) [.tm 68],
 u1 70 (.append 1 8 [(.int .i64 0)]) [.tm 67, .tm 69],
 u1 3 .mov [.tm 70]]))))))))))))))
 (.region [u1 71 (.ari .add) [.tm 13, .cn (.int .i64 1)],
 u1 13 .mov [.tm 71]])))))))
 (.seq (.region [u1 72 .mov [.tm 3],
 u1 2 .mov [.tm 72]])
 .ret)))) }
theorem v58_is : vfunc Try.prog Try.f58 = some v58 := by kernel_rfl


def baseC : Ctr := { alias := false, of := fun l => match l with
  | [.vs _ _ n sz get] => .ex (List (Int × Int)) fun l => .pre (lsP 2 enc2 n sz get l ∧ (∀ x, x ∈ l → okT x) ∧ n ≤ 20) (.all Bool fun y => .fin (.vs true y (baseF l).length 1 (fun k => encB ((baseF l).getD k 0))) [])
  | _ => noC }
def RA8 : Env := { ct := fun n => match n with | 67 => some gcdC | _ => none, fn := fun _ => none, meth := fun _ _ => none }
theorem RA8_ct67 : RA8.ct 67 = some gcdC := rfl
theorem RA8_ok : EnvOk Try.prog RA8 := by
  refine ⟨fun f c h => ?_, fun f vf h => ?_, (fun _ _ _ h => by cases h), by kernel_rfl, (fun _ h => by cases h)⟩
  · simp only [RA8] at h
    split at h
    · cases h; exact ⟨gcd_c, Try.f67, Try.func67, by kernel_rfl, by kernel_rfl⟩
    · cases h
  · cases h

/-- State of the inner loop: what may be done yet, the list that holds the waiting ones, their number, the numbers. -/
structure DSt where
  f : Nat
  W : List Nat
  n : Nat
  out : List Nat
  yw : Bool
  yo : Bool
theorem drain_len {f : Nat} : ∀ {wait out : List Nat}, (drain f wait out).length ≤ out.length + f := by
  induction f with
  | zero => intro wait out; rw [drain]; omega
  | succ f ih =>
    intro wait out
    rw [drain]
    split
    · omega
    · split
      · have := @ih (wait.take (wait.length - 1)) out; omega
      · split
        · rename_i hh
          refine Nat.le_trans ih ?_
          rw [List.length_append, List.length_take, List.length_drop]
          omega
        · refine Nat.le_trans ih ?_
          rw [List.length_append]
          simp only [List.length_cons, List.length_nil]
          omega
theorem base_c : baseC.ok Try.prog 58 := by
  refine contract Try.func58 v58_is RA8_ok 800 baseC fun args k h => ?_
  simp only [baseC] at h
  split at h
  · rename_i tt z n sz get
    obtain ⟨l, ⟨⟨rfl, rfl, hg⟩, hl, hn⟩, h⟩ := h
    refine ⟨[.vs tt z l.length 2 (fun k => enc2 (l.getD k default))], ⟨⟨id, rfl, rfl, rfl, hg⟩, trivial⟩, ?_⟩
    dsimp only [v58, enc2, go_sem, Option.bind, Option.map, List.append_nil, Nat.beq, List.cons_append, List.nil_append, List.append_eq, List.map_cons, List.map_nil, ite_self, reduceIte]
    simp only [true_and, and_true, imp_self, implies_true, decide_eq_true_eq, decide_eq_false_iff_not, Nat.reduceAdd, Nat.reduceLeDiff, Bool.not_not, reduceCtorEq, false_imp_iff, Bool.not_eq_true', Bool.not_eq_false', Bool.false_eq_true, and_self, forall_const, ne_eq, not_false_eq_true, Nat.reduceEqDiff]
    refine Loop.keep [0, 10, 0] (Nat × List Nat × Bool) (fun s => [(3, .own 0 0 s.2.1.length 1), (13, .int .i64 s.1)]) (fun s => [(0, .own s.2.2 1 s.2.1.length (fun k => encB (s.2.1.getD k 0)))]) [.gone] (fun s => s.1 ≤ l.length ∧ s.2.1 = (l.take s.1).foldl drainF [] ∧ (∀ x, x ∈ s.2.1 → 2 ≤ x ∧ x ≤ 1099511627776) ∧ bitsN (prodL s.2.1) ≤ 40 * s.1 + 1 ∧ s.2.1.length ≤ 3000 * s.1 ∧ (s.2.2 = true → s.2.1.length = 0)) (fun s => l.length - s.1) ?_ ?_
    · refine ⟨(0, [], true), ⟨by simp only; omega, rfl, ⟨fun x hx => absurd hx (by simp), by decide, Nat.le_refl _, fun _ => rfl⟩⟩, ?_⟩
      dsimp only [List.length_nil, go_sem, Option.bind, Option.map, List.append_nil, Nat.beq, List.cons_append, List.nil_append, List.append_eq, List.map_cons, List.map_nil, ite_self, reduceIte]
      simp only [leS_mk, leL_cons, leL_nil, le_junk, le_int, le_bool, le_nil, leLL_nil, leLL_cons, leH_cons, leH_nil, leH1_box, leH1_own, leH1_gone, le_vs, le_agg, le_tup, le_ptr, le_own, le_xp, le_fn, le_opt, le_val, le_elem, le_nil_own, le_nil_vs, leH_ghost, leL_chunk, leXL_id, bnd_int, bnd_bool, bnd_val, bnd_nil, bnd_junk, bnd_vs, bnd_xp, bnd_agg, bnd_tup, bnd_ptr, bnd_own, bnd_elem, bnd_fn, bnd_iface, bnd_opt, bnd_row, bnd_rcell, bnd_imap, bnd_smp, le_row, le_rcell, le_imap, le_smp, leH1_smap, bndL_nil, bndL_cons, lenH_cons, lenH_nil, imp_self, implies_true, true_and, and_true]
      simp
    · rintro ⟨i, out, yo⟩ ⟨hi, hG, hok, hbp, hlen, hyo⟩
      dsimp only at hi hG hok hbp hlen hyo
      dsimp only [enc2, Int.toNat_natCast, go_sem, Option.bind, Option.map, List.append_nil, Nat.beq, List.cons_append, List.nil_append, List.append_eq, List.map_cons, List.map_nil, ite_self, reduceIte]
      simp only [true_and, and_true, imp_self, implies_true, decide_eq_true_eq, decide_eq_false_iff_not, Nat.reduceAdd, Nat.reduceLeDiff, Bool.not_not, reduceCtorEq, false_imp_iff, Bool.not_eq_true', Bool.not_eq_false', Bool.false_eq_true, and_self, forall_const, ne_eq, not_false_eq_true, Nat.reduceEqDiff]
      refine ⟨fun hlt => ?_, fun hge => ?_⟩
      · have hx := hl _ (getD_mem (by omega : i < l.length))
        have hstep : (l.take (i + 1)).foldl drainF [] = drainF out (l.getD i default) := by
          rw [foldl_take_succ (by omega), ← hG]
        generalize l.getD i default = x at hx hstep ⊢
        obtain ⟨q0, q1, q2, q3⟩ := hx
        obtain ⟨N, hN⟩ : ∃ N : Nat, x.1 = (N : Int) := ⟨x.1.toNat, by omega⟩
        have hR : drainF out x = drain 3000 [N] out := by rw [drainF, hN, Int.toNat_natCast]
        obtain ⟨R, hRR⟩ : ∃ R, R = drainF out x := ⟨_, rfl⟩
        rw [← hRR] at hR hstep
        rw [hN]
        have hmu : DrOk (40 * (i + 1) + 1) 3000 [N] out := DrOk.start (by omega) (by omega) hok hbp (by omega)
        refine ⟨⟨by omega, by omega⟩, by decide, ?_⟩
        refine Loop.keep [0, 10, 0, 0] DSt (fun s => [(3, .own 0 0 s.out.length 1), (6, .own 2 0 s.n 1)]) (fun s => [(0, .own s.yo 1 s.out.length (fun k => encB (s.out.getD k 0))), (2, .own s.yw 1 s.W.length (fun k => encB (s.W.getD k 0)))]) [] (fun s => s.n ≤ s.W.length ∧ DrOk (40 * (i + 1) + 1) s.f (s.W.take s.n) s.out ∧ R = drain s.f (s.W.take s.n) s.out ∧ s.out.length + s.f ≤ 3000 * (i + 1) ∧ (s.yo = true → s.out.length = 0)) (fun s => s.f) ?_ ?_
        · refine ⟨⟨3000, [N], 1, out, false, yo⟩, ⟨Nat.le_refl _, hmu, hR, by simp only; omega, hyo⟩, ?_⟩
          dsimp only [List.length_nil, List.length_cons, go_sem, Option.bind, Option.map, List.append_nil, Nat.beq, List.cons_append, List.nil_append, List.append_eq, List.map_cons, List.map_nil, ite_self, reduceIte]
          simp only [leS_mk, leL_cons, leL_nil, le_junk, le_int, le_bool, le_nil, leLL_nil, leLL_cons, leH_cons, leH_nil, leH1_box, leH1_own, leH1_gone, le_vs, le_agg, le_tup, le_ptr, le_own, le_xp, le_fn, le_opt, le_val, le_elem, le_nil_own, le_nil_vs, leH_ghost, leL_chunk, leXL_id, bnd_int, bnd_bool, bnd_val, bnd_nil, bnd_junk, bnd_vs, bnd_xp, bnd_agg, bnd_tup, bnd_ptr, bnd_own, bnd_elem, bnd_fn, bnd_iface, bnd_opt, bnd_row, bnd_rcell, bnd_imap, bnd_smp, le_row, le_rcell, le_imap, le_smp, leH1_smap, bndL_nil, bndL_cons, lenH_cons, lenH_nil, imp_self, implies_true, true_and, and_true]
          refine ⟨by decide, fun k hk => ⟨⟨rfl, rfl⟩, trivial⟩, fun k hk => ?_⟩
          obtain rfl : k = 0 := by omega
          exact ⟨⟨rfl, rfl⟩, trivial⟩
        · rintro ⟨f, W, n, out, yw, yo⟩ ⟨hnW, hmu, hR, hlen, hyo⟩
          dsimp only at hnW hmu hR hlen hyo
          dsimp only [RA8_ct67, gcdC, encB, Int.toNat_natCast, go_sem, Option.bind, Option.map, List.append_nil, Nat.beq, List.cons_append, List.nil_append, List.append_eq, List.map_cons, List.map_nil, ite_self, reduceIte]
          simp only [true_and, and_true, imp_self, implies_true, decide_eq_true_eq, decide_eq_false_iff_not, Nat.reduceAdd, Nat.reduceLeDiff, Bool.not_not, reduceCtorEq, false_imp_iff, Bool.not_eq_true', Bool.not_eq_false', Bool.false_eq_true, and_self, forall_const, ne_eq, not_false_eq_true, Nat.reduceEqDiff]
          have hwl : (W.take n).length = n := by rw [List.length_take]; omega
          refine ⟨fun hpos => ?_, fun hz => ?_⟩
          · have hwn : (W.take n).length ≠ 0 := by omega
            have hgl : (W.take n).getD ((W.take n).length - 1) 0 = W.getD (n - 1) 0 := by
              rw [hwl, List.getD_eq_getElem?_getD, List.getD_eq_getElem?_getD, List.getElem?_take, if_pos (by omega)]
            have htl : (W.take n).take ((W.take n).length - 1) = W.take (n - 1) := by
              rw [hwl, List.take_take]; congr 1; omega
            obtain ⟨g, rfl⟩ : ∃ g, f = g + 1 := ⟨f - 1, by have := hmu.mu; omega⟩
            have hnf : n ≤ 70000 := by have := hmu.mu; omega
            rw [w_pred (by omega) (by omega), Int.toNat_natCast]
            rw [drain, if_neg hwn, hgl, htl] at hR
            obtain ⟨v, hv⟩ : ∃ v, v = W.getD (n - 1) 0 := ⟨_, rfl⟩
            have hvr : 1 ≤ v ∧ v ≤ 1099511627776 := by
              have := hmu.wp _ (getD_mem (l := W.take n) (i := (W.take n).length - 1) (by omega))
              rw [show (W.take n).getD ((W.take n).length - 1) default = W.getD (n - 1) 0 from hgl, ← hv] at this
              exact this
            refine ⟨⟨by omega, by omega⟩, by omega, ⟨by omega, by omega⟩, fun h1 => ?_, fun h1 => ?_⟩
            · have h1' : W.getD (n - 1) 0 = 1 := by omega
              obtain ⟨g', hg', hd⟩ := hmu.pop hwn (by rw [hgl]; exact h1')
              obtain rfl : g = g' := by omega
              rw [if_pos h1'] at hR
              rw [htl] at hd
              refine ⟨⟨g, W, n - 1, out, yw, yo⟩, ⟨by simp only; omega, hd, hR, by simp only; omega, hyo⟩, by simp only; omega, ?_⟩
              simp only [leS_mk, leL_cons, leL_nil, le_junk, le_int, le_bool, le_nil, leLL_nil, leLL_cons, leH_cons, leH_nil, leH1_box, leH1_own, leH1_gone, le_vs, le_agg, le_tup, le_ptr, le_own, le_xp, le_fn, le_opt, le_val, le_elem, le_nil_own, le_nil_vs, leH_ghost, leL_chunk, leXL_id, bnd_int, bnd_bool, bnd_val, bnd_nil, bnd_junk, bnd_vs, bnd_xp, bnd_agg, bnd_tup, bnd_ptr, bnd_own, bnd_elem, bnd_fn, bnd_iface, bnd_opt, bnd_row, bnd_rcell, bnd_imap, bnd_smp, le_row, le_rcell, le_imap, le_smp, leH1_smap, bndL_nil, bndL_cons, lenH_cons, lenH_nil, imp_self, implies_true, true_and, and_true]
              exact ⟨by decide, by decide⟩
            · have h1' : W.getD (n - 1) 0 ≠ 1 := by omega
              rw [if_neg h1'] at hR
              rw [← hv] at hR h1' ⊢
              refine Loop.keep [0, 2, 2, 0, 3, 0, 0, 22, 0] Nat (fun t => [(38, .int .i64 t)]) (fun t => []) [] (fun t => t ≤ out.length ∧ ∀ j, j < t → ¬ 1 < Nat.gcd (out.getD j 0) v) (fun t => out.length - t) ?_ ?_
              · refine ⟨0, ⟨by omega, fun j hj => by omega⟩, ?_⟩
                dsimp only [go_sem, Option.bind, Option.map, List.append_nil, Nat.beq, List.cons_append, List.nil_append, List.append_eq, List.map_cons, List.map_nil, ite_self, reduceIte]
                simp only [leS_mk, leL_cons, leL_nil, le_junk, le_int, le_bool, le_nil, leLL_nil, leLL_cons, leH_cons, leH_nil, leH1_box, leH1_own, leH1_gone, le_vs, le_agg, le_tup, le_ptr, le_own, le_xp, le_fn, le_opt, le_val, le_elem, le_nil_own, le_nil_vs, leH_ghost, leL_chunk, leXL_id, bnd_int, bnd_bool, bnd_val, bnd_nil, bnd_junk, bnd_vs, bnd_xp, bnd_agg, bnd_tup, bnd_ptr, bnd_own, bnd_elem, bnd_fn, bnd_iface, bnd_opt, bnd_row, bnd_rcell, bnd_imap, bnd_smp, le_row, le_rcell, le_imap, le_smp, leH1_smap, bndL_nil, bndL_cons, lenH_cons, lenH_nil, imp_self, implies_true, true_and, and_true]
                exact ⟨by decide, by decide, by decide, rfl⟩
              · rintro t ⟨ht, hno⟩
                dsimp only [RA8_ct67, gcdC, encB, Int.toNat_natCast, go_sem, Option.bind, Option.map, List.append_nil, Nat.beq, List.cons_append, List.nil_append, List.append_eq, List.map_cons, List.map_nil, ite_self, reduceIte]
                simp only [true_and, and_true, imp_self, implies_true, decide_eq_true_eq, decide_eq_false_iff_not, Nat.reduceAdd, Nat.reduceLeDiff, Bool.not_not, reduceCtorEq, false_imp_iff, Bool.not_eq_true', Bool.not_eq_false', Bool.false_eq_true, and_self, forall_const, ne_eq, not_false_eq_true, Nat.reduceEqDiff]
                refine ⟨fun hlt2 => ?_, fun hge2 => ?_⟩
                · have hb : 2 ≤ out.getD t 0 ∧ out.getD t 0 ≤ 1099511627776 := hmu.op _ (getD_mem (l := out) (i := t) (by omega))
                  have w1 : IntKind.i64.wrap ((t : Int) + 1) = ((t + 1 : Nat) : Int) := by rw [IntWalk.i64_in _ (by omega)]; simp
                  rw [w1, Int.toNat_natCast]
                  refine ⟨⟨by omega, by omega⟩, by omega, out.getD t 0, v, ⟨rfl, rfl, by omega, by omega⟩, fun hgt => ?_, fun hng => ?_⟩
                  · have hgt' : 1 < Nat.gcd (out.getD t 0) v := by omega
                    have hh : hitF out v = t := leastF_eq (fun j hj => decide_eq_false (hno j hj)) (by omega) (fun _ => decide_eq_true hgt')
                    obtain ⟨g', hg', hd⟩ := hmu.hit hwn (i := t) (by omega) (by rw [hgl, ← hv]; exact hgt')
                    obtain rfl : g = g' := by omega
                    rw [hh, if_pos (by omega)] at hR
                    rw [hgl, htl, ← hv] at hd
                    obtain ⟨b, hbd⟩ : ∃ b, b = out.getD t 0 := ⟨_, rfl⟩
                    rw [← hbd] at hR hd hb hgt hgt' ⊢
                    obtain ⟨G, hG'⟩ : ∃ G, G = Nat.gcd b v := ⟨_, rfl⟩
                    rw [← hG'] at hR hd hgt hgt' ⊢
                    have e1 : IntKind.i64.wrap ((b : Int).tdiv (G : Int)) = ((b / G : Nat) : Int) := by
                      have : (b : Int).tdiv (G : Int) = ((b / G : Nat) : Int) := IntWalk.up_tdiv rfl rfl
                      have h2 : b / G ≤ b := Nat.div_le_self _ _
                      rw [this]
                      generalize b / G = q at h2 ⊢
                      exact IntWalk.i64_in _ (by omega)
                    have e2 : IntKind.i64.wrap ((v : Int).tdiv (G : Int)) = ((v / G : Nat) : Int) := by
                      have : (v : Int).tdiv (G : Int) = ((v / G : Nat) : Int) := IntWalk.up_tdiv rfl rfl
                      have h2 : v / G ≤ v := Nat.div_le_self _ _
                      rw [this]
                      generalize v / G = q at h2 ⊢
                      exact IntWalk.i64_in _ (by omega)
                    rw [e1, e2]
                    have hsub : subLo out.length (t + 1) = out.length - (t + 1) := by unfold subLo; rfl
                    rw [hsub]
                    have hWt : (W.take (n - 1) ++ [G, b / G, v / G]).length = n - 1 + 3 := by rw [List.length_append, List.length_take]; simp only [List.length_cons, List.length_nil]; omega
                    have hol : (out.take t ++ out.drop (t + 1)).length = t + (out.length - (t + 1)) := by rw [List.length_append, List.length_take, List.length_drop]; omega
                    refine ⟨⟨by omega, by omega⟩, ⟨by omega, by omega⟩, by unfold capOk; omega, by omega, by omega, by decide, ⟨by unfold capOk; omega, fun k hk => ?_⟩, ⟨g, W.take (n - 1) ++ [G, b / G, v / G], n - 1 + 3, out.take t ++ out.drop (t + 1), yw && decide False, yo && decide (out.length - (t + 1) = 0)⟩, ⟨?_, ?_, ?_, ?_, ?_⟩, by simp only; omega, ?_⟩
                    · match k, hk with
                      | 0, _ => exact ⟨rfl, trivial, trivial⟩
                      | 1, _ => exact ⟨rfl, trivial, trivial⟩
                      | 2, _ => exact ⟨rfl, trivial, trivial⟩
                    · simp only; omega
                    · simp only; rw [← hWt, List.take_length]; exact hd
                    · simp only; rw [← hWt, List.take_length]; exact hR
                    · simp only; omega
                    · simp only
                      intro hy
                      rw [Bool.and_eq_true] at hy
                      have := hyo hy.1
                      omega
                    · simp only [hol, hWt]
                      simp only [leS_mk, leL_cons, leL_nil, le_junk, le_int, le_bool, le_nil, leLL_nil, leLL_cons, leH_cons, leH_nil, leH1_box, leH1_own, leH1_gone, le_vs, le_agg, le_tup, le_ptr, le_own, le_xp, le_fn, le_opt, le_val, le_elem, le_nil_own, le_nil_vs, leH_ghost, leL_chunk, leXL_id, bnd_int, bnd_bool, bnd_val, bnd_nil, bnd_junk, bnd_vs, bnd_xp, bnd_agg, bnd_tup, bnd_ptr, bnd_own, bnd_elem, bnd_fn, bnd_iface, bnd_opt, bnd_row, bnd_rcell, bnd_imap, bnd_smp, le_row, le_rcell, le_imap, le_smp, leH1_smap, bndL_nil, bndL_cons, lenH_cons, lenH_nil, imp_self, implies_true, true_and, and_true]
                      refine ⟨by decide, fun k hk => ?_, fun k hk => ?_⟩
                      · rw [addLo_eq]
                        by_cases hkt : k < t
                        · rw [if_pos hkt, List.getD_eq_getElem?_getD (l := _ ++ _), List.getElem?_append_left (by rw [List.length_take]; omega), List.getElem?_take, if_pos hkt, ← List.getD_eq_getElem?_getD]
                          exact ⟨⟨rfl, rfl⟩, trivial⟩
                        · rw [if_neg hkt, List.getD_eq_getElem?_getD (l := _ ++ _), List.getElem?_append_right (by rw [List.length_take]; omega), List.length_take, List.getElem?_drop, ← List.getD_eq_getElem?_getD, show t + 1 + (k - min t out.length) = t + 1 + (k - t) by omega]
                          exact ⟨⟨rfl, rfl⟩, trivial⟩
                      · by_cases hkt : k < n - 1
                        · rw [if_pos hkt, List.getD_eq_getElem?_getD (l := _ ++ _), List.getElem?_append_left (by rw [List.length_take]; omega), List.getElem?_take, if_pos hkt, ← List.getD_eq_getElem?_getD]
                          exact ⟨⟨rfl, rfl⟩, trivial⟩
                        · rw [if_neg hkt, List.getD_eq_getElem?_getD (l := _ ++ _), List.getElem?_append_right (by rw [List.length_take]; omega), List.length_take, show k - min (n - 1) W.length = k - (n - 1) by omega]
                          obtain ⟨q, hq⟩ : ∃ q, q = k - (n - 1) := ⟨_, rfl⟩
                          rw [← hq]
                          have hq3 : q < 3 := by omega
                          match q, hq3 with
                          | 0, _ => exact ⟨⟨rfl, rfl⟩, trivial⟩
                          | 1, _ => exact ⟨⟨rfl, rfl⟩, trivial⟩
                          | 2, _ => exact ⟨⟨rfl, rfl⟩, trivial⟩
                  · refine ⟨t + 1, ⟨by omega, fun j hj => ?_⟩, by omega, ?_⟩
                    · rcases Nat.lt_or_ge j t with h' | h'
                      · exact hno j h'
                      · obtain rfl : j = t := by omega
                        exact fun hh => hng (by omega)
                    · simp only [leS_mk, leL_cons, leL_nil, le_junk, le_int, le_bool, le_nil, leLL_nil, leLL_cons, leH_cons, leH_nil, leH1_box, leH1_own, leH1_gone, le_vs, le_agg, le_tup, le_ptr, le_own, le_xp, le_fn, le_opt, le_val, le_elem, le_nil_own, le_nil_vs, leH_ghost, leL_chunk, leXL_id, bnd_int, bnd_bool, bnd_val, bnd_nil, bnd_junk, bnd_vs, bnd_xp, bnd_agg, bnd_tup, bnd_ptr, bnd_own, bnd_elem, bnd_fn, bnd_iface, bnd_opt, bnd_row, bnd_rcell, bnd_imap, bnd_smp, le_row, le_rcell, le_imap, le_smp, leH1_smap, bndL_nil, bndL_cons, lenH_cons, lenH_nil, imp_self, implies_true, true_and, and_true]
                      exact ⟨by decide, by decide, by decide⟩
                · obtain rfl : t = out.length := by omega
                  have hh : hitF out v = out.length := leastF_eq (fun j hj => decide_eq_false (hno j hj)) (Nat.le_refl _) (fun hlt => absurd hlt (Nat.lt_irrefl _))
                  obtain ⟨g', hg', hd⟩ := hmu.push hwn (by rw [hgl, ← hv]; exact h1')
                  obtain rfl : g = g' := by omega
                  rw [hh, if_neg (Nat.lt_irrefl _)] at hR
                  rw [hgl, htl, ← hv] at hd
                  have hol : (out ++ [v]).length = out.length + 1 := by rw [List.length_append]; rfl
                  refine ⟨by decide, ⟨by unfold capOk; omega, fun k hk => ?_⟩, ⟨g, W, n - 1, out ++ [v], yw, yo && decide False⟩, ⟨by simp only; omega, hd, hR, by simp only; omega, ?_⟩, by simp only; omega, ?_⟩
                  · obtain rfl : k = 0 := by omega
                    exact ⟨rfl, trivial, trivial⟩
                  · simp
                  · simp only [hol]
                    simp only [leS_mk, leL_cons, leL_nil, le_junk, le_int, le_bool, le_nil, leLL_nil, leLL_cons, leH_cons, leH_nil, leH1_box, leH1_own, leH1_gone, le_vs, le_agg, le_tup, le_ptr, le_own, le_xp, le_fn, le_opt, le_val, le_elem, le_nil_own, le_nil_vs, leH_ghost, leL_chunk, leXL_id, bnd_int, bnd_bool, bnd_val, bnd_nil, bnd_junk, bnd_vs, bnd_xp, bnd_agg, bnd_tup, bnd_ptr, bnd_own, bnd_elem, bnd_fn, bnd_iface, bnd_opt, bnd_row, bnd_rcell, bnd_imap, bnd_smp, le_row, le_rcell, le_imap, le_smp, leH1_smap, bndL_nil, bndL_cons, lenH_cons, lenH_nil, imp_self, implies_true, true_and, and_true]
                    refine ⟨by decide, fun k hk => ?_⟩
                    by_cases hkt : k < out.length
                    · rw [if_pos hkt, List.getD_eq_getElem?_getD (l := _ ++ _), List.getElem?_append_left hkt, ← List.getD_eq_getElem?_getD]
                      exact ⟨⟨rfl, rfl⟩, trivial⟩
                    · obtain rfl : k = out.length := by omega
                      rw [if_neg hkt, List.getD_eq_getElem?_getD (l := _ ++ _), List.getElem?_append_right (Nat.le_refl _), Nat.sub_self]
                      exact ⟨⟨rfl, rfl⟩, trivial⟩
          · obtain rfl : n = 0 := by omega
            rw [List.take_zero] at hR hmu
            have hRo : R = out := by
              rw [hR]
              cases f with
              | zero => rfl
              | succ f => rw [drain, if_pos List.length_nil]
            have hpb := hmu.pb
            rw [show prodL out * prodL [] = prodL out from Nat.mul_one _] at hpb
            refine ⟨(i + 1, out, yo), ⟨by simp only; omega, by rw [hstep, hRo], hmu.op, hpb, by simp only; omega, hyo⟩, by simp only; omega, ?_⟩
            rw [IntWalk.i64_in ((i : Int) + 1) (by omega)]
            simp only [leS_mk, leL_cons, leL_nil, le_junk, le_int, le_bool, le_nil, leLL_nil, leLL_cons, leH_cons, leH_nil, leH1_box, leH1_own, leH1_gone, le_vs, le_agg, le_tup, le_ptr, le_own, le_xp, le_fn, le_opt, le_val, le_elem, le_nil_own, le_nil_vs, leH_ghost, leL_chunk, leXL_id, bnd_int, bnd_bool, bnd_val, bnd_nil, bnd_junk, bnd_vs, bnd_xp, bnd_agg, bnd_tup, bnd_ptr, bnd_own, bnd_elem, bnd_fn, bnd_iface, bnd_opt, bnd_row, bnd_rcell, bnd_imap, bnd_smp, le_row, le_rcell, le_imap, le_smp, leH1_smap, bndL_nil, bndL_cons, lenH_cons, lenH_nil, imp_self, implies_true, true_and, and_true]
            exact ⟨by decide, by simp⟩
      · obtain rfl : i = l.length := by omega
        rw [List.take_length] at hG
        have hG : baseF l = out := hG.symm
        rw [hG] at h
        refine ans_le (show k (.vs true yo out.length 1 (fun k => encB (out.getD k 0))) [] from h yo) ?_ (fun _ => by simp [freshS, encB, freshL])
        have e : expo [HO.own yo 1 out.length fun k => encB (out.getD k 0)] (SV.own 0 0 out.length 1) = .vs true yo out.length 1 (fun k => encB (out.getD k 0)) := by
          simp [expo, view, viewL, viewN, getH, addLo_z, encB]
        rw [e]
        exact le_self _ trivial
  · exact h.1.elim
end Go.Proofs.Ytijadllhfgajlaa

/- Signs of the program, walked: one. -/
/- Signs of the program, walked: one. -/
set_option linter.all false
namespace Go.Proofs.Ytijadllhfgajlaa
open Go Go.Vx
set_option maxRecDepth 100000
set_option maxHeartbeats 4000000

def v50 : VF := { ntmps := 39, res := [.tmp 2], body :=
 (.seq (.region [u1 2 .mov [.cn (.bool false)]])
 (.seq (.seq (.region [u1 9 .mov [.tm 0],
 u1 10 (.call 58) [.tm 9],
 u1 11 .len [.tm 10],
 u1 12 .mov [.cn (.int .i64 0)]])
 (.block 0 (.loop (.seq (.region [u1 13 (.cmp .lss) [.tm 12, .tm 11]])
 (.seq (.cond (.tm 13) .skip
  (.exit 0))
 (.seq (.block 1 (.seq (.region [u1 14 (.idxAddr 1) [.tm 10, .tm 12],
 u1 15 (.load false 1) [.tm 14],
 u1 4 .mov [.tm 15]])
 (.seq (.region [u1 5 .mov [.cn (.int .i64 0)]])
 (.seq (.seq (.region [u1 16 .mov [.tm 0],
 u1 17 .len [.tm 16],
 u1 18 .mov [.cn (.int .i64 0)]])
 (.block 2 (.loop (.seq (.region [u1 19 (.cmp .lss) [.tm 18, .tm 17]])
 (.seq (.cond (.tm 19) .skip
  (.exit 2))
 (.seq (.block 3 (.seq (.region [u1 20 (.idxAddr 2) [.tm 16, .tm 18],
 u1 21 (.load true 2) [.tm 20],
 u1 7 (.alloc [(.int .i64 0), (.int .i64 0)]) [],
 u0 (.store 2) [.tm 7, .tm 21]])
 (.seq (.region [u1 22 (.fieldAddr 0) [.tm 7],
 u1 23 (.load false 1) [.tm 22],
 u1 8 .mov [.tm 23]])
 (.block 4 (.loop (.seq (.seq (.region [u1 24 .mov [.tm 8],
 u1 25 .mov [.tm 4],
 u1 26 .rem [.tm 24, .tm 25],
 u1 27 (.cmp .eql) [.tm 26, .cn (.int .i64 0)]])
 (.cond (.tm 27) .skip
  (.exit 4)))
 (.seq (.block 5 (.region [u1 31 .mov [.tm 5],
 u1 32 (.fieldAddr 1) [.tm 7],
 u1 33 (.load false 1) [.tm 32],
 u1 34 (.ari .add) [.tm 31, .tm 33],
 u1 5 .mov [.tm 34]]))
 (.region [u1 28 .mov [.tm 8],
 u1 29 .mov [.tm 4],
 u1 30 .quo [.tm 28, .tm 29],
 u1 8 .mov [.tm 30]]))))))))
 (.region [u1 35 (.ari .add) [.tm 18, .cn (.int .i64 1)],
 u1 18 .mov [.tm 35]])))))))
 (.seq (.region [u1 36 .mov [.tm 5],
 u1 37 (.cmp .neq) [.tm 36, .cn (.int .i64 0)]])
 (.cond (.tm 37) (.seq (.region [u1 2 .mov [.cn (.bool false)]])
 .ret)
  .skip))))))
 (.region [u1 38 (.ari .add) [.tm 12, .cn (.int .i64 1)],
 u1 12 .mov [.tm 38]])))))))
 (.seq (.region [u1 2 .mov [.cn (.bool true)]])
 .ret))) }
theorem v50_is : vfunc Try.prog Try.f50 = some v50 := by kernel_rfl


/-- A term's exponent, as often as b divides. -/
def divL : Nat → Int → Int → Int → Int → Int
  | 0, _, _, _, s => s
  | f + 1, b, n, num, s => if n.tmod b = 0 then divL f b (IntKind.i64.wrap (n.tdiv b)) num (IntKind.i64.wrap (s + num)) else s
def sumB (l : List (Int × Int)) (b : Nat) : Int := l.foldl (fun s x => divL 64 b x.1 x.2 s) 0
def oneF (l : List (Int × Int)) : Bool := (baseF l).all fun b => decide (sumB l b = 0)
theorem drain_rng {B : Nat} : ∀ {f : Nat} {wait out : List Nat}, DrOk B f wait out → (∀ x, x ∈ drain f wait out → 2 ≤ x ∧ x ≤ 1099511627776) ∧ bitsN (prodL (drain f wait out)) ≤ B
  | 0, wait, out, h => by
    rw [drain]
    have hw : wait = [] := List.length_eq_zero_iff.1 (by have := h.mu; omega)
    have := h.pb
    rw [hw, show prodL out * prodL [] = prodL out from Nat.mul_one _] at this
    exact ⟨h.op, this⟩
  | f + 1, wait, out, h => by
    rw [drain]
    by_cases hw : wait.length = 0
    · rw [if_pos hw]
      have hw : wait = [] := List.length_eq_zero_iff.1 hw
      have := h.pb
      rw [hw, show prodL out * prodL [] = prodL out from Nat.mul_one _] at this
      exact ⟨h.op, this⟩
    · rw [if_neg hw]
      by_cases h1 : wait.getD (wait.length - 1) 0 = 1
      · rw [if_pos h1]
        obtain ⟨g, hg, hd⟩ := h.pop hw h1
        obtain rfl : f = g := by omega
        exact drain_rng hd
      · rw [if_neg h1]
        by_cases h2 : hitF out (wait.getD (wait.length - 1) 0) < out.length
        · rw [if_pos h2]
          have hs := (leastF_spec (f := fun i => decide (1 < Nat.gcd (out.getD i 0) (wait.getD (wait.length - 1) 0))) out.length 0).2.2.2 (by simpa [hitF] using h2)
          obtain ⟨g, hg, hd⟩ := h.hit hw h2 (of_decide_eq_true hs)
          obtain rfl : f = g := by omega
          exact drain_rng hd
        · rw [if_neg h2]
          obtain ⟨g, hg, hd⟩ := h.push hw h1
          obtain rfl : f = g := by omega
          exact drain_rng hd
theorem baseF_rng {l : List (Int × Int)} (hl : ∀ x, x ∈ l → okT x) (hn : l.length ≤ 20) : ∀ x, x ∈ baseF l → 2 ≤ x ∧ x ≤ 1099511627776 := by
  have key : ∀ i, i ≤ l.length → (∀ x, x ∈ (l.take i).foldl drainF [] → 2 ≤ x ∧ x ≤ 1099511627776) ∧ bitsN (prodL ((l.take i).foldl drainF [])) ≤ 40 * i + 1 := fun i => by
    induction i with
    | zero => exact fun _ => ⟨fun x hx => absurd hx (by simp), by simp [prodL]; decide⟩
    | succ i ih =>
      intro hi
      obtain ⟨h1, h2⟩ := ih (by omega)
      have hx := hl _ (getD_mem (by omega : i < l.length))
      rw [foldl_take_succ (by omega)]
      obtain ⟨q0, q1, q2, q3⟩ := hx
      exact drain_rng (DrOk.start (by omega) (by omega) h1 h2 (by omega))
  have := (key l.length (Nat.le_refl _)).1
  rwa [List.take_length] at this
theorem baseF_len (l : List (Int × Int)) : (baseF l).length ≤ 3000 * l.length := by
  have key : ∀ (l : List (Int × Int)) (out : List Nat), (l.foldl drainF out).length ≤ out.length + 3000 * l.length := fun l => by
    induction l with
    | nil => intro out; simp
    | cons x l ih =>
      intro out
      have h1 := ih (drainF out x)
      have h2 : (drainF out x).length ≤ out.length + 3000 := drain_len
      rw [List.foldl_cons, List.length_cons]
      omega
  have h := key l []
  rw [List.length_nil, Nat.zero_add] at h
  exact h
def oneC : Ctr := { alias := false, of := fun l => match l with
  | [.vs _ _ n sz get] => .ex (List (Int × Int)) fun l => .pre (lsP 2 enc2 n sz get l ∧ (∀ x, x ∈ l → okT x) ∧ n ≤ 20) (.fin (.bool (oneF l)) [])
  | _ => .pre False (.fin (.bool false) []) }
def RA9 : Env := { ct := fun n => match n with | 58 => some baseC | _ => none, fn := fun _ => none, meth := fun _ _ => none }
theorem RA9_ct58 : RA9.ct 58 = some baseC := rfl
theorem RA9_ok : EnvOk Try.prog RA9 := by
  refine ⟨fun f c h => ?_, fun f vf h => ?_, (fun _ _ _ h => by cases h), by kernel_rfl, (fun _ h => by cases h)⟩
  · simp only [RA9] at h
    split at h
    · cases h; exact ⟨base_c, Try.f58, Try.func58, by kernel_rfl, by kernel_rfl⟩
    · cases h
  · cases h

theorem one_c : oneC.ok Try.prog 50 := by
  refine contract Try.func50 v50_is RA9_ok 500 oneC fun args k h => ?_
  simp only [oneC] at h
  split at h
  · rename_i tt z n sz get
    obtain ⟨l, ⟨⟨rfl, rfl, hg⟩, hl, hn⟩, h⟩ := h
    refine ⟨[.vs tt z l.length 2 (fun k => enc2 (l.getD k default))], ⟨⟨id, rfl, rfl, rfl, hg⟩, trivial⟩, ?_⟩
    dsimp only [v50, RA9_ct58, baseC, enc2, go_sem, Option.bind, Option.map, List.append_nil, Nat.beq, List.cons_append, List.nil_append, List.append_eq, List.map_cons, List.map_nil, ite_self, reduceIte]
    simp only [true_and, and_true, imp_self, implies_true, decide_eq_true_eq, decide_eq_false_iff_not, Nat.reduceAdd, Nat.reduceLeDiff, Bool.not_not, reduceCtorEq, false_imp_iff, Bool.not_eq_true', Bool.not_eq_false', Bool.false_eq_true, and_self, forall_const, ne_eq, not_false_eq_true, Nat.reduceEqDiff]
    refine ⟨l, ⟨⟨rfl, rfl, fun k hk => leXL_self _⟩, hl, hn⟩, fun y => ?_⟩
    have hbr := baseF_rng hl hn
    have hbl := baseF_len l
    obtain ⟨B, hB⟩ : ∃ B, B = baseF l := ⟨_, rfl⟩
    rw [← hB] at hbr hbl ⊢
    have hone : oneF l = B.all fun b => decide (sumB l b = 0) := by rw [hB]; rfl
    refine Loop.keep [0, 9, 0] Nat (fun i => [(12, .int .i64 i)]) (fun _ => []) [] (fun i => i ≤ B.length ∧ ((B.take i).all fun b => decide (sumB l b = 0)) = true) (fun i => B.length - i) ?_ ?_
    · refine ⟨0, ⟨by omega, rfl⟩, ?_⟩
      dsimp only [go_sem, Option.bind, Option.map, List.append_nil, Nat.beq, List.cons_append, List.nil_append, List.append_eq, List.map_cons, List.map_nil, ite_self, reduceIte]
      simp only [leS_mk, leL_cons, leL_nil, le_junk, le_int, le_bool, le_nil, leLL_nil, leLL_cons, leH_cons, leH_nil, leH1_box, leH1_own, leH1_gone, le_vs, le_agg, le_tup, le_ptr, le_own, le_xp, le_fn, le_opt, le_val, le_elem, le_nil_own, le_nil_vs, leH_ghost, leL_chunk, leXL_id, bnd_int, bnd_bool, bnd_val, bnd_nil, bnd_junk, bnd_vs, bnd_xp, bnd_agg, bnd_tup, bnd_ptr, bnd_own, bnd_elem, bnd_fn, bnd_iface, bnd_opt, bnd_row, bnd_rcell, bnd_imap, bnd_smp, le_row, le_rcell, le_imap, le_smp, leH1_smap, bndL_nil, bndL_cons, lenH_cons, lenH_nil, imp_self, implies_true, true_and, and_true]
      rfl
    · rintro i ⟨hi, hall⟩
      dsimp only [RA9_ct58, baseC, encB, enc2, Int.toNat_natCast, go_sem, Option.bind, Option.map, List.append_nil, Nat.beq, List.cons_append, List.nil_append, List.append_eq, List.map_cons, List.map_nil, ite_self, reduceIte]
      simp only [true_and, and_true, imp_self, implies_true, decide_eq_true_eq, decide_eq_false_iff_not, Nat.reduceAdd, Nat.reduceLeDiff, Bool.not_not, reduceCtorEq, false_imp_iff, Bool.not_eq_true', Bool.not_eq_false', Bool.false_eq_true, and_self, forall_const, ne_eq, not_false_eq_true, Nat.reduceEqDiff]
      refine ⟨fun hlt => ⟨⟨by omega, by omega⟩, ?_⟩, fun hge => ?_⟩
      · have hb : 2 ≤ B.getD i 0 ∧ B.getD i 0 ≤ 1099511627776 := hbr _ (getD_mem (l := B) (i := i) (by omega))
        have hsucc : ((B.take (i + 1)).all fun b => decide (sumB l b = 0)) = decide (sumB l (B.getD i 0) = 0) := by
          rw [take_all_succ (by omega), hall, Bool.true_and]; rfl
        have hmemb : B.getD i 0 ∈ B := getD_mem (l := B) (i := i) (by omega)
        obtain ⟨b, hbe⟩ : ∃ b, b = B.getD i 0 := ⟨_, rfl⟩
        rw [← hbe] at hb hsucc hmemb ⊢
        refine Loop.keep [0, 3, 5, 0, 0, 3, 0] (Nat × Int) (fun s => [(5, .int .i64 s.2), (18, .int .i64 s.1)]) (fun _ => []) [] (fun s => s.1 ≤ l.length ∧ s.2 = (l.take s.1).foldl (fun s x => divL 64 b x.1 x.2 s) 0) (fun s => l.length - s.1) ?_ ?_
        · refine ⟨(0, 0), ⟨by simp only; omega, rfl⟩, ?_⟩
          dsimp only [go_sem, Option.bind, Option.map, List.append_nil, Nat.beq, List.cons_append, List.nil_append, List.append_eq, List.map_cons, List.map_nil, ite_self, reduceIte]
          simp only [leS_mk, leL_cons, leL_nil, le_junk, le_int, le_bool, le_nil, leLL_nil, leLL_cons, leH_cons, leH_nil, leH1_box, leH1_own, leH1_gone, le_vs, le_agg, le_tup, le_ptr, le_own, le_xp, le_fn, le_opt, le_val, le_elem, le_nil_own, le_nil_vs, leH_ghost, leL_chunk, leXL_id, bnd_int, bnd_bool, bnd_val, bnd_nil, bnd_junk, bnd_vs, bnd_xp, bnd_agg, bnd_tup, bnd_ptr, bnd_own, bnd_elem, bnd_fn, bnd_iface, bnd_opt, bnd_row, bnd_rcell, bnd_imap, bnd_smp, le_row, le_rcell, le_imap, le_smp, leH1_smap, bndL_nil, bndL_cons, lenH_cons, lenH_nil, imp_self, implies_true, true_and, and_true]
          rfl
        · rintro ⟨t, S⟩ ⟨ht, hS⟩
          dsimp only at ht hS
          dsimp only [enc2, Int.toNat_natCast, go_sem, Option.bind, Option.map, List.append_nil, Nat.beq, List.cons_append, List.nil_append, List.append_eq, List.map_cons, List.map_nil, ite_self, reduceIte]
          simp only [true_and, and_true, imp_self, implies_true, decide_eq_true_eq, decide_eq_false_iff_not, Nat.reduceAdd, Nat.reduceLeDiff, Bool.not_not, reduceCtorEq, false_imp_iff, Bool.not_eq_true', Bool.not_eq_false', Bool.false_eq_true, and_self, forall_const, ne_eq, not_false_eq_true, Nat.reduceEqDiff]
          refine ⟨fun hlt2 => ⟨⟨by omega, by omega⟩, ?_⟩, fun hge2 => ?_⟩
          · have hx := hl _ (getD_mem (by omega : t < l.length))
            have hst : (l.take (t + 1)).foldl (fun s x => divL 64 b x.1 x.2 s) 0 = divL 64 b (l.getD t default).1 (l.getD t default).2 S := by
              rw [foldl_take_succ (by omega), ← hS]
            generalize l.getD t default = x at hx hst ⊢
            obtain ⟨q0, q1, q2, q3⟩ := hx
            obtain ⟨R, hR⟩ : ∃ R, R = divL 64 b x.1 x.2 S := ⟨_, rfl⟩
            rw [← hR] at hst
            refine Loop.keep [0, 3, 2, 2, 0, 0, 3, 0, 0] (Nat × Int × Int) (fun s => [(5, .int .i64 s.2.2), (8, .int .i64 s.2.1)]) (fun _ => []) [] (fun s => R = divL s.1 b s.2.1 x.2 s.2.2 ∧ 1 ≤ s.2.1 ∧ s.2.1 < 2 ^ s.1 ∧ s.2.1 ≤ 1000000000001) (fun s => s.1) ?_ ?_
            · refine ⟨(64, x.1, S), ⟨hR, q0, by simp only; omega, q1⟩, ?_⟩
              dsimp only [go_sem, Option.bind, Option.map, List.append_nil, Nat.beq, List.cons_append, List.nil_append, List.append_eq, List.map_cons, List.map_nil, ite_self, reduceIte]
              simp only [leS_mk, leL_cons, leL_nil, le_junk, le_int, le_bool, le_nil, leLL_nil, leLL_cons, leH_cons, leH_nil, leH1_box, leH1_own, leH1_gone, le_vs, le_agg, le_tup, le_ptr, le_own, le_xp, le_fn, le_opt, le_val, le_elem, le_nil_own, le_nil_vs, leH_ghost, leL_chunk, leXL_id, bnd_int, bnd_bool, bnd_val, bnd_nil, bnd_junk, bnd_vs, bnd_xp, bnd_agg, bnd_tup, bnd_ptr, bnd_own, bnd_elem, bnd_fn, bnd_iface, bnd_opt, bnd_row, bnd_rcell, bnd_imap, bnd_smp, le_row, le_rcell, le_imap, le_smp, leH1_smap, bndL_nil, bndL_cons, lenH_cons, lenH_nil, imp_self, implies_true, true_and, and_true]
              decide
            · rintro ⟨f, n, S'⟩ ⟨hf, n0, n1, n2⟩
              dsimp only at hf n0 n1 n2
              dsimp only [go_sem, Option.bind, Option.map, List.append_nil, Nat.beq, List.cons_append, List.nil_append, List.append_eq, List.map_cons, List.map_nil, ite_self, reduceIte]
              simp only [true_and, and_true, imp_self, implies_true, decide_eq_true_eq, decide_eq_false_iff_not, Nat.reduceAdd, Nat.reduceLeDiff, Bool.not_not, reduceCtorEq, false_imp_iff, Bool.not_eq_true', Bool.not_eq_false', Bool.false_eq_true, and_self, forall_const, ne_eq, not_false_eq_true, Nat.reduceEqDiff]
              obtain ⟨m, rfl⟩ := Int.eq_ofNat_of_zero_le (by omega : 0 ≤ n)
              obtain ⟨g, rfl⟩ : ∃ g, f = g + 1 := by
                cases f with
                | zero => simp at n1; omega
                | succ g => exact ⟨g, rfl⟩
              rw [divL] at hf
              refine ⟨by omega, fun hc => ⟨by omega, ?_⟩, fun hc => ?_⟩
              · rw [if_pos hc] at hf
                have e1 : (m : Int).tmod (b : Int) = ((m % b : Nat) : Int) := IntWalk.up_tmod rfl rfl
                have e2 : (m : Int).tdiv (b : Int) = ((m / b : Nat) : Int) := IntWalk.up_tdiv rfl rfl
                rw [e1] at hc
                have hdm := Nat.div_add_mod m b
                rw [show m % b = 0 by omega, Nat.add_zero] at hdm
                have hq1 : 1 ≤ m / b := Nat.pos_of_ne_zero fun hh => by rw [hh, Nat.mul_zero] at hdm; omega
                have hq2 : 2 * (m / b) ≤ m := by
                  have : 2 * (m / b) ≤ b * (m / b) := Nat.mul_le_mul_right _ hb.1
                  omega
                rw [e2] at hf ⊢
                generalize m / b = q at hq1 hq2 hf ⊢
                have eq : IntKind.i64.wrap (q : Int) = (q : Int) := IntWalk.i64_in _ (by omega)
                rw [eq] at hf ⊢
                have n1' : m < 2 ^ g * 2 := by rw [← Nat.pow_succ]; exact_mod_cast n1
                refine ⟨(g, q, IntKind.i64.wrap (S' + x.2)), ⟨hf, by simp only; omega, ?_, by simp only; omega⟩, by simp only; omega, ?_⟩
                · show (q : Int) < 2 ^ g
                  have : q < 2 ^ g := by omega
                  exact_mod_cast this
                · simp only [leS_mk, leL_cons, leL_nil, le_junk, le_int, le_bool, le_nil, leLL_nil, leLL_cons, leH_cons, leH_nil, leH1_box, leH1_own, leH1_gone, le_vs, le_agg, le_tup, le_ptr, le_own, le_xp, le_fn, le_opt, le_val, le_elem, le_nil_own, le_nil_vs, leH_ghost, leL_chunk, leXL_id, bnd_int, bnd_bool, bnd_val, bnd_nil, bnd_junk, bnd_vs, bnd_xp, bnd_agg, bnd_tup, bnd_ptr, bnd_own, bnd_elem, bnd_fn, bnd_iface, bnd_opt, bnd_row, bnd_rcell, bnd_imap, bnd_smp, le_row, le_rcell, le_imap, le_smp, leH1_smap, bndL_nil, bndL_cons, lenH_cons, lenH_nil, imp_self, implies_true, true_and, and_true]
                  decide
              · rw [if_neg hc] at hf
                refine ⟨(t + 1, S'), ⟨by simp only; omega, by rw [hst, hf]⟩, by simp only; omega, ?_⟩
                rw [IntWalk.i64_in ((t : Int) + 1) (by omega)]
                simp only [leS_mk, leL_cons, leL_nil, le_junk, le_int, le_bool, le_nil, leLL_nil, leLL_cons, leH_cons, leH_nil, leH1_box, leH1_own, leH1_gone, le_vs, le_agg, le_tup, le_ptr, le_own, le_xp, le_fn, le_opt, le_val, le_elem, le_nil_own, le_nil_vs, leH_ghost, leL_chunk, leXL_id, bnd_int, bnd_bool, bnd_val, bnd_nil, bnd_junk, bnd_vs, bnd_xp, bnd_agg, bnd_tup, bnd_ptr, bnd_own, bnd_elem, bnd_fn, bnd_iface, bnd_opt, bnd_row, bnd_rcell, bnd_imap, bnd_smp, le_row, le_rcell, le_imap, le_smp, leH1_smap, bndL_nil, bndL_cons, lenH_cons, lenH_nil, imp_self, implies_true, true_and, and_true]
                simp
          · obtain rfl : t = l.length := by omega
            rw [List.take_length] at hS
            have hS : S = sumB l b := hS
            refine ⟨fun hc => ?_, fun hc => ⟨i + 1, ⟨by omega, ?_⟩, by omega, ?_⟩⟩
            · have : oneF l = false := by
                rw [hone, List.all_eq_false]
                exact ⟨b, hmemb, by rw [← hS]; simpa using hc⟩
              rw [this] at h
              exact ans_bool h
            · rw [hsucc, ← hS]; exact decide_eq_true hc
            · rw [IntWalk.i64_in ((i : Int) + 1) (by omega)]
              simp only [leS_mk, leL_cons, leL_nil, le_junk, le_int, le_bool, le_nil, leLL_nil, leLL_cons, leH_cons, leH_nil, leH1_box, leH1_own, leH1_gone, le_vs, le_agg, le_tup, le_ptr, le_own, le_xp, le_fn, le_opt, le_val, le_elem, le_nil_own, le_nil_vs, leH_ghost, leL_chunk, leXL_id, bnd_int, bnd_bool, bnd_val, bnd_nil, bnd_junk, bnd_vs, bnd_xp, bnd_agg, bnd_tup, bnd_ptr, bnd_own, bnd_elem, bnd_fn, bnd_iface, bnd_opt, bnd_row, bnd_rcell, bnd_imap, bnd_smp, le_row, le_rcell, le_imap, le_smp, leH1_smap, bndL_nil, bndL_cons, lenH_cons, lenH_nil, imp_self, implies_true, true_and, and_true]
              simp
      · obtain rfl : i = B.length := by omega
        rw [List.take_length] at hall
        rw [hone, hall] at h
        exact ans_bool h
  · exact h.1.elim
end Go.Proofs.Ytijadllhfgajlaa

/- Signs of the program, walked: sign, check. -/
/- Signs of the program, walked: sign, check. -/
set_option linter.all false
namespace Go.Proofs.Ytijadllhfgajlaa
open Go Go.Vx
set_option maxRecDepth 100000
set_option maxHeartbeats 4000000

def v48 : VF := { ntmps := 39, res := [.tmp 2], body :=
 (.seq (.region [u1 2 .mov [.cn (.int .i64 0)]])
 (.seq (.seq (.region [u1 9 .mov [.tm 0],
 u1 10 (.call 55) [.tm 9],
 u1 8 .mov [.tm 10],
 u1 11 (.ext 0) [.tm 8],
 u1 12 (.ext 1) [.tm 8],
 u1 3 .mov [.tm 11],
 u1 4 .mov [.tm 12]])
 (.seq (.region [u1 13 .mov [.tm 4]])
 (.cond (.tm 13) (.seq (.region [u1 14 .mov [.tm 3],
 u1 2 .mov [.tm 14]])
 .ret)
  .skip)))
 (.seq (.seq (.region [u1 15 .mov [.tm 0],
 u1 16 (.call 50) [.tm 15]])
 (.cond (.tm 16) (.seq (.region [u1 2 .mov [.cn (.int .i64 0)]])
 .ret)
  .skip))
 (.seq (.seq (.region [u1 5 .mov [.cn (.int .i64 64)]])
 (.block 0 (.loop (.seq (.seq (.region [u1 17 .mov [.tm 5],
 u1 18 (.cmp .leq) [.tm 17, .cn (.int .i64 2048)]])
 (.cond (.tm 18) .skip
  (.exit 0)))
 (.seq (.block 1 (.seq (.region [u1 22 .mov [.tm 0],
 u1 23 .mov [.tm 5],
 u1 24 (.call 56) [.tm 22, .tm 23],
 u1 21 .mov [.tm 24],
 u1 25 (.ext 0) [.tm 21],
 u1 26 (.ext 1) [.tm 21],
 u1 6 (.alloc [.nil, .nil]) [],
 u1 7 (.alloc [.nil, .nil]) [],
 u0 (.store 2) [.tm 6, .tm 25],
 u0 (.store 2) [.tm 7, .tm 26]])
 (.block 2 (.seq (.region [u1 28 (.fieldAddr 0) [.tm 6],
 u1 29 (.load false 1) [.tm 28],
 u1 30 (.fieldAddr 1) [.tm 7],
 u1 31 (.load false 1) [.tm 30],
 u1 32 (.call 57) [.tm 29, .tm 31],
 u1 27 .mov [.tm 32]])
 (.cond (.tm 27) (.seq (.region [u1 2 .mov [.cn (.int .i64 1)]])
 .ret)
  (.seq (.region [u1 34 (.fieldAddr 0) [.tm 7],
 u1 35 (.load false 1) [.tm 34],
 u1 36 (.fieldAddr 1) [.tm 6],
 u1 37 (.load false 1) [.tm 36],
 u1 38 (.call 57) [.tm 35, .tm 37],
 u1 33 .mov [.tm 38]])
 (.cond (.tm 33) (.seq (.region [u1 2 .mov [.cn (.int .i64 (-1))]])
 .ret)
  .skip)))))))
 (.region [u1 19 .mov [.tm 5],
 u1 20 (.ari .mul) [.tm 19, .cn (.int .i64 2)],
 u1 5 .mov [.tm 20]]))))))
 (.seq (.region [u1 2 .mov [.cn (.int .i64 0)]])
 .ret))))) }
theorem v48_is : vfunc Try.prog Try.f48 = some v48 := by kernel_rfl
def v45 : VF := { ntmps := 33, res := [.tmp 2], body :=
 (.seq (.region [u1 2 .mov [.cn (.int .i64 0)]])
 (.seq (.seq (.region [u1 5 .mov [.tm 0],
 u1 6 .len [.tm 5],
 u1 7 (.cmp .gtr) [.tm 6, .cn (.int .i64 16)]])
 (.cond (.tm 7) (.seq (.region [u1 2 .mov [.cn (.int .i64 3)]])
 .ret)
  .skip))
 (.seq (.seq (.region [u1 8 .mov [.tm 0],
 u1 9 .len [.tm 8],
 u1 10 .mov [.cn (.int .i64 0)]])
 (.block 0 (.loop (.seq (.region [u1 11 (.cmp .lss) [.tm 10, .tm 9]])
 (.seq (.cond (.tm 11) .skip
  (.exit 0))
 (.seq (.block 1 (.seq (.region [u1 12 (.idxAddr 2) [.tm 8, .tm 10],
 u1 13 (.load true 2) [.tm 12],
 u1 4 (.alloc [(.int .i64 0), (.int .i64 0)]) [],
 u0 (.store 2) [.tm 4, .tm 13]])
 (.seq (.region [u1 14 (.fieldAddr 0) [.tm 4],
 u1 15 (.load false 1) [.tm 14],
 u1 16 (.cmp .lss) [.tm 15, .cn (.int .i64 1)],
 u1 17 .mov [.tm 16],
 u2 18 17 false (.fieldAddr 0) [.tm 4],
 u2 19 17 false (.load false 1) [.tm 18],
 u2 20 17 false (.cmp .gtr) [.tm 19, .cn (.int .i64 1000000000000)],
 u1 21 .or [.tm 17, .tm 20],
 u1 22 .mov [.tm 21],
 u2 23 22 false (.fieldAddr 1) [.tm 4],
 u2 24 22 false (.load false 1) [.tm 23],
 u2 25 22 false (.cmp .lss) [.tm 24, .cn (.int .i64 (-1000000000))],
 u1 26 .or [.tm 22, .tm 25],
 u1 27 .mov [.tm 26],
 u2 28 27 false (.fieldAddr 1) [.tm 4],
 u2 29 27 false (.load false 1) [.tm 28],
 u2 30 27 false (.cmp .gtr) [.tm 29, .cn (.int .i64 1000000000)],
 u1 31 .or [.tm 27, .tm 30]])
 (.cond (.tm 31) (.seq (.region [u1 2 .mov [.cn (.int .i64 2)]])
 .ret)
  .skip))))
 (.region [u1 32 (.ari .add) [.tm 10, .cn (.int .i64 1)],
 u1 10 .mov [.tm 32]])))))))
 (.seq (.region [u1 2 .mov [.cn (.int .i64 0)]])
 .ret)))) }
theorem v45_is : vfunc Try.prog Try.f45 = some v45 := by kernel_rfl


/-- The sign by more and more places. -/
def signL : Nat → List (Int × Int) → Nat → Int
  | 0, _, _ => 0
  | f + 1, l, p => if (sumsF l p).dh < (sumsF l p).ul then 1 else if (sumsF l p).uh < (sumsF l p).dl then -1 else signL f l (2 * p)
def signF (l : List (Int × Int)) : Int := if (guessF l).2 = true then (guessF l).1 else if oneF l = true then 0 else signL 6 l 64
def signC : Ctr := { alias := false, of := fun l => match l with
  | [.vs _ _ n sz get] => .ex (List (Int × Int)) fun l => .pre (lsP 2 enc2 n sz get l ∧ (∀ x, x ∈ l → okT x) ∧ n ≤ 20) (.fin (.int .i64 (signF l)) [])
  | _ => .pre False (.fin (.int .i64 0) []) }
def okT0 (x : Int × Int) : Bool := decide (x.1 < 1) || decide (1000000000000 < x.1) || decide (x.2 < -1000000000) || decide (1000000000 < x.2)
def chkTF (l : List (Int × Int)) : Int := if 16 < l.length then 3 else if l.any okT0 = true then 2 else 0
def chkTC : Ctr := { alias := false, of := fun l => match l with
  | [.vs _ _ n sz get] => .ex (List (Int × Int)) fun l => .pre (lsP 2 enc2 n sz get l ∧ n ≤ 9223372036854775807) (.fin (.int .i64 (chkTF l)) [])
  | _ => noC }
theorem sumsF_ok (l : List (Int × Int)) (p : Nat) : (sumsF l p).ok := by
  have key : ∀ (l : List (Int × Int)) (s : Bnd), s.ok → (l.foldl (sumsS p) s).ok := fun l => by
    induction l with
    | nil => intro s h; exact h
    | cons x l ih => intro s h; exact ih _ (sumsS_ok p s x h)
  exact key l _ (by simp [Bnd.ok, nl_0])
def RB0 : Env := { ct := fun n => match n with | 55 => some guessC | 50 => some oneC | 56 => some sumsC | 57 => some aboveC | _ => none, fn := fun _ => none, meth := fun _ _ => none }
theorem RB0_ct55 : RB0.ct 55 = some guessC := rfl
theorem RB0_ct50 : RB0.ct 50 = some oneC := rfl
theorem RB0_ct56 : RB0.ct 56 = some sumsC := rfl
theorem RB0_ct57 : RB0.ct 57 = some aboveC := rfl
theorem RB0_ok : EnvOk Try.prog RB0 := by
  refine ⟨fun f c h => ?_, fun f vf h => ?_, (fun _ _ _ h => by cases h), by kernel_rfl, (fun _ h => by cases h)⟩
  · simp only [RB0] at h
    split at h
    · cases h; exact ⟨guess_c, Try.f55, Try.func55, by kernel_rfl, by kernel_rfl⟩
    · cases h; exact ⟨one_c, Try.f50, Try.func50, by kernel_rfl, by kernel_rfl⟩
    · cases h; exact ⟨sums_c, Try.f56, Try.func56, by kernel_rfl, by kernel_rfl⟩
    · cases h; exact ⟨above_c, Try.f57, Try.func57, by kernel_rfl, by kernel_rfl⟩
    · cases h
  · cases h

theorem sign_c : signC.ok Try.prog 48 := by
  refine contract Try.func48 v48_is RB0_ok 500 signC fun args k h => ?_
  simp only [signC] at h
  split at h
  · rename_i tt z n sz get
    obtain ⟨l, ⟨⟨rfl, rfl, hg⟩, hl, hn⟩, h⟩ := h
    refine ⟨[.vs tt z l.length 2 (fun k => enc2 (l.getD k default))], ⟨⟨id, rfl, rfl, rfl, hg⟩, trivial⟩, ?_⟩
    dsimp only [v48, RB0_ct55, RB0_ct50, guessC, oneC, enc2, go_sem, Option.bind, Option.map, List.append_nil, Nat.beq, List.cons_append, List.nil_append, List.append_eq, List.map_cons, List.map_nil, ite_self, reduceIte]
    simp only [true_and, and_true, imp_self, implies_true, decide_eq_true_eq, decide_eq_false_iff_not, Nat.reduceAdd, Nat.reduceLeDiff, Bool.not_not, reduceCtorEq, false_imp_iff, Bool.not_eq_true', Bool.not_eq_false', Bool.false_eq_true, and_self, forall_const, ne_eq, not_false_eq_true, Nat.reduceEqDiff]
    have hself : lsP 2 enc2 l.length 2 (fun k => [SV.int IntKind.i64 (l.getD k default).fst, SV.int IntKind.i64 (l.getD k default).snd]) l := ⟨rfl, rfl, fun k _ => leXL_self _⟩
    refine ⟨l, ⟨hself, hl, by omega⟩, by decide, by decide, fun hc => ?_, fun hc => ⟨l, ⟨hself, hl, hn⟩, fun hd => ?_, fun hd => ?_⟩⟩
    · rw [signF, if_pos hc] at h; exact ans_int h
    · rw [signF, if_neg (by rw [hc]; decide), if_pos hd] at h; exact ans_int h
    · rw [signF, if_neg (by rw [hc]; decide), if_neg (by rw [hd]; decide)] at h
      obtain ⟨R, hR⟩ : ∃ R, R = signL 6 l 64 := ⟨_, rfl⟩
      rw [← hR] at h
      refine Loop.keep [0] (Nat × Nat) (fun s => [(5, .int .i64 s.2)]) (fun _ => []) [] (fun s => R = signL s.1 l s.2 ∧ s.2 * 2 ^ s.1 = 4096 ∧ 64 ≤ s.2) (fun s => s.1) ?_ ?_
      · refine ⟨(6, 64), ⟨hR, by decide, by decide⟩, ?_⟩
        dsimp only [go_sem, Option.bind, Option.map, List.append_nil, Nat.beq, List.cons_append, List.nil_append, List.append_eq, List.map_cons, List.map_nil, ite_self, reduceIte]
        simp only [leS_mk, leL_cons, leL_nil, le_junk, le_int, le_bool, le_nil, leLL_nil, leLL_cons, leH_cons, leH_nil, leH1_box, leH1_own, leH1_gone, le_vs, le_agg, le_tup, le_ptr, le_own, le_xp, le_fn, le_opt, le_val, le_elem, le_nil_own, le_nil_vs, leH_ghost, leL_chunk, leXL_id, bnd_int, bnd_bool, bnd_val, bnd_nil, bnd_junk, bnd_vs, bnd_xp, bnd_agg, bnd_tup, bnd_ptr, bnd_own, bnd_elem, bnd_fn, bnd_iface, bnd_opt, bnd_row, bnd_rcell, bnd_imap, bnd_smp, le_row, le_rcell, le_imap, le_smp, leH1_smap, bndL_nil, bndL_cons, lenH_cons, lenH_nil, imp_self, implies_true, true_and, and_true]
        rfl
      · rintro ⟨f, p⟩ ⟨hf, hp, hp64⟩
        dsimp only at hf hp hp64
        dsimp only [RB0_ct56, RB0_ct57, sumsC, aboveC, natS, go_sem, Option.bind, Option.map, List.append_nil, Nat.beq, List.cons_append, List.nil_append, List.append_eq, List.map_cons, List.map_nil, ite_self, reduceIte]
        simp only [true_and, and_true, imp_self, implies_true, decide_eq_true_eq, decide_eq_false_iff_not, Nat.reduceAdd, Nat.reduceLeDiff, Bool.not_not, reduceCtorEq, false_imp_iff, Bool.not_eq_true', Bool.not_eq_false', Bool.false_eq_true, and_self, forall_const, ne_eq, not_false_eq_true, Nat.reduceEqDiff]
        obtain ⟨k1, k2, k3, k4⟩ := sumsF_ok l p
        have hfd : p ≤ 2048 → ∃ g, f = g + 1 := fun hpl => by
          rcases Nat.eq_zero_or_pos f with h0 | h0
          · rw [h0, Nat.pow_zero, Nat.mul_one] at hp; omega
          · exact ⟨f - 1, by omega⟩
        have hf0 : ¬ p ≤ 2048 → f = 0 := fun hpl => by
          rcases Nat.eq_zero_or_pos f with h0 | h0
          · exact h0
          · obtain ⟨g, rfl⟩ : ∃ g, f = g + 1 := ⟨f - 1, by omega⟩
            rw [Nat.pow_succ] at hp
            have : 1 ≤ 2 ^ g := p2_pos g
            have : p * 2 ≤ p * (2 ^ g * 2) := Nat.mul_le_mul_left _ (by omega)
            omega
        refine ⟨fun hc => ⟨l, p, ⟨hself, hl, by omega, rfl, by omega⟩, fun y1 y2 y3 y4 => ⟨by decide, by decide, (sumsF l p).ul, (sumsF l p).dh, ⟨okW_nl k1, okW_nl k4⟩, fun hd => ?_, fun hd => ⟨(sumsF l p).dl, (sumsF l p).uh, ⟨okW_nl k3, okW_nl k2⟩, fun he => ?_, fun he => ?_⟩⟩⟩, fun hc => ?_⟩
        · obtain ⟨g, rfl⟩ := hfd (by omega)
          rw [signL, if_pos hd] at hf
          rw [hf] at h; exact ans_int h
        · obtain ⟨g, rfl⟩ := hfd (by omega)
          rw [signL, if_neg hd, if_pos he] at hf
          rw [hf] at h; exact ans_int h
        · obtain ⟨g, rfl⟩ := hfd (by omega)
          rw [signL, if_neg hd, if_neg he] at hf
          rw [Nat.pow_succ] at hp
          have hp2 : 2 * p * 2 ^ g = 4096 := by rw [← hp, Nat.mul_comm 2 p, Nat.mul_assoc, Nat.mul_comm 2]
          refine ⟨(g, 2 * p), ⟨hf, hp2, by simp only; omega⟩, by simp only; omega, ?_⟩
          rw [show IntKind.i64.wrap ((p : Int) * 2) = ((2 * p : Nat) : Int) by rw [IntWalk.i64_in _ (by omega)]; omega]
          simp only [leS_mk, leL_cons, leL_nil, le_junk, le_int, le_bool, le_nil, leLL_nil, leLL_cons, leH_cons, leH_nil, leH1_box, leH1_own, leH1_gone, le_vs, le_agg, le_tup, le_ptr, le_own, le_xp, le_fn, le_opt, le_val, le_elem, le_nil_own, le_nil_vs, leH_ghost, leL_chunk, leXL_id, bnd_int, bnd_bool, bnd_val, bnd_nil, bnd_junk, bnd_vs, bnd_xp, bnd_agg, bnd_tup, bnd_ptr, bnd_own, bnd_elem, bnd_fn, bnd_iface, bnd_opt, bnd_row, bnd_rcell, bnd_imap, bnd_smp, le_row, le_rcell, le_imap, le_smp, leH1_smap, bndL_nil, bndL_cons, lenH_cons, lenH_nil, imp_self, implies_true, true_and, and_true]
        · obtain rfl := hf0 (by omega)
          rw [signL] at hf
          rw [hf] at h; exact ans_int h
  · exact h.1.elim

def RB1 : Env := { ct := fun _ => none, fn := fun _ => none, meth := fun _ _ => none }
theorem RB1_ok : EnvOk Try.prog RB1 := by
  refine ⟨fun f c h => ?_, fun f vf h => ?_, (fun _ _ _ h => by cases h), by kernel_rfl, (fun _ h => by cases h)⟩
  · cases h
  · cases h

theorem chkT_c : chkTC.ok Try.prog 45 := by
  refine contract Try.func45 v45_is RB1_ok 500 chkTC fun args k h => ?_
  simp only [chkTC] at h
  split at h
  · rename_i tt z n sz get
    obtain ⟨l, ⟨⟨rfl, rfl, hg⟩, hn⟩, h⟩ := h
    refine ⟨[.vs tt z l.length 2 (fun k => enc2 (l.getD k default))], ⟨⟨id, rfl, rfl, rfl, hg⟩, trivial⟩, ?_⟩
    dsimp only [v45, enc2, go_sem, Option.bind, Option.map, List.append_nil, Nat.beq, List.cons_append, List.nil_append, List.append_eq, List.map_cons, List.map_nil, ite_self, reduceIte]
    simp only [true_and, and_true, imp_self, implies_true, decide_eq_true_eq, decide_eq_false_iff_not, Nat.reduceAdd, Nat.reduceLeDiff, Bool.not_not, reduceCtorEq, false_imp_iff, Bool.not_eq_true', Bool.not_eq_false', Bool.false_eq_true, and_self, forall_const, ne_eq, not_false_eq_true, Nat.reduceEqDiff]
    refine ⟨fun hc => ?_, fun hc => ?_⟩
    · rw [chkTF, if_pos (by omega)] at h; exact ans_int h
    · rw [chkTF, if_neg (by omega)] at h
      refine Loop.keep [0, 7, 0] Nat (fun i => [(10, .int .i64 i)]) (fun _ => []) [] (fun i => i ≤ l.length ∧ (l.take i).any okT0 = false) (fun i => l.length - i) ?_ ?_
      · refine ⟨0, ⟨by omega, rfl⟩, ?_⟩
        dsimp only [go_sem, Option.bind, Option.map, List.append_nil, Nat.beq, List.cons_append, List.nil_append, List.append_eq, List.map_cons, List.map_nil, ite_self, reduceIte]
        simp only [leS_mk, leL_cons, leL_nil, le_junk, le_int, le_bool, le_nil, leLL_nil, leLL_cons, leH_cons, leH_nil, leH1_box, leH1_own, leH1_gone, le_vs, le_agg, le_tup, le_ptr, le_own, le_xp, le_fn, le_opt, le_val, le_elem, le_nil_own, le_nil_vs, leH_ghost, leL_chunk, leXL_id, bnd_int, bnd_bool, bnd_val, bnd_nil, bnd_junk, bnd_vs, bnd_xp, bnd_agg, bnd_tup, bnd_ptr, bnd_own, bnd_elem, bnd_fn, bnd_iface, bnd_opt, bnd_row, bnd_rcell, bnd_imap, bnd_smp, le_row, le_rcell, le_imap, le_smp, leH1_smap, bndL_nil, bndL_cons, lenH_cons, lenH_nil, imp_self, implies_true, true_and, and_true]
        rfl
      · rintro i ⟨hi, hall⟩
        dsimp only [enc2, Int.toNat_natCast, go_sem, Option.bind, Option.map, List.append_nil, Nat.beq, List.cons_append, List.nil_append, List.append_eq, List.map_cons, List.map_nil, ite_self, reduceIte]
        simp only [true_and, and_true, imp_self, implies_true, decide_eq_true_eq, decide_eq_false_iff_not, Nat.reduceAdd, Nat.reduceLeDiff, Bool.not_not, reduceCtorEq, false_imp_iff, Bool.not_eq_true', Bool.not_eq_false', Bool.false_eq_true, and_self, forall_const, ne_eq, not_false_eq_true, Nat.reduceEqDiff]
        refine ⟨fun hlt => ⟨⟨by omega, by omega⟩, fun hc => ?_, fun hc => ⟨i + 1, ⟨by omega, ?_⟩, by omega, ?_⟩⟩, fun hge => ?_⟩
        · have : l.any okT0 = true := List.any_eq_true.2 ⟨_, getD_mem (by omega : i < l.length), hc⟩
          rw [if_pos this] at h
          exact ans_int h
        · rw [take_any_succ (by omega), hall, Bool.false_or]; exact hc
        · rw [IntWalk.i64_in ((i : Int) + 1) (by omega)]
          simp only [leS_mk, leL_cons, leL_nil, le_junk, le_int, le_bool, le_nil, leLL_nil, leLL_cons, leH_cons, leH_nil, leH1_box, leH1_own, leH1_gone, le_vs, le_agg, le_tup, le_ptr, le_own, le_xp, le_fn, le_opt, le_val, le_elem, le_nil_own, le_nil_vs, leH_ghost, leL_chunk, leXL_id, bnd_int, bnd_bool, bnd_val, bnd_nil, bnd_junk, bnd_vs, bnd_xp, bnd_agg, bnd_tup, bnd_ptr, bnd_own, bnd_elem, bnd_fn, bnd_iface, bnd_opt, bnd_row, bnd_rcell, bnd_imap, bnd_smp, le_row, le_rcell, le_imap, le_smp, leH1_smap, bndL_nil, bndL_cons, lenH_cons, lenH_nil, imp_self, implies_true, true_and, and_true]
          simp
        · obtain rfl : i = l.length := by omega
          rw [List.take_length] at hall
          rw [if_neg (by rw [hall]; decide)] at h
          exact ans_int h
  · exact h.1.elim
end Go.Proofs.Ytijadllhfgajlaa

/- Roots of products of the program, walked: Power. -/
/- Roots of products of the program, walked: Power. -/
set_option linter.all false
namespace Go.Proofs.Ytijadllhfgajlaa
open Go Go.Vx
set_option maxRecDepth 100000
set_option maxHeartbeats 4000000

def v41 : VF := { ntmps := 54, res := [.tmp 6, .tmp 7, .tmp 8], body :=
 (.seq (.region [u1 5 .box [.tm 2],
 u1 6 .mov [.cn (.int .i64 0)],
 u1 7 .mov [.cn (.bool false)],
 u1 8 .mov [.cn (.int .i64 0)]])
 (.seq (.seq (.region [u1 13 .mov [.tm 1],
 u1 14 (.call 45) [.tm 13],
 u1 9 .mov [.tm 14]])
 (.seq (.region [u1 15 .mov [.tm 9],
 u1 16 (.cmp .neq) [.tm 15, .cn (.int .i64 0)]])
 (.cond (.tm 16) (.seq (.region [u1 17 .mov [.tm 9],
 u1 6 .mov [.cn (.int .i64 0)],
 u1 7 .mov [.cn (.bool false)],
 u1 8 .mov [.tm 17]])
 .ret)
  .skip)))
 (.seq (.seq (.region [u1 18 (.load false 1) [.tm 5],
 u1 19 (.cmp .lss) [.tm 18, .cn (.int .i64 1)],
 u1 20 .mov [.tm 19],
 u2 21 20 false (.load false 1) [.tm 5],
 u2 22 20 false (.cmp .gtr) [.tm 21, .cn (.int .i64 1000000)],
 u1 23 .or [.tm 20, .tm 22],
 u1 24 .mov [.tm 23],
 u2 25 24 false .mov [.tm 0],
 u2 26 24 false (.cmp .lss) [.tm 25, .cn (.int .i64 1)],
 u1 27 .or [.tm 24, .tm 26],
 u1 28 .mov [.tm 27],
 u2 29 28 false .mov [.tm 0],
 u2 30 28 false (.cmp .gtr) [.tm 29, .cn (.int .i64 1000000000000)],
 u1 31 .or [.tm 28, .tm 30]])
 (.cond (.tm 31) (.seq (.region [u1 6 .mov [.cn (.int .i64 0)],
 u1 7 .mov [.cn (.bool false)],
 u1 8 .mov [.cn (.int .i64 2)]])
 .ret)
  .skip))
 (.seq (.drawT [(10, .box [.nil])] (.ops [w1 32 .mov [.tm 1]] (.ops [w1 34 .mov [.tm 0]] (.ops [w1 35 (.load false 1) [.tm 5]] (.ops [w1 36 (.build [(.int .i64 0), (.int .i64 0)] [(0, 1), (1, 1)]) [.tm 34, .tm 35]] (.ops [] (.br (.ops [⟨u1 33 (.append 2 16 [(.int .i64 0), (.int .i64 0)]) [.cn .nil, .tm 32], [.tm 0, .tm 34, .tm 5, .tm 35, .tm 34, .tm 35, .tm 36]⟩] (.ops [w1 37 (.buildSlice 2 1 [(.int .i64 0), (.int .i64 0)] [(0, 2)]) [.tm 36]] (.ops [w1 38 (.append 2 16 [(.int .i64 0), (.int .i64 0)]) [.tm 33, .tm 37]] (.ops [w0 (.store 1) [.tm 10, .tm 38]] .leaf))))
 (.ops [w1 37 (.buildSlice 2 1 [(.int .i64 0), (.int .i64 0)] [(0, 2)]) [.tm 36]] (.ops [⟨u1 33 (.append 2 16 [(.int .i64 0), (.int .i64 0)]) [.cn .nil, .tm 32], [.tm 0, .tm 34, .tm 5, .tm 35, .tm 34, .tm 35, .tm 36]⟩] (.ops [w1 38 (.append 2 16 [(.int .i64 0), (.int .i64 0)]) [.tm 33, .tm 37]] (.ops [w0 (.store 1) [.tm 10, .tm 38]] .leaf)))))))))))
 (.seq (.region [u1 39 (.mkfn (.func 46) 0) [.tm 10, .tm 5],
 u1 11 (.alloc [(.val .nilFunc)]) [],
 u0 (.store 1) [.tm 11, .tm 39]])
 (.seq (.region [u1 40 (.mkfn (.func 47) 0) [.tm 11],
 u1 12 .mov [.tm 40]])
 (.seq (.seq (.region [u1 41 .mov [.tm 12],
 u1 42 .callv [.tm 41, .cn (.int .i64 1000000000001)]])
 (.cond (.tm 42) (.seq (.region [u1 6 .mov [.cn (.int .i64 0)],
 u1 7 .mov [.cn (.bool false)],
 u1 8 .mov [.cn (.int .i64 7)]])
 .ret)
  .skip))
 (.seq (.region [u1 43 .mov [.tm 12],
 u1 44 (.call 49) [.cn (.int .i64 0), .cn (.int .i64 1000000000001), .tm 43],
 u1 6 .mov [.tm 44]])
 (.seq (.region [u1 45 .mov [.tm 6],
 u1 46 .mov [.tm 6],
 u1 47 (.cmp .gtr) [.tm 46, .cn (.int .i64 0)],
 u1 48 .mov [.tm 47],
 u2 49 48 true (.load false 1) [.tm 11],
 u2 50 48 true .mov [.tm 6],
 u2 51 48 true .callv [.tm 49, .tm 50],
 u2 52 48 true (.call 50) [.tm 51],
 u1 53 .and [.tm 48, .tm 52],
 u1 6 .mov [.tm 45],
 u1 7 .mov [.tm 53],
 u1 8 .mov [.cn (.int .i64 0)]])
 .ret))))))))) }
theorem v41_is : vfunc Try.prog Try.f41 = some v41 := by kernel_rfl
def v46 : VF := { ntmps := 17, res := [.tmp 4], body :=
 (.seq (.region [u1 4 .mov [.cn .nil]])
 (.seq (.draw [] [w1 5 (.load false 1) [.tm 1],
 w1 6 (.load false 1) [.tm 1],
 w1 7 .len [.tm 6],
 w1 8 (.load false 1) [.tm 1],
 w1 9 .len [.tm 8],
 w1 10 (.slice3 2) [.tm 5, .tm 7, .tm 9],
 w1 11 .mov [.tm 0],
 w1 12 (.load false 1) [.tm 2],
 w1 13 .neg [.tm 12],
 w1 14 (.build [(.int .i64 0), (.int .i64 0)] [(0, 1), (1, 1)]) [.tm 11, .tm 13],
 w1 15 (.buildSlice 2 1 [(.int .i64 0), (.int .i64 0)] [(0, 2)]) [.tm 14],
 w1 16 (.append 2 16 [(.int .i64 0), (.int .i64 0)]) [.tm 10, .tm 15],
 w1 4 .mov [.tm 16]])
 .ret)) }
theorem v46_is : vfunc Try.prog Try.f46 = some v46 := by kernel_rfl
def v47 : VF := { ntmps := 13, res := [.tmp 3], body :=
 (.seq (.region [u1 3 .mov [.cn (.bool false)]])
 (.seq (.region [u1 4 .mov [.tm 0],
 u1 5 (.cmp .eql) [.tm 4, .cn (.int .i64 0)],
 u1 6 .mov [.tm 5],
 u2 7 6 false (.load false 1) [.tm 1],
 u2 8 6 false .mov [.tm 0],
 u2 9 6 false .callv [.tm 7, .tm 8],
 u2 10 6 false (.call 48) [.tm 9],
 u2 11 6 false (.cmp .geq) [.tm 10, .cn (.int .i64 0)],
 u1 12 .or [.tm 6, .tm 11],
 u1 3 .mov [.tm 12]])
 .ret)) }
theorem v47_is : vfunc Try.prog Try.f47 = some v47 := by kernel_rfl
def v49 : VF := { ntmps := 24, res := [.tmp 6], body :=
 (.seq (.region [u1 6 .mov [.cn (.int .i64 0)]])
 (.seq (.block 0 (.loop (.seq (.seq (.region [u1 8 .mov [.tm 1],
 u1 9 .mov [.tm 0],
 u1 10 (.ari .sub) [.tm 8, .tm 9],
 u1 11 (.cmp .gtr) [.tm 10, .cn (.int .i64 1)]])
 (.cond (.tm 11) .skip
  (.exit 0)))
 (.block 1 (.seq (.region [u1 12 .mov [.tm 0],
 u1 13 .mov [.tm 1],
 u1 14 .mov [.tm 0],
 u1 15 (.ari .sub) [.tm 13, .tm 14],
 u1 16 .quo [.tm 15, .cn (.int .i64 2)],
 u1 17 (.ari .add) [.tm 12, .tm 16],
 u1 7 .mov [.tm 17]])
 (.seq (.region [u1 18 .mov [.tm 2],
 u1 19 .mov [.tm 7],
 u1 20 .callv [.tm 18, .tm 19]])
 (.cond (.tm 20) (.region [u1 21 .mov [.tm 7],
 u1 0 .mov [.tm 21]])
  (.region [u1 22 .mov [.tm 7],
 u1 1 .mov [.tm 22]]))))))))
 (.seq (.region [u1 23 .mov [.tm 0],
 u1 6 .mov [.tm 23]])
 .ret))) }
theorem v49_is : vfunc Try.prog Try.f49 = some v49 := by kernel_rfl


/-- The greatest number for which something holds, by halves. -/
def bisL : Nat → (Int → Bool) → Int → Int → Int
  | 0, _, a, _ => a
  | f + 1, t, a, b => if 1 < b - a then (if t (a + (b - a) / 2) = true then bisL f t (a + (b - a) / 2) b else bisL f t a (a + (b - a) / 2)) else a
def atF (all : List (Int × Int)) (den k : Int) : List (Int × Int) := all ++ [(k, -den)]
def isF (all : List (Int × Int)) (den k : Int) : Bool := decide (k = 0) || decide (0 ≤ signF (atF all den k))
def prodF (s : Int) (l : List (Int × Int)) (den : Int) : Int × Bool × Int :=
  if isF (l ++ [(s, den)]) den 1000000000001 = true then (0, false, 7)
  else (bisL 64 (isF (l ++ [(s, den)]) den) 0 1000000000001, decide (0 < bisL 64 (isF (l ++ [(s, den)]) den) 0 1000000000001) && oneF (atF (l ++ [(s, den)]) den (bisL 64 (isF (l ++ [(s, den)]) den) 0 1000000000001)), 0)
def prodC : Ctr := { alias := false, of := fun l => match l with
  | [.int .i64 s, .vs _ _ n sz get, .int .i64 den] => .ex (List (Int × Int)) fun l => .pre (lsP 2 enc2 n sz get l ∧ (∀ x, x ∈ l → okT0 x = false) ∧ n ≤ 16 ∧ 1 ≤ n ∧ (1 ≤ s ∧ s ≤ 1000000000000) ∧ 1 ≤ den ∧ den ≤ 1000000) (.fin (.tup [.int .i64 (prodF s l den).1, .bool (prodF s l den).2.1, .int .i64 (prodF s l den).2.2]) [])
  | _ => noC }
theorem at_get {l : List (Int × Int)} {s den kk : Int} {hp : List HO} {r : List SV → List SV} {i k : Nat} (hk : k < l.length + 1 + 1) :
    leXL (viewL false hp r (if k < l.length + 1 then if k < l.length then [SV.int IntKind.i64 (l.getD k default).fst, SV.int IntKind.i64 (l.getD k default).snd] else purgeL i (takeL 2 (dropL ((k - l.length) * 2) [SV.int IntKind.i64 s, SV.int IntKind.i64 den])) else takeL 2 (dropL ((k - (l.length + 1)) * 2) [SV.int IntKind.i64 kk, SV.int IntKind.i64 (-den)]))) (enc2 ((atF (l ++ [(s, den)]) den kk).getD k default)) := by
  unfold atF
  rw [List.append_assoc]
  by_cases h1 : k < l.length
  · rw [if_pos (by omega), if_pos h1, List.getD_eq_getElem?_getD (l := _ ++ _), List.getElem?_append_left h1, ← List.getD_eq_getElem?_getD]
    exact leXL_self _
  · rw [List.getD_eq_getElem?_getD (l := _ ++ _), List.getElem?_append_right (by omega), if_neg h1]
    by_cases h2 : k < l.length + 1
    · rw [if_pos h2, show k - l.length = 0 by omega]
      exact leXL_self _
    · rw [if_neg h2, show k - (l.length + 1) = 0 by omega, show k - l.length = 1 by omega]
      exact leXL_self _
theorem self1 {l : List (Int × Int)} {s den : Int} {i k a b : Nat} (hk : k < l.length + 1) : leL a b (if k < l.length then [SV.int IntKind.i64 (l.getD k default).fst, SV.int IntKind.i64 (l.getD k default).snd] else purgeL i (takeL 2 (dropL ((k - l.length) * 2) [SV.int IntKind.i64 s, SV.int IntKind.i64 den]))) (if k < l.length then [SV.int IntKind.i64 (l.getD k default).fst, SV.int IntKind.i64 (l.getD k default).snd] else purgeL i (takeL 2 (dropL ((k - l.length) * 2) [SV.int IntKind.i64 s, SV.int IntKind.i64 den]))) := by
  by_cases h1 : k < l.length
  · rw [if_pos h1]; exact ⟨⟨rfl, rfl⟩, ⟨rfl, rfl⟩, trivial⟩
  · rw [if_neg h1, show k - l.length = 0 by omega]; exact ⟨⟨rfl, rfl⟩, ⟨rfl, rfl⟩, trivial⟩
theorem self2 {s den : Int} {i k a b : Nat} (hk : k < 1) : leL a b (purgeL i (takeL 2 (dropL (k * 2) [SV.int IntKind.i64 s, SV.int IntKind.i64 den]))) (purgeL i (takeL 2 (dropL (k * 2) [SV.int IntKind.i64 s, SV.int IntKind.i64 den]))) := by
  obtain rfl : k = 0 := by omega
  exact ⟨⟨rfl, rfl⟩, ⟨rfl, rfl⟩, trivial⟩
theorem self3 {l : List (Int × Int)} {s den kk dd : Int} {i k a b : Nat} (hk : k < l.length + 1 + 1) : leL a b (if k < l.length + 1 then if k < l.length then [SV.int IntKind.i64 (l.getD k default).fst, SV.int IntKind.i64 (l.getD k default).snd] else purgeL i (takeL 2 (dropL ((k - l.length) * 2) [SV.int IntKind.i64 s, SV.int IntKind.i64 den])) else takeL 2 (dropL ((k - (l.length + 1)) * 2) [SV.int IntKind.i64 kk, SV.int IntKind.i64 dd])) (if k < l.length + 1 then if k < l.length then [SV.int IntKind.i64 (l.getD k default).fst, SV.int IntKind.i64 (l.getD k default).snd] else purgeL i (takeL 2 (dropL ((k - l.length) * 2) [SV.int IntKind.i64 s, SV.int IntKind.i64 den])) else takeL 2 (dropL ((k - (l.length + 1)) * 2) [SV.int IntKind.i64 kk, SV.int IntKind.i64 dd])) := by
  by_cases h1 : k < l.length + 1
  · rw [if_pos h1]; exact self1 h1
  · rw [if_neg h1, show k - (l.length + 1) = 0 by omega]; exact ⟨⟨rfl, rfl⟩, ⟨rfl, rfl⟩, trivial⟩
theorem at_ls {l : List (Int × Int)} {s den kk : Int} {hp : List HO} {r : List SV → List SV} {i : Nat} :
    lsP 2 enc2 (l.length + 1 + 1) 2 (fun k => viewL false hp r (if k < l.length + 1 then if k < l.length then [SV.int IntKind.i64 (l.getD k default).fst, SV.int IntKind.i64 (l.getD k default).snd] else purgeL i (takeL 2 (dropL ((k - l.length) * 2) [SV.int IntKind.i64 s, SV.int IntKind.i64 den])) else takeL 2 (dropL ((k - (l.length + 1)) * 2) [SV.int IntKind.i64 kk, SV.int IntKind.i64 (-den)]))) (atF (l ++ [(s, den)]) den kk) :=
  ⟨rfl, by simp [atF], fun k hk => at_get hk⟩
theorem at_ok {l : List (Int × Int)} {s den kk : Int} (hl : ∀ x, x ∈ l → okT0 x = false) (hs : 1 ≤ s ∧ s ≤ 1000000000000) (hd : 1 ≤ den ∧ den ≤ 1000000) (hk : 1 ≤ kk ∧ kk ≤ 1000000000001) : ∀ x, x ∈ atF (l ++ [(s, den)]) den kk → okT x := by
  intro x hx
  unfold atF at hx
  rw [List.mem_append, List.mem_append, List.mem_singleton, List.mem_singleton] at hx
  rcases hx with (hx | rfl) | rfl
  · have := hl x hx
    unfold okT0 at this
    simp only [Bool.or_eq_false_iff, decide_eq_false_iff_not] at this
    unfold okT
    omega
  · simp only [okT]; omega
  · simp only [okT]; omega
theorem at_len {l : List (Int × Int)} {s den : Int} {i k : Nat} (hk : k < l.length + 1) : lenL (if k < l.length then [SV.int IntKind.i64 (l.getD k default).fst, SV.int IntKind.i64 (l.getD k default).snd] else purgeL i (takeL 2 (dropL ((k - l.length) * 2) [SV.int IntKind.i64 s, SV.int IntKind.i64 den]))) = 2 ∧ ones (if k < l.length then [SV.int IntKind.i64 (l.getD k default).fst, SV.int IntKind.i64 (l.getD k default).snd] else purgeL i (takeL 2 (dropL ((k - l.length) * 2) [SV.int IntKind.i64 s, SV.int IntKind.i64 den]))) := by
  by_cases h1 : k < l.length
  · rw [if_pos h1]; exact ⟨rfl, trivial, trivial, trivial⟩
  · rw [if_neg h1, show k - l.length = 0 by omega]; exact ⟨rfl, trivial, trivial, trivial⟩
theorem one_len {a b : Int} {k : Nat} (hk : k < 1) : lenL (takeL 2 (dropL (k * 2) [SV.int IntKind.i64 a, SV.int IntKind.i64 b])) = 2 ∧ ones (takeL 2 (dropL (k * 2) [SV.int IntKind.i64 a, SV.int IntKind.i64 b])) := by
  obtain rfl : k = 0 := by omega
  exact ⟨rfl, trivial, trivial, trivial⟩
def RB2 : Env := { ct := fun n => match n with | 45 => some chkTC | 48 => some signC | 50 => some oneC | _ => none, fn := fun n => match n with | 46 => some v46 | 47 => some v47 | 49 => some v49 | _ => none, meth := fun _ _ => none }
theorem RB2_ct45 : RB2.ct 45 = some chkTC := rfl
theorem RB2_ct48 : RB2.ct 48 = some signC := rfl
theorem RB2_ct50 : RB2.ct 50 = some oneC := rfl
theorem RB2_ct46 : RB2.ct 46 = none := rfl
theorem RB2_fn46 : RB2.fn 46 = some v46 := rfl
theorem RB2_ct47 : RB2.ct 47 = none := rfl
theorem RB2_fn47 : RB2.fn 47 = some v47 := rfl
theorem RB2_ct49 : RB2.ct 49 = none := rfl
theorem RB2_fn49 : RB2.fn 49 = some v49 := rfl
theorem RB2_ok : EnvOk Try.prog RB2 := by
  refine ⟨fun f c h => ?_, fun f vf h => ?_, (fun _ _ _ h => by cases h), by kernel_rfl, (fun _ h => by cases h)⟩
  · simp only [RB2] at h
    split at h
    · cases h; exact ⟨chkT_c, Try.f45, Try.func45, by kernel_rfl, by kernel_rfl⟩
    · cases h; exact ⟨sign_c, Try.f48, Try.func48, by kernel_rfl, by kernel_rfl⟩
    · cases h; exact ⟨one_c, Try.f50, Try.func50, by kernel_rfl, by kernel_rfl⟩
    · cases h
  · simp only [RB2] at h
    split at h
    · cases h; exact ⟨Try.f46, Try.func46, v46_is, Try.f46, Try.func46, by kernel_rfl, by kernel_rfl⟩
    · cases h; exact ⟨Try.f47, Try.func47, v47_is, Try.f47, Try.func47, by kernel_rfl, by kernel_rfl⟩
    · cases h; exact ⟨Try.f49, Try.func49, v49_is, Try.f49, Try.func49, by kernel_rfl, by kernel_rfl⟩
    · cases h

theorem ans_pw {k : SV → List HO → Prop} {al : Bool} {hp : List HO} {κ κ' : IntKind} {x e : Int} {b : Bool} (h : k (.tup [.int κ x, .bool b, .int κ' e]) []) : answers al k (.tup [.int κ x, .bool b, .int κ' e]) hp :=
  ans_le (show k _ [] from h) (le_self (.tup [.int κ x, .bool b, .int κ' e]) ⟨trivial, trivial, trivial, trivial⟩) (fun _ => by simp [freshS, freshL])
theorem prod_c : prodC.ok Try.prog 41 := by
  refine contract Try.func41 v41_is RB2_ok 800 prodC fun args k h => ?_
  simp only [prodC] at h
  split at h
  · rename_i s tt z n sz get den
    obtain ⟨l, ⟨⟨rfl, rfl, hg⟩, hl, hn, hn1, hs, hd⟩, h⟩ := h
    refine ⟨[.int .i64 s, .vs tt z l.length 2 (fun k => enc2 (l.getD k default)), .int .i64 den], ⟨⟨rfl, rfl⟩, ⟨id, rfl, rfl, rfl, hg⟩, ⟨rfl, rfl⟩, trivial⟩, ?_⟩
    dsimp only [v41, RB2_ct45, chkTC, enc2, go_sem, Option.bind, Option.map, List.append_nil, Nat.beq, List.cons_append, List.nil_append, List.append_eq, List.map_cons, List.map_nil, ite_self, reduceIte]
    simp only [true_and, and_true, imp_self, implies_true, decide_eq_true_eq, decide_eq_false_iff_not, Nat.reduceAdd, Nat.reduceLeDiff, Bool.not_not, reduceCtorEq, false_imp_iff, Bool.not_eq_true', Bool.not_eq_false', Bool.false_eq_true, and_self, forall_const, ne_eq, not_false_eq_true, Nat.reduceEqDiff]
    have hnd : IntKind.i64.wrap (0 - den) = -den := by rw [IntWalk.i64_in _ (by omega)]; omega
    have hchk : chkTF l = 0 := by
      have : l.any okT0 = false := by rw [List.any_eq_false]; exact fun x hx => by rw [hl x hx]; decide
      rw [chkTF, if_neg (by omega), if_neg (by rw [this]; decide)]
    refine ⟨l, ⟨⟨rfl, rfl, fun k _ => leXL_self _⟩, by omega⟩, fun hh => absurd hchk hh, fun _ => ⟨fun hh => ?_, fun _ => ⟨⟨by unfold capOk; omega, by decide, ⟨by unfold capOk; omega, fun k hk => ?_⟩, ?_⟩, by decide, by unfold capOk; omega, ⟨by unfold capOk; omega, fun k hk => ?_⟩, ?_⟩⟩⟩
    · rw [decide_eq_false (by omega : ¬ den < 1), decide_eq_false (by omega : ¬ 1000000 < den), decide_eq_false (by omega : ¬ s < 1), decide_eq_false (by omega : ¬ 1000000000000 < s)] at hh
      cases hh
    · exact one_len hk
    · dsimp only [RB2_ct47, RB2_fn47, v47, RB2_ct46, RB2_fn46, v46, RB2_ct48, signC, go_sem, Option.bind, Option.map, List.append_nil, Nat.beq, List.cons_append, List.nil_append, List.append_eq, List.map_cons, List.map_nil, ite_self, reduceIte]
      simp only [true_and, and_true, imp_self, implies_true, decide_eq_true_eq, decide_eq_false_iff_not, Nat.reduceAdd, Nat.reduceLeDiff, Bool.not_not, reduceCtorEq, false_imp_iff, Bool.not_eq_true', Bool.not_eq_false', Bool.false_eq_true, and_self, forall_const, ne_eq, not_false_eq_true, Nat.reduceEqDiff]
      rw [hnd]
      simp only [Int.toNat_natCast]
      have hK : (1 : Int) ≤ 1000000000001 ∧ (1000000000001 : Int) ≤ 1000000000001 := by decide
      refine ⟨fun _ => ⟨⟨by omega, by omega⟩, by decide, ⟨by decide, by unfold capOk; omega, fun k hk => at_len hk, fun k hk => one_len hk⟩, atF (l ++ [(s, den)]) den 1000000000001, fun _ => ⟨at_ls, at_ok hl hs ⟨hd.1, hd.2⟩ hK, by omega⟩, fun hc => ?_, fun hc => ?_⟩, fun hh => absurd hh (by decide)⟩
      · have hc : isF (l ++ [(s, den)]) den 1000000000001 = true := hc
        rw [prodF, if_pos hc] at h
        exact ans_pw h
      · have hc : isF (l ++ [(s, den)]) den 1000000000001 = false := hc
        rw [prodF, if_neg (by rw [hc]; decide)] at h
        dsimp only [RB2_ct49, RB2_fn49, v49, go_sem, Option.bind, Option.map, List.append_nil, Nat.beq, List.cons_append, List.nil_append, List.append_eq, List.map_cons, List.map_nil, ite_self, reduceIte]
        simp only [true_and, and_true, imp_self, implies_true, decide_eq_true_eq, decide_eq_false_iff_not, Nat.reduceAdd, Nat.reduceLeDiff, Bool.not_not, reduceCtorEq, false_imp_iff, Bool.not_eq_true', Bool.not_eq_false', Bool.false_eq_true, and_self, forall_const, ne_eq, not_false_eq_true, Nat.reduceEqDiff]
        obtain ⟨t, ht⟩ : ∃ t, t = isF (l ++ [(s, den)]) den := ⟨_, rfl⟩
        obtain ⟨R, hR⟩ : ∃ R, R = bisL 64 t 0 1000000000001 := ⟨_, rfl⟩
        rw [← ht, ← hR] at h
        refine Loop.keep [2] (Nat × Int × Int) (fun s => [(0, .int .i64 s.2.1), (1, .int .i64 s.2.2)]) (fun _ => []) [] (fun s => R = bisL s.1 t s.2.1 s.2.2 ∧ 0 ≤ s.2.1 ∧ s.2.1 < s.2.2 ∧ s.2.2 ≤ 1000000000001 ∧ s.2.2 - s.2.1 ≤ 2 ^ s.1) (fun s => s.1) ?_ ?_
        · refine ⟨(64, 0, 1000000000001), ⟨hR, by decide, by decide, by decide, by decide⟩, ?_⟩
          dsimp only [go_sem, Option.bind, Option.map, List.append_nil, Nat.beq, List.cons_append, List.nil_append, List.append_eq, List.map_cons, List.map_nil, ite_self, reduceIte]
          simp only [leS_mk, leL_cons, leL_nil, le_junk, le_int, le_bool, le_nil, leLL_nil, leLL_cons, leH_cons, leH_nil, leH1_box, leH1_own, leH1_gone, le_vs, le_agg, le_tup, le_ptr, le_own, le_xp, le_fn, le_opt, le_val, le_elem, le_nil_own, le_nil_vs, leH_ghost, leL_chunk, leXL_id, bnd_int, bnd_bool, bnd_val, bnd_nil, bnd_junk, bnd_vs, bnd_xp, bnd_agg, bnd_tup, bnd_ptr, bnd_own, bnd_elem, bnd_fn, bnd_iface, bnd_opt, bnd_row, bnd_rcell, bnd_imap, bnd_smp, le_row, le_rcell, le_imap, le_smp, leH1_smap, bndL_nil, bndL_cons, lenH_cons, lenH_nil, imp_self, implies_true, true_and, and_true]
          repeat' apply And.intro
          all_goals first | decide | (intro k hk; first | exact self1 hk | exact self2 hk | exact self3 hk)
        · rintro ⟨f, lo, hi⟩ ⟨hf, b0, b1, b2, b3⟩
          dsimp only at hf b0 b1 b2 b3
          dsimp only [RB2_ct47, RB2_fn47, v47, RB2_ct46, RB2_fn46, v46, RB2_ct48, RB2_ct50, signC, oneC, go_sem, Option.bind, Option.map, List.append_nil, Nat.beq, List.cons_append, List.nil_append, List.append_eq, List.map_cons, List.map_nil, ite_self, reduceIte]
          simp only [true_and, and_true, imp_self, implies_true, decide_eq_true_eq, decide_eq_false_iff_not, Nat.reduceAdd, Nat.reduceLeDiff, Bool.not_not, reduceCtorEq, false_imp_iff, Bool.not_eq_true', Bool.not_eq_false', Bool.false_eq_true, and_self, forall_const, ne_eq, not_false_eq_true, Nat.reduceEqDiff]
          rw [hnd]
          simp only [Int.toNat_natCast]
          have ed : IntKind.i64.wrap (hi - lo) = hi - lo := IntWalk.i64_in _ (by omega)
          have e2 : IntKind.i64.wrap ((hi - lo).tdiv 2) = (hi - lo) / 2 := by
            rw [Int.tdiv_eq_ediv_of_nonneg (by omega), IntWalk.i64_in _ (by omega)]
          have e3 : IntKind.i64.wrap (lo + (hi - lo) / 2) = lo + (hi - lo) / 2 := IntWalk.i64_in _ (by omega)
          rw [ed, e2, e3]
          refine ⟨fun hc1 => ?_, fun hc1 => ?_⟩
          · obtain ⟨m, hm⟩ : ∃ m, m = lo + (hi - lo) / 2 := ⟨_, rfl⟩
            rw [← hm]
            obtain ⟨g, rfl⟩ : ∃ g, f = g + 1 := by
              cases f with
              | zero => simp at b3; omega
              | succ g => exact ⟨g, rfl⟩
            rw [bisL, if_pos hc1, ← hm] at hf
            have b4 : hi - lo ≤ 2 ^ g * 2 := by rw [← Int.pow_succ]; exact b3
            have hm0 : ¬ m = 0 := by omega
            refine ⟨by decide, fun _ => ⟨⟨by omega, by omega⟩, by decide, ⟨by decide, by unfold capOk; omega, fun k hk => at_len hk, fun k hk => one_len hk⟩, atF (l ++ [(s, den)]) den m, fun _ => ⟨at_ls, at_ok hl hs ⟨hd.1, hd.2⟩ (by omega), by omega⟩, fun hd1 => ?_, fun hd1 => ?_⟩, fun hh => absurd hh hm0⟩
            · have hd1 : t m = true := by rw [ht]; exact hd1
              rw [if_pos hd1] at hf
              refine ⟨(g, m, hi), ⟨hf, by simp only; omega, by simp only; omega, b2, by simp only; omega⟩, by simp only; omega, ?_⟩
              simp only [leS_mk, leL_cons, leL_nil, le_junk, le_int, le_bool, le_nil, leLL_nil, leLL_cons, leH_cons, leH_nil, leH1_box, leH1_own, leH1_gone, le_vs, le_agg, le_tup, le_ptr, le_own, le_xp, le_fn, le_opt, le_val, le_elem, le_nil_own, le_nil_vs, leH_ghost, leL_chunk, leXL_id, bnd_int, bnd_bool, bnd_val, bnd_nil, bnd_junk, bnd_vs, bnd_xp, bnd_agg, bnd_tup, bnd_ptr, bnd_own, bnd_elem, bnd_fn, bnd_iface, bnd_opt, bnd_row, bnd_rcell, bnd_imap, bnd_smp, le_row, le_rcell, le_imap, le_smp, leH1_smap, bndL_nil, bndL_cons, lenH_cons, lenH_nil, imp_self, implies_true, true_and, and_true]
              repeat' apply And.intro
              all_goals first | decide | (intro k hk; first | exact self1 hk | exact self2 hk | exact self3 hk)
            · have hd1 : t m = false := by rw [ht]; exact hd1
              rw [if_neg (by rw [hd1]; decide)] at hf
              refine ⟨(g, lo, m), ⟨hf, by simp only; omega, by simp only; omega, by simp only; omega, by simp only; omega⟩, by simp only; omega, ?_⟩
              simp only [leS_mk, leL_cons, leL_nil, le_junk, le_int, le_bool, le_nil, leLL_nil, leLL_cons, leH_cons, leH_nil, leH1_box, leH1_own, leH1_gone, le_vs, le_agg, le_tup, le_ptr, le_own, le_xp, le_fn, le_opt, le_val, le_elem, le_nil_own, le_nil_vs, leH_ghost, leL_chunk, leXL_id, bnd_int, bnd_bool, bnd_val, bnd_nil, bnd_junk, bnd_vs, bnd_xp, bnd_agg, bnd_tup, bnd_ptr, bnd_own, bnd_elem, bnd_fn, bnd_iface, bnd_opt, bnd_row, bnd_rcell, bnd_imap, bnd_smp, le_row, le_rcell, le_imap, le_smp, leH1_smap, bndL_nil, bndL_cons, lenH_cons, lenH_nil, imp_self, implies_true, true_and, and_true]
              repeat' apply And.intro
              all_goals first | decide | (intro k hk; first | exact self1 hk | exact self2 hk | exact self3 hk)
          · have hRlo : R = lo := by
              cases f with
              | zero => exact hf
              | succ g => rw [hf, bisL, if_neg hc1]
            subst hRlo
            refine ⟨fun hp => ⟨⟨by omega, by omega⟩, by decide, ⟨by decide, by unfold capOk; omega, fun k hk => at_len hk, fun k hk => one_len hk⟩, atF (l ++ [(s, den)]) den R, fun _ => ⟨at_ls, at_ok hl hs ⟨hd.1, hd.2⟩ (by omega), by omega⟩, ans_pw h⟩, fun hp => ⟨fun hh => absurd hh hp, ?_⟩⟩
            rw [decide_eq_false hp, Bool.false_and] at h ⊢
            exact ans_pw h
    · exact one_len hk
    · dsimp only [RB2_ct47, RB2_fn47, v47, RB2_ct46, RB2_fn46, v46, RB2_ct48, signC, go_sem, Option.bind, Option.map, List.append_nil, Nat.beq, List.cons_append, List.nil_append, List.append_eq, List.map_cons, List.map_nil, ite_self, reduceIte]
      simp only [true_and, and_true, imp_self, implies_true, decide_eq_true_eq, decide_eq_false_iff_not, Nat.reduceAdd, Nat.reduceLeDiff, Bool.not_not, reduceCtorEq, false_imp_iff, Bool.not_eq_true', Bool.not_eq_false', Bool.false_eq_true, and_self, forall_const, ne_eq, not_false_eq_true, Nat.reduceEqDiff]
      rw [hnd]
      simp only [Int.toNat_natCast]
      have hK : (1 : Int) ≤ 1000000000001 ∧ (1000000000001 : Int) ≤ 1000000000001 := by decide
      refine ⟨fun _ => ⟨⟨by omega, by omega⟩, by decide, ⟨by decide, by unfold capOk; omega, fun k hk => at_len hk, fun k hk => one_len hk⟩, atF (l ++ [(s, den)]) den 1000000000001, fun _ => ⟨at_ls, at_ok hl hs ⟨hd.1, hd.2⟩ hK, by omega⟩, fun hc => ?_, fun hc => ?_⟩, fun hh => absurd hh (by decide)⟩
      · have hc : isF (l ++ [(s, den)]) den 1000000000001 = true := hc
        rw [prodF, if_pos hc] at h
        exact ans_pw h
      · have hc : isF (l ++ [(s, den)]) den 1000000000001 = false := hc
        rw [prodF, if_neg (by rw [hc]; decide)] at h
        dsimp only [RB2_ct49, RB2_fn49, v49, go_sem, Option.bind, Option.map, List.append_nil, Nat.beq, List.cons_append, List.nil_append, List.append_eq, List.map_cons, List.map_nil, ite_self, reduceIte]
        simp only [true_and, and_true, imp_self, implies_true, decide_eq_true_eq, decide_eq_false_iff_not, Nat.reduceAdd, Nat.reduceLeDiff, Bool.not_not, reduceCtorEq, false_imp_iff, Bool.not_eq_true', Bool.not_eq_false', Bool.false_eq_true, and_self, forall_const, ne_eq, not_false_eq_true, Nat.reduceEqDiff]
        obtain ⟨t, ht⟩ : ∃ t, t = isF (l ++ [(s, den)]) den := ⟨_, rfl⟩
        obtain ⟨R, hR⟩ : ∃ R, R = bisL 64 t 0 1000000000001 := ⟨_, rfl⟩
        rw [← ht, ← hR] at h
        refine Loop.keep [2] (Nat × Int × Int) (fun s => [(0, .int .i64 s.2.1), (1, .int .i64 s.2.2)]) (fun _ => []) [] (fun s => R = bisL s.1 t s.2.1 s.2.2 ∧ 0 ≤ s.2.1 ∧ s.2.1 < s.2.2 ∧ s.2.2 ≤ 1000000000001 ∧ s.2.2 - s.2.1 ≤ 2 ^ s.1) (fun s => s.1) ?_ ?_
        · refine ⟨(64, 0, 1000000000001), ⟨hR, by decide, by decide, by decide, by decide⟩, ?_⟩
          dsimp only [go_sem, Option.bind, Option.map, List.append_nil, Nat.beq, List.cons_append, List.nil_append, List.append_eq, List.map_cons, List.map_nil, ite_self, reduceIte]
          simp only [leS_mk, leL_cons, leL_nil, le_junk, le_int, le_bool, le_nil, leLL_nil, leLL_cons, leH_cons, leH_nil, leH1_box, leH1_own, leH1_gone, le_vs, le_agg, le_tup, le_ptr, le_own, le_xp, le_fn, le_opt, le_val, le_elem, le_nil_own, le_nil_vs, leH_ghost, leL_chunk, leXL_id, bnd_int, bnd_bool, bnd_val, bnd_nil, bnd_junk, bnd_vs, bnd_xp, bnd_agg, bnd_tup, bnd_ptr, bnd_own, bnd_elem, bnd_fn, bnd_iface, bnd_opt, bnd_row, bnd_rcell, bnd_imap, bnd_smp, le_row, le_rcell, le_imap, le_smp, leH1_smap, bndL_nil, bndL_cons, lenH_cons, lenH_nil, imp_self, implies_true, true_and, and_true]
          repeat' apply And.intro
          all_goals first | decide | (intro k hk; first | exact self1 hk | exact self2 hk | exact self3 hk)
        · rintro ⟨f, lo, hi⟩ ⟨hf, b0, b1, b2, b3⟩
          dsimp only at hf b0 b1 b2 b3
          dsimp only [RB2_ct47, RB2_fn47, v47, RB2_ct46, RB2_fn46, v46, RB2_ct48, RB2_ct50, signC, oneC, go_sem, Option.bind, Option.map, List.append_nil, Nat.beq, List.cons_append, List.nil_append, List.append_eq, List.map_cons, List.map_nil, ite_self, reduceIte]
          simp only [true_and, and_true, imp_self, implies_true, decide_eq_true_eq, decide_eq_false_iff_not, Nat.reduceAdd, Nat.reduceLeDiff, Bool.not_not, reduceCtorEq, false_imp_iff, Bool.not_eq_true', Bool.not_eq_false', Bool.false_eq_true, and_self, forall_const, ne_eq, not_false_eq_true, Nat.reduceEqDiff]
          rw [hnd]
          simp only [Int.toNat_natCast]
          have ed : IntKind.i64.wrap (hi - lo) = hi - lo := IntWalk.i64_in _ (by omega)
          have e2 : IntKind.i64.wrap ((hi - lo).tdiv 2) = (hi - lo) / 2 := by
            rw [Int.tdiv_eq_ediv_of_nonneg (by omega), IntWalk.i64_in _ (by omega)]
          have e3 : IntKind.i64.wrap (lo + (hi - lo) / 2) = lo + (hi - lo) / 2 := IntWalk.i64_in _ (by omega)
          rw [ed, e2, e3]
          refine ⟨fun hc1 => ?_, fun hc1 => ?_⟩
          · obtain ⟨m, hm⟩ : ∃ m, m = lo + (hi - lo) / 2 := ⟨_, rfl⟩
            rw [← hm]
            obtain ⟨g, rfl⟩ : ∃ g, f = g + 1 := by
              cases f with
              | zero => simp at b3; omega
              | succ g => exact ⟨g, rfl⟩
            rw [bisL, if_pos hc1, ← hm] at hf
            have b4 : hi - lo ≤ 2 ^ g * 2 := by rw [← Int.pow_succ]; exact b3
            have hm0 : ¬ m = 0 := by omega
            refine ⟨by decide, fun _ => ⟨⟨by omega, by omega⟩, by decide, ⟨by decide, by unfold capOk; omega, fun k hk => at_len hk, fun k hk => one_len hk⟩, atF (l ++ [(s, den)]) den m, fun _ => ⟨at_ls, at_ok hl hs ⟨hd.1, hd.2⟩ (by omega), by omega⟩, fun hd1 => ?_, fun hd1 => ?_⟩, fun hh => absurd hh hm0⟩
            · have hd1 : t m = true := by rw [ht]; exact hd1
              rw [if_pos hd1] at hf
              refine ⟨(g, m, hi), ⟨hf, by simp only; omega, by simp only; omega, b2, by simp only; omega⟩, by simp only; omega, ?_⟩
              simp only [leS_mk, leL_cons, leL_nil, le_junk, le_int, le_bool, le_nil, leLL_nil, leLL_cons, leH_cons, leH_nil, leH1_box, leH1_own, leH1_gone, le_vs, le_agg, le_tup, le_ptr, le_own, le_xp, le_fn, le_opt, le_val, le_elem, le_nil_own, le_nil_vs, leH_ghost, leL_chunk, leXL_id, bnd_int, bnd_bool, bnd_val, bnd_nil, bnd_junk, bnd_vs, bnd_xp, bnd_agg, bnd_tup, bnd_ptr, bnd_own, bnd_elem, bnd_fn, bnd_iface, bnd_opt, bnd_row, bnd_rcell, bnd_imap, bnd_smp, le_row, le_rcell, le_imap, le_smp, leH1_smap, bndL_nil, bndL_cons, lenH_cons, lenH_nil, imp_self, implies_true, true_and, and_true]
              repeat' apply And.intro
              all_goals first | decide | (intro k hk; first | exact self1 hk | exact self2 hk | exact self3 hk)
            · have hd1 : t m = false := by rw [ht]; exact hd1
              rw [if_neg (by rw [hd1]; decide)] at hf
              refine ⟨(g, lo, m), ⟨hf, by simp only; omega, by simp only; omega, by simp only; omega, by simp only; omega⟩, by simp only; omega, ?_⟩
              simp only [leS_mk, leL_cons, leL_nil, le_junk, le_int, le_bool, le_nil, leLL_nil, leLL_cons, leH_cons, leH_nil, leH1_box, leH1_own, leH1_gone, le_vs, le_agg, le_tup, le_ptr, le_own, le_xp, le_fn, le_opt, le_val, le_elem, le_nil_own, le_nil_vs, leH_ghost, leL_chunk, leXL_id, bnd_int, bnd_bool, bnd_val, bnd_nil, bnd_junk, bnd_vs, bnd_xp, bnd_agg, bnd_tup, bnd_ptr, bnd_own, bnd_elem, bnd_fn, bnd_iface, bnd_opt, bnd_row, bnd_rcell, bnd_imap, bnd_smp, le_row, le_rcell, le_imap, le_smp, leH1_smap, bndL_nil, bndL_cons, lenH_cons, lenH_nil, imp_self, implies_true, true_and, and_true]
              repeat' apply And.intro
              all_goals first | decide | (intro k hk; first | exact self1 hk | exact self2 hk | exact self3 hk)
          · have hRlo : R = lo := by
              cases f with
              | zero => exact hf
              | succ g => rw [hf, bisL, if_neg hc1]
            subst hRlo
            refine ⟨fun hp => ⟨⟨by omega, by omega⟩, by decide, ⟨by decide, by unfold capOk; omega, fun k hk => at_len hk, fun k hk => one_len hk⟩, atF (l ++ [(s, den)]) den R, fun _ => ⟨at_ls, at_ok hl hs ⟨hd.1, hd.2⟩ (by omega), by omega⟩, ans_pw h⟩, fun hp => ⟨fun hh => absurd hh hp, ?_⟩⟩
            rw [decide_eq_false hp, Bool.false_and] at h ⊢
            exact ans_pw h
  · exact h.1.elim
end Go.Proofs.Ytijadllhfgajlaa

/- Pitches of the program, walked: span, Speed. -/
/- Pitches of the program, walked: span, Speed. -/
set_option linter.all false
namespace Go.Proofs.Ytijadllhfgajlaa
open Go Go.Vx
set_option maxRecDepth 100000
set_option maxHeartbeats 4000000

def v30 : VF := { ntmps := 9, res := [.tmp 2], body :=
 (.seq (.region [u1 2 .mov [.cn (.bool false)]])
 (.seq (.region [u1 3 .mov [.tm 0],
 u1 4 (.cmp .geq) [.tm 3, .cn (.int .i64 (-20000))],
 u1 5 .mov [.tm 4],
 u2 6 5 true .mov [.tm 0],
 u2 7 5 true (.cmp .leq) [.tm 6, .cn (.int .i64 50000)],
 u1 8 .and [.tm 5, .tm 7],
 u1 2 .mov [.tm 8]])
 .ret)) }
theorem v30_is : vfunc Try.prog Try.f30 = some v30 := by kernel_rfl
def v32 : VF := { ntmps := 9, res := [.cell 4 true 2], body :=
 (.seq (.region [u1 4 (.alloc [(.int .i64 0), (.int .i64 0)]) []])
 (.seq (.region [u1 5 .mov [.tm 0],
 u1 6 (.ari .add) [.cn (.int .i64 273150), .tm 5],
 u1 7 .mov [.tm 1],
 u1 8 (.build [(.int .i64 0), (.int .i64 0)] [(0, 1), (1, 1)]) [.tm 6, .tm 7],
 u0 (.store 2) [.tm 4, .tm 8]])
 .ret)) }
theorem v32_is : vfunc Try.prog Try.f32 = some v32 := by kernel_rfl
def v31 : VF := { ntmps := 26, res := [.cell 6 true 2], body :=
 (.seq (.region [u1 6 (.alloc [(.int .i64 0), (.int .i64 0)]) []])
 (.seq (.region [u1 11 .mov [.tm 0],
 u1 12 .mov [.tm 2],
 u1 13 .mov [.tm 1],
 u1 14 (.call 41) [.tm 11, .tm 12, .tm 13],
 u1 10 .mov [.tm 14],
 u1 15 (.ext 0) [.tm 10],
 u1 16 (.ext 1) [.tm 10],
 u1 17 (.ext 2) [.tm 10],
 u1 7 .mov [.tm 15],
 u1 8 .mov [.tm 16],
 u1 9 .mov [.tm 17]])
 (.seq (.seq (.region [u1 18 .mov [.tm 8]])
 (.cond (.tm 18) (.seq (.region [u1 19 .mov [.tm 7],
 u1 20 .mov [.tm 7],
 u1 21 (.build [(.int .i64 0), (.int .i64 0)] [(0, 1), (1, 1)]) [.tm 19, .tm 20],
 u0 (.store 2) [.tm 6, .tm 21]])
 .ret)
  .skip))
 (.seq (.region [u1 22 .mov [.tm 7],
 u1 23 .mov [.tm 7],
 u1 24 (.ari .add) [.tm 23, .cn (.int .i64 1)],
 u1 25 (.build [(.int .i64 0), (.int .i64 0)] [(0, 1), (1, 1)]) [.tm 22, .tm 24],
 u0 (.store 2) [.tm 6, .tm 25]])
 .ret)))) }
theorem v31_is : vfunc Try.prog Try.f31 = some v31 := by kernel_rfl
def v21 : VF := { ntmps := 13, res := [.cell 2 true 2, .tmp 3], body :=
 (.seq (.region [u1 2 (.alloc [(.int .i64 0), (.int .i64 0)]) [],
 u1 3 .mov [.cn (.int .i64 0)]])
 (.seq (.seq (.region [u1 4 .mov [.tm 0],
 u1 5 (.call 30) [.tm 4],
 u1 6 .not [.tm 5]])
 (.cond (.tm 6) (.seq (.region [u1 7 (.build [(.int .i64 0), (.int .i64 0)] []) [],
 u0 (.store 2) [.tm 2, .tm 7],
 u1 3 .mov [.cn (.int .i64 2)]])
 .ret)
  .skip))
 (.seq (.region [u1 8 .mov [.tm 0],
 u1 9 (.call 32) [.tm 8, .cn (.int .i64 1)],
 u1 10 (.call 32) [.cn (.int .i64 0), .cn (.int .i64 (-1))],
 u1 11 (.buildSlice 2 2 [(.int .i64 0), (.int .i64 0)] [(0, 2), (2, 2)]) [.tm 9, .tm 10],
 u1 12 (.call 31) [.cn (.int .i64 331300000), .cn (.int .i64 2), .tm 11],
 u0 (.store 2) [.tm 2, .tm 12],
 u1 3 .mov [.cn (.int .i64 0)]])
 .ret))) }
theorem v21_is : vfunc Try.prog Try.f21 = some v21 := by kernel_rfl


def pspF (s : Int) (l : List (Int × Int)) (den : Int) : Int × Int := if (prodF s l den).2.1 = true then ((prodF s l den).1, (prodF s l den).1) else ((prodF s l den).1, IntKind.i64.wrap ((prodF s l den).1 + 1))
def pspC : Ctr := { alias := false, of := fun l => match l with
  | [.int .i64 s, .int .i64 den, .vs _ _ n sz get] => .ex (List (Int × Int)) fun l => .pre (lsP 2 enc2 n sz get l ∧ (∀ x, x ∈ l → okT0 x = false) ∧ n ≤ 16 ∧ 1 ≤ n ∧ (1 ≤ s ∧ s ≤ 1000000000000) ∧ 1 ≤ den ∧ den ≤ 1000000) (.fin (.agg [.int .i64 (pspF s l den).1, .int .i64 (pspF s l den).2]) [])
  | _ => noC }
def tempOk (t : Int) : Bool := decide (-20000 ≤ t) && decide (t ≤ 50000)
def speedF (t : Int) : (Int × Int) × Int := if tempOk t = true then (pspF 331300000 [(273150 + t, 1), (273150, -1)] 2, 0) else ((0, 0), 2)
def speedC : Ctr := { alias := false, of := fun l => match l with
  | [.int .i64 t] => .fin (.tup [.agg [.int .i64 (speedF t).1.1, .int .i64 (speedF t).1.2], .int .i64 (speedF t).2]) []
  | _ => noC }
theorem ans_ii2 {k : SV → List HO → Prop} {al : Bool} {hp : List HO} {x y : Int} (h : k (.agg [.int .i64 x, .int .i64 y]) []) : answers al k (.agg [.int .i64 x, .int .i64 y]) hp :=
  ans_le (show k _ [] from h) (le_self (.agg [.int .i64 x, .int .i64 y]) ⟨trivial, trivial, trivial⟩) (fun _ => by simp [freshS, freshL])
theorem ans_iie {k : SV → List HO → Prop} {al : Bool} {hp : List HO} {x y e : Int} (h : k (.tup [.agg [.int .i64 x, .int .i64 y], .int .i64 e]) []) : answers al k (.tup [.agg [.int .i64 x, .int .i64 y], .int .i64 e]) hp :=
  ans_le (show k _ [] from h) (le_self (.tup [.agg [.int .i64 x, .int .i64 y], .int .i64 e]) ⟨⟨trivial, trivial, trivial⟩, trivial, trivial⟩) (fun _ => by simp [freshS, freshL])
def RP0 : Env := { ct := fun n => match n with | 41 => some prodC | _ => none, fn := fun _ => none, meth := fun _ _ => none }
theorem RP0_ct41 : RP0.ct 41 = some prodC := rfl
theorem RP0_ok : EnvOk Try.prog RP0 := by
  refine ⟨fun f c h => ?_, fun f vf h => ?_, (fun _ _ _ h => by cases h), by kernel_rfl, (fun _ h => by cases h)⟩
  · simp only [RP0] at h
    split at h
    · cases h; exact ⟨prod_c, Try.f41, Try.func41, by kernel_rfl, by kernel_rfl⟩
    · cases h
  · cases h

theorem psp_c : pspC.ok Try.prog 31 := by
  refine contract Try.func31 v31_is RP0_ok 200 pspC fun args k h => ?_
  simp only [pspC] at h
  split at h
  · rename_i s den tt z n sz get
    obtain ⟨l, ⟨⟨rfl, rfl, hg⟩, hl, hn, hn1, hs, hd⟩, h⟩ := h
    refine ⟨[.int .i64 s, .int .i64 den, .vs tt z l.length 2 (fun k => enc2 (l.getD k default))], ⟨⟨rfl, rfl⟩, ⟨rfl, rfl⟩, ⟨id, rfl, rfl, rfl, hg⟩, trivial⟩, ?_⟩
    dsimp only [v31, RP0_ct41, prodC, enc2, go_sem, Option.bind, Option.map, List.append_nil, Nat.beq, List.cons_append, List.nil_append, List.append_eq, List.map_cons, List.map_nil, ite_self, reduceIte]
    simp only [true_and, and_true, imp_self, implies_true, decide_eq_true_eq, decide_eq_false_iff_not, Nat.reduceAdd, Nat.reduceLeDiff, Bool.not_not, reduceCtorEq, false_imp_iff, Bool.not_eq_true', Bool.not_eq_false', Bool.false_eq_true, and_self, forall_const, ne_eq, not_false_eq_true, Nat.reduceEqDiff]
    refine ⟨l, ⟨⟨rfl, rfl, fun k _ => leXL_self _⟩, hl, hn, hn1, hs, hd⟩, by decide, by decide, by decide, fun hc => ?_, fun hc => ?_⟩
    · rw [pspF, if_pos hc] at h; exact ans_ii2 h
    · rw [pspF, if_neg (by rw [hc]; decide)] at h; exact ans_ii2 h
  · exact h.1.elim
def RP1 : Env := { ct := fun n => match n with | 31 => some pspC | _ => none, fn := fun n => match n with | 30 => some v30 | 32 => some v32 | _ => none, meth := fun _ _ => none }
theorem RP1_ct31 : RP1.ct 31 = some pspC := rfl
theorem RP1_ct30 : RP1.ct 30 = none := rfl
theorem RP1_fn30 : RP1.fn 30 = some v30 := rfl
theorem RP1_ct32 : RP1.ct 32 = none := rfl
theorem RP1_fn32 : RP1.fn 32 = some v32 := rfl
theorem RP1_ok : EnvOk Try.prog RP1 := by
  refine ⟨fun f c h => ?_, fun f vf h => ?_, (fun _ _ _ h => by cases h), by kernel_rfl, (fun _ h => by cases h)⟩
  · simp only [RP1] at h
    split at h
    · cases h; exact ⟨psp_c, Try.f31, Try.func31, by kernel_rfl, by kernel_rfl⟩
    · cases h
  · simp only [RP1] at h
    split at h
    · cases h; exact ⟨Try.f30, Try.func30, v30_is, Try.f30, Try.func30, by kernel_rfl, by kernel_rfl⟩
    · cases h; exact ⟨Try.f32, Try.func32, v32_is, Try.f32, Try.func32, by kernel_rfl, by kernel_rfl⟩
    · cases h

theorem speed_c : speedC.ok Try.prog 21 := by
  refine contract Try.func21 v21_is RP1_ok 300 speedC fun args k h => ?_
  simp only [speedC] at h
  split at h
  · rename_i t
    refine ⟨[.int .i64 t], by simp [leL, le], ?_⟩
    dsimp only [v21, RP1_ct31, RP1_ct30, RP1_fn30, v30, RP1_ct32, RP1_fn32, v32, pspC, go_sem, Option.bind, Option.map, List.append_nil, Nat.beq, List.cons_append, List.nil_append, List.append_eq, List.map_cons, List.map_nil, ite_self, reduceIte]
    simp only [true_and, and_true, imp_self, implies_true, decide_eq_true_eq, decide_eq_false_iff_not, Nat.reduceAdd, Nat.reduceLeDiff, Bool.not_not, reduceCtorEq, false_imp_iff, Bool.not_eq_true', Bool.not_eq_false', Bool.false_eq_true, and_self, forall_const, ne_eq, not_false_eq_true, Nat.reduceEqDiff]
    refine ⟨fun hc => ?_, fun hc => ⟨by decide, [(273150 + t, 1), (273150, -1)], ⟨?_, ?_, by decide, by decide⟩, ?_⟩⟩
    · rw [speedF, if_neg (show ¬ tempOk t = true from by rw [show tempOk t = false from hc]; decide)] at h
      exact ans_iie h
    · rw [Bool.and_eq_true, decide_eq_true_eq, decide_eq_true_eq] at hc
      have e1 : IntKind.i64.wrap (273150 + t) = 273150 + t := IntWalk.i64_in _ (by omega)
      have e2 : IntKind.i64.wrap (273150 + 0) = 273150 := by decide
      rw [e1, e2]
      refine ⟨rfl, rfl, fun k hk => ?_⟩
      match k, hk with
      | 0, _ => exact leXL_self _
      | 1, _ => exact leXL_self _
    · rw [Bool.and_eq_true, decide_eq_true_eq, decide_eq_true_eq] at hc
      intro x hx
      simp only [List.mem_cons, List.not_mem_nil, or_false] at hx
      rcases hx with rfl | rfl
      · simp only [okT0, Bool.or_eq_false_iff, decide_eq_false_iff_not]; omega
      · decide
    · rw [speedF, if_pos (show tempOk t = true from hc)] at h
      exact ans_iie h
  · exact h.1.elim
end Go.Proofs.Ytijadllhfgajlaa

/- Intervals, in plain Lean: what spans and its reference compute. -/
/- Intervals, in plain Lean: what spans and its reference compute. -/
set_option linter.all false
namespace Go.Proofs.Ytijadllhfgajlaa
open Go Go.Vx

abbrev Iv := Int × Int
def numOk (x : Int) : Bool := decide (-4611686018427387904 ≤ x) && decide (x ≤ 4611686018427387904)
def ivE (l : List Iv) : Int := if l.all (fun a => numOk a.1 && numOk a.2) then (if l.all (fun a => decide (a.1 ≤ a.2)) then 0 else 2) else 7

theorem ivE_bad {l : List Iv} {i : Nat} (h : i < l.length) (hb : (numOk (l.getD i default).1 && numOk (l.getD i default).2) = false) : ivE l = 7 := by
  rw [ivE, if_neg]
  intro hall
  have := List.all_eq_true.1 hall _ (getD_mem h)
  rw [hb] at this; cases this
theorem ivE_2 {l : List Iv} (ha : ∀ j, j < l.length → (numOk (l.getD j default).1 && numOk (l.getD j default).2) = true) {i : Nat} (h : i < l.length) (hb : (l.getD i default).2 < (l.getD i default).1) : ivE l = 2 := by
  rw [ivE, if_pos, if_neg]
  · intro hall
    have := List.all_eq_true.1 hall _ (getD_mem h)
    simp only [decide_eq_true_eq] at this; omega
  · refine List.all_eq_true.2 fun x hx => ?_
    obtain ⟨j, hj, rfl⟩ := mem_getD hx
    exact ha j hj
theorem ivE_0 {l : List Iv} (ha : ∀ j, j < l.length → (numOk (l.getD j default).1 && numOk (l.getD j default).2) = true) (hb : ∀ j, j < l.length → (l.getD j default).1 ≤ (l.getD j default).2) : ivE l = 0 := by
  rw [ivE, if_pos, if_pos]
  · refine List.all_eq_true.2 fun x hx => ?_
    obtain ⟨j, hj, rfl⟩ := mem_getD hx
    simpa using hb j hj
  · refine List.all_eq_true.2 fun x hx => ?_
    obtain ⟨j, hj, rfl⟩ := mem_getD hx
    exact ha j hj
theorem numOk_iff {x : Int} : numOk x = true ↔ -4611686018427387904 ≤ x ∧ x ≤ 4611686018427387904 := by
  simp [numOk]
theorem ivE1 {a : Iv} (h : ivE [a] = 0) : (-4611686018427387904 ≤ a.1 ∧ a.1 ≤ 4611686018427387904) ∧ (-4611686018427387904 ≤ a.2 ∧ a.2 ≤ 4611686018427387904) ∧ a.1 ≤ a.2 := by
  unfold ivE at h
  split at h
  · rename_i h1
    split at h
    · rename_i h2
      simp only [List.all_cons, List.all_nil, Bool.and_true, Bool.and_eq_true, decide_eq_true_eq] at h1 h2
      exact ⟨numOk_iff.1 h1.1, numOk_iff.1 h1.2, h2⟩
    · cases h
  · cases h
theorem ivE2 {a b : Iv} (h : ivE [a, b] = 0) : ((-4611686018427387904 ≤ a.1 ∧ a.1 ≤ 4611686018427387904) ∧ (-4611686018427387904 ≤ a.2 ∧ a.2 ≤ 4611686018427387904) ∧ a.1 ≤ a.2) ∧ (-4611686018427387904 ≤ b.1 ∧ b.1 ≤ 4611686018427387904) ∧ (-4611686018427387904 ≤ b.2 ∧ b.2 ≤ 4611686018427387904) ∧ b.1 ≤ b.2 := by
  unfold ivE at h
  split at h
  · rename_i h1
    split at h
    · rename_i h2
      simp only [List.all_cons, List.all_nil, Bool.and_true, Bool.and_eq_true, decide_eq_true_eq] at h1 h2
      exact ⟨⟨numOk_iff.1 h1.1.1, numOk_iff.1 h1.1.2, h2.1⟩, numOk_iff.1 h1.2.1, numOk_iff.1 h1.2.2, h2.2⟩
    · cases h
  · cases h

/-- A quotient, rounded down or up, if it is a bound. -/
def rndT (up : Bool) (x d : Int) : Int := if up then -((-x) / d) else x / d
def rndB (t : Int) : Int × Bool := if -4611686018427387904 ≤ t ∧ t ≤ 4611686018427387904 then (t, true) else (0, false)
def rndF (up : Bool) (x d : Int) : Int × Bool := rndB (rndT up x d)
def spanR (a b : Int × Bool) : Iv × Int := if a.2 && b.2 then ((a.1, b.1), 0) else ((0, 0), 7)
def lowI (x : Int) (r : List Int) : Int := r.foldl (fun low y => if y < low then y else low) x
def highI (x : Int) (r : List Int) : Int := r.foldl (fun high y => if high < y then y else high) x
/-- The span of the least and the greatest one of some products, divided. -/
def spanI (d : Int) (x : Int) (r : List Int) : Iv × Int := spanR (rndF false (lowI x r) d) (rndF true (highI x r) d)

theorem lowI_spec (x : Int) : ∀ (r : List Int), lowI x r ∈ x :: r ∧ ∀ y ∈ x :: r, lowI x r ≤ y := by
  intro r
  induction r generalizing x with
  | nil => exact ⟨List.mem_cons_self, fun y hy => by simp at hy; subst hy; exact Int.le_refl _⟩
  | cons a r ih =>
    have e : lowI x (a :: r) = lowI (if a < x then a else x) r := rfl
    rw [e]
    obtain ⟨h1, h2⟩ := ih (if a < x then a else x)
    have h3 := h2 _ List.mem_cons_self
    generalize lowI (if a < x then a else x) r = L at *
    refine ⟨?_, fun y hy => ?_⟩
    · rcases List.mem_cons.1 h1 with h | h
      · rw [h]; split <;> simp
      · simp [h]
    · rcases List.mem_cons.1 hy with rfl | hy
      · split at h3 <;> omega
      · rcases List.mem_cons.1 hy with rfl | hy
        · split at h3 <;> omega
        · exact h2 _ (List.mem_cons_of_mem _ hy)
theorem highI_spec (x : Int) : ∀ (r : List Int), highI x r ∈ x :: r ∧ ∀ y ∈ x :: r, y ≤ highI x r := by
  intro r
  induction r generalizing x with
  | nil => exact ⟨List.mem_cons_self, fun y hy => by simp at hy; subst hy; exact Int.le_refl _⟩
  | cons a r ih =>
    have e : highI x (a :: r) = highI (if x < a then a else x) r := rfl
    rw [e]
    obtain ⟨h1, h2⟩ := ih (if x < a then a else x)
    have h3 := h2 _ List.mem_cons_self
    generalize highI (if x < a then a else x) r = L at *
    refine ⟨?_, fun y hy => ?_⟩
    · rcases List.mem_cons.1 h1 with h | h
      · rw [h]; split <;> simp
      · simp [h]
    · rcases List.mem_cons.1 hy with rfl | hy
      · split at h3 <;> omega
      · rcases List.mem_cons.1 hy with rfl | hy
        · split at h3 <;> omega
        · exact h2 _ (List.mem_cons_of_mem _ hy)

/-- How a rounded quotient is computed by absolute values. -/
def bump (up neg : Bool) (r : Nat) : Nat := if decide (r ≠ 0) && (up != neg) then 1 else 0
theorem rnd_abs {up : Bool} {x : Int} {d : Nat} (hd : 0 < d) : rndT up x d = nsg (decide (x < 0)) (x.natAbs / d + bump up (decide (x < 0)) (x.natAbs % d)) := by
  have hm := Nat.mod_lt x.natAbs hd
  have e := Nat.div_add_mod x.natAbs d
  have pos : ∀ n : Nat, (n : Int) / (d : Int) = ((n / d : Nat) : Int) := fun n => (Int.natCast_ediv n d).symm
  have neg : ∀ n : Nat, (-(n : Int)) / (d : Int) = -(((n / d + if n % d = 0 then 0 else 1 : Nat)) : Int) := fun n => by
    have e := Nat.div_add_mod n d
    have hm := Nat.mod_lt n hd
    by_cases h0 : n % d = 0
    · rw [if_pos h0]
      have : (n : Int) = ((n / d : Nat) : Int) * (d : Int) := by
        have : n = n / d * d := by rw [Nat.mul_comm]; omega
        exact_mod_cast this
      conv => lhs; rw [this, ← Int.neg_mul]
      rw [Int.mul_ediv_cancel _ (by omega)]; simp
    · rw [if_neg h0]
      have hq : (n : Int) = (d : Int) * ((n / d : Nat) : Int) + ((n % d : Nat) : Int) := by exact_mod_cast e.symm
      apply Int.le_antisymm
      · apply Int.le_of_lt_add_one
        rw [Int.ediv_lt_iff_lt_mul (by omega)]
        conv => lhs; rw [hq]
        have hm : ((n % d : Nat) : Int) > 0 := by omega
        generalize n % d = m at *
        generalize n / d = q at *
        push_cast
        grind
      · rw [Int.le_ediv_iff_mul_le (by omega)]
        conv => rhs; rw [hq]
        have hm : ((n % d : Nat) : Int) < d := by omega
        generalize n % d = m at *
        generalize n / d = q at *
        push_cast
        grind
  obtain ⟨n, hn⟩ : ∃ n : Nat, n = x.natAbs := ⟨_, rfl⟩
  rw [← hn]
  unfold rndT bump nsg
  by_cases hx : x < 0
  · have ex : x = -(n : Int) := by omega
    cases up
    · simp only [hx, decide_true, if_true, Bool.false_eq_true, if_false]
      rw [ex, neg n]
      by_cases h0 : n % d = 0 <;> simp [h0]
    · simp only [hx, decide_true, if_true, bne_self_eq_false, Bool.and_false, Bool.false_eq_true, if_false]
      rw [ex, Int.neg_neg, pos n]; simp
  · have ex : x = (n : Int) := by omega
    cases up
    · simp only [hx, decide_false, Bool.false_eq_true, if_false, bne_self_eq_false, Bool.and_false]
      rw [ex, pos n]; simp
    · simp only [hx, decide_false, Bool.false_eq_true, if_false, if_true]
      rw [ex, neg n]
      by_cases h0 : n % d = 0 <;> simp [h0]

/-! ### Products of two words -/

def longE (v : Int) : List SV := [.bool (decide (v < 0)), .int .u64 ((v.natAbs / 18446744073709551616 : Nat) : Int), .int .u64 ((v.natAbs % 18446744073709551616 : Nat) : Int)]
def longP (x : Int) (n : Bool) (h l : Int) : Prop := n = decide (x < 0) ∧ h = ((x.natAbs / 18446744073709551616 : Nat) : Int) ∧ l = ((x.natAbs % 18446744073709551616 : Nat) : Int)
theorem longP_self (x : Int) : longP x (decide (x < 0)) ((x.natAbs / 18446744073709551616 : Nat) : Int) ((x.natAbs % 18446744073709551616 : Nat) : Int) := ⟨rfl, rfl, rfl⟩
def big (x : Int) : Prop := x.natAbs < 340282366920938463463374607431768211456

/-! ### What the functions return -/

def fitF (lo hi : Int) : Iv × Int := if numOk lo && numOk hi then ((lo, hi), 0) else ((0, 0), 7)
def errI (e : Int) : Iv × Int := ((0, 0), e)
def addF (a b : Iv) : Iv × Int := if ivE [a, b] ≠ 0 then errI (ivE [a, b]) else fitF (a.1 + b.1) (a.2 + b.2)
def subF (a b : Iv) : Iv × Int := if ivE [a, b] ≠ 0 then errI (ivE [a, b]) else addF a (-b.2, -b.1)
def mulF (a b : Iv) : Iv × Int := if ivE [a, b] ≠ 0 then errI (ivE [a, b]) else spanI 1 (a.1 * b.1) [a.1 * b.2, a.2 * b.1, a.2 * b.2]
def divPos (a b : Iv) : Iv × Int := spanR (rndF false a.1 (if a.1 < 0 then b.1 else b.2)) (rndF true a.2 (if a.2 < 0 then b.2 else b.1))
def quoF (a b : Iv) : Iv × Int := if ivE [a, b] ≠ 0 then errI (ivE [a, b]) else if b.1 ≤ 0 ∧ 0 ≤ b.2 then errI 9 else if b.2 < 0 then divPos (-a.2, -a.1) (-b.2, -b.1) else divPos a b
def sclF (a : Iv) (num den : Int) : Iv × Int := if ivE [a] ≠ 0 then errI (ivE [a]) else if den < 1 ∨ 4611686018427387904 < den ∨ num < -4611686018427387904 ∨ 4611686018427387904 < num then errI 2 else spanI den (a.1 * num) [a.2 * num]
/-- The greatest number whose power is not above n. -/
def rootN (n k : Nat) : Nat := leastF (fun r => decide (n < (r + 1) ^ k)) (n + 1) 0
def rootUp (n k : Nat) : Nat := if rootN n k ^ k < n then rootN n k + 1 else rootN n k
def rootF (a : Iv) (k : Int) : Iv × Int := if ivE [a] ≠ 0 then errI (ivE [a]) else if k < 1 ∨ 62 < k then errI 2 else if a.1 < 0 then errI 9 else (((rootN a.1.toNat k.toNat : Int), (rootUp a.2.toNat k.toNat : Int)), 0)
theorem rootN_eq {n k r : Nat} (hk : 0 < k) (h1 : r ^ k ≤ n) (h2 : n < (r + 1) ^ k) : rootN n k = r := by
  unfold rootN
  have hr : r ≤ n := Nat.le_trans (by
    cases r with
    | zero => exact Nat.zero_le _
    | succ r => exact Nat.le_trans (Nat.le_of_eq (Nat.pow_one _).symm) (Nat.pow_le_pow_right (by omega) hk)) h1
  refine leastF_eq (fun j hj => ?_) (by omega) fun _ => decide_eq_true h2
  refine decide_eq_false ?_
  have := Nat.pow_le_pow_left (show j + 1 ≤ r by omega) k
  omega
theorem rootN_spec {n k : Nat} (hk : 0 < k) : rootN n k ^ k ≤ n ∧ n < (rootN n k + 1) ^ k := by
  have ex : ∀ m : Nat, ∃ r, r ^ k ≤ m ∧ m < (r + 1) ^ k := by
    intro m
    induction m with
    | zero => exact ⟨0, by rw [Nat.zero_pow hk]; omega, by simp⟩
    | succ m ih =>
      obtain ⟨r, h1, h2⟩ := ih
      rcases Nat.lt_or_ge (m + 1) ((r + 1) ^ k) with h | h
      · exact ⟨r, by omega, h⟩
      · refine ⟨r + 1, h, ?_⟩
        have : (r + 1) ^ k < (r + 1 + 1) ^ k := Nat.pow_lt_pow_left (by omega) (by omega)
        omega
  obtain ⟨r, h1, h2⟩ := ex n
  rw [rootN_eq hk h1 h2]
  exact ⟨h1, h2⟩
end Go.Proofs.Ytijadllhfgajlaa

/- Lengths: what the functions return, in plain Lean; the law. -/
/- Lengths: what the functions return, in plain Lean; the law. -/
set_option linter.all false
namespace Go.Proofs.Ytijadllhfgajlaa
open Go Go.Vx

structure Bdy where
  kind : Int
  bottom : Int
  top : Int
  mouth : Int
  cut : Int
def inF (n a b : Int) : Bool := decide (a ≤ n) && decide (n ≤ b)
def shapeF (b : Bdy) : Bool := if b.kind = 3 then decide (b.top < b.bottom) else decide (b.top = b.bottom)
def chkB (b : Bdy) : Int :=
  if (inF b.kind 1 3 && shapeF b) = true then
    if (inF b.bottom 1000 500000 && inF b.top 1000 500000 && inF b.mouth 1 (IntKind.i64.wrap (4 * b.bottom)) && inF b.cut 1 (IntKind.i64.wrap (4 * b.bottom))) = true then 0 else 2
  else 2
def keepE (a b : Int) : Int := if a = 0 then b else a
def areaF' (b : Bdy) : Iv := (rootF (mulF (b.mouth, b.mouth) (b.cut, b.cut)).1 2).1
def mouthF (b : Bdy) : Iv := (quoF (sclF (mulF (b.bottom, b.bottom) (b.bottom, b.bottom)).1 575 1000).1 (areaF' b)).1
def endF (b : Bdy) : Iv := if b.kind = 2 then (0, 0) else (sclF (b.top, b.top) 30665 100000).1
def bothF (b : Bdy) : Iv := (addF (mouthF b) (endF b)).1
def partsF (b : Bdy) : Int := if b.kind = 2 then 250 else 500
def wayF (b : Bdy) (t : Int) : Iv × Int := sclF (speedF t).1 (partsF b) 1
def begE (b : Bdy) (x : Iv) (least most t : Int) : Int :=
  if chkB b ≠ 0 then chkB b else if (speedF t).2 ≠ 0 ∨ x.1 < least ∨ x.2 < x.1 ∨ most < x.2 then 2 else 0
def fitsF (x : Iv) (e most : Int) : Iv × Int := if e ≠ 0 ∨ x.1 < 1 ∨ most < x.2 then ((0, 0), 7) else (x, 0)
def lenF (b : Bdy) (x : Iv) (t : Int) : Iv × Int :=
  if begE b x 1000 20000000 t ≠ 0 then ((0, 0), begE b x 1000 20000000 t)
  else fitsF (subF (quoF (wayF b t).1 x).1 (bothF b)).1 (keepE (keepE (wayF b t).2 (quoF (wayF b t).1 x).2) (subF (quoF (wayF b t).1 x).1 (bothF b)).2) 12000000
def pitF (b : Bdy) (x : Iv) (t : Int) : Iv × Int :=
  if begE b x 1 12000000 t ≠ 0 then ((0, 0), begE b x 1 12000000 t)
  else fitsF (quoF (wayF b t).1 (addF x (bothF b)).1).1 (keepE (wayF b t).2 (quoF (wayF b t).1 (addF x (bothF b)).1).2) 200000000

/-! ### What is returned without an error -/

theorem leE2 {a b : Iv} (h : ivE [a, b] = 0) : a.1 ≤ a.2 ∧ b.1 ≤ b.2 := by
  unfold ivE at h
  split at h
  · split at h
    · rename_i h2
      simp only [List.all_cons, List.all_nil, Bool.and_true, Bool.and_eq_true, decide_eq_true_eq] at h2
      exact h2
    · cases h
  · cases h
theorem leE1 {a : Iv} (h : ivE [a] = 0) : a.1 ≤ a.2 := by
  unfold ivE at h
  split at h
  · split at h
    · rename_i h2
      simpa using h2
    · cases h
  · cases h
theorem rndB_ok {t : Int} (h : (rndB t).2 = true) : (rndB t).1 = t := by
  unfold rndB at h ⊢
  split
  · rfl
  · rename_i hc; rw [if_neg hc] at h; cases h
theorem spanR_ok {a b : Int × Bool} (h : (spanR a b).2 = 0) : (spanR a b).1 = (a.1, b.1) ∧ a.2 = true ∧ b.2 = true := by
  unfold spanR at h ⊢
  split
  · rename_i hc
    rw [Bool.and_eq_true] at hc
    exact ⟨rfl, hc⟩
  · rename_i hc; rw [if_neg hc] at h; cases h
theorem scl_1 {a : Iv} {n : Int} (hn : 0 ≤ n) (h : (sclF a n 1).2 = 0) : (sclF a n 1).1 = (a.1 * n, a.2 * n) ∧ a.1 ≤ a.2 := by
  unfold sclF at h ⊢
  by_cases h1 : ivE [a] ≠ 0
  · rw [if_pos h1] at h; exact absurd h h1
  · rw [if_neg h1] at h ⊢
    have hle := leE1 (by simpa using h1)
    by_cases h2 : (1 : Int) < 1 ∨ 4611686018427387904 < (1 : Int) ∨ n < -4611686018427387904 ∨ 4611686018427387904 < n
    · rw [if_pos h2] at h; cases h
    · rw [if_neg h2] at h ⊢
      unfold spanI at h ⊢
      obtain ⟨e, k1, k2⟩ := spanR_ok h
      rw [e]
      have hm : a.1 * n ≤ a.2 * n := Int.mul_le_mul_of_nonneg_right hle hn
      unfold rndF at k1 k2 ⊢
      rw [rndB_ok k1, rndB_ok k2]
      refine ⟨?_, hle⟩
      simp only [rndT, lowI, highI, List.foldl_cons, List.foldl_nil, if_true, Bool.false_eq_true, if_false, Int.ediv_one, Int.neg_neg]
      congr 1
      · split <;> omega
      · split <;> omega
theorem quo_1 {a b : Iv} (ha : 0 ≤ a.1) (hb : 0 < b.1) (h : (quoF a b).2 = 0) : (quoF a b).1 = (a.1 / b.2, -((-a.2) / b.1)) ∧ a.1 ≤ a.2 ∧ b.1 ≤ b.2 := by
  unfold quoF at h ⊢
  by_cases h1 : ivE [a, b] ≠ 0
  · rw [if_pos h1] at h; exact absurd h h1
  · rw [if_neg h1] at h ⊢
    obtain ⟨l1, l2⟩ := leE2 (by simpa using h1)
    rw [if_neg (by omega), if_neg (by omega)] at h ⊢
    unfold divPos at h ⊢
    rw [if_neg (by omega), if_neg (by omega)] at h ⊢
    obtain ⟨e, k1, k2⟩ := spanR_ok h
    rw [e]
    unfold rndF at k1 k2 ⊢
    rw [rndB_ok k1, rndB_ok k2]
    exact ⟨rfl, l1, l2⟩
theorem add_1 {a b : Iv} (h : (addF a b).2 = 0) : (addF a b).1 = (a.1 + b.1, a.2 + b.2) ∧ a.1 ≤ a.2 ∧ b.1 ≤ b.2 := by
  unfold addF at h ⊢
  by_cases h1 : ivE [a, b] ≠ 0
  · rw [if_pos h1] at h; exact absurd h h1
  · rw [if_neg h1] at h ⊢
    obtain ⟨l1, l2⟩ := leE2 (by simpa using h1)
    unfold fitF at h ⊢
    split
    · exact ⟨rfl, l1, l2⟩
    · rename_i hc; rw [if_neg hc] at h; cases h
theorem sub_1 {a b : Iv} (h : (subF a b).2 = 0) : (subF a b).1 = (a.1 - b.2, a.2 - b.1) ∧ a.1 ≤ a.2 ∧ b.1 ≤ b.2 := by
  unfold subF at h ⊢
  by_cases h1 : ivE [a, b] ≠ 0
  · rw [if_pos h1] at h; exact absurd h h1
  · rw [if_neg h1] at h ⊢
    obtain ⟨l1, l2⟩ := leE2 (by simpa using h1)
    obtain ⟨e, _, _⟩ := add_1 h
    rw [e]
    exact ⟨by simp only [Prod.mk.injEq]; omega, l1, l2⟩
/-- A sum is an interval, also where there is an error. -/
theorem add_iv (a b : Iv) : (addF a b).1.1 ≤ (addF a b).1.2 ∧ (0 ≤ a.1 → 0 ≤ b.1 → 0 ≤ (addF a b).1.1) ∧ ((addF a b).2 ≠ 0 → (addF a b).1 = (0, 0)) := by
  by_cases h : (addF a b).2 = 0
  · obtain ⟨e, l1, l2⟩ := add_1 h
    rw [e]
    exact ⟨by simp only; omega, fun _ _ => by simp only; omega, fun hh => absurd h hh⟩
  · have e : (addF a b).1 = (0, 0) := by
      unfold addF at h ⊢
      split
      · rfl
      · rename_i h1; rw [if_neg h1] at h
        unfold fitF at h ⊢
        split
        · rename_i h2; rw [if_pos h2] at h; exact absurd rfl h
        · rfl
    rw [e]
    exact ⟨Int.le_refl _, fun _ _ => Int.le_refl _, fun _ => rfl⟩
theorem span_nn {d x : Int} {r : List Int} (hd : 0 < d) (hx : 0 ≤ x) (hr : ∀ y, y ∈ r → 0 ≤ y) : 0 ≤ (spanI d x r).1.1 := by
  by_cases h : (spanI d x r).2 = 0
  · unfold spanI at h ⊢
    obtain ⟨e, k1, k2⟩ := spanR_ok h
    rw [e]
    unfold rndF at k1 ⊢
    rw [rndB_ok k1]
    have key : ∀ (r : List Int) (x : Int), 0 ≤ x → (∀ y, y ∈ r → 0 ≤ y) → 0 ≤ lowI x r := fun r => by
      induction r with
      | nil => intro x hx _; exact hx
      | cons y r ih =>
        intro x hx hr
        unfold lowI
        rw [List.foldl_cons]
        refine ih _ ?_ fun z hz => hr z (List.mem_cons_of_mem _ hz)
        split
        · exact hr y (List.mem_cons_self ..)
        · exact hx
    exact Int.ediv_nonneg (key r x hx hr) (Int.le_of_lt hd)
  · unfold spanI spanR at h ⊢
    split
    · rename_i hc; rw [if_pos hc] at h; exact absurd rfl h
    · exact Int.le_refl _
/-! ### No errors -/

theorem numOk_is {x : Int} (h0 : -4611686018427387904 ≤ x) (h1 : x ≤ 4611686018427387904) : numOk x = true := by
  unfold numOk; rw [decide_eq_true h0, decide_eq_true h1]; rfl
theorem okE1 {a : Iv} (h0 : -4611686018427387904 ≤ a.1) (h1 : a.1 ≤ a.2) (h2 : a.2 ≤ 4611686018427387904) : ivE [a] = 0 := by
  rw [ivE, if_pos (by simp [numOk_is (x := a.1) h0 (by omega), numOk_is (x := a.2) (by omega) h2]), if_pos (by simpa using h1)]
theorem okE2 {a b : Iv} (h0 : -4611686018427387904 ≤ a.1) (h1 : a.1 ≤ a.2) (h2 : a.2 ≤ 4611686018427387904) (k0 : -4611686018427387904 ≤ b.1) (k1 : b.1 ≤ b.2) (k2 : b.2 ≤ 4611686018427387904) : ivE [a, b] = 0 := by
  rw [ivE, if_pos (by simp [numOk_is (x := a.1) h0 (by omega), numOk_is (x := a.2) (by omega) h2, numOk_is (x := b.1) k0 (by omega), numOk_is (x := b.2) (by omega) k2]), if_pos (by simp [h1, k1])]
theorem rndB_is {t : Int} (h0 : -4611686018427387904 ≤ t) (h1 : t ≤ 4611686018427387904) : rndB t = (t, true) := by rw [rndB, if_pos ⟨h0, h1⟩]
theorem mul_e0 {x y : Int} (hx : 0 ≤ x) (hx1 : x ≤ 2000000) (hy : 0 ≤ y) (hy1 : y ≤ 2000000) : mulF (x, x) (y, y) = ((x * y, x * y), 0) := by
  have h0 : 0 ≤ x * y := Int.mul_nonneg hx hy
  have h1 : x * y ≤ 2000000 * 2000000 := mul_le' hx1 hy1 hx (by decide)
  rw [mulF, if_neg (by rw [okE2 (by simp only; omega) (Int.le_refl _) (by simp only; omega) (by simp only; omega) (Int.le_refl _) (by simp only; omega)]; decide)]
  simp only [spanI, lowI, highI, List.foldl_cons, List.foldl_nil, Int.lt_irrefl, if_false, ite_self, rndF, rndT, if_true, Bool.false_eq_true, Int.ediv_one, Int.neg_neg]
  rw [rndB_is (by omega) (by omega)]
  rfl
theorem scl_e0 {a : Iv} {n d : Int} (h0 : 0 ≤ a.1) (h1 : a.1 ≤ a.2) (h2 : a.2 ≤ 4000000000000) (hn : 0 ≤ n) (hn1 : n ≤ 100000) (hd : 1 ≤ d) (hd1 : d ≤ 100000) : (sclF a n d).2 = 0 := by
  rw [sclF, if_neg (by rw [okE1 (by omega) h1 (by omega)]; decide), if_neg (by omega)]
  have k1 : a.1 * n ≤ a.2 * n := Int.mul_le_mul_of_nonneg_right h1 hn
  have k0 : 0 ≤ a.1 * n := Int.mul_nonneg h0 hn
  have k2 : a.2 * n ≤ 4000000000000 * 100000 := mul_le' h2 hn1 (by omega) (by decide)
  have q : ∀ x : Int, 0 ≤ x → x ≤ 400000000000000000 → rndB (x / d) = (x / d, true) ∧ rndB (-((-x) / d)) = (-((-x) / d), true) := fun x hx hx1 => by
    have m1 : x / d ≤ x := Int.ediv_le_self _ hx
    have m0 : 0 ≤ x / d := Int.ediv_nonneg hx (by omega)
    have m2 : -x ≤ (-x) / d := by
      rw [Int.le_ediv_iff_mul_le (by omega)]
      have : x * 1 ≤ x * d := Int.mul_le_mul_of_nonneg_left hd hx
      rw [Int.neg_mul]; omega
    have m3 : (-x) / d ≤ 0 := Int.ediv_nonpos_of_nonpos_of_neg (by omega) (by omega)
    exact ⟨rndB_is (by omega) (by omega), rndB_is (by omega) (by omega)⟩
  unfold spanI rndF rndT
  simp only [lowI, highI, List.foldl_cons, List.foldl_nil, if_true, Bool.false_eq_true, if_false]
  rw [(q _ (by split <;> omega) (by split <;> omega)).1, (q _ (by split <;> omega) (by split <;> omega)).2]
  rfl
theorem chkB_ok {b : Bdy} (h : chkB b = 0) : (1 ≤ b.kind ∧ b.kind ≤ 3) ∧ (1000 ≤ b.bottom ∧ b.bottom ≤ 500000) ∧ (1000 ≤ b.top ∧ b.top ≤ 500000) ∧ (1 ≤ b.mouth ∧ b.mouth ≤ 2000000) ∧ 1 ≤ b.cut ∧ b.cut ≤ 2000000 := by
  unfold chkB at h
  split at h
  · rename_i h1
    split at h
    · rename_i h2
      simp only [inF, Bool.and_eq_true, decide_eq_true_eq] at h1 h2
      obtain ⟨⟨⟨b1, b2⟩, b3⟩, b4⟩ := h2
      rw [IntWalk.i64_in _ (by omega)] at b3 b4
      exact ⟨h1.1, b1, b2, ⟨b3.1, by omega⟩, b4.1, by omega⟩
    · cases h
  · cases h
end Go.Proofs.Ytijadllhfgajlaa

/- Intervals, walked: the program's checks, products, spans. -/
/- Intervals, walked: the program's checks, products, spans. -/
set_option linter.all false
namespace Go.Proofs.Ytijadllhfgajlaa
open Go Go.Vx
set_option maxRecDepth 100000
set_option maxHeartbeats 4000000

def v37 : VF := { ntmps := 9, res := [.tmp 2], body :=
 (.seq (.region [u1 2 .mov [.cn (.bool false)]])
 (.seq (.region [u1 3 .mov [.tm 0],
 u1 4 (.cmp .geq) [.tm 3, .cn (.int .i64 (-4611686018427387904))],
 u1 5 .mov [.tm 4],
 u2 6 5 true .mov [.tm 0],
 u2 7 5 true (.cmp .leq) [.tm 6, .cn (.int .i64 4611686018427387904)],
 u1 8 .and [.tm 5, .tm 7],
 u1 2 .mov [.tm 8]])
 .ret)) }
theorem v37_is : vfunc Try.prog Try.f37 = some v37 := by kernel_rfl
def v25 : VF := { ntmps := 36, res := [.tmp 2], body :=
 (.seq (.region [u1 2 .mov [.cn (.int .i64 0)]])
 (.seq (.seq (.region [u1 7 .mov [.tm 0],
 u1 8 .len [.tm 7],
 u1 9 .mov [.cn (.int .i64 0)]])
 (.block 0 (.loop (.seq (.region [u1 10 (.cmp .lss) [.tm 9, .tm 8]])
 (.seq (.cond (.tm 10) .skip
  (.exit 0))
 (.seq (.block 1 (.seq (.region [u1 11 (.idxAddr 2) [.tm 7, .tm 9],
 u1 12 (.load true 2) [.tm 11],
 u1 4 (.alloc [(.int .i64 0), (.int .i64 0)]) [],
 u0 (.store 2) [.tm 4, .tm 12]])
 (.seq (.region [u1 13 (.fieldAddr 0) [.tm 4],
 u1 14 (.load false 1) [.tm 13],
 u1 15 (.call 37) [.tm 14],
 u1 16 .not [.tm 15],
 u1 17 .mov [.tm 16],
 u2 18 17 false (.fieldAddr 1) [.tm 4],
 u2 19 17 false (.load false 1) [.tm 18],
 u2 20 17 false (.call 37) [.tm 19],
 u2 21 17 false .not [.tm 20],
 u1 22 .or [.tm 17, .tm 21]])
 (.cond (.tm 22) (.seq (.region [u1 2 .mov [.cn (.int .i64 7)]])
 .ret)
  .skip))))
 (.region [u1 23 (.ari .add) [.tm 9, .cn (.int .i64 1)],
 u1 9 .mov [.tm 23]])))))))
 (.seq (.seq (.region [u1 24 .mov [.tm 0],
 u1 25 .len [.tm 24],
 u1 26 .mov [.cn (.int .i64 0)]])
 (.block 2 (.loop (.seq (.region [u1 27 (.cmp .lss) [.tm 26, .tm 25]])
 (.seq (.cond (.tm 27) .skip
  (.exit 2))
 (.seq (.block 3 (.seq (.region [u1 28 (.idxAddr 2) [.tm 24, .tm 26],
 u1 29 (.load true 2) [.tm 28],
 u1 6 (.alloc [(.int .i64 0), (.int .i64 0)]) [],
 u0 (.store 2) [.tm 6, .tm 29]])
 (.seq (.region [u1 30 (.fieldAddr 0) [.tm 6],
 u1 31 (.load false 1) [.tm 30],
 u1 32 (.fieldAddr 1) [.tm 6],
 u1 33 (.load false 1) [.tm 32],
 u1 34 (.cmp .gtr) [.tm 31, .tm 33]])
 (.cond (.tm 34) (.seq (.region [u1 2 .mov [.cn (.int .i64 2)]])
 .ret)
  .skip))))
 (.region [u1 35 (.ari .add) [.tm 26, .cn (.int .i64 1)],
 u1 26 .mov [.tm 35]])))))))
 (.seq (.region [u1 2 .mov [.cn (.int .i64 0)]])
 .ret)))) }
theorem v25_is : vfunc Try.prog Try.f25 = some v25 := by kernel_rfl
def v39 : VF := { ntmps := 8, res := [.tmp 2], body :=
 (.seq (.region [u1 2 .mov [.cn (.int .u64 0)]])
 (.seq (.region [u1 3 .mov [.tm 0],
 u1 4 .mov [.tm 0],
 u1 5 .neg [.tm 4],
 u1 6 .max [.tm 3, .tm 5],
 u1 7 (.conv .u64) [.tm 6],
 u1 2 .mov [.tm 7]])
 .ret)) }
theorem v39_is : vfunc Try.prog Try.f39 = some v39 := by kernel_rfl
def v26 : VF := { ntmps := 29, res := [.cell 4 true 3], body :=
 (.seq (.region [u1 4 (.alloc [(.bool false), (.int .u64 0), (.int .u64 0)]) []])
 (.seq (.region [u1 8 .mov [.tm 0],
 u1 9 (.call 39) [.tm 8],
 u1 10 .mov [.tm 1],
 u1 11 (.call 39) [.tm 10],
 u1 12 (.call 38) [.tm 9, .tm 11],
 u1 7 .mov [.tm 12],
 u1 13 (.ext 0) [.tm 7],
 u1 14 (.ext 1) [.tm 7],
 u1 5 .mov [.tm 13],
 u1 6 .mov [.tm 14]])
 (.seq (.region [u1 15 .mov [.tm 0],
 u1 16 (.cmp .lss) [.tm 15, .cn (.int .i64 0)],
 u1 17 .mov [.tm 1],
 u1 18 (.cmp .lss) [.tm 17, .cn (.int .i64 0)],
 u1 19 (.eqb true) [.tm 16, .tm 18],
 u1 20 .mov [.tm 19],
 u2 21 20 true .mov [.tm 5],
 u2 22 20 true .mov [.tm 6],
 u2 23 20 true (.bit .or) [.tm 21, .tm 22],
 u2 24 20 true (.cmp .neq) [.tm 23, .cn (.int .u64 0)],
 u1 25 .and [.tm 20, .tm 24],
 u1 26 .mov [.tm 5],
 u1 27 .mov [.tm 6],
 u1 28 (.build [(.bool false), (.int .u64 0), (.int .u64 0)] [(0, 1), (1, 1), (2, 1)]) [.tm 25, .tm 26, .tm 27],
 u0 (.store 3) [.tm 4, .tm 28]])
 .ret))) }
theorem v26_is : vfunc Try.prog Try.f26 = some v26 := by kernel_rfl
def v51 : VF := { ntmps := 39, res := [.tmp 4], body :=
 (.seq (.region [u1 2 .box [.tm 0],
 u1 3 .box [.tm 1],
 u1 4 .mov [.cn (.bool false)]])
 (.seq (.seq (.region [u1 6 (.load true 3) [.tm 2],
 u1 7 (.load true 3) [.tm 3],
 u1 8 (.eqv false [false, true, true]) [.tm 6, .tm 7]])
 (.cond (.tm 8) (.seq (.region [u1 4 .mov [.cn (.bool false)]])
 .ret)
  .skip))
 (.seq (.seq (.region [u1 9 (.fieldAddr 0) [.tm 2],
 u1 10 (.load false 1) [.tm 9],
 u1 11 (.fieldAddr 0) [.tm 3],
 u1 12 (.load false 1) [.tm 11],
 u1 13 (.eqb true) [.tm 10, .tm 12]])
 (.cond (.tm 13) (.seq (.region [u1 14 (.fieldAddr 0) [.tm 2],
 u1 15 (.load false 1) [.tm 14],
 u1 4 .mov [.tm 15]])
 .ret)
  .skip))
 (.seq (.region [u1 16 (.fieldAddr 1) [.tm 2],
 u1 17 (.load false 1) [.tm 16],
 u1 18 (.fieldAddr 1) [.tm 3],
 u1 19 (.load false 1) [.tm 18],
 u1 20 (.cmp .lss) [.tm 17, .tm 19],
 u1 21 .mov [.tm 20],
 u2 22 21 false (.fieldAddr 1) [.tm 2],
 u2 23 21 false (.load false 1) [.tm 22],
 u2 24 21 false (.fieldAddr 1) [.tm 3],
 u2 25 21 false (.load false 1) [.tm 24],
 u2 26 21 false (.cmp .eql) [.tm 23, .tm 25],
 u2 27 21 false .mov [.tm 26],
 u2 28 27 true (.fieldAddr 2) [.tm 2],
 u2 29 27 true (.load false 1) [.tm 28],
 u2 30 27 true (.fieldAddr 2) [.tm 3],
 u2 31 27 true (.load false 1) [.tm 30],
 u2 32 27 true (.cmp .lss) [.tm 29, .tm 31],
 u2 33 21 false .and [.tm 27, .tm 32],
 u1 34 .or [.tm 21, .tm 33],
 u1 5 .mov [.tm 34]])
 (.seq (.region [u1 35 .mov [.tm 5],
 u1 36 (.fieldAddr 0) [.tm 2],
 u1 37 (.load false 1) [.tm 36],
 u1 38 (.eqb true) [.tm 35, .tm 37],
 u1 4 .mov [.tm 38]])
 .ret))))) }
theorem v51_is : vfunc Try.prog Try.f51 = some v51 := by kernel_rfl
def v27 : VF := { ntmps := 56, res := [.tmp 6, .tmp 7], body :=
 (.seq (.region [u1 3 .box [.tm 0],
 u1 6 .mov [.cn (.int .i64 0)],
 u1 7 .mov [.cn (.bool false)]])
 (.seq (.seq (.region [u1 10 (.fieldAddr 1) [.tm 3],
 u1 11 (.load false 1) [.tm 10],
 u1 12 .mov [.tm 1],
 u1 13 (.cmp .geq) [.tm 11, .tm 12]])
 (.cond (.tm 13) (.seq (.region [u1 6 .mov [.cn (.int .i64 0)],
 u1 7 .mov [.cn (.bool false)]])
 .ret)
  .skip))
 (.seq (.region [u1 15 (.fieldAddr 1) [.tm 3],
 u1 16 (.load false 1) [.tm 15],
 u1 17 (.fieldAddr 2) [.tm 3],
 u1 18 (.load false 1) [.tm 17],
 u1 19 .mov [.tm 1],
 u1 20 (.call 40) [.tm 16, .tm 18, .tm 19],
 u1 14 .mov [.tm 20],
 u1 21 (.ext 0) [.tm 14],
 u1 22 (.ext 1) [.tm 14],
 u1 8 .mov [.tm 21],
 u1 9 .mov [.tm 22]])
 (.seq (.seq (.region [u1 23 .mov [.tm 9],
 u1 24 (.cmp .neq) [.tm 23, .cn (.int .u64 0)],
 u1 25 .mov [.tm 24],
 u2 26 25 true .mov [.tm 2],
 u2 27 25 true (.fieldAddr 0) [.tm 3],
 u2 28 25 true (.load false 1) [.tm 27],
 u2 29 25 true (.eqb true) [.tm 26, .tm 28],
 u1 30 .and [.tm 25, .tm 29]])
 (.cond (.tm 30) (.region [u1 31 .mov [.tm 8],
 u1 32 (.ari .add) [.tm 31, .cn (.int .u64 1)],
 u1 8 .mov [.tm 32]])
  .skip))
 (.seq (.seq (.region [u1 33 .mov [.tm 8],
 u1 34 (.cmp .gtr) [.tm 33, .cn (.int .u64 4611686018427387904)],
 u1 35 .mov [.tm 34],
 u2 36 35 false .mov [.tm 8],
 u2 37 35 false (.cmp .eql) [.tm 36, .cn (.int .u64 0)],
 u2 38 35 false .mov [.tm 37],
 u2 39 38 true .mov [.tm 9],
 u2 40 38 true (.cmp .neq) [.tm 39, .cn (.int .u64 0)],
 u2 41 35 false .and [.tm 38, .tm 40],
 u2 42 35 false .mov [.tm 41],
 u2 43 42 true .mov [.tm 2],
 u2 44 42 true (.fieldAddr 0) [.tm 3],
 u2 45 42 true (.load false 1) [.tm 44],
 u2 46 42 true (.eqb true) [.tm 43, .tm 45],
 u2 47 35 false .and [.tm 42, .tm 46],
 u1 48 .or [.tm 35, .tm 47]])
 (.cond (.tm 48) (.seq (.region [u1 6 .mov [.cn (.int .i64 0)],
 u1 7 .mov [.cn (.bool false)]])
 .ret)
  .skip))
 (.seq (.seq (.region [u1 49 (.fieldAddr 0) [.tm 3],
 u1 50 (.load false 1) [.tm 49]])
 (.cond (.tm 50) (.seq (.region [u1 51 .mov [.tm 8],
 u1 52 (.conv .i64) [.tm 51],
 u1 53 .neg [.tm 52],
 u1 6 .mov [.tm 53],
 u1 7 .mov [.cn (.bool true)]])
 .ret)
  .skip))
 (.seq (.region [u1 54 .mov [.tm 8],
 u1 55 (.conv .i64) [.tm 54],
 u1 6 .mov [.tm 55],
 u1 7 .mov [.cn (.bool true)]])
 .ret))))))) }
theorem v27_is : vfunc Try.prog Try.f27 = some v27 := by kernel_rfl
def v42 : VF := { ntmps := 58, res := [.cell 4 true 2, .tmp 5], body :=
 (.seq (.region [u1 4 (.alloc [(.int .i64 0), (.int .i64 0)]) [],
 u1 5 .mov [.cn (.int .i64 0)]])
 (.seq (.draw [(6, .box [(.bool false), (.int .u64 0), (.int .u64 0)]), (7, .box [(.bool false), (.int .u64 0), (.int .u64 0)])] [w1 14 .mov [.tm 1],
 w1 15 (.idxAddr 3) [.tm 14, .cn (.int .i64 0)],
 w1 16 (.load true 3) [.tm 15],
 w1 17 .mov [.tm 1],
 w1 18 (.idxAddr 3) [.tm 17, .cn (.int .i64 0)],
 w1 19 (.load true 3) [.tm 18],
 ⟨u0 (.store 3) [.tm 6, .tm 16], [.tm 18]⟩,
 w0 (.store 3) [.tm 7, .tm 19]])
 (.seq (.seq (.region [u1 20 .mov [.tm 1],
 u1 21 (.slice 3 true false) [.tm 20, .cn (.int .i64 1)],
 u1 22 .len [.tm 21],
 u1 23 .mov [.cn (.int .i64 0)]])
 (.block 0 (.loop (.seq (.region [u1 24 (.cmp .lss) [.tm 23, .tm 22]])
 (.seq (.cond (.tm 24) .skip
  (.exit 0))
 (.seq (.block 1 (.seq (.region [u1 25 (.idxAddr 3) [.tm 21, .tm 23],
 u1 26 (.load true 3) [.tm 25],
 u1 9 (.alloc [(.bool false), (.int .u64 0), (.int .u64 0)]) [],
 u0 (.store 3) [.tm 9, .tm 26]])
 (.seq (.seq (.region [u1 27 (.load true 3) [.tm 9],
 u1 28 (.load true 3) [.tm 6],
 u1 29 (.call 51) [.tm 27, .tm 28]])
 (.cond (.tm 29) (.region [u1 30 (.load true 3) [.tm 9],
 u0 (.store 3) [.tm 6, .tm 30]])
  .skip))
 (.seq (.region [u1 31 (.load true 3) [.tm 7],
 u1 32 (.load true 3) [.tm 9],
 u1 33 (.call 51) [.tm 31, .tm 32]])
 (.cond (.tm 33) (.region [u1 34 (.load true 3) [.tm 9],
 u0 (.store 3) [.tm 7, .tm 34]])
  .skip)))))
 (.region [u1 35 (.ari .add) [.tm 23, .cn (.int .i64 1)],
 u1 23 .mov [.tm 35]])))))))
 (.seq (.region [u1 37 (.load true 3) [.tm 6],
 u1 38 .mov [.tm 0],
 u1 39 (.call 27) [.tm 37, .tm 38, .cn (.bool false)],
 u1 36 .mov [.tm 39],
 u1 40 (.ext 0) [.tm 36],
 u1 41 (.ext 1) [.tm 36],
 u1 10 .mov [.tm 40],
 u1 11 .mov [.tm 41]])
 (.seq (.region [u1 43 (.load true 3) [.tm 7],
 u1 44 .mov [.tm 0],
 u1 45 (.call 27) [.tm 43, .tm 44, .cn (.bool true)],
 u1 42 .mov [.tm 45],
 u1 46 (.ext 0) [.tm 42],
 u1 47 (.ext 1) [.tm 42],
 u1 12 .mov [.tm 46],
 u1 13 .mov [.tm 47]])
 (.seq (.seq (.region [u1 48 .mov [.tm 11],
 u1 49 .not [.tm 48],
 u1 50 .mov [.tm 49],
 u2 51 50 false .mov [.tm 13],
 u2 52 50 false .not [.tm 51],
 u1 53 .or [.tm 50, .tm 52]])
 (.cond (.tm 53) (.seq (.region [u1 54 (.build [(.int .i64 0), (.int .i64 0)] []) [],
 u0 (.store 2) [.tm 4, .tm 54],
 u1 5 .mov [.cn (.int .i64 7)]])
 .ret)
  .skip))
 (.seq (.region [u1 55 .mov [.tm 10],
 u1 56 .mov [.tm 12],
 u1 57 (.build [(.int .i64 0), (.int .i64 0)] [(0, 1), (1, 1)]) [.tm 55, .tm 56],
 u0 (.store 2) [.tm 4, .tm 57],
 u1 5 .mov [.cn (.int .i64 0)]])
 .ret))))))) }
theorem v42_is : vfunc Try.prog Try.f42 = some v42 := by kernel_rfl
def v28 : VF := { ntmps := 18, res := [.cell 4 true 2, .tmp 5], body :=
 (.seq (.region [u1 4 (.alloc [(.int .i64 0), (.int .i64 0)]) [],
 u1 5 .mov [.cn (.int .i64 0)]])
 (.seq (.seq (.region [u1 6 .mov [.tm 0],
 u1 7 (.call 37) [.tm 6],
 u1 8 .not [.tm 7],
 u1 9 .mov [.tm 8],
 u2 10 9 false .mov [.tm 1],
 u2 11 9 false (.call 37) [.tm 10],
 u2 12 9 false .not [.tm 11],
 u1 13 .or [.tm 9, .tm 12]])
 (.cond (.tm 13) (.seq (.region [u1 14 (.build [(.int .i64 0), (.int .i64 0)] []) [],
 u0 (.store 2) [.tm 4, .tm 14],
 u1 5 .mov [.cn (.int .i64 7)]])
 .ret)
  .skip))
 (.seq (.region [u1 15 .mov [.tm 0],
 u1 16 .mov [.tm 1],
 u1 17 (.build [(.int .i64 0), (.int .i64 0)] [(0, 1), (1, 1)]) [.tm 15, .tm 16],
 u0 (.store 2) [.tm 4, .tm 17],
 u1 5 .mov [.cn (.int .i64 0)]])
 .ret))) }
theorem v28_is : vfunc Try.prog Try.f28 = some v28 := by kernel_rfl


def numC : Ctr := { alias := false, of := fun l => match l with | [.int .i64 n] => .fin (.bool (numOk n)) [] | _ => noC }
def ivlC : Ctr := { alias := false, of := fun a => match a with
  | [.vs _ _ n sz get] => .ex (List Iv) fun l => .pre (lsP 2 enc2 n sz get l ∧ l.length ≤ 1000000) (.fin (.int .i64 (ivE l)) [])
  | _ => noC }
def sizC : Ctr := { alias := false, of := fun l => match l with
  | [.int .i64 n] => .pre (-9223372036854775808 ≤ n ∧ n ≤ 9223372036854775807) (.fin (.int .u64 (n.natAbs : Int)) [])
  | _ => noC }
def timC : Ctr := { alias := false, of := fun l => match l with
  | [.int .i64 a, .int .i64 b] => .pre ((-9223372036854775808 ≤ a ∧ a ≤ 9223372036854775807) ∧ -9223372036854775808 ≤ b ∧ b ≤ 9223372036854775807) (.fin (.agg (longE (a * b))) [])
  | _ => noC }
def lessC : Ctr := { alias := false, of := fun l => match l with
  | [.agg [.bool n, .int .u64 h, .int .u64 lo], .agg [.bool n', .int .u64 h', .int .u64 lo']] => .ex Int fun x => .ex Int fun y => .pre (longP x n h lo ∧ longP y n' h' lo') (.fin (.bool (decide (x < y))) [])
  | _ => noC }
def overC : Ctr := { alias := false, of := fun l => match l with
  | [.agg [.bool n, .int .u64 h, .int .u64 lo], .int .u64 d, .bool up] => .ex Int fun x => .pre (longP x n h lo ∧ big x ∧ 0 < d ∧ d ≤ 18446744073709551615) (.fin (.tup [.int .i64 (rndF up x d).1, .bool (rndF up x d).2]) [])
  | _ => noC }
def spanC : Ctr := { alias := false, of := fun l => match l with
  | [.int .u64 d, .vs _ _ n sz get] => .ex Int fun x => .ex (List Int) fun r => .pre (lsP 3 longE n sz get (x :: r) ∧ r.length ≤ 1000 ∧ (∀ y ∈ x :: r, big y) ∧ 0 < d ∧ d ≤ 18446744073709551615) (.fin (.tup [.agg (enc2 (spanI d x r).1), .int .i64 (spanI d x r).2]) [])
  | _ => noC }
def fitC : Ctr := { alias := false, of := fun l => match l with
  | [.int .i64 a, .int .i64 b] => .fin (.tup [.agg (enc2 (fitF a b).1), .int .i64 (fitF a b).2]) []
  | _ => noC }

def P0 : Env := { ct := fun _ => none, fn := fun _ => none, meth := fun _ _ => none }
theorem P0_ok : EnvOk Try.prog P0 := by
  refine ⟨fun f c h => ?_, fun f vf h => ?_, (fun _ _ _ h => by cases h), by kernel_rfl, (fun _ h => by cases h)⟩
  · cases h
  · cases h

theorem num_ok : numC.ok Try.prog 37 := by
  refine contract Try.func37 v37_is P0_ok 100 numC fun args k h => ⟨args, ?_⟩
  simp only [numC] at h
  split at h
  · refine ⟨by simp [leL, le], ?_⟩
    (try dsimp only [v37, go_sem, Option.bind, Option.map, List.append_nil, Nat.beq, List.cons_append, List.nil_append, List.append_eq, List.map_cons, List.map_nil, ite_self, reduceIte])
    (try simp only [true_and, and_true, imp_self, implies_true, decide_eq_true_eq, decide_eq_false_iff_not, Nat.reduceAdd, Nat.reduceLeDiff, Bool.not_not, reduceCtorEq, false_imp_iff, Bool.not_eq_true', Bool.not_eq_false', Bool.false_eq_true, and_self, forall_const, ne_eq, not_false_eq_true, Nat.reduceEqDiff])
    exact ans_bool h
  · exact h.1.elim
theorem siz_ok : sizC.ok Try.prog 39 := by
  refine contract Try.func39 v39_is P0_ok 100 sizC fun args k h => ⟨args, ?_⟩
  simp only [sizC] at h
  split at h
  · rename_i n
    obtain ⟨⟨h0, h1⟩, h⟩ := h
    refine ⟨by simp [leL, le], ?_⟩
    (try dsimp only [v39, go_sem, Option.bind, Option.map, List.append_nil, Nat.beq, List.cons_append, List.nil_append, List.append_eq, List.map_cons, List.map_nil, ite_self, reduceIte])
    (try simp only [true_and, and_true, imp_self, implies_true, decide_eq_true_eq, decide_eq_false_iff_not, Nat.reduceAdd, Nat.reduceLeDiff, Bool.not_not, reduceCtorEq, false_imp_iff, Bool.not_eq_true', Bool.not_eq_false', Bool.false_eq_true, and_self, forall_const, ne_eq, not_false_eq_true, Nat.reduceEqDiff])
    have e : IntKind.u64.wrap (max n (IntKind.i64.wrap (0 - n))) = (n.natAbs : Int) := by
      rcases Int.lt_or_le n (-9223372036854775807) with h' | h'
      · obtain rfl : n = -9223372036854775808 := by omega
        decide
      · rw [IntWalk.i64_in _ (by omega), IntWalk.u64_in _ (by omega)]; omega
    rw [e]
    exact ans_int h
  · exact h.1.elim

def P1 : Env := { ct := fun n => match n with | 37 => some numC | 39 => some sizC | 38 => some mul64C | 40 => some div64C | _ => none, fn := fun _ => none, meth := fun _ _ => none }
theorem P1_ct37 : P1.ct 37 = some numC := rfl
theorem P1_ct39 : P1.ct 39 = some sizC := rfl
theorem P1_ct38 : P1.ct 38 = some mul64C := rfl
theorem P1_ct40 : P1.ct 40 = some div64C := rfl
theorem P1_ok : EnvOk Try.prog P1 := by
  refine ⟨fun f c h => ?_, fun f vf h => ?_, (fun _ _ _ h => by cases h), by kernel_rfl, (fun _ h => by cases h)⟩
  · simp only [P1] at h
    split at h
    · cases h; exact ⟨num_ok, Try.f37, Try.func37, by kernel_rfl, by kernel_rfl⟩
    · cases h; exact ⟨siz_ok, Try.f39, Try.func39, by kernel_rfl, by kernel_rfl⟩
    · cases h; exact ⟨mul64_ok, Try.f38, Try.func38, by kernel_rfl, by kernel_rfl⟩
    · cases h; exact ⟨div64_ok, Try.f40, Try.func40, by kernel_rfl, by kernel_rfl⟩
    · cases h
  · cases h


theorem ivl_ok : ivlC.ok Try.prog 25 := by
  refine contract Try.func25 v25_is P1_ok 400 ivlC fun args k h => ?_
  simp only [ivlC] at h
  split at h
  · rename_i tt z n sz get
    obtain ⟨l, ⟨⟨rfl, rfl, hg⟩, hmax⟩, h⟩ := h
    refine ⟨[.vs tt z l.length 2 (fun k => enc2 (l.getD k default))], by simpa [leL, le] using hg, ?_⟩
    (try dsimp only [v25, enc2, go_sem, Option.bind, Option.map, List.append_nil, Nat.beq, List.cons_append, List.nil_append, List.append_eq, List.map_cons, List.map_nil, ite_self, reduceIte])
    (try simp only [true_and, and_true, imp_self, implies_true, decide_eq_true_eq, decide_eq_false_iff_not, Nat.reduceAdd, Nat.reduceLeDiff, Bool.not_not, reduceCtorEq, false_imp_iff, Bool.not_eq_true', Bool.not_eq_false', Bool.false_eq_true, and_self, forall_const, ne_eq, not_false_eq_true, Nat.reduceEqDiff])
    refine Loop.keep [0, 6, 0, 0] Nat (fun i => [(9, .int .i64 i)]) (fun _ => []) [] (fun i => i ≤ l.length ∧ ∀ j, j < i → (numOk (l.getD j default).1 && numOk (l.getD j default).2) = true) (fun i => l.length - i) ?_ ?_
    · refine ⟨0, ⟨Nat.zero_le _, fun j h => by omega⟩, ?_⟩
      (try dsimp only [go_sem, Option.bind, Option.map, List.append_nil, Nat.beq, List.cons_append, List.nil_append, List.append_eq, List.map_cons, List.map_nil, ite_self, reduceIte])
      simp only [leS_mk, leL_cons, leL_nil, le_junk, le_int, le_bool, le_nil, leLL_nil, leLL_cons, leH_cons, leH_nil, leH1_box, leH1_own, leH1_gone, le_vs, le_agg, le_tup, le_ptr, le_own, le_xp, le_fn, le_opt, le_val, le_elem, le_nil_own, le_nil_vs, leH_ghost, leL_chunk, leXL_id, bnd_int, bnd_bool, bnd_val, bnd_nil, bnd_junk, bnd_vs, bnd_xp, bnd_agg, bnd_tup, bnd_ptr, bnd_own, bnd_elem, bnd_fn, bnd_iface, bnd_opt, bnd_row, bnd_rcell, bnd_imap, bnd_smp, le_row, le_rcell, le_imap, le_smp, leH1_smap, bndL_nil, bndL_cons, lenH_cons, lenH_nil, imp_self, implies_true, true_and, and_true]
      simp
    · rintro i ⟨hi, ha⟩
      (try dsimp only [P1_ct37, numC, enc2, Int.toNat_natCast, go_sem, Option.bind, Option.map, List.append_nil, Nat.beq, List.cons_append, List.nil_append, List.append_eq, List.map_cons, List.map_nil, ite_self, reduceIte])
      (try simp only [true_and, and_true, imp_self, implies_true, decide_eq_true_eq, decide_eq_false_iff_not, Nat.reduceAdd, Nat.reduceLeDiff, Bool.not_not, reduceCtorEq, false_imp_iff, Bool.not_eq_true', Bool.not_eq_false', Bool.false_eq_true, and_self, forall_const, ne_eq, not_false_eq_true, Nat.reduceEqDiff])
      refine ⟨fun hlt => ⟨⟨by omega, hlt⟩, fun hb => ans_int ?_, fun hb => ?_⟩, fun hge => ?_⟩
      · have e := ivE_bad (l := l) (i := i) (by omega) (by rw [← Bool.not_and, Bool.not_eq_true'] at hb; exact hb)
        rw [e] at h; exact h
      · rw [← Bool.not_and] at hb
        refine ⟨i + 1, ⟨by omega, fun j hj => ?_⟩, by omega, ?_⟩
        · rcases Nat.lt_or_ge j i with h' | h'
          · exact ha j h'
          · obtain rfl : j = i := by omega
            simpa using hb
        · have hw := w_succ (i := i) (n := l.length) (by omega) (by omega)
          simp only [hw, leS_mk, leL_cons, leL_nil, le_junk, le_int, le_bool, le_nil, leLL_nil, leLL_cons, leH_cons, leH_nil, leH1_box, leH1_own, leH1_gone, le_vs, le_agg, le_tup, le_ptr, le_own, le_xp, le_fn, le_opt, le_val, le_elem, le_nil_own, le_nil_vs, leH_ghost, leL_chunk, leXL_id, bnd_int, bnd_bool, bnd_val, bnd_nil, bnd_junk, bnd_vs, bnd_xp, bnd_agg, bnd_tup, bnd_ptr, bnd_own, bnd_elem, bnd_fn, bnd_iface, bnd_opt, bnd_row, bnd_rcell, bnd_imap, bnd_smp, le_row, le_rcell, le_imap, le_smp, leH1_smap, bndL_nil, bndL_cons, lenH_cons, lenH_nil, imp_self, implies_true, true_and, and_true] <;> simp
      · obtain rfl : i = l.length := by omega
        refine Loop.keep [0, 23, 0, 0] Nat (fun i => [(26, .int .i64 i)]) (fun _ => []) [] (fun i => i ≤ l.length ∧ ∀ j, j < i → (l.getD j default).1 ≤ (l.getD j default).2) (fun i => l.length - i) ?_ ?_
        · refine ⟨0, ⟨Nat.zero_le _, fun j h => by omega⟩, ?_⟩
          (try dsimp only [go_sem, Option.bind, Option.map, List.append_nil, Nat.beq, List.cons_append, List.nil_append, List.append_eq, List.map_cons, List.map_nil, ite_self, reduceIte])
          simp only [leS_mk, leL_cons, leL_nil, le_junk, le_int, le_bool, le_nil, leLL_nil, leLL_cons, leH_cons, leH_nil, leH1_box, leH1_own, leH1_gone, le_vs, le_agg, le_tup, le_ptr, le_own, le_xp, le_fn, le_opt, le_val, le_elem, le_nil_own, le_nil_vs, leH_ghost, leL_chunk, leXL_id, bnd_int, bnd_bool, bnd_val, bnd_nil, bnd_junk, bnd_vs, bnd_xp, bnd_agg, bnd_tup, bnd_ptr, bnd_own, bnd_elem, bnd_fn, bnd_iface, bnd_opt, bnd_row, bnd_rcell, bnd_imap, bnd_smp, le_row, le_rcell, le_imap, le_smp, leH1_smap, bndL_nil, bndL_cons, lenH_cons, lenH_nil, imp_self, implies_true, true_and, and_true]
          simp
        · rintro i ⟨hi, hc⟩
          (try dsimp only [enc2, Int.toNat_natCast, go_sem, Option.bind, Option.map, List.append_nil, Nat.beq, List.cons_append, List.nil_append, List.append_eq, List.map_cons, List.map_nil, ite_self, reduceIte])
          (try simp only [true_and, and_true, imp_self, implies_true, decide_eq_true_eq, decide_eq_false_iff_not, Nat.reduceAdd, Nat.reduceLeDiff, Bool.not_not, reduceCtorEq, false_imp_iff, Bool.not_eq_true', Bool.not_eq_false', Bool.false_eq_true, and_self, forall_const, ne_eq, not_false_eq_true, Nat.reduceEqDiff])
          refine ⟨fun hlt => ⟨⟨by omega, hlt⟩, fun hb => ans_int ?_, fun hb => ?_⟩, fun hge => ?_⟩
          · have e := ivE_2 ha (i := i) (by omega) (by omega)
            rw [e] at h; exact h
          · refine ⟨i + 1, ⟨by omega, fun j hj => ?_⟩, by omega, ?_⟩
            · rcases Nat.lt_or_ge j i with h' | h'
              · exact hc j h'
              · obtain rfl : j = i := by omega
                omega
            · have hw := w_succ (i := i) (n := l.length) (by omega) (by omega)
              simp only [hw, leS_mk, leL_cons, leL_nil, le_junk, le_int, le_bool, le_nil, leLL_nil, leLL_cons, leH_cons, leH_nil, leH1_box, leH1_own, leH1_gone, le_vs, le_agg, le_tup, le_ptr, le_own, le_xp, le_fn, le_opt, le_val, le_elem, le_nil_own, le_nil_vs, leH_ghost, leL_chunk, leXL_id, bnd_int, bnd_bool, bnd_val, bnd_nil, bnd_junk, bnd_vs, bnd_xp, bnd_agg, bnd_tup, bnd_ptr, bnd_own, bnd_elem, bnd_fn, bnd_iface, bnd_opt, bnd_row, bnd_rcell, bnd_imap, bnd_smp, le_row, le_rcell, le_imap, le_smp, leH1_smap, bndL_nil, bndL_cons, lenH_cons, lenH_nil, imp_self, implies_true, true_and, and_true] <;> simp
          · obtain rfl : i = l.length := by omega
            rw [ivE_0 ha hc] at h
            exact ans_int h
  · exact h.1.elim

theorem tim_ok : timC.ok Try.prog 26 := by
  refine contract Try.func26 v26_is P1_ok 200 timC fun args k h => ⟨args, ?_⟩
  simp only [timC] at h
  split at h
  · rename_i a b
    obtain ⟨⟨ha, hb⟩, h⟩ := h
    refine ⟨by simp [leL, le], ?_⟩
    (try dsimp only [v26, P1_ct39, P1_ct38, sizC, mul64C, go_sem, Option.bind, Option.map, List.append_nil, Nat.beq, List.cons_append, List.nil_append, List.append_eq, List.map_cons, List.map_nil, ite_self, reduceIte])
    (try simp only [true_and, and_true, imp_self, implies_true, decide_eq_true_eq, decide_eq_false_iff_not, Nat.reduceAdd, Nat.reduceLeDiff, Bool.not_not, reduceCtorEq, false_imp_iff, Bool.not_eq_true', Bool.not_eq_false', Bool.false_eq_true, and_self, forall_const, ne_eq, not_false_eq_true, Nat.reduceEqDiff])
    obtain ⟨P, hP⟩ : ∃ P, P = a.natAbs * b.natAbs := ⟨_, rfl⟩
    have hPb : P ≤ 9223372036854775808 * 9223372036854775808 := by rw [hP]; exact Nat.mul_le_mul (by omega) (by omega)
    have e0 : (a.natAbs : Int) * (b.natAbs : Int) = (P : Int) := by rw [hP]; exact (Int.natCast_mul _ _).symm
    have e1 : (P : Int) / 18446744073709551616 = ((P / 18446744073709551616 : Nat) : Int) := by omega
    have e2 : (P : Int) % 18446744073709551616 = ((P % 18446744073709551616 : Nat) : Int) := by omega
    rw [e0, e1, e2, bI_or (by omega) (by omega)]
    refine ⟨ha, hb, ⟨⟨by omega, by omega⟩, by omega, by omega⟩, by decide, by decide, ?_⟩
    have e3 : (a * b).natAbs = P := by rw [hP, Int.natAbs_mul]
    have e4 : (!(decide (a < 0) == decide (b < 0)) && !decide (((P / 18446744073709551616 ||| P % 18446744073709551616 : Nat) : Int) = 0)) = decide (a * b < 0) := by
      have z : decide (((P / 18446744073709551616 ||| P % 18446744073709551616 : Nat) : Int) = 0) = decide (P = 0) := by
        congr 1
        apply propext
        have := @Nat.or_eq_zero_iff (P / 18446744073709551616) (P % 18446744073709551616)
        omega
      rw [z]
      have hz : P = 0 ↔ a = 0 ∨ b = 0 := by rw [hP, Nat.mul_eq_zero]; omega
      rcases Int.lt_trichotomy a 0 with h1 | h1 | h1 <;> rcases Int.lt_trichotomy b 0 with h2 | h2 | h2
      · have := Int.mul_pos_of_neg_of_neg h1 h2
        simp [h1, h2]; omega
      · subst h2; simp [hz]
      · have := Int.mul_neg_of_neg_of_pos h1 h2
        have hb' : ¬ b < 0 := by omega
        simp [h1, hb', this, hz]; omega
      · subst h1; simp [hz]
      · subst h1; simp [hz]
      · subst h1; simp [hz]
      · have := Int.mul_neg_of_pos_of_neg h1 h2
        have ha' : ¬ a < 0 := by omega
        simp [h2, ha', this, hz]; omega
      · subst h2; simp [hz]
      · have := Int.mul_pos h1 h2
        have ha' : ¬ a < 0 := by omega
        have hb' : ¬ b < 0 := by omega
        simp [ha', hb']; omega
    rw [e4]
    have h : k (.agg (longE (a * b))) [] := h
    rw [longE, e3] at h
    exact ans_le (show k _ [] from h) (le_self (.agg [.bool (decide (a * b < 0)), .int .u64 ((P / 18446744073709551616 : Nat) : Int), .int .u64 ((P % 18446744073709551616 : Nat) : Int)]) ⟨trivial, trivial, trivial, trivial⟩) (fun _ => by simp [freshS, freshL])
  · exact h.1.elim
theorem less_ok : lessC.ok Try.prog 51 := by
  refine contract Try.func51 v51_is P1_ok 200 lessC fun args k h => ⟨args, ?_⟩
  simp only [lessC] at h
  split at h
  · rename_i n hi lo n' hi' lo'
    obtain ⟨x, y, ⟨⟨rfl, rfl, rfl⟩, rfl, rfl, rfl⟩, h⟩ := h
    refine ⟨by simp [leL, le], ?_⟩
    (try dsimp only [v51, go_sem, Option.bind, Option.map, List.append_nil, Nat.beq, List.cons_append, List.nil_append, List.append_eq, List.map_cons, List.map_nil, ite_self, reduceIte])
    (try simp only [true_and, and_true, imp_self, implies_true, decide_eq_true_eq, decide_eq_false_iff_not, Nat.reduceAdd, Nat.reduceLeDiff, Bool.not_not, reduceCtorEq, false_imp_iff, Bool.not_eq_true', Bool.not_eq_false', Bool.false_eq_true, and_self, forall_const, ne_eq, not_false_eq_true, Nat.reduceEqDiff])
    refine ⟨fun hc => ans_bool ?_, fun hc => ⟨fun hd => ans_bool ?_, fun hd => ⟨fun h1 h2 => by rw [decide_eq_false h1, decide_eq_true h2]; rfl, ans_bool ?_⟩⟩⟩
    · simp only [Bool.and_eq_true, Bool.and_true, decide_eq_true_eq, beq_iff_eq, decide_eq_decide] at hc
      have : x = y := by omega
      subst this
      have h : k (.bool (decide (x < x))) [] := h
      rw [decide_eq_false (Int.lt_irrefl x)] at h
      exact h
    · have : decide (x < y) = decide (x < 0) := by
        rw [beq_eq_false_iff_ne, ne_eq, decide_eq_decide] at hd
        rw [decide_eq_decide]; omega
      rw [← this]; exact h
    · have : (!((decide (((x.natAbs / 18446744073709551616 : Nat) : Int) < ((y.natAbs / 18446744073709551616 : Nat) : Int)) || decide (((x.natAbs / 18446744073709551616 : Nat) : Int) = ((y.natAbs / 18446744073709551616 : Nat) : Int)) && decide (((x.natAbs % 18446744073709551616 : Nat) : Int) < ((y.natAbs % 18446744073709551616 : Nat) : Int))) == decide (x < 0))) = decide (x < y) := by
        simp only [beq_iff_eq, decide_eq_decide] at hd
        simp only [Bool.and_eq_false_iff, Bool.and_true, decide_eq_false_iff_not, beq_eq_false_iff_ne, ne_eq, decide_eq_decide] at hc
        have e : (decide (((x.natAbs / 18446744073709551616 : Nat) : Int) < ((y.natAbs / 18446744073709551616 : Nat) : Int)) || decide (((x.natAbs / 18446744073709551616 : Nat) : Int) = ((y.natAbs / 18446744073709551616 : Nat) : Int)) && decide (((x.natAbs % 18446744073709551616 : Nat) : Int) < ((y.natAbs % 18446744073709551616 : Nat) : Int))) = decide (x.natAbs < y.natAbs) := by
          rw [Bool.eq_iff_iff]
          simp only [Bool.or_eq_true, Bool.and_eq_true, decide_eq_true_eq]
          omega
        rw [e]
        by_cases hx : x < 0
        · rw [decide_eq_true hx, Bool.eq_iff_iff, Bool.not_eq_true', beq_eq_false_iff_ne, ne_eq, decide_eq_true_eq, decide_eq_true_eq]; omega
        · rw [decide_eq_false hx, Bool.eq_iff_iff, Bool.not_eq_true', beq_eq_false_iff_ne, ne_eq, decide_eq_false_iff_not, decide_eq_true_eq]; omega
      rw [this]; exact h
  · exact h.1.elim
theorem over_ok : overC.ok Try.prog 27 := by
  refine contract Try.func27 v27_is P1_ok 200 overC fun args k h => ⟨args, ?_⟩
  simp only [overC] at h
  split at h
  · rename_i n hi lo d up
    obtain ⟨x, ⟨⟨rfl, rfl, rfl⟩, hbx, hd0, hd1⟩, h⟩ := h
    refine ⟨by simp [leL, le], ?_⟩
    (try dsimp only [v27, P1_ct40, div64C, go_sem, Option.bind, Option.map, List.append_nil, Nat.beq, List.cons_append, List.nil_append, List.append_eq, List.map_cons, List.map_nil, ite_self, reduceIte])
    (try simp only [true_and, and_true, imp_self, implies_true, decide_eq_true_eq, decide_eq_false_iff_not, Nat.reduceAdd, Nat.reduceLeDiff, Bool.not_not, reduceCtorEq, false_imp_iff, Bool.not_eq_true', Bool.not_eq_false', Bool.false_eq_true, and_self, forall_const, ne_eq, not_false_eq_true, Nat.reduceEqDiff])
    obtain ⟨d, rfl⟩ := Int.eq_ofNat_of_zero_le (by omega : 0 ≤ d)
    obtain ⟨m, hm⟩ : ∃ m, m = x.natAbs := ⟨_, rfl⟩
    have hT := rnd_abs (up := up) (x := x) (d := d) (by omega)
    have e0 : ((m / 18446744073709551616 : Nat) : Int) * 18446744073709551616 + ((m % 18446744073709551616 : Nat) : Int) = m := by omega
    have e1 : (m : Int) / (d : Int) = ((m / d : Nat) : Int) := (Int.natCast_ediv _ _).symm
    have e2 : (m : Int) % (d : Int) = ((m % d : Nat) : Int) := (Int.natCast_emod _ _).symm
    rw [← hm] at hT ⊢
    rw [e0, e1, e2]
    have hF : rndF up x d = rndB (nsg (decide (x < 0)) (m / d + bump up (decide (x < 0)) (m % d))) := by unfold rndF; rw [hT]
    have hfail : 4611686018427387904 < m / d + bump up (decide (x < 0)) (m % d) → rndF up x d = (0, false) := fun hh => by
      rw [hF, rndB, if_neg]
      have := nsg_abs (decide (x < 0)) (m / d + bump up (decide (x < 0)) (m % d))
      omega
    have hgood : m / d + bump up (decide (x < 0)) (m % d) ≤ 4611686018427387904 → rndF up x d = (nsg (decide (x < 0)) (m / d + bump up (decide (x < 0)) (m % d)), true) := fun hh => by
      rw [hF, rndB, if_pos]
      have := nsg_abs (decide (x < 0)) (m / d + bump up (decide (x < 0)) (m % d))
      omega
    have h : k (.tup [.int .i64 (rndF up x d).1, .bool (rndF up x d).2]) [] := h
    have fin : ∀ (t : Int) (b : Bool) (hp : List HO), rndF up x d = (t, b) → answers overC.alias k (.tup [.int .i64 t, .bool b]) hp := fun t b hp hh => by
      rw [hh] at h
      exact ans_le (show k _ [] from h) (le_self (.tup [.int .i64 t, .bool b]) ⟨trivial, trivial, trivial⟩) (fun _ => by simp [freshS, freshL])
    have hQ1 : ¬ (d : Int) ≤ ((m / 18446744073709551616 : Nat) : Int) → m / d < 18446744073709551616 := fun hc => by
      rw [Nat.div_lt_iff_lt_mul (by omega)]
      have h1 : m / 18446744073709551616 < d := by omega
      rw [Nat.div_lt_iff_lt_mul (by decide)] at h1
      rw [Nat.mul_comm]; exact h1
    have hQ2 : (d : Int) ≤ ((m / 18446744073709551616 : Nat) : Int) → 18446744073709551616 ≤ m / d := fun hc => by
      rw [Nat.le_div_iff_mul_le (by omega)]
      have h1 : d ≤ m / 18446744073709551616 := by omega
      rw [Nat.le_div_iff_mul_le (by decide)] at h1
      rw [Nat.mul_comm]; exact h1
    have hd0' : (0 : Int) < (d : Int) := hd0
    clear hT e1 e2
    generalize m / d = Q at *
    generalize m % d = R at *
    have ez : (!decide ((R : Int) = 0)) = decide (R ≠ 0) := by
      rw [← decide_not]; congr 1; exact propext (by omega)
    refine ⟨fun hc => fin _ _ _ (hfail ?_), fun hc => ⟨⟨⟨by omega, by omega⟩, by omega, by omega, by omega⟩, by decide, by decide, fun hb => ?_, fun hb => ?_⟩⟩
    · have := hQ2 hc
      omega
    · have hQ := hQ1 hc
      rw [ez] at hb ⊢
      have hbump : bump up (decide (x < 0)) (R) = 1 := by unfold bump; exact if_pos hb
      rw [hbump] at hfail hgood
      have hcond : ∀ w : Int, ((decide (4611686018427387904 < w) || decide (w = 0) && decide (R ≠ 0) && !(up == decide (x < 0))) = true ↔ 4611686018427387904 < w ∨ w = 0) := fun w => by
        rw [Bool.and_assoc, hb, Bool.and_true, Bool.or_eq_true, decide_eq_true_eq, decide_eq_true_eq]
      have hw : (4611686018427387904 < IntKind.u64.wrap ((Q : Int) + 1) ∨ IntKind.u64.wrap ((Q : Int) + 1) = 0) ↔ 4611686018427387904 < Q + 1 := by
        rw [u_mod]; omega
      refine ⟨fun h1 h2 => by rw [decide_eq_false h1, decide_eq_true h2]; rfl, fun h1 h2 => by rw [decide_eq_false h1, h2]; rfl, fun hcc => fin _ _ _ (hfail (hw.1 ((hcond _).1 hcc))), fun hcc => ?_⟩
      have hsm : Q + 1 ≤ 4611686018427387904 := by
        refine Nat.le_of_not_lt fun hh => ?_
        have := (hcond _).2 (hw.2 hh)
        rw [hcc] at this; cases this
      have hg := hgood hsm
      rw [IntWalk.u64_in _ (by omega)]
      refine ⟨fun hx => fin _ _ _ ?_, fun hx => fin _ _ _ ?_⟩
      · rw [hg, IntWalk.i64_in ((Q : Int) + 1) (by omega), IntWalk.i64_in _ (by omega)]
        unfold nsg
        simp only [hx, decide_true, if_true]
        congr 1 <;> omega
      · rw [hg, IntWalk.i64_in _ (by omega)]
        unfold nsg
        simp only [hx, decide_false, Bool.false_eq_true, if_false]
        rfl
    · have hQ := hQ1 hc
      rw [ez] at hb ⊢
      have hbump : bump up (decide (x < 0)) (R) = 0 := by unfold bump; exact if_neg (by rw [show (up != decide (x < 0)) = !(up == decide (x < 0)) from rfl, hb]; simp)
      rw [hbump, Nat.add_zero] at hfail hgood
      have hcond : ∀ w : Int, ((decide (4611686018427387904 < w) || decide (w = 0) && decide (R ≠ 0) && !(up == decide (x < 0))) = true ↔ 4611686018427387904 < w) := fun w => by
        rw [Bool.and_assoc, hb, Bool.and_false, Bool.or_false, decide_eq_true_eq]
      refine ⟨fun h1 h2 => by rw [decide_eq_false h1, decide_eq_true h2]; rfl, fun h1 h2 => by rw [decide_eq_false h1, h2]; rfl, fun hcc => fin _ _ _ (hfail (by have := (hcond _).1 hcc; omega)), fun hcc => ?_⟩
      have hsm : Q ≤ 4611686018427387904 := by
        refine Nat.le_of_not_lt fun hh => ?_
        have := (hcond (Q : Int)).2 (by omega)
        rw [hcc] at this; cases this
      have hg := hgood hsm
      refine ⟨fun hx => fin _ _ _ ?_, fun hx => fin _ _ _ ?_⟩
      · rw [hg, IntWalk.i64_in (Q : Int) (by omega), IntWalk.i64_in _ (by omega)]
        unfold nsg
        simp only [hx, decide_true, if_true]
        congr 1 <;> omega
      · rw [hg, IntWalk.i64_in _ (by omega)]
        unfold nsg
        simp only [hx, decide_false, Bool.false_eq_true, if_false]
  · exact h.1.elim
def P2 : Env := { ct := fun n => match n with | 37 => some numC | 51 => some lessC | 27 => some overC | _ => none, fn := fun _ => none, meth := fun _ _ => none }
theorem P2_ct37 : P2.ct 37 = some numC := rfl
theorem P2_ct51 : P2.ct 51 = some lessC := rfl
theorem P2_ct27 : P2.ct 27 = some overC := rfl
theorem P2_ok : EnvOk Try.prog P2 := by
  refine ⟨fun f c h => ?_, fun f vf h => ?_, (fun _ _ _ h => by cases h), by kernel_rfl, (fun _ h => by cases h)⟩
  · simp only [P2] at h
    split at h
    · cases h; exact ⟨num_ok, Try.f37, Try.func37, by kernel_rfl, by kernel_rfl⟩
    · cases h; exact ⟨less_ok, Try.f51, Try.func51, by kernel_rfl, by kernel_rfl⟩
    · cases h; exact ⟨over_ok, Try.f27, Try.func27, by kernel_rfl, by kernel_rfl⟩
    · cases h
  · cases h


theorem fit_ok : fitC.ok Try.prog 28 := by
  refine contract Try.func28 v28_is P2_ok 200 fitC fun args k h => ⟨args, ?_⟩
  simp only [fitC] at h
  split at h
  · rename_i a b
    refine ⟨by simp [leL, le], ?_⟩
    (try dsimp only [v28, P2_ct37, numC, go_sem, Option.bind, Option.map, List.append_nil, Nat.beq, List.cons_append, List.nil_append, List.append_eq, List.map_cons, List.map_nil, ite_self, reduceIte])
    (try simp only [true_and, and_true, imp_self, implies_true, decide_eq_true_eq, decide_eq_false_iff_not, Nat.reduceAdd, Nat.reduceLeDiff, Bool.not_not, reduceCtorEq, false_imp_iff, Bool.not_eq_true', Bool.not_eq_false', Bool.false_eq_true, and_self, forall_const, ne_eq, not_false_eq_true, Nat.reduceEqDiff])
    refine ⟨fun hc => ?_, fun hc => ?_⟩
    · rw [fitF, if_neg (by rw [← Bool.not_and, Bool.not_eq_true'] at hc; simp [hc])] at h
      exact ans_le (show k _ [] from h) (le_self (.tup [.agg (enc2 (0, 0)), .int .i64 7]) ⟨⟨trivial, trivial, trivial⟩, trivial, trivial⟩) (fun _ => by simp [enc2, freshS, freshL])
    · rw [fitF, if_pos (by rw [← Bool.not_and, Bool.not_eq_false'] at hc; exact hc)] at h
      exact ans_le (show k _ [] from h) (le_self (.tup [.agg (enc2 (a, b)), .int .i64 0]) ⟨⟨trivial, trivial, trivial⟩, trivial, trivial⟩) (fun _ => by simp [enc2, freshS, freshL])
  · exact h.1.elim

theorem span_ok : spanC.ok Try.prog 42 := by
  refine contract Try.func42 v42_is P2_ok 400 spanC fun args k h => ?_
  simp only [spanC] at h
  split at h
  · rename_i d tt z n sz get
    obtain ⟨x, r, ⟨⟨rfl, rfl, hg⟩, hmax, hbig, hd0, hd1⟩, h⟩ := h
    refine ⟨[.int .u64 d, .vs tt z (x :: r).length 3 (fun k => longE ((x :: r).getD k default))], ⟨⟨rfl, rfl⟩, by simpa [le] using hg, trivial⟩, ?_⟩
    (try dsimp only [v42, longE, go_sem, Option.bind, Option.map, List.append_nil, Nat.beq, List.cons_append, List.nil_append, List.append_eq, List.map_cons, List.map_nil, ite_self, reduceIte])
    (try simp only [true_and, and_true, imp_self, implies_true, decide_eq_true_eq, decide_eq_false_iff_not, Nat.reduceAdd, Nat.reduceLeDiff, Bool.not_not, reduceCtorEq, false_imp_iff, Bool.not_eq_true', Bool.not_eq_false', Bool.false_eq_true, and_self, forall_const, ne_eq, not_false_eq_true, Nat.reduceEqDiff])
    have hlen : ((x :: r).length : Int) = r.length + 1 := by simp
    refine ⟨⟨by decide, by omega⟩, ⟨by decide, by omega⟩, ⟨by decide, by omega⟩, ?_⟩
    have hlen2 : (x :: r).length - (0 + 1) = r.length := by simp
    refine Loop.keep [0, 0, 2, 0, 0, 0, 13, 0] Nat (fun i => [(23, .int .i64 i)]) (fun i => [(1, .box (longE (lowI x (r.take i)))), (2, .box (longE (highI x (r.take i))))]) [] (fun i => i ≤ r.length) (fun i => r.length - i) ?_ ?_
    · refine ⟨0, Nat.zero_le _, ?_⟩
      (try dsimp only [longE, go_sem, Option.bind, Option.map, List.append_nil, Nat.beq, List.cons_append, List.nil_append, List.append_eq, List.map_cons, List.map_nil, ite_self, reduceIte])
      simp only [leS_mk, leL_cons, leL_nil, le_junk, le_int, le_bool, le_nil, leLL_nil, leLL_cons, leH_cons, leH_nil, leH1_box, leH1_own, leH1_gone, le_vs, le_agg, le_tup, le_ptr, le_own, le_xp, le_fn, le_opt, le_val, le_elem, le_nil_own, le_nil_vs, leH_ghost, leL_chunk, leXL_id, bnd_int, bnd_bool, bnd_val, bnd_nil, bnd_junk, bnd_vs, bnd_xp, bnd_agg, bnd_tup, bnd_ptr, bnd_own, bnd_elem, bnd_fn, bnd_iface, bnd_opt, bnd_row, bnd_rcell, bnd_imap, bnd_smp, le_row, le_rcell, le_imap, le_smp, leH1_smap, bndL_nil, bndL_cons, lenH_cons, lenH_nil, imp_self, implies_true, true_and, and_true]
      refine ⟨by simp, ?_, ?_⟩ <;> simp [lowI, highI] <;> rfl
    · rintro i hi
      (try dsimp only [P2_ct51, P2_ct27, lessC, overC, longE, Int.toNat_natCast, go_sem, Option.bind, Option.map, List.append_nil, Nat.beq, List.cons_append, List.nil_append, List.append_eq, List.map_cons, List.map_nil, ite_self, reduceIte])
      (try simp only [true_and, and_true, imp_self, implies_true, decide_eq_true_eq, decide_eq_false_iff_not, Nat.reduceAdd, Nat.reduceLeDiff, Bool.not_not, reduceCtorEq, false_imp_iff, Bool.not_eq_true', Bool.not_eq_false', Bool.false_eq_true, and_self, forall_const, ne_eq, not_false_eq_true, Nat.reduceEqDiff])
      have ey : (x :: r).getD (1 + i) default = r.getD i default := by rw [Nat.add_comm]; rfl
      have elen : (((x :: r).length - 1 : Nat) : Int) = r.length := by simp
      simp only [ey, elen]
      refine ⟨fun hlt => ⟨⟨by omega, by omega⟩, r.getD i default, lowI x (r.take i), ⟨longP_self _, longP_self _⟩, ?_⟩, fun hge => ?_⟩
      · have eL : lowI x (r.take (i + 1)) = if r.getD i default < lowI x (r.take i) then r.getD i default else lowI x (r.take i) := foldl_take_succ (by omega)
        have eH : highI x (r.take (i + 1)) = if highI x (r.take i) < r.getD i default then r.getD i default else highI x (r.take i) := foldl_take_succ (by omega)
        have hw := w_succ (i := i) (n := r.length) (by omega) (by omega)
        refine ⟨fun h1 => ⟨highI x (r.take i), r.getD i default, ⟨longP_self _, longP_self _⟩, fun h2 => ⟨i + 1, by omega, by omega, ?_⟩, fun h2 => ⟨i + 1, by omega, by omega, ?_⟩⟩,
          fun h1 => ⟨highI x (r.take i), r.getD i default, ⟨longP_self _, longP_self _⟩, fun h2 => ⟨i + 1, by omega, by omega, ?_⟩, fun h2 => ⟨i + 1, by omega, by omega, ?_⟩⟩⟩
        · simp only [eL, eH, if_pos h1, if_pos h2, hw, leS_mk, leL_cons, leL_nil, le_junk, le_int, le_bool, le_nil, leLL_nil, leLL_cons, leH_cons, leH_nil, leH1_box, leH1_own, leH1_gone, le_vs, le_agg, le_tup, le_ptr, le_own, le_xp, le_fn, le_opt, le_val, le_elem, le_nil_own, le_nil_vs, leH_ghost, leL_chunk, leXL_id, bnd_int, bnd_bool, bnd_val, bnd_nil, bnd_junk, bnd_vs, bnd_xp, bnd_agg, bnd_tup, bnd_ptr, bnd_own, bnd_elem, bnd_fn, bnd_iface, bnd_opt, bnd_row, bnd_rcell, bnd_imap, bnd_smp, le_row, le_rcell, le_imap, le_smp, leH1_smap, bndL_nil, bndL_cons, lenH_cons, lenH_nil, imp_self, implies_true, true_and, and_true]
          simp
        · simp only [eL, eH, if_pos h1, if_neg h2, hw, leS_mk, leL_cons, leL_nil, le_junk, le_int, le_bool, le_nil, leLL_nil, leLL_cons, leH_cons, leH_nil, leH1_box, leH1_own, leH1_gone, le_vs, le_agg, le_tup, le_ptr, le_own, le_xp, le_fn, le_opt, le_val, le_elem, le_nil_own, le_nil_vs, leH_ghost, leL_chunk, leXL_id, bnd_int, bnd_bool, bnd_val, bnd_nil, bnd_junk, bnd_vs, bnd_xp, bnd_agg, bnd_tup, bnd_ptr, bnd_own, bnd_elem, bnd_fn, bnd_iface, bnd_opt, bnd_row, bnd_rcell, bnd_imap, bnd_smp, le_row, le_rcell, le_imap, le_smp, leH1_smap, bndL_nil, bndL_cons, lenH_cons, lenH_nil, imp_self, implies_true, true_and, and_true]
          simp
        · simp only [eL, eH, if_neg h1, if_pos h2, hw, leS_mk, leL_cons, leL_nil, le_junk, le_int, le_bool, le_nil, leLL_nil, leLL_cons, leH_cons, leH_nil, leH1_box, leH1_own, leH1_gone, le_vs, le_agg, le_tup, le_ptr, le_own, le_xp, le_fn, le_opt, le_val, le_elem, le_nil_own, le_nil_vs, leH_ghost, leL_chunk, leXL_id, bnd_int, bnd_bool, bnd_val, bnd_nil, bnd_junk, bnd_vs, bnd_xp, bnd_agg, bnd_tup, bnd_ptr, bnd_own, bnd_elem, bnd_fn, bnd_iface, bnd_opt, bnd_row, bnd_rcell, bnd_imap, bnd_smp, le_row, le_rcell, le_imap, le_smp, leH1_smap, bndL_nil, bndL_cons, lenH_cons, lenH_nil, imp_self, implies_true, true_and, and_true]
          simp
        · simp only [eL, eH, if_neg h1, if_neg h2, hw, leS_mk, leL_cons, leL_nil, le_junk, le_int, le_bool, le_nil, leLL_nil, leLL_cons, leH_cons, leH_nil, leH1_box, leH1_own, leH1_gone, le_vs, le_agg, le_tup, le_ptr, le_own, le_xp, le_fn, le_opt, le_val, le_elem, le_nil_own, le_nil_vs, leH_ghost, leL_chunk, leXL_id, bnd_int, bnd_bool, bnd_val, bnd_nil, bnd_junk, bnd_vs, bnd_xp, bnd_agg, bnd_tup, bnd_ptr, bnd_own, bnd_elem, bnd_fn, bnd_iface, bnd_opt, bnd_row, bnd_rcell, bnd_imap, bnd_smp, le_row, le_rcell, le_imap, le_smp, leH1_smap, bndL_nil, bndL_cons, lenH_cons, lenH_nil, imp_self, implies_true, true_and, and_true]
          simp
      · obtain rfl : i = r.length := by omega
        rw [List.take_length]
        have hl := lowI_spec x r
        have hh := highI_spec x r
        refine ⟨lowI x r, ⟨longP_self _, hbig _ hl.1, hd0, hd1⟩, by decide, by decide, highI x r, ⟨longP_self _, hbig _ hh.1, hd0, hd1⟩, by decide, by decide, ?_⟩
        have h : k (.tup [.agg (enc2 (spanI d x r).1), .int .i64 (spanI d x r).2]) [] := h
        unfold spanI spanR at h
        refine ⟨fun hb => ?_, fun hb => ?_⟩
        · rw [if_neg (by rw [← Bool.not_and, Bool.not_eq_true'] at hb; rw [hb]; simp)] at h
          exact ans_le (show k _ [] from h) (le_self (.tup [.agg (enc2 (0, 0)), .int .i64 7]) ⟨⟨trivial, trivial, trivial⟩, trivial, trivial⟩) (fun _ => by simp [enc2, freshS, freshL])
        · rw [if_pos (by rw [← Bool.not_and, Bool.not_eq_false'] at hb; exact hb)] at h
          exact ans_le (show k _ [] from h) (le_self (.tup [.agg (enc2 ((rndF false (lowI x r) d).1, (rndF true (highI x r) d).1)), .int .i64 0]) ⟨⟨trivial, trivial, trivial⟩, trivial, trivial⟩) (fun _ => by simp [enc2, freshS, freshL])
  · exact h.1.elim
end Go.Proofs.Ytijadllhfgajlaa

