/- Logarithms of the program, walked: quick, plus, over, guess. -/
import Derived.Test.YtmgfmkbniaepcaaMgX2d
import Derived.Test.YtmgfmkbniaepcaaMgX2c
set_option linter.all false
namespace Go.Proofs.Ytmgfmkbniaepcaa
open Go Go.Vx
set_option maxRecDepth 100000
set_option maxHeartbeats 4000000
def v64 : VF := { ntmps := 31, res := [.cell 6 true 2], body :=
 (.seq (.region [u1 3 .box [.tm 0],
 u1 6 (.alloc [(.int .u64 0), (.int .u64 0)]) []])
 (.seq (.region [u1 11 .mov [.tm 1],
 u1 12 .mov [.tm 2],
 u1 13 (.call 56) [.tm 11, .tm 12],
 u1 10 .mov [.tm 13],
 u1 14 (.ext 0) [.tm 10],
 u1 15 (.ext 1) [.tm 10],
 u1 7 .mov [.tm 14],
 u1 8 .mov [.tm 15]])
 (.seq (.region [u1 17 (.fieldAddr 1) [.tm 3],
 u1 18 (.load false 1) [.tm 17],
 u1 19 .mov [.tm 8],
 u1 20 .addc [.tm 18, .tm 19, .cn (.int .u64 0)],
 u1 16 .mov [.tm 20],
 u1 21 (.ext 0) [.tm 16],
 u1 22 (.ext 1) [.tm 16],
 u1 8 .mov [.tm 21],
 u1 9 .mov [.tm 22]])
 (.seq (.region [u1 23 (.fieldAddr 0) [.tm 3],
 u1 24 (.load false 1) [.tm 23],
 u1 25 .mov [.tm 7],
 u1 26 (.ari .add) [.tm 24, .tm 25],
 u1 27 .mov [.tm 9],
 u1 28 (.ari .add) [.tm 26, .tm 27],
 u1 29 .mov [.tm 8],
 u1 30 (.build [(.int .u64 0), (.int .u64 0)] [(0, 1), (1, 1)]) [.tm 28, .tm 29],
 u0 (.store 2) [.tm 6, .tm 30]])
 .ret)))) }
theorem v64_is : vfunc Try.prog Try.f64 = some v64 := by kernel_rfl
def v65 : VF := { ntmps := 24, res := [.tmp 4], body :=
 (.seq (.region [u1 2 .box [.tm 0],
 u1 3 .box [.tm 1],
 u1 4 .mov [.cn (.bool false)]])
 (.seq (.region [u1 5 (.fieldAddr 0) [.tm 2],
 u1 6 (.load false 1) [.tm 5],
 u1 7 (.fieldAddr 0) [.tm 3],
 u1 8 (.load false 1) [.tm 7],
 u1 9 (.cmp .gtr) [.tm 6, .tm 8],
 u1 10 .mov [.tm 9],
 u2 11 10 false (.fieldAddr 0) [.tm 2],
 u2 12 10 false (.load false 1) [.tm 11],
 u2 13 10 false (.fieldAddr 0) [.tm 3],
 u2 14 10 false (.load false 1) [.tm 13],
 u2 15 10 false (.cmp .eql) [.tm 12, .tm 14],
 u2 16 10 false .mov [.tm 15],
 u2 17 16 true (.fieldAddr 1) [.tm 2],
 u2 18 16 true (.load false 1) [.tm 17],
 u2 19 16 true (.fieldAddr 1) [.tm 3],
 u2 20 16 true (.load false 1) [.tm 19],
 u2 21 16 true (.cmp .gtr) [.tm 18, .tm 20],
 u2 22 10 false .and [.tm 16, .tm 21],
 u1 23 .or [.tm 10, .tm 22],
 u1 4 .mov [.tm 23]])
 .ret)) }
theorem v65_is : vfunc Try.prog Try.f65 = some v65 := by kernel_rfl
def v63 : VF := { ntmps := 100, res := [.tmp 2, .tmp 3], body :=
 (.seq (.region [u1 2 .mov [.cn (.int .u64 0)],
 u1 3 .mov [.cn (.int .u64 0)]])
 (.seq (.region [u1 15 .mov [.tm 0],
 u1 16 (.conv .u64) [.tm 15],
 u1 17 (.call 73) [.tm 16],
 u1 18 (.ari .sub) [.tm 17, .cn (.int .i64 1)],
 u1 4 .mov [.tm 18]])
 (.seq (.region [u1 19 .mov [.tm 4],
 u1 20 (.conv .u64) [.tm 19],
 u1 5 .mov [.tm 20]])
 (.seq (.seq (.region [u1 21 .mov [.tm 0],
 u1 22 .mov [.tm 0],
 u1 23 (.ari .sub) [.tm 22, .cn (.int .i64 1)],
 u1 24 (.bit .and) [.tm 21, .tm 23],
 u1 25 (.cmp .eql) [.tm 24, .cn (.int .i64 0)]])
 (.cond (.tm 25) (.seq (.region [u1 26 .mov [.tm 5],
 u1 27 .shl [.tm 26, .cn (.int .u64 28)],
 u1 28 .mov [.tm 5],
 u1 29 .shl [.tm 28, .cn (.int .u64 28)],
 u1 2 .mov [.tm 27],
 u1 3 .mov [.tm 29]])
 .ret)
  .skip))
 (.seq (.region [u1 30 .mov [.tm 0],
 u1 31 (.conv .u64) [.tm 30],
 u1 32 .mov [.tm 4],
 u1 33 (.ari .sub) [.cn (.int .i64 63), .tm 32],
 u1 34 .shl [.tm 31, .tm 33],
 u1 6 .mov [.tm 34]])
 (.seq (.region [u1 35 .mov [.tm 6],
 u1 7 .mov [.tm 35]])
 (.seq (.seq (.region [u1 36 .mov [.cn (.int .i64 0)]])
 (.block 0 (.loop (.seq (.region [u1 37 (.cmp .lss) [.tm 36, .cn (.int .i64 28)]])
 (.seq (.cond (.tm 37) .skip
  (.exit 0))
 (.seq (.block 1 (.seq (.region [u1 38 .mov [.tm 36],
 u1 8 .mov [.tm 38]])
 (.seq (.region [u1 40 .mov [.tm 6],
 u1 41 .mov [.tm 6],
 u1 42 (.call 56) [.tm 40, .tm 41],
 u1 39 .mov [.tm 42],
 u1 43 (.ext 0) [.tm 39],
 u1 44 (.ext 1) [.tm 39],
 u1 9 .mov [.tm 43],
 u1 10 .mov [.tm 44]])
 (.seq (.region [u1 46 .mov [.tm 7],
 u1 47 .mov [.tm 7],
 u1 48 (.call 56) [.tm 46, .tm 47],
 u1 45 .mov [.tm 48],
 u1 49 (.ext 0) [.tm 45],
 u1 50 (.ext 1) [.tm 45],
 u1 11 .mov [.tm 49],
 u1 12 .mov [.tm 50]])
 (.seq (.region [u1 51 .mov [.tm 9],
 u1 52 .shr [.tm 51, .cn (.int .u64 63)],
 u1 13 .mov [.tm 52]])
 (.seq (.region [u1 53 .mov [.tm 13],
 u1 54 .mov [.tm 11],
 u1 55 .shr [.tm 54, .cn (.int .u64 63)],
 u1 56 (.cmp .eql) [.tm 53, .tm 55],
 u1 14 .mov [.tm 56]])
 (.seq (.seq (.region [u1 57 .mov [.tm 13],
 u1 58 (.cmp .eql) [.tm 57, .cn (.int .u64 0)]])
 (.cond (.tm 58) (.region [u1 59 .mov [.tm 9],
 u1 60 .shl [.tm 59, .cn (.int .u64 1)],
 u1 61 .mov [.tm 10],
 u1 62 .shr [.tm 61, .cn (.int .u64 63)],
 u1 63 (.bit .or) [.tm 60, .tm 62],
 u1 64 .mov [.tm 11],
 u1 65 .shl [.tm 64, .cn (.int .u64 1)],
 u1 66 .mov [.tm 12],
 u1 67 .shr [.tm 66, .cn (.int .u64 63)],
 u1 68 (.bit .or) [.tm 65, .tm 67],
 u1 69 .mov [.tm 12],
 u1 70 .shl [.tm 69, .cn (.int .u64 1)],
 u1 9 .mov [.tm 63],
 u1 11 .mov [.tm 68],
 u1 12 .mov [.tm 70]])
  .skip))
 (.seq (.seq (.region [u1 71 .mov [.tm 12],
 u1 72 (.cmp .gtr) [.tm 71, .cn (.int .u64 0)]])
 (.cond (.tm 72) (.region [u1 73 .mov [.tm 11],
 u1 74 (.ari .add) [.tm 73, .cn (.int .u64 1)],
 u1 11 .mov [.tm 74]])
  .skip))
 (.seq (.seq (.region [u1 75 .mov [.tm 14],
 u1 76 .not [.tm 75],
 u1 77 .mov [.tm 76],
 u2 78 77 false .mov [.tm 11],
 u2 79 77 false (.cmp .eql) [.tm 78, .cn (.int .u64 0)],
 u1 80 .or [.tm 77, .tm 79]])
 (.cond (.tm 80) (.seq (.draw [] [w1 81 .mov [.tm 5],
 w1 82 .mov [.tm 8],
 w1 83 (.ari .sub) [.cn (.int .i64 28), .tm 82],
 w1 84 .shl [.tm 81, .tm 83],
 w1 85 .mov [.tm 5],
 w1 86 (.ari .add) [.tm 85, .cn (.int .u64 1)],
 w1 87 .mov [.tm 8],
 w1 88 (.ari .sub) [.cn (.int .i64 28), .tm 87],
 w1 89 .shl [.tm 86, .tm 88],
 w1 2 .mov [.tm 84],
 w1 3 .mov [.tm 89]])
 .ret)
  .skip))
 (.region [u1 90 .mov [.tm 9],
 u1 91 .mov [.tm 11],
 u1 92 .mov [.tm 5],
 u1 93 .shl [.tm 92, .cn (.int .u64 1)],
 u1 94 .mov [.tm 13],
 u1 95 (.bit .or) [.tm 93, .tm 94],
 u1 6 .mov [.tm 90],
 u1 7 .mov [.tm 91],
 u1 5 .mov [.tm 95]]))))))))))
 (.region [u1 96 (.ari .add) [.tm 36, .cn (.int .i64 1)],
 u1 36 .mov [.tm 96]])))))))
 (.seq (.region [u1 97 .mov [.tm 5],
 u1 98 .mov [.tm 5],
 u1 99 (.ari .add) [.tm 98, .cn (.int .u64 1)],
 u1 2 .mov [.tm 97],
 u1 3 .mov [.tm 99]])
 .ret)))))))) }
theorem v63_is : vfunc Try.prog Try.f63 = some v63 := by kernel_rfl
def plusL (a : Int × Int) (x y : Int) : Int × Int :=
  (IntKind.u64.wrap (IntKind.u64.wrap (a.1 + x * y / 18446744073709551616) + (a.2 + x * y % 18446744073709551616) / 18446744073709551616), (a.2 + x * y % 18446744073709551616) % 18446744073709551616)
def overL (a b : Int × Int) : Bool := decide (b.1 < a.1) || (decide (a.1 = b.1) && decide (b.2 < a.2))
def okL (a : Int × Int) : Prop := (0 ≤ a.1 ∧ a.1 ≤ 18446744073709551615) ∧ 0 ≤ a.2 ∧ a.2 ≤ 18446744073709551615
def lpC : Ctr := { alias := false, of := fun l => match l with
  | [.agg [.int .u64 a, .int .u64 b], .int .u64 x, .int .u64 y] => .pre (okL (a, b) ∧ (0 ≤ x ∧ x ≤ 18446744073709551615) ∧ 0 ≤ y ∧ y ≤ 18446744073709551615) (.fin (.agg [.int .u64 (plusL (a, b) x y).1, .int .u64 (plusL (a, b) x y).2]) [])
  | _ => noC }
def loC : Ctr := { alias := false, of := fun l => match l with
  | [.agg [.int .u64 a, .int .u64 b], .agg [.int .u64 c, .int .u64 d]] => .fin (.bool (overL (a, b) (c, d))) []
  | _ => noC }
def RA5 : Env := { ct := fun n => match n with | 56 => some mul64C | _ => none, fn := fun _ => none, meth := fun _ _ => none }
theorem RA5_ct56 : RA5.ct 56 = some mul64C := rfl
theorem RA5_ok : EnvOk Try.prog RA5 := by
  refine ⟨fun f c h => ?_, fun f vf h => ?_, (fun _ _ _ h => by cases h), by kernel_rfl, (fun _ h => by cases h)⟩
  · simp only [RA5] at h
    split at h
    · cases h; exact ⟨mul64_ok, Try.f56, Try.func56, by kernel_rfl, by kernel_rfl⟩
    · cases h
  · cases h
theorem lp_c : lpC.ok Try.prog 64 := by
  refine contract Try.func64 v64_is RA5_ok 200 lpC fun args k h => ?_
  simp only [lpC] at h
  split at h
  · rename_i a b x y
    obtain ⟨⟨⟨⟨a0, a1⟩, b0, b1⟩, hx, hy⟩, h⟩ := h
    refine ⟨[.agg [.int .u64 a, .int .u64 b], .int .u64 x, .int .u64 y], by simp [leL, le], ?_⟩
    dsimp only [v64, RA5_ct56, mul64C, eAddc, go_sem, reduceIte]
    simp only [t_all, forall_const, ne_eq, implies_true, Nat.reduceAdd, Nat.reduceLeDiff, reduceCtorEq, Nat.reduceEqDiff]
    refine ⟨⟨hx, hy⟩, by decide, by decide, ⟨b0, Int.emod_nonneg _ (by decide), by decide, by decide⟩, by decide, by decide, ?_⟩
    rw [Int.add_zero]
    exact ans_le (show k _ [] from h) (le_self (.agg [.int .u64 (plusL (a, b) x y).1, .int .u64 (plusL (a, b) x y).2]) ⟨trivial, trivial, trivial⟩) (fun _ => by simp [freshS, freshL])
  · exact h.1.elim
theorem lo_c : loC.ok Try.prog 65 := by
  refine contract Try.func65 v65_is RA5_ok 200 loC fun args k h => ?_
  simp only [loC] at h
  split at h
  · rename_i a b c d
    refine ⟨[.agg [.int .u64 a, .int .u64 b], .agg [.int .u64 c, .int .u64 d]], by simp [leL, le], ?_⟩
    dsimp only [v65, go_sem, reduceIte]
    simp only [t_all, forall_const, ne_eq, implies_true, Nat.reduceAdd, Nat.reduceLeDiff, reduceCtorEq, Nat.reduceEqDiff]
    exact ⟨fun h1 h2 => by rw [decide_eq_false h1, decide_eq_true h2]; rfl, ans_bool h⟩
  · exact h.1.elim
def RA6 : Env := { ct := fun n => match n with | 73 => some len64C | 56 => some mul64C | _ => none, fn := fun _ => none, meth := fun _ _ => none }
theorem RA6_ct73 : RA6.ct 73 = some len64C := rfl
theorem RA6_ct56 : RA6.ct 56 = some mul64C := rfl
theorem RA6_ok : EnvOk Try.prog RA6 := by
  refine ⟨fun f c h => ?_, fun f vf h => ?_, (fun _ _ _ h => by cases h), by kernel_rfl, (fun _ h => by cases h)⟩
  · simp only [RA6] at h
    split at h
    · cases h; exact ⟨len64_ok, Try.f73, Try.func73, by kernel_rfl, by kernel_rfl⟩
    · cases h; exact ⟨mul64_ok, Try.f56, Try.func56, by kernel_rfl, by kernel_rfl⟩
    · cases h
  · cases h
abbrev hiW (a : Int) : Int := a * a / 18446744073709551616
abbrev loW (a : Int) : Int := a * a % 18446744073709551616
abbrev sr63 (x : Int) : Int := x.fdiv (2 ^ min (Int.toNat 63) 64)
abbrev sl1 (x : Int) : Int := IntKind.u64.wrap (x * 2 ^ min (Int.toNat 1) 64)
abbrev dblW (x y : Int) : Int := bitI .or .u64 (sl1 x) (sr63 y)
abbrev shW (S : Int) (f : Nat) : Int := IntKind.u64.wrap (S * 2 ^ min f 64)
def quickL : Nat → Int → Int → Int → Int × Int
  | 0, S, _, _ => (S, IntKind.u64.wrap (S + 1))
  | f + 1, S, a, b =>
    if sr63 (hiW a) = 0 then
      if 0 < sl1 (loW b) then
        if (!decide (sr63 (hiW a) = sr63 (hiW b)) || decide (IntKind.u64.wrap (dblW (hiW b) (loW b) + 1) = 0)) = true then (shW S (f + 1), shW (IntKind.u64.wrap (S + 1)) (f + 1))
        else quickL f (bitI .or .u64 (sl1 S) (sr63 (hiW a))) (dblW (hiW a) (loW a)) (IntKind.u64.wrap (dblW (hiW b) (loW b) + 1))
      else
        if (!decide (sr63 (hiW a) = sr63 (hiW b)) || decide (dblW (hiW b) (loW b) = 0)) = true then (shW S (f + 1), shW (IntKind.u64.wrap (S + 1)) (f + 1))
        else quickL f (bitI .or .u64 (sl1 S) (sr63 (hiW a))) (dblW (hiW a) (loW a)) (dblW (hiW b) (loW b))
    else
      if 0 < loW b then
        if (!decide (sr63 (hiW a) = sr63 (hiW b)) || decide (IntKind.u64.wrap (hiW b + 1) = 0)) = true then (shW S (f + 1), shW (IntKind.u64.wrap (S + 1)) (f + 1))
        else quickL f (bitI .or .u64 (sl1 S) (sr63 (hiW a))) (hiW a) (IntKind.u64.wrap (hiW b + 1))
      else
        if (!decide (sr63 (hiW a) = sr63 (hiW b)) || decide (hiW b = 0)) = true then (shW S (f + 1), shW (IntKind.u64.wrap (S + 1)) (f + 1))
        else quickL f (bitI .or .u64 (sl1 S) (sr63 (hiW a))) (hiW a) (hiW b)
def quickF (n : Int) : Int × Int :=
  if isPow n = true then (IntKind.u64.wrap (((bitsN n.toNat - 1 : Nat) : Int) * 2 ^ min (Int.toNat 28) 64), IntKind.u64.wrap (((bitsN n.toNat - 1 : Nat) : Int) * 2 ^ min (Int.toNat 28) 64))
  else quickL 28 ((bitsN n.toNat - 1 : Nat) : Int) (shW n (63 - (bitsN n.toNat - 1))) (shW n (63 - (bitsN n.toNat - 1)))
theorem u64_rng (x : Int) : 0 ≤ IntKind.u64.wrap x ∧ IntKind.u64.wrap x ≤ 18446744073709551615 := by rw [u_mod]; omega
theorem bor_rng (x y : Int) : 0 ≤ bitI .or .u64 x y ∧ bitI .or .u64 x y ≤ 18446744073709551615 := u64_rng _
theorem hiW_rng {a : Int} (h0 : 0 ≤ a) (h1 : a ≤ 18446744073709551615) : 0 ≤ hiW a ∧ hiW a ≤ 18446744073709551615 := by
  have h2 : a * a ≤ 18446744073709551615 * 18446744073709551615 := mul_le' h1 h1 h0 (by decide)
  have h3 : 0 ≤ a * a := Int.mul_nonneg h0 h0
  unfold hiW
  omega
def quickC : Ctr := { alias := false, of := fun l => match l with
  | [.int .i64 n] => .pre (1 ≤ n ∧ n ≤ 4611686018427387904) (.fin (.tup [.int .u64 (quickF n).1, .int .u64 (quickF n).2]) [])
  | _ => noC }
theorem quick_c : quickC.ok Try.prog 63 := by
  refine contract Try.func63 v63_is RA6_ok 400 quickC fun args k h => ?_
  simp only [quickC] at h
  split at h
  · rename_i n
    obtain ⟨⟨n0, n1⟩, h⟩ := h
    refine ⟨[.int .i64 n], by simp [leL, le], ?_⟩
    dsimp only [v63, RA6_ct73, RA6_ct56, len64C, mul64C, go_sem, reduceIte]
    simp only [t_all, forall_const, ne_eq, implies_true, Nat.reduceAdd, Nat.reduceLeDiff, reduceCtorEq, Nat.reduceEqDiff]
    have hb1 : bitsN n.toNat ≤ 63 := bitsN_le.2 (by have : (2 : Nat) ^ 63 = 9223372036854775808 := rfl; omega)
    have hb0 : bitsN n.toNat ≠ 0 := fun e => by have := bitsN_eq0.1 e; omega
    obtain ⟨K, hK⟩ : ∃ K, K = bitsN n.toNat - 1 := ⟨_, rfl⟩
    have eu : IntKind.u64.wrap n = n := IntWalk.u64_in _ (by omega)
    have ek : IntKind.i64.wrap ((bitsN n.toNat : Int) - 1) = (K : Int) := by rw [hK, IntWalk.i64_in _ (by omega)]; omega
    have ek2 : IntKind.i64.wrap (63 - (K : Int)) = ((63 - K : Nat) : Int) := by rw [IntWalk.i64_in _ (by omega)]; omega
    have ek3 : IntKind.u64.wrap (K : Int) = (K : Int) := IntWalk.u64_in _ (by omega)
    rw [eu, ek, ek2, ek3]
    refine ⟨by omega, fun hc => ⟨by decide, by decide, ?_⟩, fun hc => ⟨by omega, ?_⟩⟩
    · rw [quickF, if_pos (show isPow n = true from decide_eq_true hc), ← hK] at h
      exact ans_oi h
    · have e : quickF n = quickL 28 K (shW n (63 - K)) (shW n (63 - K)) := by rw [quickF, if_neg (show ¬ isPow n = true from fun hh => hc (of_decide_eq_true hh)), ← hK]
      rw [e] at h
      rw [Int.toNat_natCast]
      obtain ⟨A, hA⟩ : ∃ A, A = shW n (63 - K) := ⟨_, rfl⟩
      rw [← hA] at h
      obtain ⟨R, hR⟩ : ∃ R, R = quickL 28 K A A := ⟨_, rfl⟩
      rw [← hR] at h
      rw [show IntKind.u64.wrap (n * 2 ^ min (63 - K) 64) = A from hA.symm]
      have hAr : 0 ≤ A ∧ A ≤ 18446744073709551615 := by rw [hA]; exact u64_rng _
      refine Loop.keep [] (Int × Int × Int × Nat) (fun s => [(5, .int .u64 s.1), (6, .int .u64 s.2.1), (7, .int .u64 s.2.2.1), (36, .int .i64 s.2.2.2)]) (fun _ => []) [] (fun s => s.2.2.2 ≤ 28 ∧ R = quickL (28 - s.2.2.2) s.1 s.2.1 s.2.2.1 ∧ (0 ≤ s.2.1 ∧ s.2.1 ≤ 18446744073709551615) ∧ 0 ≤ s.2.2.1 ∧ s.2.2.1 ≤ 18446744073709551615) (fun s => 28 - s.2.2.2) ?_ ?_
      · refine ⟨(K, A, A, 0), ⟨by simp only; omega, hR, hAr, hAr⟩, ?_⟩
        dsimp only [go_sem, reduceIte]
        simp only [fin_all, imp_self, implies_true, true_and, and_true]
        try simp
      · rintro ⟨S, a, b, i⟩ ⟨hi, he, ha, hb⟩
        dsimp only at hi he ha hb
        dsimp only [RA6_ct73, RA6_ct56, len64C, mul64C, go_sem, reduceIte]
        simp only [t_all, forall_const, ne_eq, implies_true, Nat.reduceAdd, Nat.reduceLeDiff, reduceCtorEq, Nat.reduceEqDiff]
        have ei : IntKind.i64.wrap (28 - (i : Int)) = ((28 - i : Nat) : Int) := by rw [IntWalk.i64_in _ (by omega)]; omega
        rw [ei]
        have hA2 := hiW_rng ha.1 ha.2
        have hB2 := hiW_rng hb.1 hb.2
        refine ⟨fun hlt => ?_, fun hge => ?_⟩
        · obtain ⟨f, hf⟩ : ∃ f, 28 - i = f + 1 := ⟨28 - i - 1, by omega⟩
          rw [hf, quickL] at he
          rw [hf, Int.toNat_natCast]
          refine ⟨ha, by decide, by decide, hb, by decide, by decide, by decide, by decide, fun hc1 => ⟨by decide, by decide, by decide, by decide, by decide, fun hc2 => ⟨fun hc3 => ?_, fun hc3 => ?_⟩, fun hc2 => ⟨fun hc3 => ?_, fun hc3 => ?_⟩⟩, fun hc1 => ⟨fun hc2 => ⟨fun hc3 => ?_, fun hc3 => ?_⟩, fun hc2 => ⟨fun hc3 => ?_, fun hc3 => ?_⟩⟩⟩
          · rw [if_pos hc1, if_pos hc2, if_pos hc3] at he
            rw [he] at h
            exact ⟨by omega, by omega, ans_oi h⟩
          · rw [if_pos hc1, if_pos hc2, if_neg (by rw [hc3]; decide)] at he
            refine ⟨by decide, (bitI .or .u64 (sl1 S) (sr63 (hiW a)), dblW (hiW a) (loW a), IntKind.u64.wrap (dblW (hiW b) (loW b) + 1), i + 1), ⟨by simp only; omega, by rw [show 28 - (i + 1) = f by omega]; exact he, bor_rng _ _, u64_rng _⟩, by simp only; omega, ?_⟩
            rw [IntWalk.i64_in ((i : Int) + 1) (by omega)]
            simp only [fin_all, imp_self, implies_true, true_and, and_true]
            simp
          · rw [if_pos hc1, if_neg hc2, if_pos hc3] at he
            rw [he] at h
            exact ⟨by omega, by omega, ans_oi h⟩
          · rw [if_pos hc1, if_neg hc2, if_neg (by rw [hc3]; decide)] at he
            refine ⟨by decide, (bitI .or .u64 (sl1 S) (sr63 (hiW a)), dblW (hiW a) (loW a), dblW (hiW b) (loW b), i + 1), ⟨by simp only; omega, by rw [show 28 - (i + 1) = f by omega]; exact he, bor_rng _ _, bor_rng _ _⟩, by simp only; omega, ?_⟩
            rw [IntWalk.i64_in ((i : Int) + 1) (by omega)]
            simp only [fin_all, imp_self, implies_true, true_and, and_true]
            simp
          · rw [if_neg hc1, if_pos hc2, if_pos hc3] at he
            rw [he] at h
            exact ⟨by omega, by omega, ans_oi h⟩
          · rw [if_neg hc1, if_pos hc2, if_neg (by rw [hc3]; decide)] at he
            refine ⟨by decide, (bitI .or .u64 (sl1 S) (sr63 (hiW a)), hiW a, IntKind.u64.wrap (hiW b + 1), i + 1), ⟨by simp only; omega, by rw [show 28 - (i + 1) = f by omega]; exact he, hA2, u64_rng _⟩, by simp only; omega, ?_⟩
            rw [IntWalk.i64_in ((i : Int) + 1) (by omega)]
            simp only [fin_all, imp_self, implies_true, true_and, and_true]
            simp
          · rw [if_neg hc1, if_neg hc2, if_pos hc3] at he
            rw [he] at h
            exact ⟨by omega, by omega, ans_oi h⟩
          · rw [if_neg hc1, if_neg hc2, if_neg (by rw [hc3]; decide)] at he
            refine ⟨by decide, (bitI .or .u64 (sl1 S) (sr63 (hiW a)), hiW a, hiW b, i + 1), ⟨by simp only; omega, by rw [show 28 - (i + 1) = f by omega]; exact he, hA2, hB2⟩, by simp only; omega, ?_⟩
            rw [IntWalk.i64_in ((i : Int) + 1) (by omega)]
            simp only [fin_all, imp_self, implies_true, true_and, and_true]
            simp
        · rw [show 28 - i = 0 by omega, quickL] at he
          rw [he] at h
          exact ans_oi h
  · exact h.1.elim
end Go.Proofs.Ytmgfmkbniaepcaa
set_option linter.all false
namespace Go.Proofs.Ytmgfmkbniaepcaa
open Go Go.Vx
set_option maxRecDepth 100000
set_option maxHeartbeats 4000000
def v58 : VF := { ntmps := 72, res := [.tmp 2, .tmp 3], body :=
 (.seq (.region [u1 2 .mov [.cn (.int .i64 0)],
 u1 3 .mov [.cn (.bool false)]])
 (.seq (.region [u1 4 (.allocArr 2 2 [(.int .u64 0), (.int .u64 0), (.int .u64 0), (.int .u64 0)]) [],
 u1 5 (.allocArr 2 2 [(.int .u64 0), (.int .u64 0), (.int .u64 0), (.int .u64 0)]) []])
 (.seq (.seq (.region [u1 10 .mov [.tm 0],
 u1 11 .len [.tm 10],
 u1 12 .mov [.cn (.int .i64 0)]])
 (.block 0 (.loop (.seq (.region [u1 13 (.cmp .lss) [.tm 12, .tm 11]])
 (.seq (.cond (.tm 13) .skip
  (.exit 0))
 (.seq (.block 1 (.seq (.region [u1 14 (.idxAddr 2) [.tm 10, .tm 12],
 u1 15 (.load true 2) [.tm 14],
 u1 7 (.alloc [(.int .i64 0), (.int .i64 0)]) [],
 u0 (.store 2) [.tm 7, .tm 15]])
 (.seq (.region [u1 17 (.fieldAddr 0) [.tm 7],
 u1 18 (.load false 1) [.tm 17],
 u1 19 (.call 63) [.tm 18],
 u1 16 .mov [.tm 19],
 u1 20 (.ext 0) [.tm 16],
 u1 21 (.ext 1) [.tm 16],
 u1 8 .mov [.tm 20],
 u1 9 .mov [.tm 21]])
 (.seq (.region [u1 22 (.fieldAddr 1) [.tm 7],
 u1 23 (.load false 1) [.tm 22],
 u1 24 (.cmp .geq) [.tm 23, .cn (.int .i64 0)]])
 (.cond (.tm 24) (.draw [] [w1 25 (.idxArr 2 2) [.tm 4, .cn (.int .i64 0)],
 w1 26 (.load true 2) [.tm 25],
 w1 27 .mov [.tm 8],
 w1 28 (.fieldAddr 1) [.tm 7],
 w1 29 (.load false 1) [.tm 28],
 w1 30 (.conv .u64) [.tm 29],
 w1 32 (.idxArr 2 2) [.tm 4, .cn (.int .i64 1)],
 w1 33 (.load true 2) [.tm 32],
 w1 34 .mov [.tm 9],
 w1 35 (.fieldAddr 1) [.tm 7],
 w1 36 (.load false 1) [.tm 35],
 w1 37 (.conv .u64) [.tm 36],
 w1 31 (.call 64) [.tm 26, .tm 27, .tm 30],
 w1 39 (.idxArr 2 2) [.tm 4, .cn (.int .i64 0)],
 w1 38 (.call 64) [.tm 33, .tm 34, .tm 37],
 w0 (.store 2) [.tm 39, .tm 31],
 w1 40 (.idxArr 2 2) [.tm 4, .cn (.int .i64 1)],
 w0 (.store 2) [.tm 40, .tm 38]])
  (.draw [] [w1 41 (.idxArr 2 2) [.tm 5, .cn (.int .i64 0)],
 w1 42 (.load true 2) [.tm 41],
 w1 43 .mov [.tm 8],
 w1 44 (.fieldAddr 1) [.tm 7],
 w1 45 (.load false 1) [.tm 44],
 w1 46 .neg [.tm 45],
 w1 47 (.conv .u64) [.tm 46],
 w1 49 (.idxArr 2 2) [.tm 5, .cn (.int .i64 1)],
 w1 50 (.load true 2) [.tm 49],
 w1 51 .mov [.tm 9],
 w1 52 (.fieldAddr 1) [.tm 7],
 w1 53 (.load false 1) [.tm 52],
 w1 54 .neg [.tm 53],
 w1 55 (.conv .u64) [.tm 54],
 w1 48 (.call 64) [.tm 42, .tm 43, .tm 47],
 w1 57 (.idxArr 2 2) [.tm 5, .cn (.int .i64 0)],
 w1 56 (.call 64) [.tm 50, .tm 51, .tm 55],
 w0 (.store 2) [.tm 57, .tm 48],
 w1 58 (.idxArr 2 2) [.tm 5, .cn (.int .i64 1)],
 w0 (.store 2) [.tm 58, .tm 56]]))))))
 (.region [u1 59 (.ari .add) [.tm 12, .cn (.int .i64 1)],
 u1 12 .mov [.tm 59]])))))))
 (.seq (.block 2 (.seq (.region [u1 61 (.idxArr 2 2) [.tm 4, .cn (.int .i64 0)],
 u1 62 (.load true 2) [.tm 61],
 u1 63 (.idxArr 2 2) [.tm 5, .cn (.int .i64 1)],
 u1 64 (.load true 2) [.tm 63],
 u1 65 (.call 65) [.tm 62, .tm 64],
 u1 60 .mov [.tm 65]])
 (.cond (.tm 60) (.seq (.region [u1 2 .mov [.cn (.int .i64 1)],
 u1 3 .mov [.cn (.bool true)]])
 .ret)
  (.seq (.region [u1 67 (.idxArr 2 2) [.tm 5, .cn (.int .i64 0)],
 u1 68 (.load true 2) [.tm 67],
 u1 69 (.idxArr 2 2) [.tm 4, .cn (.int .i64 1)],
 u1 70 (.load true 2) [.tm 69],
 u1 71 (.call 65) [.tm 68, .tm 70],
 u1 66 .mov [.tm 71]])
 (.cond (.tm 66) (.seq (.region [u1 2 .mov [.cn (.int .i64 (-1))],
 u1 3 .mov [.cn (.bool true)]])
 .ret)
  .skip)))))
 (.seq (.region [u1 2 .mov [.cn (.int .i64 0)],
 u1 3 .mov [.cn (.bool false)]])
 .ret))))) }
theorem v58_is : vfunc Try.prog Try.f58 = some v58 := by kernel_rfl
structure Gss where
  u0 : Int × Int
  u1 : Int × Int
  d0 : Int × Int
  d1 : Int × Int
def Gss.ok (s : Gss) : Prop := okL s.u0 ∧ okL s.u1 ∧ okL s.d0 ∧ okL s.d1
def gssS (s : Gss) (x : Int × Int) : Gss :=
  if 0 ≤ x.2 then { s with u0 := plusL s.u0 (quickF x.1).1 x.2, u1 := plusL s.u1 (quickF x.1).2 x.2 }
  else { s with d0 := plusL s.d0 (quickF x.1).1 (-x.2), d1 := plusL s.d1 (quickF x.1).2 (-x.2) }
def gss0 : Gss := ⟨(0, 0), (0, 0), (0, 0), (0, 0)⟩
def guessF (l : List (Int × Int)) : Int × Bool :=
  let s := l.foldl gssS gss0
  if overL s.u0 s.d1 = true then (1, true) else if overL s.d0 s.u1 = true then (-1, true) else (0, false)
theorem plusL_ok (a : Int × Int) (x y : Int) (h : okL a) : okL (plusL a x y) := by
  unfold plusL
  exact ⟨u64_rng _, Int.emod_nonneg _ (by decide), by show _ % _ ≤ _; omega⟩
theorem gssS_ok (s : Gss) (x : Int × Int) (h : s.ok) : (gssS s x).ok := by
  obtain ⟨h1, h2, h3, h4⟩ := h
  unfold gssS
  split
  · exact ⟨plusL_ok _ _ _ h1, plusL_ok _ _ _ h2, h3, h4⟩
  · exact ⟨h1, h2, plusL_ok _ _ _ h3, plusL_ok _ _ _ h4⟩
theorem quickL_rng : ∀ (f : Nat) (S a b : Int), (0 ≤ S ∧ S ≤ 18446744073709551615) → (0 ≤ (quickL f S a b).1 ∧ (quickL f S a b).1 ≤ 18446744073709551615) ∧ 0 ≤ (quickL f S a b).2 ∧ (quickL f S a b).2 ≤ 18446744073709551615
  | 0, S, a, b, h => ⟨h, u64_rng _⟩
  | f + 1, S, a, b, h => by
    rw [quickL]
    split
    · split
      · split
        · exact ⟨u64_rng _, u64_rng _⟩
        · exact quickL_rng f _ _ _ (bor_rng _ _)
      · split
        · exact ⟨u64_rng _, u64_rng _⟩
        · exact quickL_rng f _ _ _ (bor_rng _ _)
    · split
      · split
        · exact ⟨u64_rng _, u64_rng _⟩
        · exact quickL_rng f _ _ _ (bor_rng _ _)
      · split
        · exact ⟨u64_rng _, u64_rng _⟩
        · exact quickL_rng f _ _ _ (bor_rng _ _)
theorem quickF_rng (n : Int) (hn : n ≤ 4611686018427387904) : (0 ≤ (quickF n).1 ∧ (quickF n).1 ≤ 18446744073709551615) ∧ 0 ≤ (quickF n).2 ∧ (quickF n).2 ≤ 18446744073709551615 := by
  unfold quickF
  split
  · exact ⟨u64_rng _, u64_rng _⟩
  · have hb1 : bitsN n.toNat ≤ 63 := bitsN_le.2 (by have : (2 : Nat) ^ 63 = 9223372036854775808 := rfl; omega)
    exact quickL_rng _ _ _ _ ⟨by omega, by omega⟩
def guessC : Ctr := { alias := false, of := fun l => match l with
  | [.vs _ _ n sz get] => .ex (List (Int × Int)) fun l => .pre (lsP 2 enc2 n sz get l ∧ (∀ x, x ∈ l → okT x) ∧ n ≤ 100) (.fin (.tup [.int .i64 (guessF l).1, .bool (guessF l).2]) [])
  | _ => noC }
def RA7 : Env := { ct := fun n => match n with | 63 => some quickC | 64 => some lpC | 65 => some loC | _ => none, fn := fun _ => none, meth := fun _ _ => none }
theorem RA7_ct63 : RA7.ct 63 = some quickC := rfl
theorem RA7_ct64 : RA7.ct 64 = some lpC := rfl
theorem RA7_ct65 : RA7.ct 65 = some loC := rfl
theorem RA7_ok : EnvOk Try.prog RA7 := by
  refine ⟨fun f c h => ?_, fun f vf h => ?_, (fun _ _ _ h => by cases h), by kernel_rfl, (fun _ h => by cases h)⟩
  · simp only [RA7] at h
    split at h
    · cases h; exact ⟨quick_c, Try.f63, Try.func63, by kernel_rfl, by kernel_rfl⟩
    · cases h; exact ⟨lp_c, Try.f64, Try.func64, by kernel_rfl, by kernel_rfl⟩
    · cases h; exact ⟨lo_c, Try.f65, Try.func65, by kernel_rfl, by kernel_rfl⟩
    · cases h
  · cases h
theorem ans_wib {k : SV → List HO → Prop} {al : Bool} {hp : List HO} {κ : IntKind} {x : Int} {b : Bool} (h : k (.tup [.int κ x, .bool b]) []) : answers al k (.tup [.int κ x, .bool b]) hp :=
  ans_le (show k _ [] from h) (le_self (.tup [.int κ x, .bool b]) ⟨trivial, trivial, trivial⟩) (fun _ => by simp [freshS, freshL])
theorem guess_c : guessC.ok Try.prog 58 := by
  refine contract Try.func58 v58_is RA7_ok 500 guessC fun args k h => ?_
  simp only [guessC] at h
  split at h
  · rename_i tt z n sz get
    obtain ⟨l, ⟨⟨rfl, rfl, hg⟩, hl, hn⟩, h⟩ := h
    refine ⟨[.vs tt z l.length 2 (fun k => enc2 (l.getD k default))], ⟨⟨id, rfl, rfl, rfl, hg⟩, trivial⟩, ?_⟩
    dsimp only [v58, enc2, go_sem, reduceIte]
    simp only [t_all, forall_const, ne_eq, implies_true, Nat.reduceAdd, Nat.reduceLeDiff, reduceCtorEq, Nat.reduceEqDiff]
    refine Loop.keep [0, 3, 0, 4, 0] (Nat × Gss) (fun s => [(12, .int .i64 s.1)]) (fun s => [(0, .own false 2 2 (chunk 2 [.int .u64 s.2.u0.1, .int .u64 s.2.u0.2, .int .u64 s.2.u1.1, .int .u64 s.2.u1.2])), (1, .own false 2 2 (chunk 2 [.int .u64 s.2.d0.1, .int .u64 s.2.d0.2, .int .u64 s.2.d1.1, .int .u64 s.2.d1.2]))]) [] (fun s => s.1 ≤ l.length ∧ s.2 = (l.take s.1).foldl gssS gss0 ∧ s.2.ok) (fun s => l.length - s.1) ?_ ?_
    · refine ⟨(0, gss0), ⟨by simp only; omega, rfl, by simp [Gss.ok, gss0, okL]⟩, ?_⟩
      dsimp only [gss0, go_sem, reduceIte]
      simp only [fin_all, imp_self, implies_true, true_and, and_true]
      exact ⟨by decide, by decide, rfl⟩
    · rintro ⟨i, G⟩ ⟨hi, hG, hok⟩
      dsimp only at hi hG hok
      dsimp only [RA7_ct63, RA7_ct64, RA7_ct65, quickC, lpC, loC, enc2, Int.toNat_natCast, Int.reduceToNat, Nat.reduceMul, Int.toNat_zero, Int.toNat_one, go_sem, reduceIte]
      simp only [t_all, forall_const, ne_eq, implies_true, Nat.reduceAdd, Nat.reduceLeDiff, reduceCtorEq, Nat.reduceEqDiff]
      refine ⟨fun hlt => ?_, fun hge => ?_⟩
      · have hx := hl _ (getD_mem (by omega : i < l.length))
        generalize hxe : l.getD i default = x at hx ⊢
        obtain ⟨q0, q1, q2, q3⟩ := hx
        have hstep : (l.take (i + 1)).foldl gssS gss0 = gssS G x := by
          rw [foldl_take_succ (by omega), ← hG, hxe]
        obtain ⟨g1, g2⟩ := quickF_rng x.1 (by omega)
        have hok' := gssS_ok G x hok
        obtain ⟨o1, o2, o3, o4⟩ := hok
        refine ⟨⟨by omega, by omega⟩, ⟨by omega, by omega⟩, by decide, by decide, fun hc => ?_, fun hc => ?_⟩
        · have ew : IntKind.u64.wrap x.2 = x.2 := IntWalk.u64_in _ (by omega)
          rw [ew]
          refine ⟨by decide, by decide, by decide, by decide, ⟨o1, g1, by omega, by omega⟩, by decide, ⟨o2, g2, by omega, by omega⟩, by decide, by decide, by decide, (i + 1, gssS G x), ⟨by simp only; omega, hstep.symm, hok'⟩, by simp only; omega, ?_⟩
          rw [IntWalk.i64_in ((i : Int) + 1) (by omega)]
          simp only [gssS, if_pos hc]
          simp only [fin_all, imp_self, implies_true, true_and, and_true]
          refine ⟨⟨by decide, by decide, by simp⟩, fun j hj => ?_⟩
          match j, hj with
          | 0, _ => exact ⟨⟨rfl, rfl⟩, ⟨rfl, rfl⟩, trivial⟩
          | 1, _ => exact ⟨⟨rfl, rfl⟩, ⟨rfl, rfl⟩, trivial⟩
        · have en : IntKind.i64.wrap (0 - x.2) = -x.2 := by rw [IntWalk.i64_in _ (by omega)]; omega
          rw [en]
          have ew : IntKind.u64.wrap (-x.2) = -x.2 := IntWalk.u64_in _ (by omega)
          rw [ew]
          refine ⟨by decide, by decide, by decide, by decide, ⟨o3, g1, by omega, by omega⟩, by decide, ⟨o4, g2, by omega, by omega⟩, by decide, by decide, by decide, (i + 1, gssS G x), ⟨by simp only; omega, hstep.symm, hok'⟩, by simp only; omega, ?_⟩
          rw [IntWalk.i64_in ((i : Int) + 1) (by omega)]
          simp only [gssS, if_neg hc]
          simp only [fin_all, imp_self, implies_true, true_and, and_true]
          refine ⟨⟨by decide, by decide, by simp⟩, fun j hj => ?_⟩
          match j, hj with
          | 0, _ => exact ⟨⟨rfl, rfl⟩, ⟨rfl, rfl⟩, trivial⟩
          | 1, _ => exact ⟨⟨rfl, rfl⟩, ⟨rfl, rfl⟩, trivial⟩
      · obtain rfl : i = l.length := by omega
        rw [List.take_length] at hG
        rw [guessF, ← hG] at h
        refine ⟨by decide, by decide, by decide, by decide, fun hc => ?_, fun hc => ⟨by decide, by decide, by decide, by decide, fun hd => ?_, fun hd => ?_⟩⟩
        · rw [show overL G.u0 G.d1 = true from hc] at h
          exact ans_wib h
        · rw [show overL G.u0 G.d1 = false from hc, show overL G.d0 G.u1 = true from hd] at h
          exact ans_wib h
        · rw [show overL G.u0 G.d1 = false from hc, show overL G.d0 G.u1 = false from hd] at h
          exact ans_wib h
  · exact h.1.elim
end Go.Proofs.Ytmgfmkbniaepcaa
set_option linter.all false
namespace Go.Proofs.Ytmgfmkbniaepcaa
open Go Go.Vx
theorem hiW_nat (a : Nat) : hiW (a : Int) = ((a * a / 18446744073709551616 : Nat) : Int) := by
  show (a : Int) * a / 18446744073709551616 = _
  rw [Int.natCast_ediv, Int.natCast_mul]; rfl
theorem loW_nat (a : Nat) : loW (a : Int) = ((a * a % 18446744073709551616 : Nat) : Int) := by
  show (a : Int) * a % 18446744073709551616 = _
  rw [Int.natCast_emod, Int.natCast_mul]; rfl
theorem sr63_nat (x : Nat) : sr63 (x : Int) = ((x / 9223372036854775808 : Nat) : Int) := shr_nat (s := 63) (by decide)
theorem sl1_nat (x : Nat) : sl1 (x : Int) = ((x * 2 % 18446744073709551616 : Nat) : Int) := by
  show IntKind.u64.wrap ((x : Int) * 2 ^ min (Int.toNat 1) 64) = _
  rw [show (2 : Int) ^ min (Int.toNat 1) 64 = 2 from rfl, u_mod, Int.natCast_emod, Int.natCast_mul]; rfl
theorem dbl_nat {M x : Nat} (hM : 0 < M) : x / (2 * M) * 2 + x % (2 * M) / M = x / M := by
  have e1 : x / (2 * M) = x / M / 2 := by rw [Nat.mul_comm, Nat.div_div_eq_div_mul]
  have e2 : x % (2 * M) / M = x / M % 2 := by
    rw [Nat.mul_comm, Nat.mod_mul_right_div_self]
  rw [e1, e2]; omega
theorem or_bit {h b : Nat} (hb : b < 2) : (h * 2 ||| b) = h * 2 + b := by
  have := Nat.two_pow_add_eq_or_of_lt (i := 1) (b := b) (by simpa using hb) h
  rw [Nat.pow_one] at this
  rw [Nat.mul_comm h 2, this]
theorem dblW_nat {a : Nat} (ha : a * a < 18446744073709551616 * 9223372036854775808) : dblW (hiW (a : Int)) (loW (a : Int)) = ((a * a / 9223372036854775808 : Nat) : Int) := by
  show bitI .or .u64 (sl1 (hiW (a : Int))) (sr63 (loW (a : Int))) = _
  rw [hiW_nat, loW_nat, sl1_nat, sr63_nat]
  generalize a * a = x at *
  have h1 : x / 18446744073709551616 < 9223372036854775808 := Nat.div_lt_of_lt_mul ha
  have h2 : x % 18446744073709551616 / 9223372036854775808 < 2 := Nat.div_lt_of_lt_mul (Nat.mod_lt _ (by decide))
  have h3 := dbl_nat (M := 9223372036854775808) (x := x) (by decide)
  rw [show 2 * 9223372036854775808 = 18446744073709551616 from rfl] at h3
  generalize x / 18446744073709551616 = h at *
  generalize x % 18446744073709551616 / 9223372036854775808 = l at *
  rw [Nat.mod_eq_of_lt (by omega), bI_or (by omega) (by omega), or_bit h2, h3]
theorem cdiv_exact {x d : Nat} (hd : 0 < d) (h : x % d = 0) : cdiv x d = x / d := by
  unfold cdiv
  rw [if_neg]
  have := Nat.div_add_mod x d
  rw [Nat.mul_comm] at this
  omega
theorem cdiv_rest {x d : Nat} (hd : 0 < d) (h : x % d ≠ 0) : cdiv x d = x / d + 1 := by
  unfold cdiv
  rw [if_pos]
  have := Nat.div_add_mod x d
  rw [Nat.mul_comm] at this
  omega
theorem mul2_mod {x M : Nat} (hM : 0 < M) : x % (2 * M) * 2 % (2 * M) = x % M * 2 := by
  have e : x % (2 * M) % M = x % M := Nat.mod_mul_left_mod ..
  rw [← e]
  generalize x % (2 * M) = y at *
  rw [Nat.mul_comm y 2, Nat.mul_mod_mul_left, Nat.mul_comm]
theorem sl1_pos (b : Nat) : (0 < sl1 (loW (b : Int))) ↔ b * b % 9223372036854775808 ≠ 0 := by
  rw [loW_nat, sl1_nat]
  have h := mul2_mod (x := b * b) (M := 9223372036854775808) (by decide)
  rw [show 2 * 9223372036854775808 = 18446744073709551616 from rfl] at h
  rw [h]
  omega
theorem u_big {z : Nat} (h : z < 18446744073709551616) : (IntKind.u64.wrap ((z : Int) + 1) = 0 ↔ z + 1 = 18446744073709551616) ∧ (z + 1 < 18446744073709551616 → IntKind.u64.wrap ((z : Int) + 1) = ((z + 1 : Nat) : Int)) := by
  rw [u_mod]
  constructor <;> omega
theorem bitS {S b : Nat} (hS : S < 9223372036854775808) (hb : b < 2) : bitI .or .u64 (sl1 (S : Int)) ((b : Nat) : Int) = ((2 * S + b : Nat) : Int) := by
  rw [sl1_nat, Nat.mod_eq_of_lt (by omega), bI_or (by omega) (by omega), or_bit hb, Nat.mul_comm]
theorem shW_nat {S f : Nat} (hf : f ≤ 64) (h : S * 2 ^ f < 18446744073709551616) : shW (S : Int) f = ((S * 2 ^ f : Nat) : Int) := shl_nat hf h
theorem uS {S : Nat} (hS : S < 18446744073709551615) : IntKind.u64.wrap ((S : Int) + 1) = ((S + 1 : Nat) : Int) := by rw [IntWalk.u64_in _ (by omega)]; rfl
def castP (p : Nat × Nat) : Int × Int := ((p.1 : Int), (p.2 : Int))
theorem quickL_gl : ∀ (f S a b : Nat), f ≤ 28 → S < 2 ^ (34 - f) → 9223372036854775808 ≤ a → a ≤ b → b < 18446744073709551616 →
    quickL f (S : Int) (a : Int) (b : Int) = castP (gl 9223372036854775808 true f a b S) := by
  intro f
  induction f with
  | zero =>
    intro S a b _ hS _ _ _
    rw [show (2 : Nat) ^ (34 - 0) = 17179869184 from rfl] at hS
    rw [quickL, gl, castP, uS (by omega)]
  | succ f ih =>
    intro S a b hf hS ha hab hb
    have e34 : (2 : Nat) ^ (34 - f) = 2 * 2 ^ (34 - (f + 1)) := by rw [show 34 - f = 34 - (f + 1) + 1 by omega, Nat.pow_succ, Nat.mul_comm]
    have hS2 : S < 17179869184 := Nat.lt_of_lt_of_le hS (by rw [show 17179869184 = 2 ^ 34 from rfl]; exact Nat.pow_le_pow_right (by decide) (by omega))
    have stop : (shW (S : Int) (f + 1), shW (IntKind.u64.wrap ((S : Int) + 1)) (f + 1)) = castP (S * 2 ^ (f + 1), (S + 1) * 2 ^ (f + 1)) := by
      have hp : (2 : Nat) ^ (34 - (f + 1)) * 2 ^ (f + 1) = 17179869184 := by rw [← Nat.pow_add, show 34 - (f + 1) + (f + 1) = 34 by omega]
      have h1 : S * 2 ^ (f + 1) ≤ 2 ^ (34 - (f + 1)) * 2 ^ (f + 1) := Nat.mul_le_mul_right _ (Nat.le_of_lt hS)
      have h2 : (S + 1) * 2 ^ (f + 1) ≤ 2 ^ (34 - (f + 1)) * 2 ^ (f + 1) := Nat.mul_le_mul_right _ hS
      rw [uS (by omega), shW_nat (by omega) (by omega), shW_nat (by omega) (by omega)]; rfl
    have haa : 9223372036854775808 * 9223372036854775808 ≤ a * a := Nat.mul_le_mul ha ha
    have hbb : b * b < 18446744073709551616 * 18446744073709551616 := Nat.mul_lt_mul_of_lt_of_le hb (Nat.le_of_lt hb) (by decide)
    have hab2 : a * a ≤ b * b := Nat.mul_le_mul hab hab
    have kA : sr63 (hiW (a : Int)) = ((a * a / 170141183460469231731687303715884105728 : Nat) : Int) := by rw [hiW_nat, sr63_nat, Nat.div_div_eq_div_mul]
    have kB : sr63 (hiW (b : Int)) = ((b * b / 170141183460469231731687303715884105728 : Nat) : Int) := by rw [hiW_nat, sr63_nat, Nat.div_div_eq_div_mul]
    have hS0 := bitS (S := S) (b := 0) (by omega) (by decide)
    have hS1 := bitS (S := S) (b := 1) (by omega) (by decide)
    have eb : IntKind.u64.wrap (dblW (hiW (b : Int)) (loW (b : Int)) + 1) = IntKind.u64.wrap (dblW (hiW (b : Int)) (loW (b : Int)) + 1) := rfl
    rw [quickL, gl, kA, kB]
    by_cases c1 : a * a < 170141183460469231731687303715884105728
    · have z1 : a * a / 170141183460469231731687303715884105728 = 0 := Nat.div_eq_of_lt c1
      have c1' : a * a / 9223372036854775808 < 2 * 9223372036854775808 := Nat.div_lt_of_lt_mul c1
      have la : 9223372036854775808 ≤ a * a / 9223372036854775808 := (Nat.le_div_iff_mul_le (by decide)).2 haa
      rw [if_pos c1', z1, if_pos (by rfl), dblW_nat c1, hS0]
      by_cases c2 : b * b < 170141183460469231731687303715884105728
      · have z2 : b * b / 170141183460469231731687303715884105728 = 0 := Nat.div_eq_of_lt c2
        have c2' : b * b / 9223372036854775808 < 18446744073709551616 := Nat.div_lt_of_lt_mul c2
        have hq : a * a / 9223372036854775808 ≤ b * b / 9223372036854775808 := Nat.div_le_div_right hab2
        rw [z2, dblW_nat c2]
        obtain ⟨u1, u2⟩ := u_big c2'
        by_cases c3 : b * b % 9223372036854775808 ≠ 0
        · rw [if_pos ((sl1_pos b).2 c3), cdiv_rest (by decide) c3]
          by_cases c4 : b * b / 9223372036854775808 + 1 = 18446744073709551616
          · rw [if_pos (by rw [decide_eq_true (u1.2 c4)]; simp), if_neg (by omega)]
            exact stop
          · rw [if_neg (by rw [decide_eq_false (fun h => c4 (u1.1 h))]; simp), if_pos (by omega), u2 (by omega)]
            exact ih _ _ _ (by omega) (by omega) la (by omega) (by omega)
        · rw [if_neg (fun h => c3 ((sl1_pos b).1 h)), cdiv_exact (by decide) (by omega)]
          rw [if_neg (by rw [decide_eq_false (show ¬ ((b * b / 9223372036854775808 : Nat) : Int) = 0 by omega)]; simp), if_pos (by omega)]
          exact ih _ _ _ (by omega) (by omega) la (by omega) (by omega)
      · have hz2 : 1 ≤ b * b / 170141183460469231731687303715884105728 := (Nat.le_div_iff_mul_le (by decide)).2 (by omega)
        have hc : ¬ cdiv (b * b) 9223372036854775808 < 2 * 9223372036854775808 := by
          have h1 := le_cdiv (b * b) 9223372036854775808
          have h2 : 2 * 9223372036854775808 ≤ b * b / 9223372036854775808 := (Nat.le_div_iff_mul_le (by decide)).2 (by omega)
          omega
        have hk : (!decide (((0 : Nat) : Int) = ((b * b / 170141183460469231731687303715884105728 : Nat) : Int))) = true := by
          rw [decide_eq_false (by omega)]; rfl
        rw [if_neg hc, hk]
        simp only [Bool.true_or, if_true, ite_self]
        exact stop
    · have e1 : a * a / 170141183460469231731687303715884105728 = 1 := by
        have h1 : 1 ≤ a * a / 170141183460469231731687303715884105728 := (Nat.le_div_iff_mul_le (by decide)).2 (by omega)
        have h2 : a * a / 170141183460469231731687303715884105728 < 2 := Nat.div_lt_of_lt_mul (by omega)
        omega
      have e2 : b * b / 170141183460469231731687303715884105728 = 1 := by
        have h1 : 1 ≤ b * b / 170141183460469231731687303715884105728 := (Nat.le_div_iff_mul_le (by decide)).2 (by omega)
        have h2 : b * b / 170141183460469231731687303715884105728 < 2 := Nat.div_lt_of_lt_mul (by omega)
        omega
      have c1' : ¬ a * a / 9223372036854775808 < 2 * 9223372036854775808 := by
        have h2 : 2 * 9223372036854775808 ≤ a * a / 9223372036854775808 := (Nat.le_div_iff_mul_le (by decide)).2 (by omega)
        omega
      have ea : a * a / 9223372036854775808 / 2 = a * a / 18446744073709551616 := by rw [Nat.div_div_eq_div_mul]
      have hal : 9223372036854775808 ≤ a * a / 18446744073709551616 := (Nat.le_div_iff_mul_le (by decide)).2 (by omega)
      have hbl : 9223372036854775808 ≤ b * b / 18446744073709551616 := (Nat.le_div_iff_mul_le (by decide)).2 (by omega)
      have hq : a * a / 18446744073709551616 ≤ b * b / 18446744073709551616 := Nat.div_le_div_right hab2
      have hbu : b * b / 18446744073709551616 < 18446744073709551616 := Nat.div_lt_of_lt_mul hbb
      rw [if_neg c1', e1, e2, if_neg (by decide), hS1, ea, cdiv_cdiv (by decide), show 9223372036854775808 * 2 = 18446744073709551616 from rfl, hiW_nat, hiW_nat, loW_nat]
      obtain ⟨u1, u2⟩ := u_big hbu
      by_cases c3 : b * b % 18446744073709551616 ≠ 0
      · rw [if_pos (by omega), cdiv_rest (by decide) c3]
        by_cases c4 : b * b / 18446744073709551616 + 1 = 18446744073709551616
        · rw [if_pos (by rw [decide_eq_true (u1.2 c4)]; simp), if_pos (by rw [decide_eq_true (show 18446744073709551616 ≤ b * b / 18446744073709551616 + 1 by omega)]; rfl)]
          exact stop
        · rw [if_neg (by rw [decide_eq_false (fun h => c4 (u1.1 h))]; simp), if_neg (by rw [decide_eq_false (show ¬ 18446744073709551616 ≤ b * b / 18446744073709551616 + 1 by omega)]; simp), u2 (by omega)]
          exact ih _ _ _ (by omega) (by omega) hal (by omega) (by omega)
      · rw [if_neg (by omega), cdiv_exact (by decide) (by omega)]
        rw [if_neg (by rw [decide_eq_false (show ¬ ((b * b / 18446744073709551616 : Nat) : Int) = 0 by omega)]; simp), if_neg (by rw [decide_eq_false (show ¬ 18446744073709551616 ≤ b * b / 18446744073709551616 by omega)]; simp)]
        exact ih _ _ _ (by omega) (by omega) hal (by omega) (by omega)
end Go.Proofs.Ytmgfmkbniaepcaa
set_option linter.all false
namespace Go.Proofs.Ytmgfmkbniaepcaa
open Go Go.Vx
def lgK (n : Nat) : Nat := bitsN n - 1
theorem lgK_le {n : Nat} (h : 1 ≤ n) : 2 ^ lgK n ≤ n ∧ n < 2 ^ (lgK n + 1) := by
  have h0 : bitsN n ≠ 0 := fun e => by have := bitsN_eq0.1 e; omega
  unfold lgK
  constructor
  · refine Nat.le_of_not_lt fun hh => ?_
    have := bitsN_le.2 hh
    omega
  · rw [show bitsN n - 1 + 1 = bitsN n by omega]; exact bitsN_lt n
theorem lgK_lt {n m : Nat} (hm : 0 < m) (h : n < 2 ^ m) : lgK n < m := by
  have := bitsN_le.2 h
  unfold lgK; omega
theorem isPow_is {n : Nat} (h1 : 1 ≤ n) (h2 : n < 4611686018427387904) : isPow (n : Int) = true → n = 2 ^ lgK n := by
  intro h
  unfold isPow at h
  have h := of_decide_eq_true h
  have e : IntKind.i64.wrap ((n : Int) - 1) = ((n - 1 : Nat) : Int) := by rw [IntWalk.i64_in _ (by omega)]; omega
  rw [e] at h
  have h3 : IntKind.i64.wrap ((BitVec.ofInt 64 (n : Int) &&& BitVec.ofInt 64 ((n - 1 : Nat) : Int)).toNat : Int) = 0 := h
  rw [BitVec.toNat_and, ofInt_nat6 (by omega), ofInt_nat6 (by omega)] at h3
  have hle : n &&& (n - 1) ≤ n := Nat.and_le_left
  rw [IntWalk.i64_in _ (by omega)] at h3
  have h4 : n &&& (n - 1) = 0 := by omega
  obtain ⟨b1, b2⟩ := lgK_le h1
  refine Nat.le_antisymm (Nat.le_of_not_lt fun hh => ?_) b1
  have t1 : n.testBit (lgK n) = true := by
    rw [Nat.testBit_eq_decide_div_mod_eq]
    have : n / 2 ^ lgK n = 1 := by
      have g1 : 1 ≤ n / 2 ^ lgK n := (Nat.le_div_iff_mul_le (Nat.pow_pos (by decide))).2 (by omega)
      have g2 : n / 2 ^ lgK n < 2 := Nat.div_lt_of_lt_mul (by rw [← Nat.pow_succ]; exact b2)
      omega
    rw [this]; rfl
  have t2 : (n - 1).testBit (lgK n) = true := by
    rw [Nat.testBit_eq_decide_div_mod_eq]
    have : (n - 1) / 2 ^ lgK n = 1 := by
      have g1 : 1 ≤ (n - 1) / 2 ^ lgK n := (Nat.le_div_iff_mul_le (Nat.pow_pos (by decide))).2 (by omega)
      have g2 : (n - 1) / 2 ^ lgK n < 2 := Nat.div_lt_of_lt_mul (by rw [← Nat.pow_succ]; omega)
      omega
    rw [this]; rfl
  have t3 : (n &&& (n - 1)).testBit (lgK n) = true := by rw [Nat.testBit_and, t1, t2]; rfl
  rw [h4, Nat.zero_testBit] at t3
  cases t3
def qN (n : Nat) : Nat × Nat := if isPow (n : Int) = true then (lgK n * 2 ^ 28, lgK n * 2 ^ 28) else gl 9223372036854775808 true 28 (n * 2 ^ (63 - lgK n)) (n * 2 ^ (63 - lgK n)) (lgK n)
def lN (n p : Nat) : Nat × Nat := if isPow (n : Int) = true then (lgK n * 2 ^ p, lgK n * 2 ^ p) else gl (2 ^ (2 * p + 64)) false p (n * 2 ^ (2 * p + 64 - lgK n)) (n * 2 ^ (2 * p + 64 - lgK n)) (lgK n)
theorem mant {n D : Nat} (h1 : 1 ≤ n) (hD : lgK n ≤ D) : 2 ^ D ≤ n * 2 ^ (D - lgK n) ∧ n * 2 ^ (D - lgK n) < 2 * 2 ^ D ∧ 2 ^ lgK n * (n * 2 ^ (D - lgK n)) = n * 2 ^ D := by
  obtain ⟨b1, b2⟩ := lgK_le h1
  have e : 2 ^ D = 2 ^ lgK n * 2 ^ (D - lgK n) := by rw [← Nat.pow_add]; congr 1; omega
  refine ⟨?_, ?_, ?_⟩
  · rw [e]; exact Nat.mul_le_mul_right _ b1
  · rw [e, ← Nat.mul_assoc, ← Nat.pow_succ']
    exact Nat.mul_lt_mul_of_pos_right b2 (Nat.pow_pos (by decide))
  · rw [e, Nat.mul_left_comm]
theorem quickF_is {n : Nat} (h1 : 1 ≤ n) (h2 : n < 4611686018427387904) : quickF (n : Int) = castP (qN n) := by
  have hk : lgK n < 62 := lgK_lt (by decide) h2
  unfold quickF qN
  rw [Int.toNat_natCast]
  by_cases c : isPow (n : Int) = true
  · rw [if_pos c, if_pos c]
    have e : shW ((bitsN n - 1 : Nat) : Int) 28 = ((lgK n * 2 ^ 28 : Nat) : Int) := shW_nat (by decide) (by show lgK n * 268435456 < _; omega)
    have e : IntKind.u64.wrap (((bitsN n - 1 : Nat) : Int) * 2 ^ min (Int.toNat 28) 64) = ((lgK n * 2 ^ 28 : Nat) : Int) := e
    rw [e]; rfl
  · rw [if_neg c, if_neg c]
    obtain ⟨m1, m2, m3⟩ := mant (D := 63) h1 (by omega)
    have e : shW (n : Int) (63 - (bitsN n - 1)) = ((n * 2 ^ (63 - lgK n) : Nat) : Int) := shW_nat (by omega) (Nat.lt_of_lt_of_le m2 (by decide))
    rw [e]
    exact quickL_gl 28 (lgK n) _ _ (by decide) (by rw [show (2 : Nat) ^ (34 - 28) = 64 from rfl]; omega) m1 (Nat.le_refl _) m2
theorem le_pw32 {e k : Nat} (h : e ≤ 32 * k) : 2 ^ e ≤ 4294967296 ^ k := by
  rw [pw_two]
  exact Nat.pow_le_pow_right (by decide) h
theorem cap_nl {x e k : Nat} (h : x < 2 ^ e) (he : e ≤ 32 * k) : nl x ≤ k := nl_le.2 (Nat.lt_of_lt_of_le h (le_pw32 he))
theorem cap_id {x e : Nat} (h : x < 2 ^ e) (he : e ≤ 32 * 512) : capF x = x := by
  unfold capF
  rw [if_pos]
  exact cap_nl (k := 512) h he
theorem shF_down (a d : Nat) (hd : 0 < d) : shF a (-(d : Int)) = a / 2 ^ d := by
  unfold shF
  rw [if_pos (by omega), show (- -(d : Int)).toNat = d by omega]
theorem shF_up (a d : Nat) : shF a (d : Int) = a * 2 ^ d := by
  unfold shF
  rw [if_neg (by omega), Int.toNat_natCast]
theorem mov_up {a d e : Nat} (h : a * 2 ^ d < 2 ^ e) (he : e ≤ 32 * 512) : movW a (d : Int) false = a * 2 ^ d := by
  unfold movW
  rw [Bool.false_and, if_neg (by decide), shF_up, cap_id h he]
theorem mov_dn {a d e : Nat} (hd : 0 < d) (h : a < 2 ^ e) (he : e ≤ 32 * 512) : movW a (-(d : Int)) false = a / 2 ^ d := by
  unfold movW
  rw [Bool.false_and, if_neg (by decide), shF_down _ _ hd, cap_id (Nat.lt_of_le_of_lt (Nat.div_le_self _ _) h) he]
theorem mov_cdiv {a d e : Nat} (hd : 0 < d) (h : a < 2 ^ e) (he : e + 1 ≤ 32 * 512) : movW a (-(d : Int)) true = cdiv a (2 ^ d) := by
  have h1 : a / 2 ^ d < 2 ^ e := Nat.lt_of_le_of_lt (Nat.div_le_self _ _) h
  have h2 : a / 2 ^ d * 2 ^ d < 2 ^ e := Nat.lt_of_le_of_lt (Nat.div_mul_le_self _ _) h
  unfold movW cdiv
  rw [Bool.true_and, shF_down _ _ hd, cap_id h1 (by omega), Int.neg_neg, shF_up, cap_id h2 (by omega)]
  by_cases c : a / 2 ^ d * 2 ^ d < a
  · rw [if_pos (decide_eq_true c), if_pos c]
    exact cap_id (e := e + 1) (by rw [Nat.pow_succ]; omega) he
  · rw [if_neg (by rw [decide_eq_false c]; decide), if_neg c]
theorem add_id {a b e : Nat} (h : a + b < 2 ^ e) (he : e ≤ 32 * 512) : addW a b = a + b := cap_id h he
theorem mul_id {a b e : Nat} (h : a * b < 2 ^ e) (he : e ≤ 32 * 512) : mulW a b = a * b := cap_id h he
theorem logL_gl {D : Nat} (hD0 : 64 ≤ D) (hD : D ≤ 4200) : ∀ (f a b S q : Nat), a ≤ b → b ≤ 2 * 2 ^ D → S < 2 ^ (q - f) → f ≤ q → q ≤ 4200 →
    logL (2 * 2 ^ D) (D : Int) f a b S = gl (2 ^ D) false f a b S := by
  intro f
  induction f with
  | zero =>
    intro a b S q _ _ hS _ hq
    rw [logL, gl, add_id (e := q + 1) (by
      have := Nat.one_le_two_pow (n := q)
      rw [Nat.pow_succ]; rw [Nat.sub_zero] at hS; omega) (by omega)]
  | succ f ih =>
    intro a b S q hab hb hS hfq hq
    have hbb : b * b ≤ 2 ^ (2 * D + 2) := by
      have := Nat.mul_le_mul hb hb
      rw [show 2 * D + 2 = D + 1 + (D + 1) by omega, Nat.pow_add, Nat.pow_succ, Nat.mul_comm (2 ^ D)]
      exact this
    have haa : a * a ≤ b * b := Nat.mul_le_mul hab hab
    have l1 : ∀ x, x ≤ 2 ^ (2 * D + 2) → x < 2 ^ (2 * D + 3) := fun x hx => by
      have : (2 : Nat) ^ (2 * D + 3) = 2 * 2 ^ (2 * D + 2) := by rw [Nat.pow_succ', ]
      have := Nat.one_le_two_pow (n := 2 * D + 2)
      omega
    have ea : mulW a a = a * a := mul_id (l1 _ (by omega)) (by omega)
    have eb : mulW b b = b * b := mul_id (l1 _ (by omega)) (by omega)
    have fa : movW (a * a) (-(D : Int)) false = a * a / 2 ^ D := mov_dn (by omega) (l1 _ (by omega)) (by omega)
    have fb : movW (b * b) (-(D : Int)) true = cdiv (b * b) (2 ^ D) := mov_cdiv (by omega) (l1 _ (by omega)) (by omega)
    have hA : a * a / 2 ^ D ≤ cdiv (b * b) (2 ^ D) := div_cdiv haa
    have hB : cdiv (b * b) (2 ^ D) ≤ 4 * 2 ^ D := cdiv_le (by
      rw [show 2 * D + 2 = 2 + D + D by omega, Nat.pow_add, Nat.pow_add] at hbb
      exact hbb)
    have hB2 : cdiv (b * b) (2 ^ D) < 2 ^ (D + 3) := by
      have : (2 : Nat) ^ (D + 3) = 8 * 2 ^ D := by rw [Nat.pow_add, Nat.mul_comm]
      have := Nat.one_le_two_pow (n := D)
      omega
    have hq2 : q - f = q - (f + 1) + 1 := by omega
    have hS2 : 2 * S + 1 < 2 ^ (q - f) := by rw [hq2, Nat.pow_succ]; omega
    have hqq : (2 : Nat) ^ (q - f) ≤ 2 ^ q := Nat.pow_le_pow_right (by decide) (by omega)
    have es1 : movW S 1 false = 2 * S := by
      have := mov_up (a := S) (d := 1) (e := q) (by rw [Nat.pow_one]; omega) (by omega)
      rw [Nat.pow_one, Nat.mul_comm] at this
      exact this
    have es2 : ∀ b, b ≤ 1 → addW (2 * S) b = 2 * S + b := fun b hb => add_id (e := q) (by omega) (by omega)
    have hSf : (S + 1) * 2 ^ (f + 1) ≤ 2 ^ q := by
      have : (2 : Nat) ^ q = 2 ^ (q - (f + 1)) * 2 ^ (f + 1) := by rw [← Nat.pow_add]; congr 1; omega
      rw [this]
      exact Nat.mul_le_mul_right _ hS
    have hSf0 : S * 2 ^ (f + 1) ≤ (S + 1) * 2 ^ (f + 1) := Nat.mul_le_mul_right _ (by omega)
    have lq : ∀ x, x ≤ 2 ^ q → x < 2 ^ (q + 1) := fun x hx => by
      have := Nat.one_le_two_pow (n := q)
      rw [Nat.pow_succ]; omega
    have st1 : movW S ((f + 1 : Nat) : Int) false = S * 2 ^ (f + 1) := mov_up (lq _ (by omega)) (by omega)
    have st2 : movW (addW S 1) ((f + 1 : Nat) : Int) false = (S + 1) * 2 ^ (f + 1) := by
      rw [add_id (e := q + 1) (lq _ (by
        have : (2 : Nat) ^ (q - (f + 1)) ≤ 2 ^ q := Nat.pow_le_pow_right (by decide) (by omega)
        omega)) (by omega)]
      exact mov_up (lq _ (by omega)) (by omega)
    rw [logL, gl, ea, eb, fa, fb, es1, st1, st2]
    by_cases c1 : a * a / 2 ^ D < 2 * 2 ^ D
    · rw [if_pos c1, if_pos c1]
      by_cases c2 : cdiv (b * b) (2 ^ D) < 2 * 2 ^ D
      · rw [if_pos c2, if_pos c2, es2 0 (by omega), Nat.add_zero]
        exact ih _ _ _ q hA (by omega) (by omega) (by omega) hq
      · rw [if_neg c2, if_neg c2]
    · have g1 : movW (a * a / 2 ^ D) (-1) false = a * a / 2 ^ D / 2 := by
        have := mov_dn (a := a * a / 2 ^ D) (d := 1) (by decide) (Nat.lt_of_le_of_lt hA hB2) (by omega)
        rw [Nat.pow_one] at this
        exact this
      have g2 : movW (cdiv (b * b) (2 ^ D)) (-1) true = cdiv (cdiv (b * b) (2 ^ D)) 2 := by
        have := mov_cdiv (a := cdiv (b * b) (2 ^ D)) (d := 1) (by decide) hB2 (by omega)
        rw [Nat.pow_one] at this
        exact this
      rw [if_neg c1, if_neg c1, Bool.false_and, if_neg (by decide), g1, g2, es2 1 (by omega)]
      exact ih _ _ _ q (div_cdiv hA) (cdiv_le (by omega)) (by omega) (by omega) hq
theorem logF_is {n p : Nat} (h1 : 1 ≤ n) (h2 : n < 4611686018427387904) (hp : p ≤ 2048) : logF (n : Int) p = lN n p := by
  have hk : lgK n < 62 := lgK_lt (by decide) h2
  have hk2 : lgK n < 2 ^ 6 := by rw [show (2 : Nat) ^ 6 = 64 from rfl]; omega
  unfold logF lN
  rw [Int.toNat_natCast]
  by_cases c : isPow (n : Int) = true
  · rw [if_pos c, if_pos c]
    have e : movW (lgK n) (p : Int) false = lgK n * 2 ^ p := mov_up (e := 6 + p) (by rw [Nat.pow_add]; exact Nat.mul_lt_mul_of_pos_right hk2 (Nat.pow_pos (by decide))) (by omega)
    show (movW (lgK n) (p : Int) false, movW (lgK n) (p : Int) false) = _
    rw [e]
  · rw [if_neg c, if_neg c]
    obtain ⟨D, hD⟩ : ∃ D, D = 2 * p + 64 := ⟨_, rfl⟩
    rw [← hD]
    obtain ⟨m1, m2, m3⟩ := mant (D := D) h1 (by omega)
    have hD1 : 2 * 2 ^ D < 2 ^ (D + 2) := by
      have : (2 : Nat) ^ (D + 2) = 4 * 2 ^ D := by rw [Nat.pow_add, Nat.mul_comm]
      have := Nat.one_le_two_pow (n := D)
      omega
    have ea : movW n ((D : Int) - ((bitsN n - 1 : Nat) : Int)) false = n * 2 ^ (D - lgK n) := by
      rw [show ((D : Int) - ((bitsN n - 1 : Nat) : Int)) = ((D - lgK n : Nat) : Int) by unfold lgK at hk ⊢; omega]
      exact mov_up (e := D + 2) (by omega) (by omega)
    have e2 : movW 2 (D : Int) false = 2 * 2 ^ D := mov_up (e := D + 2) hD1 (by omega)
    show logL (movW 2 (D : Int) false) (D : Int) p (movW n ((D : Int) - ((bitsN n - 1 : Nat) : Int)) false) (movW n ((D : Int) - ((bitsN n - 1 : Nat) : Int)) false) (lgK n) = _
    rw [ea, e2]
    exact logL_gl (by omega) (by omega) p _ _ _ (p + 6) (Nat.le_refl _) (Nat.le_of_lt m2) (by rw [show p + 6 - p = 6 by omega]; exact hk2) (by omega) (by omega)
theorem pow_isPow {n : Nat} (h1 : 1 ≤ n) (h2 : n < 4611686018427387904) (c : isPow (n : Int) = true) (p : Nat) : 2 ^ (lgK n * 2 ^ p) ≤ n ^ (2 ^ p) ∧ n ^ (2 ^ p) ≤ 2 ^ (lgK n * 2 ^ p) := by
  have e0 := isPow_is h1 h2 c
  have e : n ^ (2 ^ p) = 2 ^ (lgK n * 2 ^ p) := by
    rw [Nat.pow_mul, ← e0]
  rw [e]; exact ⟨Nat.le_refl _, Nat.le_refl _⟩
theorem qN_sound {n : Nat} (h1 : 1 ≤ n) (h2 : n < 4611686018427387904) : 2 ^ (qN n).1 ≤ n ^ (2 ^ 28) ∧ n ^ (2 ^ 28) ≤ 2 ^ (qN n).2 := by
  unfold qN
  by_cases c : isPow (n : Int) = true
  · rw [if_pos c]
    exact pow_isPow h1 h2 c 28
  · rw [if_neg c]
    have hk : lgK n < 62 := lgK_lt (by decide) h2
    obtain ⟨m1, m2, m3⟩ := mant (D := 63) h1 (by omega)
    exact gl_sound _ true (by decide) 28 _ _ _ n (Nat.le_of_eq m3) (Nat.le_of_eq m3.symm) m1 (Nat.le_of_lt m2)
theorem lN_sound {n p : Nat} (h1 : 1 ≤ n) (h2 : n < 4611686018427387904) : 2 ^ (lN n p).1 ≤ n ^ (2 ^ p) ∧ n ^ (2 ^ p) ≤ 2 ^ (lN n p).2 := by
  unfold lN
  by_cases c : isPow (n : Int) = true
  · rw [if_pos c]
    exact pow_isPow h1 h2 c p
  · rw [if_neg c]
    have hk : lgK n < 62 := lgK_lt (by decide) h2
    obtain ⟨m1, m2, m3⟩ := mant (D := 2 * p + 64) h1 (by omega)
    exact gl_sound _ false (Nat.pow_pos (by decide)) p _ _ _ n (Nat.le_of_eq m3) (Nat.le_of_eq m3.symm) m1 (Nat.le_of_lt m2)
end Go.Proofs.Ytmgfmkbniaepcaa
set_option linter.all false
namespace Go.Proofs.Ytmgfmkbniaepcaa
open Go Go.Vx
def upS (g : Nat → Nat) : List (Int × Int) → Nat
  | [] => 0
  | x :: l => (if x.2 < 0 then 0 else g x.1.toNat * x.2.toNat) + upS g l
def dnS (g : Nat → Nat) : List (Int × Int) → Nat
  | [] => 0
  | x :: l => (if x.2 < 0 then g x.1.toNat * (-x.2).toNat else 0) + dnS g l
def upP : List (Int × Int) → Nat
  | [] => 1
  | x :: l => (if x.2 < 0 then 1 else x.1.toNat ^ x.2.toNat) * upP l
def dnP : List (Int × Int) → Nat
  | [] => 1
  | x :: l => (if x.2 < 0 then x.1.toNat ^ (-x.2).toNat else 1) * dnP l
theorem okT_nat {x : Int × Int} (h : okT x) : 1 ≤ x.1.toNat ∧ x.1.toNat < 4611686018427387904 ∧ x.1 = (x.1.toNat : Int) := by
  obtain ⟨h1, h2, h3, h4⟩ := h
  omega
theorem pow_one_sound {K g h n e : Nat} (H : 2 ^ g ≤ n ^ K ∧ n ^ K ≤ 2 ^ h) : 2 ^ (g * e) ≤ (n ^ e) ^ K ∧ (n ^ e) ^ K ≤ 2 ^ (h * e) := by
  rw [Nat.pow_mul, Nat.pow_mul, ← Nat.pow_mul n, Nat.mul_comm e K, Nat.pow_mul]
  exact ⟨Nat.pow_le_pow_left H.1 _, Nat.pow_le_pow_left H.2 _⟩
theorem upS_sound {K : Nat} {g h : Nat → Nat} (H : ∀ n, 1 ≤ n → n < 4611686018427387904 → 2 ^ g n ≤ n ^ K ∧ n ^ K ≤ 2 ^ h n) : ∀ (l : List (Int × Int)), (∀ x, x ∈ l → okT x) →
    (2 ^ upS g l ≤ upP l ^ K ∧ upP l ^ K ≤ 2 ^ upS h l) ∧ 2 ^ dnS g l ≤ dnP l ^ K ∧ dnP l ^ K ≤ 2 ^ dnS h l
  | [], _ => by simp [upS, upP, dnS, dnP]
  | x :: l, hl => by
    obtain ⟨⟨a1, a2⟩, b1, b2⟩ := upS_sound H l fun y hy => hl y (List.mem_cons_of_mem _ hy)
    obtain ⟨n1, n2, _⟩ := okT_nat (hl x (List.mem_cons_self ..))
    have hx := H _ n1 n2
    rw [upS, upS, upP, dnS, dnS, dnP, Nat.mul_pow, Nat.mul_pow, Nat.pow_add, Nat.pow_add, Nat.pow_add, Nat.pow_add]
    by_cases c : x.2 < 0
    · simp only [if_pos c, Nat.pow_zero, Nat.one_pow, Nat.one_mul]
      obtain ⟨p1, p2⟩ := pow_one_sound (e := (-x.2).toNat) hx
      exact ⟨⟨a1, a2⟩, Nat.mul_le_mul p1 b1, Nat.mul_le_mul p2 b2⟩
    · simp only [if_neg c, Nat.pow_zero, Nat.one_pow, Nat.one_mul]
      obtain ⟨p1, p2⟩ := pow_one_sound (e := x.2.toNat) hx
      exact ⟨⟨Nat.mul_le_mul p1 a1, Nat.mul_le_mul p2 a2⟩, b1, b2⟩
theorem S_le {g : Nat → Nat} {B : Nat} (H : ∀ n, 1 ≤ n → n < 4611686018427387904 → g n ≤ B) : ∀ (l : List (Int × Int)), (∀ x, x ∈ l → okT x) → upS g l ≤ l.length * (B * 1000000000) ∧ dnS g l ≤ l.length * (B * 1000000000)
  | [], _ => by simp [upS, dnS]
  | x :: l, hl => by
    obtain ⟨a1, a2⟩ := S_le H l fun y hy => hl y (List.mem_cons_of_mem _ hy)
    have hx := hl x (List.mem_cons_self ..)
    obtain ⟨n1, n2, _⟩ := okT_nat hx
    obtain ⟨_, _, x3, x4⟩ := hx
    have h1 := Nat.mul_le_mul (H _ n1 n2) (show x.2.toNat ≤ 1000000000 by omega)
    have h2 := Nat.mul_le_mul (H _ n1 n2) (show (-x.2).toNat ≤ 1000000000 by omega)
    rw [upS, dnS, List.length_cons, Nat.add_mul, Nat.one_mul]
    constructor
    · split <;> omega
    · split <;> omega
theorem qN_le {n : Nat} (h1 : 1 ≤ n) (h2 : n < 4611686018427387904) : (qN n).1 ≤ (qN n).2 ∧ (qN n).2 ≤ 17179869184 := by
  have hs := qN_sound h1 h2
  have hk : lgK n < 62 := lgK_lt (by decide) h2
  refine ⟨(Nat.pow_le_pow_iff_right (by decide)).1 (Nat.le_trans hs.1 hs.2), ?_⟩
  unfold qN
  split
  · show lgK n * 268435456 ≤ _; omega
  · have := (gl_any 9223372036854775808 true 28 (n * 2 ^ (63 - lgK n)) (n * 2 ^ (63 - lgK n)) (lgK n)).2
    rw [show (2 : Nat) ^ 28 = 268435456 from rfl] at this
    omega
theorem lN_le {n p : Nat} (h1 : 1 ≤ n) (h2 : n < 4611686018427387904) : (lN n p).1 ≤ (lN n p).2 ∧ (lN n p).2 ≤ 64 * 2 ^ p := by
  have hs := lN_sound (p := p) h1 h2
  have hk : lgK n < 62 := lgK_lt (by decide) h2
  refine ⟨(Nat.pow_le_pow_iff_right (by decide)).1 (Nat.le_trans hs.1 hs.2), ?_⟩
  unfold lN
  split
  · exact Nat.mul_le_mul_right _ (by omega)
  · exact Nat.le_trans (gl_any _ false p _ _ (lgK n)).2 (Nat.mul_le_mul_right _ (by omega))
theorem S_mono {g h : Nat → Nat} (H : ∀ n, 1 ≤ n → n < 4611686018427387904 → g n ≤ h n) : ∀ (l : List (Int × Int)), (∀ x, x ∈ l → okT x) → upS g l ≤ upS h l ∧ dnS g l ≤ dnS h l
  | [], _ => by simp [upS, dnS]
  | x :: l, hl => by
    obtain ⟨a1, a2⟩ := S_mono H l fun y hy => hl y (List.mem_cons_of_mem _ hy)
    obtain ⟨n1, n2, _⟩ := okT_nat (hl x (List.mem_cons_self ..))
    have h1 := Nat.mul_le_mul_right x.2.toNat (H _ n1 n2)
    have h2 := Nat.mul_le_mul_right (-x.2).toNat (H _ n1 n2)
    rw [upS, dnS, upS, dnS]
    constructor
    · split <;> omega
    · split <;> omega
def valL (a : Int × Int) : Int := a.1 * 18446744073709551616 + a.2
theorem split_M {M t : Int} (hM : 0 < M) : t / M * M + t % M = t := Int.ediv_mul_add_emod ..
theorem plusL_val {a : Int × Int} {x y : Int} (ha : okL a) (h0 : 0 ≤ x * y) (h : valL a + x * y < 340282366920938463463374607431768211456) : valL (plusL a x y) = valL a + x * y := by
  obtain ⟨⟨a0, a1⟩, b0, b1⟩ := ha
  unfold valL at h ⊢
  unfold plusL
  generalize x * y = t at *
  have e1 := split_M (M := 18446744073709551616) (t := t) (by decide)
  have e2 := split_M (M := 18446744073709551616) (t := a.2 + t % 18446744073709551616) (by decide)
  have r1 := Int.emod_nonneg t (show (18446744073709551616 : Int) ≠ 0 by decide)
  have r2 := Int.emod_lt_of_pos t (show (0 : Int) < 18446744073709551616 by decide)
  have r3 := Int.emod_nonneg (a.2 + t % 18446744073709551616) (show (18446744073709551616 : Int) ≠ 0 by decide)
  have r4 := Int.emod_lt_of_pos (a.2 + t % 18446744073709551616) (show (0 : Int) < 18446744073709551616 by decide)
  have q1 : 0 ≤ t / 18446744073709551616 := Int.ediv_nonneg h0 (by decide)
  have q2 : 0 ≤ (a.2 + t % 18446744073709551616) / 18446744073709551616 := Int.ediv_nonneg (by omega) (by decide)
  generalize t % 18446744073709551616 = lo at *
  generalize t / 18446744073709551616 = hi at *
  generalize (a.2 + lo) % 18446744073709551616 = r at *
  generalize (a.2 + lo) / 18446744073709551616 = c at *
  rw [IntWalk.u64_in (a.1 + hi) (by omega), IntWalk.u64_in (a.1 + hi + c) (by omega)]
  omega
theorem overL_val {a b : Int × Int} (ha : okL a) (hb : okL b) : overL a b = decide (valL b < valL a) := by
  obtain ⟨⟨a0, a1⟩, a2, a3⟩ := ha
  obtain ⟨⟨b0, b1⟩, b2, b3⟩ := hb
  unfold overL valL
  by_cases c : b.1 < a.1
  · rw [decide_eq_true c, Bool.true_or, decide_eq_true (by omega)]
  · rw [decide_eq_false c, Bool.false_or]
    by_cases d : a.1 = b.1
    · rw [decide_eq_true d, Bool.true_and, d]
      by_cases e : b.2 < a.2
      · rw [decide_eq_true e, decide_eq_true (by omega)]
      · rw [decide_eq_false e, decide_eq_false (by omega)]
    · rw [decide_eq_false d, Bool.false_and, decide_eq_false (by omega)]
theorem gss_vals : ∀ (l : List (Int × Int)) (s : Gss), s.ok → (∀ x, x ∈ l → okT x) →
    valL s.u0 + (upS (fun n => (qN n).1) l : Nat) < 340282366920938463463374607431768211456 → valL s.u1 + (upS (fun n => (qN n).2) l : Nat) < 340282366920938463463374607431768211456 →
    valL s.d0 + (dnS (fun n => (qN n).1) l : Nat) < 340282366920938463463374607431768211456 → valL s.d1 + (dnS (fun n => (qN n).2) l : Nat) < 340282366920938463463374607431768211456 →
    (l.foldl gssS s).ok ∧ valL (l.foldl gssS s).u0 = valL s.u0 + (upS (fun n => (qN n).1) l : Nat) ∧ valL (l.foldl gssS s).u1 = valL s.u1 + (upS (fun n => (qN n).2) l : Nat) ∧
      valL (l.foldl gssS s).d0 = valL s.d0 + (dnS (fun n => (qN n).1) l : Nat) ∧ valL (l.foldl gssS s).d1 = valL s.d1 + (dnS (fun n => (qN n).2) l : Nat)
  | [], s, hs, _, _, _, _, _ => by simpa [upS, dnS] using hs
  | x :: l, s, hs, hl, h1, h2, h3, h4 => by
    have hx := hl x (List.mem_cons_self ..)
    obtain ⟨n1, n2, n3⟩ := okT_nat hx
    have hq : quickF x.1 = castP (qN x.1.toNat) := by
      conv => lhs; rw [n3]
      exact quickF_is n1 n2
    obtain ⟨k1, k2, k3, k4⟩ := hs
    have ih := gss_vals l (gssS s x) (gssS_ok s x ⟨k1, k2, k3, k4⟩) fun y hy => hl y (List.mem_cons_of_mem _ hy)
    rw [upS, Int.natCast_add] at h1 h2
    rw [dnS, Int.natCast_add] at h3 h4
    rw [List.foldl_cons, upS, upS, dnS, dnS, Int.natCast_add, Int.natCast_add, Int.natCast_add, Int.natCast_add]
    by_cases c : x.2 < 0
    · rw [if_pos c] at h1 h2 h3 h4
      simp only [if_pos c]
      have c0 : ¬ 0 ≤ x.2 := by omega
      have hm : ∀ z : Nat, (z : Int) * (-x.2) = ((z * (-x.2).toNat : Nat) : Int) := fun z => by rw [Int.natCast_mul]; congr 1; omega
      have hz : ∀ z : Nat, 0 ≤ (z : Int) * (-x.2) := fun z => Int.mul_nonneg (by omega) (by omega)
      have e : gssS s x = { s with d0 := plusL s.d0 ((qN x.1.toNat).1 : Nat) (-x.2), d1 := plusL s.d1 ((qN x.1.toNat).2 : Nat) (-x.2) } := by rw [gssS, if_neg c0, hq]; rfl
      have p0 := plusL_val (x := ((qN x.1.toNat).1 : Nat)) (y := -x.2) k3 (hz _) (by rw [hm]; omega)
      have p1 := plusL_val (x := ((qN x.1.toNat).2 : Nat)) (y := -x.2) k4 (hz _) (by rw [hm]; omega)
      rw [hm] at p0 p1
      rw [e] at ih ⊢
      simp only at ih h1 h2 h3 h4
      rw [p0, p1] at ih
      obtain ⟨i0, i1, i2, i3, i4⟩ := ih (by omega) (by omega) (by omega) (by omega)
      exact ⟨i0, by omega, by omega, by omega, by omega⟩
    · rw [if_neg c] at h1 h2 h3 h4
      simp only [if_neg c]
      have c0 : 0 ≤ x.2 := by omega
      have hm : ∀ z : Nat, (z : Int) * x.2 = ((z * x.2.toNat : Nat) : Int) := fun z => by rw [Int.natCast_mul]; congr 1; omega
      have hz : ∀ z : Nat, 0 ≤ (z : Int) * x.2 := fun z => Int.mul_nonneg (by omega) (by omega)
      have e : gssS s x = { s with u0 := plusL s.u0 ((qN x.1.toNat).1 : Nat) x.2, u1 := plusL s.u1 ((qN x.1.toNat).2 : Nat) x.2 } := by rw [gssS, if_pos c0, hq]; rfl
      have p0 := plusL_val (x := ((qN x.1.toNat).1 : Nat)) (y := x.2) k1 (hz _) (by rw [hm]; omega)
      have p1 := plusL_val (x := ((qN x.1.toNat).2 : Nat)) (y := x.2) k2 (hz _) (by rw [hm]; omega)
      rw [hm] at p0 p1
      rw [e] at ih ⊢
      simp only at ih h1 h2 h3 h4
      rw [p0, p1] at ih
      obtain ⟨i0, i1, i2, i3, i4⟩ := ih (by omega) (by omega) (by omega) (by omega)
      exact ⟨i0, by omega, by omega, by omega, by omega⟩
theorem guess_is {l : List (Int × Int)} (hl : ∀ x, x ∈ l → okT x) (hn : l.length ≤ 100) : guessF l =
    if dnS (fun n => (qN n).2) l < upS (fun n => (qN n).1) l then (1, true) else if upS (fun n => (qN n).2) l < dnS (fun n => (qN n).1) l then (-1, true) else (0, false) := by
  obtain ⟨a1, a2⟩ := S_le (g := fun n => (qN n).2) (fun n h1 h2 => (qN_le h1 h2).2) l hl
  obtain ⟨b1, b2⟩ := S_mono (g := fun n => (qN n).1) (h := fun n => (qN n).2) (fun n h1 h2 => (qN_le h1 h2).1) l hl
  have hb : l.length * (17179869184 * 1000000000) ≤ 100 * (17179869184 * 1000000000) := Nat.mul_le_mul_right _ hn
  have z : valL (0, 0) = 0 := rfl
  have h0 : gss0.ok := by simp [Gss.ok, gss0, okL]
  obtain ⟨⟨k1, k2, k3, k4⟩, v1, v2, v3, v4⟩ := gss_vals l gss0 h0 hl (by show valL (0, 0) + _ < _; omega) (by show valL (0, 0) + _ < _; omega) (by show valL (0, 0) + _ < _; omega) (by show valL (0, 0) + _ < _; omega)
  have v1 : valL (l.foldl gssS gss0).u0 = (upS (fun n => (qN n).1) l : Nat) := by rw [v1]; show valL (0, 0) + _ = _; omega
  have v2 : valL (l.foldl gssS gss0).u1 = (upS (fun n => (qN n).2) l : Nat) := by rw [v2]; show valL (0, 0) + _ = _; omega
  have v3 : valL (l.foldl gssS gss0).d0 = (dnS (fun n => (qN n).1) l : Nat) := by rw [v3]; show valL (0, 0) + _ = _; omega
  have v4 : valL (l.foldl gssS gss0).d1 = (dnS (fun n => (qN n).2) l : Nat) := by rw [v4]; show valL (0, 0) + _ = _; omega
  unfold guessF
  simp only
  rw [overL_val k1 k4, overL_val k3 k2, v1, v2, v3, v4]
  simp only [Int.ofNat_lt, decide_eq_true_eq]
theorem sums_vals {p : Nat} (hp : p ≤ 2048) : ∀ (l : List (Int × Int)) (s : Bnd) (e : Nat), (∀ x, x ∈ l → okT x) → e ≤ 32 * 512 →
    s.ul + upS (fun n => (lN n p).1) l < 2 ^ e → s.uh + upS (fun n => (lN n p).2) l < 2 ^ e → s.dl + dnS (fun n => (lN n p).1) l < 2 ^ e → s.dh + dnS (fun n => (lN n p).2) l < 2 ^ e →
    l.foldl (sumsS p) s = ⟨s.ul + upS (fun n => (lN n p).1) l, s.uh + upS (fun n => (lN n p).2) l, s.dl + dnS (fun n => (lN n p).1) l, s.dh + dnS (fun n => (lN n p).2) l⟩
  | [], s, e, _, _, _, _, _, _ => by simp [upS, dnS]
  | x :: l, s, e, hl, he, h1, h2, h3, h4 => by
    have hx := hl x (List.mem_cons_self ..)
    obtain ⟨n1, n2, n3⟩ := okT_nat hx
    have hq : logF x.1 p = lN x.1.toNat p := by
      conv => lhs; rw [n3]
      exact logF_is n1 n2 hp
    have ih := sums_vals hp l (sumsS p s x) e (fun y hy => hl y (List.mem_cons_of_mem _ hy)) he
    rw [upS] at h1 h2
    rw [dnS] at h3 h4
    rw [List.foldl_cons, upS, upS, dnS, dnS]
    by_cases c : x.2 < 0
    · rw [if_pos c] at h1 h2 h3 h4
      simp only [if_pos c]
      have e : sumsS p s x = { s with dl := s.dl + (lN x.1.toNat p).1 * (-x.2).toNat, dh := s.dh + (lN x.1.toNat p).2 * (-x.2).toNat } := by
        rw [sumsS, if_pos c, hq]
        rw [mul_id (e := e) (by omega) he, mul_id (e := e) (by omega) he, add_id (e := e) (by omega) he, add_id (e := e) (by omega) he]
      rw [e] at ih ⊢
      simp only at ih
      rw [ih (by omega) (by omega) (by omega) (by omega)]
      simp only [Bnd.mk.injEq]
      omega
    · rw [if_neg c] at h1 h2 h3 h4
      simp only [if_neg c]
      have e : sumsS p s x = { s with ul := s.ul + (lN x.1.toNat p).1 * x.2.toNat, uh := s.uh + (lN x.1.toNat p).2 * x.2.toNat } := by
        rw [sumsS, if_neg c, hq]
        rw [mul_id (e := e) (by omega) he, mul_id (e := e) (by omega) he, add_id (e := e) (by omega) he, add_id (e := e) (by omega) he]
      rw [e] at ih ⊢
      simp only at ih
      rw [ih (by omega) (by omega) (by omega) (by omega)]
      simp only [Bnd.mk.injEq]
      omega
theorem sums_is {l : List (Int × Int)} {p : Nat} (hp : p ≤ 2048) (hl : ∀ x, x ∈ l → okT x) (hn : l.length ≤ 100) : sumsF l p = ⟨upS (fun n => (lN n p).1) l, upS (fun n => (lN n p).2) l, dnS (fun n => (lN n p).1) l, dnS (fun n => (lN n p).2) l⟩ := by
  obtain ⟨a1, a2⟩ := S_le (g := fun n => (lN n p).2) (B := 64 * 2 ^ p) (fun n h1 h2 => (lN_le h1 h2).2) l hl
  obtain ⟨b1, b2⟩ := S_mono (g := fun n => (lN n p).1) (h := fun n => (lN n p).2) (fun n h1 h2 => (lN_le h1 h2).1) l hl
  have hb : l.length * (64 * 2 ^ p * 1000000000) ≤ 100 * (64 * 2 ^ p * 1000000000) := Nat.mul_le_mul_right _ hn
  have hp2 : 100 * (64 * 2 ^ p * 1000000000) < 2 ^ (p + 43) := by
    have : (2 : Nat) ^ (p + 43) = 8796093022208 * 2 ^ p := by rw [Nat.pow_add, Nat.mul_comm]
    have := Nat.one_le_two_pow (n := p)
    omega
  unfold sumsF
  rw [sums_vals hp l ⟨0, 0, 0, 0⟩ (p + 43) hl (by omega) (by simp only; omega) (by simp only; omega) (by simp only; omega) (by simp only; omega)]
  simp only [Nat.zero_add]
end Go.Proofs.Ytmgfmkbniaepcaa
set_option linter.all false
namespace Go.Proofs.Ytmgfmkbniaepcaa
open Go Go.Vx
set_option maxRecDepth 100000
set_option maxHeartbeats 4000000
def encB (x : Nat) : List SV := [.int .i64 x]
def hitF (out : List Nat) (n : Nat) : Nat := leastF (fun i => decide (1 < Nat.gcd (out.getD i 0) n)) out.length 0
def drain : Nat → List Nat → List Nat → List Nat
  | 0, _, out => out
  | f + 1, wait, out =>
    if wait.length = 0 then out
    else if wait.getD (wait.length - 1) 0 = 1 then drain f (wait.take (wait.length - 1)) out
    else if hitF out (wait.getD (wait.length - 1) 0) < out.length then
      drain f (wait.take (wait.length - 1) ++ [Nat.gcd (out.getD (hitF out (wait.getD (wait.length - 1) 0)) 0) (wait.getD (wait.length - 1) 0), out.getD (hitF out (wait.getD (wait.length - 1) 0)) 0 / Nat.gcd (out.getD (hitF out (wait.getD (wait.length - 1) 0)) 0) (wait.getD (wait.length - 1) 0), wait.getD (wait.length - 1) 0 / Nat.gcd (out.getD (hitF out (wait.getD (wait.length - 1) 0)) 0) (wait.getD (wait.length - 1) 0)])
        (out.take (hitF out (wait.getD (wait.length - 1) 0)) ++ out.drop (hitF out (wait.getD (wait.length - 1) 0) + 1))
    else drain f (wait.take (wait.length - 1)) (out ++ [wait.getD (wait.length - 1) 0])
def drainF (out : List Nat) (x : Int × Int) : List Nat := drain 3000 [x.1.toNat] out
def baseF (l : List (Int × Int)) : List Nat := l.foldl drainF []
def prodL : List Nat → Nat
  | [] => 1
  | x :: l => x * prodL l
theorem prodL_append : ∀ (a b : List Nat), prodL (a ++ b) = prodL a * prodL b
  | [], b => by simp [prodL]
  | x :: a, b => by rw [List.cons_append, prodL, prodL, prodL_append a b, Nat.mul_assoc]
theorem prodL_pos : ∀ {l : List Nat}, (∀ x, x ∈ l → 1 ≤ x) → 1 ≤ prodL l
  | [], _ => by decide
  | x :: l, h => by
    have h1 := prodL_pos (l := l) fun y hy => h y (List.mem_cons_of_mem _ hy)
    have h2 := h x (List.mem_cons_self ..)
    rw [prodL]
    exact Nat.mul_pos h2 h1
theorem split_last {w : List Nat} (h : w.length ≠ 0) : w = w.take (w.length - 1) ++ [w.getD (w.length - 1) 0] := by
  have := take_succ_eq (l := w) (i := w.length - 1) (by omega)
  rw [show w.length - 1 + 1 = w.length by omega, List.take_length] at this
  exact this
theorem split_at {w : List Nat} {i : Nat} (h : i < w.length) : w = w.take i ++ w.getD i 0 :: w.drop (i + 1) := by
  have h1 := List.take_append_drop i w
  have h2 : w.drop i = w.getD i 0 :: w.drop (i + 1) := by
    rw [List.drop_eq_getElem_cons h, List.getD_eq_getElem?_getD, List.getElem?_eq_getElem h]; rfl
  rw [h2] at h1
  exact h1.symm
structure DrOk (B f : Nat) (wait out : List Nat) : Prop where
  wp : ∀ x, x ∈ wait → 1 ≤ x ∧ x ≤ 1099511627776
  op : ∀ x, x ∈ out → 2 ≤ x ∧ x ≤ 1099511627776
  pb : bitsN (prodL out * prodL wait) ≤ B
  mu : 3 * bitsN (prodL out * prodL wait) + wait.length ≤ f
theorem DrOk.pop {B f : Nat} {wait out : List Nat} (h : DrOk B f wait out) (hw : wait.length ≠ 0) (h1 : wait.getD (wait.length - 1) 0 = 1) : ∃ g, f = g + 1 ∧ DrOk B g (wait.take (wait.length - 1)) out := by
  have hm := h.mu
  have hpb := h.pb
  refine ⟨f - 1, by omega, ?_⟩
  have e := split_last hw
  have e2 : prodL wait = prodL (wait.take (wait.length - 1)) := by
    conv => lhs; rw [e]
    rw [prodL_append, h1]; simp [prodL]
  refine ⟨fun x hx => h.wp x (List.mem_of_mem_take hx), h.op, by rw [← e2]; exact hpb, ?_⟩
  rw [← e2, List.length_take]
  omega
theorem DrOk.push {B f : Nat} {wait out : List Nat} (h : DrOk B f wait out) (hw : wait.length ≠ 0) (h1 : wait.getD (wait.length - 1) 0 ≠ 1) : ∃ g, f = g + 1 ∧ DrOk B g (wait.take (wait.length - 1)) (out ++ [wait.getD (wait.length - 1) 0]) := by
  have hm := h.mu
  have hn := h.wp _ (getD_mem (l := wait) (i := wait.length - 1) (by omega))
  have hn' : 1 ≤ wait.getD (wait.length - 1) 0 ∧ wait.getD (wait.length - 1) 0 ≤ 1099511627776 := hn
  have hpb := h.pb
  have e := split_last hw
  have e2 : prodL out * prodL wait = prodL (out ++ [wait.getD (wait.length - 1) 0]) * prodL (wait.take (wait.length - 1)) := by
    conv => lhs; rw [e]
    rw [prodL_append, prodL_append]
    simp only [prodL, Nat.mul_one]
    rw [Nat.mul_comm (prodL (wait.take _)), Nat.mul_assoc]
  refine ⟨f - 1, by omega, ⟨fun x hx => h.wp x (List.mem_of_mem_take hx), fun x hx => ?_, by rw [← e2]; exact hpb, ?_⟩⟩
  · rcases List.mem_append.1 hx with hx | hx
    · exact h.op x hx
    · rw [List.mem_singleton] at hx
      subst hx
      omega
  rw [← e2, List.length_take]
  omega
theorem bitsN_mono {a b : Nat} (h : a ≤ b) : bitsN a ≤ bitsN b := bitsN_le.2 (Nat.lt_of_le_of_lt h (bitsN_lt b))
theorem DrOk.hit {B f : Nat} {wait out : List Nat} (h : DrOk B f wait out) (hw : wait.length ≠ 0) {i : Nat} (hi : i < out.length) (hg : 1 < Nat.gcd (out.getD i 0) (wait.getD (wait.length - 1) 0)) :
    ∃ g, f = g + 1 ∧ DrOk B g (wait.take (wait.length - 1) ++ [Nat.gcd (out.getD i 0) (wait.getD (wait.length - 1) 0), out.getD i 0 / Nat.gcd (out.getD i 0) (wait.getD (wait.length - 1) 0), wait.getD (wait.length - 1) 0 / Nat.gcd (out.getD i 0) (wait.getD (wait.length - 1) 0)]) (out.take i ++ out.drop (i + 1)) := by
  have hm := h.mu
  have hn : 1 ≤ wait.getD (wait.length - 1) 0 ∧ wait.getD (wait.length - 1) 0 ≤ 1099511627776 := h.wp _ (getD_mem (l := wait) (i := wait.length - 1) (by omega))
  have hb : 2 ≤ out.getD i 0 ∧ out.getD i 0 ≤ 1099511627776 := h.op _ (getD_mem (l := out) (i := i) hi)
  have e := split_last hw
  have e' := split_at hi
  generalize wait.getD (wait.length - 1) 0 = n at *
  generalize out.getD i 0 = b at *
  have d1 := Nat.gcd_dvd_left b n
  have d2 := Nat.gcd_dvd_right b n
  generalize Nat.gcd b n = g at *
  obtain ⟨b1, rfl⟩ := d1
  obtain ⟨n1, rfl⟩ := d2
  rw [Nat.mul_div_cancel_left _ (by omega), Nat.mul_div_cancel_left _ (by omega)]
  have hb1 : 1 ≤ b1 := Nat.pos_of_ne_zero fun hh => by rw [hh, Nat.mul_zero] at hb; omega
  have hn1 : 1 ≤ n1 := Nat.pos_of_ne_zero fun hh => by rw [hh, Nat.mul_zero] at hn; omega
  have gb : g ≤ g * b1 := Nat.le_mul_of_pos_right _ hb1
  have bb : b1 ≤ g * b1 := Nat.le_mul_of_pos_left _ (by omega)
  have nb : n1 ≤ g * n1 := Nat.le_mul_of_pos_left _ (by omega)
  have hpt : 1 ≤ prodL (out.take i ++ out.drop (i + 1)) * prodL (wait.take (wait.length - 1)) := by
    refine Nat.mul_pos (prodL_pos fun x hx => ?_) (prodL_pos fun x hx => (h.wp x (List.mem_of_mem_take hx)).1)
    rcases List.mem_append.1 hx with hx | hx
    · have := (h.op x (List.mem_of_mem_take hx)).1; omega
    · have := (h.op x (List.mem_of_mem_drop hx)).1; omega
  have eP : prodL out * prodL wait = g * (prodL (out.take i ++ out.drop (i + 1)) * prodL (wait.take (wait.length - 1) ++ [g, b1, n1])) := by
    conv => lhs; rw [e, e']
    simp only [prodL_append, prodL, Nat.mul_one]
    generalize prodL (out.take i) = A
    generalize prodL (out.drop (i + 1)) = B
    generalize prodL (wait.take (wait.length - 1)) = C
    simp only [Nat.mul_assoc, Nat.mul_left_comm, Nat.mul_comm]
  have hp1 : 1 ≤ prodL (out.take i ++ out.drop (i + 1)) * prodL (wait.take (wait.length - 1) ++ [g, b1, n1]) := by
    rw [prodL_append (wait.take _), ← Nat.mul_assoc]
    refine Nat.mul_pos hpt ?_
    simp only [prodL, Nat.mul_one]
    exact Nat.mul_pos (by omega) (Nat.mul_pos hb1 hn1)
  have hP : bitsN (prodL (out.take i ++ out.drop (i + 1)) * prodL (wait.take (wait.length - 1) ++ [g, b1, n1])) + 1 ≤ bitsN (prodL out * prodL wait) := by
    generalize hQ : prodL (out.take i ++ out.drop (i + 1)) * prodL (wait.take (wait.length - 1) ++ [g, b1, n1]) = Q at *
    rw [eP]
    have h2 : 2 * Q ≤ g * Q := Nat.mul_le_mul_right _ (by omega)
    have h3 := bitsN_half (a := g * Q) (by omega)
    have h4 : bitsN Q ≤ bitsN (g * Q / 2) := bitsN_mono (by omega)
    omega
  have hpb := h.pb
  refine ⟨f - 1, by omega, ⟨fun x hx => ?_, fun x hx => ?_, by omega, ?_⟩⟩
  · rcases List.mem_append.1 hx with hx | hx
    · exact h.wp x (List.mem_of_mem_take hx)
    · simp only [List.mem_cons, List.not_mem_nil, or_false] at hx
      rcases hx with rfl | rfl | rfl <;> omega
  · rcases List.mem_append.1 hx with hx | hx
    · exact h.op x (List.mem_of_mem_take hx)
    · exact h.op x (List.mem_of_mem_drop hx)
  · rw [List.length_append, List.length_take]
    simp only [List.length_cons, List.length_nil]
    omega
theorem bitsN_mul (a b : Nat) : bitsN (a * b) ≤ bitsN a + bitsN b := by
  rw [bitsN_le, Nat.pow_add]
  exact Nat.mul_lt_mul_of_lt_of_le (bitsN_lt a) (Nat.le_of_lt (bitsN_lt b)) (p2_pos _)
theorem DrOk.start {i N : Nat} {out : List Nat} (hN0 : 1 ≤ N) (hN1 : N ≤ 1000000000001) (ho : ∀ x, x ∈ out → 2 ≤ x ∧ x ≤ 1099511627776) (hb : bitsN (prodL out) ≤ 40 * i + 1) (hi : i < 20) : DrOk (40 * (i + 1) + 1) 3000 [N] out := by
  have h1 : bitsN N ≤ 40 := bitsN_le.2 (by omega)
  have h2 : bitsN (prodL out * prodL [N]) ≤ 40 * (i + 1) + 1 := by
    have := bitsN_mul (prodL out) (prodL [N])
    have e : prodL [N] = N := by simp [prodL]
    rw [e] at this ⊢
    omega
  refine ⟨fun x hx => ?_, ho, h2, ?_⟩
  · rw [List.mem_singleton] at hx
    subst hx
    omega
  · simp only [List.length_cons, List.length_nil]
    omega
end Go.Proofs.Ytmgfmkbniaepcaa
set_option linter.all false
namespace Go.Proofs.Ytmgfmkbniaepcaa
open Go Go.Vx
set_option maxRecDepth 100000
set_option maxHeartbeats 4000000
def v61 : VF := { ntmps := 73, res := [.tmp 2], body :=
 (.seq (.region [u1 2 .mov [.cn .nil]])
 (.seq (.region [u1 3 .mov [.cn .nil]])
 (.seq (.seq (.region [u1 11 .mov [.tm 0],
 u1 12 .len [.tm 11],
 u1 13 .mov [.cn (.int .i64 0)]])
 (.block 0 (.loop (.seq (.region [u1 14 (.cmp .lss) [.tm 13, .tm 12]])
 (.seq (.cond (.tm 14) .skip
  (.exit 0))
 (.seq (.block 1 (.seq (.region [u1 15 (.idxAddr 2) [.tm 11, .tm 13],
 u1 16 (.load true 2) [.tm 15],
 u1 5 (.alloc [(.int .i64 0), (.int .i64 0)]) [],
 u0 (.store 2) [.tm 5, .tm 16]])
 (.scope (.seq (.region [u1 17 (.fieldAddr 0) [.tm 5],
 u1 18 (.load false 1) [.tm 17],
 u1 19 (.buildSlice 1 1 [(.int .i64 0)] [(0, 1)]) [.tm 18],
 u1 6 .mov [.tm 19]])
 (.seq .skip
 (.block 2 (.loop (.seq (.seq (.region [u1 20 .mov [.tm 6],
 u1 21 .len [.tm 20],
 u1 22 (.cmp .gtr) [.tm 21, .cn (.int .i64 0)]])
 (.cond (.tm 22) .skip
  (.exit 2)))
 (.block 3 (.seq (.region [u1 23 .mov [.tm 6],
 u1 24 .mov [.tm 6],
 u1 25 .len [.tm 24],
 u1 26 (.ari .sub) [.tm 25, .cn (.int .i64 1)],
 u1 27 (.idxAddr 1) [.tm 23, .tm 26],
 u1 28 (.load false 1) [.tm 27],
 u1 7 .mov [.tm 28]])
 (.seq (.region [u1 29 .mov [.tm 6],
 u1 30 .mov [.tm 6],
 u1 31 .len [.tm 30],
 u1 32 (.ari .sub) [.tm 31, .cn (.int .i64 1)],
 u1 33 (.slice 1 false true) [.tm 29, .tm 32],
 u1 6 .mov [.tm 33]])
 (.seq (.seq (.region [u1 34 .mov [.tm 7],
 u1 35 (.cmp .eql) [.tm 34, .cn (.int .i64 1)]])
 (.cond (.tm 35) (.exit 3)
  .skip))
 (.seq (.seq (.region [u1 36 .mov [.tm 3],
 u1 37 .len [.tm 36],
 u1 38 .mov [.cn (.int .i64 0)]])
 (.block 4 (.loop (.seq (.region [u1 39 (.cmp .lss) [.tm 38, .tm 37]])
 (.seq (.cond (.tm 39) .skip
  (.exit 4))
 (.seq (.block 5 (.seq (.region [u1 40 .mov [.tm 38],
 u1 41 (.idxAddr 1) [.tm 36, .tm 38],
 u1 42 (.load false 1) [.tm 41],
 u1 8 .mov [.tm 40],
 u1 9 .mov [.tm 42]])
 (.seq (.region [u1 43 .mov [.tm 9],
 u1 44 .mov [.tm 7],
 u1 45 (.call 71) [.tm 43, .tm 44],
 u1 10 .mov [.tm 45]])
 (.seq (.region [u1 46 .mov [.tm 10],
 u1 47 (.cmp .gtr) [.tm 46, .cn (.int .i64 1)]])
 (.cond (.tm 47) (.seq (.draw [] [w1 48 .mov [.tm 3],
 w1 49 .mov [.tm 8],
 w1 50 (.slice 1 false true) [.tm 48, .tm 49],
 w1 51 .mov [.tm 3],
 w1 52 .mov [.tm 8],
 w1 53 (.ari .add) [.tm 52, .cn (.int .i64 1)],
 w1 54 (.slice 1 true false) [.tm 51, .tm 53],
 w1 55 (.append 1 8 [(.int .i64 0)]) [.tm 50, .tm 54],
 w1 3 .mov [.tm 55]])
 (.seq (.draw [] [w1 56 .mov [.tm 6],
 w1 57 .mov [.tm 10],
 w1 58 .mov [.tm 9],
 w1 59 .mov [.tm 10],
 w1 60 .quo [.tm 58, .tm 59],
 w1 61 .mov [.tm 7],
 w1 62 .mov [.tm 10],
 w1 63 .quo [.tm 61, .tm 62],
 w1 64 (.buildSlice 1 3 [(.int .i64 0)] [(0, 1), (1, 1), (2, 1)]) [.tm 57, .tm 60, .tm 63],
 w1 65 (.append 1 8 [(.int .i64 0)]) [.tm 56, .tm 64],
 w1 6 .mov [.tm 65]])
 (.exit 3)))
  .skip)))))
 (.region [u1 66 (.ari .add) [.tm 38, .cn (.int .i64 1)],
 u1 38 .mov [.tm 66]])))))))
 (.region [u1 67 .mov [.tm 3],
 u1 68 .mov [.tm 7],
 u1 69 (.buildSlice 1 1 [(.int .i64 0)] [(0, 1)]) [.tm 68],
 u1 70 (.append 1 8 [(.int .i64 0)]) [.tm 67, .tm 69],
 u1 3 .mov [.tm 70]]))))))))))))))
 (.region [u1 71 (.ari .add) [.tm 13, .cn (.int .i64 1)],
 u1 13 .mov [.tm 71]])))))))
 (.seq (.region [u1 72 .mov [.tm 3],
 u1 2 .mov [.tm 72]])
 .ret)))) }
theorem v61_is : vfunc Try.prog Try.f61 = some v61 := by kernel_rfl
def baseC : Ctr := { alias := false, of := fun l => match l with
  | [.vs _ _ n sz get] => .ex (List (Int × Int)) fun l => .pre (lsP 2 enc2 n sz get l ∧ (∀ x, x ∈ l → okT x) ∧ n ≤ 20) (.all Bool fun y => .fin (.vs true y (baseF l).length 1 (fun k => encB ((baseF l).getD k 0))) [])
  | _ => noC }
def RA8 : Env := { ct := fun n => match n with | 71 => some gcdC | _ => none, fn := fun _ => none, meth := fun _ _ => none }
theorem RA8_ct71 : RA8.ct 71 = some gcdC := rfl
theorem RA8_ok : EnvOk Try.prog RA8 := by
  refine ⟨fun f c h => ?_, fun f vf h => ?_, (fun _ _ _ h => by cases h), by kernel_rfl, (fun _ h => by cases h)⟩
  · simp only [RA8] at h
    split at h
    · cases h; exact ⟨gcd_c, Try.f71, Try.func71, by kernel_rfl, by kernel_rfl⟩
    · cases h
  · cases h
structure DSt where
  f : Nat
  W : List Nat
  n : Nat
  out : List Nat
  yw : Bool
  yo : Bool
theorem drain_len {f : Nat} : ∀ {wait out : List Nat}, (drain f wait out).length ≤ out.length + f := by
  induction f with
  | zero => intro wait out; rw [drain]; omega
  | succ f ih =>
    intro wait out
    rw [drain]
    split
    · omega
    · split
      · have := @ih (wait.take (wait.length - 1)) out; omega
      · split
        · rename_i hh
          refine Nat.le_trans ih ?_
          rw [List.length_append, List.length_take, List.length_drop]
          omega
        · refine Nat.le_trans ih ?_
          rw [List.length_append]
          simp only [List.length_cons, List.length_nil]
          omega
theorem base_c : baseC.ok Try.prog 61 := by
  refine contract Try.func61 v61_is RA8_ok 800 baseC fun args k h => ?_
  simp only [baseC] at h
  split at h
  · rename_i tt z n sz get
    obtain ⟨l, ⟨⟨rfl, rfl, hg⟩, hl, hn⟩, h⟩ := h
    refine ⟨[.vs tt z l.length 2 (fun k => enc2 (l.getD k default))], ⟨⟨id, rfl, rfl, rfl, hg⟩, trivial⟩, ?_⟩
    dsimp only [v61, enc2, go_sem, reduceIte]
    simp only [t_all, forall_const, ne_eq, implies_true, Nat.reduceAdd, Nat.reduceLeDiff, reduceCtorEq, Nat.reduceEqDiff]
    refine Loop.keep [0, 10, 0] (Nat × List Nat × Bool) (fun s => [(3, .own 0 0 s.2.1.length 1), (13, .int .i64 s.1)]) (fun s => [(0, .own s.2.2 1 s.2.1.length (fun k => encB (s.2.1.getD k 0)))]) [.gone] (fun s => s.1 ≤ l.length ∧ s.2.1 = (l.take s.1).foldl drainF [] ∧ (∀ x, x ∈ s.2.1 → 2 ≤ x ∧ x ≤ 1099511627776) ∧ bitsN (prodL s.2.1) ≤ 40 * s.1 + 1 ∧ s.2.1.length ≤ 3000 * s.1 ∧ (s.2.2 = true → s.2.1.length = 0)) (fun s => l.length - s.1) ?_ ?_
    · refine ⟨(0, [], true), ⟨by simp only; omega, rfl, ⟨fun x hx => absurd hx (by simp), by decide, Nat.le_refl _, fun _ => rfl⟩⟩, ?_⟩
      dsimp only [List.length_nil, go_sem, reduceIte]
      simp only [fin_all, imp_self, implies_true, true_and, and_true]
      simp
    · rintro ⟨i, out, yo⟩ ⟨hi, hG, hok, hbp, hlen, hyo⟩
      dsimp only at hi hG hok hbp hlen hyo
      dsimp only [enc2, Int.toNat_natCast, go_sem, reduceIte]
      simp only [t_all, forall_const, ne_eq, implies_true, Nat.reduceAdd, Nat.reduceLeDiff, reduceCtorEq, Nat.reduceEqDiff]
      refine ⟨fun hlt => ?_, fun hge => ?_⟩
      · have hx := hl _ (getD_mem (by omega : i < l.length))
        have hstep : (l.take (i + 1)).foldl drainF [] = drainF out (l.getD i default) := by
          rw [foldl_take_succ (by omega), ← hG]
        generalize l.getD i default = x at hx hstep ⊢
        obtain ⟨q0, q1, q2, q3⟩ := hx
        obtain ⟨N, hN⟩ : ∃ N : Nat, x.1 = (N : Int) := ⟨x.1.toNat, by omega⟩
        have hR : drainF out x = drain 3000 [N] out := by rw [drainF, hN, Int.toNat_natCast]
        obtain ⟨R, hRR⟩ : ∃ R, R = drainF out x := ⟨_, rfl⟩
        rw [← hRR] at hR hstep
        rw [hN]
        have hmu : DrOk (40 * (i + 1) + 1) 3000 [N] out := DrOk.start (by omega) (by omega) hok hbp (by omega)
        refine ⟨⟨by omega, by omega⟩, by decide, ?_⟩
        refine Loop.keep [0, 10, 0, 0] DSt (fun s => [(3, .own 0 0 s.out.length 1), (6, .own 2 0 s.n 1)]) (fun s => [(0, .own s.yo 1 s.out.length (fun k => encB (s.out.getD k 0))), (2, .own s.yw 1 s.W.length (fun k => encB (s.W.getD k 0)))]) [] (fun s => s.n ≤ s.W.length ∧ DrOk (40 * (i + 1) + 1) s.f (s.W.take s.n) s.out ∧ R = drain s.f (s.W.take s.n) s.out ∧ s.out.length + s.f ≤ 3000 * (i + 1) ∧ (s.yo = true → s.out.length = 0)) (fun s => s.f) ?_ ?_
        · refine ⟨⟨3000, [N], 1, out, false, yo⟩, ⟨Nat.le_refl _, hmu, hR, by simp only; omega, hyo⟩, ?_⟩
          dsimp only [List.length_nil, List.length_cons, go_sem, reduceIte]
          simp only [fin_all, imp_self, implies_true, true_and, and_true]
          refine ⟨by decide, fun k hk => ⟨⟨rfl, rfl⟩, trivial⟩, fun k hk => ?_⟩
          obtain rfl : k = 0 := by omega
          exact ⟨⟨rfl, rfl⟩, trivial⟩
        · rintro ⟨f, W, n, out, yw, yo⟩ ⟨hnW, hmu, hR, hlen, hyo⟩
          dsimp only at hnW hmu hR hlen hyo
          dsimp only [RA8_ct71, gcdC, encB, Int.toNat_natCast, go_sem, reduceIte]
          simp only [t_all, forall_const, ne_eq, implies_true, Nat.reduceAdd, Nat.reduceLeDiff, reduceCtorEq, Nat.reduceEqDiff]
          have hwl : (W.take n).length = n := by rw [List.length_take]; omega
          refine ⟨fun hpos => ?_, fun hz => ?_⟩
          · have hwn : (W.take n).length ≠ 0 := by omega
            have hgl : (W.take n).getD ((W.take n).length - 1) 0 = W.getD (n - 1) 0 := by
              rw [hwl, List.getD_eq_getElem?_getD, List.getD_eq_getElem?_getD, List.getElem?_take, if_pos (by omega)]
            have htl : (W.take n).take ((W.take n).length - 1) = W.take (n - 1) := by
              rw [hwl, List.take_take]; congr 1; omega
            obtain ⟨g, rfl⟩ : ∃ g, f = g + 1 := ⟨f - 1, by have := hmu.mu; omega⟩
            have hnf : n ≤ 70000 := by have := hmu.mu; omega
            rw [w_pred (by omega) (by omega), Int.toNat_natCast]
            rw [drain, if_neg hwn, hgl, htl] at hR
            obtain ⟨v, hv⟩ : ∃ v, v = W.getD (n - 1) 0 := ⟨_, rfl⟩
            have hvr : 1 ≤ v ∧ v ≤ 1099511627776 := by
              have := hmu.wp _ (getD_mem (l := W.take n) (i := (W.take n).length - 1) (by omega))
              rw [show (W.take n).getD ((W.take n).length - 1) default = W.getD (n - 1) 0 from hgl, ← hv] at this
              exact this
            refine ⟨⟨by omega, by omega⟩, by omega, ⟨by omega, by omega⟩, fun h1 => ?_, fun h1 => ?_⟩
            · have h1' : W.getD (n - 1) 0 = 1 := by omega
              obtain ⟨g', hg', hd⟩ := hmu.pop hwn (by rw [hgl]; exact h1')
              obtain rfl : g = g' := by omega
              rw [if_pos h1'] at hR
              rw [htl] at hd
              refine ⟨⟨g, W, n - 1, out, yw, yo⟩, ⟨by simp only; omega, hd, hR, by simp only; omega, hyo⟩, by simp only; omega, ?_⟩
              simp only [fin_all, imp_self, implies_true, true_and, and_true]
              exact ⟨by decide, by decide⟩
            · have h1' : W.getD (n - 1) 0 ≠ 1 := by omega
              rw [if_neg h1'] at hR
              rw [← hv] at hR h1' ⊢
              refine Loop.keep [0, 2, 2, 0, 3, 0, 0, 22, 0] Nat (fun t => [(38, .int .i64 t)]) (fun t => []) [] (fun t => t ≤ out.length ∧ ∀ j, j < t → ¬ 1 < Nat.gcd (out.getD j 0) v) (fun t => out.length - t) ?_ ?_
              · refine ⟨0, ⟨by omega, fun j hj => by omega⟩, ?_⟩
                dsimp only [go_sem, reduceIte]
                simp only [fin_all, imp_self, implies_true, true_and, and_true]
                exact ⟨by decide, by decide, by decide, rfl⟩
              · rintro t ⟨ht, hno⟩
                dsimp only [RA8_ct71, gcdC, encB, Int.toNat_natCast, go_sem, reduceIte]
                simp only [t_all, forall_const, ne_eq, implies_true, Nat.reduceAdd, Nat.reduceLeDiff, reduceCtorEq, Nat.reduceEqDiff]
                refine ⟨fun hlt2 => ?_, fun hge2 => ?_⟩
                · have hb : 2 ≤ out.getD t 0 ∧ out.getD t 0 ≤ 1099511627776 := hmu.op _ (getD_mem (l := out) (i := t) (by omega))
                  have w1 : IntKind.i64.wrap ((t : Int) + 1) = ((t + 1 : Nat) : Int) := by rw [IntWalk.i64_in _ (by omega)]; simp
                  rw [w1, Int.toNat_natCast]
                  refine ⟨⟨by omega, by omega⟩, by omega, out.getD t 0, v, ⟨rfl, rfl, by omega, by omega⟩, fun hgt => ?_, fun hng => ?_⟩
                  · have hgt' : 1 < Nat.gcd (out.getD t 0) v := by omega
                    have hh : hitF out v = t := leastF_eq (fun j hj => decide_eq_false (hno j hj)) (by omega) (fun _ => decide_eq_true hgt')
                    obtain ⟨g', hg', hd⟩ := hmu.hit hwn (i := t) (by omega) (by rw [hgl, ← hv]; exact hgt')
                    obtain rfl : g = g' := by omega
                    rw [hh, if_pos (by omega)] at hR
                    rw [hgl, htl, ← hv] at hd
                    obtain ⟨b, hbd⟩ : ∃ b, b = out.getD t 0 := ⟨_, rfl⟩
                    rw [← hbd] at hR hd hb hgt hgt' ⊢
                    obtain ⟨G, hG'⟩ : ∃ G, G = Nat.gcd b v := ⟨_, rfl⟩
                    rw [← hG'] at hR hd hgt hgt' ⊢
                    have e1 : IntKind.i64.wrap ((b : Int).tdiv (G : Int)) = ((b / G : Nat) : Int) := by
                      have : (b : Int).tdiv (G : Int) = ((b / G : Nat) : Int) := IntWalk.up_tdiv rfl rfl
                      have h2 : b / G ≤ b := Nat.div_le_self _ _
                      rw [this]
                      generalize b / G = q at h2 ⊢
                      exact IntWalk.i64_in _ (by omega)
                    have e2 : IntKind.i64.wrap ((v : Int).tdiv (G : Int)) = ((v / G : Nat) : Int) := by
                      have : (v : Int).tdiv (G : Int) = ((v / G : Nat) : Int) := IntWalk.up_tdiv rfl rfl
                      have h2 : v / G ≤ v := Nat.div_le_self _ _
                      rw [this]
                      generalize v / G = q at h2 ⊢
                      exact IntWalk.i64_in _ (by omega)
                    rw [e1, e2]
                    have hsub : subLo out.length (t + 1) = out.length - (t + 1) := by unfold subLo; rfl
                    rw [hsub]
                    have hWt : (W.take (n - 1) ++ [G, b / G, v / G]).length = n - 1 + 3 := by rw [List.length_append, List.length_take]; simp only [List.length_cons, List.length_nil]; omega
                    have hol : (out.take t ++ out.drop (t + 1)).length = t + (out.length - (t + 1)) := by rw [List.length_append, List.length_take, List.length_drop]; omega
                    refine ⟨⟨by omega, by omega⟩, ⟨by omega, by omega⟩, by unfold capOk; omega, by omega, by omega, by decide, ⟨by unfold capOk; omega, fun k hk => ?_⟩, ⟨g, W.take (n - 1) ++ [G, b / G, v / G], n - 1 + 3, out.take t ++ out.drop (t + 1), yw && decide False, yo && decide (out.length - (t + 1) = 0)⟩, ⟨?_, ?_, ?_, ?_, ?_⟩, by simp only; omega, ?_⟩
                    · match k, hk with
                      | 0, _ => exact ⟨rfl, trivial, trivial⟩
                      | 1, _ => exact ⟨rfl, trivial, trivial⟩
                      | 2, _ => exact ⟨rfl, trivial, trivial⟩
                    · simp only; omega
                    · simp only; rw [← hWt, List.take_length]; exact hd
                    · simp only; rw [← hWt, List.take_length]; exact hR
                    · simp only; omega
                    · simp only
                      intro hy
                      rw [Bool.and_eq_true] at hy
                      have := hyo hy.1
                      omega
                    · simp only [hol, hWt]
                      simp only [fin_all, imp_self, implies_true, true_and, and_true]
                      refine ⟨by decide, fun k hk => ?_, fun k hk => ?_⟩
                      · rw [addLo_eq]
                        by_cases hkt : k < t
                        · rw [if_pos hkt, List.getD_eq_getElem?_getD (l := _ ++ _), List.getElem?_append_left (by rw [List.length_take]; omega), List.getElem?_take, if_pos hkt, ← List.getD_eq_getElem?_getD]
                          exact ⟨⟨rfl, rfl⟩, trivial⟩
                        · rw [if_neg hkt, List.getD_eq_getElem?_getD (l := _ ++ _), List.getElem?_append_right (by rw [List.length_take]; omega), List.length_take, List.getElem?_drop, ← List.getD_eq_getElem?_getD, show t + 1 + (k - min t out.length) = t + 1 + (k - t) by omega]
                          exact ⟨⟨rfl, rfl⟩, trivial⟩
                      · by_cases hkt : k < n - 1
                        · rw [if_pos hkt, List.getD_eq_getElem?_getD (l := _ ++ _), List.getElem?_append_left (by rw [List.length_take]; omega), List.getElem?_take, if_pos hkt, ← List.getD_eq_getElem?_getD]
                          exact ⟨⟨rfl, rfl⟩, trivial⟩
                        · rw [if_neg hkt, List.getD_eq_getElem?_getD (l := _ ++ _), List.getElem?_append_right (by rw [List.length_take]; omega), List.length_take, show k - min (n - 1) W.length = k - (n - 1) by omega]
                          obtain ⟨q, hq⟩ : ∃ q, q = k - (n - 1) := ⟨_, rfl⟩
                          rw [← hq]
                          have hq3 : q < 3 := by omega
                          match q, hq3 with
                          | 0, _ => exact ⟨⟨rfl, rfl⟩, trivial⟩
                          | 1, _ => exact ⟨⟨rfl, rfl⟩, trivial⟩
                          | 2, _ => exact ⟨⟨rfl, rfl⟩, trivial⟩
                  · refine ⟨t + 1, ⟨by omega, fun j hj => ?_⟩, by omega, ?_⟩
                    · rcases Nat.lt_or_ge j t with h' | h'
                      · exact hno j h'
                      · obtain rfl : j = t := by omega
                        exact fun hh => hng (by omega)
                    · simp only [fin_all, imp_self, implies_true, true_and, and_true]
                      exact ⟨by decide, by decide, by decide⟩
                · obtain rfl : t = out.length := by omega
                  have hh : hitF out v = out.length := leastF_eq (fun j hj => decide_eq_false (hno j hj)) (Nat.le_refl _) (fun hlt => absurd hlt (Nat.lt_irrefl _))
                  obtain ⟨g', hg', hd⟩ := hmu.push hwn (by rw [hgl, ← hv]; exact h1')
                  obtain rfl : g = g' := by omega
                  rw [hh, if_neg (Nat.lt_irrefl _)] at hR
                  rw [hgl, htl, ← hv] at hd
                  have hol : (out ++ [v]).length = out.length + 1 := by rw [List.length_append]; rfl
                  refine ⟨by decide, ⟨by unfold capOk; omega, fun k hk => ?_⟩, ⟨g, W, n - 1, out ++ [v], yw, yo && decide False⟩, ⟨by simp only; omega, hd, hR, by simp only; omega, ?_⟩, by simp only; omega, ?_⟩
                  · obtain rfl : k = 0 := by omega
                    exact ⟨rfl, trivial, trivial⟩
                  · simp
                  · simp only [hol]
                    simp only [fin_all, imp_self, implies_true, true_and, and_true]
                    refine ⟨by decide, fun k hk => ?_⟩
                    by_cases hkt : k < out.length
                    · rw [if_pos hkt, List.getD_eq_getElem?_getD (l := _ ++ _), List.getElem?_append_left hkt, ← List.getD_eq_getElem?_getD]
                      exact ⟨⟨rfl, rfl⟩, trivial⟩
                    · obtain rfl : k = out.length := by omega
                      rw [if_neg hkt, List.getD_eq_getElem?_getD (l := _ ++ _), List.getElem?_append_right (Nat.le_refl _), Nat.sub_self]
                      exact ⟨⟨rfl, rfl⟩, trivial⟩
          · obtain rfl : n = 0 := by omega
            rw [List.take_zero] at hR hmu
            have hRo : R = out := by
              rw [hR]
              cases f with
              | zero => rfl
              | succ f => rw [drain, if_pos List.length_nil]
            have hpb := hmu.pb
            rw [show prodL out * prodL [] = prodL out from Nat.mul_one _] at hpb
            refine ⟨(i + 1, out, yo), ⟨by simp only; omega, by rw [hstep, hRo], hmu.op, hpb, by simp only; omega, hyo⟩, by simp only; omega, ?_⟩
            rw [IntWalk.i64_in ((i : Int) + 1) (by omega)]
            simp only [fin_all, imp_self, implies_true, true_and, and_true]
            exact ⟨by decide, by simp⟩
      · obtain rfl : i = l.length := by omega
        rw [List.take_length] at hG
        have hG : baseF l = out := hG.symm
        rw [hG] at h
        refine ans_le (show k (.vs true yo out.length 1 (fun k => encB (out.getD k 0))) [] from h yo) ?_ (fun _ => by simp [freshS, encB, freshL])
        have e : expo [HO.own yo 1 out.length fun k => encB (out.getD k 0)] (SV.own 0 0 out.length 1) = .vs true yo out.length 1 (fun k => encB (out.getD k 0)) := by
          simp [expo, view, viewL, viewN, getH, addLo_z, encB]
        rw [e]
        exact le_self _ trivial
  · exact h.1.elim
end Go.Proofs.Ytmgfmkbniaepcaa
set_option linter.all false
namespace Go.Proofs.Ytmgfmkbniaepcaa
open Go Go.Vx
set_option maxRecDepth 100000
set_option maxHeartbeats 4000000
def v52 : VF := { ntmps := 39, res := [.tmp 2], body :=
 (.seq (.region [u1 2 .mov [.cn (.bool false)]])
 (.seq (.seq (.region [u1 9 .mov [.tm 0],
 u1 10 (.call 61) [.tm 9],
 u1 11 .len [.tm 10],
 u1 12 .mov [.cn (.int .i64 0)]])
 (.block 0 (.loop (.seq (.region [u1 13 (.cmp .lss) [.tm 12, .tm 11]])
 (.seq (.cond (.tm 13) .skip
  (.exit 0))
 (.seq (.block 1 (.seq (.region [u1 14 (.idxAddr 1) [.tm 10, .tm 12],
 u1 15 (.load false 1) [.tm 14],
 u1 4 .mov [.tm 15]])
 (.seq (.region [u1 5 .mov [.cn (.int .i64 0)]])
 (.seq (.seq (.region [u1 16 .mov [.tm 0],
 u1 17 .len [.tm 16],
 u1 18 .mov [.cn (.int .i64 0)]])
 (.block 2 (.loop (.seq (.region [u1 19 (.cmp .lss) [.tm 18, .tm 17]])
 (.seq (.cond (.tm 19) .skip
  (.exit 2))
 (.seq (.block 3 (.seq (.region [u1 20 (.idxAddr 2) [.tm 16, .tm 18],
 u1 21 (.load true 2) [.tm 20],
 u1 7 (.alloc [(.int .i64 0), (.int .i64 0)]) [],
 u0 (.store 2) [.tm 7, .tm 21]])
 (.seq (.region [u1 22 (.fieldAddr 0) [.tm 7],
 u1 23 (.load false 1) [.tm 22],
 u1 8 .mov [.tm 23]])
 (.block 4 (.loop (.seq (.seq (.region [u1 24 .mov [.tm 8],
 u1 25 .mov [.tm 4],
 u1 26 .rem [.tm 24, .tm 25],
 u1 27 (.cmp .eql) [.tm 26, .cn (.int .i64 0)]])
 (.cond (.tm 27) .skip
  (.exit 4)))
 (.seq (.block 5 (.region [u1 31 .mov [.tm 5],
 u1 32 (.fieldAddr 1) [.tm 7],
 u1 33 (.load false 1) [.tm 32],
 u1 34 (.ari .add) [.tm 31, .tm 33],
 u1 5 .mov [.tm 34]]))
 (.region [u1 28 .mov [.tm 8],
 u1 29 .mov [.tm 4],
 u1 30 .quo [.tm 28, .tm 29],
 u1 8 .mov [.tm 30]]))))))))
 (.region [u1 35 (.ari .add) [.tm 18, .cn (.int .i64 1)],
 u1 18 .mov [.tm 35]])))))))
 (.seq (.region [u1 36 .mov [.tm 5],
 u1 37 (.cmp .neq) [.tm 36, .cn (.int .i64 0)]])
 (.cond (.tm 37) (.seq (.region [u1 2 .mov [.cn (.bool false)]])
 .ret)
  .skip))))))
 (.region [u1 38 (.ari .add) [.tm 12, .cn (.int .i64 1)],
 u1 12 .mov [.tm 38]])))))))
 (.seq (.region [u1 2 .mov [.cn (.bool true)]])
 .ret))) }
theorem v52_is : vfunc Try.prog Try.f52 = some v52 := by kernel_rfl
def divL : Nat → Int → Int → Int → Int → Int
  | 0, _, _, _, s => s
  | f + 1, b, n, num, s => if n.tmod b = 0 then divL f b (IntKind.i64.wrap (n.tdiv b)) num (IntKind.i64.wrap (s + num)) else s
def sumB (l : List (Int × Int)) (b : Nat) : Int := l.foldl (fun s x => divL 64 b x.1 x.2 s) 0
def oneF (l : List (Int × Int)) : Bool := (baseF l).all fun b => decide (sumB l b = 0)
theorem drain_rng {B : Nat} : ∀ {f : Nat} {wait out : List Nat}, DrOk B f wait out → (∀ x, x ∈ drain f wait out → 2 ≤ x ∧ x ≤ 1099511627776) ∧ bitsN (prodL (drain f wait out)) ≤ B
  | 0, wait, out, h => by
    rw [drain]
    have hw : wait = [] := List.length_eq_zero_iff.1 (by have := h.mu; omega)
    have := h.pb
    rw [hw, show prodL out * prodL [] = prodL out from Nat.mul_one _] at this
    exact ⟨h.op, this⟩
  | f + 1, wait, out, h => by
    rw [drain]
    by_cases hw : wait.length = 0
    · rw [if_pos hw]
      have hw : wait = [] := List.length_eq_zero_iff.1 hw
      have := h.pb
      rw [hw, show prodL out * prodL [] = prodL out from Nat.mul_one _] at this
      exact ⟨h.op, this⟩
    · rw [if_neg hw]
      by_cases h1 : wait.getD (wait.length - 1) 0 = 1
      · rw [if_pos h1]
        obtain ⟨g, hg, hd⟩ := h.pop hw h1
        obtain rfl : f = g := by omega
        exact drain_rng hd
      · rw [if_neg h1]
        by_cases h2 : hitF out (wait.getD (wait.length - 1) 0) < out.length
        · rw [if_pos h2]
          have hs := (leastF_spec (f := fun i => decide (1 < Nat.gcd (out.getD i 0) (wait.getD (wait.length - 1) 0))) out.length 0).2.2.2 (by simpa [hitF] using h2)
          obtain ⟨g, hg, hd⟩ := h.hit hw h2 (of_decide_eq_true hs)
          obtain rfl : f = g := by omega
          exact drain_rng hd
        · rw [if_neg h2]
          obtain ⟨g, hg, hd⟩ := h.push hw h1
          obtain rfl : f = g := by omega
          exact drain_rng hd
theorem baseF_rng {l : List (Int × Int)} (hl : ∀ x, x ∈ l → okT x) (hn : l.length ≤ 20) : ∀ x, x ∈ baseF l → 2 ≤ x ∧ x ≤ 1099511627776 := by
  have key : ∀ i, i ≤ l.length → (∀ x, x ∈ (l.take i).foldl drainF [] → 2 ≤ x ∧ x ≤ 1099511627776) ∧ bitsN (prodL ((l.take i).foldl drainF [])) ≤ 40 * i + 1 := fun i => by
    induction i with
    | zero => exact fun _ => ⟨fun x hx => absurd hx (by simp), by simp [prodL]; decide⟩
    | succ i ih =>
      intro hi
      obtain ⟨h1, h2⟩ := ih (by omega)
      have hx := hl _ (getD_mem (by omega : i < l.length))
      rw [foldl_take_succ (by omega)]
      obtain ⟨q0, q1, q2, q3⟩ := hx
      exact drain_rng (DrOk.start (by omega) (by omega) h1 h2 (by omega))
  have := (key l.length (Nat.le_refl _)).1
  rwa [List.take_length] at this
theorem baseF_len (l : List (Int × Int)) : (baseF l).length ≤ 3000 * l.length := by
  have key : ∀ (l : List (Int × Int)) (out : List Nat), (l.foldl drainF out).length ≤ out.length + 3000 * l.length := fun l => by
    induction l with
    | nil => intro out; simp
    | cons x l ih =>
      intro out
      have h1 := ih (drainF out x)
      have h2 : (drainF out x).length ≤ out.length + 3000 := drain_len
      rw [List.foldl_cons, List.length_cons]
      omega
  have h := key l []
  rw [List.length_nil, Nat.zero_add] at h
  exact h
def oneC : Ctr := { alias := false, of := fun l => match l with
  | [.vs _ _ n sz get] => .ex (List (Int × Int)) fun l => .pre (lsP 2 enc2 n sz get l ∧ (∀ x, x ∈ l → okT x) ∧ n ≤ 20) (.fin (.bool (oneF l)) [])
  | _ => .pre False (.fin (.bool false) []) }
def RA9 : Env := { ct := fun n => match n with | 61 => some baseC | _ => none, fn := fun _ => none, meth := fun _ _ => none }
theorem RA9_ct61 : RA9.ct 61 = some baseC := rfl
theorem RA9_ok : EnvOk Try.prog RA9 := by
  refine ⟨fun f c h => ?_, fun f vf h => ?_, (fun _ _ _ h => by cases h), by kernel_rfl, (fun _ h => by cases h)⟩
  · simp only [RA9] at h
    split at h
    · cases h; exact ⟨base_c, Try.f61, Try.func61, by kernel_rfl, by kernel_rfl⟩
    · cases h
  · cases h
theorem one_c : oneC.ok Try.prog 52 := by
  refine contract Try.func52 v52_is RA9_ok 500 oneC fun args k h => ?_
  simp only [oneC] at h
  split at h
  · rename_i tt z n sz get
    obtain ⟨l, ⟨⟨rfl, rfl, hg⟩, hl, hn⟩, h⟩ := h
    refine ⟨[.vs tt z l.length 2 (fun k => enc2 (l.getD k default))], ⟨⟨id, rfl, rfl, rfl, hg⟩, trivial⟩, ?_⟩
    dsimp only [v52, RA9_ct61, baseC, enc2, go_sem, reduceIte]
    simp only [t_all, forall_const, ne_eq, implies_true, Nat.reduceAdd, Nat.reduceLeDiff, reduceCtorEq, Nat.reduceEqDiff]
    refine ⟨l, ⟨⟨rfl, rfl, fun k hk => leXL_self _⟩, hl, hn⟩, fun y => ?_⟩
    have hbr := baseF_rng hl hn
    have hbl := baseF_len l
    obtain ⟨B, hB⟩ : ∃ B, B = baseF l := ⟨_, rfl⟩
    rw [← hB] at hbr hbl ⊢
    have hone : oneF l = B.all fun b => decide (sumB l b = 0) := by rw [hB]; rfl
    refine Loop.keep [0, 9, 0] Nat (fun i => [(12, .int .i64 i)]) (fun _ => []) [] (fun i => i ≤ B.length ∧ ((B.take i).all fun b => decide (sumB l b = 0)) = true) (fun i => B.length - i) ?_ ?_
    · refine ⟨0, ⟨by omega, rfl⟩, ?_⟩
      dsimp only [go_sem, reduceIte]
      simp only [fin_all, imp_self, implies_true, true_and, and_true]
      rfl
    · rintro i ⟨hi, hall⟩
      dsimp only [RA9_ct61, baseC, encB, enc2, Int.toNat_natCast, go_sem, reduceIte]
      simp only [t_all, forall_const, ne_eq, implies_true, Nat.reduceAdd, Nat.reduceLeDiff, reduceCtorEq, Nat.reduceEqDiff]
      refine ⟨fun hlt => ⟨⟨by omega, by omega⟩, ?_⟩, fun hge => ?_⟩
      · have hb : 2 ≤ B.getD i 0 ∧ B.getD i 0 ≤ 1099511627776 := hbr _ (getD_mem (l := B) (i := i) (by omega))
        have hsucc : ((B.take (i + 1)).all fun b => decide (sumB l b = 0)) = decide (sumB l (B.getD i 0) = 0) := by
          rw [take_all_succ (by omega), hall, Bool.true_and]; rfl
        have hmemb : B.getD i 0 ∈ B := getD_mem (l := B) (i := i) (by omega)
        obtain ⟨b, hbe⟩ : ∃ b, b = B.getD i 0 := ⟨_, rfl⟩
        rw [← hbe] at hb hsucc hmemb ⊢
        refine Loop.keep [0, 3, 5, 0, 0, 3, 0] (Nat × Int) (fun s => [(5, .int .i64 s.2), (18, .int .i64 s.1)]) (fun _ => []) [] (fun s => s.1 ≤ l.length ∧ s.2 = (l.take s.1).foldl (fun s x => divL 64 b x.1 x.2 s) 0) (fun s => l.length - s.1) ?_ ?_
        · refine ⟨(0, 0), ⟨by simp only; omega, rfl⟩, ?_⟩
          dsimp only [go_sem, reduceIte]
          simp only [fin_all, imp_self, implies_true, true_and, and_true]
          rfl
        · rintro ⟨t, S⟩ ⟨ht, hS⟩
          dsimp only at ht hS
          dsimp only [enc2, Int.toNat_natCast, go_sem, reduceIte]
          simp only [t_all, forall_const, ne_eq, implies_true, Nat.reduceAdd, Nat.reduceLeDiff, reduceCtorEq, Nat.reduceEqDiff]
          refine ⟨fun hlt2 => ⟨⟨by omega, by omega⟩, ?_⟩, fun hge2 => ?_⟩
          · have hx := hl _ (getD_mem (by omega : t < l.length))
            have hst : (l.take (t + 1)).foldl (fun s x => divL 64 b x.1 x.2 s) 0 = divL 64 b (l.getD t default).1 (l.getD t default).2 S := by
              rw [foldl_take_succ (by omega), ← hS]
            generalize l.getD t default = x at hx hst ⊢
            obtain ⟨q0, q1, q2, q3⟩ := hx
            obtain ⟨R, hR⟩ : ∃ R, R = divL 64 b x.1 x.2 S := ⟨_, rfl⟩
            rw [← hR] at hst
            refine Loop.keep [0, 3, 2, 2, 0, 0, 3, 0, 0] (Nat × Int × Int) (fun s => [(5, .int .i64 s.2.2), (8, .int .i64 s.2.1)]) (fun _ => []) [] (fun s => R = divL s.1 b s.2.1 x.2 s.2.2 ∧ 1 ≤ s.2.1 ∧ s.2.1 < 2 ^ s.1 ∧ s.2.1 ≤ 1000000000001) (fun s => s.1) ?_ ?_
            · refine ⟨(64, x.1, S), ⟨hR, q0, by simp only; omega, q1⟩, ?_⟩
              dsimp only [go_sem, reduceIte]
              simp only [fin_all, imp_self, implies_true, true_and, and_true]
              decide
            · rintro ⟨f, n, S'⟩ ⟨hf, n0, n1, n2⟩
              dsimp only at hf n0 n1 n2
              dsimp only [go_sem, reduceIte]
              simp only [t_all, forall_const, ne_eq, implies_true, Nat.reduceAdd, Nat.reduceLeDiff, reduceCtorEq, Nat.reduceEqDiff]
              obtain ⟨m, rfl⟩ := Int.eq_ofNat_of_zero_le (by omega : 0 ≤ n)
              obtain ⟨g, rfl⟩ : ∃ g, f = g + 1 := by
                cases f with
                | zero => simp at n1; omega
                | succ g => exact ⟨g, rfl⟩
              rw [divL] at hf
              refine ⟨by omega, fun hc => ⟨by omega, ?_⟩, fun hc => ?_⟩
              · rw [if_pos hc] at hf
                have e1 : (m : Int).tmod (b : Int) = ((m % b : Nat) : Int) := IntWalk.up_tmod rfl rfl
                have e2 : (m : Int).tdiv (b : Int) = ((m / b : Nat) : Int) := IntWalk.up_tdiv rfl rfl
                rw [e1] at hc
                have hdm := Nat.div_add_mod m b
                rw [show m % b = 0 by omega, Nat.add_zero] at hdm
                have hq1 : 1 ≤ m / b := Nat.pos_of_ne_zero fun hh => by rw [hh, Nat.mul_zero] at hdm; omega
                have hq2 : 2 * (m / b) ≤ m := by
                  have : 2 * (m / b) ≤ b * (m / b) := Nat.mul_le_mul_right _ hb.1
                  omega
                rw [e2] at hf ⊢
                generalize m / b = q at hq1 hq2 hf ⊢
                have eq : IntKind.i64.wrap (q : Int) = (q : Int) := IntWalk.i64_in _ (by omega)
                rw [eq] at hf ⊢
                have n1' : m < 2 ^ g * 2 := by rw [← Nat.pow_succ]; exact_mod_cast n1
                refine ⟨(g, q, IntKind.i64.wrap (S' + x.2)), ⟨hf, by simp only; omega, ?_, by simp only; omega⟩, by simp only; omega, ?_⟩
                · show (q : Int) < 2 ^ g
                  have : q < 2 ^ g := by omega
                  exact_mod_cast this
                · simp only [fin_all, imp_self, implies_true, true_and, and_true]
                  decide
              · rw [if_neg hc] at hf
                refine ⟨(t + 1, S'), ⟨by simp only; omega, by rw [hst, hf]⟩, by simp only; omega, ?_⟩
                rw [IntWalk.i64_in ((t : Int) + 1) (by omega)]
                simp only [fin_all, imp_self, implies_true, true_and, and_true]
                simp
          · obtain rfl : t = l.length := by omega
            rw [List.take_length] at hS
            have hS : S = sumB l b := hS
            refine ⟨fun hc => ?_, fun hc => ⟨i + 1, ⟨by omega, ?_⟩, by omega, ?_⟩⟩
            · have : oneF l = false := by
                rw [hone, List.all_eq_false]
                exact ⟨b, hmemb, by rw [← hS]; simpa using hc⟩
              rw [this] at h
              exact ans_bool h
            · rw [hsucc, ← hS]; exact decide_eq_true hc
            · rw [IntWalk.i64_in ((i : Int) + 1) (by omega)]
              simp only [fin_all, imp_self, implies_true, true_and, and_true]
              simp
      · obtain rfl : i = B.length := by omega
        rw [List.take_length] at hall
        rw [hone, hall] at h
        exact ans_bool h
  · exact h.1.elim
end Go.Proofs.Ytmgfmkbniaepcaa
set_option linter.all false
namespace Go.Proofs.Ytmgfmkbniaepcaa
open Go Go.Vx
set_option maxRecDepth 100000
inductive Spn (L : List Nat) : Nat → Prop
  | one : Spn L 1
  | mul {x y : Nat} : x ∈ L → Spn L y → Spn L (x * y)
theorem Spn.mem {L : List Nat} {x : Nat} (h : x ∈ L) : Spn L x := by
  have := Spn.mul h Spn.one
  rwa [Nat.mul_one] at this
theorem Spn.mul2 {L : List Nat} {x y : Nat} (hx : Spn L x) (hy : Spn L y) : Spn L (x * y) := by
  induction hx with
  | one => rwa [Nat.one_mul]
  | mul h _ ih => rw [Nat.mul_assoc]; exact .mul h ih
theorem Spn.sub {L L' : List Nat} (h : ∀ x, x ∈ L → Spn L' x) {y : Nat} (hy : Spn L y) : Spn L' y := by
  induction hy with
  | one => exact .one
  | mul hx _ ih => exact (h _ hx).mul2 ih
def Cop (r : List Nat) : Prop := r.Pairwise fun a b => Nat.gcd a b = 1
theorem drain_spn {B : Nat} : ∀ {f : Nat} {wait out : List Nat}, DrOk B f wait out → Cop out → Cop (drain f wait out) ∧ ∀ y, Spn (out ++ wait) y → Spn (drain f wait out) y
  | 0, wait, out, h, hc => by
    have hw : wait = [] := List.length_eq_zero_iff.1 (by have := h.mu; omega)
    rw [drain, hw, List.append_nil]
    exact ⟨hc, fun _ h => h⟩
  | f + 1, wait, out, h, hc => by
    rw [drain]
    by_cases hw : wait.length = 0
    · rw [if_pos hw]
      have hw : wait = [] := List.length_eq_zero_iff.1 hw
      rw [hw, List.append_nil]
      exact ⟨hc, fun _ h => h⟩
    · rw [if_neg hw]
      have e := split_last hw
      by_cases h1 : wait.getD (wait.length - 1) 0 = 1
      · rw [if_pos h1]
        obtain ⟨g, hg, hd⟩ := h.pop hw h1
        obtain rfl : f = g := by omega
        obtain ⟨k1, k2⟩ := drain_spn hd hc
        refine ⟨k1, fun y hy => k2 y (hy.sub fun x hx => ?_)⟩
        rw [e, List.mem_append, List.mem_append, List.mem_singleton] at hx
        rcases hx with hx | hx | hx
        · exact .mem (List.mem_append_left _ hx)
        · exact .mem (List.mem_append_right _ hx)
        · rw [hx, h1]; exact .one
      · rw [if_neg h1]
        have hsp := leastF_spec (f := fun i => decide (1 < Nat.gcd (out.getD i 0) (wait.getD (wait.length - 1) 0))) out.length 0
        have hn : 1 ≤ wait.getD (wait.length - 1) 0 := (h.wp _ (getD_mem (l := wait) (i := wait.length - 1) (by omega))).1
        by_cases h2 : hitF out (wait.getD (wait.length - 1) 0) < out.length
        · rw [if_pos h2]
          have hs := hsp.2.2.2 (by simpa [hitF] using h2)
          obtain ⟨g, hg, hd⟩ := h.hit hw h2 (of_decide_eq_true hs)
          obtain rfl : f = g := by omega
          have e' := split_at h2
          generalize hitF out (wait.getD (wait.length - 1) 0) = i at *
          have hsub : List.Sublist (out.take i ++ out.drop (i + 1)) out := by
            conv => rhs; rw [e']
            exact (List.sublist_cons_self _ _).append_left _
          obtain ⟨k1, k2⟩ := drain_spn hd (List.Pairwise.sublist hsub hc)
          refine ⟨k1, fun y hy => k2 y (hy.sub fun x hx => ?_)⟩
          generalize hL : out.take i ++ out.drop (i + 1) ++ (wait.take (wait.length - 1) ++ [Nat.gcd (out.getD i 0) (wait.getD (wait.length - 1) 0), out.getD i 0 / Nat.gcd (out.getD i 0) (wait.getD (wait.length - 1) 0), wait.getD (wait.length - 1) 0 / Nat.gcd (out.getD i 0) (wait.getD (wait.length - 1) 0)]) = L
          have mL : ∀ z, z ∈ out.take i ∨ z ∈ out.drop (i + 1) ∨ z ∈ wait.take (wait.length - 1) ∨ z = Nat.gcd (out.getD i 0) (wait.getD (wait.length - 1) 0) ∨ z = out.getD i 0 / Nat.gcd (out.getD i 0) (wait.getD (wait.length - 1) 0) ∨ z = wait.getD (wait.length - 1) 0 / Nat.gcd (out.getD i 0) (wait.getD (wait.length - 1) 0) → Spn L z := fun z hz => by
            refine .mem ?_
            rw [← hL]
            simp only [List.mem_append, List.mem_cons, List.not_mem_nil, or_false]
            rcases hz with hz | hz | hz | hz | hz | hz
            · exact .inl (.inl hz)
            · exact .inl (.inr hz)
            · exact .inr (.inl hz)
            · exact .inr (.inr (.inl hz))
            · exact .inr (.inr (.inr (.inl hz)))
            · exact .inr (.inr (.inr (.inr hz)))
          rcases List.mem_append.1 hx with hx | hx
          · rw [e'] at hx
            rcases List.mem_append.1 hx with hx | hx
            · exact mL _ (.inl hx)
            · rcases List.mem_cons.1 hx with hx | hx
              · rw [hx]
                have := (mL _ (.inr (.inr (.inr (.inl rfl))))).mul2 (mL _ (.inr (.inr (.inr (.inr (.inl rfl))))))
                rwa [Nat.mul_div_cancel' (Nat.gcd_dvd_left _ _)] at this
              · exact mL _ (.inr (.inl hx))
          · rw [e] at hx
            rcases List.mem_append.1 hx with hx | hx
            · exact mL _ (.inr (.inr (.inl hx)))
            · rw [List.mem_singleton] at hx
              rw [hx]
              have := (mL _ (.inr (.inr (.inr (.inl rfl))))).mul2 (mL _ (.inr (.inr (.inr (.inr (.inr rfl))))))
              rwa [Nat.mul_div_cancel' (Nat.gcd_dvd_right _ _)] at this
        · rw [if_neg h2]
          obtain ⟨g, hg, hd⟩ := h.push hw h1
          obtain rfl : f = g := by omega
          have hcop : Cop (out ++ [wait.getD (wait.length - 1) 0]) := by
            refine List.pairwise_append.2 ⟨hc, List.pairwise_singleton _ _, fun a ha b hb => ?_⟩
            rw [List.mem_singleton] at hb
            rw [hb]
            obtain ⟨j, hj, hja⟩ := mem_getD ha
            have := hsp.2.2.1 j (by omega) (by show j < hitF out _; omega)
            have := of_decide_eq_false this
            rw [show out.getD j 0 = a from hja] at this
            have := Nat.gcd_pos_of_pos_right a hn
            omega
          obtain ⟨k1, k2⟩ := drain_spn hd hcop
          refine ⟨k1, fun y hy => k2 y (hy.sub fun x hx => ?_)⟩
          rw [e, List.mem_append, List.mem_append, List.mem_singleton] at hx
          refine .mem ?_
          rw [List.mem_append, List.mem_append, List.mem_singleton]
          rcases hx with hx | hx | hx
          · exact .inl (.inl hx)
          · exact .inr hx
          · exact .inl (.inr hx)
theorem base_spn {l : List (Int × Int)} (hl : ∀ x, x ∈ l → okT x) (hn : l.length ≤ 20) : Cop (baseF l) ∧ ∀ x, x ∈ l → Spn (baseF l) x.1.toNat := by
  have key : ∀ i, i ≤ l.length → ((∀ x, x ∈ (l.take i).foldl drainF [] → 2 ≤ x ∧ x ≤ 1099511627776) ∧ bitsN (prodL ((l.take i).foldl drainF [])) ≤ 40 * i + 1) ∧ Cop ((l.take i).foldl drainF []) ∧ ∀ x, x ∈ l.take i → Spn ((l.take i).foldl drainF []) x.1.toNat := fun i => by
    induction i with
    | zero => exact fun _ => ⟨⟨fun x hx => absurd hx (by simp), by simp [prodL]; decide⟩, List.Pairwise.nil, fun x hx => absurd hx (by simp)⟩
    | succ i ih =>
      intro hi
      obtain ⟨⟨h1, h2⟩, h3, h4⟩ := ih (by omega)
      have hx := hl _ (getD_mem (by omega : i < l.length))
      rw [foldl_take_succ (by omega), take_succ_eq (by omega)]
      obtain ⟨q0, q1, q2, q3⟩ := hx
      have hd := DrOk.start (N := (l.getD i default).1.toNat) (by omega) (by omega) h1 h2 (by omega)
      obtain ⟨d1, d2⟩ := drain_spn hd h3
      refine ⟨drain_rng hd, d1, fun y hy => ?_⟩
      rcases List.mem_append.1 hy with hy | hy
      · exact d2 _ ((h4 y hy).sub fun z hz => .mem (List.mem_append_left _ hz))
      · rw [List.mem_singleton] at hy
        rw [hy]
        exact d2 _ (.mem (List.mem_append_right _ (List.mem_singleton.2 rfl)))
  have := (key l.length (Nat.le_refl _)).2
  rwa [List.take_length] at this
def vl : Nat → Nat → Nat → Nat
  | 0, _, _ => 0
  | f + 1, b, x => if x % b = 0 then vl f b (x / b) + 1 else 0
theorem vl_spec {b : Nat} (hb : 2 ≤ b) : ∀ (f x : Nat), 1 ≤ x → x < 2 ^ f → ∀ e, b ^ e ∣ x ↔ e ≤ vl f b x
  | 0, x, h1, h2, _ => by simp at h2; omega
  | f + 1, x, h1, h2, e => by
    rw [vl]
    by_cases c : x % b = 0
    · rw [if_pos c]
      obtain ⟨y, rfl⟩ := Nat.dvd_of_mod_eq_zero c
      have hy : 1 ≤ y := Nat.pos_of_ne_zero fun h => by rw [h, Nat.mul_zero] at h1; omega
      rw [Nat.mul_div_cancel_left _ (by omega)]
      have hy2 : y < 2 ^ f := by
        have : 2 * y ≤ b * y := Nat.mul_le_mul_right _ hb
        rw [Nat.pow_succ] at h2; omega
      cases e with
      | zero => simp
      | succ e =>
        rw [Nat.pow_succ, Nat.mul_comm, Nat.mul_dvd_mul_iff_left (by omega), vl_spec hb f y hy hy2]
        omega
    · rw [if_neg c]
      cases e with
      | zero => simp
      | succ e =>
        refine ⟨fun h => absurd (Nat.mod_eq_zero_of_dvd (Nat.dvd_trans ⟨b ^ e, by rw [Nat.pow_succ, Nat.mul_comm]⟩ h)) c, fun h => by omega⟩
theorem vl_mul {r : List Nat} (hc : Cop r) (h2 : ∀ x, x ∈ r → 2 ≤ x) {b c y : Nat} (hb : b ∈ r) (hcm : c ∈ r) (hy : 1 ≤ y) (hyl : c * y < 2 ^ 64) : vl 64 b (c * y) = vl 64 b y + if b = c then 1 else 0 := by
  have hb2 := h2 _ hb
  have hc2 := h2 _ hcm
  have hcy : 1 ≤ c * y := Nat.mul_pos (by omega) hy
  have hy2 : y < 2 ^ 64 := Nat.lt_of_le_of_lt (Nat.le_mul_of_pos_left _ (by omega)) hyl
  have s1 := vl_spec hb2 64 (c * y) hcy hyl
  have s2 := vl_spec hb2 64 y hy hy2
  have ext : ∀ A B : Nat, (∀ e, e ≤ A ↔ e ≤ B) → A = B := fun A B h => Nat.le_antisymm ((h A).1 (Nat.le_refl _)) ((h B).2 (Nat.le_refl _))
  refine ext _ _ fun e => ?_
  rw [← s1 e]
  by_cases ebc : b = c
  · rw [if_pos ebc, ← ebc]
    cases e with
    | zero => simp
    | succ e =>
      rw [Nat.pow_succ, Nat.mul_comm, Nat.mul_dvd_mul_iff_left (by omega), s2 e]
      omega
  · rw [if_neg ebc, Nat.add_zero, ← s2 e]
    have hg : Nat.gcd b c = 1 := by
      obtain ⟨i, hi, rfl⟩ := List.mem_iff_getElem.1 hb
      obtain ⟨j, hj, rfl⟩ := List.mem_iff_getElem.1 hcm
      rcases Nat.lt_trichotomy i j with h | h | h
      · exact List.pairwise_iff_getElem.1 hc i j hi hj h
      · subst h; exact absurd rfl ebc
      · rw [Nat.gcd_comm]; exact List.pairwise_iff_getElem.1 hc j i hj hi h
    exact ⟨fun h => Nat.Coprime.dvd_of_dvd_mul_left (Nat.Coprime.pow_left e hg) h, fun h => Nat.dvd_trans h (Nat.dvd_mul_left _ _)⟩
def PV (e : Nat → Nat) : List Nat → Nat
  | [] => 1
  | b :: r => b ^ e b * PV e r
theorem PV_congr {e e' : Nat → Nat} : ∀ {r : List Nat}, (∀ b, b ∈ r → e b = e' b) → PV e r = PV e' r
  | [], _ => rfl
  | b :: r, h => by rw [PV, PV, h b (List.mem_cons_self ..), PV_congr fun x hx => h x (List.mem_cons_of_mem _ hx)]
theorem PV_zero : ∀ (r : List Nat), PV (fun _ => 0) r = 1
  | [] => rfl
  | b :: r => by rw [PV, PV_zero r]; rfl
theorem PV_add (e e' : Nat → Nat) : ∀ (r : List Nat), PV (fun b => e b + e' b) r = PV e r * PV e' r
  | [] => rfl
  | b :: r => by rw [PV, PV, PV, PV_add e e' r, Nat.pow_add, Nat.mul_mul_mul_comm]
theorem PV_pow (e : Nat → Nat) (k : Nat) : ∀ (r : List Nat), PV (fun b => e b * k) r = PV e r ^ k
  | [] => by simp [PV]
  | b :: r => by rw [PV, PV, PV_pow e k r, Nat.pow_mul, Nat.mul_pow]
theorem PV_one {c : Nat} : ∀ {r : List Nat}, Cop r → (∀ x, x ∈ r → 2 ≤ x) → c ∈ r → PV (fun b => if b = c then 1 else 0) r = c
  | b :: r, hc, h2, hm => by
    obtain ⟨g1, g2⟩ := List.pairwise_cons.1 hc
    have hb2 := h2 b (List.mem_cons_self ..)
    rw [PV]
    by_cases e : b = c
    · subst e
      rw [if_pos rfl, Nat.pow_one]
      have : PV (fun x => if x = b then 1 else 0) r = PV (fun _ => 0) r := PV_congr fun x hx => by
        refine if_neg fun hh => ?_
        have := g1 x hx
        rw [hh, Nat.gcd_self] at this
        omega
      rw [this, PV_zero, Nat.mul_one]
    · rw [if_neg e, Nat.pow_zero, Nat.one_mul]
      refine PV_one g2 (fun x hx => h2 x (List.mem_cons_of_mem _ hx)) ?_
      rcases List.mem_cons.1 hm with h | h
      · exact absurd h.symm e
      · exact h
theorem PV_is {r : List Nat} (hc : Cop r) (h2 : ∀ x, x ∈ r → 2 ≤ x) {y : Nat} (hy : Spn r y) : 1 ≤ y ∧ (y < 2 ^ 64 → PV (fun b => vl 64 b y) r = y) := by
  induction hy with
  | one =>
    refine ⟨Nat.le_refl _, fun _ => ?_⟩
    rw [PV_congr (e' := fun _ => 0) fun b hb => ?_, PV_zero]
    have hb2 := h2 b hb
    rw [vl, if_neg (by rw [Nat.mod_eq_of_lt (by omega)]; decide)]
  | @mul x y hx _ ih =>
    obtain ⟨i1, i2⟩ := ih
    have hx2 := h2 x hx
    refine ⟨Nat.mul_pos (by omega) i1, fun hlt => ?_⟩
    rw [PV_congr fun b hb => vl_mul hc h2 hb hx i1 hlt, PV_add, PV_one hc h2 hx, i2 (Nat.lt_of_le_of_lt (Nat.le_mul_of_pos_left _ (by omega)) hlt), Nat.mul_comm]
theorem divL_is {b : Nat} (hb : 2 ≤ b) (hbl : b ≤ 1099511627776) {num : Int} (hn : -1000000000 ≤ num ∧ num ≤ 1000000000) : ∀ (f x : Nat) (s : Int), x < 4611686018427387904 → f ≤ 64 → -1000000000000000 + f * 1000000000 ≤ s → s ≤ 1000000000000000 - f * 1000000000 →
    divL f (b : Int) (x : Int) num s = s + num * (vl f b x : Nat) :=
  by
  intro f
  induction f with
  | zero => intro x s _ _ _ _; simp [divL, vl]
  | succ f ih =>
    intro x s hx hf h1 h2
    rw [divL, vl]
    have e1 : (x : Int).tmod (b : Int) = ((x % b : Nat) : Int) := rfl
    have e2 : (x : Int).tdiv (b : Int) = ((x / b : Nat) : Int) := rfl
    rw [e1, e2]
    by_cases c : x % b = 0
    · have hq : x / b ≤ x := Nat.div_le_self _ _
      rw [if_pos (by omega), if_pos c]
      generalize x / b = q at *
      rw [IntWalk.i64_in _ (by omega), IntWalk.i64_in (s + num) (by omega), ih q (s + num) (by omega) (by omega) (by omega) (by omega), Int.natCast_add, Int.mul_add]
      simp only [Int.natCast_one, Int.mul_one]
      omega
    · rw [if_neg (by omega), if_neg c]; simp
theorem sumB_is {b : Nat} (hb : 2 ≤ b) (hbl : b ≤ 1099511627776) : ∀ (l : List (Int × Int)) (s : Int), (∀ x, x ∈ l → okT x) → l.length ≤ 100 → -1000000000000000 + (l.length + 1) * 64000000000 ≤ s → s ≤ 1000000000000000 - (l.length + 1) * 64000000000 →
    l.foldl (fun s x => divL 64 b x.1 x.2 s) s = s + (upS (vl 64 b) l : Nat) - (dnS (vl 64 b) l : Nat) :=
  by
  intro l
  induction l with
  | nil => intro s _ _ _ _; simp [upS, dnS]
  | cons x l ihl =>
    intro s hl hn h1 h2
    have hx := hl x (List.mem_cons_self ..)
    obtain ⟨n1, n2, n3⟩ := okT_nat hx
    obtain ⟨_, _, x3, x4⟩ := hx
    rw [List.length_cons] at hn h1 h2
    have hv : vl 64 b x.1.toNat ≤ 64 := by
      have key : ∀ f y, vl f b y ≤ f := fun f => by
        induction f with
        | zero => intro y; exact Nat.le_refl _
        | succ f ih =>
          intro y
          rw [vl]
          split
          · have := ih (y / b); omega
          · omega
      exact key 64 _
    have hd : divL 64 (b : Int) x.1 x.2 s = s + x.2 * (vl 64 b x.1.toNat : Nat) := by
      conv => lhs; rw [n3]
      exact divL_is hb hbl ⟨x3, x4⟩ 64 _ s n2 (by decide) (by omega) (by omega)
    have hb1 : x.2 * (vl 64 b x.1.toNat : Nat) ≤ 1000000000 * 64 := by
      refine Int.le_trans (Int.mul_le_mul_of_nonneg_right x4 (by omega)) ?_
      exact Int.mul_le_mul_of_nonneg_left (by omega) (by decide)
    have hb2 : -1000000000 * 64 ≤ x.2 * (vl 64 b x.1.toNat : Nat) := by
      refine Int.le_trans ?_ (Int.mul_le_mul_of_nonneg_right x3 (by omega))
      omega
    rw [List.foldl_cons, hd, ihl _ (fun y hy => hl y (List.mem_cons_of_mem _ hy)) (by omega) (by omega) (by omega), upS, dnS]
    by_cases c : x.2 < 0
    · rw [if_pos c, if_pos c]
      have : x.2 * (vl 64 b x.1.toNat : Nat) = -((vl 64 b x.1.toNat * (-x.2).toNat : Nat) : Int) := by
        rw [Int.natCast_mul, show (((-x.2).toNat : Nat) : Int) = -x.2 by omega, Int.mul_neg, Int.neg_neg, Int.mul_comm]
      rw [this]; omega
    · rw [if_neg c, if_neg c]
      have : x.2 * (vl 64 b x.1.toNat : Nat) = ((vl 64 b x.1.toNat * x.2.toNat : Nat) : Int) := by
        rw [Int.natCast_mul, show ((x.2.toNat : Nat) : Int) = x.2 by omega, Int.mul_comm]
      rw [this]; omega
theorem P_is {r : List Nat} (hc : Cop r) (h2 : ∀ x, x ∈ r → 2 ≤ x) : ∀ (l : List (Int × Int)), (∀ x, x ∈ l → okT x ∧ Spn r x.1.toNat) →
    upP l = PV (fun b => upS (vl 64 b) l) r ∧ dnP l = PV (fun b => dnS (vl 64 b) l) r
  | [], _ => by
    constructor
    · exact (PV_zero r).symm
    · exact (PV_zero r).symm
  | x :: l, hl => by
    obtain ⟨i1, i2⟩ := P_is hc h2 l fun y hy => hl y (List.mem_cons_of_mem _ hy)
    obtain ⟨hx, hs⟩ := hl x (List.mem_cons_self ..)
    obtain ⟨n1, n2, n3⟩ := okT_nat hx
    have e := (PV_is hc h2 hs).2 (by omega)
    rw [upP, dnP, i1, i2]
    by_cases c : x.2 < 0
    · rw [if_pos c, if_pos c]
      constructor
      · rw [Nat.one_mul]
        exact PV_congr fun b _ => by rw [upS, if_pos c, Nat.zero_add]
      · have : ∀ b, dnS (vl 64 b) (x :: l) = vl 64 b x.1.toNat * (-x.2).toNat + dnS (vl 64 b) l := fun b => by rw [dnS, if_pos c]
        rw [PV_congr fun b _ => this b, PV_add, PV_pow, e]
    · rw [if_neg c, if_neg c]
      constructor
      · have : ∀ b, upS (vl 64 b) (x :: l) = vl 64 b x.1.toNat * x.2.toNat + upS (vl 64 b) l := fun b => by rw [upS, if_neg c]
        rw [PV_congr fun b _ => this b, PV_add, PV_pow, e]
      · rw [Nat.one_mul]
        exact PV_congr fun b _ => by rw [dnS, if_neg c, Nat.zero_add]
theorem one_sound {l : List (Int × Int)} (hl : ∀ x, x ∈ l → okT x) (hn : l.length ≤ 20) (h : oneF l = true) : upP l = dnP l := by
  obtain ⟨hc, hs⟩ := base_spn hl hn
  have hr := baseF_rng hl hn
  obtain ⟨e1, e2⟩ := P_is hc (fun x hx => (hr x hx).1) l fun x hx => ⟨hl x hx, hs x hx⟩
  rw [e1, e2]
  refine PV_congr fun b hb => ?_
  have hb2 := hr b hb
  have h0 := of_decide_eq_true (List.all_eq_true.1 h b hb)
  unfold sumB at h0
  rw [sumB_is hb2.1 hb2.2 l 0 hl (by omega) (by omega) (by omega)] at h0
  omega
end Go.Proofs.Ytmgfmkbniaepcaa
set_option linter.all false
namespace Go.Proofs.Ytmgfmkbniaepcaa
open Go Go.Vx
set_option maxRecDepth 100000
set_option maxHeartbeats 4000000
def v50 : VF := { ntmps := 39, res := [.tmp 2], body :=
 (.seq (.region [u1 2 .mov [.cn (.int .i64 0)]])
 (.seq (.seq (.region [u1 9 .mov [.tm 0],
 u1 10 (.call 58) [.tm 9],
 u1 8 .mov [.tm 10],
 u1 11 (.ext 0) [.tm 8],
 u1 12 (.ext 1) [.tm 8],
 u1 3 .mov [.tm 11],
 u1 4 .mov [.tm 12]])
 (.seq (.region [u1 13 .mov [.tm 4]])
 (.cond (.tm 13) (.seq (.region [u1 14 .mov [.tm 3],
 u1 2 .mov [.tm 14]])
 .ret)
  .skip)))
 (.seq (.seq (.region [u1 15 .mov [.tm 0],
 u1 16 (.call 52) [.tm 15]])
 (.cond (.tm 16) (.seq (.region [u1 2 .mov [.cn (.int .i64 0)]])
 .ret)
  .skip))
 (.seq (.seq (.region [u1 5 .mov [.cn (.int .i64 64)]])
 (.block 0 (.loop (.seq (.seq (.region [u1 17 .mov [.tm 5],
 u1 18 (.cmp .leq) [.tm 17, .cn (.int .i64 2048)]])
 (.cond (.tm 18) .skip
  (.exit 0)))
 (.seq (.block 1 (.seq (.region [u1 22 .mov [.tm 0],
 u1 23 .mov [.tm 5],
 u1 24 (.call 59) [.tm 22, .tm 23],
 u1 21 .mov [.tm 24],
 u1 25 (.ext 0) [.tm 21],
 u1 26 (.ext 1) [.tm 21],
 u1 6 (.alloc [.nil, .nil]) [],
 u1 7 (.alloc [.nil, .nil]) [],
 u0 (.store 2) [.tm 6, .tm 25],
 u0 (.store 2) [.tm 7, .tm 26]])
 (.block 2 (.seq (.region [u1 28 (.fieldAddr 0) [.tm 6],
 u1 29 (.load false 1) [.tm 28],
 u1 30 (.fieldAddr 1) [.tm 7],
 u1 31 (.load false 1) [.tm 30],
 u1 32 (.call 60) [.tm 29, .tm 31],
 u1 27 .mov [.tm 32]])
 (.cond (.tm 27) (.seq (.region [u1 2 .mov [.cn (.int .i64 1)]])
 .ret)
  (.seq (.region [u1 34 (.fieldAddr 0) [.tm 7],
 u1 35 (.load false 1) [.tm 34],
 u1 36 (.fieldAddr 1) [.tm 6],
 u1 37 (.load false 1) [.tm 36],
 u1 38 (.call 60) [.tm 35, .tm 37],
 u1 33 .mov [.tm 38]])
 (.cond (.tm 33) (.seq (.region [u1 2 .mov [.cn (.int .i64 (-1))]])
 .ret)
  .skip)))))))
 (.region [u1 19 .mov [.tm 5],
 u1 20 (.ari .mul) [.tm 19, .cn (.int .i64 2)],
 u1 5 .mov [.tm 20]]))))))
 (.seq (.region [u1 2 .mov [.cn (.int .i64 0)]])
 .ret))))) }
theorem v50_is : vfunc Try.prog Try.f50 = some v50 := by kernel_rfl
def v47 : VF := { ntmps := 33, res := [.tmp 2], body :=
 (.seq (.region [u1 2 .mov [.cn (.int .i64 0)]])
 (.seq (.seq (.region [u1 5 .mov [.tm 0],
 u1 6 .len [.tm 5],
 u1 7 (.cmp .gtr) [.tm 6, .cn (.int .i64 16)]])
 (.cond (.tm 7) (.seq (.region [u1 2 .mov [.cn (.int .i64 3)]])
 .ret)
  .skip))
 (.seq (.seq (.region [u1 8 .mov [.tm 0],
 u1 9 .len [.tm 8],
 u1 10 .mov [.cn (.int .i64 0)]])
 (.block 0 (.loop (.seq (.region [u1 11 (.cmp .lss) [.tm 10, .tm 9]])
 (.seq (.cond (.tm 11) .skip
  (.exit 0))
 (.seq (.block 1 (.seq (.region [u1 12 (.idxAddr 2) [.tm 8, .tm 10],
 u1 13 (.load true 2) [.tm 12],
 u1 4 (.alloc [(.int .i64 0), (.int .i64 0)]) [],
 u0 (.store 2) [.tm 4, .tm 13]])
 (.seq (.region [u1 14 (.fieldAddr 0) [.tm 4],
 u1 15 (.load false 1) [.tm 14],
 u1 16 (.cmp .lss) [.tm 15, .cn (.int .i64 1)],
 u1 17 .mov [.tm 16],
 u2 18 17 false (.fieldAddr 0) [.tm 4],
 u2 19 17 false (.load false 1) [.tm 18],
 u2 20 17 false (.cmp .gtr) [.tm 19, .cn (.int .i64 1000000000000)],
 u1 21 .or [.tm 17, .tm 20],
 u1 22 .mov [.tm 21],
 u2 23 22 false (.fieldAddr 1) [.tm 4],
 u2 24 22 false (.load false 1) [.tm 23],
 u2 25 22 false (.cmp .lss) [.tm 24, .cn (.int .i64 (-1000000000))],
 u1 26 .or [.tm 22, .tm 25],
 u1 27 .mov [.tm 26],
 u2 28 27 false (.fieldAddr 1) [.tm 4],
 u2 29 27 false (.load false 1) [.tm 28],
 u2 30 27 false (.cmp .gtr) [.tm 29, .cn (.int .i64 1000000000)],
 u1 31 .or [.tm 27, .tm 30]])
 (.cond (.tm 31) (.seq (.region [u1 2 .mov [.cn (.int .i64 2)]])
 .ret)
  .skip))))
 (.region [u1 32 (.ari .add) [.tm 10, .cn (.int .i64 1)],
 u1 10 .mov [.tm 32]])))))))
 (.seq (.region [u1 2 .mov [.cn (.int .i64 0)]])
 .ret)))) }
theorem v47_is : vfunc Try.prog Try.f47 = some v47 := by kernel_rfl
def signL : Nat → List (Int × Int) → Nat → Int
  | 0, _, _ => 0
  | f + 1, l, p => if (sumsF l p).dh < (sumsF l p).ul then 1 else if (sumsF l p).uh < (sumsF l p).dl then -1 else signL f l (2 * p)
def signF (l : List (Int × Int)) : Int := if (guessF l).2 = true then (guessF l).1 else if oneF l = true then 0 else signL 6 l 64
def signC : Ctr := { alias := false, of := fun l => match l with
  | [.vs _ _ n sz get] => .ex (List (Int × Int)) fun l => .pre (lsP 2 enc2 n sz get l ∧ (∀ x, x ∈ l → okT x) ∧ n ≤ 20) (.fin (.int .i64 (signF l)) [])
  | _ => .pre False (.fin (.int .i64 0) []) }
def okT0 (x : Int × Int) : Bool := decide (x.1 < 1) || decide (1000000000000 < x.1) || decide (x.2 < -1000000000) || decide (1000000000 < x.2)
def chkTF (l : List (Int × Int)) : Int := if 16 < l.length then 3 else if l.any okT0 = true then 2 else 0
def chkTC : Ctr := { alias := false, of := fun l => match l with
  | [.vs _ _ n sz get] => .ex (List (Int × Int)) fun l => .pre (lsP 2 enc2 n sz get l ∧ n ≤ 9223372036854775807) (.fin (.int .i64 (chkTF l)) [])
  | _ => noC }
theorem sumsF_ok (l : List (Int × Int)) (p : Nat) : (sumsF l p).ok := by
  have key : ∀ (l : List (Int × Int)) (s : Bnd), s.ok → (l.foldl (sumsS p) s).ok := fun l => by
    induction l with
    | nil => intro s h; exact h
    | cons x l ih => intro s h; exact ih _ (sumsS_ok p s x h)
  exact key l _ (by simp [Bnd.ok, nl_0])
def RB0 : Env := { ct := fun n => match n with | 58 => some guessC | 52 => some oneC | 59 => some sumsC | 60 => some aboveC | _ => none, fn := fun _ => none, meth := fun _ _ => none }
theorem RB0_ct58 : RB0.ct 58 = some guessC := rfl
theorem RB0_ct52 : RB0.ct 52 = some oneC := rfl
theorem RB0_ct59 : RB0.ct 59 = some sumsC := rfl
theorem RB0_ct60 : RB0.ct 60 = some aboveC := rfl
theorem RB0_ok : EnvOk Try.prog RB0 := by
  refine ⟨fun f c h => ?_, fun f vf h => ?_, (fun _ _ _ h => by cases h), by kernel_rfl, (fun _ h => by cases h)⟩
  · simp only [RB0] at h
    split at h
    · cases h; exact ⟨guess_c, Try.f58, Try.func58, by kernel_rfl, by kernel_rfl⟩
    · cases h; exact ⟨one_c, Try.f52, Try.func52, by kernel_rfl, by kernel_rfl⟩
    · cases h; exact ⟨sums_c, Try.f59, Try.func59, by kernel_rfl, by kernel_rfl⟩
    · cases h; exact ⟨above_c, Try.f60, Try.func60, by kernel_rfl, by kernel_rfl⟩
    · cases h
  · cases h
theorem sign_c : signC.ok Try.prog 50 := by
  refine contract Try.func50 v50_is RB0_ok 500 signC fun args k h => ?_
  simp only [signC] at h
  split at h
  · rename_i tt z n sz get
    obtain ⟨l, ⟨⟨rfl, rfl, hg⟩, hl, hn⟩, h⟩ := h
    refine ⟨[.vs tt z l.length 2 (fun k => enc2 (l.getD k default))], ⟨⟨id, rfl, rfl, rfl, hg⟩, trivial⟩, ?_⟩
    dsimp only [v50, RB0_ct58, RB0_ct52, guessC, oneC, enc2, go_sem, reduceIte]
    simp only [t_all, forall_const, ne_eq, implies_true, Nat.reduceAdd, Nat.reduceLeDiff, reduceCtorEq, Nat.reduceEqDiff]
    have hself : lsP 2 enc2 l.length 2 (fun k => [SV.int IntKind.i64 (l.getD k default).fst, SV.int IntKind.i64 (l.getD k default).snd]) l := ⟨rfl, rfl, fun k _ => leXL_self _⟩
    refine ⟨l, ⟨hself, hl, by omega⟩, by decide, by decide, fun hc => ?_, fun hc => ⟨l, ⟨hself, hl, hn⟩, fun hd => ?_, fun hd => ?_⟩⟩
    · rw [signF, if_pos hc] at h; exact ans_int h
    · rw [signF, if_neg (by rw [hc]; decide), if_pos hd] at h; exact ans_int h
    · rw [signF, if_neg (by rw [hc]; decide), if_neg (by rw [hd]; decide)] at h
      obtain ⟨R, hR⟩ : ∃ R, R = signL 6 l 64 := ⟨_, rfl⟩
      rw [← hR] at h
      refine Loop.keep [0] (Nat × Nat) (fun s => [(5, .int .i64 s.2)]) (fun _ => []) [] (fun s => R = signL s.1 l s.2 ∧ s.2 * 2 ^ s.1 = 4096 ∧ 64 ≤ s.2) (fun s => s.1) ?_ ?_
      · refine ⟨(6, 64), ⟨hR, by decide, by decide⟩, ?_⟩
        dsimp only [go_sem, reduceIte]
        simp only [fin_all, imp_self, implies_true, true_and, and_true]
        rfl
      · rintro ⟨f, p⟩ ⟨hf, hp, hp64⟩
        dsimp only at hf hp hp64
        dsimp only [RB0_ct59, RB0_ct60, sumsC, aboveC, natS, go_sem, reduceIte]
        simp only [t_all, forall_const, ne_eq, implies_true, Nat.reduceAdd, Nat.reduceLeDiff, reduceCtorEq, Nat.reduceEqDiff]
        obtain ⟨k1, k2, k3, k4⟩ := sumsF_ok l p
        have hfd : p ≤ 2048 → ∃ g, f = g + 1 := fun hpl => by
          rcases Nat.eq_zero_or_pos f with h0 | h0
          · rw [h0, Nat.pow_zero, Nat.mul_one] at hp; omega
          · exact ⟨f - 1, by omega⟩
        have hf0 : ¬ p ≤ 2048 → f = 0 := fun hpl => by
          rcases Nat.eq_zero_or_pos f with h0 | h0
          · exact h0
          · obtain ⟨g, rfl⟩ : ∃ g, f = g + 1 := ⟨f - 1, by omega⟩
            rw [Nat.pow_succ] at hp
            have : 1 ≤ 2 ^ g := p2_pos g
            have : p * 2 ≤ p * (2 ^ g * 2) := Nat.mul_le_mul_left _ (by omega)
            omega
        refine ⟨fun hc => ⟨l, p, ⟨hself, hl, by omega, rfl, by omega⟩, fun y1 y2 y3 y4 => ⟨by decide, by decide, (sumsF l p).ul, (sumsF l p).dh, ⟨okW_nl k1, okW_nl k4⟩, fun hd => ?_, fun hd => ⟨(sumsF l p).dl, (sumsF l p).uh, ⟨okW_nl k3, okW_nl k2⟩, fun he => ?_, fun he => ?_⟩⟩⟩, fun hc => ?_⟩
        · obtain ⟨g, rfl⟩ := hfd (by omega)
          rw [signL, if_pos hd] at hf
          rw [hf] at h; exact ans_int h
        · obtain ⟨g, rfl⟩ := hfd (by omega)
          rw [signL, if_neg hd, if_pos he] at hf
          rw [hf] at h; exact ans_int h
        · obtain ⟨g, rfl⟩ := hfd (by omega)
          rw [signL, if_neg hd, if_neg he] at hf
          rw [Nat.pow_succ] at hp
          have hp2 : 2 * p * 2 ^ g = 4096 := by rw [← hp, Nat.mul_comm 2 p, Nat.mul_assoc, Nat.mul_comm 2]
          refine ⟨(g, 2 * p), ⟨hf, hp2, by simp only; omega⟩, by simp only; omega, ?_⟩
          rw [show IntKind.i64.wrap ((p : Int) * 2) = ((2 * p : Nat) : Int) by rw [IntWalk.i64_in _ (by omega)]; omega]
          simp only [fin_all, imp_self, implies_true, true_and, and_true]
        · obtain rfl := hf0 (by omega)
          rw [signL] at hf
          rw [hf] at h; exact ans_int h
  · exact h.1.elim
def RB1 : Env := { ct := fun _ => none, fn := fun _ => none, meth := fun _ _ => none }
theorem RB1_ok : EnvOk Try.prog RB1 := by
  refine ⟨fun f c h => ?_, fun f vf h => ?_, (fun _ _ _ h => by cases h), by kernel_rfl, (fun _ h => by cases h)⟩
  · cases h
  · cases h
theorem chkT_c : chkTC.ok Try.prog 47 := by
  refine contract Try.func47 v47_is RB1_ok 500 chkTC fun args k h => ?_
  simp only [chkTC] at h
  split at h
  · rename_i tt z n sz get
    obtain ⟨l, ⟨⟨rfl, rfl, hg⟩, hn⟩, h⟩ := h
    refine ⟨[.vs tt z l.length 2 (fun k => enc2 (l.getD k default))], ⟨⟨id, rfl, rfl, rfl, hg⟩, trivial⟩, ?_⟩
    dsimp only [v47, enc2, go_sem, reduceIte]
    simp only [t_all, forall_const, ne_eq, implies_true, Nat.reduceAdd, Nat.reduceLeDiff, reduceCtorEq, Nat.reduceEqDiff]
    refine ⟨fun hc => ?_, fun hc => ?_⟩
    · rw [chkTF, if_pos (by omega)] at h; exact ans_int h
    · rw [chkTF, if_neg (by omega)] at h
      refine Loop.keep [0, 7, 0] Nat (fun i => [(10, .int .i64 i)]) (fun _ => []) [] (fun i => i ≤ l.length ∧ (l.take i).any okT0 = false) (fun i => l.length - i) ?_ ?_
      · refine ⟨0, ⟨by omega, rfl⟩, ?_⟩
        dsimp only [go_sem, reduceIte]
        simp only [fin_all, imp_self, implies_true, true_and, and_true]
        rfl
      · rintro i ⟨hi, hall⟩
        dsimp only [enc2, Int.toNat_natCast, go_sem, reduceIte]
        simp only [t_all, forall_const, ne_eq, implies_true, Nat.reduceAdd, Nat.reduceLeDiff, reduceCtorEq, Nat.reduceEqDiff]
        refine ⟨fun hlt => ⟨⟨by omega, by omega⟩, fun hc => ?_, fun hc => ⟨i + 1, ⟨by omega, ?_⟩, by omega, ?_⟩⟩, fun hge => ?_⟩
        · have : l.any okT0 = true := List.any_eq_true.2 ⟨_, getD_mem (by omega : i < l.length), hc⟩
          rw [if_pos this] at h
          exact ans_int h
        · rw [take_any_succ (by omega), hall, Bool.false_or]; exact hc
        · rw [IntWalk.i64_in ((i : Int) + 1) (by omega)]
          simp only [fin_all, imp_self, implies_true, true_and, and_true]
          simp
        · obtain rfl : i = l.length := by omega
          rw [List.take_length] at hall
          rw [if_neg (by rw [hall]; decide)] at h
          exact ans_int h
  · exact h.1.elim
end Go.Proofs.Ytmgfmkbniaepcaa
set_option linter.all false
namespace Go.Proofs.Ytmgfmkbniaepcaa
open Go Go.Vx
def Und (l : List (Int × Int)) (p : Nat) : Prop := upS (fun n => (lN n p).1) l ≤ dnS (fun n => (lN n p).2) l ∧ dnS (fun n => (lN n p).1) l ≤ upS (fun n => (lN n p).2) l
theorem lt_of_pow {a b K : Nat} (h : a ^ K < b ^ K) : a < b := by
  refine Nat.lt_of_not_le fun hh => ?_
  have := Nat.pow_le_pow_left hh K
  omega
theorem lt_of_logs {a b x y K : Nat} (ha : a ^ K ≤ 2 ^ x) (hb : 2 ^ y ≤ b ^ K) (h : x < y) : a < b := by
  refine lt_of_pow (K := K) ?_
  have : (2 : Nat) ^ x < 2 ^ y := (Nat.pow_lt_pow_iff_right (by decide)).2 h
  omega
theorem signL_sound {l : List (Int × Int)} (hl : ∀ x, x ∈ l → okT x) (hn : l.length ≤ 20) : ∀ (f p : Nat), 1 ≤ f → 1 ≤ p → p * 2 ^ f = 4096 →
    (signL f l p = 1 → dnP l < upP l) ∧ (signL f l p = -1 → upP l < dnP l) ∧ (signL f l p = 0 → Und l 2048) ∧ (signL f l p = 1 ∨ signL f l p = -1 ∨ signL f l p = 0) := by
  intro f
  induction f with
  | zero => intro p h; omega
  | succ f ih =>
    intro p _ hp1 hp
    have h1 := p2_pos f
    rw [Nat.pow_succ] at hp
    have hp2 : p ≤ 2048 := by
      have : p * 2 ≤ p * (2 ^ f * 2) := Nat.mul_le_mul_left _ (by omega)
      omega
    have hs := sums_is (p := p) hp2 hl (by omega)
    obtain ⟨⟨a1, a2⟩, b1, b2⟩ := upS_sound (K := 2 ^ p) (g := fun n => (lN n p).1) (h := fun n => (lN n p).2) (fun n k1 k2 => lN_sound k1 k2) l hl
    rw [signL, hs]
    dsimp only
    by_cases c1 : dnS (fun n => (lN n p).2) l < upS (fun n => (lN n p).1) l
    · rw [if_pos c1]
      exact ⟨fun _ => lt_of_logs b2 a1 c1, fun h => absurd h (by decide), fun h => absurd h (by decide), Or.inl rfl⟩
    · rw [if_neg c1]
      by_cases c2 : upS (fun n => (lN n p).2) l < dnS (fun n => (lN n p).1) l
      · rw [if_pos c2]
        exact ⟨fun h => absurd h (by decide), fun _ => lt_of_logs a2 b1 c2, fun h => absurd h (by decide), Or.inr (Or.inl rfl)⟩
      · rw [if_neg c2]
        rcases Nat.eq_zero_or_pos f with h0 | h0
        · subst h0
          have e : p = 2048 := by rw [Nat.pow_zero] at hp; omega
          subst e
          exact ⟨fun h => absurd h (by rw [signL]; decide), fun h => absurd h (by rw [signL]; decide), fun _ => ⟨by omega, by omega⟩, Or.inr (Or.inr rfl)⟩
        · exact ih (2 * p) h0 (by omega) (by rw [← hp, Nat.mul_comm 2 p, Nat.mul_assoc, Nat.mul_comm 2])
theorem sign_sound {l : List (Int × Int)} (hl : ∀ x, x ∈ l → okT x) (hn : l.length ≤ 20) :
    (signF l = 1 → dnP l < upP l) ∧ (signF l = -1 → upP l < dnP l) ∧ (signF l = 0 → oneF l = true ∨ Und l 2048) ∧ (signF l = 1 ∨ signF l = -1 ∨ signF l = 0) := by
  have hg := guess_is hl (by omega)
  obtain ⟨⟨a1, a2⟩, b1, b2⟩ := upS_sound (K := 2 ^ 28) (g := fun n => (qN n).1) (h := fun n => (qN n).2) (fun n k1 k2 => qN_sound k1 k2) l hl
  unfold signF
  by_cases c1 : dnS (fun n => (qN n).2) l < upS (fun n => (qN n).1) l
  · rw [if_pos c1] at hg
    rw [hg, if_pos rfl]
    exact ⟨fun _ => lt_of_logs b2 a1 c1, fun h => absurd h (by decide), fun h => absurd h (by decide), Or.inl rfl⟩
  · rw [if_neg c1] at hg
    by_cases c2 : upS (fun n => (qN n).2) l < dnS (fun n => (qN n).1) l
    · rw [if_pos c2] at hg
      rw [hg, if_pos rfl]
      exact ⟨fun h => absurd h (by decide), fun _ => lt_of_logs a2 b1 c2, fun h => absurd h (by decide), Or.inr (Or.inl rfl)⟩
    · rw [if_neg c2] at hg
      rw [hg, if_neg (by decide)]
      by_cases c3 : oneF l = true
      · rw [if_pos c3]
        exact ⟨fun h => absurd h (by decide), fun h => absurd h (by decide), fun _ => Or.inl c3, Or.inr (Or.inr rfl)⟩
      · rw [if_neg c3]
        obtain ⟨k1, k2, k3, k4⟩ := signL_sound hl hn 6 64 (by decide) (by decide) (by decide)
        exact ⟨k1, k2, fun h => Or.inr (k3 h), k4⟩
theorem S_add {g h w : Nat → Nat} {c : Nat} : ∀ (l : List (Int × Int)), (∀ x, x ∈ l → h x.1.toNat ≤ g x.1.toNat + w x.1.toNat * c) → upS h l ≤ upS g l + upS w l * c ∧ dnS h l ≤ dnS g l + dnS w l * c
  | [], _ => by simp [upS, dnS]
  | x :: l, H => by
    obtain ⟨i1, i2⟩ := S_add l fun y hy => H y (List.mem_cons_of_mem _ hy)
    have hx := H x (List.mem_cons_self ..)
    have key : ∀ e : Nat, h x.1.toNat * e ≤ g x.1.toNat * e + w x.1.toNat * e * c := fun e => by
      have h1 := Nat.mul_le_mul_right e hx
      rw [Nat.add_mul] at h1
      rw [Nat.mul_assoc (w x.1.toNat), Nat.mul_comm e c, ← Nat.mul_assoc]
      exact h1
    rw [upS, upS, upS, dnS, dnS, dnS, Nat.add_mul, Nat.add_mul]
    constructor
    · split
      · rw [Nat.zero_mul]; omega
      · have := key x.2.toNat; omega
    · split
      · have := key (-x.2).toNat; omega
      · rw [Nat.zero_mul]; omega
theorem und_near {l : List (Int × Int)} {J : Nat} {w : Nat → Nat} (hJ : J ≤ 2048) (hl : ∀ x, x ∈ l → okT x) (hw : ∀ x, x ∈ l → (lN x.1.toNat 2048).2 ≤ (lN x.1.toNat 2048).1 + w x.1.toNat * 2 ^ (2048 - J)) (h : Und l 2048) :
    dnP l ^ (2 ^ J) ≤ upP l ^ (2 ^ J) * 2 ^ (upS w l + dnS w l) := by
  obtain ⟨⟨a1, a2⟩, b1, b2⟩ := upS_sound (K := 2 ^ 2048) (g := fun n => (lN n 2048).1) (h := fun n => (lN n 2048).2) (fun n k1 k2 => lN_sound k1 k2) l hl
  obtain ⟨s1, s2⟩ := S_add (g := fun n => (lN n 2048).1) (h := fun n => (lN n 2048).2) (w := w) (c := 2 ^ (2048 - J)) l hw
  obtain ⟨_, h2⟩ := h
  obtain ⟨c, hc⟩ : ∃ c, c = 2 ^ (2048 - J) := ⟨_, rfl⟩
  obtain ⟨K, hK⟩ : ∃ K, K = (2 : Nat) ^ 2048 := ⟨_, rfl⟩
  have hc0 : c ≠ 0 := by rw [hc]; have := p2_pos (2048 - J); omega
  have hKc : K = 2 ^ J * c := by rw [hK, hc, ← Nat.pow_add]; congr 1; omega
  rw [← hc] at s1 s2
  rw [← hK] at a1 a2 b1 b2
  rw [← Nat.pow_le_pow_iff_left hc0, Nat.mul_pow, ← Nat.pow_mul, ← Nat.pow_mul, ← hKc, ← Nat.pow_mul, Nat.add_mul]
  refine Nat.le_trans b2 ?_
  refine Nat.le_trans (Nat.pow_le_pow_right (by decide) (show _ ≤ upS (fun n => (lN n 2048).1) l + (upS w l * c + dnS w l * c) by omega)) ?_
  rw [Nat.pow_add]
  exact Nat.mul_le_mul_right _ a1
theorem bern (Q : Nat) : ∀ n, Q ^ n * (Q + n) ≤ Q * (Q + 1) ^ n
  | 0 => by simp
  | n + 1 => by
    have ih := bern Q n
    have h1 : Q ^ (n + 1) * (Q + (n + 1)) = Q * (Q ^ n * (Q + n)) + Q * Q ^ n := by
      rw [Nat.pow_succ, ← Nat.add_assoc, Nat.mul_add, Nat.mul_one, Nat.mul_comm (Q ^ n) Q, Nat.mul_assoc]
    have h2 : Q * (Q + 1) ^ (n + 1) = Q * (Q * (Q + 1) ^ n) + Q * (Q + 1) ^ n := by
      rw [Nat.pow_succ, Nat.mul_add, Nat.mul_one, Nat.mul_add, Nat.mul_comm ((Q + 1) ^ n) Q]
    have h3 := Nat.mul_le_mul_left Q (Nat.pow_le_pow_left (show Q ≤ Q + 1 by omega) n)
    have h4 := Nat.mul_le_mul_left Q ih
    omega
theorem two_le (Q : Nat) (hQ : 0 < Q) : 2 * Q ^ Q ≤ (Q + 1) ^ Q := by
  have := bern Q Q
  refine Nat.le_of_mul_le_mul_left (c := Q) ?_ hQ
  have e : Q * (2 * Q ^ Q) = Q ^ Q * (Q + Q) := by rw [Nat.mul_add, Nat.two_mul, Nat.mul_add, Nat.mul_comm Q]
  omega
theorem und_ratio {D U E Q : Nat} (hQ : 0 < Q) (h : D ^ Q ≤ U ^ Q * 2 ^ E) : D * Q ^ E ≤ U * (Q + 1) ^ E := by
  have h2 := Nat.pow_le_pow_left (two_le Q hQ) E
  rw [Nat.mul_pow] at h2
  rw [← Nat.pow_le_pow_iff_left (show Q ≠ 0 by omega), Nat.mul_pow, Nat.mul_pow, ← Nat.pow_mul, ← Nat.pow_mul, Nat.mul_comm E Q, Nat.pow_mul, Nat.pow_mul]
  refine Nat.le_trans (Nat.mul_le_mul_right _ h) ?_
  rw [Nat.mul_assoc]
  exact Nat.mul_le_mul_left _ h2
def Near (M W J N m : Nat) : Prop := 2 ^ m * M ≤ N ^ (2 ^ J) * M + 2 ^ m * W ∧ N ^ (2 ^ J) * M ≤ 2 ^ m * (M + W)
theorem Near.mono {M W W' J N m : Nat} (h : Near M W J N m) (hw : W ≤ W') : Near M W' J N m := by
  obtain ⟨h1, h2⟩ := h
  have k1 := Nat.mul_le_mul_left (2 ^ m) hw
  have k2 := Nat.mul_le_mul_left (2 ^ m) (show M + W ≤ M + W' by omega)
  exact ⟨by omega, by omega⟩
theorem Near.sq {M W J N m : Nat} (hM : 0 < M) (hW : W ≤ M) (h : Near M W J N m) : Near M (3 * W) (J + 1) N (2 * m) := by
  obtain ⟨h1, h2⟩ := h
  unfold Near
  have e0 : N ^ 2 ^ (J + 1) = N ^ 2 ^ J * N ^ 2 ^ J := by rw [Nat.pow_succ, Nat.pow_mul, Nat.pow_two]
  rw [e0, pow_dbl]
  generalize N ^ 2 ^ J = X at *
  generalize 2 ^ m = P at *
  constructor
  · refine Nat.le_of_mul_le_mul_right (c := M) ?_ hM
    have k1 : P * (M - W) ≤ X * M := by rw [Nat.mul_sub]; omega
    have k2 := Nat.mul_le_mul k1 k1
    obtain ⟨V, hV⟩ : ∃ V, V = M - W := ⟨_, rfl⟩
    have hM2 : M = V + W := by omega
    rw [← hV] at k2
    have e1 : P * V * (P * V) = P * P * (V * V) := by simp only [Nat.mul_assoc, Nat.mul_left_comm]
    have e2 : (X * M) * (X * M) = X * X * M * M := by simp only [Nat.mul_assoc, Nat.mul_left_comm]
    have e3 : P * P * M * M = P * P * (M * M) := by simp only [Nat.mul_assoc]
    have e4 : (X * X * M + P * P * (3 * W)) * M = X * X * M * M + P * P * (3 * W * M) := by rw [Nat.add_mul, Nat.mul_assoc (P * P)]
    have e5 : M * M ≤ V * V + 3 * W * M := by
      rw [hM2, Nat.add_mul, Nat.mul_add, Nat.mul_add, Nat.mul_add]
      have : W * V = V * W := Nat.mul_comm ..
      have h3 : 3 * W * V = 3 * (W * V) := Nat.mul_assoc ..
      have h4 : 3 * W * W = 3 * (W * W) := Nat.mul_assoc ..
      omega
    have e6 := Nat.mul_le_mul_left (P * P) e5
    rw [Nat.mul_add] at e6
    omega
  · refine Nat.le_of_mul_le_mul_right (c := M) ?_ hM
    have k2 := Nat.mul_le_mul h2 h2
    have e1 : P * (M + W) * (P * (M + W)) = P * P * ((M + W) * (M + W)) := by simp only [Nat.mul_assoc, Nat.mul_left_comm]
    have e2 : (X * M) * (X * M) = X * X * M * M := by simp only [Nat.mul_assoc, Nat.mul_left_comm]
    have e3 : P * P * (M + 3 * W) * M = P * P * ((M + 3 * W) * M) := by simp only [Nat.mul_assoc]
    have e5 : (M + W) * (M + W) ≤ (M + 3 * W) * M := by
      rw [Nat.add_mul, Nat.mul_add, Nat.mul_add, Nat.add_mul]
      have h3 : 3 * W * M = 3 * (W * M) := Nat.mul_assoc ..
      have h4 : M * W = W * M := Nat.mul_comm ..
      have h5 := Nat.mul_le_mul_left W hW
      omega
    have e6 := Nat.mul_le_mul_left (P * P) e5
    omega
theorem gl_near (M : Nat) (hM : 0 < M) : ∀ (J f A B S N w : Nat), J ≤ f → 2 ^ S * A ≤ N * M → N * M ≤ 2 ^ S * B → M ≤ A → A ≤ B → B ≤ 2 * M → B ≤ A + w →
    (gl M false f A B S).2 ≤ (gl M false f A B S).1 + 2 ^ (f - J) ∨ ∃ j m, j ≤ J ∧ Near M (4 ^ j * (w + 2)) j N m := by
  intro J
  induction J with
  | zero =>
    intro f A B S N w _ _ _ _ _ _ _
    obtain ⟨h1, h2⟩ := gl_any M false f A B S
    rw [Nat.add_mul, Nat.one_mul] at h2
    left
    rw [Nat.sub_zero]
    omega
  | succ J ih =>
    intro f A B S N w hf h1 h2 ha hab hb hw
    obtain ⟨f, rfl⟩ : ∃ g, f = g + 1 := ⟨f - 1, by omega⟩
    have hA : A * A / M * M ≤ A * A := Nat.div_mul_le_self _ _
    have hA' : A * A < (A * A / M + 1) * M := by
      have := Nat.div_add_mod (A * A) M
      have h3 := Nat.mod_lt (A * A) hM
      rw [Nat.add_mul, Nat.one_mul, Nat.mul_comm (A * A / M)]; omega
    have hB : B * B ≤ cdiv (B * B) M * M := cdiv_mul _ _ hM
    have k1 := sq_low hM h1 hA
    have k2 := sq_high hM h2 hB
    have hA1 : M ≤ A * A / M := (Nat.le_div_iff_mul_le hM).2 (Nat.mul_le_mul ha ha)
    have hAB : A * A / M ≤ cdiv (B * B) M := div_cdiv (Nat.mul_le_mul hab hab)
    have hB1 : cdiv (B * B) M ≤ 4 * M := cdiv_le (by
      have := Nat.mul_le_mul hb hb
      have e : 4 * M * M = 2 * M * (2 * M) := by rw [Nat.mul_mul_mul_comm, Nat.mul_assoc]
      omega)
    have hW : cdiv (B * B) M ≤ A * A / M + (4 * w + 2) := cdiv_le (by
      obtain ⟨v, rfl⟩ : ∃ v, B = A + v := ⟨B - A, by omega⟩
      have e : (A + v) * (A + v) = A * A + v * (A + (A + v)) := by
        rw [Nat.mul_add, Nat.add_mul A v A, Nat.mul_add v A, Nat.mul_comm (A + v) v]
        omega
      have e2 : v * (A + (A + v)) ≤ w * (4 * M) := Nat.mul_le_mul (by omega) (by omega)
      have e3 : (A * A / M + (4 * w + 2)) * M = (A * A / M + 1) * M + w * (4 * M) + M := by
        rw [Nat.add_mul, Nat.add_mul, Nat.add_mul]
        have : 4 * w * M = w * (4 * M) := by rw [Nat.mul_comm 4 w, Nat.mul_assoc]
        omega
      omega)
    have lift : ∀ {j w' : Nat}, w' + 2 ≤ 4 * (w + 2) → ∀ {m}, j ≤ J → Near M (4 ^ j * (w' + 2)) j (N * N) m → ∃ j m, j ≤ J + 1 ∧ Near M (4 ^ j * (w + 2)) j N m := fun {j w'} hw' {m} hj hn => by
      refine ⟨j + 1, m, by omega, ?_⟩
      have hm : 4 ^ j * (w' + 2) ≤ 4 ^ (j + 1) * (w + 2) := by
        rw [Nat.pow_succ, Nat.mul_assoc]
        exact Nat.mul_le_mul_left _ hw'
      have := hn.mono hm
      unfold Near at this ⊢
      rw [pow_sq]
      exact this
    rw [gl, Nat.add_sub_add_right]
    split
    · split
      · have := ih f (A * A / M) (cdiv (B * B) M) (2 * S) (N * N) (4 * w + 2) (by omega) (by rw [pow_dbl]; exact k1) (by rw [pow_dbl]; exact k2) hA1 hAB (by omega) hW
        rcases this with h | ⟨j, m, hj, hn⟩
        · exact Or.inl h
        · exact Or.inr (lift (by omega) hj hn)
      · right
        refine ⟨1, 2 * S + 1, by omega, ?_⟩
        unfold Near
        rw [Nat.pow_one, Nat.pow_two, Nat.pow_one, Nat.pow_succ, pow_dbl]
        have g1 : 2 ^ S * 2 ^ S * (2 * M) ≤ 2 ^ S * 2 ^ S * (A * A / M + (4 * w + 2)) := Nat.mul_le_mul_left _ (by omega)
        have g2 : 2 ^ S * 2 ^ S * cdiv (B * B) M ≤ 2 ^ S * 2 ^ S * (2 * M + (4 * w + 2)) := Nat.mul_le_mul_left _ (by omega)
        generalize 2 ^ S * 2 ^ S = P at *
        rw [Nat.mul_add] at g1 g2
        have e1 : P * 2 * M = P * (2 * M) := Nat.mul_assoc ..
        have e2 : P * 2 * (4 * (w + 2)) = P * (4 * w + 2) + P * (4 * w + 14) := by rw [Nat.mul_assoc, ← Nat.mul_add]; congr 1; omega
        have e3 : P * 2 * (M + 4 * (w + 2)) = P * (2 * M) + (P * (4 * w + 2) + P * (4 * w + 14)) := by rw [Nat.mul_add, e1, e2]
        exact ⟨by omega, by omega⟩
    · rw [if_neg (by simp)]
      have c1 : A * A / M / 2 * 2 ≤ A * A / M := Nat.div_mul_le_self _ _
      have c2 : cdiv (B * B) M ≤ cdiv (cdiv (B * B) M) 2 * 2 := cdiv_mul _ _ (by decide)
      have e3 : ∀ x, 2 ^ (2 * S + 1) * x = 2 ^ S * 2 ^ S * (x * 2) := fun x => by rw [Nat.pow_succ, pow_dbl, Nat.mul_assoc, Nat.mul_comm 2 x]
      have := ih f (A * A / M / 2) (cdiv (cdiv (B * B) M) 2) (2 * S + 1) (N * N) (2 * w + 2) (by omega) (by rw [e3]; exact Nat.le_trans (Nat.mul_le_mul_left _ c1) k1) (by rw [e3]; exact Nat.le_trans k2 (Nat.mul_le_mul_left _ c2)) (by omega) (div_cdiv hAB) (cdiv_le (by omega)) (cdiv_le (by omega))
      rcases this with h | ⟨j, m, hj, hn⟩
      · exact Or.inl h
      · exact Or.inr (lift (by omega) hj hn)
theorem Near.up {M N : Nat} (hM : 0 < M) : ∀ (d j W m : Nat), 4 ^ d * W ≤ M → Near M W j N m → ∃ m', Near M (4 ^ d * W) (j + d) N m'
  | 0, j, W, m, _, h => ⟨m, by rw [Nat.pow_zero, Nat.one_mul]; exact h⟩
  | d + 1, j, W, m, hW, h => by
    have e : 4 ^ (d + 1) * W = 4 * (4 ^ d * W) := by rw [Nat.pow_succ, Nat.mul_comm (4 ^ d) 4, Nat.mul_assoc]
    rw [e] at hW
    obtain ⟨m', h'⟩ := Near.up hM d j W m (by omega) h
    exact ⟨2 * m', by rw [e]; exact (Near.sq hM (by omega) h').mono (by omega)⟩
def narrow (J n : Nat) : Prop := (lN n 2048).2 ≤ (lN n 2048).1 + 2 ^ (2048 - J)
theorem narrow_or {n J : Nat} (h1 : 1 ≤ n) (h2 : n < 4611686018427387904) (hJ : J ≤ 500) : narrow J n ∨ (isPow (n : Int) = false ∧ ∃ m, Near (2 ^ 4160) (2 ^ 2160) J n m) := by
  unfold narrow lN
  by_cases c : isPow (n : Int) = true
  · rw [if_pos c]
    left; exact Nat.le_add_right _ _
  · rw [if_neg c]
    have hk : lgK n < 62 := lgK_lt (by decide) h2
    obtain ⟨m1, m2, m3⟩ := mant (D := 2 * 2048 + 64) h1 (by omega)
    rw [show 2 * 2048 + 64 = 4160 from rfl] at *
    have hM := p2_pos 4160
    have := gl_near (2 ^ 4160) hM J 2048 _ _ (lgK n) n 0 (by omega) (Nat.le_of_eq m3) (Nat.le_of_eq m3.symm) m1 (Nat.le_refl _) (Nat.le_of_lt m2) (by omega)
    rcases this with h | ⟨j, m, hj, hn⟩
    · exact Or.inl h
    · right
      have e4 : ∀ a, (4 : Nat) ^ a = 2 ^ (2 * a) := fun a => by rw [show 4 = 2 ^ 2 from rfl, ← Nat.pow_mul]
      have hle : ∀ e, 1001 ≤ e → 4 ^ (J - j) * (4 ^ j * (0 + 2)) ≤ 2 ^ e := fun e he => by
        rw [← Nat.mul_assoc, ← Nat.pow_add, show J - j + j = J by omega, e4, show 0 + 2 = 2 ^ 1 from rfl, ← Nat.pow_add]
        exact Nat.pow_le_pow_right (by decide) (by omega)
      obtain ⟨m', h'⟩ := Near.up hM (J - j) j _ m (hle 4160 (by decide)) hn
      rw [show j + (J - j) = J by omega] at h'
      exact ⟨by simpa using c, m', h'.mono (hle 2160 (by decide))⟩
theorem pow_gap {a b Q : Nat} (h : a < b) (hQ : 0 < Q) : a ^ Q * b ≤ b ^ Q * (b - 1) := by
  obtain ⟨q, rfl⟩ : ∃ q, Q = q + 1 := ⟨Q - 1, by omega⟩
  have h1 : a ^ (q + 1) ≤ (b - 1) ^ (q + 1) := Nat.pow_le_pow_left (by omega) _
  have h2 : (b - 1) ^ q ≤ b ^ q := Nat.pow_le_pow_left (by omega) _
  have h3 : (b - 1) ^ (q + 1) * b ≤ b ^ (q + 1) * (b - 1) := by
    rw [Nat.pow_succ, Nat.pow_succ, Nat.mul_assoc, Nat.mul_assoc, Nat.mul_comm (b - 1) b]
    exact Nat.mul_le_mul_right _ h2
  exact Nat.le_trans (Nat.mul_le_mul_right _ h1) h3
theorem near_in {R x y J n m M W : Nat} (hx : x ^ (2 ^ J) ≤ 2 ^ m * R ^ (2 ^ J)) (hy : 2 ^ m * R ^ (2 ^ J) ≤ y ^ (2 ^ J)) (hR : 0 < R) (hx0 : W * x < M) (hn0 : W * (n * R) < M) (h : Near M W J n m) : x ≤ n * R ∧ n * R ≤ y := by
  obtain ⟨h1, h2⟩ := h
  have hQ := p2_pos J
  generalize 2 ^ J = Q at *
  have hRQ : 0 < R ^ Q := Nat.pow_pos hR
  have hP : 0 < 2 ^ m := p2_pos m
  generalize 2 ^ m = P at *
  constructor
  · refine Nat.le_of_not_lt fun hh => ?_
    have g := pow_gap hh hQ
    rw [Nat.mul_pow] at g
    have g2 := Nat.mul_le_mul_right (x - 1) hx
    have g3 : n ^ Q * x ≤ P * (x - 1) := by
      refine Nat.le_of_mul_le_mul_right (c := R ^ Q) ?_ hRQ
      have e1 : n ^ Q * x * R ^ Q = n ^ Q * R ^ Q * x := Nat.mul_right_comm ..
      have e2 : P * (x - 1) * R ^ Q = P * R ^ Q * (x - 1) := Nat.mul_right_comm ..
      omega
    have g4 := Nat.mul_le_mul_right x h1
    have g5 := Nat.mul_le_mul_right M g3
    obtain ⟨z, rfl⟩ : ∃ z, x = z + 1 := ⟨x - 1, by omega⟩
    rw [Nat.add_sub_cancel] at g5
    have e1 : P * M * (z + 1) = P * z * M + P * M := by rw [Nat.mul_add, Nat.mul_one, Nat.mul_right_comm]
    have e2 : (n ^ Q * M + P * W) * (z + 1) = n ^ Q * (z + 1) * M + P * (W * (z + 1)) := by rw [Nat.add_mul, Nat.mul_right_comm, Nat.mul_assoc P]
    have e3 : P * M ≤ P * (W * (z + 1)) := by omega
    have := Nat.le_of_mul_le_mul_left e3 hP
    omega
  · refine Nat.le_of_not_lt fun hh => ?_
    have g := pow_gap hh hQ
    rw [Nat.mul_pow] at g
    obtain ⟨z, hz⟩ : ∃ z, n * R = z + 1 := ⟨n * R - 1, by omega⟩
    rw [hz, Nat.add_sub_cancel] at g
    rw [hz] at hn0
    have g2 := Nat.mul_le_mul_right (z + 1) hy
    have g3 : P * (z + 1) ≤ n ^ Q * z := by
      refine Nat.le_of_mul_le_mul_right (c := R ^ Q) ?_ hRQ
      have e1 : P * (z + 1) * R ^ Q = P * R ^ Q * (z + 1) := Nat.mul_right_comm ..
      have e2 : n ^ Q * z * R ^ Q = n ^ Q * R ^ Q * z := Nat.mul_right_comm ..
      omega
    have g4 := Nat.mul_le_mul_right z h2
    have g5 := Nat.mul_le_mul_right M g3
    have e1 : n ^ Q * M * z = n ^ Q * z * M := Nat.mul_right_comm ..
    have e2 : P * (z + 1) * M = P * M * z + P * M := by rw [Nat.mul_right_comm, Nat.mul_add, Nat.mul_one]
    have e3 : P * (M + W) * z = P * M * z + P * (W * z) := by rw [Nat.mul_add, Nat.add_mul, Nat.mul_assoc P W]
    have e4 : P * M ≤ P * (W * z) := by omega
    have := Nat.le_of_mul_le_mul_left e4 hP
    have e5 : W * (z + 1) = W * z + W := by rw [Nat.mul_add, Nat.mul_one]
    omega
def Rt (R J x y m : Nat) : Prop := x ^ (2 ^ J) ≤ 2 ^ m * R ^ (2 ^ J) ∧ 2 ^ m * R ^ (2 ^ J) ≤ y ^ (2 ^ J)
theorem Rt.next {R J x y m c d : Nat} (hR : 0 < R) (h : Rt R J x y m) (hc : Rt R J c d 1) : Rt R J (x * c / R) (y * d / R + 1) (m + 1) := by
  obtain ⟨h1, h2⟩ := h
  obtain ⟨c1, c2⟩ := hc
  rw [Nat.pow_one] at c1 c2
  unfold Rt
  generalize 2 ^ J = Q at *
  have hRQ : 0 < R ^ Q := Nat.pow_pos hR
  rw [Nat.pow_succ]
  generalize 2 ^ m = P at *
  constructor
  · refine Nat.le_of_mul_le_mul_right (c := R ^ Q) ?_ hRQ
    have k1 : (x * c / R * R) ^ Q ≤ (x * c) ^ Q := Nat.pow_le_pow_left (Nat.div_mul_le_self _ _) _
    rw [Nat.mul_pow, Nat.mul_pow] at k1
    have k2 := Nat.mul_le_mul h1 c1
    have e : P * R ^ Q * (2 * R ^ Q) = P * 2 * R ^ Q * R ^ Q := by simp only [Nat.mul_assoc, Nat.mul_left_comm]
    omega
  · refine Nat.le_of_mul_le_mul_right (c := R ^ Q) ?_ hRQ
    have k0 : y * d ≤ (y * d / R + 1) * R := by
      have := Nat.div_add_mod (y * d) R
      have h3 := Nat.mod_lt (y * d) hR
      rw [Nat.add_mul, Nat.one_mul, Nat.mul_comm (y * d / R)]; omega
    have k1 : (y * d) ^ Q ≤ ((y * d / R + 1) * R) ^ Q := Nat.pow_le_pow_left k0 _
    rw [Nat.mul_pow, Nat.mul_pow] at k1
    have k2 := Nat.mul_le_mul h2 c2
    have e : P * R ^ Q * (2 * R ^ Q) = P * 2 * R ^ Q * R ^ Q := by simp only [Nat.mul_assoc, Nat.mul_left_comm]
    omega
end Go.Proofs.Ytmgfmkbniaepcaa
set_option linter.all false
namespace Go.Proofs.Ytmgfmkbniaepcaa
open Go Go.Vx
theorem lt_split {a b c x : Nat} (h : c = a + b) (hx : x < 2 ^ b) : 2 ^ a * x < 2 ^ c := by rw [h, Nat.pow_add]; exact Nat.mul_lt_mul_of_pos_left hx (p2_pos a)
theorem pw_lt {a b : Nat} (h : a < b) : (2 : Nat) ^ a < 2 ^ b := (Nat.pow_lt_pow_iff_right (by decide)).2 h
theorem pw_le4 {a b : Nat} (h : 2 + a ≤ b) : 4 * (2 : Nat) ^ a ≤ 2 ^ b := by
  rw [show (4 : Nat) = 2 ^ 2 from rfl, ← Nat.pow_add]; exact Nat.pow_le_pow_right (by decide) h
def upR (R : Nat) : Nat → Nat → Nat
  | 0, u => u
  | i + 1, u => upR R i (u * u / R + 1)
def dnR (R : Nat) : Nat → Nat → Nat
  | 0, u => u
  | i + 1, u => dnR R i (u * u / R)
theorem pow_two_mul (a i : Nat) : a ^ (2 ^ (i + 1)) = (a * a) ^ (2 ^ i) := pow_sq a i
theorem upR_is {R : Nat} (hR : 0 < R) : ∀ (i u X Y : Nat), X * R ≤ u * Y → X ^ (2 ^ i) * R ≤ upR R i u * Y ^ (2 ^ i)
  | 0, u, X, Y, h => by simpa [upR] using h
  | i + 1, u, X, Y, h => by
    rw [upR, pow_two_mul, pow_two_mul]
    refine upR_is hR i _ _ _ ?_
    refine Nat.le_of_mul_le_mul_right (c := R) ?_ hR
    have k := Nat.mul_le_mul h h
    have k0 : u * u ≤ (u * u / R + 1) * R := by
      have := Nat.div_add_mod (u * u) R
      have h3 := Nat.mod_lt (u * u) hR
      rw [Nat.add_mul, Nat.one_mul, Nat.mul_comm (u * u / R)]; omega
    have k1 := Nat.mul_le_mul_right (Y * Y) k0
    have e1 : X * R * (X * R) = X * X * R * R := by simp only [Nat.mul_assoc, Nat.mul_left_comm]
    have e2 : u * Y * (u * Y) = u * u * (Y * Y) := by simp only [Nat.mul_assoc, Nat.mul_left_comm]
    have e3 : (u * u / R + 1) * (Y * Y) * R = (u * u / R + 1) * R * (Y * Y) := Nat.mul_right_comm ..
    omega
theorem dnR_is {R : Nat} (hR : 0 < R) : ∀ (i u X Y : Nat), u * Y ≤ X * R → dnR R i u * Y ^ (2 ^ i) ≤ X ^ (2 ^ i) * R
  | 0, u, X, Y, h => by simpa [dnR] using h
  | i + 1, u, X, Y, h => by
    rw [dnR, pow_two_mul, pow_two_mul]
    refine dnR_is hR i _ _ _ ?_
    refine Nat.le_of_mul_le_mul_right (c := R) ?_ hR
    have k := Nat.mul_le_mul h h
    have k1 := Nat.mul_le_mul_right (Y * Y) (Nat.div_mul_le_self (u * u) R)
    have e1 : X * R * (X * R) = X * X * R * R := by simp only [Nat.mul_assoc, Nat.mul_left_comm]
    have e2 : u * Y * (u * Y) = u * u * (Y * Y) := by simp only [Nat.mul_assoc, Nat.mul_left_comm]
    have e3 : u * u / R * (Y * Y) * R = u * u / R * R * (Y * Y) := Nat.mul_right_comm ..
    omega
theorem Rt_one {R J c d : Nat} (hR : 0 < R) (h1 : upR R J c ≤ 2 * R) (h2 : 2 * R ≤ dnR R J d) : Rt R J c d 1 := by
  have a := upR_is hR J c c R (Nat.le_refl _)
  have b := dnR_is hR J d d R (Nat.le_refl _)
  rw [Rt, Nat.pow_one]
  generalize 2 ^ J = Q at *
  have k1 := Nat.mul_le_mul_right (R ^ Q) h1
  have k2 := Nat.mul_le_mul_right (R ^ Q) h2
  have e : 2 * R * R ^ Q = 2 * R ^ Q * R := Nat.mul_right_comm ..
  constructor
  · refine Nat.le_of_mul_le_mul_right (c := R) ?_ hR; omega
  · refine Nat.le_of_mul_le_mul_right (c := R) ?_ hR; omega
theorem Rt_two (R J q : Nat) : Rt R J (2 ^ q * R) (2 ^ q * R) (q * 2 ^ J) := by
  rw [Rt, Nat.mul_pow, ← Nat.pow_mul]
  exact ⟨Nat.le_refl _, Nat.le_refl _⟩
theorem Rt.up {R J x y m : Nat} (d : Nat) (h : Rt R J x y m) : Rt R (J + d) x y (m * 2 ^ d) := by
  obtain ⟨h1, h2⟩ := h
  unfold Rt
  have k1 := Nat.pow_le_pow_left h1 (2 ^ d)
  have k2 := Nat.pow_le_pow_left h2 (2 ^ d)
  rw [Nat.mul_pow, ← Nat.pow_mul, ← Nat.pow_mul, ← Nat.pow_mul, ← Nat.pow_add] at k1 k2
  exact ⟨k1, k2⟩
theorem Rt.le {R J x y m B : Nat} (h : Rt R J x y m) (hm : m ≤ B * 2 ^ J) : x ≤ 2 ^ B * R := by
  have hQ := p2_pos J
  rw [← Nat.pow_le_pow_iff_left (show 2 ^ J ≠ 0 by omega), Nat.mul_pow, ← Nat.pow_mul]
  exact Nat.le_trans h.1 (Nat.mul_le_mul_right _ (Nat.pow_le_pow_right (by decide) hm))
def enumR (c d R : Nat) (k : Nat) : Nat → Nat → Nat → Nat → Bool :=
  Nat.rec (fun x y ex ey => Nat.beq x ex && Nat.beq y ey) (fun _ ih x y ex ey => bif Nat.beq (Nat.div (Nat.sub x 1) R) (Nat.div y R) then ih (Nat.div (Nat.mul x c) R) (Nat.succ (Nat.div (Nat.mul y d) R)) ex ey else false) k
def sq (n : Nat) (f : Nat → Bool) : Bool := Nat.rec (f 0) (fun k _ => f (Nat.succ k)) n
def enumI (c d R : Nat) (k : Nat) : Nat → Nat → (Nat → Nat → Bool) → Bool :=
  Nat.rec (fun x y K => sq x fun x' => sq y fun y' => K x' y') (fun _ ih x y K => bif Nat.beq (Nat.div (Nat.sub x 1) R) (Nat.div y R) then ih (Nat.div (Nat.mul x c) R) (Nat.succ (Nat.div (Nat.mul y d) R)) K else false) k
def enumS (c d R r a : Nat) : Nat → Nat → Nat → Nat → Bool :=
  Nat.rec (fun x y ex ey => enumR c d R r x y ex ey) (fun _ ih x y ex ey => enumI c d R 64 x y fun x' y' => ih x' y' ex ey) a
theorem sq_is (n : Nat) (f : Nat → Bool) : sq n f = f n := by cases n <;> rfl
theorem enumI_is {c d R m ex ey : Nat} {K : Nat → Nat → Bool} (H : ∀ x y, K x y = true → enumR c d R m x y ex ey = true) : ∀ (k x y : Nat), enumI c d R k x y K = true → enumR c d R (k + m) x y ex ey = true := by
  intro k
  induction k with
  | zero =>
    intro x y h
    have h : (sq x fun x' => sq y fun y' => K x' y') = true := h
    rw [sq_is, sq_is] at h
    rw [Nat.zero_add]
    exact H x y h
  | succ k ih =>
    intro x y h
    have h : (bif Nat.beq ((x - 1) / R) (y / R) then enumI c d R k (x * c / R) (y * d / R + 1) K else false) = true := h
    rw [Nat.succ_add]
    show (bif Nat.beq ((x - 1) / R) (y / R) then enumR c d R (k + m) (x * c / R) (y * d / R + 1) ex ey else false) = true
    cases hb : Nat.beq ((x - 1) / R) (y / R) with
    | false => rw [hb] at h; cases h
    | true => rw [hb] at h; exact ih _ _ h
theorem enumS_is {c d R r ex ey : Nat} : ∀ (a x y : Nat), enumS c d R r a x y ex ey = true → enumR c d R (64 * a + r) x y ex ey = true := by
  intro a
  induction a with
  | zero => intro x y h; rw [Nat.mul_zero, Nat.zero_add]; exact h
  | succ a ih =>
    intro x y h
    rw [show 64 * (a + 1) + r = 64 + (64 * a + r) by omega]
    exact enumI_is (fun x' y' h' => ih x' y' h') 64 x y h
theorem enumS_k {c d R r a k x y ex ey : Nat} (hk : 64 * a + r = k) (h : enumS c d R r a x y ex ey = true) : enumR c d R k x y ex ey = true := by
  rw [← hk]; exact enumS_is a x y h
theorem enumR_is {c d R J ex ey B : Nat} (hR : 0 < R) (hc : Rt R J c d 1) (hB : 2 ^ B * R < 2 ^ 2000) : ∀ (k x y m : Nat), enumR c d R k x y ex ey = true → Rt R J x y m → m + k ≤ B * 2 ^ J →
    (∀ i n, m ≤ i → i < m + k → n * R < 2 ^ 2000 → 1 ≤ n → ¬ Near (2 ^ 4160) (2 ^ 2160) J n i) ∧ Rt R J ex ey (m + k) := by
  intro k
  induction k with
  | zero =>
    intro x y m h hr _
    rw [show enumR c d R 0 x y ex ey = (Nat.beq x ex && Nat.beq y ey) from rfl, Bool.and_eq_true, Nat.beq_eq, Nat.beq_eq] at h
    rw [← h.1, ← h.2]
    exact ⟨fun i n h1 h2 => by omega, hr⟩
  | succ k ih =>
    intro x y m h hr hm
    have h : (bif Nat.beq ((x - 1) / R) (y / R) then enumR c d R k (x * c / R) (y * d / R + 1) ex ey else false) = true := h
    cases hb : Nat.beq ((x - 1) / R) (y / R) with
    | false => rw [hb] at h; cases h
    | true =>
      rw [hb] at h
      obtain ⟨i1, i2⟩ := ih _ _ (m + 1) h (hr.next hR hc) (by omega)
      refine ⟨fun i n h1 h2 hn hn1 => ?_, by rw [show m + (k + 1) = m + 1 + k by omega]; exact i2⟩
      rcases Nat.lt_or_eq_of_le h1 with hlt | heq
      · exact i1 i n hlt (by omega) hn hn1
      · subst heq
        intro hnear
        have hx := hr.le (B := B) (by omega)
        obtain ⟨k1, k2⟩ := near_in hr.1 hr.2 hR (lt_split (b := 2000) (by decide) (Nat.lt_of_le_of_lt hx hB)) (lt_split (b := 2000) (by decide) hn) hnear
        have hb := Nat.eq_of_beq_eq_true hb
        have g1 : n ≤ y / R := (Nat.le_div_iff_mul_le hR).2 k2
        have g2 : (x - 1) / R < n := by
          rw [Nat.div_lt_iff_lt_mul hR]
          have : 1 * 1 ≤ n * R := Nat.mul_le_mul hn1 hR
          omega
        omega
theorem near_lo {J n m m0 : Nat} (h : Near (2 ^ 4160) (2 ^ 2160) J n m) (h0 : 2 ^ m0 ≤ n ^ (2 ^ J)) : m0 ≤ m := by
  obtain ⟨_, h2⟩ := h
  have hMW := pw_lt (show 2160 < 4160 by decide)
  generalize (2 : Nat) ^ 4160 = M at *
  generalize (2 : Nat) ^ 2160 = W at *
  have k1 := Nat.mul_le_mul_right M h0
  have k2 : 2 ^ m * (M + W) < 2 ^ m * (2 * M) := Nat.mul_lt_mul_of_pos_left (by omega) (p2_pos m)
  have k3 : 2 ^ m0 * M < 2 ^ (m + 1) * M := by rw [Nat.pow_succ, Nat.mul_assoc]; omega
  have := (Nat.pow_lt_pow_iff_right (by decide)).1 (Nat.lt_of_mul_lt_mul_right k3)
  omega
theorem near_hi {J n m m1 : Nat} (h : Near (2 ^ 4160) (2 ^ 2160) J n m) (h1 : n ^ (2 ^ J) ≤ 2 ^ m1) : m ≤ m1 := by
  obtain ⟨h2, _⟩ := h
  have hMW := pw_le4 (show 2 + 2160 ≤ 4160 by decide)
  have hM := p2_pos 2160
  generalize (2 : Nat) ^ 4160 = M at *
  generalize (2 : Nat) ^ 2160 = W at *
  have k1 := Nat.mul_le_mul_right M h1
  have k2 := Nat.mul_le_mul_left (2 ^ m) hMW
  have e : 2 ^ m * (4 * W) = 4 * (2 ^ m * W) := Nat.mul_left_comm ..
  have k3 : 3 * (2 ^ m * M) ≤ 4 * (2 ^ m1 * M) := by omega
  refine Nat.le_of_not_lt fun hh => ?_
  have k4 : 2 ^ m1 * 2 ≤ 2 ^ m := by rw [← Nat.pow_succ]; exact Nat.pow_le_pow_right (by decide) hh
  have k5 := Nat.mul_le_mul_right M k4
  have k6 : 0 < 2 ^ m1 * M := Nat.mul_pos (p2_pos m1) (by omega)
  have e2 : 2 ^ m1 * 2 * M = 2 * (2 ^ m1 * M) := by rw [Nat.mul_right_comm, Nat.mul_comm]
  omega
theorem near_two {J n q : Nat} (h : Near (2 ^ 4160) (2 ^ 2160) J n (q * 2 ^ J)) (hn : n < 2 ^ 2000) (hq : q < 2000) : n = 2 ^ q := by
  have hr := Rt_two 1 J q
  have hq2 := pw_lt hq
  obtain ⟨k1, k2⟩ := near_in hr.1 hr.2 (by decide) (lt_split (b := 2000) (by decide) (by rw [Nat.mul_one]; exact hq2)) (lt_split (b := 2000) (by decide) (by rw [Nat.mul_one]; exact hn)) h
  omega
theorem gl_w0 (M : Nat) (t : Bool) (f A B S : Nat) : (gl M t f A B S).2 ≤ (gl M t f A B S).1 + 2 ^ (f - 0) := by
  obtain ⟨g1, g2⟩ := gl_any M t f A B S
  rw [Nat.add_mul, Nat.one_mul] at g2
  rw [Nat.sub_zero]
  omega
theorem narrow0_p (p n : Nat) : (lN n p).2 ≤ (lN n p).1 + 2 ^ (p - 0) := by
  unfold lN
  split
  · exact Nat.le_add_right _ _
  · exact gl_w0 _ _ _ _ _ _
theorem narrow_0 (n : Nat) : narrow 0 n := narrow0_p 2048 n
theorem isPow_two : ∀ q, q < 62 → isPow ((2 ^ q : Nat) : Int) = true := by decide
theorem mul_lt_pw {a b c x R : Nat} (hx : x ≤ 2 ^ a) (hR : R ≤ 2 ^ b) (h : a + b < c) : x * R < 2 ^ c := by
  have e := Nat.mul_le_mul hx hR
  rw [← Nat.pow_add] at e
  exact Nat.lt_of_le_of_lt e (pw_lt h)
theorem twos_narrow {J c d R k : Nat} (hR : 0 < R) (hJ : J ≤ 60) (hc : Rt R J c d 1) (hk : k ≤ 60 ∧ R ≤ 2 ^ 128) (h : ∀ q, q < k → ∃ ex ey, enumR c d R (2 ^ J - 1) (2 ^ q * c) (2 ^ q * d + 1) ex ey = true) {n : Nat} (h1 : 1 ≤ n) (h2 : n < 2 ^ k) : narrow J n := by
  have hk60 : (2 : Nat) ^ k ≤ 2 ^ 60 := Nat.pow_le_pow_right (by decide) hk.1
  rcases narrow_or h1 (Nat.lt_of_lt_of_le h2 (Nat.le_trans hk60 (by decide))) (show J ≤ 500 by omega) with hn | ⟨hp, m, hm⟩
  · exact hn
  · exfalso
    have hQ := p2_pos J
    have hhi : m ≤ k * 2 ^ J := near_hi hm (by rw [Nat.pow_mul]; exact Nat.pow_le_pow_left (Nat.le_of_lt h2) _)
    have em := Nat.div_add_mod m (2 ^ J)
    have er := Nat.mod_lt m hQ
    have h2000 : ∀ {x}, x < 2 ^ 60 → x * R < 2 ^ 2000 := fun {x} hx => mul_lt_pw (c := 2000) (Nat.le_of_lt hx) hk.2 (by decide)
    rw [Nat.mul_comm] at em
    rcases Nat.eq_zero_or_pos (m % 2 ^ J) with h0 | h0
    · rw [h0, Nat.add_zero] at em
      rw [← em] at hm
      have hq : m / 2 ^ J ≤ k := Nat.div_le_of_le_mul (by rw [Nat.mul_comm]; exact hhi)
      have e := near_two hm (Nat.lt_trans (Nat.lt_of_lt_of_le h2 hk60) (pw_lt (b := 2000) (by decide))) (by omega)
      rw [e, isPow_two _ (by omega)] at hp
      cases hp
    · have hq : m / 2 ^ J < k := by
        rw [Nat.div_lt_iff_lt_mul hQ]
        rcases Nat.lt_or_eq_of_le hhi with h | h
        · exact h
        · rw [h, Nat.mul_mod_left] at h0; omega
      obtain ⟨ex, ey, he⟩ := h _ hq
      have r1 := (Rt_two R J (m / 2 ^ J)).next hR hc
      have e1 : 2 ^ (m / 2 ^ J) * R * c / R = 2 ^ (m / 2 ^ J) * c := by rw [Nat.mul_right_comm, Nat.mul_div_cancel _ hR]
      have e2 : 2 ^ (m / 2 ^ J) * R * d / R = 2 ^ (m / 2 ^ J) * d := by rw [Nat.mul_right_comm, Nat.mul_div_cancel _ hR]
      rw [e1, e2] at r1
      have hb : (m / 2 ^ J) * 2 ^ J + 1 + (2 ^ J - 1) ≤ 100 * 2 ^ J := by
        have := Nat.mul_le_mul_right (2 ^ J) (show m / 2 ^ J + 1 ≤ 100 by omega)
        rw [Nat.add_mul] at this; omega
      have hB := mul_lt_pw (a := 100) (c := 2000) (Nat.le_refl _) hk.2 (by decide)
      obtain ⟨k1, _⟩ := enumR_is hR hc hB _ _ _ _ he r1 hb
      have h9 := h2000 (Nat.lt_of_lt_of_le h2 hk60)
      exact k1 m n (by omega) (by omega) h9 h1 hm
end Go.Proofs.Ytmgfmkbniaepcaa
set_option linter.all false
namespace Go.Proofs.Ytmgfmkbniaepcaa
open Go Go.Vx
theorem rt14 : Rt 340282366920938463463374607431768211456 14 340296763329178528376528243588334151603 340296763329178528376528243588334151605 1 := Rt_one (by decide) (by decide +kernel) (by decide +kernel)
theorem tw14_0 : enumR 340296763329178528376528243588334151603 340296763329178528376528243588334151605 340282366920938463463374607431768211456 16383 (2 ^ 0 * 340296763329178528376528243588334151603) (2 ^ 0 * 340296763329178528376528243588334151605 + 1) 680564733841876926926749214863536383930 680564733841876926926749214863536473018 = true := enumS_k (r := 63) (a := 255) (by decide) (by decide +kernel)
theorem tw14_1 : enumR 340296763329178528376528243588334151603 340296763329178528376528243588334151605 340282366920938463463374607431768211456 16383 (2 ^ 1 * 340296763329178528376528243588334151603) (2 ^ 1 * 340296763329178528376528243588334151605 + 1) 1361129467683753853853498429727072779470 1361129467683753853853498429727072934214 = true := enumS_k (r := 63) (a := 255) (by decide) (by decide +kernel)
theorem tw14_2 : enumR 340296763329178528376528243588334151603 340296763329178528376528243588334151605 340282366920938463463374607431768211456 16383 (2 ^ 2 * 340296763329178528376528243588334151603) (2 ^ 2 * 340296763329178528376528243588334151605 + 1) 2722258935367507707706996859454145570688 2722258935367507707706996859454145856493 = true := enumS_k (r := 63) (a := 255) (by decide) (by decide +kernel)
theorem tw14_3 : enumR 340296763329178528376528243588334151603 340296763329178528376528243588334151605 340282366920938463463374607431768211456 16383 (2 ^ 3 * 340296763329178528376528243588334151603) (2 ^ 3 * 340296763329178528376528243588334151605 + 1) 5444517870735015415413993718908291153332 5444517870735015415413993718908291701358 = true := enumS_k (r := 63) (a := 255) (by decide) (by decide +kernel)
theorem tw14_4 : enumR 340296763329178528376528243588334151603 340296763329178528376528243588334151605 340282366920938463463374607431768211456 16383 (2 ^ 4 * 340296763329178528376528243588334151603) (2 ^ 4 * 340296763329178528376528243588334151605 + 1) 10889035741470030830827987437816582318494 10889035741470030830827987437816583390841 = true := enumS_k (r := 63) (a := 255) (by decide) (by decide +kernel)
theorem tw14_5 : enumR 340296763329178528376528243588334151603 340296763329178528376528243588334151605 340282366920938463463374607431768211456 16383 (2 ^ 5 * 340296763329178528376528243588334151603) (2 ^ 5 * 340296763329178528376528243588334151605 + 1) 21778071482940061661655974875633164648918 21778071482940061661655974875633166769565 = true := enumS_k (r := 63) (a := 255) (by decide) (by decide +kernel)
theorem tw14_6 : enumR 340296763329178528376528243588334151603 340296763329178528376528243588334151605 340282366920938463463374607431768211456 16383 (2 ^ 6 * 340296763329178528376528243588334151603) (2 ^ 6 * 340296763329178528376528243588334151605 + 1) 43556142965880123323311949751266329309513 43556142965880123323311949751266333527287 = true := enumS_k (r := 63) (a := 255) (by decide) (by decide +kernel)
theorem tw14_7 : enumR 340296763329178528376528243588334151603 340296763329178528376528243588334151605 340282366920938463463374607431768211456 16383 (2 ^ 7 * 340296763329178528376528243588334151603) (2 ^ 7 * 340296763329178528376528243588334151605 + 1) 87112285931760246646623899502532658630883 87112285931760246646623899502532667042735 = true := enumS_k (r := 63) (a := 255) (by decide) (by decide +kernel)
theorem tw14_8 : enumR 340296763329178528376528243588334151603 340296763329178528376528243588334151605 340282366920938463463374607431768211456 16383 (2 ^ 8 * 340296763329178528376528243588334151603) (2 ^ 8 * 340296763329178528376528243588334151605 + 1) 174224571863520493293247799005065317273602 174224571863520493293247799005065334073814 = true := enumS_k (r := 63) (a := 255) (by decide) (by decide +kernel)
theorem tw14_9 : enumR 340296763329178528376528243588334151603 340296763329178528376528243588334151605 340282366920938463463374607431768211456 16383 (2 ^ 9 * 340296763329178528376528243588334151603) (2 ^ 9 * 340296763329178528376528243588334151605 + 1) 348449143727040986586495598010130634559014 348449143727040986586495598010130668135742 = true := enumS_k (r := 63) (a := 255) (by decide) (by decide +kernel)
theorem tw14_10 : enumR 340296763329178528376528243588334151603 340296763329178528376528243588334151605 340282366920938463463374607431768211456 16383 (2 ^ 10 * 340296763329178528376528243588334151603) (2 ^ 10 * 340296763329178528376528243588334151605 + 1) 696898287454081973172991196020261269129945 696898287454081973172991196020261336259626 = true := enumS_k (r := 63) (a := 255) (by decide) (by decide +kernel)
theorem tw14_11 : enumR 340296763329178528376528243588334151603 340296763329178528376528243588334151605 340282366920938463463374607431768211456 16383 (2 ^ 11 * 340296763329178528376528243588334151603) (2 ^ 11 * 340296763329178528376528243588334151605 + 1) 1393796574908163946345982392040522538271655 1393796574908163946345982392040522672507185 = true := enumS_k (r := 63) (a := 255) (by decide) (by decide +kernel)
theorem tw14_12 : enumR 340296763329178528376528243588334151603 340296763329178528376528243588334151605 340282366920938463463374607431768211456 16383 (2 ^ 12 * 340296763329178528376528243588334151603) (2 ^ 12 * 340296763329178528376528243588334151605 + 1) 2787593149816327892691964784081045076555091 2787593149816327892691964784081045345002772 = true := enumS_k (r := 63) (a := 255) (by decide) (by decide +kernel)
theorem tw14_13 : enumR 340296763329178528376528243588334151603 340296763329178528376528243588334151605 340282366920938463463374607431768211456 16383 (2 ^ 13 * 340296763329178528376528243588334151603) (2 ^ 13 * 340296763329178528376528243588334151605 + 1) 5575186299632655785383929568162090153122116 5575186299632655785383929568162090689993949 = true := enumS_k (r := 63) (a := 255) (by decide) (by decide +kernel)
theorem tw14_14 : enumR 340296763329178528376528243588334151603 340296763329178528376528243588334151605 340282366920938463463374607431768211456 16383 (2 ^ 14 * 340296763329178528376528243588334151603) (2 ^ 14 * 340296763329178528376528243588334151605 + 1) 11150372599265311570767859136324180306256043 11150372599265311570767859136324181379976026 = true := enumS_k (r := 63) (a := 255) (by decide) (by decide +kernel)
theorem tw14_15 : enumR 340296763329178528376528243588334151603 340296763329178528376528243588334151605 340282366920938463463374607431768211456 16383 (2 ^ 15 * 340296763329178528376528243588334151603) (2 ^ 15 * 340296763329178528376528243588334151605 + 1) 22300745198530623141535718272648360612523815 22300745198530623141535718272648362759940189 = true := enumS_k (r := 63) (a := 255) (by decide) (by decide +kernel)
theorem tw14_16 : enumR 340296763329178528376528243588334151603 340296763329178528376528243588334151605 340282366920938463463374607431768211456 16383 (2 ^ 16 * 340296763329178528376528243588334151603) (2 ^ 16 * 340296763329178528376528243588334151605 + 1) 44601490397061246283071436545296721225059428 44601490397061246283071436545296725519868697 = true := enumS_k (r := 63) (a := 255) (by decide) (by decide +kernel)
theorem tw14_17 : enumR 340296763329178528376528243588334151603 340296763329178528376528243588334151605 340282366920938463463374607431768211456 16383 (2 ^ 17 * 340296763329178528376528243588334151603) (2 ^ 17 * 340296763329178528376528243588334151605 + 1) 89202980794122492566142873090593442450130867 89202980794122492566142873090593451039725617 = true := enumS_k (r := 63) (a := 255) (by decide) (by decide +kernel)
theorem tw14_18 : enumR 340296763329178528376528243588334151603 340296763329178528376528243588334151605 340282366920938463463374607431768211456 16383 (2 ^ 18 * 340296763329178528376528243588334151603) (2 ^ 18 * 340296763329178528376528243588334151605 + 1) 178405961588244985132285746181186884900273332 178405961588244985132285746181186902079439278 = true := enumS_k (r := 63) (a := 255) (by decide) (by decide +kernel)
theorem tw14_19 : enumR 340296763329178528376528243588334151603 340296763329178528376528243588334151605 340282366920938463463374607431768211456 16383 (2 ^ 19 * 340296763329178528376528243588334151603) (2 ^ 19 * 340296763329178528376528243588334151605 + 1) 356811923176489970264571492362373769800558512 356811923176489970264571492362373804158866826 = true := enumS_k (r := 63) (a := 255) (by decide) (by decide +kernel)
theorem tw14_20 : enumR 340296763329178528376528243588334151603 340296763329178528376528243588334151605 340282366920938463463374607431768211456 16383 (2 ^ 20 * 340296763329178528376528243588334151603) (2 ^ 20 * 340296763329178528376528243588334151605 + 1) 713623846352979940529142984724747539601128695 713623846352979940529142984724747608317721914 = true := enumS_k (r := 63) (a := 255) (by decide) (by decide +kernel)
theorem tw14 : ∀ q, q < 21 → ∃ ex ey, enumR 340296763329178528376528243588334151603 340296763329178528376528243588334151605 340282366920938463463374607431768211456 16383 (2 ^ q * 340296763329178528376528243588334151603) (2 ^ q * 340296763329178528376528243588334151605 + 1) ex ey = true := fun q hq => match q, hq with
  | 0, _ => ⟨_, _, tw14_0⟩
  | 1, _ => ⟨_, _, tw14_1⟩
  | 2, _ => ⟨_, _, tw14_2⟩
  | 3, _ => ⟨_, _, tw14_3⟩
  | 4, _ => ⟨_, _, tw14_4⟩
  | 5, _ => ⟨_, _, tw14_5⟩
  | 6, _ => ⟨_, _, tw14_6⟩
  | 7, _ => ⟨_, _, tw14_7⟩
  | 8, _ => ⟨_, _, tw14_8⟩
  | 9, _ => ⟨_, _, tw14_9⟩
  | 10, _ => ⟨_, _, tw14_10⟩
  | 11, _ => ⟨_, _, tw14_11⟩
  | 12, _ => ⟨_, _, tw14_12⟩
  | 13, _ => ⟨_, _, tw14_13⟩
  | 14, _ => ⟨_, _, tw14_14⟩
  | 15, _ => ⟨_, _, tw14_15⟩
  | 16, _ => ⟨_, _, tw14_16⟩
  | 17, _ => ⟨_, _, tw14_17⟩
  | 18, _ => ⟨_, _, tw14_18⟩
  | 19, _ => ⟨_, _, tw14_19⟩
  | 20, _ => ⟨_, _, tw14_20⟩
  | q + 21, h => absurd h (by omega)
theorem narrow14 {n : Nat} (h1 : 1 ≤ n) (h2 : n < 2 ^ 21) : narrow 14 n := twos_narrow (by decide) (by decide) rt14 (by decide) tw14 h1 h2
end Go.Proofs.Ytmgfmkbniaepcaa
set_option linter.all false
namespace Go.Proofs.Ytmgfmkbniaepcaa
open Go Go.Vx
set_option maxRecDepth 100000
set_option maxHeartbeats 4000000
def v36 : VF := { ntmps := 54, res := [.tmp 6, .tmp 7, .tmp 8], body :=
 (.seq (.region [u1 5 .box [.tm 2],
 u1 6 .mov [.cn (.int .i64 0)],
 u1 7 .mov [.cn (.bool false)],
 u1 8 .mov [.cn (.int .i64 0)]])
 (.seq (.seq (.region [u1 13 .mov [.tm 1],
 u1 14 (.call 47) [.tm 13],
 u1 9 .mov [.tm 14]])
 (.seq (.region [u1 15 .mov [.tm 9],
 u1 16 (.cmp .neq) [.tm 15, .cn (.int .i64 0)]])
 (.cond (.tm 16) (.seq (.region [u1 17 .mov [.tm 9],
 u1 6 .mov [.cn (.int .i64 0)],
 u1 7 .mov [.cn (.bool false)],
 u1 8 .mov [.tm 17]])
 .ret)
  .skip)))
 (.seq (.seq (.region [u1 18 (.load false 1) [.tm 5],
 u1 19 (.cmp .lss) [.tm 18, .cn (.int .i64 1)],
 u1 20 .mov [.tm 19],
 u2 21 20 false (.load false 1) [.tm 5],
 u2 22 20 false (.cmp .gtr) [.tm 21, .cn (.int .i64 1000000)],
 u1 23 .or [.tm 20, .tm 22],
 u1 24 .mov [.tm 23],
 u2 25 24 false .mov [.tm 0],
 u2 26 24 false (.cmp .lss) [.tm 25, .cn (.int .i64 1)],
 u1 27 .or [.tm 24, .tm 26],
 u1 28 .mov [.tm 27],
 u2 29 28 false .mov [.tm 0],
 u2 30 28 false (.cmp .gtr) [.tm 29, .cn (.int .i64 1000000000000)],
 u1 31 .or [.tm 28, .tm 30]])
 (.cond (.tm 31) (.seq (.region [u1 6 .mov [.cn (.int .i64 0)],
 u1 7 .mov [.cn (.bool false)],
 u1 8 .mov [.cn (.int .i64 2)]])
 .ret)
  .skip))
 (.seq (.drawT [(10, .box [.nil])] (.ops [w1 32 .mov [.tm 1]] (.ops [w1 34 .mov [.tm 0]] (.ops [w1 35 (.load false 1) [.tm 5]] (.ops [w1 36 (.build [(.int .i64 0), (.int .i64 0)] [(0, 1), (1, 1)]) [.tm 34, .tm 35]] (.ops [] (.br (.ops [⟨u1 33 (.append 2 16 [(.int .i64 0), (.int .i64 0)]) [.cn .nil, .tm 32], [.tm 0, .tm 34, .tm 5, .tm 35, .tm 34, .tm 35, .tm 36]⟩] (.ops [w1 37 (.buildSlice 2 1 [(.int .i64 0), (.int .i64 0)] [(0, 2)]) [.tm 36]] (.ops [w1 38 (.append 2 16 [(.int .i64 0), (.int .i64 0)]) [.tm 33, .tm 37]] (.ops [w0 (.store 1) [.tm 10, .tm 38]] .leaf))))
 (.ops [w1 37 (.buildSlice 2 1 [(.int .i64 0), (.int .i64 0)] [(0, 2)]) [.tm 36]] (.ops [⟨u1 33 (.append 2 16 [(.int .i64 0), (.int .i64 0)]) [.cn .nil, .tm 32], [.tm 0, .tm 34, .tm 5, .tm 35, .tm 34, .tm 35, .tm 36]⟩] (.ops [w1 38 (.append 2 16 [(.int .i64 0), (.int .i64 0)]) [.tm 33, .tm 37]] (.ops [w0 (.store 1) [.tm 10, .tm 38]] .leaf)))))))))))
 (.seq (.region [u1 39 (.mkfn (.func 48) 0) [.tm 10, .tm 5],
 u1 11 (.alloc [(.val .nilFunc)]) [],
 u0 (.store 1) [.tm 11, .tm 39]])
 (.seq (.region [u1 40 (.mkfn (.func 49) 0) [.tm 11],
 u1 12 .mov [.tm 40]])
 (.seq (.seq (.region [u1 41 .mov [.tm 12],
 u1 42 .callv [.tm 41, .cn (.int .i64 1000000000001)]])
 (.cond (.tm 42) (.seq (.region [u1 6 .mov [.cn (.int .i64 0)],
 u1 7 .mov [.cn (.bool false)],
 u1 8 .mov [.cn (.int .i64 7)]])
 .ret)
  .skip))
 (.seq (.region [u1 43 .mov [.tm 12],
 u1 44 (.call 51) [.cn (.int .i64 0), .cn (.int .i64 1000000000001), .tm 43],
 u1 6 .mov [.tm 44]])
 (.seq (.region [u1 45 .mov [.tm 6],
 u1 46 .mov [.tm 6],
 u1 47 (.cmp .gtr) [.tm 46, .cn (.int .i64 0)],
 u1 48 .mov [.tm 47],
 u2 49 48 true (.load false 1) [.tm 11],
 u2 50 48 true .mov [.tm 6],
 u2 51 48 true .callv [.tm 49, .tm 50],
 u2 52 48 true (.call 52) [.tm 51],
 u1 53 .and [.tm 48, .tm 52],
 u1 6 .mov [.tm 45],
 u1 7 .mov [.tm 53],
 u1 8 .mov [.cn (.int .i64 0)]])
 .ret))))))))) }
theorem v36_is : vfunc Try.prog Try.f36 = some v36 := by kernel_rfl
def v48 : VF := { ntmps := 17, res := [.tmp 4], body :=
 (.seq (.region [u1 4 .mov [.cn .nil]])
 (.seq (.draw [] [w1 5 (.load false 1) [.tm 1],
 w1 6 (.load false 1) [.tm 1],
 w1 7 .len [.tm 6],
 w1 8 (.load false 1) [.tm 1],
 w1 9 .len [.tm 8],
 w1 10 (.slice3 2) [.tm 5, .tm 7, .tm 9],
 w1 11 .mov [.tm 0],
 w1 12 (.load false 1) [.tm 2],
 w1 13 .neg [.tm 12],
 w1 14 (.build [(.int .i64 0), (.int .i64 0)] [(0, 1), (1, 1)]) [.tm 11, .tm 13],
 w1 15 (.buildSlice 2 1 [(.int .i64 0), (.int .i64 0)] [(0, 2)]) [.tm 14],
 w1 16 (.append 2 16 [(.int .i64 0), (.int .i64 0)]) [.tm 10, .tm 15],
 w1 4 .mov [.tm 16]])
 .ret)) }
theorem v48_is : vfunc Try.prog Try.f48 = some v48 := by kernel_rfl
def v49 : VF := { ntmps := 13, res := [.tmp 3], body :=
 (.seq (.region [u1 3 .mov [.cn (.bool false)]])
 (.seq (.region [u1 4 .mov [.tm 0],
 u1 5 (.cmp .eql) [.tm 4, .cn (.int .i64 0)],
 u1 6 .mov [.tm 5],
 u2 7 6 false (.load false 1) [.tm 1],
 u2 8 6 false .mov [.tm 0],
 u2 9 6 false .callv [.tm 7, .tm 8],
 u2 10 6 false (.call 50) [.tm 9],
 u2 11 6 false (.cmp .geq) [.tm 10, .cn (.int .i64 0)],
 u1 12 .or [.tm 6, .tm 11],
 u1 3 .mov [.tm 12]])
 .ret)) }
theorem v49_is : vfunc Try.prog Try.f49 = some v49 := by kernel_rfl
def v51 : VF := { ntmps := 24, res := [.tmp 6], body :=
 (.seq (.region [u1 6 .mov [.cn (.int .i64 0)]])
 (.seq (.block 0 (.loop (.seq (.seq (.region [u1 8 .mov [.tm 1],
 u1 9 .mov [.tm 0],
 u1 10 (.ari .sub) [.tm 8, .tm 9],
 u1 11 (.cmp .gtr) [.tm 10, .cn (.int .i64 1)]])
 (.cond (.tm 11) .skip
  (.exit 0)))
 (.block 1 (.seq (.region [u1 12 .mov [.tm 0],
 u1 13 .mov [.tm 1],
 u1 14 .mov [.tm 0],
 u1 15 (.ari .sub) [.tm 13, .tm 14],
 u1 16 .quo [.tm 15, .cn (.int .i64 2)],
 u1 17 (.ari .add) [.tm 12, .tm 16],
 u1 7 .mov [.tm 17]])
 (.seq (.region [u1 18 .mov [.tm 2],
 u1 19 .mov [.tm 7],
 u1 20 .callv [.tm 18, .tm 19]])
 (.cond (.tm 20) (.region [u1 21 .mov [.tm 7],
 u1 0 .mov [.tm 21]])
  (.region [u1 22 .mov [.tm 7],
 u1 1 .mov [.tm 22]]))))))))
 (.seq (.region [u1 23 .mov [.tm 0],
 u1 6 .mov [.tm 23]])
 .ret))) }
theorem v51_is : vfunc Try.prog Try.f51 = some v51 := by kernel_rfl
def bisL : Nat → (Int → Bool) → Int → Int → Int
  | 0, _, a, _ => a
  | f + 1, t, a, b => if 1 < b - a then (if t (a + (b - a) / 2) = true then bisL f t (a + (b - a) / 2) b else bisL f t a (a + (b - a) / 2)) else a
def atF (all : List (Int × Int)) (den k : Int) : List (Int × Int) := all ++ [(k, -den)]
def isF (all : List (Int × Int)) (den k : Int) : Bool := decide (k = 0) || decide (0 ≤ signF (atF all den k))
def prodF (s : Int) (l : List (Int × Int)) (den : Int) : Int × Bool × Int :=
  if isF (l ++ [(s, den)]) den 1000000000001 = true then (0, false, 7)
  else (bisL 64 (isF (l ++ [(s, den)]) den) 0 1000000000001, decide (0 < bisL 64 (isF (l ++ [(s, den)]) den) 0 1000000000001) && oneF (atF (l ++ [(s, den)]) den (bisL 64 (isF (l ++ [(s, den)]) den) 0 1000000000001)), 0)
def prodC : Ctr := { alias := false, of := fun l => match l with
  | [.int .i64 s, .vs _ _ n sz get, .int .i64 den] => .ex (List (Int × Int)) fun l => .pre (lsP 2 enc2 n sz get l ∧ (∀ x, x ∈ l → okT0 x = false) ∧ n ≤ 16 ∧ 1 ≤ n ∧ (1 ≤ s ∧ s ≤ 1000000000000) ∧ 1 ≤ den ∧ den ≤ 1000000) (.fin (.tup [.int .i64 (prodF s l den).1, .bool (prodF s l den).2.1, .int .i64 (prodF s l den).2.2]) [])
  | _ => noC }
theorem at_get {l : List (Int × Int)} {s den kk : Int} {hp : List HO} {r : List SV → List SV} {i k : Nat} (hk : k < l.length + 1 + 1) :
    leXL (viewL false hp r (if k < l.length + 1 then if k < l.length then [SV.int IntKind.i64 (l.getD k default).fst, SV.int IntKind.i64 (l.getD k default).snd] else purgeL i (takeL 2 (dropL ((k - l.length) * 2) [SV.int IntKind.i64 s, SV.int IntKind.i64 den])) else takeL 2 (dropL ((k - (l.length + 1)) * 2) [SV.int IntKind.i64 kk, SV.int IntKind.i64 (-den)]))) (enc2 ((atF (l ++ [(s, den)]) den kk).getD k default)) := by
  unfold atF
  rw [List.append_assoc]
  by_cases h1 : k < l.length
  · rw [if_pos (by omega), if_pos h1, List.getD_eq_getElem?_getD (l := _ ++ _), List.getElem?_append_left h1, ← List.getD_eq_getElem?_getD]
    exact leXL_self _
  · rw [List.getD_eq_getElem?_getD (l := _ ++ _), List.getElem?_append_right (by omega), if_neg h1]
    by_cases h2 : k < l.length + 1
    · rw [if_pos h2, show k - l.length = 0 by omega]
      exact leXL_self _
    · rw [if_neg h2, show k - (l.length + 1) = 0 by omega, show k - l.length = 1 by omega]
      exact leXL_self _
theorem self1 {l : List (Int × Int)} {s den : Int} {i k a b : Nat} (hk : k < l.length + 1) : leL a b (if k < l.length then [SV.int IntKind.i64 (l.getD k default).fst, SV.int IntKind.i64 (l.getD k default).snd] else purgeL i (takeL 2 (dropL ((k - l.length) * 2) [SV.int IntKind.i64 s, SV.int IntKind.i64 den]))) (if k < l.length then [SV.int IntKind.i64 (l.getD k default).fst, SV.int IntKind.i64 (l.getD k default).snd] else purgeL i (takeL 2 (dropL ((k - l.length) * 2) [SV.int IntKind.i64 s, SV.int IntKind.i64 den]))) := by
  by_cases h1 : k < l.length
  · rw [if_pos h1]; exact ⟨⟨rfl, rfl⟩, ⟨rfl, rfl⟩, trivial⟩
  · rw [if_neg h1, show k - l.length = 0 by omega]; exact ⟨⟨rfl, rfl⟩, ⟨rfl, rfl⟩, trivial⟩
theorem self2 {s den : Int} {i k a b : Nat} (hk : k < 1) : leL a b (purgeL i (takeL 2 (dropL (k * 2) [SV.int IntKind.i64 s, SV.int IntKind.i64 den]))) (purgeL i (takeL 2 (dropL (k * 2) [SV.int IntKind.i64 s, SV.int IntKind.i64 den]))) := by
  obtain rfl : k = 0 := by omega
  exact ⟨⟨rfl, rfl⟩, ⟨rfl, rfl⟩, trivial⟩
theorem self3 {l : List (Int × Int)} {s den kk dd : Int} {i k a b : Nat} (hk : k < l.length + 1 + 1) : leL a b (if k < l.length + 1 then if k < l.length then [SV.int IntKind.i64 (l.getD k default).fst, SV.int IntKind.i64 (l.getD k default).snd] else purgeL i (takeL 2 (dropL ((k - l.length) * 2) [SV.int IntKind.i64 s, SV.int IntKind.i64 den])) else takeL 2 (dropL ((k - (l.length + 1)) * 2) [SV.int IntKind.i64 kk, SV.int IntKind.i64 dd])) (if k < l.length + 1 then if k < l.length then [SV.int IntKind.i64 (l.getD k default).fst, SV.int IntKind.i64 (l.getD k default).snd] else purgeL i (takeL 2 (dropL ((k - l.length) * 2) [SV.int IntKind.i64 s, SV.int IntKind.i64 den])) else takeL 2 (dropL ((k - (l.length + 1)) * 2) [SV.int IntKind.i64 kk, SV.int IntKind.i64 dd])) := by
  by_cases h1 : k < l.length + 1
  · rw [if_pos h1]; exact self1 h1
  · rw [if_neg h1, show k - (l.length + 1) = 0 by omega]; exact ⟨⟨rfl, rfl⟩, ⟨rfl, rfl⟩, trivial⟩
theorem at_ls {l : List (Int × Int)} {s den kk : Int} {hp : List HO} {r : List SV → List SV} {i : Nat} :
    lsP 2 enc2 (l.length + 1 + 1) 2 (fun k => viewL false hp r (if k < l.length + 1 then if k < l.length then [SV.int IntKind.i64 (l.getD k default).fst, SV.int IntKind.i64 (l.getD k default).snd] else purgeL i (takeL 2 (dropL ((k - l.length) * 2) [SV.int IntKind.i64 s, SV.int IntKind.i64 den])) else takeL 2 (dropL ((k - (l.length + 1)) * 2) [SV.int IntKind.i64 kk, SV.int IntKind.i64 (-den)]))) (atF (l ++ [(s, den)]) den kk) :=
  ⟨rfl, by simp [atF], fun k hk => at_get hk⟩
theorem at_ok {l : List (Int × Int)} {s den kk : Int} (hl : ∀ x, x ∈ l → okT0 x = false) (hs : 1 ≤ s ∧ s ≤ 1000000000000) (hd : 1 ≤ den ∧ den ≤ 1000000) (hk : 1 ≤ kk ∧ kk ≤ 1000000000001) : ∀ x, x ∈ atF (l ++ [(s, den)]) den kk → okT x := by
  intro x hx
  unfold atF at hx
  rw [List.mem_append, List.mem_append, List.mem_singleton, List.mem_singleton] at hx
  rcases hx with (hx | rfl) | rfl
  · have := hl x hx
    unfold okT0 at this
    simp only [Bool.or_eq_false_iff, decide_eq_false_iff_not] at this
    unfold okT
    omega
  · simp only [okT]; omega
  · simp only [okT]; omega
theorem at_len {l : List (Int × Int)} {s den : Int} {i k : Nat} (hk : k < l.length + 1) : lenL (if k < l.length then [SV.int IntKind.i64 (l.getD k default).fst, SV.int IntKind.i64 (l.getD k default).snd] else purgeL i (takeL 2 (dropL ((k - l.length) * 2) [SV.int IntKind.i64 s, SV.int IntKind.i64 den]))) = 2 ∧ ones (if k < l.length then [SV.int IntKind.i64 (l.getD k default).fst, SV.int IntKind.i64 (l.getD k default).snd] else purgeL i (takeL 2 (dropL ((k - l.length) * 2) [SV.int IntKind.i64 s, SV.int IntKind.i64 den]))) := by
  by_cases h1 : k < l.length
  · rw [if_pos h1]; exact ⟨rfl, trivial, trivial, trivial⟩
  · rw [if_neg h1, show k - l.length = 0 by omega]; exact ⟨rfl, trivial, trivial, trivial⟩
theorem one_len {a b : Int} {k : Nat} (hk : k < 1) : lenL (takeL 2 (dropL (k * 2) [SV.int IntKind.i64 a, SV.int IntKind.i64 b])) = 2 ∧ ones (takeL 2 (dropL (k * 2) [SV.int IntKind.i64 a, SV.int IntKind.i64 b])) := by
  obtain rfl : k = 0 := by omega
  exact ⟨rfl, trivial, trivial, trivial⟩
def RB2 : Env := { ct := fun n => match n with | 47 => some chkTC | 50 => some signC | 52 => some oneC | _ => none, fn := fun n => match n with | 48 => some v48 | 49 => some v49 | 51 => some v51 | _ => none, meth := fun _ _ => none }
theorem RB2_ct47 : RB2.ct 47 = some chkTC := rfl
theorem RB2_ct50 : RB2.ct 50 = some signC := rfl
theorem RB2_ct52 : RB2.ct 52 = some oneC := rfl
theorem RB2_ct48 : RB2.ct 48 = none := rfl
theorem RB2_fn48 : RB2.fn 48 = some v48 := rfl
theorem RB2_ct49 : RB2.ct 49 = none := rfl
theorem RB2_fn49 : RB2.fn 49 = some v49 := rfl
theorem RB2_ct51 : RB2.ct 51 = none := rfl
theorem RB2_fn51 : RB2.fn 51 = some v51 := rfl
theorem RB2_ok : EnvOk Try.prog RB2 := by
  refine ⟨fun f c h => ?_, fun f vf h => ?_, (fun _ _ _ h => by cases h), by kernel_rfl, (fun _ h => by cases h)⟩
  · simp only [RB2] at h
    split at h
    · cases h; exact ⟨chkT_c, Try.f47, Try.func47, by kernel_rfl, by kernel_rfl⟩
    · cases h; exact ⟨sign_c, Try.f50, Try.func50, by kernel_rfl, by kernel_rfl⟩
    · cases h; exact ⟨one_c, Try.f52, Try.func52, by kernel_rfl, by kernel_rfl⟩
    · cases h
  · simp only [RB2] at h
    split at h
    · cases h; exact ⟨Try.f48, Try.func48, v48_is, Try.f48, Try.func48, by kernel_rfl, by kernel_rfl⟩
    · cases h; exact ⟨Try.f49, Try.func49, v49_is, Try.f49, Try.func49, by kernel_rfl, by kernel_rfl⟩
    · cases h; exact ⟨Try.f51, Try.func51, v51_is, Try.f51, Try.func51, by kernel_rfl, by kernel_rfl⟩
    · cases h
theorem ans_pw {k : SV → List HO → Prop} {al : Bool} {hp : List HO} {κ κ' : IntKind} {x e : Int} {b : Bool} (h : k (.tup [.int κ x, .bool b, .int κ' e]) []) : answers al k (.tup [.int κ x, .bool b, .int κ' e]) hp :=
  ans_le (show k _ [] from h) (le_self (.tup [.int κ x, .bool b, .int κ' e]) ⟨trivial, trivial, trivial, trivial⟩) (fun _ => by simp [freshS, freshL])
theorem prod_c : prodC.ok Try.prog 36 := by
  refine contract Try.func36 v36_is RB2_ok 800 prodC fun args k h => ?_
  simp only [prodC] at h
  split at h
  · rename_i s tt z n sz get den
    obtain ⟨l, ⟨⟨rfl, rfl, hg⟩, hl, hn, hn1, hs, hd⟩, h⟩ := h
    refine ⟨[.int .i64 s, .vs tt z l.length 2 (fun k => enc2 (l.getD k default)), .int .i64 den], ⟨⟨rfl, rfl⟩, ⟨id, rfl, rfl, rfl, hg⟩, ⟨rfl, rfl⟩, trivial⟩, ?_⟩
    dsimp only [v36, RB2_ct47, chkTC, enc2, go_sem, reduceIte]
    simp only [t_all, forall_const, ne_eq, implies_true, Nat.reduceAdd, Nat.reduceLeDiff, reduceCtorEq, Nat.reduceEqDiff]
    have hnd : IntKind.i64.wrap (0 - den) = -den := by rw [IntWalk.i64_in _ (by omega)]; omega
    have hchk : chkTF l = 0 := by
      have : l.any okT0 = false := by rw [List.any_eq_false]; exact fun x hx => by rw [hl x hx]; decide
      rw [chkTF, if_neg (by omega), if_neg (by rw [this]; decide)]
    refine ⟨l, ⟨⟨rfl, rfl, fun k _ => leXL_self _⟩, by omega⟩, fun hh => absurd hchk hh, fun _ => ⟨fun hh => ?_, fun _ => ⟨⟨by unfold capOk; omega, by decide, ⟨by unfold capOk; omega, fun k hk => ?_⟩, ?_⟩, by decide, by unfold capOk; omega, ⟨by unfold capOk; omega, fun k hk => ?_⟩, ?_⟩⟩⟩
    · rw [decide_eq_false (by omega : ¬ den < 1), decide_eq_false (by omega : ¬ 1000000 < den), decide_eq_false (by omega : ¬ s < 1), decide_eq_false (by omega : ¬ 1000000000000 < s)] at hh
      cases hh
    · exact one_len hk
    · dsimp only [RB2_ct49, RB2_fn49, v49, RB2_ct48, RB2_fn48, v48, RB2_ct50, signC, go_sem, reduceIte]
      simp only [t_all, forall_const, ne_eq, implies_true, Nat.reduceAdd, Nat.reduceLeDiff, reduceCtorEq, Nat.reduceEqDiff]
      rw [hnd]
      simp only [Int.toNat_natCast]
      have hK : (1 : Int) ≤ 1000000000001 ∧ (1000000000001 : Int) ≤ 1000000000001 := by decide
      refine ⟨fun _ => ⟨⟨by omega, by omega⟩, by decide, ⟨by decide, by unfold capOk; omega, fun k hk => at_len hk, fun k hk => one_len hk⟩, atF (l ++ [(s, den)]) den 1000000000001, fun _ => ⟨at_ls, at_ok hl hs ⟨hd.1, hd.2⟩ hK, by omega⟩, fun hc => ?_, fun hc => ?_⟩, fun hh => absurd hh (by decide)⟩
      · have hc : isF (l ++ [(s, den)]) den 1000000000001 = true := hc
        rw [prodF, if_pos hc] at h
        exact ans_pw h
      · have hc : isF (l ++ [(s, den)]) den 1000000000001 = false := hc
        rw [prodF, if_neg (by rw [hc]; decide)] at h
        dsimp only [RB2_ct51, RB2_fn51, v51, go_sem, reduceIte]
        simp only [t_all, forall_const, ne_eq, implies_true, Nat.reduceAdd, Nat.reduceLeDiff, reduceCtorEq, Nat.reduceEqDiff]
        obtain ⟨t, ht⟩ : ∃ t, t = isF (l ++ [(s, den)]) den := ⟨_, rfl⟩
        obtain ⟨R, hR⟩ : ∃ R, R = bisL 64 t 0 1000000000001 := ⟨_, rfl⟩
        rw [← ht, ← hR] at h
        refine Loop.keep [2] (Nat × Int × Int) (fun s => [(0, .int .i64 s.2.1), (1, .int .i64 s.2.2)]) (fun _ => []) [] (fun s => R = bisL s.1 t s.2.1 s.2.2 ∧ 0 ≤ s.2.1 ∧ s.2.1 < s.2.2 ∧ s.2.2 ≤ 1000000000001 ∧ s.2.2 - s.2.1 ≤ 2 ^ s.1) (fun s => s.1) ?_ ?_
        · refine ⟨(64, 0, 1000000000001), ⟨hR, by decide, by decide, by decide, by decide⟩, ?_⟩
          dsimp only [go_sem, reduceIte]
          simp only [fin_all, imp_self, implies_true, true_and, and_true]
          repeat' apply And.intro
          all_goals first | decide | (intro k hk; first | exact self1 hk | exact self2 hk | exact self3 hk)
        · rintro ⟨f, lo, hi⟩ ⟨hf, b0, b1, b2, b3⟩
          dsimp only at hf b0 b1 b2 b3
          dsimp only [RB2_ct49, RB2_fn49, v49, RB2_ct48, RB2_fn48, v48, RB2_ct50, RB2_ct52, signC, oneC, go_sem, reduceIte]
          simp only [t_all, forall_const, ne_eq, implies_true, Nat.reduceAdd, Nat.reduceLeDiff, reduceCtorEq, Nat.reduceEqDiff]
          rw [hnd]
          simp only [Int.toNat_natCast]
          have ed : IntKind.i64.wrap (hi - lo) = hi - lo := IntWalk.i64_in _ (by omega)
          have e2 : IntKind.i64.wrap ((hi - lo).tdiv 2) = (hi - lo) / 2 := by
            rw [Int.tdiv_eq_ediv_of_nonneg (by omega), IntWalk.i64_in _ (by omega)]
          have e3 : IntKind.i64.wrap (lo + (hi - lo) / 2) = lo + (hi - lo) / 2 := IntWalk.i64_in _ (by omega)
          rw [ed, e2, e3]
          refine ⟨fun hc1 => ?_, fun hc1 => ?_⟩
          · obtain ⟨m, hm⟩ : ∃ m, m = lo + (hi - lo) / 2 := ⟨_, rfl⟩
            rw [← hm]
            obtain ⟨g, rfl⟩ : ∃ g, f = g + 1 := by
              cases f with
              | zero => simp at b3; omega
              | succ g => exact ⟨g, rfl⟩
            rw [bisL, if_pos hc1, ← hm] at hf
            have b4 : hi - lo ≤ 2 ^ g * 2 := by rw [← Int.pow_succ]; exact b3
            have hm0 : ¬ m = 0 := by omega
            refine ⟨by decide, fun _ => ⟨⟨by omega, by omega⟩, by decide, ⟨by decide, by unfold capOk; omega, fun k hk => at_len hk, fun k hk => one_len hk⟩, atF (l ++ [(s, den)]) den m, fun _ => ⟨at_ls, at_ok hl hs ⟨hd.1, hd.2⟩ (by omega), by omega⟩, fun hd1 => ?_, fun hd1 => ?_⟩, fun hh => absurd hh hm0⟩
            · have hd1 : t m = true := by rw [ht]; exact hd1
              rw [if_pos hd1] at hf
              refine ⟨(g, m, hi), ⟨hf, by simp only; omega, by simp only; omega, b2, by simp only; omega⟩, by simp only; omega, ?_⟩
              simp only [fin_all, imp_self, implies_true, true_and, and_true]
              repeat' apply And.intro
              all_goals first | decide | (intro k hk; first | exact self1 hk | exact self2 hk | exact self3 hk)
            · have hd1 : t m = false := by rw [ht]; exact hd1
              rw [if_neg (by rw [hd1]; decide)] at hf
              refine ⟨(g, lo, m), ⟨hf, by simp only; omega, by simp only; omega, by simp only; omega, by simp only; omega⟩, by simp only; omega, ?_⟩
              simp only [fin_all, imp_self, implies_true, true_and, and_true]
              repeat' apply And.intro
              all_goals first | decide | (intro k hk; first | exact self1 hk | exact self2 hk | exact self3 hk)
          · have hRlo : R = lo := by
              cases f with
              | zero => exact hf
              | succ g => rw [hf, bisL, if_neg hc1]
            subst hRlo
            refine ⟨fun hp => ⟨⟨by omega, by omega⟩, by decide, ⟨by decide, by unfold capOk; omega, fun k hk => at_len hk, fun k hk => one_len hk⟩, atF (l ++ [(s, den)]) den R, fun _ => ⟨at_ls, at_ok hl hs ⟨hd.1, hd.2⟩ (by omega), by omega⟩, ans_pw h⟩, fun hp => ⟨fun hh => absurd hh hp, ?_⟩⟩
            rw [decide_eq_false hp, Bool.false_and] at h ⊢
            exact ans_pw h
    · exact one_len hk
    · dsimp only [RB2_ct49, RB2_fn49, v49, RB2_ct48, RB2_fn48, v48, RB2_ct50, signC, go_sem, reduceIte]
      simp only [t_all, forall_const, ne_eq, implies_true, Nat.reduceAdd, Nat.reduceLeDiff, reduceCtorEq, Nat.reduceEqDiff]
      rw [hnd]
      simp only [Int.toNat_natCast]
      have hK : (1 : Int) ≤ 1000000000001 ∧ (1000000000001 : Int) ≤ 1000000000001 := by decide
      refine ⟨fun _ => ⟨⟨by omega, by omega⟩, by decide, ⟨by decide, by unfold capOk; omega, fun k hk => at_len hk, fun k hk => one_len hk⟩, atF (l ++ [(s, den)]) den 1000000000001, fun _ => ⟨at_ls, at_ok hl hs ⟨hd.1, hd.2⟩ hK, by omega⟩, fun hc => ?_, fun hc => ?_⟩, fun hh => absurd hh (by decide)⟩
      · have hc : isF (l ++ [(s, den)]) den 1000000000001 = true := hc
        rw [prodF, if_pos hc] at h
        exact ans_pw h
      · have hc : isF (l ++ [(s, den)]) den 1000000000001 = false := hc
        rw [prodF, if_neg (by rw [hc]; decide)] at h
        dsimp only [RB2_ct51, RB2_fn51, v51, go_sem, reduceIte]
        simp only [t_all, forall_const, ne_eq, implies_true, Nat.reduceAdd, Nat.reduceLeDiff, reduceCtorEq, Nat.reduceEqDiff]
        obtain ⟨t, ht⟩ : ∃ t, t = isF (l ++ [(s, den)]) den := ⟨_, rfl⟩
        obtain ⟨R, hR⟩ : ∃ R, R = bisL 64 t 0 1000000000001 := ⟨_, rfl⟩
        rw [← ht, ← hR] at h
        refine Loop.keep [2] (Nat × Int × Int) (fun s => [(0, .int .i64 s.2.1), (1, .int .i64 s.2.2)]) (fun _ => []) [] (fun s => R = bisL s.1 t s.2.1 s.2.2 ∧ 0 ≤ s.2.1 ∧ s.2.1 < s.2.2 ∧ s.2.2 ≤ 1000000000001 ∧ s.2.2 - s.2.1 ≤ 2 ^ s.1) (fun s => s.1) ?_ ?_
        · refine ⟨(64, 0, 1000000000001), ⟨hR, by decide, by decide, by decide, by decide⟩, ?_⟩
          dsimp only [go_sem, reduceIte]
          simp only [fin_all, imp_self, implies_true, true_and, and_true]
          repeat' apply And.intro
          all_goals first | decide | (intro k hk; first | exact self1 hk | exact self2 hk | exact self3 hk)
        · rintro ⟨f, lo, hi⟩ ⟨hf, b0, b1, b2, b3⟩
          dsimp only at hf b0 b1 b2 b3
          dsimp only [RB2_ct49, RB2_fn49, v49, RB2_ct48, RB2_fn48, v48, RB2_ct50, RB2_ct52, signC, oneC, go_sem, reduceIte]
          simp only [t_all, forall_const, ne_eq, implies_true, Nat.reduceAdd, Nat.reduceLeDiff, reduceCtorEq, Nat.reduceEqDiff]
          rw [hnd]
          simp only [Int.toNat_natCast]
          have ed : IntKind.i64.wrap (hi - lo) = hi - lo := IntWalk.i64_in _ (by omega)
          have e2 : IntKind.i64.wrap ((hi - lo).tdiv 2) = (hi - lo) / 2 := by
            rw [Int.tdiv_eq_ediv_of_nonneg (by omega), IntWalk.i64_in _ (by omega)]
          have e3 : IntKind.i64.wrap (lo + (hi - lo) / 2) = lo + (hi - lo) / 2 := IntWalk.i64_in _ (by omega)
          rw [ed, e2, e3]
          refine ⟨fun hc1 => ?_, fun hc1 => ?_⟩
          · obtain ⟨m, hm⟩ : ∃ m, m = lo + (hi - lo) / 2 := ⟨_, rfl⟩
            rw [← hm]
            obtain ⟨g, rfl⟩ : ∃ g, f = g + 1 := by
              cases f with
              | zero => simp at b3; omega
              | succ g => exact ⟨g, rfl⟩
            rw [bisL, if_pos hc1, ← hm] at hf
            have b4 : hi - lo ≤ 2 ^ g * 2 := by rw [← Int.pow_succ]; exact b3
            have hm0 : ¬ m = 0 := by omega
            refine ⟨by decide, fun _ => ⟨⟨by omega, by omega⟩, by decide, ⟨by decide, by unfold capOk; omega, fun k hk => at_len hk, fun k hk => one_len hk⟩, atF (l ++ [(s, den)]) den m, fun _ => ⟨at_ls, at_ok hl hs ⟨hd.1, hd.2⟩ (by omega), by omega⟩, fun hd1 => ?_, fun hd1 => ?_⟩, fun hh => absurd hh hm0⟩
            · have hd1 : t m = true := by rw [ht]; exact hd1
              rw [if_pos hd1] at hf
              refine ⟨(g, m, hi), ⟨hf, by simp only; omega, by simp only; omega, b2, by simp only; omega⟩, by simp only; omega, ?_⟩
              simp only [fin_all, imp_self, implies_true, true_and, and_true]
              repeat' apply And.intro
              all_goals first | decide | (intro k hk; first | exact self1 hk | exact self2 hk | exact self3 hk)
            · have hd1 : t m = false := by rw [ht]; exact hd1
              rw [if_neg (by rw [hd1]; decide)] at hf
              refine ⟨(g, lo, m), ⟨hf, by simp only; omega, by simp only; omega, by simp only; omega, by simp only; omega⟩, by simp only; omega, ?_⟩
              simp only [fin_all, imp_self, implies_true, true_and, and_true]
              repeat' apply And.intro
              all_goals first | decide | (intro k hk; first | exact self1 hk | exact self2 hk | exact self3 hk)
          · have hRlo : R = lo := by
              cases f with
              | zero => exact hf
              | succ g => rw [hf, bisL, if_neg hc1]
            subst hRlo
            refine ⟨fun hp => ⟨⟨by omega, by omega⟩, by decide, ⟨by decide, by unfold capOk; omega, fun k hk => at_len hk, fun k hk => one_len hk⟩, atF (l ++ [(s, den)]) den R, fun _ => ⟨at_ls, at_ok hl hs ⟨hd.1, hd.2⟩ (by omega), by omega⟩, ans_pw h⟩, fun hp => ⟨fun hh => absurd hh hp, ?_⟩⟩
            rw [decide_eq_false hp, Bool.false_and] at h ⊢
            exact ans_pw h
  · exact h.1.elim
end Go.Proofs.Ytmgfmkbniaepcaa
set_option linter.all false
namespace Go.Proofs.Ytmgfmkbniaepcaa
open Go Go.Vx
abbrev Iv := Int × Int
def numOk (x : Int) : Bool := decide (-4611686018427387904 ≤ x) && decide (x ≤ 4611686018427387904)
def ivE (l : List Iv) : Int := if l.all (fun a => numOk a.1 && numOk a.2) then (if l.all (fun a => decide (a.1 ≤ a.2)) then 0 else 2) else 7
theorem ivE_bad {l : List Iv} {i : Nat} (h : i < l.length) (hb : (numOk (l.getD i default).1 && numOk (l.getD i default).2) = false) : ivE l = 7 := by
  rw [ivE, if_neg]
  intro hall
  have := List.all_eq_true.1 hall _ (getD_mem h)
  rw [hb] at this; cases this
theorem ivE_2 {l : List Iv} (ha : ∀ j, j < l.length → (numOk (l.getD j default).1 && numOk (l.getD j default).2) = true) {i : Nat} (h : i < l.length) (hb : (l.getD i default).2 < (l.getD i default).1) : ivE l = 2 := by
  rw [ivE, if_pos, if_neg]
  · intro hall
    have := List.all_eq_true.1 hall _ (getD_mem h)
    simp only [decide_eq_true_eq] at this; omega
  · refine List.all_eq_true.2 fun x hx => ?_
    obtain ⟨j, hj, rfl⟩ := mem_getD hx
    exact ha j hj
theorem ivE_0 {l : List Iv} (ha : ∀ j, j < l.length → (numOk (l.getD j default).1 && numOk (l.getD j default).2) = true) (hb : ∀ j, j < l.length → (l.getD j default).1 ≤ (l.getD j default).2) : ivE l = 0 := by
  rw [ivE, if_pos, if_pos]
  · refine List.all_eq_true.2 fun x hx => ?_
    obtain ⟨j, hj, rfl⟩ := mem_getD hx
    simpa using hb j hj
  · refine List.all_eq_true.2 fun x hx => ?_
    obtain ⟨j, hj, rfl⟩ := mem_getD hx
    exact ha j hj
theorem numOk_iff {x : Int} : numOk x = true ↔ -4611686018427387904 ≤ x ∧ x ≤ 4611686018427387904 := by
  simp [numOk]
theorem ivE1 {a : Iv} (h : ivE [a] = 0) : (-4611686018427387904 ≤ a.1 ∧ a.1 ≤ 4611686018427387904) ∧ (-4611686018427387904 ≤ a.2 ∧ a.2 ≤ 4611686018427387904) ∧ a.1 ≤ a.2 := by
  unfold ivE at h
  split at h
  · rename_i h1
    split at h
    · rename_i h2
      simp only [List.all_cons, List.all_nil, Bool.and_true, Bool.and_eq_true, decide_eq_true_eq] at h1 h2
      exact ⟨numOk_iff.1 h1.1, numOk_iff.1 h1.2, h2⟩
    · cases h
  · cases h
def rndT (up : Bool) (x d : Int) : Int := if up then -((-x) / d) else x / d
def rndB (t : Int) : Int × Bool := if -4611686018427387904 ≤ t ∧ t ≤ 4611686018427387904 then (t, true) else (0, false)
def rndF (up : Bool) (x d : Int) : Int × Bool := rndB (rndT up x d)
def spanR (a b : Int × Bool) : Iv × Int := if a.2 && b.2 then ((a.1, b.1), 0) else ((0, 0), 7)
def lowI (x : Int) (r : List Int) : Int := r.foldl (fun low y => if y < low then y else low) x
def highI (x : Int) (r : List Int) : Int := r.foldl (fun high y => if high < y then y else high) x
def spanI (d : Int) (x : Int) (r : List Int) : Iv × Int := spanR (rndF false (lowI x r) d) (rndF true (highI x r) d)
theorem lowI_spec (x : Int) : ∀ (r : List Int), lowI x r ∈ x :: r ∧ ∀ y ∈ x :: r, lowI x r ≤ y := by
  intro r
  induction r generalizing x with
  | nil => exact ⟨List.mem_cons_self, fun y hy => by simp at hy; subst hy; exact Int.le_refl _⟩
  | cons a r ih =>
    have e : lowI x (a :: r) = lowI (if a < x then a else x) r := rfl
    rw [e]
    obtain ⟨h1, h2⟩ := ih (if a < x then a else x)
    have h3 := h2 _ List.mem_cons_self
    generalize lowI (if a < x then a else x) r = L at *
    refine ⟨?_, fun y hy => ?_⟩
    · rcases List.mem_cons.1 h1 with h | h
      · rw [h]; split <;> simp
      · simp [h]
    · rcases List.mem_cons.1 hy with rfl | hy
      · split at h3 <;> omega
      · rcases List.mem_cons.1 hy with rfl | hy
        · split at h3 <;> omega
        · exact h2 _ (List.mem_cons_of_mem _ hy)
theorem highI_spec (x : Int) : ∀ (r : List Int), highI x r ∈ x :: r ∧ ∀ y ∈ x :: r, y ≤ highI x r := by
  intro r
  induction r generalizing x with
  | nil => exact ⟨List.mem_cons_self, fun y hy => by simp at hy; subst hy; exact Int.le_refl _⟩
  | cons a r ih =>
    have e : highI x (a :: r) = highI (if x < a then a else x) r := rfl
    rw [e]
    obtain ⟨h1, h2⟩ := ih (if x < a then a else x)
    have h3 := h2 _ List.mem_cons_self
    generalize highI (if x < a then a else x) r = L at *
    refine ⟨?_, fun y hy => ?_⟩
    · rcases List.mem_cons.1 h1 with h | h
      · rw [h]; split <;> simp
      · simp [h]
    · rcases List.mem_cons.1 hy with rfl | hy
      · split at h3 <;> omega
      · rcases List.mem_cons.1 hy with rfl | hy
        · split at h3 <;> omega
        · exact h2 _ (List.mem_cons_of_mem _ hy)
def bump (up neg : Bool) (r : Nat) : Nat := if decide (r ≠ 0) && (up != neg) then 1 else 0
theorem rnd_abs {up : Bool} {x : Int} {d : Nat} (hd : 0 < d) : rndT up x d = nsg (decide (x < 0)) (x.natAbs / d + bump up (decide (x < 0)) (x.natAbs % d)) := by
  have hm := Nat.mod_lt x.natAbs hd
  have e := Nat.div_add_mod x.natAbs d
  have pos : ∀ n : Nat, (n : Int) / (d : Int) = ((n / d : Nat) : Int) := fun n => (Int.natCast_ediv n d).symm
  have neg : ∀ n : Nat, (-(n : Int)) / (d : Int) = -(((n / d + if n % d = 0 then 0 else 1 : Nat)) : Int) := fun n => by
    have e := Nat.div_add_mod n d
    have hm := Nat.mod_lt n hd
    by_cases h0 : n % d = 0
    · rw [if_pos h0]
      have : (n : Int) = ((n / d : Nat) : Int) * (d : Int) := by
        have : n = n / d * d := by rw [Nat.mul_comm]; omega
        exact_mod_cast this
      conv => lhs; rw [this, ← Int.neg_mul]
      rw [Int.mul_ediv_cancel _ (by omega)]; simp
    · rw [if_neg h0]
      have hq : (n : Int) = (d : Int) * ((n / d : Nat) : Int) + ((n % d : Nat) : Int) := by exact_mod_cast e.symm
      apply Int.le_antisymm
      · apply Int.le_of_lt_add_one
        rw [Int.ediv_lt_iff_lt_mul (by omega)]
        conv => lhs; rw [hq]
        have hm : ((n % d : Nat) : Int) > 0 := by omega
        generalize n % d = m at *
        generalize n / d = q at *
        push_cast
        grind
      · rw [Int.le_ediv_iff_mul_le (by omega)]
        conv => rhs; rw [hq]
        have hm : ((n % d : Nat) : Int) < d := by omega
        generalize n % d = m at *
        generalize n / d = q at *
        push_cast
        grind
  obtain ⟨n, hn⟩ : ∃ n : Nat, n = x.natAbs := ⟨_, rfl⟩
  rw [← hn]
  unfold rndT bump nsg
  by_cases hx : x < 0
  · have ex : x = -(n : Int) := by omega
    cases up
    · simp only [hx, decide_true, if_true, Bool.false_eq_true, if_false]
      rw [ex, neg n]
      by_cases h0 : n % d = 0 <;> simp [h0]
    · simp only [hx, decide_true, if_true, bne_self_eq_false, Bool.and_false, Bool.false_eq_true, if_false]
      rw [ex, Int.neg_neg, pos n]; simp
  · have ex : x = (n : Int) := by omega
    cases up
    · simp only [hx, decide_false, Bool.false_eq_true, if_false, bne_self_eq_false, Bool.and_false]
      rw [ex, pos n]; simp
    · simp only [hx, decide_false, Bool.false_eq_true, if_false, if_true]
      rw [ex, neg n]
      by_cases h0 : n % d = 0 <;> simp [h0]
def longE (v : Int) : List SV := [.bool (decide (v < 0)), .int .u64 ((v.natAbs / 18446744073709551616 : Nat) : Int), .int .u64 ((v.natAbs % 18446744073709551616 : Nat) : Int)]
def longP (x : Int) (n : Bool) (h l : Int) : Prop := n = decide (x < 0) ∧ h = ((x.natAbs / 18446744073709551616 : Nat) : Int) ∧ l = ((x.natAbs % 18446744073709551616 : Nat) : Int)
theorem longP_self (x : Int) : longP x (decide (x < 0)) ((x.natAbs / 18446744073709551616 : Nat) : Int) ((x.natAbs % 18446744073709551616 : Nat) : Int) := ⟨rfl, rfl, rfl⟩
def big (x : Int) : Prop := x.natAbs < 340282366920938463463374607431768211456
def errI (e : Int) : Iv × Int := ((0, 0), e)
def sclF (a : Iv) (num den : Int) : Iv × Int := if ivE [a] ≠ 0 then errI (ivE [a]) else if den < 1 ∨ 4611686018427387904 < den ∨ num < -4611686018427387904 ∨ 4611686018427387904 < num then errI 2 else spanI den (a.1 * num) [a.2 * num]
def piF (a : Iv) : Iv × Int := if ivE [a] ≠ 0 then errI (ivE [a]) else spanI 1000000000000000000 (a.1 * 3141592653589793238) [a.1 * 3141592653589793239, a.2 * 3141592653589793238, a.2 * 3141592653589793239]
end Go.Proofs.Ytmgfmkbniaepcaa
set_option linter.all false
namespace Go.Proofs.Ytmgfmkbniaepcaa
open Go Go.Vx
set_option maxRecDepth 100000
structure Scl where
  d : Int
  c : Int
  bs : List (Int × Int)
  mn : Int
  md : Int
  cn : Int
  cd : Int
def inS (n a b : Int) : Bool := decide (a ≤ n) && decide (n ≤ b)
def benL : List (Int × Int) → Int → Bool
  | [], _ => true
  | b :: r, last => decide (last < b.1) && decide (b.1 ≤ 139) && inS b.2 8 64 && benL r b.1
def partS (n : Int) : Bool := inS n 1 20
def okS (s : Scl) : Bool :=
  decide (s.bs ≠ []) && inS s.d 1000 500000 && inS s.c 0 (min 50000 (s.d - 1)) && partS s.mn && partS s.md && partS s.cn && partS s.cd && benL s.bs (-1) && decide (s.mn < s.md)
def chkS (s : Scl) : Int := if 3 < s.bs.length then 3 else if okS s = true then 0 else 2
structure Exn where
  f : Int
  h : Int
  n : Int
  d : Int
def addE (e : Exn) (to : Int) : Int × Int := if 0 < e.h then (IntKind.i64.wrap (IntKind.i64.wrap (e.n * e.h) + IntKind.i64.wrap (IntKind.i64.wrap (to - e.f) * e.d)), IntKind.i64.wrap (e.d * e.h)) else (e.n, e.d)
def expL (note : Int) : List (Int × Int) → Exn → Int × Int
  | [], e => addE e note
  | b :: r, e => if note ≤ b.1 then addE e note else expL note r ⟨b.1, b.2, (addE e b.1).1, (addE e b.1).2⟩
def expF (bs : List (Int × Int)) (note : Int) : Int × Int := expL note bs ⟨0, 0, 0, 1⟩
def rootS (m num den : Int) : Int × Bool := ((prodF m [(2, -num)] den).1, (prodF m [(2, -num)] den).2.1)
def diaS (s : Scl) (note : Int) : Iv :=
  let r := rootS (s.d - s.c) (expF s.bs note).1 (expF s.bs note).2
  (s.c + r.1, if r.2 = true then s.c + r.1 else s.c + r.1 + 1)
def firstN (s : Scl) : Int := (s.bs.getD 0 default).1
def hasS (s : Scl) (note : Int) : Bool := decide (firstN s ≤ note) && decide (note ≤ 139)
def askS (s : Scl) (low high : Int) : Int := if chkS s ≠ 0 then chkS s else if (!hasS s low || !hasS s high || decide (high < low)) = true then 2 else 0
def diaF (s : Scl) (note : Int) : Iv × Int := if askS s note note ≠ 0 then ((0, 0), askS s note note) else (diaS s note, 0)
def fstL (s : Scl) (p : Iv → Bool) : Nat → Int → Int × Int
  | 0, _ => (0, 4)
  | k + 1, n => if 139 < n then (0, 4) else if p (diaS s n) = true then (n, 0) else fstL s p k (n + 1)
def fstF (s : Scl) (low : Int) (p : Iv → Bool) : Int × Int := fstL s p 200 low
def halF (s : Scl) (note : Int) : Int × Int :=
  if askS s note note ≠ 0 then (0, askS s note note) else fstF s (note + 1) fun x => decide (IntKind.i64.wrap (2 * x.2) ≤ (diaS s note).1)
def widF (s t : Scl) (note : Int) : Int × Int :=
  if chkS s ≠ 0 then (0, chkS s) else if chkS t ≠ 0 then (0, chkS t) else if hasS s note = false then (0, 2) else
  if (fstF t (firstN t) fun x => decide (x.2 ≤ (diaS s note).1)).2 ≠ 0 then (0, (fstF t (firstN t) fun x => decide (x.2 ≤ (diaS s note).1)).2)
  else (note - (fstF t (firstN t) fun x => decide (x.2 ≤ (diaS s note).1)).1, 0)
def Exn.ok (e : Exn) (k : Nat) : Prop := (0 ≤ e.f ∧ e.f ≤ 139) ∧ (0 ≤ e.h ∧ e.h ≤ 64) ∧ (0 ≤ e.n ∧ e.n ≤ e.f * e.d) ∧ 1 ≤ e.d ∧ e.d * 64 ^ (k + if e.h = 0 then 0 else 1) ≤ 262144
def Exn.add (e : Exn) (to : Int) : Int × Int := if 0 < e.h then (e.n * e.h + (to - e.f) * e.d, e.d * e.h) else (e.n, e.d)
def exE (note : Int) : List (Int × Int) → Exn → Int × Int
  | [], e => e.add note
  | b :: r, e => if note ≤ b.1 then e.add note else exE note r ⟨b.1, b.2, (e.add b.1).1, (e.add b.1).2⟩
theorem p64 (k : Nat) : (1 : Int) ≤ 64 ^ k := Int.pow_pos (by decide)
theorem Exn.ok_d {e : Exn} {k : Nat} (h : e.ok k) : e.d ≤ 262144 ∧ (e.h ≠ 0 → e.d * 64 ≤ 262144) := by
  obtain ⟨_, _, _, h4, h5⟩ := h
  have h6 := p64 k
  constructor
  · have h7 := p64 (k + if e.h = 0 then 0 else 1)
    have : e.d * 1 ≤ e.d * 64 ^ (k + if e.h = 0 then 0 else 1) := Int.mul_le_mul_of_nonneg_left h7 (by omega)
    omega
  · intro hh
    rw [if_neg hh, Int.pow_succ, ← Int.mul_assoc, Int.mul_right_comm] at h5
    have : e.d * 64 * 1 ≤ e.d * 64 * 64 ^ k := Int.mul_le_mul_of_nonneg_left h6 (by omega)
    omega
theorem Exn.add_rng {e : Exn} {k : Nat} (h : e.ok k) {to : Int} (ht : to ≤ 139) (hf : e.h ≠ 0 → e.f ≤ to) (h0 : e.h = 0 → 0 ≤ to ∧ e.n = 0) :
    addE e to = e.add to ∧ 0 ≤ (e.add to).1 ∧ (e.add to).1 ≤ to * (e.add to).2 ∧ 1 ≤ (e.add to).2 ∧ (e.add to).2 ≤ 262144 ∧ (e.add to).2 ≤ e.d * (if e.h = 0 then 1 else 64) := by
  obtain ⟨hd1, hd2⟩ := Exn.ok_d h
  obtain ⟨⟨f0, f1⟩, ⟨g0, g1⟩, ⟨n0, n1⟩, d0, _⟩ := h
  unfold addE Exn.add
  by_cases c : 0 < e.h
  · rw [if_pos c, if_pos c, if_neg (by omega)]
    have hf := hf (by omega)
    have hd2 := hd2 (by omega)
    have k1 : e.f * e.d ≤ 139 * 262144 := mul_le' f1 (by omega) (by omega) (by omega)
    have k2 : e.n * e.h ≤ 139 * 262144 * 64 := mul_le' (by omega) g1 n0 (by omega)
    have k3 : (to - e.f) * e.d ≤ 139 * 262144 := mul_le' (by omega) (by omega) (by omega) (by omega)
    have k4 : e.d * e.h ≤ e.d * 64 := Int.mul_le_mul_of_nonneg_left g1 (by omega)
    have k5 : 0 ≤ e.n * e.h := Int.mul_nonneg n0 g0
    have k6 : 0 ≤ (to - e.f) * e.d := Int.mul_nonneg (by omega) (by omega)
    have k7 : e.d * 1 ≤ e.d * e.h := Int.mul_le_mul_of_nonneg_left (by omega) (by omega)
    rw [IntWalk.i64_in (e.n * e.h) (by omega), IntWalk.i64_in (to - e.f) (by omega), IntWalk.i64_in ((to - e.f) * e.d) (by omega), IntWalk.i64_in (e.n * e.h + _) (by omega), IntWalk.i64_in (e.d * e.h) (by omega)]
    refine ⟨rfl, by simp only; omega, ?_, by simp only; omega, by simp only; omega, k4⟩
    simp only
    have q1 : e.n * e.h ≤ e.f * e.d * e.h := Int.mul_le_mul_of_nonneg_right n1 g0
    have q2 : (to - e.f) * e.d * 1 ≤ (to - e.f) * e.d * e.h := Int.mul_le_mul_of_nonneg_left (by omega) k6
    have q3 : to * (e.d * e.h) = e.f * e.d * e.h + (to - e.f) * e.d * e.h := by
      rw [← Int.add_mul, ← Int.add_mul, show e.f + (to - e.f) = to by omega, Int.mul_assoc]
    omega
  · rw [if_neg c, if_neg c, if_pos (by omega)]
    obtain ⟨h1, h2⟩ := h0 (by omega)
    refine ⟨rfl, n0, ?_, d0, hd1, by omega⟩
    simp only
    rw [h2]
    exact Int.mul_nonneg h1 (by omega)
theorem Exn.next {e : Exn} {k : Nat} (h : e.ok (k + 1)) {b : Int × Int} (hb : (0 ≤ b.1 ∧ b.1 ≤ 139) ∧ 8 ≤ b.2 ∧ b.2 ≤ 64) (hf : e.h ≠ 0 → e.f ≤ b.1) (h0 : e.h = 0 → e.n = 0) : (⟨b.1, b.2, (e.add b.1).1, (e.add b.1).2⟩ : Exn).ok k := by
  obtain ⟨_, r1, r2, r3, r4, r5⟩ := Exn.add_rng h (to := b.1) hb.1.2 hf fun hh => ⟨hb.1.1, h0 hh⟩
  refine ⟨hb.1, ⟨by simp only; omega, hb.2.2⟩, ⟨r1, r2⟩, r3, ?_⟩
  obtain ⟨_, _, _, _, h5⟩ := h
  rw [if_neg (show ¬ b.2 = 0 by omega)]
  refine Int.le_trans (Int.mul_le_mul_of_nonneg_right r5 (Int.le_of_lt (Int.pow_pos (by decide)))) ?_
  by_cases c : e.h = 0
  · rw [if_pos c] at h5 ⊢
    rw [Int.mul_one]; exact h5
  · rw [if_neg c] at h5 ⊢
    rw [Int.mul_assoc, show (64 : Int) * 64 ^ (k + 1) = 64 ^ (k + 1 + 1) by rw [Int.pow_succ 64 (k + 1), Int.mul_comm]]
    exact h5
theorem benL_cons {b : Int × Int} {r : List (Int × Int)} {last : Int} (h : benL (b :: r) last = true) (hl : -1 ≤ last) : (last < b.1 ∧ (0 ≤ b.1 ∧ b.1 ≤ 139) ∧ 8 ≤ b.2 ∧ b.2 ≤ 64) ∧ benL r b.1 = true := by
  simp only [benL, inS, Bool.and_eq_true, decide_eq_true_eq] at h
  exact ⟨by omega, h.2⟩
theorem expL_is {note : Int} (hn : 0 ≤ note ∧ note ≤ 139) : ∀ (r : List (Int × Int)) (e : Exn) (last : Int), -1 ≤ last → benL r last = true → e.ok r.length → (e.h ≠ 0 → e.f ≤ last ∧ e.f ≤ note) → (e.h = 0 → e.n = 0) →
    expL note r e = exE note r e ∧ 0 ≤ (exE note r e).1 ∧ (exE note r e).1 ≤ note * (exE note r e).2 ∧ 1 ≤ (exE note r e).2 ∧ (exE note r e).2 ≤ 262144
  | [], e, last, _, _, hok, hf, h0 => by
    obtain ⟨a, b, c, d, g, _⟩ := Exn.add_rng hok (to := note) hn.2 (fun h => (hf h).2) fun h => ⟨hn.1, h0 h⟩
    exact ⟨a, b, c, d, g⟩
  | b :: r, e, last, hl, hb, hok, hf, h0 => by
    obtain ⟨⟨b1, b2⟩, b3⟩ := benL_cons hb hl
    rw [expL, exE]
    split
    · obtain ⟨a, b, c, d, g, _⟩ := Exn.add_rng hok (to := note) hn.2 (fun h => (hf h).2) fun h => ⟨hn.1, h0 h⟩
      exact ⟨a, b, c, d, g⟩
    · obtain ⟨a, _⟩ := Exn.add_rng hok (to := b.1) b2.1.2 (fun h => by have := hf h; omega) fun h => ⟨b2.1.1, h0 h⟩
      rw [a]
      exact expL_is hn r _ b.1 (by omega) b3 (Exn.next hok b2 (fun h => by have := hf h; omega) h0) (fun _ => ⟨Int.le_refl _, by simp only; omega⟩) (fun h => by simp only at h; omega)
theorem add_gap (n h d x : Int) (hd : 0 ≤ d) (h0 : 0 ≤ h) (h1 : h ≤ 64) : d * h * (d * h) ≤ ((n * h + (x + 1) * d) * (d * h) - (n * h + x * d) * (d * h)) * 64 := by
  have e1 : (n * h + (x + 1) * d) * (d * h) - (n * h + x * d) * (d * h) = d * (d * h) := by
    rw [← Int.sub_mul, Int.add_mul x 1 d, Int.one_mul]; congr 1; omega
  rw [e1]
  have k : d * (d * h) * h ≤ d * (d * h) * 64 := Int.mul_le_mul_of_nonneg_left h1 (Int.mul_nonneg hd (Int.mul_nonneg hd h0))
  have e2 : d * h * (d * h) = d * (d * h) * h := by rw [Int.mul_right_comm]
  omega
theorem exE_step {note : Int} : ∀ (r : List (Int × Int)) (e : Exn) (last : Int), -1 ≤ last → benL r last = true → 1 ≤ e.d → (0 ≤ e.h ∧ e.h ≤ 64) → (e.h = 0 → ∃ b t, r = b :: t ∧ b.1 ≤ note) →
    (exE note r e).2 * (exE (note + 1) r e).2 ≤ ((exE (note + 1) r e).1 * (exE note r e).2 - (exE note r e).1 * (exE (note + 1) r e).2) * 64 := by
  have brk : ∀ e : Exn, 1 ≤ e.d → (0 ≤ e.h ∧ e.h ≤ 64) → e.h ≠ 0 → (e.add note).2 * (e.add (note + 1)).2 ≤ ((e.add (note + 1)).1 * (e.add note).2 - (e.add note).1 * (e.add (note + 1)).2) * 64 := fun e hd hh h0 => by
    unfold Exn.add
    rw [if_pos (by omega), if_pos (by omega)]
    simp only
    rw [show note + 1 - e.f = note - e.f + 1 by omega]
    exact add_gap e.n e.h e.d (note - e.f) (by omega) hh.1 hh.2
  intro r
  induction r with
  | nil =>
    intro e last _ _ hd hh h0
    refine brk e hd hh fun h => ?_
    obtain ⟨_, _, hb, _⟩ := h0 h
    cases hb
  | cons b r ih =>
    intro e last hl hb hd hh h0
    obtain ⟨⟨b1, b2⟩, b3⟩ := benL_cons hb hl
    have hd2 : 1 ≤ (e.add b.1).2 := by
      unfold Exn.add
      split
      · rename_i c
        have : 1 * 1 ≤ e.d * e.h := mul_le' hd c (by decide) (by omega)
        exact this
      · exact hd
    rw [exE, exE]
    by_cases c1 : note + 1 ≤ b.1
    · rw [if_pos (by omega), if_pos c1]
      refine brk e hd hh fun h => ?_
      obtain ⟨b', t, hb', hle⟩ := h0 h
      cases hb'
      omega
    · by_cases c2 : note ≤ b.1
      · obtain rfl : note = b.1 := by omega
        rw [if_pos c2, if_neg c1]
        have key : exE (b.1 + 1) r ⟨b.1, b.2, (e.add b.1).1, (e.add b.1).2⟩ = ((e.add b.1).1 * b.2 + (e.add b.1).2, (e.add b.1).2 * b.2) := by
          have hadd : (⟨b.1, b.2, (e.add b.1).1, (e.add b.1).2⟩ : Exn).add (b.1 + 1) = ((e.add b.1).1 * b.2 + (e.add b.1).2, (e.add b.1).2 * b.2) := by
            rw [Exn.add, if_pos (by simp only; omega)]
            simp only
            rw [show b.1 + 1 - b.1 = 1 by omega, Int.one_mul]
          cases r with
          | nil => rw [exE]; exact hadd
          | cons b' t =>
            obtain ⟨⟨g1, _⟩, _⟩ := benL_cons b3 (by omega)
            rw [exE, if_pos (by omega)]; exact hadd
        rw [key]
        generalize e.add b.1 = A at *
        obtain ⟨N, D⟩ := A
        simp only at hd2 ⊢
        have e1 : (N * b.2 + D) * D - N * (D * b.2) = D * D := by
          rw [Int.add_mul]
          have : N * b.2 * D = N * (D * b.2) := by rw [Int.mul_assoc, Int.mul_comm b.2]
          omega
        rw [e1, ← Int.mul_assoc]
        exact Int.mul_le_mul_of_nonneg_left b2.2.2 (Int.mul_nonneg (by omega) (by omega))
      · rw [if_neg c2, if_neg c1]
        exact ih _ b.1 (by omega) b3 hd2 ⟨by simp only; omega, b2.2.2⟩ fun h => by simp only at h; omega
end Go.Proofs.Ytmgfmkbniaepcaa
