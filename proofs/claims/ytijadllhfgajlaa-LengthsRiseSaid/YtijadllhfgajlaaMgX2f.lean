/- Lengths: the law LengthsBack, in plain Lean. -/
import Derived.Test.YtijadllhfgajlaaMgX2e
import Derived.Test.YtijadllhfgajlaaMgX2c
import Derived.Test.YtijadllhfgajlaaMgX2d
set_option linter.all false
namespace Go.Proofs.Ytijadllhfgajlaa
open Go Go.Vx
def withinF (a b : Iv) : Bool := decide (b.1 ≤ a.1) && decide (a.2 ≤ b.2)
theorem keep_0 {a b : Int} (h : keepE a b = 0) : a = 0 ∧ b = 0 := by
  unfold keepE at h
  split at h
  · exact ⟨‹_›, h⟩
  · exact absurd h ‹_›
theorem fits_0 {x : Iv} {e m : Int} (h : (fitsF x e m).2 = 0) : e = 0 ∧ 1 ≤ x.1 ∧ x.2 ≤ m ∧ (fitsF x e m).1 = x := by
  unfold fitsF at h ⊢
  split at h
  · cases h
  · rename_i hc
    rw [if_neg hc]
    exact ⟨by omega, by omega, by omega, rfl⟩
theorem beg_0 {b : Bdy} {x : Iv} {least most t : Int} (h : begE b x least most t = 0) : chkB b = 0 ∧ (speedF t).2 = 0 ∧ least ≤ x.1 ∧ x.1 ≤ x.2 ∧ x.2 ≤ most := by
  unfold begE at h
  split at h
  · exact absurd h ‹_›
  · rename_i h1
    split at h
    · cases h
    · exact ⟨by omega, by omega, by omega, by omega, by omega⟩
theorem beg_is {b : Bdy} {x : Iv} {least most t : Int} (h1 : chkB b = 0) (h2 : (speedF t).2 = 0) (h3 : least ≤ x.1) (h4 : x.1 ≤ x.2) (h5 : x.2 ≤ most) : begE b x least most t = 0 := by
  unfold begE
  rw [if_neg (by omega), if_neg (by omega)]
theorem len_0 {b : Bdy} {x : Iv} {t : Int} (h : (lenF b x t).2 = 0) : begE b x 1000 20000000 t = 0 ∧ lenF b x t = fitsF (subF (quoF (wayF b t).1 x).1 (bothF b)).1 (keepE (keepE (wayF b t).2 (quoF (wayF b t).1 x).2) (subF (quoF (wayF b t).1 x).1 (bothF b)).2) 12000000 := by
  unfold lenF at h ⊢
  by_cases hb : begE b x 1000 20000000 t ≠ 0
  · rw [if_pos hb] at h; exact absurd h hb
  · rw [if_neg hb]; exact ⟨by simpa using hb, rfl⟩
theorem pit_0 {b : Bdy} {x : Iv} {t : Int} (h : (pitF b x t).2 = 0) : begE b x 1 12000000 t = 0 ∧ pitF b x t = fitsF (quoF (wayF b t).1 (addF x (bothF b)).1).1 (keepE (wayF b t).2 (quoF (wayF b t).1 (addF x (bothF b)).1).2) 200000000 := by
  unfold pitF at h ⊢
  by_cases hb : begE b x 1 12000000 t ≠ 0
  · rw [if_pos hb] at h; exact absurd h hb
  · rw [if_neg hb]; exact ⟨by simpa using hb, rfl⟩
theorem both_is {b : Bdy} (h : chkB b = 0) : 0 ≤ (bothF b).1 ∧ (bothF b).1 ≤ (bothF b).2 := by
  obtain ⟨_, ⟨b0, b1⟩, ⟨c0, c1⟩, ⟨d0, d1⟩, e0, e1⟩ := chkB_ok h
  obtain ⟨h1, h2, _⟩ := add_iv (mouthF b) (endF b)
  refine ⟨h2 ?_ ?_, h1⟩
  · unfold mouthF
    have hs : 0 ≤ (sclF (mulF (b.bottom, b.bottom) (b.bottom, b.bottom)).1 575 1000).1.1 := by
      unfold sclF
      split
      · exact Int.le_refl _
      · split
        · exact Int.le_refl _
        · rw [mul_e0 (by omega) (by omega) (by omega) (by omega)]
          have hb0 : 0 ≤ b.bottom * b.bottom := Int.mul_nonneg (by omega) (by omega)
          refine span_nn (by decide) (Int.mul_nonneg hb0 (by decide)) fun y hy => ?_
          rw [List.mem_singleton] at hy
          rw [hy]; exact Int.mul_nonneg hb0 (by decide)
    generalize (sclF (mulF (b.bottom, b.bottom) (b.bottom, b.bottom)).1 575 1000).1 = A at hs ⊢
    have ha : 0 ≤ (areaF' b).1 := by
      unfold areaF' rootF
      split
      · exact Int.le_refl _
      · split
        · exact Int.le_refl _
        · split
          · exact Int.le_refl _
          · exact Int.natCast_nonneg _
    generalize areaF' b = B at ha ⊢
    by_cases hq : (quoF A B).2 = 0
    · rcases Int.lt_or_le 0 B.1 with hB | hB
      · obtain ⟨e, l1, l2⟩ := quo_1 hs hB hq
        rw [e]
        exact Int.ediv_nonneg hs (by omega)
      · unfold quoF at hq ⊢
        split
        · exact Int.le_refl _
        · rename_i h0
          obtain ⟨l1, l2⟩ := leE2 (by simpa using h0)
          rw [if_pos (by omega)]
          exact Int.le_refl _
    · have : (quoF A B).1 = (0, 0) := by
        unfold quoF at hq ⊢
        split
        · rfl
        · rename_i h0
          rw [if_neg h0] at hq
          split
          · rfl
          · rename_i h1'
            rw [if_neg h1'] at hq
            have key : ∀ p q : Int × Bool, (spanR p q).2 ≠ 0 → (spanR p q).1 = (0, 0) := fun p q hpq => by
              unfold spanR at hpq ⊢
              split
              · rename_i hc; rw [if_pos hc] at hpq; exact absurd rfl hpq
              · rfl
            split
            · rename_i h2'; rw [if_pos h2'] at hq; exact key _ _ hq
            · rename_i h2'; rw [if_neg h2'] at hq; exact key _ _ hq
      rw [this]; exact Int.le_refl _
  · unfold endF
    split
    · exact Int.le_refl _
    · unfold sclF
      split
      · exact Int.le_refl _
      · split
        · exact Int.le_refl _
        · refine span_nn (by decide) (Int.mul_nonneg (by omega) (by decide)) fun y hy => ?_
          rw [List.mem_singleton] at hy
          rw [hy]; exact Int.mul_nonneg (by simp only; omega) (by decide)
end Go.Proofs.Ytijadllhfgajlaa
set_option linter.all false
namespace Go.Proofs.Ytijadllhfgajlaa
open Go Go.Vx
set_option maxRecDepth 100000
set_option maxHeartbeats 4000000
def v11 : VF := { ntmps := 75, res := [.tmp 10, .cell 11 true 2, .tmp 12], body :=
 (.seq (.region [u1 5 .box [.tm 0],
 u1 6 .box [.tm 1],
 u1 10 .mov [.cn (.val (.pointer none))],
 u1 11 (.alloc [(.int .i64 0), (.int .i64 0)]) [],
 u1 12 .mov [.cn (.int .i64 0)]])
 (.seq (.seq (.region [u1 19 (.load true 5) [.tm 5],
 u1 20 (.call 20) [.tm 19],
 u1 13 .mov [.tm 20]])
 (.seq (.region [u1 21 .mov [.tm 13],
 u1 22 (.cmp .neq) [.tm 21, .cn (.int .i64 0)]])
 (.cond (.tm 22) (.seq (.region [u1 23 (.build [(.int .i64 0), (.int .i64 0)] []) [],
 u1 24 .mov [.tm 13],
 u1 10 .mov [.cn (.val (.pointer none))],
 u0 (.store 2) [.tm 11, .tm 23],
 u1 12 .mov [.tm 24]])
 .ret)
  .skip)))
 (.seq (.region [u1 26 .mov [.tm 4],
 u1 27 (.call 21) [.tm 26],
 u1 25 .mov [.tm 27],
 u1 28 (.ext 0) [.tm 25],
 u1 29 (.ext 1) [.tm 25],
 u1 14 (.alloc [(.int .i64 0), (.int .i64 0)]) [],
 u0 (.store 2) [.tm 14, .tm 28],
 u1 12 .mov [.tm 29]])
 (.seq (.seq (.region [u1 30 .mov [.tm 12],
 u1 31 (.cmp .neq) [.tm 30, .cn (.int .i64 0)],
 u1 32 .mov [.tm 31],
 u2 33 32 false (.fieldAddr 0) [.tm 6],
 u2 34 32 false (.load false 1) [.tm 33],
 u2 35 32 false .mov [.tm 2],
 u2 36 32 false (.cmp .lss) [.tm 34, .tm 35],
 u1 37 .or [.tm 32, .tm 36],
 u1 38 .mov [.tm 37],
 u2 39 38 false (.fieldAddr 0) [.tm 6],
 u2 40 38 false (.load false 1) [.tm 39],
 u2 41 38 false (.fieldAddr 1) [.tm 6],
 u2 42 38 false (.load false 1) [.tm 41],
 u2 43 38 false (.cmp .gtr) [.tm 40, .tm 42],
 u1 44 .or [.tm 38, .tm 43],
 u1 45 .mov [.tm 44],
 u2 46 45 false (.fieldAddr 1) [.tm 6],
 u2 47 45 false (.load false 1) [.tm 46],
 u2 48 45 false .mov [.tm 3],
 u2 49 45 false (.cmp .gtr) [.tm 47, .tm 48],
 u1 50 .or [.tm 45, .tm 49]])
 (.cond (.tm 50) (.seq (.region [u1 51 (.build [(.int .i64 0), (.int .i64 0)] []) [],
 u1 10 .mov [.cn (.val (.pointer none))],
 u0 (.store 2) [.tm 11, .tm 51],
 u1 12 .mov [.cn (.int .i64 2)]])
 .ret)
  .skip))
 (.seq (.region [u1 52 (.build [(.int .i64 0), (.int .i64 0), (.int .i64 0), (.int .i64 0)] [(1, 1), (2, 1), (3, 1)]) [.cn (.int .i64 500), .cn (.int .i64 250), .cn (.int .i64 500)],
 u1 15 (.allocArr 4 1 [(.int .i64 0), (.int .i64 0), (.int .i64 0), (.int .i64 0)]) [],
 u0 (.store 4) [.tm 15, .tm 52]])
 (.seq (.region [u1 54 (.load true 5) [.tm 5],
 u1 55 (.call 22) [.tm 54],
 u1 53 .mov [.tm 55],
 u1 56 (.ext 0) [.tm 53],
 u1 57 (.ext 1) [.tm 53],
 u1 16 (.alloc [(.int .i64 0), (.int .i64 0)]) [],
 u1 17 (.alloc [(.int .i64 0), (.int .i64 0)]) [],
 u0 (.store 2) [.tm 16, .tm 56],
 u0 (.store 2) [.tm 17, .tm 57]])
 (.seq (.region [u1 58 (.load true 2) [.tm 16],
 u1 59 (.build [(.int .i64 0), (.int .i64 0), (.int .i64 0)] [(0, 2)]) [.tm 58],
 u1 60 .box [.tm 59],
 u1 18 .mov [.tm 60]])
 (.seq (.drawT [] (.ops [w1 61 (.load true 2) [.tm 14]] (.ops [w1 62 (.build [(.int .i64 0), (.int .i64 0), (.int .i64 0)] [(0, 2)]) [.tm 61]] (.ops [w1 64 (.fieldAddr 0) [.tm 5]] (.ops [w1 65 (.load false 1) [.tm 64]] (.ops [w1 66 (.idxArr 4 1) [.tm 15, .tm 65]] (.ops [w1 67 (.load false 1) [.tm 66]] (.br (.ops [w1 63 .box [.tm 62]] (.br (.ops [w1 68 (.call 23) [.tm 63, .tm 67, .cn (.int .i64 1)]] (.br (.ops [w1 69 .mov [.tm 18]] (.ops [w1 70 (.load true 2) [.tm 17]] (.ops [w1 71 (.call 13) [.tm 69, .cn (.fn (.func 16) [] []), .tm 70]] (.ops [w1 72 .nilCheck [.tm 71]] (.ops [w1 73 (.fieldAddr 0) [.tm 72]] (.ops [w1 74 (.load true 2) [.tm 73]] (.ops [w1 10 .mov [.tm 68]] (.ops [w0 (.store 2) [.tm 11, .tm 74]] (.ops [w1 12 .mov [.cn (.int .i64 0)]] .leaf)))))))))
 (.ops [w1 70 (.load true 2) [.tm 17]] (.ops [w1 69 .mov [.tm 18]] (.ops [w1 71 (.call 13) [.tm 69, .cn (.fn (.func 16) [] []), .tm 70]] (.ops [w1 72 .nilCheck [.tm 71]] (.ops [w1 73 (.fieldAddr 0) [.tm 72]] (.ops [w1 74 (.load true 2) [.tm 73]] (.ops [w1 10 .mov [.tm 68]] (.ops [w0 (.store 2) [.tm 11, .tm 74]] (.ops [w1 12 .mov [.cn (.int .i64 0)]] .leaf)))))))))))
 (.br (.ops [w1 69 .mov [.tm 18]] (.br (.ops [w1 68 (.call 23) [.tm 63, .tm 67, .cn (.int .i64 1)]] (.ops [w1 70 (.load true 2) [.tm 17]] (.ops [w1 71 (.call 13) [.tm 69, .cn (.fn (.func 16) [] []), .tm 70]] (.ops [w1 72 .nilCheck [.tm 71]] (.ops [w1 73 (.fieldAddr 0) [.tm 72]] (.ops [w1 74 (.load true 2) [.tm 73]] (.ops [w1 10 .mov [.tm 68]] (.ops [w0 (.store 2) [.tm 11, .tm 74]] (.ops [w1 12 .mov [.cn (.int .i64 0)]] .leaf)))))))))
 (.ops [w1 70 (.load true 2) [.tm 17]] (.ops [w1 68 (.call 23) [.tm 63, .tm 67, .cn (.int .i64 1)]] (.ops [w1 71 (.call 13) [.tm 69, .cn (.fn (.func 16) [] []), .tm 70]] (.ops [w1 72 .nilCheck [.tm 71]] (.ops [w1 73 (.fieldAddr 0) [.tm 72]] (.ops [w1 74 (.load true 2) [.tm 73]] (.ops [w1 10 .mov [.tm 68]] (.ops [w0 (.store 2) [.tm 11, .tm 74]] (.ops [w1 12 .mov [.cn (.int .i64 0)]] .leaf)))))))))))
 (.ops [w1 70 (.load true 2) [.tm 17]] (.br (.ops [w1 68 (.call 23) [.tm 63, .tm 67, .cn (.int .i64 1)]] (.ops [w1 69 .mov [.tm 18]] (.ops [w1 71 (.call 13) [.tm 69, .cn (.fn (.func 16) [] []), .tm 70]] (.ops [w1 72 .nilCheck [.tm 71]] (.ops [w1 73 (.fieldAddr 0) [.tm 72]] (.ops [w1 74 (.load true 2) [.tm 73]] (.ops [w1 10 .mov [.tm 68]] (.ops [w0 (.store 2) [.tm 11, .tm 74]] (.ops [w1 12 .mov [.cn (.int .i64 0)]] .leaf)))))))))
 (.ops [w1 69 .mov [.tm 18]] (.ops [w1 68 (.call 23) [.tm 63, .tm 67, .cn (.int .i64 1)]] (.ops [w1 71 (.call 13) [.tm 69, .cn (.fn (.func 16) [] []), .tm 70]] (.ops [w1 72 .nilCheck [.tm 71]] (.ops [w1 73 (.fieldAddr 0) [.tm 72]] (.ops [w1 74 (.load true 2) [.tm 73]] (.ops [w1 10 .mov [.tm 68]] (.ops [w0 (.store 2) [.tm 11, .tm 74]] (.ops [w1 12 .mov [.cn (.int .i64 0)]] .leaf))))))))))))))
 (.br (.ops [w1 69 .mov [.tm 18]] (.br (.ops [w1 63 .box [.tm 62]] (.br (.ops [w1 68 (.call 23) [.tm 63, .tm 67, .cn (.int .i64 1)]] (.ops [w1 70 (.load true 2) [.tm 17]] (.ops [w1 71 (.call 13) [.tm 69, .cn (.fn (.func 16) [] []), .tm 70]] (.ops [w1 72 .nilCheck [.tm 71]] (.ops [w1 73 (.fieldAddr 0) [.tm 72]] (.ops [w1 74 (.load true 2) [.tm 73]] (.ops [w1 10 .mov [.tm 68]] (.ops [w0 (.store 2) [.tm 11, .tm 74]] (.ops [w1 12 .mov [.cn (.int .i64 0)]] .leaf)))))))))
 (.ops [w1 70 (.load true 2) [.tm 17]] (.ops [w1 68 (.call 23) [.tm 63, .tm 67, .cn (.int .i64 1)]] (.ops [w1 71 (.call 13) [.tm 69, .cn (.fn (.func 16) [] []), .tm 70]] (.ops [w1 72 .nilCheck [.tm 71]] (.ops [w1 73 (.fieldAddr 0) [.tm 72]] (.ops [w1 74 (.load true 2) [.tm 73]] (.ops [w1 10 .mov [.tm 68]] (.ops [w0 (.store 2) [.tm 11, .tm 74]] (.ops [w1 12 .mov [.cn (.int .i64 0)]] .leaf)))))))))))
 (.ops [w1 70 (.load true 2) [.tm 17]] (.ops [w1 63 .box [.tm 62]] (.ops [w1 68 (.call 23) [.tm 63, .tm 67, .cn (.int .i64 1)]] (.ops [w1 71 (.call 13) [.tm 69, .cn (.fn (.func 16) [] []), .tm 70]] (.ops [w1 72 .nilCheck [.tm 71]] (.ops [w1 73 (.fieldAddr 0) [.tm 72]] (.ops [w1 74 (.load true 2) [.tm 73]] (.ops [w1 10 .mov [.tm 68]] (.ops [w0 (.store 2) [.tm 11, .tm 74]] (.ops [w1 12 .mov [.cn (.int .i64 0)]] .leaf))))))))))))
 (.ops [w1 70 (.load true 2) [.tm 17]] (.br (.ops [w1 63 .box [.tm 62]] (.br (.ops [w1 68 (.call 23) [.tm 63, .tm 67, .cn (.int .i64 1)]] (.ops [w1 69 .mov [.tm 18]] (.ops [w1 71 (.call 13) [.tm 69, .cn (.fn (.func 16) [] []), .tm 70]] (.ops [w1 72 .nilCheck [.tm 71]] (.ops [w1 73 (.fieldAddr 0) [.tm 72]] (.ops [w1 74 (.load true 2) [.tm 73]] (.ops [w1 10 .mov [.tm 68]] (.ops [w0 (.store 2) [.tm 11, .tm 74]] (.ops [w1 12 .mov [.cn (.int .i64 0)]] .leaf)))))))))
 (.ops [w1 69 .mov [.tm 18]] (.ops [w1 68 (.call 23) [.tm 63, .tm 67, .cn (.int .i64 1)]] (.ops [w1 71 (.call 13) [.tm 69, .cn (.fn (.func 16) [] []), .tm 70]] (.ops [w1 72 .nilCheck [.tm 71]] (.ops [w1 73 (.fieldAddr 0) [.tm 72]] (.ops [w1 74 (.load true 2) [.tm 73]] (.ops [w1 10 .mov [.tm 68]] (.ops [w0 (.store 2) [.tm 11, .tm 74]] (.ops [w1 12 .mov [.cn (.int .i64 0)]] .leaf)))))))))))
 (.ops [w1 69 .mov [.tm 18]] (.ops [w1 63 .box [.tm 62]] (.ops [w1 68 (.call 23) [.tm 63, .tm 67, .cn (.int .i64 1)]] (.ops [w1 71 (.call 13) [.tm 69, .cn (.fn (.func 16) [] []), .tm 70]] (.ops [w1 72 .nilCheck [.tm 71]] (.ops [w1 73 (.fieldAddr 0) [.tm 72]] (.ops [w1 74 (.load true 2) [.tm 73]] (.ops [w1 10 .mov [.tm 68]] (.ops [w0 (.store 2) [.tm 11, .tm 74]] (.ops [w1 12 .mov [.cn (.int .i64 0)]] .leaf)))))))))))))))))))))
 .ret)))))))) }
theorem v11_is : vfunc Try.prog Try.f11 = some v11 := by kernel_rfl
def v12 : VF := { ntmps := 34, res := [.cell 4 true 2, .tmp 5], body :=
 (.seq (.region [u1 4 (.alloc [(.int .i64 0), (.int .i64 0)]) [],
 u1 5 .mov [.cn (.int .i64 0)]])
 (.seq (.seq (.region [u1 6 .mov [.tm 0],
 u1 7 .nilCheck [.tm 6],
 u1 8 (.fieldAddr 2) [.tm 7],
 u1 9 (.fieldAddr 0) [.tm 8],
 u1 10 (.load false 1) [.tm 9],
 u1 11 (.cmp .neq) [.tm 10, .cn (.int .i64 0)],
 u1 12 .mov [.tm 11],
 u2 13 12 false .mov [.tm 0],
 u2 14 12 false .nilCheck [.tm 13],
 u2 15 12 false (.fieldAddr 0) [.tm 14],
 u2 16 12 false (.fieldAddr 0) [.tm 15],
 u2 17 12 false (.load false 1) [.tm 16],
 u2 18 12 false (.cmp .lss) [.tm 17, .cn (.int .i64 1)],
 u1 19 .or [.tm 12, .tm 18],
 u1 20 .mov [.tm 19],
 u2 21 20 false .mov [.tm 0],
 u2 22 20 false .nilCheck [.tm 21],
 u2 23 20 false (.fieldAddr 0) [.tm 22],
 u2 24 20 false (.fieldAddr 1) [.tm 23],
 u2 25 20 false (.load false 1) [.tm 24],
 u2 26 20 false .mov [.tm 1],
 u2 27 20 false (.cmp .gtr) [.tm 25, .tm 26],
 u1 28 .or [.tm 20, .tm 27]])
 (.cond (.tm 28) (.seq (.region [u1 29 (.build [(.int .i64 0), (.int .i64 0)] []) [],
 u0 (.store 2) [.tm 4, .tm 29],
 u1 5 .mov [.cn (.int .i64 7)]])
 .ret)
  .skip))
 (.seq (.region [u1 30 .mov [.tm 0],
 u1 31 .nilCheck [.tm 30],
 u1 32 (.fieldAddr 0) [.tm 31],
 u1 33 (.load true 2) [.tm 32],
 u0 (.store 2) [.tm 4, .tm 33],
 u1 5 .mov [.cn (.int .i64 0)]])
 .ret))) }
theorem v12_is : vfunc Try.prog Try.f12 = some v12 := by kernel_rfl
def begH (B : Bdy) (x : Iv) (t : Int) : List HO := [.box [.int .i64 B.kind, .int .i64 B.bottom, .int .i64 B.top, .int .i64 B.mouth, .int .i64 B.cut], .box [.int .i64 x.1, .int .i64 x.2], .box [.int .i64 (bothF B).1, .int .i64 (bothF B).2], .box [.int .i64 (speedF t).1.1, .int .i64 (speedF t).1.2], .own false 1 4 (chunk 1 [.int .i64 0, .int .i64 500, .int .i64 250, .int .i64 500]), .box [.int .i64 (mouthF B).1, .int .i64 (mouthF B).2], .box [.int .i64 (endF B).1, .int .i64 (endF B).2], .box [.int .i64 (bothF B).1, .int .i64 (bothF B).2, .int .i64 (addF (mouthF B) (endF B)).2], .box [.int .i64 (wayF B t).1.1, .int .i64 (wayF B t).1.2, .int .i64 (wayF B t).2], .box [.int .i64 (wayF B t).1.1, .int .i64 (wayF B t).1.2], .box [.int .i64 (endF B).1, .int .i64 (endF B).2], .box [.int .i64 (bothF B).1, .int .i64 (bothF B).2]]
def begC : Ctr := { alias := false, of := fun l => match l with
  | [.agg [.int .i64 a, .int .i64 b, .int .i64 c, .int .i64 d, .int .i64 e], .agg [.int .i64 x0, .int .i64 x1], .int .i64 least, .int .i64 most, .int .i64 t] =>
    if chkB ⟨a, b, c, d, e⟩ = 0 then
      if (speedF t).2 ≠ 0 ∨ x0 < least ∨ x1 < x0 ∨ most < x1 then
        .fin (.tup [.val (.pointer none), .agg [.int .i64 0, .int .i64 0], .int .i64 2]) [.box [.int .i64 a, .int .i64 b, .int .i64 c, .int .i64 d, .int .i64 e], .box [.int .i64 x0, .int .i64 x1], .box [.int .i64 0, .int .i64 0], .box [.int .i64 (speedF t).1.1, .int .i64 (speedF t).1.2]]
      else .fin (.tup [.ptr 8 0, .agg [.int .i64 (bothF ⟨a, b, c, d, e⟩).1, .int .i64 (bothF ⟨a, b, c, d, e⟩).2], .int .i64 0]) (begH ⟨a, b, c, d, e⟩ (x0, x1) t)
    else .fin (.tup [.val (.pointer none), .agg [.int .i64 0, .int .i64 0], .int .i64 (chkB ⟨a, b, c, d, e⟩)]) [.box [.int .i64 a, .int .i64 b, .int .i64 c, .int .i64 d, .int .i64 e], .box [.int .i64 x0, .int .i64 x1], .box [.int .i64 0, .int .i64 0]]
  | _ => noC }
theorem beg_fresh (B : Bdy) (x : Iv) (t : Int) : freshS (.tup [.ptr 8 0, .agg [.int .i64 (bothF B).1, .int .i64 (bothF B).2], .int .i64 0]) ∧ freshH (begH B x t) := by
  refine ⟨by simp [freshS, freshL], ?_⟩
  simp only [begH, freshH, freshL, freshS, true_and, and_true]
  intro k hk
  match k, hk with
  | 0, _ => exact ⟨trivial, trivial⟩
  | 1, _ => exact ⟨trivial, trivial⟩
  | 2, _ => exact ⟨trivial, trivial⟩
  | 3, _ => exact ⟨trivial, trivial⟩
def L3 : Env := { ct := fun n => match n with | 20 => some chkBC | 21 => some speedC | 22 => some corC | 16 => some addC | 36 => some sclC | _ => none, fn := fun n => match n with | 13 => some v13 | 23 => some v23 | 24 => some v24 | _ => none, meth := fun _ _ => none, lo := fun n => match n with | 13 => true | 23 => true | _ => false }
theorem L3_ct20 : L3.ct 20 = some chkBC := rfl
theorem L3_ct21 : L3.ct 21 = some speedC := rfl
theorem L3_ct22 : L3.ct 22 = some corC := rfl
theorem L3_ct16 : L3.ct 16 = some addC := rfl
theorem L3_ct36 : L3.ct 36 = some sclC := rfl
theorem L3_ct13 : L3.ct 13 = none := rfl
theorem L3_fn13 : L3.fn 13 = some v13 := rfl
theorem L3_ct23 : L3.ct 23 = none := rfl
theorem L3_fn23 : L3.fn 23 = some v23 := rfl
theorem L3_ct24 : L3.ct 24 = none := rfl
theorem L3_fn24 : L3.fn 24 = some v24 := rfl
theorem L3_ok : EnvOk Try.prog L3 := by
  refine ⟨fun f c h => ?_, fun f vf h => ?_, (fun _ _ _ h => by cases h), by kernel_rfl, fun f h => ?_⟩
  · simp only [L3] at h
    split at h
    · cases h; exact ⟨chkB_c, Try.f20, Try.func20, by kernel_rfl, by kernel_rfl⟩
    · cases h; exact ⟨speed_c, Try.f21, Try.func21, by kernel_rfl, by kernel_rfl⟩
    · cases h; exact ⟨cor_c, Try.f22, Try.func22, by kernel_rfl, by kernel_rfl⟩
    · cases h; exact ⟨add_ok, Try.f16, Try.func16, by kernel_rfl, by kernel_rfl⟩
    · cases h; exact ⟨scl_ok, Try.f36, Try.func36, by kernel_rfl, by kernel_rfl⟩
    · cases h
  · simp only [L3] at h
    split at h
    · cases h; exact ⟨Try.f13, Try.func13, v13_is, Try.f13, Try.func13, by kernel_rfl, by kernel_rfl⟩
    · cases h; exact ⟨Try.f23, Try.func23, v23_is, Try.f23, Try.func23, by kernel_rfl, by kernel_rfl⟩
    · cases h; exact ⟨Try.f24, Try.func24, v24_is, Try.f24, Try.func24, by kernel_rfl, by kernel_rfl⟩
    · cases h
  · simp only [L3] at h
    split at h
    · kernel_rfl
    · kernel_rfl
    · cases h
theorem L3_lo13 : L3.lo 13 = true := rfl
theorem L3_lo23 : L3.lo 23 = true := rfl
theorem beg_c : begC.ok Try.prog 11 := by
  refine contract_own Try.func11 v11_is L3_ok 600 begC fun args k h => ?_
  simp only [begC] at h
  split at h
  · rename_i a b c d e x0 x1 least most t
    refine ⟨[.agg [.int .i64 a, .int .i64 b, .int .i64 c, .int .i64 d, .int .i64 e], .agg [.int .i64 x0, .int .i64 x1], .int .i64 least, .int .i64 most, .int .i64 t], by simp [leL, le], ?_⟩
    dsimp only [v11, L3_ct20, L3_ct21, L3_ct22, L3_ct16, L3_ct36, chkBC, speedC, corC, sclC, addC, iv2C, ivoC, enc2, L3_ct13, L3_fn13, L3_lo13, v13, L3_ct23, L3_fn23, L3_lo23, v23, L3_ct24, L3_fn24, v24, go_sem, reduceIte]
    simp only [t_all, forall_const, ne_eq, implies_true, Nat.reduceAdd, Nat.reduceLeDiff, reduceCtorEq, Nat.reduceEqDiff]
    refine ⟨fun hc => ?_, fun hc => ⟨by decide, by decide, fun hg => ?_, fun hg => ⟨by decide, hc, by decide, by decide, ?_⟩⟩⟩
    · rw [if_neg hc] at h
      exact ⟨h, by simp [freshS, freshL], by simp [freshH, freshL, freshS]⟩
    · rw [if_pos hc, if_pos (by simpa [or_assoc] using hg)] at h
      exact ⟨h, by simp [freshS, freshL], by simp [freshH, freshL, freshS]⟩
    · have hgood : k (.tup [.ptr 8 0, .agg [.int .i64 (bothF ⟨a, b, c, d, e⟩).1, .int .i64 (bothF ⟨a, b, c, d, e⟩).2], .int .i64 0]) (begH ⟨a, b, c, d, e⟩ (x0, x1) t) := by
        rw [if_pos hc, if_neg (fun hh => by
          simp only [Bool.or_eq_false_iff, Bool.not_eq_false', decide_eq_true_eq, decide_eq_false_iff_not] at hg
          omega)] at h
        exact h
      have hfr := beg_fresh ⟨a, b, c, d, e⟩ (x0, x1) t
      have ha : a = 1 ∨ a = 2 ∨ a = 3 := by
        obtain ⟨⟨h1, h2⟩, _⟩ := chkB_ok hc
        dsimp only at h1 h2; omega
      rcases ha with rfl | rfl | rfl
      · refine ⟨by decide, by decide, ?_, ?_⟩
        all_goals ((try dsimp only [Int.reduceToNat, Nat.reduceMul, Int.toNat_zero, Int.toNat_one, L3_ct20, L3_ct21, L3_ct22, L3_ct16, L3_ct36, chkBC, speedC, corC, sclC, addC, iv2C, ivoC, enc2, L3_ct13, L3_fn13, L3_lo13, v13, L3_ct23, L3_fn23, L3_lo23, v23, L3_ct24, L3_fn24, v24, go_sem, reduceIte]); (try simp only [t_all, forall_const, ne_eq, implies_true, Nat.reduceAdd, Nat.reduceLeDiff, reduceCtorEq, Nat.reduceEqDiff]))
        all_goals repeat' (first | exact ⟨hgood, hfr⟩ | apply And.intro | (refine enter_at _ (by ((try dsimp only [Int.reduceToNat, Nat.reduceMul, Int.toNat_zero, Int.toNat_one, L3_ct20, L3_ct21, L3_ct22, L3_ct16, L3_ct36, chkBC, speedC, corC, sclC, addC, iv2C, ivoC, enc2, L3_ct13, L3_fn13, L3_lo13, v13, L3_ct23, L3_fn23, L3_lo23, v23, L3_ct24, L3_fn24, v24, go_sem, reduceIte]); (try simp only [t_all, forall_const, ne_eq, implies_true, Nat.reduceAdd, Nat.reduceLeDiff, reduceCtorEq, Nat.reduceEqDiff])); exact ⟨by decide, by decide, rfl, fun hh => absurd trivial hh⟩) ?_; ((try dsimp only [Int.reduceToNat, Nat.reduceMul, Int.toNat_zero, Int.toNat_one, L3_ct20, L3_ct21, L3_ct22, L3_ct16, L3_ct36, chkBC, speedC, corC, sclC, addC, iv2C, ivoC, enc2, L3_ct13, L3_fn13, L3_lo13, v13, L3_ct23, L3_fn23, L3_lo23, v23, L3_ct24, L3_fn24, v24, go_sem, reduceIte]); (try simp only [t_all, forall_const, ne_eq, implies_true, Nat.reduceAdd, Nat.reduceLeDiff, reduceCtorEq, Nat.reduceEqDiff]))))
      · refine ⟨by decide, by decide, ?_, ?_⟩
        all_goals ((try dsimp only [Int.reduceToNat, Nat.reduceMul, Int.toNat_zero, Int.toNat_one, L3_ct20, L3_ct21, L3_ct22, L3_ct16, L3_ct36, chkBC, speedC, corC, sclC, addC, iv2C, ivoC, enc2, L3_ct13, L3_fn13, L3_lo13, v13, L3_ct23, L3_fn23, L3_lo23, v23, L3_ct24, L3_fn24, v24, go_sem, reduceIte]); (try simp only [t_all, forall_const, ne_eq, implies_true, Nat.reduceAdd, Nat.reduceLeDiff, reduceCtorEq, Nat.reduceEqDiff]))
        all_goals repeat' (first | exact ⟨hgood, hfr⟩ | apply And.intro | (refine enter_at _ (by ((try dsimp only [Int.reduceToNat, Nat.reduceMul, Int.toNat_zero, Int.toNat_one, L3_ct20, L3_ct21, L3_ct22, L3_ct16, L3_ct36, chkBC, speedC, corC, sclC, addC, iv2C, ivoC, enc2, L3_ct13, L3_fn13, L3_lo13, v13, L3_ct23, L3_fn23, L3_lo23, v23, L3_ct24, L3_fn24, v24, go_sem, reduceIte]); (try simp only [t_all, forall_const, ne_eq, implies_true, Nat.reduceAdd, Nat.reduceLeDiff, reduceCtorEq, Nat.reduceEqDiff])); exact ⟨by decide, by decide, rfl, fun hh => absurd trivial hh⟩) ?_; ((try dsimp only [Int.reduceToNat, Nat.reduceMul, Int.toNat_zero, Int.toNat_one, L3_ct20, L3_ct21, L3_ct22, L3_ct16, L3_ct36, chkBC, speedC, corC, sclC, addC, iv2C, ivoC, enc2, L3_ct13, L3_fn13, L3_lo13, v13, L3_ct23, L3_fn23, L3_lo23, v23, L3_ct24, L3_fn24, v24, go_sem, reduceIte]); (try simp only [t_all, forall_const, ne_eq, implies_true, Nat.reduceAdd, Nat.reduceLeDiff, reduceCtorEq, Nat.reduceEqDiff]))))
      · refine ⟨by decide, by decide, ?_, ?_⟩
        all_goals ((try dsimp only [Int.reduceToNat, Nat.reduceMul, Int.toNat_zero, Int.toNat_one, L3_ct20, L3_ct21, L3_ct22, L3_ct16, L3_ct36, chkBC, speedC, corC, sclC, addC, iv2C, ivoC, enc2, L3_ct13, L3_fn13, L3_lo13, v13, L3_ct23, L3_fn23, L3_lo23, v23, L3_ct24, L3_fn24, v24, go_sem, reduceIte]); (try simp only [t_all, forall_const, ne_eq, implies_true, Nat.reduceAdd, Nat.reduceLeDiff, reduceCtorEq, Nat.reduceEqDiff]))
        all_goals repeat' (first | exact ⟨hgood, hfr⟩ | apply And.intro | (refine enter_at _ (by ((try dsimp only [Int.reduceToNat, Nat.reduceMul, Int.toNat_zero, Int.toNat_one, L3_ct20, L3_ct21, L3_ct22, L3_ct16, L3_ct36, chkBC, speedC, corC, sclC, addC, iv2C, ivoC, enc2, L3_ct13, L3_fn13, L3_lo13, v13, L3_ct23, L3_fn23, L3_lo23, v23, L3_ct24, L3_fn24, v24, go_sem, reduceIte]); (try simp only [t_all, forall_const, ne_eq, implies_true, Nat.reduceAdd, Nat.reduceLeDiff, reduceCtorEq, Nat.reduceEqDiff])); exact ⟨by decide, by decide, rfl, fun hh => absurd trivial hh⟩) ?_; ((try dsimp only [Int.reduceToNat, Nat.reduceMul, Int.toNat_zero, Int.toNat_one, L3_ct20, L3_ct21, L3_ct22, L3_ct16, L3_ct36, chkBC, speedC, corC, sclC, addC, iv2C, ivoC, enc2, L3_ct13, L3_fn13, L3_lo13, v13, L3_ct23, L3_fn23, L3_lo23, v23, L3_ct24, L3_fn24, v24, go_sem, reduceIte]); (try simp only [t_all, forall_const, ne_eq, implies_true, Nat.reduceAdd, Nat.reduceLeDiff, reduceCtorEq, Nat.reduceEqDiff]))))
  · exact h.1.elim
end Go.Proofs.Ytijadllhfgajlaa
set_option linter.all false
namespace Go.Proofs.Ytijadllhfgajlaa
open Go Go.Vx
set_option maxRecDepth 100000
set_option maxHeartbeats 4000000
def v5 : VF := { ntmps := 31, res := [.cell 6 true 2, .tmp 7], body :=
 (.seq (.region [u1 3 .box [.tm 0],
 u1 4 .box [.tm 1],
 u1 6 (.alloc [(.int .i64 0), (.int .i64 0)]) [],
 u1 7 .mov [.cn (.int .i64 0)]])
 (.seq (.region [u1 12 (.load true 5) [.tm 3],
 u1 13 (.load true 2) [.tm 4],
 u1 14 .mov [.tm 2],
 u1 15 (.call 11) [.tm 12, .tm 13, .cn (.int .i64 1000), .cn (.int .i64 20000000), .tm 14],
 u1 11 .mov [.tm 15],
 u1 16 (.ext 0) [.tm 11],
 u1 17 (.ext 1) [.tm 11],
 u1 18 (.ext 2) [.tm 11],
 u1 9 (.alloc [(.int .i64 0), (.int .i64 0)]) [],
 u1 8 .mov [.tm 16],
 u0 (.store 2) [.tm 9, .tm 17],
 u1 10 .mov [.tm 18]])
 (.seq (.seq (.region [u1 19 .mov [.tm 10],
 u1 20 (.cmp .neq) [.tm 19, .cn (.int .i64 0)]])
 (.cond (.tm 20) (.seq (.region [u1 21 (.build [(.int .i64 0), (.int .i64 0)] []) [],
 u1 22 .mov [.tm 10],
 u0 (.store 2) [.tm 6, .tm 21],
 u1 7 .mov [.tm 22]])
 .ret)
  .skip))
 (.seq (.drawT [] (.ops [w1 23 .mov [.tm 8]] (.ops [w1 24 (.load true 2) [.tm 4]] (.br (.ops [w1 25 (.call 13) [.tm 23, .cn (.fn (.func 14) [] []), .tm 24]] (.ops [w1 26 (.load true 2) [.tm 9]] (.ops [w1 27 (.call 13) [.tm 25, .cn (.fn (.func 15) [] []), .tm 26]] (.ops [w1 28 (.call 12) [.tm 27, .cn (.int .i64 12000000)]] (.ops [w1 29 (.ext 0) [.tm 28]] (.ops [w1 30 (.ext 1) [.tm 28]] (.ops [w0 (.store 2) [.tm 6, .tm 29]] (.ops [w1 7 .mov [.tm 30]] .leaf))))))))
 (.ops [w1 26 (.load true 2) [.tm 9]] (.ops [w1 25 (.call 13) [.tm 23, .cn (.fn (.func 14) [] []), .tm 24]] (.ops [w1 27 (.call 13) [.tm 25, .cn (.fn (.func 15) [] []), .tm 26]] (.ops [w1 28 (.call 12) [.tm 27, .cn (.int .i64 12000000)]] (.ops [w1 29 (.ext 0) [.tm 28]] (.ops [w1 30 (.ext 1) [.tm 28]] (.ops [w0 (.store 2) [.tm 6, .tm 29]] (.ops [w1 7 .mov [.tm 30]] .leaf))))))))))))
 .ret)))) }
theorem v5_is : vfunc Try.prog Try.f5 = some v5 := by kernel_rfl
def v6 : VF := { ntmps := 38, res := [.cell 6 true 2, .tmp 7], body :=
 (.seq (.region [u1 3 .box [.tm 0],
 u1 4 .box [.tm 1],
 u1 6 (.alloc [(.int .i64 0), (.int .i64 0)]) [],
 u1 7 .mov [.cn (.int .i64 0)]])
 (.seq (.region [u1 13 (.load true 5) [.tm 3],
 u1 14 (.load true 2) [.tm 4],
 u1 15 .mov [.tm 2],
 u1 16 (.call 11) [.tm 13, .tm 14, .cn (.int .i64 1), .cn (.int .i64 12000000), .tm 15],
 u1 12 .mov [.tm 16],
 u1 17 (.ext 0) [.tm 12],
 u1 18 (.ext 1) [.tm 12],
 u1 19 (.ext 2) [.tm 12],
 u1 9 (.alloc [(.int .i64 0), (.int .i64 0)]) [],
 u1 8 .mov [.tm 17],
 u0 (.store 2) [.tm 9, .tm 18],
 u1 10 .mov [.tm 19]])
 (.seq (.seq (.region [u1 20 .mov [.tm 10],
 u1 21 (.cmp .neq) [.tm 20, .cn (.int .i64 0)]])
 (.cond (.tm 21) (.seq (.region [u1 22 (.build [(.int .i64 0), (.int .i64 0)] []) [],
 u1 23 .mov [.tm 10],
 u0 (.store 2) [.tm 6, .tm 22],
 u1 7 .mov [.tm 23]])
 .ret)
  .skip))
 (.seq (.region [u1 24 (.load true 2) [.tm 4],
 u1 25 (.build [(.int .i64 0), (.int .i64 0), (.int .i64 0)] [(0, 2)]) [.tm 24],
 u1 26 .box [.tm 25],
 u1 27 (.load true 2) [.tm 9],
 u1 28 (.call 13) [.tm 26, .cn (.fn (.func 16) [] []), .tm 27],
 u1 11 .mov [.tm 28]])
 (.seq (.region [u1 29 .mov [.tm 8],
 u1 30 .mov [.tm 11],
 u1 31 .nilCheck [.tm 30],
 u1 32 (.fieldAddr 0) [.tm 31],
 u1 33 (.load true 2) [.tm 32],
 u1 34 (.call 13) [.tm 29, .cn (.fn (.func 14) [] []), .tm 33],
 u1 35 (.call 12) [.tm 34, .cn (.int .i64 200000000)],
 u1 36 (.ext 0) [.tm 35],
 u1 37 (.ext 1) [.tm 35],
 u0 (.store 2) [.tm 6, .tm 36],
 u1 7 .mov [.tm 37]])
 .ret))))) }
theorem v6_is : vfunc Try.prog Try.f6 = some v6 := by kernel_rfl
def lenC : Ctr := { alias := false, of := fun l => match l with
  | [.agg [.int .i64 a, .int .i64 b, .int .i64 c, .int .i64 d, .int .i64 e], .agg [.int .i64 x0, .int .i64 x1], .int .i64 t] =>
    .fin (.tup [.agg (enc2 (lenF ⟨a, b, c, d, e⟩ (x0, x1) t).1), .int .i64 (lenF ⟨a, b, c, d, e⟩ (x0, x1) t).2]) []
  | _ => noC }
def pitC : Ctr := { alias := false, of := fun l => match l with
  | [.agg [.int .i64 a, .int .i64 b, .int .i64 c, .int .i64 d, .int .i64 e], .agg [.int .i64 x0, .int .i64 x1], .int .i64 t] =>
    .fin (.tup [.agg (enc2 (pitF ⟨a, b, c, d, e⟩ (x0, x1) t).1), .int .i64 (pitF ⟨a, b, c, d, e⟩ (x0, x1) t).2]) []
  | _ => noC }
theorem ans_len {k : SV → List HO → Prop} {al : Bool} {hp : List HO} {p : Iv} {e : Int} (h : k (.tup [.agg (enc2 p), .int .i64 e]) []) : answers al k (.tup [.agg [.int .i64 p.1, .int .i64 p.2], .int .i64 e]) hp :=
  ans_le (show k _ [] from h) (le_self (.tup [.agg [.int .i64 p.1, .int .i64 p.2], .int .i64 e]) ⟨⟨trivial, trivial, trivial⟩, trivial, trivial⟩) (fun _ => by simp [enc2, freshS, freshL])
def fitsC : Ctr := { alias := false, of := fun l => match l with
  | [.xp _ [.int .i64 lo, .int .i64 hi, .int .i64 e], .int .i64 most] => .fin (.tup [.agg (enc2 (fitsF (lo, hi) e most).1), .int .i64 (fitsF (lo, hi) e most).2]) []
  | _ => noC }
def L40 : Env := { ct := fun _ => none, fn := fun _ => none, meth := fun _ _ => none }
theorem L40_ok : EnvOk Try.prog L40 := by
  refine ⟨fun f c h => ?_, fun f vf h => ?_, (fun _ _ _ h => by cases h), by kernel_rfl, (fun _ h => by cases h)⟩
  · cases h
  · cases h
theorem fits_c : fitsC.ok Try.prog 12 := by
  refine contract Try.func12 v12_is L40_ok 200 fitsC fun args k h => ?_
  simp only [fitsC] at h
  split at h
  · rename_i tt lo hi e most
    refine ⟨[.xp tt [.int .i64 lo, .int .i64 hi, .int .i64 e], .int .i64 most], ⟨⟨id, leXL_self _⟩, ⟨rfl, rfl⟩, trivial⟩, ?_⟩
    dsimp only [v12, go_sem, reduceIte]
    simp only [t_all, forall_const, ne_eq, implies_true, Nat.reduceAdd, Nat.reduceLeDiff, reduceCtorEq, Nat.reduceEqDiff]
    refine ⟨fun hc => ?_, fun hc => ?_⟩
    · rw [show fitsF (lo, hi) e most = ((0, 0), 7) by
        rw [fitsF, if_pos]
        simp only [Bool.or_eq_true, Bool.not_eq_true', decide_eq_true_eq, decide_eq_false_iff_not] at hc
        simp only; omega] at h
      exact ans_len (p := (0, 0)) h
    · rw [show fitsF (lo, hi) e most = ((lo, hi), 0) by
        rw [fitsF, if_neg]
        simp only [Bool.or_eq_false_iff, Bool.not_eq_false', decide_eq_true_eq, decide_eq_false_iff_not] at hc
        simp only; omega] at h
      exact ans_len (p := (lo, hi)) h
  · exact h.1.elim
def L4 : Env := { ct := fun n => match n with | 11 => some begC | 14 => some quoC | 15 => some subC | 16 => some addC | 12 => some fitsC | _ => none, fn := fun n => match n with | 13 => some v13 | 24 => some v24 | _ => none, meth := fun _ _ => none, lo := fun n => match n with | 13 => true | _ => false }
theorem L4_ct11 : L4.ct 11 = some begC := rfl
theorem L4_ct14 : L4.ct 14 = some quoC := rfl
theorem L4_ct15 : L4.ct 15 = some subC := rfl
theorem L4_ct16 : L4.ct 16 = some addC := rfl
theorem L4_ct12 : L4.ct 12 = some fitsC := rfl
theorem L4_ct13 : L4.ct 13 = none := rfl
theorem L4_fn13 : L4.fn 13 = some v13 := rfl
theorem L4_ct24 : L4.ct 24 = none := rfl
theorem L4_fn24 : L4.fn 24 = some v24 := rfl
theorem L4_ok : EnvOk Try.prog L4 := by
  refine ⟨fun f c h => ?_, fun f vf h => ?_, (fun _ _ _ h => by cases h), by kernel_rfl, fun f h => ?_⟩
  · simp only [L4] at h
    split at h
    · cases h; exact ⟨beg_c, Try.f11, Try.func11, by kernel_rfl, by kernel_rfl⟩
    · cases h; exact ⟨quo_ok, Try.f14, Try.func14, by kernel_rfl, by kernel_rfl⟩
    · cases h; exact ⟨sub_ok, Try.f15, Try.func15, by kernel_rfl, by kernel_rfl⟩
    · cases h; exact ⟨add_ok, Try.f16, Try.func16, by kernel_rfl, by kernel_rfl⟩
    · cases h; exact ⟨fits_c, Try.f12, Try.func12, by kernel_rfl, by kernel_rfl⟩
    · cases h
  · simp only [L4] at h
    split at h
    · cases h; exact ⟨Try.f13, Try.func13, v13_is, Try.f13, Try.func13, by kernel_rfl, by kernel_rfl⟩
    · cases h; exact ⟨Try.f24, Try.func24, v24_is, Try.f24, Try.func24, by kernel_rfl, by kernel_rfl⟩
    · cases h
  · simp only [L4] at h
    split at h
    · kernel_rfl
    · cases h
theorem L4_lo13 : L4.lo 13 = true := rfl
theorem len_c : lenC.ok Try.prog 5 := by
  refine contract Try.func5 v5_is L4_ok 600 lenC fun args k h => ?_
  simp only [lenC] at h
  split at h
  · rename_i a b c d e x0 x1 t
    refine ⟨[.agg [.int .i64 a, .int .i64 b, .int .i64 c, .int .i64 d, .int .i64 e], .agg [.int .i64 x0, .int .i64 x1], .int .i64 t], by simp [leL, le], ?_⟩
    by_cases hc : chkB ⟨a, b, c, d, e⟩ = 0
    · by_cases hg : (speedF t).2 ≠ 0 ∨ x0 < 1000 ∨ x1 < x0 ∨ 20000000 < x1
      · dsimp only [v5, begC, L4_ct11, L4_ct14, L4_ct15, L4_ct16, quoC, subC, addC, iv2C, ivoC, enc2, L4_ct13, L4_fn13, L4_lo13, v13, L4_ct24, L4_fn24, v24, L4_ct12, fitsC, go_sem, reduceIte]
        simp only [if_pos hc, if_pos hg]
        ((try dsimp only [L4_ct11, L4_ct14, L4_ct15, L4_ct16, quoC, subC, addC, iv2C, ivoC, enc2, L4_ct13, L4_fn13, L4_lo13, v13, L4_ct24, L4_fn24, v24, L4_ct12, fitsC, go_sem, reduceIte]); (try simp only [t_all, forall_const, ne_eq, implies_true, Nat.reduceAdd, Nat.reduceLeDiff, reduceCtorEq, Nat.reduceEqDiff]))
        refine ⟨by decide, by decide, by decide, fun _ => ?_, fun hh => absurd hh (by decide)⟩
        rw [show lenF ⟨a, b, c, d, e⟩ (x0, x1) t = ((0, 0), 2) by rw [lenF, show begE ⟨a, b, c, d, e⟩ (x0, x1) 1000 20000000 t = 2 by rw [begE, if_neg (fun hh => hh hc), if_pos hg], if_pos (by decide)]] at h
        exact ans_len (p := (0, 0)) h
      · have hB : begE ⟨a, b, c, d, e⟩ (x0, x1) 1000 20000000 t = 0 := by rw [begE, if_neg (fun hh => hh hc), if_neg hg]
        have MW : (wayF ⟨a, b, c, d, e⟩ t).2 = 0 := way_e0 _ _
        have MQ : (quoF ((wayF ⟨a, b, c, d, e⟩ t).1.1, (wayF ⟨a, b, c, d, e⟩ t).1.2) (x0, x1)).2 = 0 := by
          obtain ⟨w0, w1, w2⟩ := way_is ⟨a, b, c, d, e⟩ t
          exact quo_e0 w0 w1 (by omega) (by simp only; omega) (by simp only; omega) (by simp only; omega)
        have hL : lenF ⟨a, b, c, d, e⟩ (x0, x1) t = fitsF (subF (quoF (wayF ⟨a, b, c, d, e⟩ t).1 (x0, x1)).1 (bothF ⟨a, b, c, d, e⟩)).1 (subF (quoF (wayF ⟨a, b, c, d, e⟩ t).1 (x0, x1)).1 (bothF ⟨a, b, c, d, e⟩)).2 12000000 := by
          rw [lenF, hB, if_neg (by decide), MW, show (quoF (wayF ⟨a, b, c, d, e⟩ t).1 (x0, x1)).2 = 0 from MQ]
          rfl
        rw [hL] at h
        dsimp only [v5, begC, L4_ct11, L4_ct14, L4_ct15, L4_ct16, quoC, subC, addC, iv2C, ivoC, enc2, L4_ct13, L4_fn13, L4_lo13, v13, L4_ct24, L4_fn24, v24, L4_ct12, fitsC, go_sem, reduceIte]
        simp only [if_pos hc, if_neg hg, begH, t_all, forall_const, ne_eq, implies_true, Nat.reduceAdd, Nat.reduceLeDiff, reduceCtorEq, Nat.reduceEqDiff]
        simp only [MW]
        ((try dsimp only [L4_ct11, L4_ct14, L4_ct15, L4_ct16, quoC, subC, addC, iv2C, ivoC, enc2, L4_ct13, L4_fn13, L4_lo13, v13, L4_ct24, L4_fn24, v24, L4_ct12, fitsC, go_sem, reduceIte]); (try simp only [t_all, forall_const, ne_eq, implies_true, Nat.reduceAdd, Nat.reduceLeDiff, reduceCtorEq, Nat.reduceEqDiff]))
        refine ⟨by decide, by decide, by decide, fun hh => absurd trivial hh, ?_⟩
        repeat' (first | exact ans_len h | (first | apply And.intro | (refine enter_at _ (by ((try dsimp only [L4_ct11, L4_ct14, L4_ct15, L4_ct16, quoC, subC, addC, iv2C, ivoC, enc2, L4_ct13, L4_fn13, L4_lo13, v13, L4_ct24, L4_fn24, v24, L4_ct12, fitsC, go_sem, reduceIte]); (try simp only [t_all, forall_const, ne_eq, implies_true, Nat.reduceAdd, Nat.reduceLeDiff, reduceCtorEq, Nat.reduceEqDiff])); exact ⟨by decide, by decide, rfl, fun hh => absurd trivial hh⟩) ?_; (try simp only [MW, MQ]); ((try dsimp only [L4_ct11, L4_ct14, L4_ct15, L4_ct16, quoC, subC, addC, iv2C, ivoC, enc2, L4_ct13, L4_fn13, L4_lo13, v13, L4_ct24, L4_fn24, v24, L4_ct12, fitsC, go_sem, reduceIte]); (try simp only [t_all, forall_const, ne_eq, implies_true, Nat.reduceAdd, Nat.reduceLeDiff, reduceCtorEq, Nat.reduceEqDiff])))) | decide)
    · dsimp only [v5, begC, L4_ct11, L4_ct14, L4_ct15, L4_ct16, quoC, subC, addC, iv2C, ivoC, enc2, L4_ct13, L4_fn13, L4_lo13, v13, L4_ct24, L4_fn24, v24, L4_ct12, fitsC, go_sem, reduceIte]
      simp only [if_neg hc]
      ((try dsimp only [L4_ct11, L4_ct14, L4_ct15, L4_ct16, quoC, subC, addC, iv2C, ivoC, enc2, L4_ct13, L4_fn13, L4_lo13, v13, L4_ct24, L4_fn24, v24, L4_ct12, fitsC, go_sem, reduceIte]); (try simp only [t_all, forall_const, ne_eq, implies_true, Nat.reduceAdd, Nat.reduceLeDiff, reduceCtorEq, Nat.reduceEqDiff]))
      refine ⟨by decide, by decide, by decide, fun _ => ?_, fun hh => absurd hh hc⟩
      rw [show lenF ⟨a, b, c, d, e⟩ (x0, x1) t = ((0, 0), chkB ⟨a, b, c, d, e⟩) by rw [lenF, show begE ⟨a, b, c, d, e⟩ (x0, x1) 1000 20000000 t = chkB ⟨a, b, c, d, e⟩ by rw [begE, if_pos hc], if_pos hc]] at h
      exact ans_len (p := (0, 0)) h
  · exact h.1.elim
theorem pit_c : pitC.ok Try.prog 6 := by
  refine contract Try.func6 v6_is L4_ok 600 pitC fun args k h => ?_
  simp only [pitC] at h
  split at h
  · rename_i a b c d e x0 x1 t
    refine ⟨[.agg [.int .i64 a, .int .i64 b, .int .i64 c, .int .i64 d, .int .i64 e], .agg [.int .i64 x0, .int .i64 x1], .int .i64 t], by simp [leL, le], ?_⟩
    by_cases hc : chkB ⟨a, b, c, d, e⟩ = 0
    · by_cases hg : (speedF t).2 ≠ 0 ∨ x0 < 1 ∨ x1 < x0 ∨ 12000000 < x1
      · dsimp only [v6, begC, L4_ct11, L4_ct14, L4_ct15, L4_ct16, quoC, subC, addC, iv2C, ivoC, enc2, L4_ct13, L4_fn13, L4_lo13, v13, L4_ct24, L4_fn24, v24, L4_ct12, fitsC, go_sem, reduceIte]
        simp only [if_pos hc, if_pos hg]
        ((try dsimp only [L4_ct11, L4_ct14, L4_ct15, L4_ct16, quoC, subC, addC, iv2C, ivoC, enc2, L4_ct13, L4_fn13, L4_lo13, v13, L4_ct24, L4_fn24, v24, L4_ct12, fitsC, go_sem, reduceIte]); (try simp only [t_all, forall_const, ne_eq, implies_true, Nat.reduceAdd, Nat.reduceLeDiff, reduceCtorEq, Nat.reduceEqDiff]))
        refine ⟨by decide, by decide, by decide, fun _ => ?_, fun hh => absurd hh (by decide)⟩
        rw [show pitF ⟨a, b, c, d, e⟩ (x0, x1) t = ((0, 0), 2) by rw [pitF, show begE ⟨a, b, c, d, e⟩ (x0, x1) 1 12000000 t = 2 by rw [begE, if_neg (fun hh => hh hc), if_pos hg], if_pos (by decide)]] at h
        exact ans_len (p := (0, 0)) h
      · have hB : begE ⟨a, b, c, d, e⟩ (x0, x1) 1 12000000 t = 0 := by rw [begE, if_neg (fun hh => hh hc), if_neg hg]
        have MW : (wayF ⟨a, b, c, d, e⟩ t).2 = 0 := way_e0 _ _
        have hL : pitF ⟨a, b, c, d, e⟩ (x0, x1) t = fitsF (quoF (wayF ⟨a, b, c, d, e⟩ t).1 (addF (x0, x1) (bothF ⟨a, b, c, d, e⟩)).1).1 (quoF (wayF ⟨a, b, c, d, e⟩ t).1 (addF (x0, x1) (bothF ⟨a, b, c, d, e⟩)).1).2 200000000 := by
          rw [pitF, hB, if_neg (by decide), MW]
          rfl
        rw [hL] at h
        dsimp only [v6, begC, L4_ct11, L4_ct14, L4_ct15, L4_ct16, quoC, subC, addC, iv2C, ivoC, enc2, L4_ct13, L4_fn13, L4_lo13, v13, L4_ct24, L4_fn24, v24, L4_ct12, fitsC, go_sem, reduceIte]
        simp only [if_pos hc, if_neg hg, begH, t_all, forall_const, ne_eq, implies_true, Nat.reduceAdd, Nat.reduceLeDiff, reduceCtorEq, Nat.reduceEqDiff]
        simp only [MW]
        ((try dsimp only [L4_ct11, L4_ct14, L4_ct15, L4_ct16, quoC, subC, addC, iv2C, ivoC, enc2, L4_ct13, L4_fn13, L4_lo13, v13, L4_ct24, L4_fn24, v24, L4_ct12, fitsC, go_sem, reduceIte]); (try simp only [t_all, forall_const, ne_eq, implies_true, Nat.reduceAdd, Nat.reduceLeDiff, reduceCtorEq, Nat.reduceEqDiff]))
        refine ⟨by decide, by decide, by decide, fun hh => absurd trivial hh, ?_⟩
        repeat' (first | exact ans_len h | exact fun hh => absurd trivial hh | (first | apply And.intro | (refine enter_at _ (by ((try dsimp only [L4_ct11, L4_ct14, L4_ct15, L4_ct16, quoC, subC, addC, iv2C, ivoC, enc2, L4_ct13, L4_fn13, L4_lo13, v13, L4_ct24, L4_fn24, v24, L4_ct12, fitsC, go_sem, reduceIte]); (try simp only [t_all, forall_const, ne_eq, implies_true, Nat.reduceAdd, Nat.reduceLeDiff, reduceCtorEq, Nat.reduceEqDiff])); exact ⟨by decide, by decide, rfl, fun hh => absurd trivial hh⟩) ?_; (try simp only [MW]); ((try dsimp only [L4_ct11, L4_ct14, L4_ct15, L4_ct16, quoC, subC, addC, iv2C, ivoC, enc2, L4_ct13, L4_fn13, L4_lo13, v13, L4_ct24, L4_fn24, v24, L4_ct12, fitsC, go_sem, reduceIte]); (try simp only [t_all, forall_const, ne_eq, implies_true, Nat.reduceAdd, Nat.reduceLeDiff, reduceCtorEq, Nat.reduceEqDiff])))) | decide)
    · dsimp only [v6, begC, L4_ct11, L4_ct14, L4_ct15, L4_ct16, quoC, subC, addC, iv2C, ivoC, enc2, L4_ct13, L4_fn13, L4_lo13, v13, L4_ct24, L4_fn24, v24, L4_ct12, fitsC, go_sem, reduceIte]
      simp only [if_neg hc]
      ((try dsimp only [L4_ct11, L4_ct14, L4_ct15, L4_ct16, quoC, subC, addC, iv2C, ivoC, enc2, L4_ct13, L4_fn13, L4_lo13, v13, L4_ct24, L4_fn24, v24, L4_ct12, fitsC, go_sem, reduceIte]); (try simp only [t_all, forall_const, ne_eq, implies_true, Nat.reduceAdd, Nat.reduceLeDiff, reduceCtorEq, Nat.reduceEqDiff]))
      refine ⟨by decide, by decide, by decide, fun _ => ?_, fun hh => absurd hh hc⟩
      rw [show pitF ⟨a, b, c, d, e⟩ (x0, x1) t = ((0, 0), chkB ⟨a, b, c, d, e⟩) by rw [pitF, show begE ⟨a, b, c, d, e⟩ (x0, x1) 1 12000000 t = chkB ⟨a, b, c, d, e⟩ by rw [begE, if_pos hc], if_pos hc]] at h
      exact ans_len (p := (0, 0)) h
  · exact h.1.elim
end Go.Proofs.Ytijadllhfgajlaa
set_option linter.all false
namespace Go.Proofs.Ytijadllhfgajlaa
open Go Go.Vx
set_option maxRecDepth 100000
def exB : Bdy := ⟨1, 50000, 50000, 40000, 10000⟩
theorem ex_chk : chkB exB = 0 := by decide +kernel
theorem ex_cor : mouthF exB = (71875, 71875) ∧ endF exB = (15332, 15333) := by decide +kernel
theorem ex_len : lenF exB (440000, 440000) 0 = ((289269, 289271), 0) := by decide +kernel
theorem ex_pit : (pitF exB (289270, 289270) 0).2 = 0 ∧ (pitF exB (289270, 289270) 0).1.1 ≤ 440000 ∧ 440000 ≤ (pitF exB (289270, 289270) 0).1.2 := by decide +kernel
theorem ex_high : (lenF exB (20000000, 20000000) 0).2 = 7 := by decide +kernel
end Go.Proofs.Ytijadllhfgajlaa
set_option linter.all false
namespace Go.Proofs.Ytijadllhfgajlaa
open Go Go.Vx
set_option maxRecDepth 100000
set_option maxHeartbeats 4000000
def v17 : VF := { ntmps := 20, res := [.cell 2 true 2, .cell 3 true 2, .tmp 4], body :=
 (.seq (.region [u1 1 .box [.tm 0],
 u1 2 (.alloc [(.int .i64 0), (.int .i64 0)]) [],
 u1 3 (.alloc [(.int .i64 0), (.int .i64 0)]) [],
 u1 4 .mov [.cn (.int .i64 0)]])
 (.seq (.seq (.region [u1 6 (.load true 5) [.tm 1],
 u1 7 (.call 20) [.tm 6],
 u1 5 .mov [.tm 7]])
 (.seq (.region [u1 8 .mov [.tm 5],
 u1 9 (.cmp .neq) [.tm 8, .cn (.int .i64 0)]])
 (.cond (.tm 9) (.seq (.region [u1 10 (.build [(.int .i64 0), (.int .i64 0)] []) [],
 u1 11 (.build [(.int .i64 0), (.int .i64 0)] []) [],
 u1 12 .mov [.tm 5],
 u0 (.store 2) [.tm 2, .tm 10],
 u0 (.store 2) [.tm 3, .tm 11],
 u1 4 .mov [.tm 12]])
 .ret)
  .skip)))
 (.seq (.region [u1 14 (.load true 5) [.tm 1],
 u1 15 (.call 22) [.tm 14],
 u1 13 .mov [.tm 15],
 u1 16 (.ext 0) [.tm 13],
 u1 17 (.ext 1) [.tm 13],
 u0 (.store 2) [.tm 2, .tm 16],
 u0 (.store 2) [.tm 3, .tm 17]])
 (.seq (.draw [] [w1 18 (.load true 2) [.tm 2],
 w1 19 (.load true 2) [.tm 3],
 ⟨u0 (.store 2) [.tm 2, .tm 18], [.tm 3]⟩,
 w0 (.store 2) [.tm 3, .tm 19],
 w1 4 .mov [.cn (.int .i64 0)]])
 .ret)))) }
theorem v17_is : vfunc Try.prog Try.f17 = some v17 := by kernel_rfl
def v7 : VF := { ntmps := 17, res := [.tmp 4], body :=
 (.seq (.region [u1 2 .box [.tm 0],
 u1 3 .box [.tm 1],
 u1 4 .mov [.cn (.bool false)]])
 (.seq (.region [u1 5 (.fieldAddr 0) [.tm 2],
 u1 6 (.load false 1) [.tm 5],
 u1 7 (.fieldAddr 0) [.tm 3],
 u1 8 (.load false 1) [.tm 7],
 u1 9 (.cmp .geq) [.tm 6, .tm 8],
 u1 10 .mov [.tm 9],
 u2 11 10 true (.fieldAddr 1) [.tm 2],
 u2 12 10 true (.load false 1) [.tm 11],
 u2 13 10 true (.fieldAddr 1) [.tm 3],
 u2 14 10 true (.load false 1) [.tm 13],
 u2 15 10 true (.cmp .leq) [.tm 12, .tm 14],
 u1 16 .and [.tm 10, .tm 15],
 u1 4 .mov [.tm 16]])
 .ret)) }
theorem v7_is : vfunc Try.prog Try.f7 = some v7 := by kernel_rfl
def v8 : VF := { ntmps := 73, res := [.tmp 0], body :=
 (.seq (.region [u1 0 .mov [.cn (.bool false)]])
 (.seq (.region [u1 11 (.call 18) [],
 u1 12 (.call 17) [.tm 11],
 u1 10 .mov [.tm 12],
 u1 13 (.ext 0) [.tm 10],
 u1 14 (.ext 1) [.tm 10],
 u1 15 (.ext 2) [.tm 10],
 u1 1 (.alloc [(.int .i64 0), (.int .i64 0)]) [],
 u1 2 (.alloc [(.int .i64 0), (.int .i64 0)]) [],
 u0 (.store 2) [.tm 1, .tm 13],
 u0 (.store 2) [.tm 2, .tm 14],
 u1 3 .mov [.tm 15]])
 (.seq (.region [u1 17 (.call 18) [],
 u1 18 (.call 10) [.cn (.int .i64 440000)],
 u1 19 (.call 5) [.tm 17, .tm 18, .cn (.int .i64 0)],
 u1 16 .mov [.tm 19],
 u1 20 (.ext 0) [.tm 16],
 u1 21 (.ext 1) [.tm 16],
 u1 4 (.alloc [(.int .i64 0), (.int .i64 0)]) [],
 u0 (.store 2) [.tm 4, .tm 20],
 u1 5 .mov [.tm 21]])
 (.seq (.region [u1 23 (.call 18) [],
 u1 24 (.call 10) [.cn (.int .i64 289270)],
 u1 25 (.call 6) [.tm 23, .tm 24, .cn (.int .i64 0)],
 u1 22 .mov [.tm 25],
 u1 26 (.ext 0) [.tm 22],
 u1 27 (.ext 1) [.tm 22],
 u1 6 (.alloc [(.int .i64 0), (.int .i64 0)]) [],
 u0 (.store 2) [.tm 6, .tm 26],
 u1 7 .mov [.tm 27]])
 (.seq (.region [u1 29 (.call 18) [],
 u1 30 (.call 10) [.cn (.int .i64 20000000)],
 u1 31 (.call 5) [.tm 29, .tm 30, .cn (.int .i64 0)],
 u1 28 .mov [.tm 31],
 u1 32 (.ext 0) [.tm 28],
 u1 33 (.ext 1) [.tm 28],
 u1 8 (.alloc [(.int .i64 0), (.int .i64 0)]) [],
 u0 (.store 2) [.tm 8, .tm 32],
 u1 9 .mov [.tm 33]])
 (.seq (.draw [] [w1 34 .mov [.tm 3],
 w1 35 (.cmp .eql) [.tm 34, .cn (.int .i64 0)],
 w1 36 .mov [.tm 35],
 ⟨u2 37 36 true .mov [.tm 5], []⟩,
 ⟨u2 38 36 true (.cmp .eql) [.tm 37, .cn (.int .i64 0)], []⟩,
 w1 39 .and [.tm 36, .tm 38],
 w1 40 .mov [.tm 39],
 ⟨u2 41 40 true .mov [.tm 7], []⟩,
 ⟨u2 42 40 true (.cmp .eql) [.tm 41, .cn (.int .i64 0)], []⟩,
 w1 43 .and [.tm 40, .tm 42],
 w1 44 .mov [.tm 43],
 ⟨u2 45 44 true .mov [.tm 9], []⟩,
 ⟨u2 46 44 true (.cmp .eql) [.tm 45, .cn (.int .i64 7)], []⟩,
 w1 47 .and [.tm 44, .tm 46],
 w1 48 .mov [.tm 47],
 ⟨u2 49 48 true (.load true 2) [.tm 1], []⟩,
 ⟨u2 50 48 true (.call 10) [.cn (.int .i64 71875)], []⟩,
 ⟨u2 51 48 true (.eqv false [true, true]) [.tm 49, .tm 50], []⟩,
 w1 52 .and [.tm 48, .tm 51],
 w1 53 .mov [.tm 52],
 ⟨u2 54 53 true (.load true 2) [.tm 2], []⟩,
 ⟨u2 55 53 true (.build [(.int .i64 0), (.int .i64 0)] [(0, 1), (1, 1)]) [.cn (.int .i64 15332), .cn (.int .i64 15333)], []⟩,
 ⟨u2 56 53 true (.eqv false [true, true]) [.tm 54, .tm 55], []⟩,
 w1 57 .and [.tm 53, .tm 56],
 w1 58 .mov [.tm 57],
 ⟨u2 59 58 true (.load true 2) [.tm 4], []⟩,
 ⟨u2 60 58 true (.build [(.int .i64 0), (.int .i64 0)] [(0, 1), (1, 1)]) [.cn (.int .i64 289269), .cn (.int .i64 289271)], []⟩,
 ⟨u2 61 58 true (.eqv false [true, true]) [.tm 59, .tm 60], []⟩,
 w1 62 .and [.tm 58, .tm 61],
 w1 63 .mov [.tm 62],
 ⟨u2 64 63 true (.fieldAddr 0) [.tm 6], []⟩,
 ⟨u2 65 63 true (.load false 1) [.tm 64], []⟩,
 ⟨u2 66 63 true (.cmp .leq) [.tm 65, .cn (.int .i64 440000)], []⟩,
 w1 67 .and [.tm 63, .tm 66],
 w1 68 .mov [.tm 67],
 ⟨u2 69 68 true (.fieldAddr 1) [.tm 6], []⟩,
 ⟨u2 70 68 true (.load false 1) [.tm 69], []⟩,
 ⟨u2 71 68 true (.cmp .geq) [.tm 70, .cn (.int .i64 440000)], []⟩,
 w1 72 .and [.tm 68, .tm 71],
 w1 0 .mov [.tm 72]])
 .ret)))))) }
theorem v8_is : vfunc Try.prog Try.f8 = some v8 := by kernel_rfl
def v18 : VF := { ntmps := 2, res := [.cell 0 true 5], body :=
 (.seq (.region [u1 0 (.alloc [(.int .i64 0), (.int .i64 0), (.int .i64 0), (.int .i64 0), (.int .i64 0)]) []])
 (.seq (.region [u1 1 (.build [(.int .i64 0), (.int .i64 0), (.int .i64 0), (.int .i64 0), (.int .i64 0)] [(0, 1), (1, 1), (2, 1), (3, 1), (4, 1)]) [.cn (.int .i64 1), .cn (.int .i64 50000), .cn (.int .i64 50000), .cn (.int .i64 40000), .cn (.int .i64 10000)],
 u0 (.store 5) [.tm 0, .tm 1]])
 .ret)) }
theorem v18_is : vfunc Try.prog Try.f18 = some v18 := by kernel_rfl
def v10 : VF := { ntmps := 6, res := [.cell 2 true 2], body :=
 (.seq (.region [u1 2 (.alloc [(.int .i64 0), (.int .i64 0)]) []])
 (.seq (.region [u1 3 .mov [.tm 0],
 u1 4 .mov [.tm 0],
 u1 5 (.build [(.int .i64 0), (.int .i64 0)] [(0, 1), (1, 1)]) [.tm 3, .tm 4],
 u0 (.store 2) [.tm 2, .tm 5]])
 .ret)) }
theorem v10_is : vfunc Try.prog Try.f10 = some v10 := by kernel_rfl
def v3 : VF := { ntmps := 81, res := [.tmp 6], body :=
 (.seq (.region [u1 3 .box [.tm 0],
 u1 4 .box [.tm 1],
 u1 6 .mov [.cn (.bool false)]])
 (.seq (.region [u1 15 (.load true 5) [.tm 3],
 u1 16 (.load true 2) [.tm 4],
 u1 17 .mov [.tm 2],
 u1 18 (.call 5) [.tm 15, .tm 16, .tm 17],
 u1 14 .mov [.tm 18],
 u1 19 (.ext 0) [.tm 14],
 u1 20 (.ext 1) [.tm 14],
 u1 7 (.alloc [(.int .i64 0), (.int .i64 0)]) [],
 u0 (.store 2) [.tm 7, .tm 19],
 u1 8 .mov [.tm 20]])
 (.seq (.seq (.region [u1 21 .mov [.tm 8],
 u1 22 (.cmp .eql) [.tm 21, .cn (.int .i64 0)]])
 (.cond (.tm 22) (.seq (.region [u1 24 (.load true 5) [.tm 3],
 u1 25 (.load true 2) [.tm 7],
 u1 26 .mov [.tm 2],
 u1 27 (.call 6) [.tm 24, .tm 25, .tm 26],
 u1 23 .mov [.tm 27],
 u1 28 (.ext 0) [.tm 23],
 u1 29 (.ext 1) [.tm 23],
 u1 9 (.alloc [(.int .i64 0), (.int .i64 0)]) [],
 u0 (.store 2) [.tm 9, .tm 28],
 u1 10 .mov [.tm 29]])
 (.seq (.region [u1 30 .mov [.tm 10],
 u1 31 (.cmp .eql) [.tm 30, .cn (.int .i64 0)],
 u1 32 .mov [.tm 31],
 u2 33 32 true (.load true 2) [.tm 4],
 u2 34 32 true (.load true 2) [.tm 9],
 u2 35 32 true (.call 7) [.tm 33, .tm 34],
 u2 36 32 true .not [.tm 35],
 u1 37 .and [.tm 32, .tm 36],
 u1 38 .mov [.tm 37],
 u2 39 38 false .mov [.tm 10],
 u2 40 38 false (.cmp .eql) [.tm 39, .cn (.int .i64 2)],
 u1 41 .or [.tm 38, .tm 40]])
 (.cond (.tm 41) (.seq (.region [u1 6 .mov [.cn (.bool false)]])
 .ret)
  .skip)))
  .skip))
 (.seq (.region [u1 43 (.load true 5) [.tm 3],
 u1 44 (.load true 2) [.tm 4],
 u1 45 .mov [.tm 2],
 u1 46 (.call 6) [.tm 43, .tm 44, .tm 45],
 u1 42 .mov [.tm 46],
 u1 47 (.ext 0) [.tm 42],
 u1 48 (.ext 1) [.tm 42],
 u1 11 (.alloc [(.int .i64 0), (.int .i64 0)]) [],
 u0 (.store 2) [.tm 11, .tm 47],
 u1 8 .mov [.tm 48]])
 (.seq (.seq (.region [u1 49 .mov [.tm 8],
 u1 50 (.cmp .eql) [.tm 49, .cn (.int .i64 0)],
 u1 51 .mov [.tm 50],
 u2 52 51 true (.fieldAddr 0) [.tm 11],
 u2 53 51 true (.load false 1) [.tm 52],
 u2 54 51 true (.cmp .geq) [.tm 53, .cn (.int .i64 1000)],
 u1 55 .and [.tm 51, .tm 54],
 u1 56 .mov [.tm 55],
 u2 57 56 true (.fieldAddr 1) [.tm 11],
 u2 58 56 true (.load false 1) [.tm 57],
 u2 59 56 true (.cmp .leq) [.tm 58, .cn (.int .i64 20000000)],
 u1 60 .and [.tm 56, .tm 59]])
 (.cond (.tm 60) (.seq (.region [u1 62 (.load true 5) [.tm 3],
 u1 63 (.load true 2) [.tm 11],
 u1 64 .mov [.tm 2],
 u1 65 (.call 5) [.tm 62, .tm 63, .tm 64],
 u1 61 .mov [.tm 65],
 u1 66 (.ext 0) [.tm 61],
 u1 67 (.ext 1) [.tm 61],
 u1 12 (.alloc [(.int .i64 0), (.int .i64 0)]) [],
 u0 (.store 2) [.tm 12, .tm 66],
 u1 13 .mov [.tm 67]])
 (.seq (.region [u1 68 .mov [.tm 13],
 u1 69 (.cmp .eql) [.tm 68, .cn (.int .i64 0)],
 u1 70 .mov [.tm 69],
 u2 71 70 true (.load true 2) [.tm 4],
 u2 72 70 true (.load true 2) [.tm 12],
 u2 73 70 true (.call 7) [.tm 71, .tm 72],
 u2 74 70 true .not [.tm 73],
 u1 75 .and [.tm 70, .tm 74],
 u1 76 .mov [.tm 75],
 u2 77 76 false .mov [.tm 13],
 u2 78 76 false (.cmp .eql) [.tm 77, .cn (.int .i64 2)],
 u1 79 .or [.tm 76, .tm 78]])
 (.cond (.tm 79) (.seq (.region [u1 6 .mov [.cn (.bool false)]])
 .ret)
  .skip)))
  .skip))
 (.seq (.region [u1 80 (.call 8) [],
 u1 6 .mov [.tm 80]])
 .ret)))))) }
def crsC : Ctr := { alias := false, of := fun l => match l with
  | [.agg [.int .i64 a, .int .i64 b, .int .i64 c, .int .i64 d, .int .i64 e]] =>
    if chkB ⟨a, b, c, d, e⟩ = 0 then .fin (.tup [.agg (enc2 (mouthF ⟨a, b, c, d, e⟩)), .agg (enc2 (endF ⟨a, b, c, d, e⟩)), .int .i64 0]) []
    else .fin (.tup [.agg (enc2 (0, 0)), .agg (enc2 (0, 0)), .int .i64 (chkB ⟨a, b, c, d, e⟩)]) []
  | _ => noC }
theorem ans_crs {k : SV → List HO → Prop} {al : Bool} {hp : List HO} {p q : Iv} {e : Int} (h : k (.tup [.agg (enc2 p), .agg (enc2 q), .int .i64 e]) []) : answers al k (.tup [.agg [.int .i64 p.1, .int .i64 p.2], .agg [.int .i64 q.1, .int .i64 q.2], .int .i64 e]) hp :=
  ans_le (show k _ [] from h) (le_self (.tup [.agg [.int .i64 p.1, .int .i64 p.2], .agg [.int .i64 q.1, .int .i64 q.2], .int .i64 e]) ⟨⟨trivial, trivial, trivial⟩, ⟨trivial, trivial, trivial⟩, trivial, trivial⟩) (fun _ => by simp [enc2, freshS, freshL])
def L5 : Env := { ct := fun n => match n with | 20 => some chkBC | 22 => some corC | _ => none, fn := fun _ => none, meth := fun _ _ => none }
theorem L5_ct20 : L5.ct 20 = some chkBC := rfl
theorem L5_ct22 : L5.ct 22 = some corC := rfl
theorem L5_ok : EnvOk Try.prog L5 := by
  refine ⟨fun f c h => ?_, fun f vf h => ?_, (fun _ _ _ h => by cases h), by kernel_rfl, (fun _ h => by cases h)⟩
  · simp only [L5] at h
    split at h
    · cases h; exact ⟨chkB_c, Try.f20, Try.func20, by kernel_rfl, by kernel_rfl⟩
    · cases h; exact ⟨cor_c, Try.f22, Try.func22, by kernel_rfl, by kernel_rfl⟩
    · cases h
  · cases h
theorem crs_c : crsC.ok Try.prog 17 := by
  refine contract Try.func17 v17_is L5_ok 200 crsC fun args k h => ?_
  simp only [crsC] at h
  split at h
  · rename_i a b c d e
    refine ⟨[.agg [.int .i64 a, .int .i64 b, .int .i64 c, .int .i64 d, .int .i64 e]], by simp [leL, le], ?_⟩
    dsimp only [v17, L5_ct20, L5_ct22, chkBC, corC, enc2, go_sem, reduceIte]
    simp only [t_all, forall_const, ne_eq, implies_true, Nat.reduceAdd, Nat.reduceLeDiff, reduceCtorEq, Nat.reduceEqDiff]
    refine ⟨fun hc => ?_, fun hc => ⟨hc, by decide, by decide, ?_⟩⟩
    · rw [if_neg hc] at h; exact ans_crs (p := (0, 0)) (q := (0, 0)) h
    · rw [if_pos hc] at h
      exact ans_crs h
  · exact h.1.elim
def nivC : Ctr := { alias := false, of := fun l => match l with
  | [.int .i64 n] => .fin (.agg [.int .i64 n, .int .i64 n]) []
  | _ => .pre False (.fin (.agg [.int .i64 0, .int .i64 0]) []) }
def L60 : Env := { ct := fun _ => none, fn := fun _ => none, meth := fun _ _ => none }
theorem L60_ok : EnvOk Try.prog L60 := by
  refine ⟨fun f c h => ?_, fun f vf h => ?_, (fun _ _ _ h => by cases h), by kernel_rfl, (fun _ h => by cases h)⟩
  · cases h
  · cases h
theorem niv_c : nivC.ok Try.prog 10 := by
  refine contract Try.func10 v10_is L60_ok 100 nivC fun args k h => ?_
  simp only [nivC] at h
  split at h
  · rename_i n
    refine ⟨[.int .i64 n], by simp [leL, le], ?_⟩
    dsimp only [v10, go_sem, reduceIte]
    simp only [t_all, forall_const, ne_eq, implies_true, Nat.reduceAdd, Nat.reduceLeDiff, reduceCtorEq, Nat.reduceEqDiff]
    exact ans_ii2 h
  · exact h.1.elim
def L6 : Env := { ct := fun n => match n with | 10 => some nivC | 17 => some crsC | 5 => some lenC | 6 => some pitC | _ => none, fn := fun n => match n with | 18 => some v18 | _ => none, meth := fun _ _ => none }
theorem L6_ct10 : L6.ct 10 = some nivC := rfl
theorem L6_ct17 : L6.ct 17 = some crsC := rfl
theorem L6_ct5 : L6.ct 5 = some lenC := rfl
theorem L6_ct6 : L6.ct 6 = some pitC := rfl
theorem L6_ct18 : L6.ct 18 = none := rfl
theorem L6_fn18 : L6.fn 18 = some v18 := rfl
theorem L6_ok : EnvOk Try.prog L6 := by
  refine ⟨fun f c h => ?_, fun f vf h => ?_, (fun _ _ _ h => by cases h), by kernel_rfl, (fun _ h => by cases h)⟩
  · simp only [L6] at h
    split at h
    · cases h; exact ⟨niv_c, Try.f10, Try.func10, by kernel_rfl, by kernel_rfl⟩
    · cases h; exact ⟨crs_c, Try.f17, Try.func17, by kernel_rfl, by kernel_rfl⟩
    · cases h; exact ⟨len_c, Try.f5, Try.func5, by kernel_rfl, by kernel_rfl⟩
    · cases h; exact ⟨pit_c, Try.f6, Try.func6, by kernel_rfl, by kernel_rfl⟩
    · cases h
  · simp only [L6] at h
    split at h
    · cases h; exact ⟨Try.f18, Try.func18, v18_is, Try.f18, Try.func18, by kernel_rfl, by kernel_rfl⟩
    · cases h
theorem ex_chk' : chkB { kind := 1, bottom := 50000, top := 50000, mouth := 40000, cut := 10000 } = 0 := ex_chk
theorem shown_c : trueC.ok Try.prog 8 := by
  refine contract Try.func8 v8_is L6_ok 400 trueC fun args k h => ?_
  simp only [trueC] at h
  split at h
  · refine ⟨[], by simp [leL, le], ?_⟩
    dsimp only [v8, L6_ct17, L6_ct5, L6_ct6, crsC, lenC, pitC, enc2, L6_ct18, L6_fn18, v18, L6_ct10, nivC, go_sem, reduceIte]
    simp only [t_all, forall_const, ne_eq, implies_true, Nat.reduceAdd, Nat.reduceLeDiff, reduceCtorEq, Nat.reduceEqDiff]
    simp only [if_pos ex_chk']
    (try dsimp only [v8, L6_ct17, L6_ct5, L6_ct6, crsC, lenC, pitC, enc2, L6_ct18, L6_fn18, v18, L6_ct10, nivC, go_sem, reduceIte]); (try simp only [t_all, forall_const, ne_eq, implies_true, Nat.reduceAdd, Nat.reduceLeDiff, reduceCtorEq, Nat.reduceEqDiff])
    refine ⟨by decide, by decide, by decide, by decide, by decide, by decide, by decide, by decide, by decide, ?_⟩
    obtain ⟨c1, c2⟩ := ex_cor
    have l1 := ex_len
    have l2 := ex_high
    obtain ⟨p1, p2, p3⟩ := ex_pit
    unfold exB at c1 c2 l1 l2 p1 p2 p3
    rw [l2, p1, l1, c1, c2, decide_eq_true p2, decide_eq_true p3]
    exact ans_bool h
  · exact h.1.elim
def shB : List Sh := [.int .i64, .int .i64, .int .i64, .int .i64, .int .i64]
def winC : Ctr := { alias := false, of := fun l => match l with
  | [.agg [.int .i64 a, .int .i64 b], .agg [.int .i64 c, .int .i64 d]] => .fin (.bool (withinF (a, b) (c, d))) []
  | _ => .pre False (.fin (.bool false) []) }
theorem win_c : winC.ok Try.prog 7 := by
  refine contract Try.func7 v7_is L60_ok 100 winC fun args k h => ?_
  simp only [winC] at h
  split at h
  · rename_i a b c d
    refine ⟨[.agg [.int .i64 a, .int .i64 b], .agg [.int .i64 c, .int .i64 d]], by simp [leL, le], ?_⟩
    dsimp only [v7, go_sem, reduceIte]
    simp only [t_all, forall_const, ne_eq, implies_true, Nat.reduceAdd, Nat.reduceLeDiff, reduceCtorEq, Nat.reduceEqDiff]
    exact ans_bool h
  · exact h.1.elim
end Go.Proofs.Ytijadllhfgajlaa
set_option linter.all false
namespace Go.Proofs.Ytijadllhfgajlaa
open Go Go.Vx
def cdiv (x d : Nat) : Nat := if x / d * d < x then x / d + 1 else x / d
theorem cdiv_mul (x d : Nat) (hd : 0 < d) : x ≤ cdiv x d * d := by
  have h := Nat.div_add_mod x d
  have h2 := Nat.mod_lt x hd
  rw [Nat.mul_comm] at h
  unfold cdiv
  split
  · rw [Nat.add_mul, Nat.one_mul]; omega
  · omega
theorem cdiv_le {x d k : Nat} (h : x ≤ k * d) : cdiv x d ≤ k := by
  unfold cdiv
  rcases Nat.eq_zero_or_pos d with h0 | h0
  · subst h0
    simp only [Nat.mul_zero, Nat.div_zero] at *
    split <;> omega
  split
  · rename_i h1
    rw [Nat.lt_iff_add_one_le] at *
    refine Nat.lt_of_mul_lt_mul_right (a := d) ?_
    omega
  · exact Nat.div_le_of_le_mul (by rw [Nat.mul_comm]; exact h)
theorem le_cdiv (x d : Nat) : x / d ≤ cdiv x d := by
  unfold cdiv
  split <;> omega
theorem div_cdiv {x y d : Nat} (h : x ≤ y) : x / d ≤ cdiv y d := Nat.le_trans (Nat.div_le_div_right h) (le_cdiv y d)
theorem cdiv_cdiv {x d : Nat} (hd : 0 < d) : cdiv (cdiv x d) 2 = cdiv x (d * 2) := by
  refine Nat.le_antisymm (cdiv_le (cdiv_le ?_)) (cdiv_le ?_)
  · have := cdiv_mul x (d * 2) (by omega)
    rw [Nat.mul_assoc, Nat.mul_comm 2 d]; exact this
  · have h1 := cdiv_mul x d hd
    have h2 := Nat.mul_le_mul_right d (cdiv_mul (cdiv x d) 2 (by decide))
    rw [Nat.mul_comm d 2, ← Nat.mul_assoc]; omega
def gl (M : Nat) (t : Bool) : Nat → Nat → Nat → Nat → Nat × Nat
  | 0, _, _, S => (S, S + 1)
  | f + 1, A, B, S =>
    if A * A / M < 2 * M then
      if cdiv (B * B) M < 2 * M then gl M t f (A * A / M) (cdiv (B * B) M) (2 * S)
      else (S * 2 ^ (f + 1), (S + 1) * 2 ^ (f + 1))
    else
      if (t && decide (2 * M ≤ cdiv (cdiv (B * B) M) 2)) = true then (S * 2 ^ (f + 1), (S + 1) * 2 ^ (f + 1))
      else gl M t f (A * A / M / 2) (cdiv (cdiv (B * B) M) 2) (2 * S + 1)
theorem gl_any (M : Nat) (t : Bool) : ∀ (f A B S : Nat), S * 2 ^ f ≤ (gl M t f A B S).1 ∧ (gl M t f A B S).2 ≤ (S + 1) * 2 ^ f
  | 0, A, B, S => by simp [gl]
  | f + 1, A, B, S => by
    have e1 : ∀ x, x * 2 ^ (f + 1) = x * 2 * 2 ^ f := fun x => by rw [Nat.pow_succ, Nat.mul_assoc, Nat.mul_comm 2 (2 ^ f)]
    have m : ∀ x y, x ≤ y → x * 2 ^ f ≤ y * 2 ^ f := fun x y h => Nat.mul_le_mul_right _ h
    rw [gl]
    split
    · split
      · obtain ⟨h1, h2⟩ := gl_any M t f (A * A / M) (cdiv (B * B) M) (2 * S)
        rw [e1, e1]
        exact ⟨Nat.le_trans (m _ _ (by omega)) h1, Nat.le_trans h2 (m _ _ (by omega))⟩
      · exact ⟨Nat.le_refl _, Nat.le_refl _⟩
    · split
      · exact ⟨Nat.le_refl _, Nat.le_refl _⟩
      · obtain ⟨h1, h2⟩ := gl_any M t f (A * A / M / 2) (cdiv (cdiv (B * B) M) 2) (2 * S + 1)
        rw [e1, e1]
        exact ⟨Nat.le_trans (m _ _ (by omega)) h1, Nat.le_trans h2 (m _ _ (by omega))⟩
theorem sq_low {P A N M A1 : Nat} (hM : 0 < M) (h : P * A ≤ N * M) (h1 : A1 * M ≤ A * A) : P * P * A1 ≤ N * N * M := by
  refine Nat.le_of_mul_le_mul_right (c := M) ?_ hM
  have k1 : P * P * (A1 * M) ≤ P * P * (A * A) := Nat.mul_le_mul_left _ h1
  have k2 : (P * A) * (P * A) ≤ (N * M) * (N * M) := Nat.mul_le_mul h h
  have e1 : P * P * A1 * M = P * P * (A1 * M) := Nat.mul_assoc ..
  have e2 : P * P * (A * A) = (P * A) * (P * A) := by simp only [Nat.mul_assoc, Nat.mul_left_comm]
  have e3 : (N * M) * (N * M) = N * N * M * M := by simp only [Nat.mul_assoc, Nat.mul_left_comm]
  omega
theorem sq_high {P B N M B1 : Nat} (hM : 0 < M) (h : N * M ≤ P * B) (h1 : B * B ≤ B1 * M) : N * N * M ≤ P * P * B1 := by
  refine Nat.le_of_mul_le_mul_right (c := M) ?_ hM
  have k1 : P * P * (B * B) ≤ P * P * (B1 * M) := Nat.mul_le_mul_left _ h1
  have k2 : (N * M) * (N * M) ≤ (P * B) * (P * B) := Nat.mul_le_mul h h
  have e1 : P * P * B1 * M = P * P * (B1 * M) := Nat.mul_assoc ..
  have e2 : P * P * (B * B) = (P * B) * (P * B) := by simp only [Nat.mul_assoc, Nat.mul_left_comm]
  have e3 : (N * M) * (N * M) = N * N * M * M := by simp only [Nat.mul_assoc, Nat.mul_left_comm]
  omega
theorem pow_dbl (S : Nat) : 2 ^ (2 * S) = 2 ^ S * 2 ^ S := by rw [← Nat.pow_add]; congr 1; omega
theorem pow_sq (N f : Nat) : N ^ (2 ^ (f + 1)) = (N * N) ^ (2 ^ f) := by
  rw [Nat.pow_succ, Nat.mul_comm (2 ^ f) 2, Nat.pow_mul, Nat.pow_two]
theorem gl_sound (M : Nat) (t : Bool) (hM : 0 < M) : ∀ (f A B S N : Nat), 2 ^ S * A ≤ N * M → N * M ≤ 2 ^ S * B → M ≤ A → B ≤ 2 * M → 2 ^ (gl M t f A B S).1 ≤ N ^ (2 ^ f) ∧ N ^ (2 ^ f) ≤ 2 ^ (gl M t f A B S).2 := by
  have stop : ∀ (f A B S N : Nat), 2 ^ S * A ≤ N * M → N * M ≤ 2 ^ S * B → M ≤ A → B ≤ 2 * M → 2 ^ S ≤ N ∧ N ≤ 2 ^ (S + 1) := by
    intro f A B S N h1 h2 ha hb
    constructor
    · refine Nat.le_of_mul_le_mul_right (c := M) ?_ hM
      have := Nat.mul_le_mul_left (2 ^ S) ha
      omega
    · refine Nat.le_of_mul_le_mul_right (c := M) ?_ hM
      have := Nat.mul_le_mul_left (2 ^ S) hb
      rw [Nat.pow_succ, Nat.mul_assoc]
      omega
  have stop2 : ∀ (f S N : Nat), 2 ^ S ≤ N ∧ N ≤ 2 ^ (S + 1) → 2 ^ (S * 2 ^ f) ≤ N ^ (2 ^ f) ∧ N ^ (2 ^ f) ≤ 2 ^ ((S + 1) * 2 ^ f) := fun f S N h => by
    rw [Nat.pow_mul, Nat.pow_mul]
    exact ⟨Nat.pow_le_pow_left h.1 _, Nat.pow_le_pow_left h.2 _⟩
  intro f
  induction f with
  | zero =>
    intro A B S N h1 h2 ha hb
    have := stop 0 A B S N h1 h2 ha hb
    simpa [gl] using this
  | succ f ih =>
    intro A B S N h1 h2 ha hb
    have hs := stop2 (f + 1) S N (stop f A B S N h1 h2 ha hb)
    have hA : A * A / M * M ≤ A * A := Nat.div_mul_le_self _ _
    have hB : B * B ≤ cdiv (B * B) M * M := cdiv_mul _ _ hM
    have k1 := sq_low hM h1 hA
    have k2 := sq_high hM h2 hB
    have hA1 : M ≤ A * A / M := (Nat.le_div_iff_mul_le hM).2 (Nat.mul_le_mul ha ha)
    have hB1 : cdiv (B * B) M ≤ 4 * M := cdiv_le (by
      have := Nat.mul_le_mul hb hb
      have e : 4 * M * M = 2 * M * (2 * M) := by rw [Nat.mul_mul_mul_comm, Nat.mul_assoc]
      omega)
    rw [gl, pow_sq]
    rw [pow_sq] at hs
    split
    · split
      · refine ih _ _ _ _ ?_ ?_ hA1 (by omega)
        · rw [pow_dbl]; exact k1
        · rw [pow_dbl]; exact k2
      · exact hs
    · rename_i hge
      split
      · exact hs
      · have hB2 : cdiv (B * B) M ≤ cdiv (cdiv (B * B) M) 2 * 2 := cdiv_mul _ _ (by decide)
        have hA2 : A * A / M / 2 * 2 ≤ A * A / M := Nat.div_mul_le_self _ _
        have e3 : ∀ x, 2 ^ (2 * S + 1) * x = 2 ^ S * 2 ^ S * (x * 2) := fun x => by rw [Nat.pow_succ, pow_dbl, Nat.mul_assoc, Nat.mul_comm 2 x]
        refine ih _ _ _ _ ?_ ?_ (by omega) (cdiv_le (by omega))
        · rw [e3]
          exact Nat.le_trans (Nat.mul_le_mul_left _ hA2) k1
        · rw [e3]
          exact Nat.le_trans k2 (Nat.mul_le_mul_left _ hB2)
end Go.Proofs.Ytijadllhfgajlaa
set_option linter.all false
namespace Go.Proofs.Ytijadllhfgajlaa
open Go Go.Vx
theorem hiW_nat (a : Nat) : hiW (a : Int) = ((a * a / 18446744073709551616 : Nat) : Int) := by
  show (a : Int) * a / 18446744073709551616 = _
  rw [Int.natCast_ediv, Int.natCast_mul]; rfl
theorem loW_nat (a : Nat) : loW (a : Int) = ((a * a % 18446744073709551616 : Nat) : Int) := by
  show (a : Int) * a % 18446744073709551616 = _
  rw [Int.natCast_emod, Int.natCast_mul]; rfl
theorem sr63_nat (x : Nat) : sr63 (x : Int) = ((x / 9223372036854775808 : Nat) : Int) := shr_nat (s := 63) (by decide)
theorem sl1_nat (x : Nat) : sl1 (x : Int) = ((x * 2 % 18446744073709551616 : Nat) : Int) := by
  show IntKind.u64.wrap ((x : Int) * 2 ^ min (Int.toNat 1) 64) = _
  rw [show (2 : Int) ^ min (Int.toNat 1) 64 = 2 from rfl, u_mod, Int.natCast_emod, Int.natCast_mul]; rfl
theorem dbl_nat {M x : Nat} (hM : 0 < M) : x / (2 * M) * 2 + x % (2 * M) / M = x / M := by
  have e1 : x / (2 * M) = x / M / 2 := by rw [Nat.mul_comm, Nat.div_div_eq_div_mul]
  have e2 : x % (2 * M) / M = x / M % 2 := by
    rw [Nat.mul_comm, Nat.mod_mul_right_div_self]
  rw [e1, e2]; omega
theorem or_bit {h b : Nat} (hb : b < 2) : (h * 2 ||| b) = h * 2 + b := by
  have := Nat.two_pow_add_eq_or_of_lt (i := 1) (b := b) (by simpa using hb) h
  rw [Nat.pow_one] at this
  rw [Nat.mul_comm h 2, this]
theorem dblW_nat {a : Nat} (ha : a * a < 18446744073709551616 * 9223372036854775808) : dblW (hiW (a : Int)) (loW (a : Int)) = ((a * a / 9223372036854775808 : Nat) : Int) := by
  show bitI .or .u64 (sl1 (hiW (a : Int))) (sr63 (loW (a : Int))) = _
  rw [hiW_nat, loW_nat, sl1_nat, sr63_nat]
  generalize a * a = x at *
  have h1 : x / 18446744073709551616 < 9223372036854775808 := Nat.div_lt_of_lt_mul ha
  have h2 : x % 18446744073709551616 / 9223372036854775808 < 2 := Nat.div_lt_of_lt_mul (Nat.mod_lt _ (by decide))
  have h3 := dbl_nat (M := 9223372036854775808) (x := x) (by decide)
  rw [show 2 * 9223372036854775808 = 18446744073709551616 from rfl] at h3
  generalize x / 18446744073709551616 = h at *
  generalize x % 18446744073709551616 / 9223372036854775808 = l at *
  rw [Nat.mod_eq_of_lt (by omega), bI_or (by omega) (by omega), or_bit h2, h3]
theorem cdiv_exact {x d : Nat} (hd : 0 < d) (h : x % d = 0) : cdiv x d = x / d := by
  unfold cdiv
  rw [if_neg]
  have := Nat.div_add_mod x d
  rw [Nat.mul_comm] at this
  omega
theorem cdiv_rest {x d : Nat} (hd : 0 < d) (h : x % d ≠ 0) : cdiv x d = x / d + 1 := by
  unfold cdiv
  rw [if_pos]
  have := Nat.div_add_mod x d
  rw [Nat.mul_comm] at this
  omega
theorem mul2_mod {x M : Nat} (hM : 0 < M) : x % (2 * M) * 2 % (2 * M) = x % M * 2 := by
  have e : x % (2 * M) % M = x % M := Nat.mod_mul_left_mod ..
  rw [← e]
  generalize x % (2 * M) = y at *
  rw [Nat.mul_comm y 2, Nat.mul_mod_mul_left, Nat.mul_comm]
theorem sl1_pos (b : Nat) : (0 < sl1 (loW (b : Int))) ↔ b * b % 9223372036854775808 ≠ 0 := by
  rw [loW_nat, sl1_nat]
  have h := mul2_mod (x := b * b) (M := 9223372036854775808) (by decide)
  rw [show 2 * 9223372036854775808 = 18446744073709551616 from rfl] at h
  rw [h]
  omega
theorem u_big {z : Nat} (h : z < 18446744073709551616) : (IntKind.u64.wrap ((z : Int) + 1) = 0 ↔ z + 1 = 18446744073709551616) ∧ (z + 1 < 18446744073709551616 → IntKind.u64.wrap ((z : Int) + 1) = ((z + 1 : Nat) : Int)) := by
  rw [u_mod]
  constructor <;> omega
theorem bitS {S b : Nat} (hS : S < 9223372036854775808) (hb : b < 2) : bitI .or .u64 (sl1 (S : Int)) ((b : Nat) : Int) = ((2 * S + b : Nat) : Int) := by
  rw [sl1_nat, Nat.mod_eq_of_lt (by omega), bI_or (by omega) (by omega), or_bit hb, Nat.mul_comm]
theorem shW_nat {S f : Nat} (hf : f ≤ 64) (h : S * 2 ^ f < 18446744073709551616) : shW (S : Int) f = ((S * 2 ^ f : Nat) : Int) := shl_nat hf h
theorem uS {S : Nat} (hS : S < 18446744073709551615) : IntKind.u64.wrap ((S : Int) + 1) = ((S + 1 : Nat) : Int) := by rw [IntWalk.u64_in _ (by omega)]; rfl
def castP (p : Nat × Nat) : Int × Int := ((p.1 : Int), (p.2 : Int))
theorem quickL_gl : ∀ (f S a b : Nat), f ≤ 28 → S < 2 ^ (34 - f) → 9223372036854775808 ≤ a → a ≤ b → b < 18446744073709551616 →
    quickL f (S : Int) (a : Int) (b : Int) = castP (gl 9223372036854775808 true f a b S) := by
  intro f
  induction f with
  | zero =>
    intro S a b _ hS _ _ _
    rw [show (2 : Nat) ^ (34 - 0) = 17179869184 from rfl] at hS
    rw [quickL, gl, castP, uS (by omega)]
  | succ f ih =>
    intro S a b hf hS ha hab hb
    have e34 : (2 : Nat) ^ (34 - f) = 2 * 2 ^ (34 - (f + 1)) := by rw [show 34 - f = 34 - (f + 1) + 1 by omega, Nat.pow_succ, Nat.mul_comm]
    have hS2 : S < 17179869184 := Nat.lt_of_lt_of_le hS (by rw [show 17179869184 = 2 ^ 34 from rfl]; exact Nat.pow_le_pow_right (by decide) (by omega))
    have stop : (shW (S : Int) (f + 1), shW (IntKind.u64.wrap ((S : Int) + 1)) (f + 1)) = castP (S * 2 ^ (f + 1), (S + 1) * 2 ^ (f + 1)) := by
      have hp : (2 : Nat) ^ (34 - (f + 1)) * 2 ^ (f + 1) = 17179869184 := by rw [← Nat.pow_add, show 34 - (f + 1) + (f + 1) = 34 by omega]
      have h1 : S * 2 ^ (f + 1) ≤ 2 ^ (34 - (f + 1)) * 2 ^ (f + 1) := Nat.mul_le_mul_right _ (Nat.le_of_lt hS)
      have h2 : (S + 1) * 2 ^ (f + 1) ≤ 2 ^ (34 - (f + 1)) * 2 ^ (f + 1) := Nat.mul_le_mul_right _ hS
      rw [uS (by omega), shW_nat (by omega) (by omega), shW_nat (by omega) (by omega)]; rfl
    have haa : 9223372036854775808 * 9223372036854775808 ≤ a * a := Nat.mul_le_mul ha ha
    have hbb : b * b < 18446744073709551616 * 18446744073709551616 := Nat.mul_lt_mul_of_lt_of_le hb (Nat.le_of_lt hb) (by decide)
    have hab2 : a * a ≤ b * b := Nat.mul_le_mul hab hab
    have kA : sr63 (hiW (a : Int)) = ((a * a / 170141183460469231731687303715884105728 : Nat) : Int) := by rw [hiW_nat, sr63_nat, Nat.div_div_eq_div_mul]
    have kB : sr63 (hiW (b : Int)) = ((b * b / 170141183460469231731687303715884105728 : Nat) : Int) := by rw [hiW_nat, sr63_nat, Nat.div_div_eq_div_mul]
    have hS0 := bitS (S := S) (b := 0) (by omega) (by decide)
    have hS1 := bitS (S := S) (b := 1) (by omega) (by decide)
    have eb : IntKind.u64.wrap (dblW (hiW (b : Int)) (loW (b : Int)) + 1) = IntKind.u64.wrap (dblW (hiW (b : Int)) (loW (b : Int)) + 1) := rfl
    rw [quickL, gl, kA, kB]
    by_cases c1 : a * a < 170141183460469231731687303715884105728
    · have z1 : a * a / 170141183460469231731687303715884105728 = 0 := Nat.div_eq_of_lt c1
      have c1' : a * a / 9223372036854775808 < 2 * 9223372036854775808 := Nat.div_lt_of_lt_mul c1
      have la : 9223372036854775808 ≤ a * a / 9223372036854775808 := (Nat.le_div_iff_mul_le (by decide)).2 haa
      rw [if_pos c1', z1, if_pos (by rfl), dblW_nat c1, hS0]
      by_cases c2 : b * b < 170141183460469231731687303715884105728
      · have z2 : b * b / 170141183460469231731687303715884105728 = 0 := Nat.div_eq_of_lt c2
        have c2' : b * b / 9223372036854775808 < 18446744073709551616 := Nat.div_lt_of_lt_mul c2
        have hq : a * a / 9223372036854775808 ≤ b * b / 9223372036854775808 := Nat.div_le_div_right hab2
        rw [z2, dblW_nat c2]
        obtain ⟨u1, u2⟩ := u_big c2'
        by_cases c3 : b * b % 9223372036854775808 ≠ 0
        · rw [if_pos ((sl1_pos b).2 c3), cdiv_rest (by decide) c3]
          by_cases c4 : b * b / 9223372036854775808 + 1 = 18446744073709551616
          · rw [if_pos (by rw [decide_eq_true (u1.2 c4)]; simp), if_neg (by omega)]
            exact stop
          · rw [if_neg (by rw [decide_eq_false (fun h => c4 (u1.1 h))]; simp), if_pos (by omega), u2 (by omega)]
            exact ih _ _ _ (by omega) (by omega) la (by omega) (by omega)
        · rw [if_neg (fun h => c3 ((sl1_pos b).1 h)), cdiv_exact (by decide) (by omega)]
          rw [if_neg (by rw [decide_eq_false (show ¬ ((b * b / 9223372036854775808 : Nat) : Int) = 0 by omega)]; simp), if_pos (by omega)]
          exact ih _ _ _ (by omega) (by omega) la (by omega) (by omega)
      · have hz2 : 1 ≤ b * b / 170141183460469231731687303715884105728 := (Nat.le_div_iff_mul_le (by decide)).2 (by omega)
        have hc : ¬ cdiv (b * b) 9223372036854775808 < 2 * 9223372036854775808 := by
          have h1 := le_cdiv (b * b) 9223372036854775808
          have h2 : 2 * 9223372036854775808 ≤ b * b / 9223372036854775808 := (Nat.le_div_iff_mul_le (by decide)).2 (by omega)
          omega
        have hk : (!decide (((0 : Nat) : Int) = ((b * b / 170141183460469231731687303715884105728 : Nat) : Int))) = true := by
          rw [decide_eq_false (by omega)]; rfl
        rw [if_neg hc, hk]
        simp only [Bool.true_or, if_true, ite_self]
        exact stop
    · have e1 : a * a / 170141183460469231731687303715884105728 = 1 := by
        have h1 : 1 ≤ a * a / 170141183460469231731687303715884105728 := (Nat.le_div_iff_mul_le (by decide)).2 (by omega)
        have h2 : a * a / 170141183460469231731687303715884105728 < 2 := Nat.div_lt_of_lt_mul (by omega)
        omega
      have e2 : b * b / 170141183460469231731687303715884105728 = 1 := by
        have h1 : 1 ≤ b * b / 170141183460469231731687303715884105728 := (Nat.le_div_iff_mul_le (by decide)).2 (by omega)
        have h2 : b * b / 170141183460469231731687303715884105728 < 2 := Nat.div_lt_of_lt_mul (by omega)
        omega
      have c1' : ¬ a * a / 9223372036854775808 < 2 * 9223372036854775808 := by
        have h2 : 2 * 9223372036854775808 ≤ a * a / 9223372036854775808 := (Nat.le_div_iff_mul_le (by decide)).2 (by omega)
        omega
      have ea : a * a / 9223372036854775808 / 2 = a * a / 18446744073709551616 := by rw [Nat.div_div_eq_div_mul]
      have hal : 9223372036854775808 ≤ a * a / 18446744073709551616 := (Nat.le_div_iff_mul_le (by decide)).2 (by omega)
      have hbl : 9223372036854775808 ≤ b * b / 18446744073709551616 := (Nat.le_div_iff_mul_le (by decide)).2 (by omega)
      have hq : a * a / 18446744073709551616 ≤ b * b / 18446744073709551616 := Nat.div_le_div_right hab2
      have hbu : b * b / 18446744073709551616 < 18446744073709551616 := Nat.div_lt_of_lt_mul hbb
      rw [if_neg c1', e1, e2, if_neg (by decide), hS1, ea, cdiv_cdiv (by decide), show 9223372036854775808 * 2 = 18446744073709551616 from rfl, hiW_nat, hiW_nat, loW_nat]
      obtain ⟨u1, u2⟩ := u_big hbu
      by_cases c3 : b * b % 18446744073709551616 ≠ 0
      · rw [if_pos (by omega), cdiv_rest (by decide) c3]
        by_cases c4 : b * b / 18446744073709551616 + 1 = 18446744073709551616
        · rw [if_pos (by rw [decide_eq_true (u1.2 c4)]; simp), if_pos (by rw [decide_eq_true (show 18446744073709551616 ≤ b * b / 18446744073709551616 + 1 by omega)]; rfl)]
          exact stop
        · rw [if_neg (by rw [decide_eq_false (fun h => c4 (u1.1 h))]; simp), if_neg (by rw [decide_eq_false (show ¬ 18446744073709551616 ≤ b * b / 18446744073709551616 + 1 by omega)]; simp), u2 (by omega)]
          exact ih _ _ _ (by omega) (by omega) hal (by omega) (by omega)
      · rw [if_neg (by omega), cdiv_exact (by decide) (by omega)]
        rw [if_neg (by rw [decide_eq_false (show ¬ ((b * b / 18446744073709551616 : Nat) : Int) = 0 by omega)]; simp), if_neg (by rw [decide_eq_false (show ¬ 18446744073709551616 ≤ b * b / 18446744073709551616 by omega)]; simp)]
        exact ih _ _ _ (by omega) (by omega) hal (by omega) (by omega)
end Go.Proofs.Ytijadllhfgajlaa
set_option linter.all false
namespace Go.Proofs.Ytijadllhfgajlaa
open Go Go.Vx
def lgK (n : Nat) : Nat := bitsN n - 1
theorem lgK_le {n : Nat} (h : 1 ≤ n) : 2 ^ lgK n ≤ n ∧ n < 2 ^ (lgK n + 1) := by
  have h0 : bitsN n ≠ 0 := fun e => by have := bitsN_eq0.1 e; omega
  unfold lgK
  constructor
  · refine Nat.le_of_not_lt fun hh => ?_
    have := bitsN_le.2 hh
    omega
  · rw [show bitsN n - 1 + 1 = bitsN n by omega]; exact bitsN_lt n
theorem lgK_lt {n m : Nat} (hm : 0 < m) (h : n < 2 ^ m) : lgK n < m := by
  have := bitsN_le.2 h
  unfold lgK; omega
theorem isPow_is {n : Nat} (h1 : 1 ≤ n) (h2 : n < 4611686018427387904) : isPow (n : Int) = true → n = 2 ^ lgK n := by
  intro h
  unfold isPow at h
  have h := of_decide_eq_true h
  have e : IntKind.i64.wrap ((n : Int) - 1) = ((n - 1 : Nat) : Int) := by rw [IntWalk.i64_in _ (by omega)]; omega
  rw [e] at h
  have h3 : IntKind.i64.wrap ((BitVec.ofInt 64 (n : Int) &&& BitVec.ofInt 64 ((n - 1 : Nat) : Int)).toNat : Int) = 0 := h
  rw [BitVec.toNat_and, ofInt_nat6 (by omega), ofInt_nat6 (by omega)] at h3
  have hle : n &&& (n - 1) ≤ n := Nat.and_le_left
  rw [IntWalk.i64_in _ (by omega)] at h3
  have h4 : n &&& (n - 1) = 0 := by omega
  obtain ⟨b1, b2⟩ := lgK_le h1
  refine Nat.le_antisymm (Nat.le_of_not_lt fun hh => ?_) b1
  have t1 : n.testBit (lgK n) = true := by
    rw [Nat.testBit_eq_decide_div_mod_eq]
    have : n / 2 ^ lgK n = 1 := by
      have g1 : 1 ≤ n / 2 ^ lgK n := (Nat.le_div_iff_mul_le (Nat.pow_pos (by decide))).2 (by omega)
      have g2 : n / 2 ^ lgK n < 2 := Nat.div_lt_of_lt_mul (by rw [← Nat.pow_succ]; exact b2)
      omega
    rw [this]; rfl
  have t2 : (n - 1).testBit (lgK n) = true := by
    rw [Nat.testBit_eq_decide_div_mod_eq]
    have : (n - 1) / 2 ^ lgK n = 1 := by
      have g1 : 1 ≤ (n - 1) / 2 ^ lgK n := (Nat.le_div_iff_mul_le (Nat.pow_pos (by decide))).2 (by omega)
      have g2 : (n - 1) / 2 ^ lgK n < 2 := Nat.div_lt_of_lt_mul (by rw [← Nat.pow_succ]; omega)
      omega
    rw [this]; rfl
  have t3 : (n &&& (n - 1)).testBit (lgK n) = true := by rw [Nat.testBit_and, t1, t2]; rfl
  rw [h4, Nat.zero_testBit] at t3
  cases t3
def qN (n : Nat) : Nat × Nat := if isPow (n : Int) = true then (lgK n * 2 ^ 28, lgK n * 2 ^ 28) else gl 9223372036854775808 true 28 (n * 2 ^ (63 - lgK n)) (n * 2 ^ (63 - lgK n)) (lgK n)
def lN (n p : Nat) : Nat × Nat := if isPow (n : Int) = true then (lgK n * 2 ^ p, lgK n * 2 ^ p) else gl (2 ^ (2 * p + 64)) false p (n * 2 ^ (2 * p + 64 - lgK n)) (n * 2 ^ (2 * p + 64 - lgK n)) (lgK n)
theorem mant {n D : Nat} (h1 : 1 ≤ n) (hD : lgK n ≤ D) : 2 ^ D ≤ n * 2 ^ (D - lgK n) ∧ n * 2 ^ (D - lgK n) < 2 * 2 ^ D ∧ 2 ^ lgK n * (n * 2 ^ (D - lgK n)) = n * 2 ^ D := by
  obtain ⟨b1, b2⟩ := lgK_le h1
  have e : 2 ^ D = 2 ^ lgK n * 2 ^ (D - lgK n) := by rw [← Nat.pow_add]; congr 1; omega
  refine ⟨?_, ?_, ?_⟩
  · rw [e]; exact Nat.mul_le_mul_right _ b1
  · rw [e, ← Nat.mul_assoc, ← Nat.pow_succ']
    exact Nat.mul_lt_mul_of_pos_right b2 (Nat.pow_pos (by decide))
  · rw [e, Nat.mul_left_comm]
theorem quickF_is {n : Nat} (h1 : 1 ≤ n) (h2 : n < 4611686018427387904) : quickF (n : Int) = castP (qN n) := by
  have hk : lgK n < 62 := lgK_lt (by decide) h2
  unfold quickF qN
  rw [Int.toNat_natCast]
  by_cases c : isPow (n : Int) = true
  · rw [if_pos c, if_pos c]
    have e : shW ((bitsN n - 1 : Nat) : Int) 28 = ((lgK n * 2 ^ 28 : Nat) : Int) := shW_nat (by decide) (by show lgK n * 268435456 < _; omega)
    have e : IntKind.u64.wrap (((bitsN n - 1 : Nat) : Int) * 2 ^ min (Int.toNat 28) 64) = ((lgK n * 2 ^ 28 : Nat) : Int) := e
    rw [e]; rfl
  · rw [if_neg c, if_neg c]
    obtain ⟨m1, m2, m3⟩ := mant (D := 63) h1 (by omega)
    have e : shW (n : Int) (63 - (bitsN n - 1)) = ((n * 2 ^ (63 - lgK n) : Nat) : Int) := shW_nat (by omega) (Nat.lt_of_lt_of_le m2 (by decide))
    rw [e]
    exact quickL_gl 28 (lgK n) _ _ (by decide) (by rw [show (2 : Nat) ^ (34 - 28) = 64 from rfl]; omega) m1 (Nat.le_refl _) m2
theorem le_pw32 {e k : Nat} (h : e ≤ 32 * k) : 2 ^ e ≤ 4294967296 ^ k := by
  rw [pw_two]
  exact Nat.pow_le_pow_right (by decide) h
theorem cap_nl {x e k : Nat} (h : x < 2 ^ e) (he : e ≤ 32 * k) : nl x ≤ k := nl_le.2 (Nat.lt_of_lt_of_le h (le_pw32 he))
theorem cap_id {x e : Nat} (h : x < 2 ^ e) (he : e ≤ 32 * 512) : capF x = x := by
  unfold capF
  rw [if_pos]
  exact cap_nl (k := 512) h he
theorem shF_down (a d : Nat) (hd : 0 < d) : shF a (-(d : Int)) = a / 2 ^ d := by
  unfold shF
  rw [if_pos (by omega), show (- -(d : Int)).toNat = d by omega]
theorem shF_up (a d : Nat) : shF a (d : Int) = a * 2 ^ d := by
  unfold shF
  rw [if_neg (by omega), Int.toNat_natCast]
theorem mov_up {a d e : Nat} (h : a * 2 ^ d < 2 ^ e) (he : e ≤ 32 * 512) : movW a (d : Int) false = a * 2 ^ d := by
  unfold movW
  rw [Bool.false_and, if_neg (by decide), shF_up, cap_id h he]
theorem mov_dn {a d e : Nat} (hd : 0 < d) (h : a < 2 ^ e) (he : e ≤ 32 * 512) : movW a (-(d : Int)) false = a / 2 ^ d := by
  unfold movW
  rw [Bool.false_and, if_neg (by decide), shF_down _ _ hd, cap_id (Nat.lt_of_le_of_lt (Nat.div_le_self _ _) h) he]
theorem mov_cdiv {a d e : Nat} (hd : 0 < d) (h : a < 2 ^ e) (he : e + 1 ≤ 32 * 512) : movW a (-(d : Int)) true = cdiv a (2 ^ d) := by
  have h1 : a / 2 ^ d < 2 ^ e := Nat.lt_of_le_of_lt (Nat.div_le_self _ _) h
  have h2 : a / 2 ^ d * 2 ^ d < 2 ^ e := Nat.lt_of_le_of_lt (Nat.div_mul_le_self _ _) h
  unfold movW cdiv
  rw [Bool.true_and, shF_down _ _ hd, cap_id h1 (by omega), Int.neg_neg, shF_up, cap_id h2 (by omega)]
  by_cases c : a / 2 ^ d * 2 ^ d < a
  · rw [if_pos (decide_eq_true c), if_pos c]
    exact cap_id (e := e + 1) (by rw [Nat.pow_succ]; omega) he
  · rw [if_neg (by rw [decide_eq_false c]; decide), if_neg c]
theorem add_id {a b e : Nat} (h : a + b < 2 ^ e) (he : e ≤ 32 * 512) : addW a b = a + b := cap_id h he
theorem mul_id {a b e : Nat} (h : a * b < 2 ^ e) (he : e ≤ 32 * 512) : mulW a b = a * b := cap_id h he
theorem logL_gl {D : Nat} (hD0 : 64 ≤ D) (hD : D ≤ 4200) : ∀ (f a b S q : Nat), a ≤ b → b ≤ 2 * 2 ^ D → S < 2 ^ (q - f) → f ≤ q → q ≤ 4200 →
    logL (2 * 2 ^ D) (D : Int) f a b S = gl (2 ^ D) false f a b S := by
  intro f
  induction f with
  | zero =>
    intro a b S q _ _ hS _ hq
    rw [logL, gl, add_id (e := q + 1) (by
      have := Nat.one_le_two_pow (n := q)
      rw [Nat.pow_succ]; rw [Nat.sub_zero] at hS; omega) (by omega)]
  | succ f ih =>
    intro a b S q hab hb hS hfq hq
    have hbb : b * b ≤ 2 ^ (2 * D + 2) := by
      have := Nat.mul_le_mul hb hb
      rw [show 2 * D + 2 = D + 1 + (D + 1) by omega, Nat.pow_add, Nat.pow_succ, Nat.mul_comm (2 ^ D)]
      exact this
    have haa : a * a ≤ b * b := Nat.mul_le_mul hab hab
    have l1 : ∀ x, x ≤ 2 ^ (2 * D + 2) → x < 2 ^ (2 * D + 3) := fun x hx => by
      have : (2 : Nat) ^ (2 * D + 3) = 2 * 2 ^ (2 * D + 2) := by rw [Nat.pow_succ', ]
      have := Nat.one_le_two_pow (n := 2 * D + 2)
      omega
    have ea : mulW a a = a * a := mul_id (l1 _ (by omega)) (by omega)
    have eb : mulW b b = b * b := mul_id (l1 _ (by omega)) (by omega)
    have fa : movW (a * a) (-(D : Int)) false = a * a / 2 ^ D := mov_dn (by omega) (l1 _ (by omega)) (by omega)
    have fb : movW (b * b) (-(D : Int)) true = cdiv (b * b) (2 ^ D) := mov_cdiv (by omega) (l1 _ (by omega)) (by omega)
    have hA : a * a / 2 ^ D ≤ cdiv (b * b) (2 ^ D) := div_cdiv haa
    have hB : cdiv (b * b) (2 ^ D) ≤ 4 * 2 ^ D := cdiv_le (by
      rw [show 2 * D + 2 = 2 + D + D by omega, Nat.pow_add, Nat.pow_add] at hbb
      exact hbb)
    have hB2 : cdiv (b * b) (2 ^ D) < 2 ^ (D + 3) := by
      have : (2 : Nat) ^ (D + 3) = 8 * 2 ^ D := by rw [Nat.pow_add, Nat.mul_comm]
      have := Nat.one_le_two_pow (n := D)
      omega
    have hq2 : q - f = q - (f + 1) + 1 := by omega
    have hS2 : 2 * S + 1 < 2 ^ (q - f) := by rw [hq2, Nat.pow_succ]; omega
    have hqq : (2 : Nat) ^ (q - f) ≤ 2 ^ q := Nat.pow_le_pow_right (by decide) (by omega)
    have es1 : movW S 1 false = 2 * S := by
      have := mov_up (a := S) (d := 1) (e := q) (by rw [Nat.pow_one]; omega) (by omega)
      rw [Nat.pow_one, Nat.mul_comm] at this
      exact this
    have es2 : ∀ b, b ≤ 1 → addW (2 * S) b = 2 * S + b := fun b hb => add_id (e := q) (by omega) (by omega)
    have hSf : (S + 1) * 2 ^ (f + 1) ≤ 2 ^ q := by
      have : (2 : Nat) ^ q = 2 ^ (q - (f + 1)) * 2 ^ (f + 1) := by rw [← Nat.pow_add]; congr 1; omega
      rw [this]
      exact Nat.mul_le_mul_right _ hS
    have hSf0 : S * 2 ^ (f + 1) ≤ (S + 1) * 2 ^ (f + 1) := Nat.mul_le_mul_right _ (by omega)
    have lq : ∀ x, x ≤ 2 ^ q → x < 2 ^ (q + 1) := fun x hx => by
      have := Nat.one_le_two_pow (n := q)
      rw [Nat.pow_succ]; omega
    have st1 : movW S ((f + 1 : Nat) : Int) false = S * 2 ^ (f + 1) := mov_up (lq _ (by omega)) (by omega)
    have st2 : movW (addW S 1) ((f + 1 : Nat) : Int) false = (S + 1) * 2 ^ (f + 1) := by
      rw [add_id (e := q + 1) (lq _ (by
        have : (2 : Nat) ^ (q - (f + 1)) ≤ 2 ^ q := Nat.pow_le_pow_right (by decide) (by omega)
        omega)) (by omega)]
      exact mov_up (lq _ (by omega)) (by omega)
    rw [logL, gl, ea, eb, fa, fb, es1, st1, st2]
    by_cases c1 : a * a / 2 ^ D < 2 * 2 ^ D
    · rw [if_pos c1, if_pos c1]
      by_cases c2 : cdiv (b * b) (2 ^ D) < 2 * 2 ^ D
      · rw [if_pos c2, if_pos c2, es2 0 (by omega), Nat.add_zero]
        exact ih _ _ _ q hA (by omega) (by omega) (by omega) hq
      · rw [if_neg c2, if_neg c2]
    · have g1 : movW (a * a / 2 ^ D) (-1) false = a * a / 2 ^ D / 2 := by
        have := mov_dn (a := a * a / 2 ^ D) (d := 1) (by decide) (Nat.lt_of_le_of_lt hA hB2) (by omega)
        rw [Nat.pow_one] at this
        exact this
      have g2 : movW (cdiv (b * b) (2 ^ D)) (-1) true = cdiv (cdiv (b * b) (2 ^ D)) 2 := by
        have := mov_cdiv (a := cdiv (b * b) (2 ^ D)) (d := 1) (by decide) hB2 (by omega)
        rw [Nat.pow_one] at this
        exact this
      rw [if_neg c1, if_neg c1, Bool.false_and, if_neg (by decide), g1, g2, es2 1 (by omega)]
      exact ih _ _ _ q (div_cdiv hA) (cdiv_le (by omega)) (by omega) (by omega) hq
theorem logF_is {n p : Nat} (h1 : 1 ≤ n) (h2 : n < 4611686018427387904) (hp : p ≤ 2048) : logF (n : Int) p = lN n p := by
  have hk : lgK n < 62 := lgK_lt (by decide) h2
  have hk2 : lgK n < 2 ^ 6 := by rw [show (2 : Nat) ^ 6 = 64 from rfl]; omega
  unfold logF lN
  rw [Int.toNat_natCast]
  by_cases c : isPow (n : Int) = true
  · rw [if_pos c, if_pos c]
    have e : movW (lgK n) (p : Int) false = lgK n * 2 ^ p := mov_up (e := 6 + p) (by rw [Nat.pow_add]; exact Nat.mul_lt_mul_of_pos_right hk2 (Nat.pow_pos (by decide))) (by omega)
    show (movW (lgK n) (p : Int) false, movW (lgK n) (p : Int) false) = _
    rw [e]
  · rw [if_neg c, if_neg c]
    obtain ⟨D, hD⟩ : ∃ D, D = 2 * p + 64 := ⟨_, rfl⟩
    rw [← hD]
    obtain ⟨m1, m2, m3⟩ := mant (D := D) h1 (by omega)
    have hD1 : 2 * 2 ^ D < 2 ^ (D + 2) := by
      have : (2 : Nat) ^ (D + 2) = 4 * 2 ^ D := by rw [Nat.pow_add, Nat.mul_comm]
      have := Nat.one_le_two_pow (n := D)
      omega
    have ea : movW n ((D : Int) - ((bitsN n - 1 : Nat) : Int)) false = n * 2 ^ (D - lgK n) := by
      rw [show ((D : Int) - ((bitsN n - 1 : Nat) : Int)) = ((D - lgK n : Nat) : Int) by unfold lgK at hk ⊢; omega]
      exact mov_up (e := D + 2) (by omega) (by omega)
    have e2 : movW 2 (D : Int) false = 2 * 2 ^ D := mov_up (e := D + 2) hD1 (by omega)
    show logL (movW 2 (D : Int) false) (D : Int) p (movW n ((D : Int) - ((bitsN n - 1 : Nat) : Int)) false) (movW n ((D : Int) - ((bitsN n - 1 : Nat) : Int)) false) (lgK n) = _
    rw [ea, e2]
    exact logL_gl (by omega) (by omega) p _ _ _ (p + 6) (Nat.le_refl _) (Nat.le_of_lt m2) (by rw [show p + 6 - p = 6 by omega]; exact hk2) (by omega) (by omega)
theorem pow_isPow {n : Nat} (h1 : 1 ≤ n) (h2 : n < 4611686018427387904) (c : isPow (n : Int) = true) (p : Nat) : 2 ^ (lgK n * 2 ^ p) ≤ n ^ (2 ^ p) ∧ n ^ (2 ^ p) ≤ 2 ^ (lgK n * 2 ^ p) := by
  have e0 := isPow_is h1 h2 c
  have e : n ^ (2 ^ p) = 2 ^ (lgK n * 2 ^ p) := by
    rw [Nat.pow_mul, ← e0]
  rw [e]; exact ⟨Nat.le_refl _, Nat.le_refl _⟩
theorem qN_sound {n : Nat} (h1 : 1 ≤ n) (h2 : n < 4611686018427387904) : 2 ^ (qN n).1 ≤ n ^ (2 ^ 28) ∧ n ^ (2 ^ 28) ≤ 2 ^ (qN n).2 := by
  unfold qN
  by_cases c : isPow (n : Int) = true
  · rw [if_pos c]
    exact pow_isPow h1 h2 c 28
  · rw [if_neg c]
    have hk : lgK n < 62 := lgK_lt (by decide) h2
    obtain ⟨m1, m2, m3⟩ := mant (D := 63) h1 (by omega)
    exact gl_sound _ true (by decide) 28 _ _ _ n (Nat.le_of_eq m3) (Nat.le_of_eq m3.symm) m1 (Nat.le_of_lt m2)
theorem lN_sound {n p : Nat} (h1 : 1 ≤ n) (h2 : n < 4611686018427387904) : 2 ^ (lN n p).1 ≤ n ^ (2 ^ p) ∧ n ^ (2 ^ p) ≤ 2 ^ (lN n p).2 := by
  unfold lN
  by_cases c : isPow (n : Int) = true
  · rw [if_pos c]
    exact pow_isPow h1 h2 c p
  · rw [if_neg c]
    have hk : lgK n < 62 := lgK_lt (by decide) h2
    obtain ⟨m1, m2, m3⟩ := mant (D := 2 * p + 64) h1 (by omega)
    exact gl_sound _ false (Nat.pow_pos (by decide)) p _ _ _ n (Nat.le_of_eq m3) (Nat.le_of_eq m3.symm) m1 (Nat.le_of_lt m2)
end Go.Proofs.Ytijadllhfgajlaa
set_option linter.all false
namespace Go.Proofs.Ytijadllhfgajlaa
open Go Go.Vx
def upS (g : Nat → Nat) : List (Int × Int) → Nat
  | [] => 0
  | x :: l => (if x.2 < 0 then 0 else g x.1.toNat * x.2.toNat) + upS g l
def dnS (g : Nat → Nat) : List (Int × Int) → Nat
  | [] => 0
  | x :: l => (if x.2 < 0 then g x.1.toNat * (-x.2).toNat else 0) + dnS g l
def upP : List (Int × Int) → Nat
  | [] => 1
  | x :: l => (if x.2 < 0 then 1 else x.1.toNat ^ x.2.toNat) * upP l
def dnP : List (Int × Int) → Nat
  | [] => 1
  | x :: l => (if x.2 < 0 then x.1.toNat ^ (-x.2).toNat else 1) * dnP l
theorem okT_nat {x : Int × Int} (h : okT x) : 1 ≤ x.1.toNat ∧ x.1.toNat < 4611686018427387904 ∧ x.1 = (x.1.toNat : Int) := by
  obtain ⟨h1, h2, h3, h4⟩ := h
  omega
theorem pow_one_sound {K g h n e : Nat} (H : 2 ^ g ≤ n ^ K ∧ n ^ K ≤ 2 ^ h) : 2 ^ (g * e) ≤ (n ^ e) ^ K ∧ (n ^ e) ^ K ≤ 2 ^ (h * e) := by
  rw [Nat.pow_mul, Nat.pow_mul, ← Nat.pow_mul n, Nat.mul_comm e K, Nat.pow_mul]
  exact ⟨Nat.pow_le_pow_left H.1 _, Nat.pow_le_pow_left H.2 _⟩
theorem upS_sound {K : Nat} {g h : Nat → Nat} (H : ∀ n, 1 ≤ n → n < 4611686018427387904 → 2 ^ g n ≤ n ^ K ∧ n ^ K ≤ 2 ^ h n) : ∀ (l : List (Int × Int)), (∀ x, x ∈ l → okT x) →
    (2 ^ upS g l ≤ upP l ^ K ∧ upP l ^ K ≤ 2 ^ upS h l) ∧ 2 ^ dnS g l ≤ dnP l ^ K ∧ dnP l ^ K ≤ 2 ^ dnS h l
  | [], _ => by simp [upS, upP, dnS, dnP]
  | x :: l, hl => by
    obtain ⟨⟨a1, a2⟩, b1, b2⟩ := upS_sound H l fun y hy => hl y (List.mem_cons_of_mem _ hy)
    obtain ⟨n1, n2, _⟩ := okT_nat (hl x (List.mem_cons_self ..))
    have hx := H _ n1 n2
    rw [upS, upS, upP, dnS, dnS, dnP, Nat.mul_pow, Nat.mul_pow, Nat.pow_add, Nat.pow_add, Nat.pow_add, Nat.pow_add]
    by_cases c : x.2 < 0
    · simp only [if_pos c, Nat.pow_zero, Nat.one_pow, Nat.one_mul]
      obtain ⟨p1, p2⟩ := pow_one_sound (e := (-x.2).toNat) hx
      exact ⟨⟨a1, a2⟩, Nat.mul_le_mul p1 b1, Nat.mul_le_mul p2 b2⟩
    · simp only [if_neg c, Nat.pow_zero, Nat.one_pow, Nat.one_mul]
      obtain ⟨p1, p2⟩ := pow_one_sound (e := x.2.toNat) hx
      exact ⟨⟨Nat.mul_le_mul p1 a1, Nat.mul_le_mul p2 a2⟩, b1, b2⟩
theorem S_le {g : Nat → Nat} {B : Nat} (H : ∀ n, 1 ≤ n → n < 4611686018427387904 → g n ≤ B) : ∀ (l : List (Int × Int)), (∀ x, x ∈ l → okT x) → upS g l ≤ l.length * (B * 1000000000) ∧ dnS g l ≤ l.length * (B * 1000000000)
  | [], _ => by simp [upS, dnS]
  | x :: l, hl => by
    obtain ⟨a1, a2⟩ := S_le H l fun y hy => hl y (List.mem_cons_of_mem _ hy)
    have hx := hl x (List.mem_cons_self ..)
    obtain ⟨n1, n2, _⟩ := okT_nat hx
    obtain ⟨_, _, x3, x4⟩ := hx
    have h1 := Nat.mul_le_mul (H _ n1 n2) (show x.2.toNat ≤ 1000000000 by omega)
    have h2 := Nat.mul_le_mul (H _ n1 n2) (show (-x.2).toNat ≤ 1000000000 by omega)
    rw [upS, dnS, List.length_cons, Nat.add_mul, Nat.one_mul]
    constructor
    · split <;> omega
    · split <;> omega
theorem qN_le {n : Nat} (h1 : 1 ≤ n) (h2 : n < 4611686018427387904) : (qN n).1 ≤ (qN n).2 ∧ (qN n).2 ≤ 17179869184 := by
  have hs := qN_sound h1 h2
  have hk : lgK n < 62 := lgK_lt (by decide) h2
  refine ⟨(Nat.pow_le_pow_iff_right (by decide)).1 (Nat.le_trans hs.1 hs.2), ?_⟩
  unfold qN
  split
  · show lgK n * 268435456 ≤ _; omega
  · have := (gl_any 9223372036854775808 true 28 (n * 2 ^ (63 - lgK n)) (n * 2 ^ (63 - lgK n)) (lgK n)).2
    rw [show (2 : Nat) ^ 28 = 268435456 from rfl] at this
    omega
theorem lN_le {n p : Nat} (h1 : 1 ≤ n) (h2 : n < 4611686018427387904) : (lN n p).1 ≤ (lN n p).2 ∧ (lN n p).2 ≤ 64 * 2 ^ p := by
  have hs := lN_sound (p := p) h1 h2
  have hk : lgK n < 62 := lgK_lt (by decide) h2
  refine ⟨(Nat.pow_le_pow_iff_right (by decide)).1 (Nat.le_trans hs.1 hs.2), ?_⟩
  unfold lN
  split
  · exact Nat.mul_le_mul_right _ (by omega)
  · exact Nat.le_trans (gl_any _ false p _ _ (lgK n)).2 (Nat.mul_le_mul_right _ (by omega))
theorem S_mono {g h : Nat → Nat} (H : ∀ n, 1 ≤ n → n < 4611686018427387904 → g n ≤ h n) : ∀ (l : List (Int × Int)), (∀ x, x ∈ l → okT x) → upS g l ≤ upS h l ∧ dnS g l ≤ dnS h l
  | [], _ => by simp [upS, dnS]
  | x :: l, hl => by
    obtain ⟨a1, a2⟩ := S_mono H l fun y hy => hl y (List.mem_cons_of_mem _ hy)
    obtain ⟨n1, n2, _⟩ := okT_nat (hl x (List.mem_cons_self ..))
    have h1 := Nat.mul_le_mul_right x.2.toNat (H _ n1 n2)
    have h2 := Nat.mul_le_mul_right (-x.2).toNat (H _ n1 n2)
    rw [upS, dnS, upS, dnS]
    constructor
    · split <;> omega
    · split <;> omega
def valL (a : Int × Int) : Int := a.1 * 18446744073709551616 + a.2
theorem split_M {M t : Int} (hM : 0 < M) : t / M * M + t % M = t := Int.ediv_mul_add_emod ..
theorem plusL_val {a : Int × Int} {x y : Int} (ha : okL a) (h0 : 0 ≤ x * y) (h : valL a + x * y < 340282366920938463463374607431768211456) : valL (plusL a x y) = valL a + x * y := by
  obtain ⟨⟨a0, a1⟩, b0, b1⟩ := ha
  unfold valL at h ⊢
  unfold plusL
  generalize x * y = t at *
  have e1 := split_M (M := 18446744073709551616) (t := t) (by decide)
  have e2 := split_M (M := 18446744073709551616) (t := a.2 + t % 18446744073709551616) (by decide)
  have r1 := Int.emod_nonneg t (show (18446744073709551616 : Int) ≠ 0 by decide)
  have r2 := Int.emod_lt_of_pos t (show (0 : Int) < 18446744073709551616 by decide)
  have r3 := Int.emod_nonneg (a.2 + t % 18446744073709551616) (show (18446744073709551616 : Int) ≠ 0 by decide)
  have r4 := Int.emod_lt_of_pos (a.2 + t % 18446744073709551616) (show (0 : Int) < 18446744073709551616 by decide)
  have q1 : 0 ≤ t / 18446744073709551616 := Int.ediv_nonneg h0 (by decide)
  have q2 : 0 ≤ (a.2 + t % 18446744073709551616) / 18446744073709551616 := Int.ediv_nonneg (by omega) (by decide)
  generalize t % 18446744073709551616 = lo at *
  generalize t / 18446744073709551616 = hi at *
  generalize (a.2 + lo) % 18446744073709551616 = r at *
  generalize (a.2 + lo) / 18446744073709551616 = c at *
  rw [IntWalk.u64_in (a.1 + hi) (by omega), IntWalk.u64_in (a.1 + hi + c) (by omega)]
  omega
theorem overL_val {a b : Int × Int} (ha : okL a) (hb : okL b) : overL a b = decide (valL b < valL a) := by
  obtain ⟨⟨a0, a1⟩, a2, a3⟩ := ha
  obtain ⟨⟨b0, b1⟩, b2, b3⟩ := hb
  unfold overL valL
  by_cases c : b.1 < a.1
  · rw [decide_eq_true c, Bool.true_or, decide_eq_true (by omega)]
  · rw [decide_eq_false c, Bool.false_or]
    by_cases d : a.1 = b.1
    · rw [decide_eq_true d, Bool.true_and, d]
      by_cases e : b.2 < a.2
      · rw [decide_eq_true e, decide_eq_true (by omega)]
      · rw [decide_eq_false e, decide_eq_false (by omega)]
    · rw [decide_eq_false d, Bool.false_and, decide_eq_false (by omega)]
theorem gss_vals : ∀ (l : List (Int × Int)) (s : Gss), s.ok → (∀ x, x ∈ l → okT x) →
    valL s.u0 + (upS (fun n => (qN n).1) l : Nat) < 340282366920938463463374607431768211456 → valL s.u1 + (upS (fun n => (qN n).2) l : Nat) < 340282366920938463463374607431768211456 →
    valL s.d0 + (dnS (fun n => (qN n).1) l : Nat) < 340282366920938463463374607431768211456 → valL s.d1 + (dnS (fun n => (qN n).2) l : Nat) < 340282366920938463463374607431768211456 →
    (l.foldl gssS s).ok ∧ valL (l.foldl gssS s).u0 = valL s.u0 + (upS (fun n => (qN n).1) l : Nat) ∧ valL (l.foldl gssS s).u1 = valL s.u1 + (upS (fun n => (qN n).2) l : Nat) ∧
      valL (l.foldl gssS s).d0 = valL s.d0 + (dnS (fun n => (qN n).1) l : Nat) ∧ valL (l.foldl gssS s).d1 = valL s.d1 + (dnS (fun n => (qN n).2) l : Nat)
  | [], s, hs, _, _, _, _, _ => by simpa [upS, dnS] using hs
  | x :: l, s, hs, hl, h1, h2, h3, h4 => by
    have hx := hl x (List.mem_cons_self ..)
    obtain ⟨n1, n2, n3⟩ := okT_nat hx
    have hq : quickF x.1 = castP (qN x.1.toNat) := by
      conv => lhs; rw [n3]
      exact quickF_is n1 n2
    obtain ⟨k1, k2, k3, k4⟩ := hs
    have ih := gss_vals l (gssS s x) (gssS_ok s x ⟨k1, k2, k3, k4⟩) fun y hy => hl y (List.mem_cons_of_mem _ hy)
    rw [upS, Int.natCast_add] at h1 h2
    rw [dnS, Int.natCast_add] at h3 h4
    rw [List.foldl_cons, upS, upS, dnS, dnS, Int.natCast_add, Int.natCast_add, Int.natCast_add, Int.natCast_add]
    by_cases c : x.2 < 0
    · rw [if_pos c] at h1 h2 h3 h4
      simp only [if_pos c]
      have c0 : ¬ 0 ≤ x.2 := by omega
      have hm : ∀ z : Nat, (z : Int) * (-x.2) = ((z * (-x.2).toNat : Nat) : Int) := fun z => by rw [Int.natCast_mul]; congr 1; omega
      have hz : ∀ z : Nat, 0 ≤ (z : Int) * (-x.2) := fun z => Int.mul_nonneg (by omega) (by omega)
      have e : gssS s x = { s with d0 := plusL s.d0 ((qN x.1.toNat).1 : Nat) (-x.2), d1 := plusL s.d1 ((qN x.1.toNat).2 : Nat) (-x.2) } := by rw [gssS, if_neg c0, hq]; rfl
      have p0 := plusL_val (x := ((qN x.1.toNat).1 : Nat)) (y := -x.2) k3 (hz _) (by rw [hm]; omega)
      have p1 := plusL_val (x := ((qN x.1.toNat).2 : Nat)) (y := -x.2) k4 (hz _) (by rw [hm]; omega)
      rw [hm] at p0 p1
      rw [e] at ih ⊢
      simp only at ih h1 h2 h3 h4
      rw [p0, p1] at ih
      obtain ⟨i0, i1, i2, i3, i4⟩ := ih (by omega) (by omega) (by omega) (by omega)
      exact ⟨i0, by omega, by omega, by omega, by omega⟩
    · rw [if_neg c] at h1 h2 h3 h4
      simp only [if_neg c]
      have c0 : 0 ≤ x.2 := by omega
      have hm : ∀ z : Nat, (z : Int) * x.2 = ((z * x.2.toNat : Nat) : Int) := fun z => by rw [Int.natCast_mul]; congr 1; omega
      have hz : ∀ z : Nat, 0 ≤ (z : Int) * x.2 := fun z => Int.mul_nonneg (by omega) (by omega)
      have e : gssS s x = { s with u0 := plusL s.u0 ((qN x.1.toNat).1 : Nat) x.2, u1 := plusL s.u1 ((qN x.1.toNat).2 : Nat) x.2 } := by rw [gssS, if_pos c0, hq]; rfl
      have p0 := plusL_val (x := ((qN x.1.toNat).1 : Nat)) (y := x.2) k1 (hz _) (by rw [hm]; omega)
      have p1 := plusL_val (x := ((qN x.1.toNat).2 : Nat)) (y := x.2) k2 (hz _) (by rw [hm]; omega)
      rw [hm] at p0 p1
      rw [e] at ih ⊢
      simp only at ih h1 h2 h3 h4
      rw [p0, p1] at ih
      obtain ⟨i0, i1, i2, i3, i4⟩ := ih (by omega) (by omega) (by omega) (by omega)
      exact ⟨i0, by omega, by omega, by omega, by omega⟩
theorem guess_is {l : List (Int × Int)} (hl : ∀ x, x ∈ l → okT x) (hn : l.length ≤ 100) : guessF l =
    if dnS (fun n => (qN n).2) l < upS (fun n => (qN n).1) l then (1, true) else if upS (fun n => (qN n).2) l < dnS (fun n => (qN n).1) l then (-1, true) else (0, false) := by
  obtain ⟨a1, a2⟩ := S_le (g := fun n => (qN n).2) (fun n h1 h2 => (qN_le h1 h2).2) l hl
  obtain ⟨b1, b2⟩ := S_mono (g := fun n => (qN n).1) (h := fun n => (qN n).2) (fun n h1 h2 => (qN_le h1 h2).1) l hl
  have hb : l.length * (17179869184 * 1000000000) ≤ 100 * (17179869184 * 1000000000) := Nat.mul_le_mul_right _ hn
  have z : valL (0, 0) = 0 := rfl
  have h0 : gss0.ok := by simp [Gss.ok, gss0, okL]
  obtain ⟨⟨k1, k2, k3, k4⟩, v1, v2, v3, v4⟩ := gss_vals l gss0 h0 hl (by show valL (0, 0) + _ < _; omega) (by show valL (0, 0) + _ < _; omega) (by show valL (0, 0) + _ < _; omega) (by show valL (0, 0) + _ < _; omega)
  have v1 : valL (l.foldl gssS gss0).u0 = (upS (fun n => (qN n).1) l : Nat) := by rw [v1]; show valL (0, 0) + _ = _; omega
  have v2 : valL (l.foldl gssS gss0).u1 = (upS (fun n => (qN n).2) l : Nat) := by rw [v2]; show valL (0, 0) + _ = _; omega
  have v3 : valL (l.foldl gssS gss0).d0 = (dnS (fun n => (qN n).1) l : Nat) := by rw [v3]; show valL (0, 0) + _ = _; omega
  have v4 : valL (l.foldl gssS gss0).d1 = (dnS (fun n => (qN n).2) l : Nat) := by rw [v4]; show valL (0, 0) + _ = _; omega
  unfold guessF
  simp only
  rw [overL_val k1 k4, overL_val k3 k2, v1, v2, v3, v4]
  simp only [Int.ofNat_lt, decide_eq_true_eq]
theorem sums_vals {p : Nat} (hp : p ≤ 2048) : ∀ (l : List (Int × Int)) (s : Bnd) (e : Nat), (∀ x, x ∈ l → okT x) → e ≤ 32 * 512 →
    s.ul + upS (fun n => (lN n p).1) l < 2 ^ e → s.uh + upS (fun n => (lN n p).2) l < 2 ^ e → s.dl + dnS (fun n => (lN n p).1) l < 2 ^ e → s.dh + dnS (fun n => (lN n p).2) l < 2 ^ e →
    l.foldl (sumsS p) s = ⟨s.ul + upS (fun n => (lN n p).1) l, s.uh + upS (fun n => (lN n p).2) l, s.dl + dnS (fun n => (lN n p).1) l, s.dh + dnS (fun n => (lN n p).2) l⟩
  | [], s, e, _, _, _, _, _, _ => by simp [upS, dnS]
  | x :: l, s, e, hl, he, h1, h2, h3, h4 => by
    have hx := hl x (List.mem_cons_self ..)
    obtain ⟨n1, n2, n3⟩ := okT_nat hx
    have hq : logF x.1 p = lN x.1.toNat p := by
      conv => lhs; rw [n3]
      exact logF_is n1 n2 hp
    have ih := sums_vals hp l (sumsS p s x) e (fun y hy => hl y (List.mem_cons_of_mem _ hy)) he
    rw [upS] at h1 h2
    rw [dnS] at h3 h4
    rw [List.foldl_cons, upS, upS, dnS, dnS]
    by_cases c : x.2 < 0
    · rw [if_pos c] at h1 h2 h3 h4
      simp only [if_pos c]
      have e : sumsS p s x = { s with dl := s.dl + (lN x.1.toNat p).1 * (-x.2).toNat, dh := s.dh + (lN x.1.toNat p).2 * (-x.2).toNat } := by
        rw [sumsS, if_pos c, hq]
        rw [mul_id (e := e) (by omega) he, mul_id (e := e) (by omega) he, add_id (e := e) (by omega) he, add_id (e := e) (by omega) he]
      rw [e] at ih ⊢
      simp only at ih
      rw [ih (by omega) (by omega) (by omega) (by omega)]
      simp only [Bnd.mk.injEq]
      omega
    · rw [if_neg c] at h1 h2 h3 h4
      simp only [if_neg c]
      have e : sumsS p s x = { s with ul := s.ul + (lN x.1.toNat p).1 * x.2.toNat, uh := s.uh + (lN x.1.toNat p).2 * x.2.toNat } := by
        rw [sumsS, if_neg c, hq]
        rw [mul_id (e := e) (by omega) he, mul_id (e := e) (by omega) he, add_id (e := e) (by omega) he, add_id (e := e) (by omega) he]
      rw [e] at ih ⊢
      simp only at ih
      rw [ih (by omega) (by omega) (by omega) (by omega)]
      simp only [Bnd.mk.injEq]
      omega
theorem sums_is {l : List (Int × Int)} {p : Nat} (hp : p ≤ 2048) (hl : ∀ x, x ∈ l → okT x) (hn : l.length ≤ 100) : sumsF l p = ⟨upS (fun n => (lN n p).1) l, upS (fun n => (lN n p).2) l, dnS (fun n => (lN n p).1) l, dnS (fun n => (lN n p).2) l⟩ := by
  obtain ⟨a1, a2⟩ := S_le (g := fun n => (lN n p).2) (B := 64 * 2 ^ p) (fun n h1 h2 => (lN_le h1 h2).2) l hl
  obtain ⟨b1, b2⟩ := S_mono (g := fun n => (lN n p).1) (h := fun n => (lN n p).2) (fun n h1 h2 => (lN_le h1 h2).1) l hl
  have hb : l.length * (64 * 2 ^ p * 1000000000) ≤ 100 * (64 * 2 ^ p * 1000000000) := Nat.mul_le_mul_right _ hn
  have hp2 : 100 * (64 * 2 ^ p * 1000000000) < 2 ^ (p + 43) := by
    have : (2 : Nat) ^ (p + 43) = 8796093022208 * 2 ^ p := by rw [Nat.pow_add, Nat.mul_comm]
    have := Nat.one_le_two_pow (n := p)
    omega
  unfold sumsF
  rw [sums_vals hp l ⟨0, 0, 0, 0⟩ (p + 43) hl (by omega) (by simp only; omega) (by simp only; omega) (by simp only; omega) (by simp only; omega)]
  simp only [Nat.zero_add]
end Go.Proofs.Ytijadllhfgajlaa
set_option linter.all false
namespace Go.Proofs.Ytijadllhfgajlaa
open Go Go.Vx
set_option maxRecDepth 100000
inductive Spn (L : List Nat) : Nat → Prop
  | one : Spn L 1
  | mul {x y : Nat} : x ∈ L → Spn L y → Spn L (x * y)
theorem Spn.mem {L : List Nat} {x : Nat} (h : x ∈ L) : Spn L x := by
  have := Spn.mul h Spn.one
  rwa [Nat.mul_one] at this
theorem Spn.mul2 {L : List Nat} {x y : Nat} (hx : Spn L x) (hy : Spn L y) : Spn L (x * y) := by
  induction hx with
  | one => rwa [Nat.one_mul]
  | mul h _ ih => rw [Nat.mul_assoc]; exact .mul h ih
theorem Spn.sub {L L' : List Nat} (h : ∀ x, x ∈ L → Spn L' x) {y : Nat} (hy : Spn L y) : Spn L' y := by
  induction hy with
  | one => exact .one
  | mul hx _ ih => exact (h _ hx).mul2 ih
def Cop (r : List Nat) : Prop := r.Pairwise fun a b => Nat.gcd a b = 1
theorem drain_spn {B : Nat} : ∀ {f : Nat} {wait out : List Nat}, DrOk B f wait out → Cop out → Cop (drain f wait out) ∧ ∀ y, Spn (out ++ wait) y → Spn (drain f wait out) y
  | 0, wait, out, h, hc => by
    have hw : wait = [] := List.length_eq_zero_iff.1 (by have := h.mu; omega)
    rw [drain, hw, List.append_nil]
    exact ⟨hc, fun _ h => h⟩
  | f + 1, wait, out, h, hc => by
    rw [drain]
    by_cases hw : wait.length = 0
    · rw [if_pos hw]
      have hw : wait = [] := List.length_eq_zero_iff.1 hw
      rw [hw, List.append_nil]
      exact ⟨hc, fun _ h => h⟩
    · rw [if_neg hw]
      have e := split_last hw
      by_cases h1 : wait.getD (wait.length - 1) 0 = 1
      · rw [if_pos h1]
        obtain ⟨g, hg, hd⟩ := h.pop hw h1
        obtain rfl : f = g := by omega
        obtain ⟨k1, k2⟩ := drain_spn hd hc
        refine ⟨k1, fun y hy => k2 y (hy.sub fun x hx => ?_)⟩
        rw [e, List.mem_append, List.mem_append, List.mem_singleton] at hx
        rcases hx with hx | hx | hx
        · exact .mem (List.mem_append_left _ hx)
        · exact .mem (List.mem_append_right _ hx)
        · rw [hx, h1]; exact .one
      · rw [if_neg h1]
        have hsp := leastF_spec (f := fun i => decide (1 < Nat.gcd (out.getD i 0) (wait.getD (wait.length - 1) 0))) out.length 0
        have hn : 1 ≤ wait.getD (wait.length - 1) 0 := (h.wp _ (getD_mem (l := wait) (i := wait.length - 1) (by omega))).1
        by_cases h2 : hitF out (wait.getD (wait.length - 1) 0) < out.length
        · rw [if_pos h2]
          have hs := hsp.2.2.2 (by simpa [hitF] using h2)
          obtain ⟨g, hg, hd⟩ := h.hit hw h2 (of_decide_eq_true hs)
          obtain rfl : f = g := by omega
          have e' := split_at h2
          generalize hitF out (wait.getD (wait.length - 1) 0) = i at *
          have hsub : List.Sublist (out.take i ++ out.drop (i + 1)) out := by
            conv => rhs; rw [e']
            exact (List.sublist_cons_self _ _).append_left _
          obtain ⟨k1, k2⟩ := drain_spn hd (List.Pairwise.sublist hsub hc)
          refine ⟨k1, fun y hy => k2 y (hy.sub fun x hx => ?_)⟩
          generalize hL : out.take i ++ out.drop (i + 1) ++ (wait.take (wait.length - 1) ++ [Nat.gcd (out.getD i 0) (wait.getD (wait.length - 1) 0), out.getD i 0 / Nat.gcd (out.getD i 0) (wait.getD (wait.length - 1) 0), wait.getD (wait.length - 1) 0 / Nat.gcd (out.getD i 0) (wait.getD (wait.length - 1) 0)]) = L
          have mL : ∀ z, z ∈ out.take i ∨ z ∈ out.drop (i + 1) ∨ z ∈ wait.take (wait.length - 1) ∨ z = Nat.gcd (out.getD i 0) (wait.getD (wait.length - 1) 0) ∨ z = out.getD i 0 / Nat.gcd (out.getD i 0) (wait.getD (wait.length - 1) 0) ∨ z = wait.getD (wait.length - 1) 0 / Nat.gcd (out.getD i 0) (wait.getD (wait.length - 1) 0) → Spn L z := fun z hz => by
            refine .mem ?_
            rw [← hL]
            simp only [List.mem_append, List.mem_cons, List.not_mem_nil, or_false]
            rcases hz with hz | hz | hz | hz | hz | hz
            · exact .inl (.inl hz)
            · exact .inl (.inr hz)
            · exact .inr (.inl hz)
            · exact .inr (.inr (.inl hz))
            · exact .inr (.inr (.inr (.inl hz)))
            · exact .inr (.inr (.inr (.inr hz)))
          rcases List.mem_append.1 hx with hx | hx
          · rw [e'] at hx
            rcases List.mem_append.1 hx with hx | hx
            · exact mL _ (.inl hx)
            · rcases List.mem_cons.1 hx with hx | hx
              · rw [hx]
                have := (mL _ (.inr (.inr (.inr (.inl rfl))))).mul2 (mL _ (.inr (.inr (.inr (.inr (.inl rfl))))))
                rwa [Nat.mul_div_cancel' (Nat.gcd_dvd_left _ _)] at this
              · exact mL _ (.inr (.inl hx))
          · rw [e] at hx
            rcases List.mem_append.1 hx with hx | hx
            · exact mL _ (.inr (.inr (.inl hx)))
            · rw [List.mem_singleton] at hx
              rw [hx]
              have := (mL _ (.inr (.inr (.inr (.inl rfl))))).mul2 (mL _ (.inr (.inr (.inr (.inr (.inr rfl))))))
              rwa [Nat.mul_div_cancel' (Nat.gcd_dvd_right _ _)] at this
        · rw [if_neg h2]
          obtain ⟨g, hg, hd⟩ := h.push hw h1
          obtain rfl : f = g := by omega
          have hcop : Cop (out ++ [wait.getD (wait.length - 1) 0]) := by
            refine List.pairwise_append.2 ⟨hc, List.pairwise_singleton _ _, fun a ha b hb => ?_⟩
            rw [List.mem_singleton] at hb
            rw [hb]
            obtain ⟨j, hj, hja⟩ := mem_getD ha
            have := hsp.2.2.1 j (by omega) (by show j < hitF out _; omega)
            have := of_decide_eq_false this
            rw [show out.getD j 0 = a from hja] at this
            have := Nat.gcd_pos_of_pos_right a hn
            omega
          obtain ⟨k1, k2⟩ := drain_spn hd hcop
          refine ⟨k1, fun y hy => k2 y (hy.sub fun x hx => ?_)⟩
          rw [e, List.mem_append, List.mem_append, List.mem_singleton] at hx
          refine .mem ?_
          rw [List.mem_append, List.mem_append, List.mem_singleton]
          rcases hx with hx | hx | hx
          · exact .inl (.inl hx)
          · exact .inr hx
          · exact .inl (.inr hx)
theorem base_spn {l : List (Int × Int)} (hl : ∀ x, x ∈ l → okT x) (hn : l.length ≤ 20) : Cop (baseF l) ∧ ∀ x, x ∈ l → Spn (baseF l) x.1.toNat := by
  have key : ∀ i, i ≤ l.length → ((∀ x, x ∈ (l.take i).foldl drainF [] → 2 ≤ x ∧ x ≤ 1099511627776) ∧ bitsN (prodL ((l.take i).foldl drainF [])) ≤ 40 * i + 1) ∧ Cop ((l.take i).foldl drainF []) ∧ ∀ x, x ∈ l.take i → Spn ((l.take i).foldl drainF []) x.1.toNat := fun i => by
    induction i with
    | zero => exact fun _ => ⟨⟨fun x hx => absurd hx (by simp), by simp [prodL]; decide⟩, List.Pairwise.nil, fun x hx => absurd hx (by simp)⟩
    | succ i ih =>
      intro hi
      obtain ⟨⟨h1, h2⟩, h3, h4⟩ := ih (by omega)
      have hx := hl _ (getD_mem (by omega : i < l.length))
      rw [foldl_take_succ (by omega), take_succ_eq (by omega)]
      obtain ⟨q0, q1, q2, q3⟩ := hx
      have hd := DrOk.start (N := (l.getD i default).1.toNat) (by omega) (by omega) h1 h2 (by omega)
      obtain ⟨d1, d2⟩ := drain_spn hd h3
      refine ⟨drain_rng hd, d1, fun y hy => ?_⟩
      rcases List.mem_append.1 hy with hy | hy
      · exact d2 _ ((h4 y hy).sub fun z hz => .mem (List.mem_append_left _ hz))
      · rw [List.mem_singleton] at hy
        rw [hy]
        exact d2 _ (.mem (List.mem_append_right _ (List.mem_singleton.2 rfl)))
  have := (key l.length (Nat.le_refl _)).2
  rwa [List.take_length] at this
def vl : Nat → Nat → Nat → Nat
  | 0, _, _ => 0
  | f + 1, b, x => if x % b = 0 then vl f b (x / b) + 1 else 0
theorem vl_spec {b : Nat} (hb : 2 ≤ b) : ∀ (f x : Nat), 1 ≤ x → x < 2 ^ f → ∀ e, b ^ e ∣ x ↔ e ≤ vl f b x
  | 0, x, h1, h2, _ => by simp at h2; omega
  | f + 1, x, h1, h2, e => by
    rw [vl]
    by_cases c : x % b = 0
    · rw [if_pos c]
      obtain ⟨y, rfl⟩ := Nat.dvd_of_mod_eq_zero c
      have hy : 1 ≤ y := Nat.pos_of_ne_zero fun h => by rw [h, Nat.mul_zero] at h1; omega
      rw [Nat.mul_div_cancel_left _ (by omega)]
      have hy2 : y < 2 ^ f := by
        have : 2 * y ≤ b * y := Nat.mul_le_mul_right _ hb
        rw [Nat.pow_succ] at h2; omega
      cases e with
      | zero => simp
      | succ e =>
        rw [Nat.pow_succ, Nat.mul_comm, Nat.mul_dvd_mul_iff_left (by omega), vl_spec hb f y hy hy2]
        omega
    · rw [if_neg c]
      cases e with
      | zero => simp
      | succ e =>
        refine ⟨fun h => absurd (Nat.mod_eq_zero_of_dvd (Nat.dvd_trans ⟨b ^ e, by rw [Nat.pow_succ, Nat.mul_comm]⟩ h)) c, fun h => by omega⟩
theorem vl_mul {r : List Nat} (hc : Cop r) (h2 : ∀ x, x ∈ r → 2 ≤ x) {b c y : Nat} (hb : b ∈ r) (hcm : c ∈ r) (hy : 1 ≤ y) (hyl : c * y < 2 ^ 64) : vl 64 b (c * y) = vl 64 b y + if b = c then 1 else 0 := by
  have hb2 := h2 _ hb
  have hc2 := h2 _ hcm
  have hcy : 1 ≤ c * y := Nat.mul_pos (by omega) hy
  have hy2 : y < 2 ^ 64 := Nat.lt_of_le_of_lt (Nat.le_mul_of_pos_left _ (by omega)) hyl
  have s1 := vl_spec hb2 64 (c * y) hcy hyl
  have s2 := vl_spec hb2 64 y hy hy2
  have ext : ∀ A B : Nat, (∀ e, e ≤ A ↔ e ≤ B) → A = B := fun A B h => Nat.le_antisymm ((h A).1 (Nat.le_refl _)) ((h B).2 (Nat.le_refl _))
  refine ext _ _ fun e => ?_
  rw [← s1 e]
  by_cases ebc : b = c
  · rw [if_pos ebc, ← ebc]
    cases e with
    | zero => simp
    | succ e =>
      rw [Nat.pow_succ, Nat.mul_comm, Nat.mul_dvd_mul_iff_left (by omega), s2 e]
      omega
  · rw [if_neg ebc, Nat.add_zero, ← s2 e]
    have hg : Nat.gcd b c = 1 := by
      obtain ⟨i, hi, rfl⟩ := List.mem_iff_getElem.1 hb
      obtain ⟨j, hj, rfl⟩ := List.mem_iff_getElem.1 hcm
      rcases Nat.lt_trichotomy i j with h | h | h
      · exact List.pairwise_iff_getElem.1 hc i j hi hj h
      · subst h; exact absurd rfl ebc
      · rw [Nat.gcd_comm]; exact List.pairwise_iff_getElem.1 hc j i hj hi h
    exact ⟨fun h => Nat.Coprime.dvd_of_dvd_mul_left (Nat.Coprime.pow_left e hg) h, fun h => Nat.dvd_trans h (Nat.dvd_mul_left _ _)⟩
def PV (e : Nat → Nat) : List Nat → Nat
  | [] => 1
  | b :: r => b ^ e b * PV e r
theorem PV_congr {e e' : Nat → Nat} : ∀ {r : List Nat}, (∀ b, b ∈ r → e b = e' b) → PV e r = PV e' r
  | [], _ => rfl
  | b :: r, h => by rw [PV, PV, h b (List.mem_cons_self ..), PV_congr fun x hx => h x (List.mem_cons_of_mem _ hx)]
theorem PV_zero : ∀ (r : List Nat), PV (fun _ => 0) r = 1
  | [] => rfl
  | b :: r => by rw [PV, PV_zero r]; rfl
theorem PV_add (e e' : Nat → Nat) : ∀ (r : List Nat), PV (fun b => e b + e' b) r = PV e r * PV e' r
  | [] => rfl
  | b :: r => by rw [PV, PV, PV, PV_add e e' r, Nat.pow_add, Nat.mul_mul_mul_comm]
theorem PV_pow (e : Nat → Nat) (k : Nat) : ∀ (r : List Nat), PV (fun b => e b * k) r = PV e r ^ k
  | [] => by simp [PV]
  | b :: r => by rw [PV, PV, PV_pow e k r, Nat.pow_mul, Nat.mul_pow]
theorem PV_one {c : Nat} : ∀ {r : List Nat}, Cop r → (∀ x, x ∈ r → 2 ≤ x) → c ∈ r → PV (fun b => if b = c then 1 else 0) r = c
  | b :: r, hc, h2, hm => by
    obtain ⟨g1, g2⟩ := List.pairwise_cons.1 hc
    have hb2 := h2 b (List.mem_cons_self ..)
    rw [PV]
    by_cases e : b = c
    · subst e
      rw [if_pos rfl, Nat.pow_one]
      have : PV (fun x => if x = b then 1 else 0) r = PV (fun _ => 0) r := PV_congr fun x hx => by
        refine if_neg fun hh => ?_
        have := g1 x hx
        rw [hh, Nat.gcd_self] at this
        omega
      rw [this, PV_zero, Nat.mul_one]
    · rw [if_neg e, Nat.pow_zero, Nat.one_mul]
      refine PV_one g2 (fun x hx => h2 x (List.mem_cons_of_mem _ hx)) ?_
      rcases List.mem_cons.1 hm with h | h
      · exact absurd h.symm e
      · exact h
theorem PV_is {r : List Nat} (hc : Cop r) (h2 : ∀ x, x ∈ r → 2 ≤ x) {y : Nat} (hy : Spn r y) : 1 ≤ y ∧ (y < 2 ^ 64 → PV (fun b => vl 64 b y) r = y) := by
  induction hy with
  | one =>
    refine ⟨Nat.le_refl _, fun _ => ?_⟩
    rw [PV_congr (e' := fun _ => 0) fun b hb => ?_, PV_zero]
    have hb2 := h2 b hb
    rw [vl, if_neg (by rw [Nat.mod_eq_of_lt (by omega)]; decide)]
  | @mul x y hx _ ih =>
    obtain ⟨i1, i2⟩ := ih
    have hx2 := h2 x hx
    refine ⟨Nat.mul_pos (by omega) i1, fun hlt => ?_⟩
    rw [PV_congr fun b hb => vl_mul hc h2 hb hx i1 hlt, PV_add, PV_one hc h2 hx, i2 (Nat.lt_of_le_of_lt (Nat.le_mul_of_pos_left _ (by omega)) hlt), Nat.mul_comm]
theorem divL_is {b : Nat} (hb : 2 ≤ b) (hbl : b ≤ 1099511627776) {num : Int} (hn : -1000000000 ≤ num ∧ num ≤ 1000000000) : ∀ (f x : Nat) (s : Int), x < 4611686018427387904 → f ≤ 64 → -1000000000000000 + f * 1000000000 ≤ s → s ≤ 1000000000000000 - f * 1000000000 →
    divL f (b : Int) (x : Int) num s = s + num * (vl f b x : Nat) :=
  by
  intro f
  induction f with
  | zero => intro x s _ _ _ _; simp [divL, vl]
  | succ f ih =>
    intro x s hx hf h1 h2
    rw [divL, vl]
    have e1 : (x : Int).tmod (b : Int) = ((x % b : Nat) : Int) := rfl
    have e2 : (x : Int).tdiv (b : Int) = ((x / b : Nat) : Int) := rfl
    rw [e1, e2]
    by_cases c : x % b = 0
    · have hq : x / b ≤ x := Nat.div_le_self _ _
      rw [if_pos (by omega), if_pos c]
      generalize x / b = q at *
      rw [IntWalk.i64_in _ (by omega), IntWalk.i64_in (s + num) (by omega), ih q (s + num) (by omega) (by omega) (by omega) (by omega), Int.natCast_add, Int.mul_add]
      simp only [Int.natCast_one, Int.mul_one]
      omega
    · rw [if_neg (by omega), if_neg c]; simp
theorem sumB_is {b : Nat} (hb : 2 ≤ b) (hbl : b ≤ 1099511627776) : ∀ (l : List (Int × Int)) (s : Int), (∀ x, x ∈ l → okT x) → l.length ≤ 100 → -1000000000000000 + (l.length + 1) * 64000000000 ≤ s → s ≤ 1000000000000000 - (l.length + 1) * 64000000000 →
    l.foldl (fun s x => divL 64 b x.1 x.2 s) s = s + (upS (vl 64 b) l : Nat) - (dnS (vl 64 b) l : Nat) :=
  by
  intro l
  induction l with
  | nil => intro s _ _ _ _; simp [upS, dnS]
  | cons x l ihl =>
    intro s hl hn h1 h2
    have hx := hl x (List.mem_cons_self ..)
    obtain ⟨n1, n2, n3⟩ := okT_nat hx
    obtain ⟨_, _, x3, x4⟩ := hx
    rw [List.length_cons] at hn h1 h2
    have hv : vl 64 b x.1.toNat ≤ 64 := by
      have key : ∀ f y, vl f b y ≤ f := fun f => by
        induction f with
        | zero => intro y; exact Nat.le_refl _
        | succ f ih =>
          intro y
          rw [vl]
          split
          · have := ih (y / b); omega
          · omega
      exact key 64 _
    have hd : divL 64 (b : Int) x.1 x.2 s = s + x.2 * (vl 64 b x.1.toNat : Nat) := by
      conv => lhs; rw [n3]
      exact divL_is hb hbl ⟨x3, x4⟩ 64 _ s n2 (by decide) (by omega) (by omega)
    have hb1 : x.2 * (vl 64 b x.1.toNat : Nat) ≤ 1000000000 * 64 := by
      refine Int.le_trans (Int.mul_le_mul_of_nonneg_right x4 (by omega)) ?_
      exact Int.mul_le_mul_of_nonneg_left (by omega) (by decide)
    have hb2 : -1000000000 * 64 ≤ x.2 * (vl 64 b x.1.toNat : Nat) := by
      refine Int.le_trans ?_ (Int.mul_le_mul_of_nonneg_right x3 (by omega))
      omega
    rw [List.foldl_cons, hd, ihl _ (fun y hy => hl y (List.mem_cons_of_mem _ hy)) (by omega) (by omega) (by omega), upS, dnS]
    by_cases c : x.2 < 0
    · rw [if_pos c, if_pos c]
      have : x.2 * (vl 64 b x.1.toNat : Nat) = -((vl 64 b x.1.toNat * (-x.2).toNat : Nat) : Int) := by
        rw [Int.natCast_mul, show (((-x.2).toNat : Nat) : Int) = -x.2 by omega, Int.mul_neg, Int.neg_neg, Int.mul_comm]
      rw [this]; omega
    · rw [if_neg c, if_neg c]
      have : x.2 * (vl 64 b x.1.toNat : Nat) = ((vl 64 b x.1.toNat * x.2.toNat : Nat) : Int) := by
        rw [Int.natCast_mul, show ((x.2.toNat : Nat) : Int) = x.2 by omega, Int.mul_comm]
      rw [this]; omega
theorem P_is {r : List Nat} (hc : Cop r) (h2 : ∀ x, x ∈ r → 2 ≤ x) : ∀ (l : List (Int × Int)), (∀ x, x ∈ l → okT x ∧ Spn r x.1.toNat) →
    upP l = PV (fun b => upS (vl 64 b) l) r ∧ dnP l = PV (fun b => dnS (vl 64 b) l) r
  | [], _ => by
    constructor
    · exact (PV_zero r).symm
    · exact (PV_zero r).symm
  | x :: l, hl => by
    obtain ⟨i1, i2⟩ := P_is hc h2 l fun y hy => hl y (List.mem_cons_of_mem _ hy)
    obtain ⟨hx, hs⟩ := hl x (List.mem_cons_self ..)
    obtain ⟨n1, n2, n3⟩ := okT_nat hx
    have e := (PV_is hc h2 hs).2 (by omega)
    rw [upP, dnP, i1, i2]
    by_cases c : x.2 < 0
    · rw [if_pos c, if_pos c]
      constructor
      · rw [Nat.one_mul]
        exact PV_congr fun b _ => by rw [upS, if_pos c, Nat.zero_add]
      · have : ∀ b, dnS (vl 64 b) (x :: l) = vl 64 b x.1.toNat * (-x.2).toNat + dnS (vl 64 b) l := fun b => by rw [dnS, if_pos c]
        rw [PV_congr fun b _ => this b, PV_add, PV_pow, e]
    · rw [if_neg c, if_neg c]
      constructor
      · have : ∀ b, upS (vl 64 b) (x :: l) = vl 64 b x.1.toNat * x.2.toNat + upS (vl 64 b) l := fun b => by rw [upS, if_neg c]
        rw [PV_congr fun b _ => this b, PV_add, PV_pow, e]
      · rw [Nat.one_mul]
        exact PV_congr fun b _ => by rw [dnS, if_neg c, Nat.zero_add]
theorem one_sound {l : List (Int × Int)} (hl : ∀ x, x ∈ l → okT x) (hn : l.length ≤ 20) (h : oneF l = true) : upP l = dnP l := by
  obtain ⟨hc, hs⟩ := base_spn hl hn
  have hr := baseF_rng hl hn
  obtain ⟨e1, e2⟩ := P_is hc (fun x hx => (hr x hx).1) l fun x hx => ⟨hl x hx, hs x hx⟩
  rw [e1, e2]
  refine PV_congr fun b hb => ?_
  have hb2 := hr b hb
  have h0 := of_decide_eq_true (List.all_eq_true.1 h b hb)
  unfold sumB at h0
  rw [sumB_is hb2.1 hb2.2 l 0 hl (by omega) (by omega) (by omega)] at h0
  omega
end Go.Proofs.Ytijadllhfgajlaa
set_option linter.all false
namespace Go.Proofs.Ytijadllhfgajlaa
open Go Go.Vx
def Und (l : List (Int × Int)) (p : Nat) : Prop := upS (fun n => (lN n p).1) l ≤ dnS (fun n => (lN n p).2) l ∧ dnS (fun n => (lN n p).1) l ≤ upS (fun n => (lN n p).2) l
theorem lt_of_pow {a b K : Nat} (h : a ^ K < b ^ K) : a < b := by
  refine Nat.lt_of_not_le fun hh => ?_
  have := Nat.pow_le_pow_left hh K
  omega
theorem lt_of_logs {a b x y K : Nat} (ha : a ^ K ≤ 2 ^ x) (hb : 2 ^ y ≤ b ^ K) (h : x < y) : a < b := by
  refine lt_of_pow (K := K) ?_
  have : (2 : Nat) ^ x < 2 ^ y := (Nat.pow_lt_pow_iff_right (by decide)).2 h
  omega
theorem signL_sound {l : List (Int × Int)} (hl : ∀ x, x ∈ l → okT x) (hn : l.length ≤ 20) : ∀ (f p : Nat), 1 ≤ f → 1 ≤ p → p * 2 ^ f = 4096 →
    (signL f l p = 1 → dnP l < upP l) ∧ (signL f l p = -1 → upP l < dnP l) ∧ (signL f l p = 0 → Und l 2048) ∧ (signL f l p = 1 ∨ signL f l p = -1 ∨ signL f l p = 0) := by
  intro f
  induction f with
  | zero => intro p h; omega
  | succ f ih =>
    intro p _ hp1 hp
    have h1 := p2_pos f
    rw [Nat.pow_succ] at hp
    have hp2 : p ≤ 2048 := by
      have : p * 2 ≤ p * (2 ^ f * 2) := Nat.mul_le_mul_left _ (by omega)
      omega
    have hs := sums_is (p := p) hp2 hl (by omega)
    obtain ⟨⟨a1, a2⟩, b1, b2⟩ := upS_sound (K := 2 ^ p) (g := fun n => (lN n p).1) (h := fun n => (lN n p).2) (fun n k1 k2 => lN_sound k1 k2) l hl
    rw [signL, hs]
    dsimp only
    by_cases c1 : dnS (fun n => (lN n p).2) l < upS (fun n => (lN n p).1) l
    · rw [if_pos c1]
      exact ⟨fun _ => lt_of_logs b2 a1 c1, fun h => absurd h (by decide), fun h => absurd h (by decide), Or.inl rfl⟩
    · rw [if_neg c1]
      by_cases c2 : upS (fun n => (lN n p).2) l < dnS (fun n => (lN n p).1) l
      · rw [if_pos c2]
        exact ⟨fun h => absurd h (by decide), fun _ => lt_of_logs a2 b1 c2, fun h => absurd h (by decide), Or.inr (Or.inl rfl)⟩
      · rw [if_neg c2]
        rcases Nat.eq_zero_or_pos f with h0 | h0
        · subst h0
          have e : p = 2048 := by rw [Nat.pow_zero] at hp; omega
          subst e
          exact ⟨fun h => absurd h (by rw [signL]; decide), fun h => absurd h (by rw [signL]; decide), fun _ => ⟨by omega, by omega⟩, Or.inr (Or.inr rfl)⟩
        · exact ih (2 * p) h0 (by omega) (by rw [← hp, Nat.mul_comm 2 p, Nat.mul_assoc, Nat.mul_comm 2])
theorem sign_sound {l : List (Int × Int)} (hl : ∀ x, x ∈ l → okT x) (hn : l.length ≤ 20) :
    (signF l = 1 → dnP l < upP l) ∧ (signF l = -1 → upP l < dnP l) ∧ (signF l = 0 → oneF l = true ∨ Und l 2048) ∧ (signF l = 1 ∨ signF l = -1 ∨ signF l = 0) := by
  have hg := guess_is hl (by omega)
  obtain ⟨⟨a1, a2⟩, b1, b2⟩ := upS_sound (K := 2 ^ 28) (g := fun n => (qN n).1) (h := fun n => (qN n).2) (fun n k1 k2 => qN_sound k1 k2) l hl
  unfold signF
  by_cases c1 : dnS (fun n => (qN n).2) l < upS (fun n => (qN n).1) l
  · rw [if_pos c1] at hg
    rw [hg, if_pos rfl]
    exact ⟨fun _ => lt_of_logs b2 a1 c1, fun h => absurd h (by decide), fun h => absurd h (by decide), Or.inl rfl⟩
  · rw [if_neg c1] at hg
    by_cases c2 : upS (fun n => (qN n).2) l < dnS (fun n => (qN n).1) l
    · rw [if_pos c2] at hg
      rw [hg, if_pos rfl]
      exact ⟨fun h => absurd h (by decide), fun _ => lt_of_logs a2 b1 c2, fun h => absurd h (by decide), Or.inr (Or.inl rfl)⟩
    · rw [if_neg c2] at hg
      rw [hg, if_neg (by decide)]
      by_cases c3 : oneF l = true
      · rw [if_pos c3]
        exact ⟨fun h => absurd h (by decide), fun h => absurd h (by decide), fun _ => Or.inl c3, Or.inr (Or.inr rfl)⟩
      · rw [if_neg c3]
        obtain ⟨k1, k2, k3, k4⟩ := signL_sound hl hn 6 64 (by decide) (by decide) (by decide)
        exact ⟨k1, k2, fun h => Or.inr (k3 h), k4⟩
theorem S_add {g h w : Nat → Nat} {c : Nat} : ∀ (l : List (Int × Int)), (∀ x, x ∈ l → h x.1.toNat ≤ g x.1.toNat + w x.1.toNat * c) → upS h l ≤ upS g l + upS w l * c ∧ dnS h l ≤ dnS g l + dnS w l * c
  | [], _ => by simp [upS, dnS]
  | x :: l, H => by
    obtain ⟨i1, i2⟩ := S_add l fun y hy => H y (List.mem_cons_of_mem _ hy)
    have hx := H x (List.mem_cons_self ..)
    have key : ∀ e : Nat, h x.1.toNat * e ≤ g x.1.toNat * e + w x.1.toNat * e * c := fun e => by
      have h1 := Nat.mul_le_mul_right e hx
      rw [Nat.add_mul] at h1
      rw [Nat.mul_assoc (w x.1.toNat), Nat.mul_comm e c, ← Nat.mul_assoc]
      exact h1
    rw [upS, upS, upS, dnS, dnS, dnS, Nat.add_mul, Nat.add_mul]
    constructor
    · split
      · rw [Nat.zero_mul]; omega
      · have := key x.2.toNat; omega
    · split
      · have := key (-x.2).toNat; omega
      · rw [Nat.zero_mul]; omega
theorem und_near {l : List (Int × Int)} {J : Nat} {w : Nat → Nat} (hJ : J ≤ 2048) (hl : ∀ x, x ∈ l → okT x) (hw : ∀ x, x ∈ l → (lN x.1.toNat 2048).2 ≤ (lN x.1.toNat 2048).1 + w x.1.toNat * 2 ^ (2048 - J)) (h : Und l 2048) :
    dnP l ^ (2 ^ J) ≤ upP l ^ (2 ^ J) * 2 ^ (upS w l + dnS w l) := by
  obtain ⟨⟨a1, a2⟩, b1, b2⟩ := upS_sound (K := 2 ^ 2048) (g := fun n => (lN n 2048).1) (h := fun n => (lN n 2048).2) (fun n k1 k2 => lN_sound k1 k2) l hl
  obtain ⟨s1, s2⟩ := S_add (g := fun n => (lN n 2048).1) (h := fun n => (lN n 2048).2) (w := w) (c := 2 ^ (2048 - J)) l hw
  obtain ⟨_, h2⟩ := h
  obtain ⟨c, hc⟩ : ∃ c, c = 2 ^ (2048 - J) := ⟨_, rfl⟩
  obtain ⟨K, hK⟩ : ∃ K, K = (2 : Nat) ^ 2048 := ⟨_, rfl⟩
  have hc0 : c ≠ 0 := by rw [hc]; have := p2_pos (2048 - J); omega
  have hKc : K = 2 ^ J * c := by rw [hK, hc, ← Nat.pow_add]; congr 1; omega
  rw [← hc] at s1 s2
  rw [← hK] at a1 a2 b1 b2
  rw [← Nat.pow_le_pow_iff_left hc0, Nat.mul_pow, ← Nat.pow_mul, ← Nat.pow_mul, ← hKc, ← Nat.pow_mul, Nat.add_mul]
  refine Nat.le_trans b2 ?_
  refine Nat.le_trans (Nat.pow_le_pow_right (by decide) (show _ ≤ upS (fun n => (lN n 2048).1) l + (upS w l * c + dnS w l * c) by omega)) ?_
  rw [Nat.pow_add]
  exact Nat.mul_le_mul_right _ a1
theorem bern (Q : Nat) : ∀ n, Q ^ n * (Q + n) ≤ Q * (Q + 1) ^ n
  | 0 => by simp
  | n + 1 => by
    have ih := bern Q n
    have h1 : Q ^ (n + 1) * (Q + (n + 1)) = Q * (Q ^ n * (Q + n)) + Q * Q ^ n := by
      rw [Nat.pow_succ, ← Nat.add_assoc, Nat.mul_add, Nat.mul_one, Nat.mul_comm (Q ^ n) Q, Nat.mul_assoc]
    have h2 : Q * (Q + 1) ^ (n + 1) = Q * (Q * (Q + 1) ^ n) + Q * (Q + 1) ^ n := by
      rw [Nat.pow_succ, Nat.mul_add, Nat.mul_one, Nat.mul_add, Nat.mul_comm ((Q + 1) ^ n) Q]
    have h3 := Nat.mul_le_mul_left Q (Nat.pow_le_pow_left (show Q ≤ Q + 1 by omega) n)
    have h4 := Nat.mul_le_mul_left Q ih
    omega
theorem two_le (Q : Nat) (hQ : 0 < Q) : 2 * Q ^ Q ≤ (Q + 1) ^ Q := by
  have := bern Q Q
  refine Nat.le_of_mul_le_mul_left (c := Q) ?_ hQ
  have e : Q * (2 * Q ^ Q) = Q ^ Q * (Q + Q) := by rw [Nat.mul_add, Nat.two_mul, Nat.mul_add, Nat.mul_comm Q]
  omega
theorem und_ratio {D U E Q : Nat} (hQ : 0 < Q) (h : D ^ Q ≤ U ^ Q * 2 ^ E) : D * Q ^ E ≤ U * (Q + 1) ^ E := by
  have h2 := Nat.pow_le_pow_left (two_le Q hQ) E
  rw [Nat.mul_pow] at h2
  rw [← Nat.pow_le_pow_iff_left (show Q ≠ 0 by omega), Nat.mul_pow, Nat.mul_pow, ← Nat.pow_mul, ← Nat.pow_mul, Nat.mul_comm E Q, Nat.pow_mul, Nat.pow_mul]
  refine Nat.le_trans (Nat.mul_le_mul_right _ h) ?_
  rw [Nat.mul_assoc]
  exact Nat.mul_le_mul_left _ h2
def Near (M W J N m : Nat) : Prop := 2 ^ m * M ≤ N ^ (2 ^ J) * M + 2 ^ m * W ∧ N ^ (2 ^ J) * M ≤ 2 ^ m * (M + W)
theorem Near.mono {M W W' J N m : Nat} (h : Near M W J N m) (hw : W ≤ W') : Near M W' J N m := by
  obtain ⟨h1, h2⟩ := h
  have k1 := Nat.mul_le_mul_left (2 ^ m) hw
  have k2 := Nat.mul_le_mul_left (2 ^ m) (show M + W ≤ M + W' by omega)
  exact ⟨by omega, by omega⟩
theorem Near.sq {M W J N m : Nat} (hM : 0 < M) (hW : W ≤ M) (h : Near M W J N m) : Near M (3 * W) (J + 1) N (2 * m) := by
  obtain ⟨h1, h2⟩ := h
  unfold Near
  have e0 : N ^ 2 ^ (J + 1) = N ^ 2 ^ J * N ^ 2 ^ J := by rw [Nat.pow_succ, Nat.pow_mul, Nat.pow_two]
  rw [e0, pow_dbl]
  generalize N ^ 2 ^ J = X at *
  generalize 2 ^ m = P at *
  constructor
  · refine Nat.le_of_mul_le_mul_right (c := M) ?_ hM
    have k1 : P * (M - W) ≤ X * M := by rw [Nat.mul_sub]; omega
    have k2 := Nat.mul_le_mul k1 k1
    obtain ⟨V, hV⟩ : ∃ V, V = M - W := ⟨_, rfl⟩
    have hM2 : M = V + W := by omega
    rw [← hV] at k2
    have e1 : P * V * (P * V) = P * P * (V * V) := by simp only [Nat.mul_assoc, Nat.mul_left_comm]
    have e2 : (X * M) * (X * M) = X * X * M * M := by simp only [Nat.mul_assoc, Nat.mul_left_comm]
    have e3 : P * P * M * M = P * P * (M * M) := by simp only [Nat.mul_assoc]
    have e4 : (X * X * M + P * P * (3 * W)) * M = X * X * M * M + P * P * (3 * W * M) := by rw [Nat.add_mul, Nat.mul_assoc (P * P)]
    have e5 : M * M ≤ V * V + 3 * W * M := by
      rw [hM2, Nat.add_mul, Nat.mul_add, Nat.mul_add, Nat.mul_add]
      have : W * V = V * W := Nat.mul_comm ..
      have h3 : 3 * W * V = 3 * (W * V) := Nat.mul_assoc ..
      have h4 : 3 * W * W = 3 * (W * W) := Nat.mul_assoc ..
      omega
    have e6 := Nat.mul_le_mul_left (P * P) e5
    rw [Nat.mul_add] at e6
    omega
  · refine Nat.le_of_mul_le_mul_right (c := M) ?_ hM
    have k2 := Nat.mul_le_mul h2 h2
    have e1 : P * (M + W) * (P * (M + W)) = P * P * ((M + W) * (M + W)) := by simp only [Nat.mul_assoc, Nat.mul_left_comm]
    have e2 : (X * M) * (X * M) = X * X * M * M := by simp only [Nat.mul_assoc, Nat.mul_left_comm]
    have e3 : P * P * (M + 3 * W) * M = P * P * ((M + 3 * W) * M) := by simp only [Nat.mul_assoc]
    have e5 : (M + W) * (M + W) ≤ (M + 3 * W) * M := by
      rw [Nat.add_mul, Nat.mul_add, Nat.mul_add, Nat.add_mul]
      have h3 : 3 * W * M = 3 * (W * M) := Nat.mul_assoc ..
      have h4 : M * W = W * M := Nat.mul_comm ..
      have h5 := Nat.mul_le_mul_left W hW
      omega
    have e6 := Nat.mul_le_mul_left (P * P) e5
    omega
theorem gl_near (M : Nat) (hM : 0 < M) : ∀ (J f A B S N w : Nat), J ≤ f → 2 ^ S * A ≤ N * M → N * M ≤ 2 ^ S * B → M ≤ A → A ≤ B → B ≤ 2 * M → B ≤ A + w →
    (gl M false f A B S).2 ≤ (gl M false f A B S).1 + 2 ^ (f - J) ∨ ∃ j m, j ≤ J ∧ Near M (4 ^ j * (w + 2)) j N m := by
  intro J
  induction J with
  | zero =>
    intro f A B S N w _ _ _ _ _ _ _
    obtain ⟨h1, h2⟩ := gl_any M false f A B S
    rw [Nat.add_mul, Nat.one_mul] at h2
    left
    rw [Nat.sub_zero]
    omega
  | succ J ih =>
    intro f A B S N w hf h1 h2 ha hab hb hw
    obtain ⟨f, rfl⟩ : ∃ g, f = g + 1 := ⟨f - 1, by omega⟩
    have hA : A * A / M * M ≤ A * A := Nat.div_mul_le_self _ _
    have hA' : A * A < (A * A / M + 1) * M := by
      have := Nat.div_add_mod (A * A) M
      have h3 := Nat.mod_lt (A * A) hM
      rw [Nat.add_mul, Nat.one_mul, Nat.mul_comm (A * A / M)]; omega
    have hB : B * B ≤ cdiv (B * B) M * M := cdiv_mul _ _ hM
    have k1 := sq_low hM h1 hA
    have k2 := sq_high hM h2 hB
    have hA1 : M ≤ A * A / M := (Nat.le_div_iff_mul_le hM).2 (Nat.mul_le_mul ha ha)
    have hAB : A * A / M ≤ cdiv (B * B) M := div_cdiv (Nat.mul_le_mul hab hab)
    have hB1 : cdiv (B * B) M ≤ 4 * M := cdiv_le (by
      have := Nat.mul_le_mul hb hb
      have e : 4 * M * M = 2 * M * (2 * M) := by rw [Nat.mul_mul_mul_comm, Nat.mul_assoc]
      omega)
    have hW : cdiv (B * B) M ≤ A * A / M + (4 * w + 2) := cdiv_le (by
      obtain ⟨v, rfl⟩ : ∃ v, B = A + v := ⟨B - A, by omega⟩
      have e : (A + v) * (A + v) = A * A + v * (A + (A + v)) := by
        rw [Nat.mul_add, Nat.add_mul A v A, Nat.mul_add v A, Nat.mul_comm (A + v) v]
        omega
      have e2 : v * (A + (A + v)) ≤ w * (4 * M) := Nat.mul_le_mul (by omega) (by omega)
      have e3 : (A * A / M + (4 * w + 2)) * M = (A * A / M + 1) * M + w * (4 * M) + M := by
        rw [Nat.add_mul, Nat.add_mul, Nat.add_mul]
        have : 4 * w * M = w * (4 * M) := by rw [Nat.mul_comm 4 w, Nat.mul_assoc]
        omega
      omega)
    have lift : ∀ {j w' : Nat}, w' + 2 ≤ 4 * (w + 2) → ∀ {m}, j ≤ J → Near M (4 ^ j * (w' + 2)) j (N * N) m → ∃ j m, j ≤ J + 1 ∧ Near M (4 ^ j * (w + 2)) j N m := fun {j w'} hw' {m} hj hn => by
      refine ⟨j + 1, m, by omega, ?_⟩
      have hm : 4 ^ j * (w' + 2) ≤ 4 ^ (j + 1) * (w + 2) := by
        rw [Nat.pow_succ, Nat.mul_assoc]
        exact Nat.mul_le_mul_left _ hw'
      have := hn.mono hm
      unfold Near at this ⊢
      rw [pow_sq]
      exact this
    rw [gl, Nat.add_sub_add_right]
    split
    · split
      · have := ih f (A * A / M) (cdiv (B * B) M) (2 * S) (N * N) (4 * w + 2) (by omega) (by rw [pow_dbl]; exact k1) (by rw [pow_dbl]; exact k2) hA1 hAB (by omega) hW
        rcases this with h | ⟨j, m, hj, hn⟩
        · exact Or.inl h
        · exact Or.inr (lift (by omega) hj hn)
      · right
        refine ⟨1, 2 * S + 1, by omega, ?_⟩
        unfold Near
        rw [Nat.pow_one, Nat.pow_two, Nat.pow_one, Nat.pow_succ, pow_dbl]
        have g1 : 2 ^ S * 2 ^ S * (2 * M) ≤ 2 ^ S * 2 ^ S * (A * A / M + (4 * w + 2)) := Nat.mul_le_mul_left _ (by omega)
        have g2 : 2 ^ S * 2 ^ S * cdiv (B * B) M ≤ 2 ^ S * 2 ^ S * (2 * M + (4 * w + 2)) := Nat.mul_le_mul_left _ (by omega)
        generalize 2 ^ S * 2 ^ S = P at *
        rw [Nat.mul_add] at g1 g2
        have e1 : P * 2 * M = P * (2 * M) := Nat.mul_assoc ..
        have e2 : P * 2 * (4 * (w + 2)) = P * (4 * w + 2) + P * (4 * w + 14) := by rw [Nat.mul_assoc, ← Nat.mul_add]; congr 1; omega
        have e3 : P * 2 * (M + 4 * (w + 2)) = P * (2 * M) + (P * (4 * w + 2) + P * (4 * w + 14)) := by rw [Nat.mul_add, e1, e2]
        exact ⟨by omega, by omega⟩
    · rw [if_neg (by simp)]
      have c1 : A * A / M / 2 * 2 ≤ A * A / M := Nat.div_mul_le_self _ _
      have c2 : cdiv (B * B) M ≤ cdiv (cdiv (B * B) M) 2 * 2 := cdiv_mul _ _ (by decide)
      have e3 : ∀ x, 2 ^ (2 * S + 1) * x = 2 ^ S * 2 ^ S * (x * 2) := fun x => by rw [Nat.pow_succ, pow_dbl, Nat.mul_assoc, Nat.mul_comm 2 x]
      have := ih f (A * A / M / 2) (cdiv (cdiv (B * B) M) 2) (2 * S + 1) (N * N) (2 * w + 2) (by omega) (by rw [e3]; exact Nat.le_trans (Nat.mul_le_mul_left _ c1) k1) (by rw [e3]; exact Nat.le_trans k2 (Nat.mul_le_mul_left _ c2)) (by omega) (div_cdiv hAB) (cdiv_le (by omega)) (cdiv_le (by omega))
      rcases this with h | ⟨j, m, hj, hn⟩
      · exact Or.inl h
      · exact Or.inr (lift (by omega) hj hn)
theorem Near.up {M N : Nat} (hM : 0 < M) : ∀ (d j W m : Nat), 4 ^ d * W ≤ M → Near M W j N m → ∃ m', Near M (4 ^ d * W) (j + d) N m'
  | 0, j, W, m, _, h => ⟨m, by rw [Nat.pow_zero, Nat.one_mul]; exact h⟩
  | d + 1, j, W, m, hW, h => by
    have e : 4 ^ (d + 1) * W = 4 * (4 ^ d * W) := by rw [Nat.pow_succ, Nat.mul_comm (4 ^ d) 4, Nat.mul_assoc]
    rw [e] at hW
    obtain ⟨m', h'⟩ := Near.up hM d j W m (by omega) h
    exact ⟨2 * m', by rw [e]; exact (Near.sq hM (by omega) h').mono (by omega)⟩
def narrow (J n : Nat) : Prop := (lN n 2048).2 ≤ (lN n 2048).1 + 2 ^ (2048 - J)
theorem narrow_or {n J : Nat} (h1 : 1 ≤ n) (h2 : n < 4611686018427387904) (hJ : J ≤ 500) : narrow J n ∨ (isPow (n : Int) = false ∧ ∃ m, Near (2 ^ 4160) (2 ^ 2160) J n m) := by
  unfold narrow lN
  by_cases c : isPow (n : Int) = true
  · rw [if_pos c]
    left; exact Nat.le_add_right _ _
  · rw [if_neg c]
    have hk : lgK n < 62 := lgK_lt (by decide) h2
    obtain ⟨m1, m2, m3⟩ := mant (D := 2 * 2048 + 64) h1 (by omega)
    rw [show 2 * 2048 + 64 = 4160 from rfl] at *
    have hM := p2_pos 4160
    have := gl_near (2 ^ 4160) hM J 2048 _ _ (lgK n) n 0 (by omega) (Nat.le_of_eq m3) (Nat.le_of_eq m3.symm) m1 (Nat.le_refl _) (Nat.le_of_lt m2) (by omega)
    rcases this with h | ⟨j, m, hj, hn⟩
    · exact Or.inl h
    · right
      have e4 : ∀ a, (4 : Nat) ^ a = 2 ^ (2 * a) := fun a => by rw [show 4 = 2 ^ 2 from rfl, ← Nat.pow_mul]
      have hle : ∀ e, 1001 ≤ e → 4 ^ (J - j) * (4 ^ j * (0 + 2)) ≤ 2 ^ e := fun e he => by
        rw [← Nat.mul_assoc, ← Nat.pow_add, show J - j + j = J by omega, e4, show 0 + 2 = 2 ^ 1 from rfl, ← Nat.pow_add]
        exact Nat.pow_le_pow_right (by decide) (by omega)
      obtain ⟨m', h'⟩ := Near.up hM (J - j) j _ m (hle 4160 (by decide)) hn
      rw [show j + (J - j) = J by omega] at h'
      exact ⟨by simpa using c, m', h'.mono (hle 2160 (by decide))⟩
theorem pow_gap {a b Q : Nat} (h : a < b) (hQ : 0 < Q) : a ^ Q * b ≤ b ^ Q * (b - 1) := by
  obtain ⟨q, rfl⟩ : ∃ q, Q = q + 1 := ⟨Q - 1, by omega⟩
  have h1 : a ^ (q + 1) ≤ (b - 1) ^ (q + 1) := Nat.pow_le_pow_left (by omega) _
  have h2 : (b - 1) ^ q ≤ b ^ q := Nat.pow_le_pow_left (by omega) _
  have h3 : (b - 1) ^ (q + 1) * b ≤ b ^ (q + 1) * (b - 1) := by
    rw [Nat.pow_succ, Nat.pow_succ, Nat.mul_assoc, Nat.mul_assoc, Nat.mul_comm (b - 1) b]
    exact Nat.mul_le_mul_right _ h2
  exact Nat.le_trans (Nat.mul_le_mul_right _ h1) h3
theorem near_in {R x y J n m M W : Nat} (hx : x ^ (2 ^ J) ≤ 2 ^ m * R ^ (2 ^ J)) (hy : 2 ^ m * R ^ (2 ^ J) ≤ y ^ (2 ^ J)) (hR : 0 < R) (hx0 : W * x < M) (hn0 : W * (n * R) < M) (h : Near M W J n m) : x ≤ n * R ∧ n * R ≤ y := by
  obtain ⟨h1, h2⟩ := h
  have hQ := p2_pos J
  generalize 2 ^ J = Q at *
  have hRQ : 0 < R ^ Q := Nat.pow_pos hR
  have hP : 0 < 2 ^ m := p2_pos m
  generalize 2 ^ m = P at *
  constructor
  · refine Nat.le_of_not_lt fun hh => ?_
    have g := pow_gap hh hQ
    rw [Nat.mul_pow] at g
    have g2 := Nat.mul_le_mul_right (x - 1) hx
    have g3 : n ^ Q * x ≤ P * (x - 1) := by
      refine Nat.le_of_mul_le_mul_right (c := R ^ Q) ?_ hRQ
      have e1 : n ^ Q * x * R ^ Q = n ^ Q * R ^ Q * x := Nat.mul_right_comm ..
      have e2 : P * (x - 1) * R ^ Q = P * R ^ Q * (x - 1) := Nat.mul_right_comm ..
      omega
    have g4 := Nat.mul_le_mul_right x h1
    have g5 := Nat.mul_le_mul_right M g3
    obtain ⟨z, rfl⟩ : ∃ z, x = z + 1 := ⟨x - 1, by omega⟩
    rw [Nat.add_sub_cancel] at g5
    have e1 : P * M * (z + 1) = P * z * M + P * M := by rw [Nat.mul_add, Nat.mul_one, Nat.mul_right_comm]
    have e2 : (n ^ Q * M + P * W) * (z + 1) = n ^ Q * (z + 1) * M + P * (W * (z + 1)) := by rw [Nat.add_mul, Nat.mul_right_comm, Nat.mul_assoc P]
    have e3 : P * M ≤ P * (W * (z + 1)) := by omega
    have := Nat.le_of_mul_le_mul_left e3 hP
    omega
  · refine Nat.le_of_not_lt fun hh => ?_
    have g := pow_gap hh hQ
    rw [Nat.mul_pow] at g
    obtain ⟨z, hz⟩ : ∃ z, n * R = z + 1 := ⟨n * R - 1, by omega⟩
    rw [hz, Nat.add_sub_cancel] at g
    rw [hz] at hn0
    have g2 := Nat.mul_le_mul_right (z + 1) hy
    have g3 : P * (z + 1) ≤ n ^ Q * z := by
      refine Nat.le_of_mul_le_mul_right (c := R ^ Q) ?_ hRQ
      have e1 : P * (z + 1) * R ^ Q = P * R ^ Q * (z + 1) := Nat.mul_right_comm ..
      have e2 : n ^ Q * z * R ^ Q = n ^ Q * R ^ Q * z := Nat.mul_right_comm ..
      omega
    have g4 := Nat.mul_le_mul_right z h2
    have g5 := Nat.mul_le_mul_right M g3
    have e1 : n ^ Q * M * z = n ^ Q * z * M := Nat.mul_right_comm ..
    have e2 : P * (z + 1) * M = P * M * z + P * M := by rw [Nat.mul_right_comm, Nat.mul_add, Nat.mul_one]
    have e3 : P * (M + W) * z = P * M * z + P * (W * z) := by rw [Nat.mul_add, Nat.add_mul, Nat.mul_assoc P W]
    have e4 : P * M ≤ P * (W * z) := by omega
    have := Nat.le_of_mul_le_mul_left e4 hP
    have e5 : W * (z + 1) = W * z + W := by rw [Nat.mul_add, Nat.mul_one]
    omega
def Rt (R J x y m : Nat) : Prop := x ^ (2 ^ J) ≤ 2 ^ m * R ^ (2 ^ J) ∧ 2 ^ m * R ^ (2 ^ J) ≤ y ^ (2 ^ J)
theorem Rt.next {R J x y m c d : Nat} (hR : 0 < R) (h : Rt R J x y m) (hc : Rt R J c d 1) : Rt R J (x * c / R) (y * d / R + 1) (m + 1) := by
  obtain ⟨h1, h2⟩ := h
  obtain ⟨c1, c2⟩ := hc
  rw [Nat.pow_one] at c1 c2
  unfold Rt
  generalize 2 ^ J = Q at *
  have hRQ : 0 < R ^ Q := Nat.pow_pos hR
  rw [Nat.pow_succ]
  generalize 2 ^ m = P at *
  constructor
  · refine Nat.le_of_mul_le_mul_right (c := R ^ Q) ?_ hRQ
    have k1 : (x * c / R * R) ^ Q ≤ (x * c) ^ Q := Nat.pow_le_pow_left (Nat.div_mul_le_self _ _) _
    rw [Nat.mul_pow, Nat.mul_pow] at k1
    have k2 := Nat.mul_le_mul h1 c1
    have e : P * R ^ Q * (2 * R ^ Q) = P * 2 * R ^ Q * R ^ Q := by simp only [Nat.mul_assoc, Nat.mul_left_comm]
    omega
  · refine Nat.le_of_mul_le_mul_right (c := R ^ Q) ?_ hRQ
    have k0 : y * d ≤ (y * d / R + 1) * R := by
      have := Nat.div_add_mod (y * d) R
      have h3 := Nat.mod_lt (y * d) hR
      rw [Nat.add_mul, Nat.one_mul, Nat.mul_comm (y * d / R)]; omega
    have k1 : (y * d) ^ Q ≤ ((y * d / R + 1) * R) ^ Q := Nat.pow_le_pow_left k0 _
    rw [Nat.mul_pow, Nat.mul_pow] at k1
    have k2 := Nat.mul_le_mul h2 c2
    have e : P * R ^ Q * (2 * R ^ Q) = P * 2 * R ^ Q * R ^ Q := by simp only [Nat.mul_assoc, Nat.mul_left_comm]
    omega
end Go.Proofs.Ytijadllhfgajlaa
set_option linter.all false
namespace Go.Proofs.Ytijadllhfgajlaa
open Go Go.Vx
theorem lt_split {a b c x : Nat} (h : c = a + b) (hx : x < 2 ^ b) : 2 ^ a * x < 2 ^ c := by rw [h, Nat.pow_add]; exact Nat.mul_lt_mul_of_pos_left hx (p2_pos a)
theorem pw_lt {a b : Nat} (h : a < b) : (2 : Nat) ^ a < 2 ^ b := (Nat.pow_lt_pow_iff_right (by decide)).2 h
theorem pw_le4 {a b : Nat} (h : 2 + a ≤ b) : 4 * (2 : Nat) ^ a ≤ 2 ^ b := by
  rw [show (4 : Nat) = 2 ^ 2 from rfl, ← Nat.pow_add]; exact Nat.pow_le_pow_right (by decide) h
def upR (R : Nat) : Nat → Nat → Nat
  | 0, u => u
  | i + 1, u => upR R i (u * u / R + 1)
def dnR (R : Nat) : Nat → Nat → Nat
  | 0, u => u
  | i + 1, u => dnR R i (u * u / R)
theorem pow_two_mul (a i : Nat) : a ^ (2 ^ (i + 1)) = (a * a) ^ (2 ^ i) := pow_sq a i
theorem upR_is {R : Nat} (hR : 0 < R) : ∀ (i u X Y : Nat), X * R ≤ u * Y → X ^ (2 ^ i) * R ≤ upR R i u * Y ^ (2 ^ i)
  | 0, u, X, Y, h => by simpa [upR] using h
  | i + 1, u, X, Y, h => by
    rw [upR, pow_two_mul, pow_two_mul]
    refine upR_is hR i _ _ _ ?_
    refine Nat.le_of_mul_le_mul_right (c := R) ?_ hR
    have k := Nat.mul_le_mul h h
    have k0 : u * u ≤ (u * u / R + 1) * R := by
      have := Nat.div_add_mod (u * u) R
      have h3 := Nat.mod_lt (u * u) hR
      rw [Nat.add_mul, Nat.one_mul, Nat.mul_comm (u * u / R)]; omega
    have k1 := Nat.mul_le_mul_right (Y * Y) k0
    have e1 : X * R * (X * R) = X * X * R * R := by simp only [Nat.mul_assoc, Nat.mul_left_comm]
    have e2 : u * Y * (u * Y) = u * u * (Y * Y) := by simp only [Nat.mul_assoc, Nat.mul_left_comm]
    have e3 : (u * u / R + 1) * (Y * Y) * R = (u * u / R + 1) * R * (Y * Y) := Nat.mul_right_comm ..
    omega
theorem dnR_is {R : Nat} (hR : 0 < R) : ∀ (i u X Y : Nat), u * Y ≤ X * R → dnR R i u * Y ^ (2 ^ i) ≤ X ^ (2 ^ i) * R
  | 0, u, X, Y, h => by simpa [dnR] using h
  | i + 1, u, X, Y, h => by
    rw [dnR, pow_two_mul, pow_two_mul]
    refine dnR_is hR i _ _ _ ?_
    refine Nat.le_of_mul_le_mul_right (c := R) ?_ hR
    have k := Nat.mul_le_mul h h
    have k1 := Nat.mul_le_mul_right (Y * Y) (Nat.div_mul_le_self (u * u) R)
    have e1 : X * R * (X * R) = X * X * R * R := by simp only [Nat.mul_assoc, Nat.mul_left_comm]
    have e2 : u * Y * (u * Y) = u * u * (Y * Y) := by simp only [Nat.mul_assoc, Nat.mul_left_comm]
    have e3 : u * u / R * (Y * Y) * R = u * u / R * R * (Y * Y) := Nat.mul_right_comm ..
    omega
theorem Rt_one {R J c d : Nat} (hR : 0 < R) (h1 : upR R J c ≤ 2 * R) (h2 : 2 * R ≤ dnR R J d) : Rt R J c d 1 := by
  have a := upR_is hR J c c R (Nat.le_refl _)
  have b := dnR_is hR J d d R (Nat.le_refl _)
  rw [Rt, Nat.pow_one]
  generalize 2 ^ J = Q at *
  have k1 := Nat.mul_le_mul_right (R ^ Q) h1
  have k2 := Nat.mul_le_mul_right (R ^ Q) h2
  have e : 2 * R * R ^ Q = 2 * R ^ Q * R := Nat.mul_right_comm ..
  constructor
  · refine Nat.le_of_mul_le_mul_right (c := R) ?_ hR; omega
  · refine Nat.le_of_mul_le_mul_right (c := R) ?_ hR; omega
theorem Rt_two (R J q : Nat) : Rt R J (2 ^ q * R) (2 ^ q * R) (q * 2 ^ J) := by
  rw [Rt, Nat.mul_pow, ← Nat.pow_mul]
  exact ⟨Nat.le_refl _, Nat.le_refl _⟩
theorem Rt.up {R J x y m : Nat} (d : Nat) (h : Rt R J x y m) : Rt R (J + d) x y (m * 2 ^ d) := by
  obtain ⟨h1, h2⟩ := h
  unfold Rt
  have k1 := Nat.pow_le_pow_left h1 (2 ^ d)
  have k2 := Nat.pow_le_pow_left h2 (2 ^ d)
  rw [Nat.mul_pow, ← Nat.pow_mul, ← Nat.pow_mul, ← Nat.pow_mul, ← Nat.pow_add] at k1 k2
  exact ⟨k1, k2⟩
theorem Rt.le {R J x y m B : Nat} (h : Rt R J x y m) (hm : m ≤ B * 2 ^ J) : x ≤ 2 ^ B * R := by
  have hQ := p2_pos J
  rw [← Nat.pow_le_pow_iff_left (show 2 ^ J ≠ 0 by omega), Nat.mul_pow, ← Nat.pow_mul]
  exact Nat.le_trans h.1 (Nat.mul_le_mul_right _ (Nat.pow_le_pow_right (by decide) hm))
def enumR (c d R : Nat) (k : Nat) : Nat → Nat → Nat → Nat → Bool :=
  Nat.rec (fun x y ex ey => Nat.beq x ex && Nat.beq y ey) (fun _ ih x y ex ey => bif Nat.beq (Nat.div (Nat.sub x 1) R) (Nat.div y R) then ih (Nat.div (Nat.mul x c) R) (Nat.succ (Nat.div (Nat.mul y d) R)) ex ey else false) k
def sq (n : Nat) (f : Nat → Bool) : Bool := Nat.rec (f 0) (fun k _ => f (Nat.succ k)) n
def enumI (c d R : Nat) (k : Nat) : Nat → Nat → (Nat → Nat → Bool) → Bool :=
  Nat.rec (fun x y K => sq x fun x' => sq y fun y' => K x' y') (fun _ ih x y K => bif Nat.beq (Nat.div (Nat.sub x 1) R) (Nat.div y R) then ih (Nat.div (Nat.mul x c) R) (Nat.succ (Nat.div (Nat.mul y d) R)) K else false) k
def enumS (c d R r a : Nat) : Nat → Nat → Nat → Nat → Bool :=
  Nat.rec (fun x y ex ey => enumR c d R r x y ex ey) (fun _ ih x y ex ey => enumI c d R 64 x y fun x' y' => ih x' y' ex ey) a
theorem sq_is (n : Nat) (f : Nat → Bool) : sq n f = f n := by cases n <;> rfl
theorem enumI_is {c d R m ex ey : Nat} {K : Nat → Nat → Bool} (H : ∀ x y, K x y = true → enumR c d R m x y ex ey = true) : ∀ (k x y : Nat), enumI c d R k x y K = true → enumR c d R (k + m) x y ex ey = true := by
  intro k
  induction k with
  | zero =>
    intro x y h
    have h : (sq x fun x' => sq y fun y' => K x' y') = true := h
    rw [sq_is, sq_is] at h
    rw [Nat.zero_add]
    exact H x y h
  | succ k ih =>
    intro x y h
    have h : (bif Nat.beq ((x - 1) / R) (y / R) then enumI c d R k (x * c / R) (y * d / R + 1) K else false) = true := h
    rw [Nat.succ_add]
    show (bif Nat.beq ((x - 1) / R) (y / R) then enumR c d R (k + m) (x * c / R) (y * d / R + 1) ex ey else false) = true
    cases hb : Nat.beq ((x - 1) / R) (y / R) with
    | false => rw [hb] at h; cases h
    | true => rw [hb] at h; exact ih _ _ h
theorem enumS_is {c d R r ex ey : Nat} : ∀ (a x y : Nat), enumS c d R r a x y ex ey = true → enumR c d R (64 * a + r) x y ex ey = true := by
  intro a
  induction a with
  | zero => intro x y h; rw [Nat.mul_zero, Nat.zero_add]; exact h
  | succ a ih =>
    intro x y h
    rw [show 64 * (a + 1) + r = 64 + (64 * a + r) by omega]
    exact enumI_is (fun x' y' h' => ih x' y' h') 64 x y h
theorem enumS_k {c d R r a k x y ex ey : Nat} (hk : 64 * a + r = k) (h : enumS c d R r a x y ex ey = true) : enumR c d R k x y ex ey = true := by
  rw [← hk]; exact enumS_is a x y h
theorem enumR_is {c d R J ex ey B : Nat} (hR : 0 < R) (hc : Rt R J c d 1) (hB : 2 ^ B * R < 2 ^ 2000) : ∀ (k x y m : Nat), enumR c d R k x y ex ey = true → Rt R J x y m → m + k ≤ B * 2 ^ J →
    (∀ i n, m ≤ i → i < m + k → n * R < 2 ^ 2000 → 1 ≤ n → ¬ Near (2 ^ 4160) (2 ^ 2160) J n i) ∧ Rt R J ex ey (m + k) := by
  intro k
  induction k with
  | zero =>
    intro x y m h hr _
    rw [show enumR c d R 0 x y ex ey = (Nat.beq x ex && Nat.beq y ey) from rfl, Bool.and_eq_true, Nat.beq_eq, Nat.beq_eq] at h
    rw [← h.1, ← h.2]
    exact ⟨fun i n h1 h2 => by omega, hr⟩
  | succ k ih =>
    intro x y m h hr hm
    have h : (bif Nat.beq ((x - 1) / R) (y / R) then enumR c d R k (x * c / R) (y * d / R + 1) ex ey else false) = true := h
    cases hb : Nat.beq ((x - 1) / R) (y / R) with
    | false => rw [hb] at h; cases h
    | true =>
      rw [hb] at h
      obtain ⟨i1, i2⟩ := ih _ _ (m + 1) h (hr.next hR hc) (by omega)
      refine ⟨fun i n h1 h2 hn hn1 => ?_, by rw [show m + (k + 1) = m + 1 + k by omega]; exact i2⟩
      rcases Nat.lt_or_eq_of_le h1 with hlt | heq
      · exact i1 i n hlt (by omega) hn hn1
      · subst heq
        intro hnear
        have hx := hr.le (B := B) (by omega)
        obtain ⟨k1, k2⟩ := near_in hr.1 hr.2 hR (lt_split (b := 2000) (by decide) (Nat.lt_of_le_of_lt hx hB)) (lt_split (b := 2000) (by decide) hn) hnear
        have hb := Nat.eq_of_beq_eq_true hb
        have g1 : n ≤ y / R := (Nat.le_div_iff_mul_le hR).2 k2
        have g2 : (x - 1) / R < n := by
          rw [Nat.div_lt_iff_lt_mul hR]
          have : 1 * 1 ≤ n * R := Nat.mul_le_mul hn1 hR
          omega
        omega
theorem near_lo {J n m m0 : Nat} (h : Near (2 ^ 4160) (2 ^ 2160) J n m) (h0 : 2 ^ m0 ≤ n ^ (2 ^ J)) : m0 ≤ m := by
  obtain ⟨_, h2⟩ := h
  have hMW := pw_lt (show 2160 < 4160 by decide)
  generalize (2 : Nat) ^ 4160 = M at *
  generalize (2 : Nat) ^ 2160 = W at *
  have k1 := Nat.mul_le_mul_right M h0
  have k2 : 2 ^ m * (M + W) < 2 ^ m * (2 * M) := Nat.mul_lt_mul_of_pos_left (by omega) (p2_pos m)
  have k3 : 2 ^ m0 * M < 2 ^ (m + 1) * M := by rw [Nat.pow_succ, Nat.mul_assoc]; omega
  have := (Nat.pow_lt_pow_iff_right (by decide)).1 (Nat.lt_of_mul_lt_mul_right k3)
  omega
theorem near_hi {J n m m1 : Nat} (h : Near (2 ^ 4160) (2 ^ 2160) J n m) (h1 : n ^ (2 ^ J) ≤ 2 ^ m1) : m ≤ m1 := by
  obtain ⟨h2, _⟩ := h
  have hMW := pw_le4 (show 2 + 2160 ≤ 4160 by decide)
  have hM := p2_pos 2160
  generalize (2 : Nat) ^ 4160 = M at *
  generalize (2 : Nat) ^ 2160 = W at *
  have k1 := Nat.mul_le_mul_right M h1
  have k2 := Nat.mul_le_mul_left (2 ^ m) hMW
  have e : 2 ^ m * (4 * W) = 4 * (2 ^ m * W) := Nat.mul_left_comm ..
  have k3 : 3 * (2 ^ m * M) ≤ 4 * (2 ^ m1 * M) := by omega
  refine Nat.le_of_not_lt fun hh => ?_
  have k4 : 2 ^ m1 * 2 ≤ 2 ^ m := by rw [← Nat.pow_succ]; exact Nat.pow_le_pow_right (by decide) hh
  have k5 := Nat.mul_le_mul_right M k4
  have k6 : 0 < 2 ^ m1 * M := Nat.mul_pos (p2_pos m1) (by omega)
  have e2 : 2 ^ m1 * 2 * M = 2 * (2 ^ m1 * M) := by rw [Nat.mul_right_comm, Nat.mul_comm]
  omega
theorem near_two {J n q : Nat} (h : Near (2 ^ 4160) (2 ^ 2160) J n (q * 2 ^ J)) (hn : n < 2 ^ 2000) (hq : q < 2000) : n = 2 ^ q := by
  have hr := Rt_two 1 J q
  have hq2 := pw_lt hq
  obtain ⟨k1, k2⟩ := near_in hr.1 hr.2 (by decide) (lt_split (b := 2000) (by decide) (by rw [Nat.mul_one]; exact hq2)) (lt_split (b := 2000) (by decide) (by rw [Nat.mul_one]; exact hn)) h
  omega
theorem gl_w0 (M : Nat) (t : Bool) (f A B S : Nat) : (gl M t f A B S).2 ≤ (gl M t f A B S).1 + 2 ^ (f - 0) := by
  obtain ⟨g1, g2⟩ := gl_any M t f A B S
  rw [Nat.add_mul, Nat.one_mul] at g2
  rw [Nat.sub_zero]
  omega
theorem narrow0_p (p n : Nat) : (lN n p).2 ≤ (lN n p).1 + 2 ^ (p - 0) := by
  unfold lN
  split
  · exact Nat.le_add_right _ _
  · exact gl_w0 _ _ _ _ _ _
theorem narrow_0 (n : Nat) : narrow 0 n := narrow0_p 2048 n
theorem narrow_w {J J' n : Nat} (h : narrow J n) (h1 : J ≤ J') (h2 : J' ≤ 2048) : (lN n 2048).2 ≤ (lN n 2048).1 + 2 ^ (J' - J) * 2 ^ (2048 - J') := by
  rw [← Nat.pow_add, show J' - J + (2048 - J') = 2048 - J by omega]
  exact h
theorem isPow_two : ∀ q, q < 62 → isPow ((2 ^ q : Nat) : Int) = true := by decide
theorem mul_lt_pw {a b c x R : Nat} (hx : x ≤ 2 ^ a) (hR : R ≤ 2 ^ b) (h : a + b < c) : x * R < 2 ^ c := by
  have e := Nat.mul_le_mul hx hR
  rw [← Nat.pow_add] at e
  exact Nat.lt_of_le_of_lt e (pw_lt h)
theorem twos_narrow {J c d R k : Nat} (hR : 0 < R) (hJ : J ≤ 60) (hc : Rt R J c d 1) (hk : k ≤ 60 ∧ R ≤ 2 ^ 128) (h : ∀ q, q < k → ∃ ex ey, enumR c d R (2 ^ J - 1) (2 ^ q * c) (2 ^ q * d + 1) ex ey = true) {n : Nat} (h1 : 1 ≤ n) (h2 : n < 2 ^ k) : narrow J n := by
  have hk60 : (2 : Nat) ^ k ≤ 2 ^ 60 := Nat.pow_le_pow_right (by decide) hk.1
  rcases narrow_or h1 (Nat.lt_of_lt_of_le h2 (Nat.le_trans hk60 (by decide))) (show J ≤ 500 by omega) with hn | ⟨hp, m, hm⟩
  · exact hn
  · exfalso
    have hQ := p2_pos J
    have hhi : m ≤ k * 2 ^ J := near_hi hm (by rw [Nat.pow_mul]; exact Nat.pow_le_pow_left (Nat.le_of_lt h2) _)
    have em := Nat.div_add_mod m (2 ^ J)
    have er := Nat.mod_lt m hQ
    have h2000 : ∀ {x}, x < 2 ^ 60 → x * R < 2 ^ 2000 := fun {x} hx => mul_lt_pw (c := 2000) (Nat.le_of_lt hx) hk.2 (by decide)
    rw [Nat.mul_comm] at em
    rcases Nat.eq_zero_or_pos (m % 2 ^ J) with h0 | h0
    · rw [h0, Nat.add_zero] at em
      rw [← em] at hm
      have hq : m / 2 ^ J ≤ k := Nat.div_le_of_le_mul (by rw [Nat.mul_comm]; exact hhi)
      have e := near_two hm (Nat.lt_trans (Nat.lt_of_lt_of_le h2 hk60) (pw_lt (b := 2000) (by decide))) (by omega)
      rw [e, isPow_two _ (by omega)] at hp
      cases hp
    · have hq : m / 2 ^ J < k := by
        rw [Nat.div_lt_iff_lt_mul hQ]
        rcases Nat.lt_or_eq_of_le hhi with h | h
        · exact h
        · rw [h, Nat.mul_mod_left] at h0; omega
      obtain ⟨ex, ey, he⟩ := h _ hq
      have r1 := (Rt_two R J (m / 2 ^ J)).next hR hc
      have e1 : 2 ^ (m / 2 ^ J) * R * c / R = 2 ^ (m / 2 ^ J) * c := by rw [Nat.mul_right_comm, Nat.mul_div_cancel _ hR]
      have e2 : 2 ^ (m / 2 ^ J) * R * d / R = 2 ^ (m / 2 ^ J) * d := by rw [Nat.mul_right_comm, Nat.mul_div_cancel _ hR]
      rw [e1, e2] at r1
      have hb : (m / 2 ^ J) * 2 ^ J + 1 + (2 ^ J - 1) ≤ 100 * 2 ^ J := by
        have := Nat.mul_le_mul_right (2 ^ J) (show m / 2 ^ J + 1 ≤ 100 by omega)
        rw [Nat.add_mul] at this; omega
      have hB := mul_lt_pw (a := 100) (c := 2000) (Nat.le_refl _) hk.2 (by decide)
      obtain ⟨k1, _⟩ := enumR_is hR hc hB _ _ _ _ he r1 hb
      have h9 := h2000 (Nat.lt_of_lt_of_le h2 hk60)
      exact k1 m n (by omega) (by omega) h9 h1 hm
theorem root_le {n b B k : Nat} (h : n ^ k ≤ 2 ^ b) (hb : b ≤ B * k) (hk : k ≠ 0) : n ≤ 2 ^ B := by
  rw [← Nat.pow_le_pow_iff_left hk, ← Nat.pow_mul]
  exact Nat.le_trans h (Nat.pow_le_pow_right (by decide) hb)
def AllC (c d R : Nat) : Nat → Nat → List (Nat × Nat × Nat) → Prop
  | _, _, [] => True
  | x, y, i :: r => enumR c d R i.1 x y i.2.1 i.2.2 = true ∧ AllC c d R i.2.1 i.2.2 r
def sumC (l : List (Nat × Nat × Nat)) : Nat := l.foldr (fun i s => i.1 + s) 0
theorem AllC_is {c d R J B : Nat} (hR : 0 < R) (hc : Rt R J c d 1) (hB : 2 ^ B * R < 2 ^ 2000) : ∀ (l : List (Nat × Nat × Nat)) (x y m : Nat), AllC c d R x y l → Rt R J x y m → m + sumC l ≤ B * 2 ^ J →
    ∀ i n, m ≤ i → i < m + sumC l → n * R < 2 ^ 2000 → 1 ≤ n → ¬ Near (2 ^ 4160) (2 ^ 2160) J n i
  | [], x, y, m, _, _, _ => fun i n h1 h2 => by simp [sumC] at h2; omega
  | a :: r, x, y, m, h, hr, hm => fun i n h1 h2 hn hn1 => by
    have e : sumC (a :: r) = a.1 + sumC r := rfl
    rw [e] at h2 hm
    obtain ⟨k1, k2⟩ := enumR_is hR hc hB a.1 x y m h.1 hr (by omega)
    rcases Nat.lt_or_ge i (m + a.1) with hlt | hge
    · exact k1 i n h1 hlt hn hn1
    · exact AllC_is hR hc hB r _ _ _ h.2 k2 (by omega) i n hge (by omega) hn hn1
theorem range_narrow {J R a b d : Nat} (hk : (d + 6 = J ∧ J ≤ 60) ∧ R ≤ 2 ^ 128) (hl : ∀ i, a * 2 ^ d ≤ i → i ≤ b * 2 ^ d → i % 2 ^ J = 0 ∨ ∀ n, n * R < 2 ^ 2000 → 1 ≤ n → ¬ Near (2 ^ 4160) (2 ^ 2160) J n i) {n : Nat} (h0 : 2 ^ a ≤ n ^ 64) (h1 : n ^ 64 ≤ 2 ^ b) (hb : b + 1 ≤ 3840) : narrow J n := by
  obtain ⟨⟨hJ, hJ60⟩, hR128⟩ := hk
  have hn60 : n ≤ 2 ^ 60 := root_le h1 (by omega) (by decide)
  have hn1 : 1 ≤ n := by
    refine Nat.pos_of_ne_zero fun h => ?_
    rw [h, Nat.zero_pow (by decide)] at h0
    have := p2_pos a
    omega
  rcases narrow_or hn1 (Nat.lt_of_le_of_lt hn60 (by decide)) (show J ≤ 500 by omega) with hn | ⟨hp, m, hm⟩
  · exact hn
  · exfalso
    have eJ : 2 ^ J = 64 * 2 ^ d := by rw [← hJ, Nat.pow_add, Nat.mul_comm]
    have p0 := Nat.pow_le_pow_left h0 (2 ^ d)
    have p1 := Nat.pow_le_pow_left h1 (2 ^ d)
    rw [← Nat.pow_mul, ← Nat.pow_mul, ← eJ] at p0 p1
    have g0 : a * 2 ^ d ≤ m := near_lo hm p0
    have g1 : m ≤ b * 2 ^ d := near_hi hm p1
    rcases hl m g0 g1 with hz | hz
    · have em := Nat.div_add_mod m (2 ^ J)
      rw [hz, Nat.add_zero, Nat.mul_comm] at em
      have hq : m / 2 ^ J < 61 := by
        rw [Nat.div_lt_iff_lt_mul (p2_pos J), eJ, ← Nat.mul_assoc]
        exact Nat.lt_of_le_of_lt g1 (Nat.mul_lt_mul_of_pos_right (by omega) (p2_pos d))
      rw [← em] at hm
      have e := near_two hm (Nat.lt_of_le_of_lt hn60 (pw_lt (b := 2000) (by decide))) (by omega)
      rw [e, isPow_two _ (by omega)] at hp
      cases hp
    · exact hz n (mul_lt_pw (c := 2000) hn60 hR128 (by decide)) hn1 hm
theorem part_none {J c d' R a d x y : Nat} {l : List (Nat × Nat × Nat)} (hR : 0 < R) (hc : Rt R J c d' 1) (hk : d + 6 = J ∧ R ≤ 2 ^ 128) (hx : Rt R 6 x y a) (hl : AllC c d' R x y l) (hb : a * 2 ^ d + sumC l ≤ 3840 * 2 ^ d) :
    ∀ i n, a * 2 ^ d ≤ i → i < a * 2 ^ d + sumC l → n * R < 2 ^ 2000 → 1 ≤ n → ¬ Near (2 ^ 4160) (2 ^ 2160) J n i := by
  have eJ : 2 ^ J = 64 * 2 ^ d := by rw [← hk.1, Nat.pow_add, Nat.mul_comm]
  have r1 := hx.up d
  rw [show 6 + d = J by omega] at r1
  refine AllC_is hR hc (mul_lt_pw (a := 60) (c := 2000) (Nat.le_refl _) hk.2 (by decide)) l x y (a * 2 ^ d) hl r1 ?_
  rw [eJ, ← Nat.mul_assoc]
  exact hb
theorem two_none {J c d' R q : Nat} {l : List (Nat × Nat × Nat)} (hR : 0 < R) (hc : Rt R J c d' 1) (hk : R ≤ 2 ^ 128) (hl : AllC c d' R (2 ^ q * c) (2 ^ q * d' + 1) l) (hb : q * 2 ^ J + 1 + sumC l ≤ 60 * 2 ^ J) :
    ∀ i n, q * 2 ^ J + 1 ≤ i → i < q * 2 ^ J + 1 + sumC l → n * R < 2 ^ 2000 → 1 ≤ n → ¬ Near (2 ^ 4160) (2 ^ 2160) J n i := by
  have r1 := (Rt_two R J q).next hR hc
  have e1 : 2 ^ q * R * c / R = 2 ^ q * c := by rw [Nat.mul_right_comm, Nat.mul_div_cancel _ hR]
  have e2 : 2 ^ q * R * d' / R = 2 ^ q * d' := by rw [Nat.mul_right_comm, Nat.mul_div_cancel _ hR]
  rw [e1, e2] at r1
  exact AllC_is hR hc (mul_lt_pw (a := 60) (c := 2000) (Nat.le_refl _) hk (by decide)) l _ _ _ hl r1 hb
end Go.Proofs.Ytijadllhfgajlaa
set_option linter.all false
namespace Go.Proofs.Ytijadllhfgajlaa
open Go Go.Vx
theorem rt10 : Rt 340282366920938463463374607431768211456 10 340512782555889898808859563671008026639 340512782555889898808859563671008026641 1 := Rt_one (by decide) (by decide +kernel) (by decide +kernel)
theorem tw10_0 : enumR 340512782555889898808859563671008026639 340512782555889898808859563671008026641 340282366920938463463374607431768211456 1023 (2 ^ 0 * 340512782555889898808859563671008026639) (2 ^ 0 * 340512782555889898808859563671008026641 + 1) 680564733841876926926749214863536419111 680564733841876926926749214863536424685 = true := enumS_k (r := 63) (a := 15) (by decide) (by decide +kernel)
theorem tw10_1 : enumR 340512782555889898808859563671008026639 340512782555889898808859563671008026641 340282366920938463463374607431768211456 1023 (2 ^ 1 * 340512782555889898808859563671008026639) (2 ^ 1 * 340512782555889898808859563671008026641 + 1) 1361129467683753853853498429727072838919 1361129467683753853853498429727072848585 = true := enumS_k (r := 63) (a := 15) (by decide) (by decide +kernel)
theorem tw10_2 : enumR 340512782555889898808859563671008026639 340512782555889898808859563671008026641 340282366920938463463374607431768211456 1023 (2 ^ 2 * 340512782555889898808859563671008026639) (2 ^ 2 * 340512782555889898808859563671008026641 + 1) 2722258935367507707706996859454145678618 2722258935367507707706996859454145696464 = true := enumS_k (r := 63) (a := 15) (by decide) (by decide +kernel)
theorem tw10_3 : enumR 340512782555889898808859563671008026639 340512782555889898808859563671008026641 340282366920938463463374607431768211456 1023 (2 ^ 3 * 340512782555889898808859563671008026639) (2 ^ 3 * 340512782555889898808859563671008026641 + 1) 5444517870735015415413993718908291357964 5444517870735015415413993718908291392176 = true := enumS_k (r := 63) (a := 15) (by decide) (by decide +kernel)
theorem tw10_4 : enumR 340512782555889898808859563671008026639 340512782555889898808859563671008026641 340282366920938463463374607431768211456 1023 (2 ^ 4 * 340512782555889898808859563671008026639) (2 ^ 4 * 340512782555889898808859563671008026641 + 1) 10889035741470030830827987437816582716687 10889035741470030830827987437816582783678 = true := enumS_k (r := 63) (a := 15) (by decide) (by decide +kernel)
theorem tw10_5 : enumR 340512782555889898808859563671008026639 340512782555889898808859563671008026641 340282366920938463463374607431768211456 1023 (2 ^ 5 * 340512782555889898808859563671008026639) (2 ^ 5 * 340512782555889898808859563671008026641 + 1) 21778071482940061661655974875633165434101 21778071482940061661655974875633165566560 = true := enumS_k (r := 63) (a := 15) (by decide) (by decide +kernel)
theorem tw10_6 : enumR 340512782555889898808859563671008026639 340512782555889898808859563671008026641 340282366920938463463374607431768211456 1023 (2 ^ 6 * 340512782555889898808859563671008026639) (2 ^ 6 * 340512782555889898808859563671008026641 + 1) 43556142965880123323311949751266330868948 43556142965880123323311949751266331132362 = true := enumS_k (r := 63) (a := 15) (by decide) (by decide +kernel)
theorem tw10_7 : enumR 340512782555889898808859563671008026639 340512782555889898808859563671008026641 340282366920938463463374607431768211456 1023 (2 ^ 7 * 340512782555889898808859563671008026639) (2 ^ 7 * 340512782555889898808859563671008026641 + 1) 87112285931760246646623899502532661738618 87112285931760246646623899502532662264041 = true := enumS_k (r := 63) (a := 15) (by decide) (by decide +kernel)
theorem tw10_8 : enumR 340512782555889898808859563671008026639 340512782555889898808859563671008026641 340282366920938463463374607431768211456 1023 (2 ^ 8 * 340512782555889898808859563671008026639) (2 ^ 8 * 340512782555889898808859563671008026641 + 1) 174224571863520493293247799005065323477966 174224571863520493293247799005065324527316 = true := enumS_k (r := 63) (a := 15) (by decide) (by decide +kernel)
theorem tw10_9 : enumR 340512782555889898808859563671008026639 340512782555889898808859563671008026641 340282366920938463463374607431768211456 1023 (2 ^ 9 * 340512782555889898808859563671008026639) (2 ^ 9 * 340512782555889898808859563671008026641 + 1) 348449143727040986586495598010130646956688 348449143727040986586495598010130649053910 = true := enumS_k (r := 63) (a := 15) (by decide) (by decide +kernel)
theorem tw10_10 : enumR 340512782555889898808859563671008026639 340512782555889898808859563671008026641 340282366920938463463374607431768211456 1023 (2 ^ 10 * 340512782555889898808859563671008026639) (2 ^ 10 * 340512782555889898808859563671008026641 + 1) 696898287454081973172991196020261293914086 696898287454081973172991196020261298107051 = true := enumS_k (r := 63) (a := 15) (by decide) (by decide +kernel)
theorem tw10_11 : enumR 340512782555889898808859563671008026639 340512782555889898808859563671008026641 340282366920938463463374607431768211456 1023 (2 ^ 11 * 340512782555889898808859563671008026639) (2 ^ 11 * 340512782555889898808859563671008026641 + 1) 1393796574908163946345982392040522587828910 1393796574908163946345982392040522596213327 = true := enumS_k (r := 63) (a := 15) (by decide) (by decide +kernel)
theorem tw10_12 : enumR 340512782555889898808859563671008026639 340512782555889898808859563671008026641 340282366920938463463374607431768211456 1023 (2 ^ 12 * 340512782555889898808859563671008026639) (2 ^ 12 * 340512782555889898808859563671008026641 + 1) 2787593149816327892691964784081045175658610 2787593149816327892691964784081045192425947 = true := enumS_k (r := 63) (a := 15) (by decide) (by decide +kernel)
theorem tw10_13 : enumR 340512782555889898808859563671008026639 340512782555889898808859563671008026641 340282366920938463463374607431768211456 1023 (2 ^ 13 * 340512782555889898808859563671008026639) (2 ^ 13 * 340512782555889898808859563671008026641 + 1) 5575186299632655785383929568162090351317949 5575186299632655785383929568162090384851135 = true := enumS_k (r := 63) (a := 15) (by decide) (by decide +kernel)
theorem tw10_14 : enumR 340512782555889898808859563671008026639 340512782555889898808859563671008026641 340282366920938463463374607431768211456 1023 (2 ^ 14 * 340512782555889898808859563671008026639) (2 ^ 14 * 340512782555889898808859563671008026641 + 1) 11150372599265311570767859136324180702636620 11150372599265311570767859136324180769701522 = true := enumS_k (r := 63) (a := 15) (by decide) (by decide +kernel)
theorem tw10_15 : enumR 340512782555889898808859563671008026639 340512782555889898808859563671008026641 340282366920938463463374607431768211456 1023 (2 ^ 15 * 340512782555889898808859563671008026639) (2 ^ 15 * 340512782555889898808859563671008026641 + 1) 22300745198530623141535718272648361405273954 22300745198530623141535718272648361539402304 = true := enumS_k (r := 63) (a := 15) (by decide) (by decide +kernel)
theorem tw10_16 : enumR 340512782555889898808859563671008026639 340512782555889898808859563671008026641 340282366920938463463374607431768211456 1023 (2 ^ 16 * 340512782555889898808859563671008026639) (2 ^ 16 * 340512782555889898808859563671008026641 + 1) 44601490397061246283071436545296722810548612 44601490397061246283071436545296723078803891 = true := enumS_k (r := 63) (a := 15) (by decide) (by decide +kernel)
theorem tw10_17 : enumR 340512782555889898808859563671008026639 340512782555889898808859563671008026641 340282366920938463463374607431768211456 1023 (2 ^ 17 * 340512782555889898808859563671008026639) (2 ^ 17 * 340512782555889898808859563671008026641 + 1) 89202980794122492566142873090593445621097978 89202980794122492566142873090593446157607062 = true := enumS_k (r := 63) (a := 15) (by decide) (by decide +kernel)
theorem tw10_18 : enumR 340512782555889898808859563671008026639 340512782555889898808859563671008026641 340282366920938463463374607431768211456 1023 (2 ^ 18 * 340512782555889898808859563671008026639) (2 ^ 18 * 340512782555889898808859563671008026641 + 1) 178405961588244985132285746181186891242196684 178405961588244985132285746181186892315213423 = true := enumS_k (r := 63) (a := 15) (by decide) (by decide +kernel)
theorem tw10_19 : enumR 340512782555889898808859563671008026639 340512782555889898808859563671008026641 340282366920938463463374607431768211456 1023 (2 ^ 19 * 340512782555889898808859563671008026639) (2 ^ 19 * 340512782555889898808859563671008026641 + 1) 356811923176489970264571492362373782484394090 356811923176489970264571492362373784630426083 = true := enumS_k (r := 63) (a := 15) (by decide) (by decide +kernel)
theorem tw10_20 : enumR 340512782555889898808859563671008026639 340512782555889898808859563671008026641 340282366920938463463374607431768211456 1023 (2 ^ 20 * 340512782555889898808859563671008026639) (2 ^ 20 * 340512782555889898808859563671008026641 + 1) 713623846352979940529142984724747564968788942 713623846352979940529142984724747569260851433 = true := enumS_k (r := 63) (a := 15) (by decide) (by decide +kernel)
theorem tw10_21 : enumR 340512782555889898808859563671008026639 340512782555889898808859563671008026641 340282366920938463463374607431768211456 1023 (2 ^ 21 * 340512782555889898808859563671008026639) (2 ^ 21 * 340512782555889898808859563671008026641 + 1) 1427247692705959881058285969449495129937578636 1427247692705959881058285969449495138521702147 = true := enumS_k (r := 63) (a := 15) (by decide) (by decide +kernel)
theorem tw10_22 : enumR 340512782555889898808859563671008026639 340512782555889898808859563671008026641 340282366920938463463374607431768211456 1023 (2 ^ 22 * 340512782555889898808859563671008026639) (2 ^ 22 * 340512782555889898808859563671008026641 + 1) 2854495385411919762116571938898990259875158013 2854495385411919762116571938898990277043403542 = true := enumS_k (r := 63) (a := 15) (by decide) (by decide +kernel)
theorem tw10_23 : enumR 340512782555889898808859563671008026639 340512782555889898808859563671008026641 340282366920938463463374607431768211456 1023 (2 ^ 23 * 340512782555889898808859563671008026639) (2 ^ 23 * 340512782555889898808859563671008026641 + 1) 5708990770823839524233143877797980519750316824 5708990770823839524233143877797980554086806375 = true := enumS_k (r := 63) (a := 15) (by decide) (by decide +kernel)
theorem tw10_24 : enumR 340512782555889898808859563671008026639 340512782555889898808859563671008026641 340282366920938463463374607431768211456 1023 (2 ^ 24 * 340512782555889898808859563671008026639) (2 ^ 24 * 340512782555889898808859563671008026641 + 1) 11417981541647679048466287755595961039500634366 11417981541647679048466287755595961108173611974 = true := enumS_k (r := 63) (a := 15) (by decide) (by decide +kernel)
theorem tw10_25 : enumR 340512782555889898808859563671008026639 340512782555889898808859563671008026641 340282366920938463463374607431768211456 1023 (2 ^ 25 * 340512782555889898808859563671008026639) (2 ^ 25 * 340512782555889898808859563671008026641 + 1) 22835963083295358096932575511191922079001269415 22835963083295358096932575511191922216347223213 = true := enumS_k (r := 63) (a := 15) (by decide) (by decide +kernel)
theorem tw10_26 : enumR 340512782555889898808859563671008026639 340512782555889898808859563671008026641 340282366920938463463374607431768211456 1023 (2 ^ 26 * 340512782555889898808859563671008026639) (2 ^ 26 * 340512782555889898808859563671008026641 + 1) 45671926166590716193865151022383844158002539611 45671926166590716193865151022383844432694445692 = true := enumS_k (r := 63) (a := 15) (by decide) (by decide +kernel)
theorem tw10_27 : enumR 340512782555889898808859563671008026639 340512782555889898808859563671008026641 340282366920938463463374607431768211456 1023 (2 ^ 27 * 340512782555889898808859563671008026639) (2 ^ 27 * 340512782555889898808859563671008026641 + 1) 91343852333181432387730302044767688316005079965 91343852333181432387730302044767688865388890680 = true := enumS_k (r := 63) (a := 15) (by decide) (by decide +kernel)
theorem tw10_28 : enumR 340512782555889898808859563671008026639 340512782555889898808859563671008026641 340282366920938463463374607431768211456 1023 (2 ^ 28 * 340512782555889898808859563671008026639) (2 ^ 28 * 340512782555889898808859563671008026641 + 1) 182687704666362864775460604089535376632010160657 182687704666362864775460604089535377730777780636 = true := enumS_k (r := 63) (a := 15) (by decide) (by decide +kernel)
theorem tw10_29 : enumR 340512782555889898808859563671008026639 340512782555889898808859563671008026641 340282366920938463463374607431768211456 1023 (2 ^ 29 * 340512782555889898808859563671008026639) (2 ^ 29 * 340512782555889898808859563671008026641 + 1) 365375409332725729550921208179070753264020322000 365375409332725729550921208179070755461555560452 = true := enumS_k (r := 63) (a := 15) (by decide) (by decide +kernel)
theorem tw10_30 : enumR 340512782555889898808859563671008026639 340512782555889898808859563671008026641 340282366920938463463374607431768211456 1023 (2 ^ 30 * 340512782555889898808859563671008026639) (2 ^ 30 * 340512782555889898808859563671008026641 + 1) 730750818665451459101842416358141506528040644745 730750818665451459101842416358141510923111120204 = true := enumS_k (r := 63) (a := 15) (by decide) (by decide +kernel)
theorem tw10_31 : enumR 340512782555889898808859563671008026639 340512782555889898808859563671008026641 340282366920938463463374607431768211456 1023 (2 ^ 31 * 340512782555889898808859563671008026639) (2 ^ 31 * 340512782555889898808859563671008026641 + 1) 1461501637330902918203684832716283013056081290258 1461501637330902918203684832716283021846222239684 = true := enumS_k (r := 63) (a := 15) (by decide) (by decide +kernel)
theorem tw10_32 : enumR 340512782555889898808859563671008026639 340512782555889898808859563671008026641 340282366920938463463374607431768211456 1023 (2 ^ 32 * 340512782555889898808859563671008026639) (2 ^ 32 * 340512782555889898808859563671008026641 + 1) 2923003274661805836407369665432566026112162581231 2923003274661805836407369665432566043692444478642 = true := enumS_k (r := 63) (a := 15) (by decide) (by decide +kernel)
theorem tw10 : ∀ q, q < 33 → ∃ ex ey, enumR 340512782555889898808859563671008026639 340512782555889898808859563671008026641 340282366920938463463374607431768211456 1023 (2 ^ q * 340512782555889898808859563671008026639) (2 ^ q * 340512782555889898808859563671008026641 + 1) ex ey = true := fun q hq => match q, hq with
  | 0, _ => ⟨_, _, tw10_0⟩
  | 1, _ => ⟨_, _, tw10_1⟩
  | 2, _ => ⟨_, _, tw10_2⟩
  | 3, _ => ⟨_, _, tw10_3⟩
  | 4, _ => ⟨_, _, tw10_4⟩
  | 5, _ => ⟨_, _, tw10_5⟩
  | 6, _ => ⟨_, _, tw10_6⟩
  | 7, _ => ⟨_, _, tw10_7⟩
  | 8, _ => ⟨_, _, tw10_8⟩
  | 9, _ => ⟨_, _, tw10_9⟩
  | 10, _ => ⟨_, _, tw10_10⟩
  | 11, _ => ⟨_, _, tw10_11⟩
  | 12, _ => ⟨_, _, tw10_12⟩
  | 13, _ => ⟨_, _, tw10_13⟩
  | 14, _ => ⟨_, _, tw10_14⟩
  | 15, _ => ⟨_, _, tw10_15⟩
  | 16, _ => ⟨_, _, tw10_16⟩
  | 17, _ => ⟨_, _, tw10_17⟩
  | 18, _ => ⟨_, _, tw10_18⟩
  | 19, _ => ⟨_, _, tw10_19⟩
  | 20, _ => ⟨_, _, tw10_20⟩
  | 21, _ => ⟨_, _, tw10_21⟩
  | 22, _ => ⟨_, _, tw10_22⟩
  | 23, _ => ⟨_, _, tw10_23⟩
  | 24, _ => ⟨_, _, tw10_24⟩
  | 25, _ => ⟨_, _, tw10_25⟩
  | 26, _ => ⟨_, _, tw10_26⟩
  | 27, _ => ⟨_, _, tw10_27⟩
  | 28, _ => ⟨_, _, tw10_28⟩
  | 29, _ => ⟨_, _, tw10_29⟩
  | 30, _ => ⟨_, _, tw10_30⟩
  | 31, _ => ⟨_, _, tw10_31⟩
  | 32, _ => ⟨_, _, tw10_32⟩
  | q + 33, h => absurd h (by omega)
theorem narrow10 {n : Nat} (h1 : 1 ≤ n) (h2 : n < 2 ^ 33) : narrow 10 n := twos_narrow (by decide) (by decide) rt10 (by decide) tw10 h1 h2
theorem rt20 : Rt 340282366920938463463374607431768211456 20 340282591860133317712432962519222523747 340282591860133317712432962519222523749 1 := Rt_one (by decide) (by decide +kernel) (by decide +kernel)
theorem pna_0 : enumR 340282591860133317712432962519222523747 340282591860133317712432962519222523749 340282366920938463463374607431768211456 65536 85421067056543555214053410812242507244354884 85421067056543555214053410812242507244354885 89202980794122492566142873090593437628719144 89202980794122492566142873090593471988501610 = true := enumS_k (r := 0) (a := 1024) (by decide) (by decide +kernel)
theorem pna_all : AllC 340282591860133317712432962519222523747 340282591860133317712432962519222523749 340282366920938463463374607431768211456 85421067056543555214053410812242507244354884 85421067056543555214053410812242507244354885 [(65536, 89202980794122492566142873090593437628719144, 89202980794122492566142873090593471988501610)] := ⟨pna_0, trivial⟩
theorem pn_at : Rt 340282366920938463463374607431768211456 6 85421067056543555214053410812242507244354884 85421067056543555214053410812242507244354885 1148 := ⟨by decide +kernel, by decide +kernel⟩
theorem pnb_0 : enumR 340282591860133317712432962519222523747 340282591860133317712432962519222523749 340282366920938463463374607431768211456 65536 (2 ^ 18 * 340282591860133317712432962519222523747) (2 ^ 18 * 340282591860133317712432962519222523749 + 1) 93152395734806776799145982769109994359694527 93152395734806776799145982769110030241282733 = true := enumS_k (r := 0) (a := 1024) (by decide) (by decide +kernel)
theorem pnb_1 : enumR 340282591860133317712432962519222523747 340282591860133317712432962519222523749 340282366920938463463374607431768211456 65536 93152395734806776799145982769109994359694527 93152395734806776799145982769110030241282733 97276604636161965043479364767075330423399455 97276604636161965043479364767075405363228699 = true := enumS_k (r := 0) (a := 1024) (by decide) (by decide +kernel)
theorem pnb_2 : enumR 340282591860133317712432962519222523747 340282591860133317712432962519222523749 340282366920938463463374607431768211456 65536 97276604636161965043479364767075330423399455 97276604636161965043479364767075405363228699 101583407865100956361529584883931898044611800 101583407865100956361529584883932015430857134 = true := enumS_k (r := 0) (a := 1024) (by decide) (by decide +kernel)
theorem pnb_3 : enumR 340282591860133317712432962519222523747 340282591860133317712432962519222523749 340282366920938463463374607431768211456 65536 101583407865100956361529584883931898044611800 101583407865100956361529584883932015430857134 106080889563155675980086912786515936691437086 106080889563155675980086912786516100135727788 = true := enumS_k (r := 0) (a := 1024) (by decide) (by decide +kernel)
theorem pnb_4 : enumR 340282591860133317712432962519222523747 340282591860133317712432962519222523749 340282366920938463463374607431768211456 65536 106080889563155675980086912786515936691437086 106080889563155675980086912786516100135727788 110777491787381346003450697566972375340695371 110777491787381346003450697566972588691259373 = true := enumS_k (r := 0) (a := 1024) (by decide) (by decide +kernel)
theorem pnb_all : AllC 340282591860133317712432962519222523747 340282591860133317712432962519222523749 340282366920938463463374607431768211456 (2 ^ 18 * 340282591860133317712432962519222523747) (2 ^ 18 * 340282591860133317712432962519222523749 + 1) [(65536, 93152395734806776799145982769109994359694527, 93152395734806776799145982769110030241282733), (65536, 97276604636161965043479364767075330423399455, 97276604636161965043479364767075405363228699), (65536, 101583407865100956361529584883931898044611800, 101583407865100956361529584883932015430857134), (65536, 106080889563155675980086912786515936691437086, 106080889563155675980086912786516100135727788), (65536, 110777491787381346003450697566972375340695371, 110777491787381346003450697566972588691259373)] := ⟨pnb_0, pnb_1, pnb_2, pnb_3, pnb_4, trivial⟩
theorem pn_narrow {n : Nat} (h0 : 2 ^ 1148 ≤ n ^ 64) (h1 : n ^ 64 ≤ 2 ^ 1172) : narrow 20 n := range_narrow (a := 1148) (b := 1172) (d := 14) (R := 340282366920938463463374607431768211456) (by decide) (fun i k0 k1 => by
  rcases Nat.lt_trichotomy i 18874368 with h | h | h
  · exact Or.inr fun n => part_none (d := 14) (by decide) rt20 (by decide) pn_at pna_all (by decide) i n k0 (Nat.lt_of_lt_of_le h (by decide))
  · exact Or.inl (by rw [h])
  · exact Or.inr fun n => two_none (by decide) rt20 (by decide) pnb_all (by decide) i n h (Nat.lt_of_le_of_lt k1 (by decide))) h0 h1 (by decide)
theorem rt22 : Rt 340282366920938463463374607431768211456 22 340282423155723237052512385577070742059 340282423155723237052512385577070742061 1 := Rt_one (by decide) (by decide +kernel) (by decide +kernel)
theorem pk_0 : enumR 340282423155723237052512385577070742059 340282423155723237052512385577070742061 340282366920938463463374607431768211456 65536 107456633090502163393973309027486370069810565555 107456633090502163393973309027486370069810565556 108626759106377262697812365920176450296860068425 108626759106377262697812365920176492138358844535 = true := enumS_k (r := 0) (a := 1024) (by decide) (by decide +kernel)
theorem pk_1 : enumR 340282423155723237052512385577070742059 340282423155723237052512385577070742061 340282366920938463463374607431768211456 65536 108626759106377262697812365920176450296860068425 108626759106377262697812365920176492138358844535 109809626959155762551551919164810457940285175614 109809626959155762551551919164810542534530825120 = true := enumS_k (r := 0) (a := 1024) (by decide) (by decide +kernel)
theorem pk_2 : enumR 340282423155723237052512385577070742059 340282423155723237052512385577070742061 340282366920938463463374607431768211456 65536 109809626959155762551551919164810457940285175614 109809626959155762551551919164810542534530825120 111005375398344528196981803379923347485328642907 111005375398344528196981803379923475758453525126 = true := enumS_k (r := 0) (a := 1024) (by decide) (by decide +kernel)
theorem pk_3 : enumR 340282423155723237052512385577070742059 340282423155723237052512385577070742061 340282366920938463463374607431768211456 65536 111005375398344528196981803379923347485328642907 111005375398344528196981803379923475758453525126 112214144684333494663886494383110922791707205887 112214144684333494663886494383111095684944046783 = true := enumS_k (r := 0) (a := 1024) (by decide) (by decide +kernel)
theorem pk_4 : enumR 340282423155723237052512385577070742059 340282423155723237052512385577070742061 340282366920938463463374607431768211456 65536 112214144684333494663886494383110922791707205887 112214144684333494663886494383111095684944046783 113436076604848104707637891950602026059213099783 113436076604848104707637891950602244529114039606 = true := enumS_k (r := 0) (a := 1024) (by decide) (by decide +kernel)
theorem pk_5 : enumR 340282423155723237052512385577070742059 340282423155723237052512385577070742061 340282366920938463463374607431768211456 65536 113436076604848104707637891950602026059213099783 113436076604848104707637891950602244529114039606 114671314491580902049738399149666366570496284152 114671314491580902049738399149666631589154903714 = true := enumS_k (r := 0) (a := 1024) (by decide) (by decide +kernel)
theorem pk_6 : enumR 340282423155723237052512385577070742059 340282423155723237052512385577070742061 340282366920938463463374607431768211456 65536 114671314491580902049738399149666366570496284152 114671314491580902049738399149666631589154903714 115920003237004230794655803078602042535717356539 115920003237004230794655803078602355090993723265 = true := enumS_k (r := 0) (a := 1024) (by decide) (by decide +kernel)
theorem pk_7 : enumR 340282423155723237052512385577070742059 340282423155723237052512385577070742061 340282366920938463463374607431768211456 65536 115920003237004230794655803078602042535717356539 115920003237004230794655803078602355090993723265 117182289311366013139909328131911917451177746414 117182289311366013139909328131912278546926518459 = true := enumS_k (r := 0) (a := 1024) (by decide) (by decide +kernel)
theorem pk_8 : enumR 340282423155723237052512385577070742059 340282423155723237052512385577070742061 340282366920938463463374607431768211456 65536 117182289311366013139909328131911917451177746414 117182289311366013139909328131912278546926518459 118458320779870598971311930910111811717455582569 118458320779870598971311930910112222373757210715 = true := enumS_k (r := 0) (a := 1024) (by decide) (by decide +kernel)
theorem pk_9 : enumR 340282423155723237052512385577070742059 340282423155723237052512385577070742061 340282366920938463463374607431768211456 65536 118458320779870598971311930910111811717455582569 118458320779870598971311930910112222373757210715 119748247320046702644066430545723437861420703987 119748247320046702644066430545723899114815772830 = true := enumS_k (r := 0) (a := 1024) (by decide) (by decide +kernel)
theorem pk_10 : enumR 340282423155723237052512385577070742059 340282423155723237052512385577070742061 340282366920938463463374607431768211456 65536 119748247320046702644066430545723437861420703987 119748247320046702644066430545723899114815772830 121052220239304464195598844507068411258129253246 121052220239304464195598844507068924161856002272 = true := enumS_k (r := 0) (a := 1024) (by decide) (by decide +kernel)
theorem pk_11 : enumR 340282423155723237052512385577070742059 340282423155723237052512385577070742061 340282366920938463463374607431768211456 65536 121052220239304464195598844507068411258129253246 121052220239304464195598844507068924161856002272 122370392492683694420165481607273791027182356661 122370392492683694420165481607274356651417420988 = true := enumS_k (r := 0) (a := 1024) (by decide) (by decide +kernel)
theorem pk_12 : enumR 340282423155723237052512385577070742059 340282423155723237052512385577070742061 340282366920938463463374607431768211456 65536 122370392492683694420165481607273791027182356661 122370392492683694420165481607274356651417420988 123702918700795385660993115421593441832131620069 123702918700795385660993115421594061264234036062 = true := enumS_k (r := 0) (a := 1024) (by decide) (by decide +kernel)
theorem pk_13 : enumR 340282423155723237052512385577070742059 340282423155723237052512385577070742061 340282366920938463463374607431768211456 1 123702918700795385660993115421593441832131620069 123702918700795385660993115421594061264234036062 123702939143838238422981040157036105938353124451 123702939143838238422981040157036725371284967697 = true := enumS_k (r := 1) (a := 0) (by decide) (by decide +kernel)
theorem pk_all : AllC 340282423155723237052512385577070742059 340282423155723237052512385577070742061 340282366920938463463374607431768211456 107456633090502163393973309027486370069810565555 107456633090502163393973309027486370069810565556 [(65536, 108626759106377262697812365920176450296860068425, 108626759106377262697812365920176492138358844535), (65536, 109809626959155762551551919164810457940285175614, 109809626959155762551551919164810542534530825120), (65536, 111005375398344528196981803379923347485328642907, 111005375398344528196981803379923475758453525126), (65536, 112214144684333494663886494383110922791707205887, 112214144684333494663886494383111095684944046783), (65536, 113436076604848104707637891950602026059213099783, 113436076604848104707637891950602244529114039606), (65536, 114671314491580902049738399149666366570496284152, 114671314491580902049738399149666631589154903714), (65536, 115920003237004230794655803078602042535717356539, 115920003237004230794655803078602355090993723265), (65536, 117182289311366013139909328131911917451177746414, 117182289311366013139909328131912278546926518459), (65536, 118458320779870598971311930910111811717455582569, 118458320779870598971311930910112222373757210715), (65536, 119748247320046702644066430545723437861420703987, 119748247320046702644066430545723899114815772830), (65536, 121052220239304464195598844507068411258129253246, 121052220239304464195598844507068924161856002272), (65536, 122370392492683694420165481607273791027182356661, 122370392492683694420165481607274356651417420988), (65536, 123702918700795385660993115421593441832131620069, 123702918700795385660993115421594061264234036062), (1, 123702939143838238422981040157036105938353124451, 123702939143838238422981040157036725371284967697)] := ⟨pk_0, pk_1, pk_2, pk_3, pk_4, pk_5, pk_6, pk_7, pk_8, pk_9, pk_10, pk_11, pk_12, pk_13, trivial⟩
theorem pk_at : Rt 340282366920938463463374607431768211456 6 107456633090502163393973309027486370069810565555 107456633090502163393973309027486370069810565556 1807 := ⟨by decide +kernel, by decide +kernel⟩
theorem pk_narrow {n : Nat} (h0 : 2 ^ 1807 ≤ n ^ 64) (h1 : n ^ 64 ≤ 2 ^ 1820) : narrow 22 n := range_narrow (a := 1807) (b := 1820) (d := 16) (R := 340282366920938463463374607431768211456) (by decide) (fun i k0 k1 => Or.inr fun n => part_none (d := 16) (by decide) rt22 (by decide) pk_at pk_all (by decide) i n k0 (Nat.lt_of_le_of_lt k1 (by decide))) h0 h1 (by decide)
end Go.Proofs.Ytijadllhfgajlaa
set_option linter.all false
namespace Go.Proofs.Ytijadllhfgajlaa
open Go Go.Vx
set_option maxRecDepth 100000
theorem bisL_spec {t : Int → Bool} : ∀ (f : Nat) (a b : Int), a < b → b - a ≤ 2 ^ f → (bisL f t a b = a ∨ t (bisL f t a b) = true) ∧ (bisL f t a b + 1 = b ∨ t (bisL f t a b + 1) = false)
  | 0, a, b, h, hb => by
    rw [bisL]
    exact ⟨Or.inl rfl, Or.inl (by simp at hb; omega)⟩
  | f + 1, a, b, h, hb => by
    have hb2 : b - a ≤ 2 ^ f * 2 := by rw [← Int.pow_succ]; exact hb
    rw [bisL]
    split
    · split
      · rename_i h1 h2
        obtain ⟨i1, i2⟩ := bisL_spec (t := t) f (a + (b - a) / 2) b (by omega) (by omega)
        refine ⟨?_, i2⟩
        rcases i1 with i1 | i1
        · right; rw [i1]; exact h2
        · exact Or.inr i1
      · rename_i h1 h2
        obtain ⟨i1, i2⟩ := bisL_spec (t := t) f a (a + (b - a) / 2) (by omega) (by omega)
        refine ⟨i1, ?_⟩
        rcases i2 with i2 | i2
        · right; rw [i2]; simpa using h2
        · exact Or.inr i2
    · exact ⟨Or.inl rfl, Or.inl (by omega)⟩
def spL (N k : Nat) : List (Int × Int) := [((N : Int), 1), (273150, -1), (331300000, 2), ((k : Int), -2)]
theorem sp_up (N k : Nat) : upP (spL N k) = N * 331300000 ^ 2 := by
  simp [upP, spL]
theorem sp_dn (N k : Nat) : dnP (spL N k) = 273150 * k ^ 2 := by
  simp [dnP, spL]
theorem sp_ok {N k : Nat} (hN : 1 ≤ N ∧ N ≤ 1000000000000) (hk : 1 ≤ k ∧ k ≤ 1000000000001) : ∀ x, x ∈ spL N k → okT x := by
  intro x hx
  simp only [spL, List.mem_cons, List.not_mem_nil, or_false] at hx
  unfold okT
  rcases hx with rfl | rfl | rfl | rfl <;> simp only <;> omega
theorem sp_step {N k J E : Nat} {w : Nat → Nat} (hJ : J ≤ 2048) (hN : 1 ≤ N ∧ N ≤ 1000000000000) (hk : 1 ≤ k ∧ k ≤ 1000000000001) (hs : 0 ≤ signF (spL N k))
    (hw : ∀ x, x ∈ spL N k → (lN x.1.toNat 2048).2 ≤ (lN x.1.toNat 2048).1 + w x.1.toNat * 2 ^ (2048 - J)) (hE : upS w (spL N k) + dnS w (spL N k) = E) :
    273150 * k ^ 2 * (2 ^ J) ^ E ≤ N * 331300000 ^ 2 * (2 ^ J + 1) ^ E := by
  have hl := sp_ok hN hk
  obtain ⟨h1, h2, h3, h4⟩ := sign_sound hl (by simp [spL])
  rw [sp_up, sp_dn] at h1
  have hle : (2 ^ J) ^ E ≤ (2 ^ J + 1) ^ E := Nat.pow_le_pow_left (Nat.le_succ _) _
  rcases h4 with h4 | h4 | h4
  · exact Nat.mul_le_mul (Nat.le_of_lt (h1 h4)) hle
  · rw [h4] at hs; exact absurd hs (by decide)
  · rcases h3 h4 with h5 | h5
    · have := one_sound hl (by simp [spL]) h5
      rw [sp_up, sp_dn] at this
      rw [this]
      exact Nat.mul_le_mul_left _ hle
    · have := und_near hJ hl hw h5
      rw [sp_up, sp_dn, hE] at this
      exact und_ratio (p2_pos J) this
def wtA (_ : Nat) : Nat := 1
theorem sp_E1 (N k : Nat) : upS wtA (spL N k) + dnS wtA (spL N k) = 6 := rfl
theorem w1_all {J N k : Nat} (h1 : narrow J N) (h2 : narrow J 273150) (h3 : narrow J 331300000) (h4 : narrow J k) : ∀ x, x ∈ spL N k → (lN x.1.toNat 2048).2 ≤ (lN x.1.toNat 2048).1 + wtA x.1.toNat * 2 ^ (2048 - J) := by
  intro x hx
  unfold wtA
  rw [Nat.one_mul]
  simp only [spL, List.mem_cons, List.not_mem_nil, or_false] at hx
  rcases hx with rfl | rfl | rfl | rfl
  · exact h1
  · exact h2
  · exact h3
  · exact h4
theorem sp_0 {N k : Nat} (hN : 253150 ≤ N ∧ N ≤ 323150) (hk : 1 ≤ k ∧ k ≤ 1000000000001) (hs : 0 ≤ signF (spL N k)) : k ≤ 3000000000 := by
  have h := sp_step (J := 0) (by decide) (by omega) hk hs (w1_all (J := 0) (narrow_0 _) (narrow_0 _) (narrow_0 _) (narrow_0 _)) (sp_E1 N k)
  refine Nat.le_of_not_lt fun hh => ?_
  have h2 : 3000000000 ^ 2 ≤ k ^ 2 := Nat.pow_le_pow_left (Nat.le_of_lt hh) 2
  generalize k ^ 2 = K at *
  simp only [Nat.pow_zero, Nat.one_pow, Nat.reduceAdd, Nat.reducePow, Nat.mul_one] at h h2
  omega
theorem sp_10 {N k : Nat} (hN : 253150 ≤ N ∧ N ≤ 323150) (hk : 1 ≤ k ∧ k ≤ 1000000000001) (hs : 0 ≤ signF (spL N k)) : k ≤ 362600000 := by
  have h0 := sp_0 hN hk hs
  have h := sp_step (J := 10) (by decide) (by omega) hk hs (w1_all (J := 10) (narrow10 (by omega) (by omega)) (narrow10 (by decide) (by decide)) (narrow10 (by decide) (by decide)) (narrow10 hk.1 (by omega))) (sp_E1 N k)
  refine Nat.le_of_not_lt fun hh => ?_
  have h2 : 362600000 ^ 2 ≤ k ^ 2 := Nat.pow_le_pow_left (Nat.le_of_lt hh) 2
  generalize k ^ 2 = K at *
  simp only [Nat.reduceAdd, Nat.reducePow, Nat.mul_one] at h h2
  omega
def wtB (n : Nat) : Nat := if n < 1000000 then 2 ^ (22 - 20) else 1
theorem sp_E2 {N k : Nat} (hN : N < 1000000) (hk : ¬ k < 1000000) : upS wtB (spL N k) + dnS wtB (spL N k) = 12 := by
  simp [upS, dnS, spL, wtB, hN, hk]
theorem w2_all {N k : Nat} (h1 : narrow 20 N) (h2 : narrow 20 273150) (h3 : narrow 22 331300000) (h4 : narrow 22 k) (hN : N < 1000000) (hk : ¬ k < 1000000) : ∀ x, x ∈ spL N k → (lN x.1.toNat 2048).2 ≤ (lN x.1.toNat 2048).1 + wtB x.1.toNat * 2 ^ (2048 - 22) := by
  have f1 := narrow_w (J' := 22) h1 (by decide) (by decide)
  have f2 := narrow_w (J' := 22) h2 (by decide) (by decide)
  have f3 := narrow_w (J' := 22) h3 (by decide) (by decide)
  have f4 := narrow_w (J' := 22) h4 (by decide) (by decide)
  generalize 2 ^ (2048 - 22) = Z at *
  intro x hx
  unfold wtB
  simp only [spL, List.mem_cons, List.not_mem_nil, or_false] at hx
  rcases hx with rfl | rfl | rfl | rfl
  · rw [if_pos (by simpa using hN)]; exact f1
  · rw [if_pos (by decide)]; exact f2
  · rw [if_neg (by decide)]; exact f3
  · rw [if_neg (by simpa using hk)]; exact f4
theorem ratio_step {A B X Y p q : Nat} (h : A * X ≤ B * Y) (hq : Y * p ≤ X * q) (h0 : 0 < X) : A * p ≤ B * q := by
  have k1 := Nat.mul_le_mul_right p h
  have k2 := Nat.mul_le_mul_left B hq
  refine Nat.le_of_mul_le_mul_right (c := X) ?_ h0
  have e1 : A * p * X = A * X * p := Nat.mul_right_comm ..
  have e2 : B * q * X = B * (X * q) := by rw [Nat.mul_assoc, Nat.mul_comm q]
  have e3 : B * Y * p = B * (Y * p) := Nat.mul_assoc ..
  omega
theorem sp_22 {N k : Nat} (hN : 253150 ≤ N ∧ N ≤ 323150) (hk : k ≤ 1000000000001) (hs : k = 0 ∨ 0 ≤ signF (spL N k)) : k ≤ 362600000 ∧ 273150 * k ^ 2 * 346000 ≤ N * 331300000 ^ 2 * 346001 := by
  rcases hs with rfl | hs
  · exact ⟨by decide, by simp⟩
  rcases Nat.eq_zero_or_pos k with h0 | h0
  · subst h0; exact ⟨by decide, by simp⟩
  have h10 := sp_10 hN ⟨h0, hk⟩ hs
  refine ⟨h10, ?_⟩
  rcases Nat.lt_or_ge k 318000000 with hlt | hge
  · have h2 : k ^ 2 ≤ 318000000 ^ 2 := Nat.pow_le_pow_left (Nat.le_of_lt hlt) 2
    generalize k ^ 2 = K at *
    simp only [Nat.reducePow] at h2 ⊢
    omega
  · have c1 : 2 ^ 1148 ≤ N ^ 64 ∧ N ^ 64 ≤ 2 ^ 1172 := ⟨Nat.le_trans (by decide +kernel) (Nat.pow_le_pow_left hN.1 64), Nat.le_trans (Nat.pow_le_pow_left hN.2 64) (by decide +kernel)⟩
    have c2 : 2 ^ 1807 ≤ k ^ 64 ∧ k ^ 64 ≤ 2 ^ 1820 := ⟨Nat.le_trans (by decide +kernel) (Nat.pow_le_pow_left hge 64), Nat.le_trans (Nat.pow_le_pow_left h10 64) (by decide +kernel)⟩
    have h := sp_step (J := 22) (by decide) (by omega) ⟨h0, hk⟩ hs (w2_all (pn_narrow c1.1 c1.2) (pn_narrow (by decide +kernel) (by decide +kernel)) (pk_narrow (by decide +kernel) (by decide +kernel)) (pk_narrow c2.1 c2.2) (by omega) (by omega)) (sp_E2 (by omega) (by omega))
    exact ratio_step h (by decide +kernel) (by decide +kernel)
theorem sp_neg {N k : Nat} (hN : 1 ≤ N ∧ N ≤ 1000000000000) (hk : 1 ≤ k ∧ k ≤ 1000000000001) (hs : ¬ 0 ≤ signF (spL N k)) : N * 331300000 ^ 2 < 273150 * k ^ 2 := by
  obtain ⟨h1, h2, h3, h4⟩ := sign_sound (sp_ok hN hk) (by simp [spL])
  rw [sp_up, sp_dn] at h2
  refine h2 ?_
  omega
theorem speed_is {t : Int} (ht : -20000 ≤ t ∧ t ≤ 50000) : ∃ k : Nat, k ≤ 362600000 ∧ ((speedF t).1 = ((k : Int), (k : Int)) ∨ (speedF t).1 = ((k : Int), (k : Int) + 1)) ∧
    273150 * k ^ 2 * 346000 ≤ (273150 + t).toNat * 331300000 ^ 2 * 346001 ∧ (273150 + t).toNat * 331300000 ^ 2 < 273150 * (k + 1) ^ 2 := by
  obtain ⟨N, hN⟩ : ∃ N : Nat, N = (273150 + t).toNat := ⟨_, rfl⟩
  have hNI : (N : Int) = 273150 + t := by omega
  have hNr : 253150 ≤ N ∧ N ≤ 323150 := by omega
  have hl : [(273150 + t, (1 : Int)), (273150, -1)] ++ [((331300000 : Int), (2 : Int))] = [(273150 + t, 1), (273150, -1), (331300000, 2)] := rfl
  have hat : ∀ k : Nat, atF ([(273150 + t, (1 : Int)), (273150, -1)] ++ [((331300000 : Int), (2 : Int))]) 2 (k : Int) = spL N k := fun k => by
    rw [hl, spL, hNI]; rfl
  obtain ⟨f, hf⟩ : ∃ f, f = isF ([(273150 + t, (1 : Int)), (273150, -1)] ++ [((331300000 : Int), (2 : Int))]) 2 := ⟨_, rfl⟩
  have hfk : ∀ k : Nat, f (k : Int) = true ↔ (k = 0 ∨ 0 ≤ signF (spL N k)) := fun k => by
    rw [hf, isF, hat, Bool.or_eq_true, decide_eq_true_eq, decide_eq_true_eq]; omega
  have htop : f 1000000000001 = false := by
    cases hc : f 1000000000001 with
    | false => rfl
    | true =>
      have := (sp_22 hNr (by decide) ((hfk 1000000000001).1 hc)).1
      omega
  have hp : ((pspF 331300000 [(273150 + t, 1), (273150, -1)] 2).1 = bisL 64 f 0 1000000000001) ∧ ((pspF 331300000 [(273150 + t, 1), (273150, -1)] 2).2 = bisL 64 f 0 1000000000001 ∨ (pspF 331300000 [(273150 + t, 1), (273150, -1)] 2).2 = bisL 64 f 0 1000000000001 + 1) := by
    have hr := bisL_rng (t := f) 64 0 1000000000001 (by decide)
    have e1 : (prodF 331300000 [(273150 + t, 1), (273150, -1)] 2).1 = bisL 64 f 0 1000000000001 := by
      unfold prodF
      rw [← hf, if_neg (by rw [htop]; decide)]
    unfold pspF
    rw [e1]
    split
    · exact ⟨rfl, Or.inl rfl⟩
    · exact ⟨rfl, Or.inr (IntWalk.i64_in _ (by omega))⟩
  obtain ⟨s1, s2⟩ := bisL_spec (t := f) 64 0 1000000000001 (by decide) (by decide)
  have hr := bisL_rng (t := f) 64 0 1000000000001 (by decide)
  obtain ⟨p1, p2⟩ := hp
  generalize bisL 64 f 0 1000000000001 = b at *
  obtain ⟨k, rfl⟩ : ∃ k : Nat, b = (k : Int) := ⟨b.toNat, by omega⟩
  have h22 := sp_22 hNr (by omega) (show k = 0 ∨ 0 ≤ signF (spL N k) by
    rcases s1 with h | h
    · exact Or.inl (by omega)
    · exact (hfk k).1 h)
  refine ⟨k, h22.1, ?_, ?_, ?_⟩
  · unfold speedF
    rw [if_pos (by unfold tempOk; rw [decide_eq_true ht.1, decide_eq_true ht.2]; rfl)]
    simp only
    rcases p2 with p2 | p2
    · left; exact Prod.ext p1 p2
    · right; exact Prod.ext p1 p2
  · rw [← hN]; exact h22.2
  · rw [← hN]
    rcases s2 with s2 | s2
    · have : k ≤ 362600000 := h22.1
      omega
    · refine sp_neg (by omega) (by omega) fun hh => ?_
      have := (hfk (k + 1)).2 (Or.inr hh)
      rw [Int.natCast_add, show ((1 : Nat) : Int) = 1 from rfl, s2] at this
      cases this
theorem speed_less {t u : Int} (ht : -20000 ≤ t) (hu : u ≤ 50000) (h : t < u) : (speedF t).1.1 + 1 ≤ (speedF u).1.1 := by
  obtain ⟨k, k1, k2, k3, k4⟩ := speed_is (t := t) ⟨ht, by omega⟩
  obtain ⟨j, j1, j2, j3, j4⟩ := speed_is (t := u) ⟨by omega, hu⟩
  have hk : (speedF t).1.1 = k := by rcases k2 with h | h <;> rw [h]
  have hj : (speedF u).1.1 = j := by rcases j2 with h | h <;> rw [h]
  rw [hk, hj]
  by_cases hh : k + 1 ≤ j
  · omega
  exfalso
  have hjk : (j + 1) ^ 2 ≤ (k + 1) ^ 2 := Nat.pow_le_pow_left (by omega) 2
  have e : (k + 1) ^ 2 = k ^ 2 + 2 * k + 1 := by rw [Nat.pow_two, Nat.pow_two, Nat.add_mul, Nat.mul_add]; omega
  have hN : (273150 + t).toNat + 1 ≤ (273150 + u).toNat := by omega
  have hNr : (273150 + t).toNat ≤ 323150 := by omega
  have hmul := Nat.mul_le_mul_right (331300000 ^ 2) hN
  generalize (273150 + t).toNat = N at *
  generalize (273150 + u).toNat = M at *
  generalize k ^ 2 = K at *
  generalize (j + 1) ^ 2 = L at *
  generalize (k + 1) ^ 2 = P at *
  simp only [Nat.reducePow] at *
  omega
theorem speed_mono {t u : Int} (ht : -20000 ≤ t) (hu : u ≤ 50000) (h : t ≤ u) : (speedF t).1.1 ≤ (speedF u).1.1 ∧ (speedF t).1.2 ≤ (speedF u).1.2 := by
  rcases Int.lt_or_eq_of_le h with h | h
  · have hl := speed_less ht hu h
    obtain ⟨k, _, k2, _⟩ := speed_is (t := t) ⟨ht, by omega⟩
    obtain ⟨j, _, j2, _⟩ := speed_is (t := u) ⟨by omega, hu⟩
    have a : (speedF t).1.2 ≤ (speedF t).1.1 + 1 := by rcases k2 with h | h <;> rw [h] <;> simp only <;> omega
    have b : (speedF u).1.1 ≤ (speedF u).1.2 := by rcases j2 with h | h <;> rw [h] <;> simp only <;> omega
    omega
  · rw [h]; exact ⟨Int.le_refl _, Int.le_refl _⟩
end Go.Proofs.Ytijadllhfgajlaa
set_option linter.all false
namespace Go.Proofs.Ytijadllhfgajlaa
open Go Go.Vx
set_option maxRecDepth 100000
theorem up_mono {a b x y : Int} (hx : 0 < x) (hy : 0 < y) (ha : 0 ≤ a) (h : a * y ≤ b * x) : -(-a / x) ≤ -(-b / y) := by
  have h1 := Int.ediv_mul_le (-b) (show y ≠ 0 by omega)
  have k : -b / y ≤ -a / x := by
    rw [Int.le_ediv_iff_mul_le hx]
    refine Int.le_of_mul_le_mul_right (a := y) ?_ hy
    have k1 := Int.mul_le_mul_of_nonneg_right h1 (Int.le_of_lt hx)
    have e1 : -b / y * y * x = -b / y * x * y := Int.mul_right_comm ..
    have e2 : -b * x = -(b * x) := Int.neg_mul ..
    have e3 : -a * y = -(a * y) := Int.neg_mul ..
    omega
  omega
theorem dn_mono {a b x y : Int} (hx : 0 < x) (hy : 0 < y) (h : a * y ≤ b * x) : a / x ≤ b / y := by
  have h1 := Int.ediv_mul_le a (show x ≠ 0 by omega)
  rw [Int.le_ediv_iff_mul_le hy]
  refine Int.le_of_mul_le_mul_right (a := x) ?_ hx
  have k1 := Int.mul_le_mul_of_nonneg_right h1 (Int.le_of_lt hy)
  have e1 : a / x * x * y = a / x * y * x := Int.mul_right_comm ..
  omega
theorem len_is {b : Bdy} {x : Iv} {t : Int} (h : (lenF b x t).2 = 0) :
    (chkB b = 0 ∧ (speedF t).2 = 0 ∧ 1000 ≤ x.1 ∧ x.1 ≤ x.2 ∧ x.2 ≤ 20000000) ∧ (lenF b x t).1 = ((wayF b t).1.1 / x.2 - (bothF b).2, -(-(wayF b t).1.2 / x.1) - (bothF b).1) ∧
    1 ≤ (wayF b t).1.1 / x.2 - (bothF b).2 ∧ -(-(wayF b t).1.2 / x.1) - (bothF b).1 ≤ 12000000 ∧ (subF ((wayF b t).1.1 / x.2, -(-(wayF b t).1.2 / x.1)) (bothF b)).2 = 0 := by
  obtain ⟨hb, e⟩ := len_0 h
  have hb0 := beg_0 hb
  rw [e] at h ⊢
  obtain ⟨he, l0, l1, e2⟩ := fits_0 h
  rw [e2]
  obtain ⟨he, hsub⟩ := keep_0 he
  obtain ⟨_, hquo⟩ := keep_0 he
  obtain ⟨w0, w1, w2⟩ := way_is b t
  obtain ⟨eq, _, _⟩ := quo_1 w0 (by omega : 0 < x.1) hquo
  obtain ⟨es, s1, s2⟩ := sub_1 hsub
  rw [es] at l0 l1 ⊢
  rw [eq] at l0 l1 hsub ⊢
  exact ⟨hb0, rfl, l0, l1, hsub⟩
theorem pit_is {b : Bdy} {x : Iv} {t : Int} (h : (pitF b x t).2 = 0) :
    (chkB b = 0 ∧ (speedF t).2 = 0 ∧ 1 ≤ x.1 ∧ x.1 ≤ x.2 ∧ x.2 ≤ 12000000) ∧ (pitF b x t).1 = ((wayF b t).1.1 / (x.2 + (bothF b).2), -(-(wayF b t).1.2 / (x.1 + (bothF b).1))) ∧
    1 ≤ (wayF b t).1.1 / (x.2 + (bothF b).2) ∧ -(-(wayF b t).1.2 / (x.1 + (bothF b).1)) ≤ 200000000 ∧ (addF x (bothF b)).2 = 0 ∧ (0 ≤ (bothF b).1 ∧ (bothF b).1 ≤ (bothF b).2) := by
  obtain ⟨hb, e⟩ := pit_0 h
  have hb0 := beg_0 hb
  rw [e] at h ⊢
  obtain ⟨he, l0, l1, e2⟩ := fits_0 h
  rw [e2]
  obtain ⟨_, hquo⟩ := keep_0 he
  obtain ⟨w0, w1, w2⟩ := way_is b t
  obtain ⟨k0, k1⟩ := both_is hb0.1
  by_cases ha : (addF x (bothF b)).2 = 0
  · obtain ⟨ea, a1, a2⟩ := add_1 ha
    rw [ea] at hquo l0 l1 ⊢
    obtain ⟨eq, _, _⟩ := quo_1 w0 (by simp only; omega) hquo
    rw [eq] at l0 l1 ⊢
    exact ⟨hb0, rfl, l0, l1, ha, k0, k1⟩
  · have e0 := (add_iv x (bothF b)).2.2 ha
    rw [e0] at hquo
    have : (quoF (wayF b t).1 (0, 0)).2 ≠ 0 := by
      unfold quoF
      split
      · rename_i h9; exact h9
      · rw [if_pos (by simp)]; decide
    exact absurd hquo this
theorem way_mono {b : Bdy} {t u : Int} (h1 : (speedF t).1.1 ≤ (speedF u).1.1) (h2 : (speedF t).1.2 ≤ (speedF u).1.2) : (wayF b t).1.1 ≤ (wayF b u).1.1 ∧ (wayF b t).1.2 ≤ (wayF b u).1.2 := by
  obtain ⟨p0, p1⟩ := parts_rng b
  have e : ∀ t, (wayF b t).1 = ((speedF t).1.1 * partsF b, (speedF t).1.2 * partsF b) := fun t => (scl_1 p0 (way_e0 b t)).1
  rw [e, e]
  exact ⟨Int.mul_le_mul_of_nonneg_right h1 p0, Int.mul_le_mul_of_nonneg_right h2 p0⟩
theorem rise_1 {b : Bdy} {x : Iv} {t u : Int} (ht : -20000 ≤ t) (hu : u ≤ 50000) (h : t ≤ u) (h1 : (lenF b x t).2 = 0) (h2 : (lenF b x u).2 = 0) : (lenF b x t).1.1 ≤ (lenF b x u).1.1 ∧ (lenF b x t).1.2 ≤ (lenF b x u).1.2 := by
  obtain ⟨a1, a2⟩ := speed_mono ht hu h
  obtain ⟨m1, m2⟩ := way_mono (b := b) a1 a2
  obtain ⟨⟨_, _, c1, c2, c3⟩, e1, _⟩ := len_is h1
  obtain ⟨_, e2, _⟩ := len_is h2
  obtain ⟨w0, w1, w2⟩ := way_is b t
  rw [e1, e2]
  simp only
  have k1 : (wayF b t).1.1 / x.2 ≤ (wayF b u).1.1 / x.2 := dn_mono (by omega) (by omega) (Int.mul_le_mul_of_nonneg_right m1 (by omega))
  have k2 : -(-(wayF b t).1.2 / x.1) ≤ -(-(wayF b u).1.2 / x.1) := up_mono (by omega) (by omega) (by omega) (Int.mul_le_mul_of_nonneg_right m2 (by omega))
  omega
theorem rise_2 {b : Bdy} {x : Iv} {t u : Int} (ht : -20000 ≤ t) (hu : u ≤ 50000) (h : t ≤ u) (h1 : (pitF b x t).2 = 0) (h2 : (pitF b x u).2 = 0) : (pitF b x t).1.1 ≤ (pitF b x u).1.1 ∧ (pitF b x t).1.2 ≤ (pitF b x u).1.2 := by
  obtain ⟨a1, a2⟩ := speed_mono ht hu h
  obtain ⟨m1, m2⟩ := way_mono (b := b) a1 a2
  obtain ⟨⟨_, _, c1, c2, c3⟩, e1, _, _, _, k0, k1⟩ := pit_is h1
  obtain ⟨_, e2, _⟩ := pit_is h2
  obtain ⟨w0, w1, w2⟩ := way_is b t
  rw [e1, e2]
  simp only
  exact ⟨dn_mono (by omega) (by omega) (Int.mul_le_mul_of_nonneg_right m1 (by omega)), up_mono (by omega) (by omega) (by omega) (Int.mul_le_mul_of_nonneg_right m2 (by omega))⟩
theorem rise_3 {b : Bdy} {x y : Iv} {t : Int} (h1 : (lenF b x t).2 = 0) (h2 : (lenF b y t).2 = 0) (hx : x.1 ≤ y.1) (hy : x.2 ≤ y.2) : (lenF b y t).1.1 ≤ (lenF b x t).1.1 ∧ (lenF b y t).1.2 ≤ (lenF b x t).1.2 := by
  obtain ⟨⟨_, _, c1, c2, c3⟩, e1, _⟩ := len_is h1
  obtain ⟨⟨_, _, d1, d2, d3⟩, e2, _⟩ := len_is h2
  obtain ⟨w0, w1, w2⟩ := way_is b t
  rw [e1, e2]
  simp only
  have k1 : (wayF b t).1.1 / y.2 ≤ (wayF b t).1.1 / x.2 := dn_mono (by omega) (by omega) (Int.mul_le_mul_of_nonneg_left hy w0)
  have k2 : -(-(wayF b t).1.2 / y.1) ≤ -(-(wayF b t).1.2 / x.1) := up_mono (by omega) (by omega) (by omega) (Int.mul_le_mul_of_nonneg_left hx (by omega))
  omega
theorem rise_4 {b : Bdy} {x y : Iv} {t : Int} (h1 : (pitF b x t).2 = 0) (h2 : (pitF b y t).2 = 0) (hx : x.1 ≤ y.1) (hy : x.2 ≤ y.2) : (pitF b y t).1.1 ≤ (pitF b x t).1.1 ∧ (pitF b y t).1.2 ≤ (pitF b x t).1.2 := by
  obtain ⟨⟨_, _, c1, c2, c3⟩, e1, _, _, _, k0, k1⟩ := pit_is h1
  obtain ⟨⟨_, _, d1, d2, d3⟩, e2, _⟩ := pit_is h2
  obtain ⟨w0, w1, w2⟩ := way_is b t
  rw [e1, e2]
  simp only
  exact ⟨dn_mono (by omega) (by omega) (Int.mul_le_mul_of_nonneg_left (by omega) w0), up_mono (by omega) (by omega) (by omega) (Int.mul_le_mul_of_nonneg_left (by omega) (by omega))⟩
theorem ivE_rng {a b : Iv} (h : ivE [a, b] = 0) : (-4611686018427387904 ≤ a.1 ∧ a.2 ≤ 4611686018427387904) ∧ -4611686018427387904 ≤ b.1 ∧ b.2 ≤ 4611686018427387904 := by
  unfold ivE at h
  split at h
  · rename_i h1
    simp only [List.all_cons, List.all_nil, Bool.and_true, Bool.and_eq_true, numOk, decide_eq_true_eq] at h1
    omega
  · cases h
theorem fitF_ok {a b : Int} (h0 : -4611686018427387904 ≤ a) (h1 : a ≤ b) (h2 : b ≤ 4611686018427387904) : (fitF a b).2 = 0 := by
  rw [fitF, numOk_is h0 (by omega), numOk_is (by omega) h2]; rfl
theorem fitF_rng {a b : Int} (h : (fitF a b).2 = 0) : -4611686018427387904 ≤ a ∧ b ≤ 4611686018427387904 := by
  unfold fitF at h
  split at h
  · rename_i h1
    simp only [numOk, Bool.and_eq_true, decide_eq_true_eq] at h1
    omega
  · cases h
theorem add_sub_ok {a a' b : Iv} (h : (addF a b).2 = 0) (h0 : a.1 ≤ a'.1) (h1 : a'.1 ≤ a'.2) (h2 : a'.2 ≤ a.2) : (addF a' b).2 = 0 := by
  obtain ⟨_, l1, l2⟩ := add_1 h
  unfold addF at h ⊢
  by_cases hE : ivE [a, b] ≠ 0
  · rw [if_pos hE] at h; exact absurd h hE
  · rw [if_neg hE] at h
    obtain ⟨⟨r1, r2⟩, r3, r4⟩ := ivE_rng (by simpa using hE)
    have hf := fitF_rng h
    rw [if_neg (by rw [okE2 (by omega) h1 (by omega) r3 l2 r4]; decide)]
    exact fitF_ok (by omega) (by omega) (by omega)
theorem sub_sub_ok {a a' b : Iv} (h : (subF a b).2 = 0) (h0 : a.1 ≤ a'.1) (h1 : a'.1 ≤ a'.2) (h2 : a'.2 ≤ a.2) : (subF a' b).2 = 0 := by
  obtain ⟨_, l1, l2⟩ := sub_1 h
  unfold subF at h ⊢
  by_cases hE : ivE [a, b] ≠ 0
  · rw [if_pos hE] at h; exact absurd h hE
  · rw [if_neg hE] at h
    obtain ⟨⟨r1, r2⟩, r3, r4⟩ := ivE_rng (by simpa using hE)
    rw [if_neg (by rw [okE2 (by omega) h1 (by omega) r3 l2 r4]; decide)]
    exact add_sub_ok h h0 h1 h2
theorem dn_up {a b x y : Int} (hx : 0 < x) (hy : 0 < y) (ha : 0 ≤ a) (h : a ≤ b) (hxy : y ≤ x) : a / x ≤ -(-b / y) := by
  have h1 := Int.ediv_mul_le a (show x ≠ 0 by omega)
  have h2 := Int.ediv_mul_le (-b) (show y ≠ 0 by omega)
  have k0 : 0 ≤ a / x := Int.ediv_nonneg ha (by omega)
  have k1 : a / x * y ≤ a / x * x := Int.mul_le_mul_of_nonneg_left hxy k0
  refine Int.le_of_mul_le_mul_right (a := y) ?_ hy
  rw [Int.neg_mul]
  omega
theorem fits_ok {x : Iv} {m : Int} (h1 : 1 ≤ x.1) (h2 : x.2 ≤ m) : fitsF x 0 m = (x, 0) := by
  unfold fitsF
  rw [if_neg (by omega)]
theorem rise_5 {b : Bdy} {x y : Iv} {t : Int} (h1 : (lenF b x t).2 = 0) (hx : x.1 ≤ y.1) (hm : y.1 ≤ y.2) (hy : y.2 ≤ x.2) : (lenF b y t).2 = 0 ∧ withinF (lenF b y t).1 (lenF b x t).1 = true := by
  obtain ⟨⟨c, s, c1, c2, c3⟩, e1, l0, l1, hs⟩ := len_is h1
  obtain ⟨w0, w1, w2⟩ := way_is b t
  obtain ⟨k0, k1'⟩ := both_is c
  have k1 : (wayF b t).1.1 / x.2 ≤ (wayF b t).1.1 / y.2 := dn_mono (by omega) (by omega) (Int.mul_le_mul_of_nonneg_left hy w0)
  have k2 : -(-(wayF b t).1.2 / y.1) ≤ -(-(wayF b t).1.2 / x.1) := up_mono (by omega) (by omega) (by omega) (Int.mul_le_mul_of_nonneg_left hx (by omega))
  have k3 : (wayF b t).1.1 / y.2 ≤ -(-(wayF b t).1.2 / y.1) := dn_up (by omega) (by omega) w0 w1 hm
  have hb := beg_is c s (show 1000 ≤ y.1 by omega) hm (show y.2 ≤ 20000000 by omega)
  have hq := quo_e0 (a := (wayF b t).1) (b := y) w0 w1 (by omega) (by omega) hm (by omega)
  obtain ⟨eq, _, _⟩ := quo_1 w0 (by omega) hq
  have hsub := sub_sub_ok (a' := ((wayF b t).1.1 / y.2, -(-(wayF b t).1.2 / y.1))) hs k1 k3 k2
  obtain ⟨es, _, _⟩ := sub_1 hsub
  have e2 : lenF b y t = (((wayF b t).1.1 / y.2 - (bothF b).2, -(-(wayF b t).1.2 / y.1) - (bothF b).1), 0) := by
    unfold lenF
    rw [if_neg (by rw [hb]; decide), way_e0, eq, hsub, es, hq]
    exact fits_ok (by simp only; omega) (by simp only; omega)
  rw [e2, e1]
  refine ⟨rfl, ?_⟩
  unfold withinF
  simp only
  rw [decide_eq_true (by omega), decide_eq_true (by omega)]; rfl
theorem rise_6 {b : Bdy} {x y : Iv} {t : Int} (h1 : (pitF b x t).2 = 0) (hx : x.1 ≤ y.1) (hm : y.1 ≤ y.2) (hy : y.2 ≤ x.2) : (pitF b y t).2 = 0 ∧ withinF (pitF b y t).1 (pitF b x t).1 = true := by
  obtain ⟨⟨c, s, c1, c2, c3⟩, e1, l0, l1, ha, k0, k1'⟩ := pit_is h1
  obtain ⟨w0, w1, w2⟩ := way_is b t
  have hr : (bothF b).2 ≤ 4611686018427387904 ∧ x.2 + (bothF b).2 ≤ 4611686018427387904 := by
    obtain ⟨_, l1, l2⟩ := add_1 ha
    unfold addF at ha
    by_cases hE : ivE [x, bothF b] ≠ 0
    · rw [if_pos hE] at ha; exact absurd ha hE
    · rw [if_neg hE] at ha
      have := fitF_rng ha
      have := ivE_rng (by simpa using hE)
      omega
  have k1 : (wayF b t).1.1 / (x.2 + (bothF b).2) ≤ (wayF b t).1.1 / (y.2 + (bothF b).2) := dn_mono (by omega) (by omega) (Int.mul_le_mul_of_nonneg_left (by omega) w0)
  have k2 : -(-(wayF b t).1.2 / (y.1 + (bothF b).1)) ≤ -(-(wayF b t).1.2 / (x.1 + (bothF b).1)) := up_mono (by omega) (by omega) (by omega) (Int.mul_le_mul_of_nonneg_left (by omega) (by omega))
  have k3 : (wayF b t).1.1 / (y.2 + (bothF b).2) ≤ -(-(wayF b t).1.2 / (y.1 + (bothF b).1)) := dn_up (by omega) (by omega) w0 w1 (by omega)
  have hb := beg_is c s (show 1 ≤ y.1 by omega) hm (show y.2 ≤ 12000000 by omega)
  have hadd := add_sub_ok (a' := y) ha hx hm hy
  obtain ⟨ea, _, _⟩ := add_1 hadd
  have hbig : x.2 + (bothF b).2 ≤ 1000000000000000 := by
    have h3 := Int.ediv_mul_le (wayF b t).1.1 (show x.2 + (bothF b).2 ≠ 0 by omega)
    have h4 : 1 * (x.2 + (bothF b).2) ≤ (wayF b t).1.1 / (x.2 + (bothF b).2) * (x.2 + (bothF b).2) := Int.mul_le_mul_of_nonneg_right l0 (by omega)
    omega
  have hq := quo_e0 (a := (wayF b t).1) (b := (y.1 + (bothF b).1, y.2 + (bothF b).2)) w0 w1 (by omega) (by simp only; omega) (by simp only; omega) (by simp only; omega)
  obtain ⟨eq, _, _⟩ := quo_1 (b := (y.1 + (bothF b).1, y.2 + (bothF b).2)) w0 (by simp only; omega) hq
  have e2 : pitF b y t = (((wayF b t).1.1 / (y.2 + (bothF b).2), -(-(wayF b t).1.2 / (y.1 + (bothF b).1))), 0) := by
    unfold pitF
    rw [if_neg (by rw [hb]; decide), way_e0, ea, eq, hq]
    exact fits_ok (by simp only; omega) (by simp only; omega)
  rw [e2, e1]
  refine ⟨rfl, ?_⟩
  unfold withinF
  simp only
  rw [decide_eq_true k1, decide_eq_true k2]; rfl
end Go.Proofs.Ytijadllhfgajlaa
