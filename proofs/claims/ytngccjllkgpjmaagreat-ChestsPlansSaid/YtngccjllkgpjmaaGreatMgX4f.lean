/- Chests, walked: the program's exported functions. -/
import Derived.Test.YtngccjllkgpjmaaGreatMgX4e
import Derived.Test.YtngccjllkgpjmaaGreatMgX4c
import Derived.Test.YtngccjllkgpjmaaGreatMgX4d
/- Chests, walked: the program's exported functions. -/
set_option linter.all false
namespace Go.Proofs.YtngccjllkgpjmaaGreat
open Go Go.Vx
set_option maxRecDepth 100000
set_option maxHeartbeats 4000000

def v6 : VF := { ntmps := 13, res := [.cell 2 true 2, .tmp 3], body :=
 (.seq (.region [u1 1 .box [.tm 0],
 u1 2 (.alloc [(.int .i64 0), (.int .i64 0)]) [],
 u1 3 .mov [.cn (.int .i64 0)]])
 (.seq (.seq (.region [u1 5 (.load true 1) [.tm 1],
 u1 6 (.call 21) [.tm 5],
 u1 4 .mov [.tm 6]])
 (.seq (.region [u1 7 .mov [.tm 4],
 u1 8 (.cmp .neq) [.tm 7, .cn (.int .i64 0)]])
 (.cond (.tm 8) (.seq (.region [u1 9 (.build [(.int .i64 0), (.int .i64 0)] []) [],
 u1 10 .mov [.tm 4],
 u0 (.store 2) [.tm 2, .tm 9],
 u1 3 .mov [.tm 10]])
 .ret)
  .skip)))
 (.seq (.region [u1 11 (.load true 1) [.tm 1],
 u1 12 (.call 22) [.tm 11],
 u0 (.store 2) [.tm 2, .tm 12],
 u1 3 .mov [.cn (.int .i64 0)]])
 .ret))) }
theorem v6_is : vfunc Tryz.prog Tryz.f6 = some v6 := by kernel_rfl
def v8 : VF := { ntmps := 8, res := [.tmp 2, .tmp 3], body :=
 (.seq (.region [u1 1 .box [.tm 0],
 u1 2 .mov [.cn (.int .i64 0)],
 u1 3 .mov [.cn (.int .i64 0)]])
 (.seq (.seq (.region [u1 4 (.load true 4) [.tm 1],
 u1 5 (.call 25) [.tm 4]])
 (.cond (.tm 5) (.seq (.region [u1 2 .mov [.cn (.int .i64 0)],
 u1 3 .mov [.cn (.int .i64 2)]])
 .ret)
  .skip))
 (.seq (.region [u1 6 (.load true 4) [.tm 1],
 u1 7 (.call 26) [.tm 6],
 u1 2 .mov [.tm 7],
 u1 3 .mov [.cn (.int .i64 0)]])
 .ret))) }
theorem v8_is : vfunc Tryz.prog Tryz.f8 = some v8 := by kernel_rfl
def v10 : VF := { ntmps := 16, res := [.cell 4 true 2, .tmp 5], body :=
 (.seq (.region [u1 2 .box [.tm 0],
 u1 4 (.alloc [(.int .i64 0), (.int .i64 0)]) [],
 u1 5 .mov [.cn (.int .i64 0)]])
 (.seq (.seq (.region [u1 6 (.load true 4) [.tm 2],
 u1 7 (.call 25) [.tm 6],
 u1 8 .mov [.tm 7],
 u2 9 8 false .mov [.tm 1],
 u2 10 8 false (.call 29) [.tm 9, .cn (.int .i64 10), .cn (.int .i64 5000)],
 u1 11 .or [.tm 8, .tm 10]])
 (.cond (.tm 11) (.seq (.region [u1 12 (.build [(.int .i64 0), (.int .i64 0)] []) [],
 u0 (.store 2) [.tm 4, .tm 12],
 u1 5 .mov [.cn (.int .i64 2)]])
 .ret)
  .skip))
 (.seq (.region [u1 13 (.load true 4) [.tm 2],
 u1 14 .mov [.tm 1],
 u1 15 (.call 30) [.tm 13, .tm 14],
 u0 (.store 2) [.tm 4, .tm 15],
 u1 5 .mov [.cn (.int .i64 0)]])
 .ret))) }
theorem v10_is : vfunc Tryz.prog Tryz.f10 = some v10 := by kernel_rfl
def v19 : VF := { ntmps := 49, res := [.tmp 6, .tmp 7], body :=
 (.seq (.region [u1 3 .box [.tm 0],
 u1 6 .mov [.cn (.int .i64 0)],
 u1 7 .mov [.cn (.int .i64 0)]])
 (.seq (.region [u1 12 (.load true 1) [.tm 3],
 u1 13 (.call 21) [.tm 12],
 u1 8 .mov [.tm 13]])
 (.seq (.block 0 (.seq (.region [u1 15 .mov [.tm 8],
 u1 16 (.cmp .eql) [.tm 15, .cn (.int .i64 3)],
 u1 17 .mov [.tm 16],
 u2 18 17 false .mov [.tm 1],
 u2 19 17 false .len [.tm 18],
 u2 20 17 false (.cmp .gtr) [.tm 19, .cn (.int .i64 40)],
 u1 21 .or [.tm 17, .tm 20],
 u1 14 .mov [.tm 21]])
 (.cond (.tm 14) (.seq (.region [u1 6 .mov [.cn (.int .i64 0)],
 u1 7 .mov [.cn (.int .i64 3)]])
 .ret)
  (.seq (.region [u1 23 .mov [.tm 8],
 u1 24 (.cmp .neq) [.tm 23, .cn (.int .i64 0)],
 u1 25 .mov [.tm 24],
 u2 26 25 false .mov [.tm 1],
 u2 27 25 false (.call 50) [.tm 26, .cn (.fn (.func 25) [] [])],
 u1 28 .or [.tm 25, .tm 27],
 u1 29 .mov [.tm 28],
 u2 30 29 false .mov [.tm 2],
 u2 31 29 false (.call 29) [.tm 30, .cn (.int .i64 10), .cn (.int .i64 1000)],
 u1 32 .or [.tm 29, .tm 31],
 u1 22 .mov [.tm 32]])
 (.cond (.tm 22) (.seq (.region [u1 6 .mov [.cn (.int .i64 0)],
 u1 7 .mov [.cn (.int .i64 2)]])
 .ret)
  .skip)))))
 (.seq (.region [u1 9 .mov [.cn (.int .i64 0)]])
 (.seq (.seq (.region [u1 33 .mov [.tm 1],
 u1 34 .len [.tm 33],
 u1 35 .mov [.cn (.int .i64 0)]])
 (.block 1 (.loop (.seq (.region [u1 36 (.cmp .lss) [.tm 35, .tm 34]])
 (.seq (.cond (.tm 36) .skip
  (.exit 1))
 (.seq (.block 2 (.seq (.region [u1 37 (.idxAddr 4) [.tm 33, .tm 35],
 u1 38 (.load true 4) [.tm 37],
 u1 11 (.alloc [(.int .i64 0), (.int .i64 0), (.int .i64 0), (.int .i64 0)]) [],
 u0 (.store 4) [.tm 11, .tm 38]])
 (.region [u1 39 .mov [.tm 9],
 u1 40 (.load true 4) [.tm 11],
 u1 41 (.call 26) [.tm 40],
 u1 42 (.ari .add) [.tm 39, .tm 41],
 u1 9 .mov [.tm 42]])))
 (.region [u1 43 (.ari .add) [.tm 35, .cn (.int .i64 1)],
 u1 35 .mov [.tm 43]])))))))
 (.seq (.region [u1 44 (.load true 1) [.tm 3],
 u1 45 (.call 22) [.tm 44],
 u1 46 .mov [.tm 9],
 u1 47 .mov [.tm 2],
 u1 48 (.call 51) [.tm 45, .tm 46, .tm 47],
 u1 6 .mov [.tm 48],
 u1 7 .mov [.cn (.int .i64 0)]])
 .ret)))))) }
theorem v19_is : vfunc Tryz.prog Tryz.f19 = some v19 := by kernel_rfl
def v20 : VF := { ntmps := 38, res := [.tmp 6, .tmp 7], body :=
 (.seq (.region [u1 3 .box [.tm 0],
 u1 5 .box [.tm 2],
 u1 6 .mov [.cn .nil],
 u1 7 .mov [.cn (.int .i64 0)]])
 (.seq (.draw [(9, .box [.nil, (.int .i64 0), (.int .i64 0), (.int .i64 0)])] [w1 11 (.load true 1) [.tm 3],
 w1 13 .mov [.tm 1],
 w1 14 (.load true 3) [.tm 5],
 w1 15 (.build [.nil, (.int .i64 0), (.int .i64 0), (.int .i64 0)] [(0, 1), (1, 3)]) [.tm 13, .tm 14],
 w1 12 (.call 21) [.tm 11],
 w1 8 .mov [.tm 12],
 w0 (.store 4) [.tm 9, .tm 15]])
 (.seq (.block 0 (.seq (.region [u1 17 .mov [.tm 8],
 u1 18 (.cmp .eql) [.tm 17, .cn (.int .i64 3)],
 u1 19 .mov [.tm 18],
 u2 20 19 false .mov [.tm 1],
 u2 21 19 false .len [.tm 20],
 u2 22 19 false (.cmp .gtr) [.tm 21, .cn (.int .i64 40)],
 u1 23 .or [.tm 19, .tm 22],
 u1 16 .mov [.tm 23]])
 (.cond (.tm 16) (.seq (.region [u1 6 .mov [.cn .nil],
 u1 7 .mov [.cn (.int .i64 3)]])
 .ret)
  (.seq (.region [u1 25 .mov [.tm 8],
 u1 26 (.cmp .neq) [.tm 25, .cn (.int .i64 0)],
 u1 27 .mov [.tm 26],
 u2 28 27 false (.load true 4) [.tm 9],
 u2 29 27 false (.call 44) [.tm 28],
 u1 30 .or [.tm 27, .tm 29],
 u1 24 .mov [.tm 30]])
 (.cond (.tm 24) (.seq (.region [u1 6 .mov [.cn .nil],
 u1 7 .mov [.cn (.int .i64 2)]])
 .ret)
  .skip)))))
 (.seq (.seq (.draw [] [w1 31 (.load true 4) [.tm 9],
 w1 32 (.load true 1) [.tm 3],
 w1 33 (.call 22) [.tm 32],
 w1 34 (.call 46) [.tm 31, .tm 33],
 w1 10 .mov [.tm 34]])
 (.seq (.region [u1 35 .mov [.tm 10],
 u1 36 (.isNil true) [.tm 35, .cn .nil]])
 (.cond (.tm 36) (.seq (.region [u1 37 .mov [.tm 10],
 u1 6 .mov [.tm 37],
 u1 7 .mov [.cn (.int .i64 0)]])
 .ret)
  .skip)))
 (.seq (.region [u1 6 .mov [.cn .nil],
 u1 7 .mov [.cn (.int .i64 4)]])
 .ret))))) }
theorem v20_is : vfunc Tryz.prog Tryz.f20 = some v20 := by kernel_rfl
def v12 : VF := { ntmps := 45, res := [.cell 6 true 2, .tmp 7], body :=
 (.seq (.region [u1 3 .box [.tm 0],
 u1 6 (.alloc [(.int .i64 0), (.int .i64 0)]) [],
 u1 7 .mov [.cn (.int .i64 0)]])
 (.seq (.seq (.region [u1 10 (.load true 2) [.tm 3],
 u1 11 (.call 33) [.tm 10],
 u1 12 .mov [.tm 11],
 u2 13 12 false .mov [.tm 1],
 u2 14 12 false (.call 29) [.tm 13, .cn (.int .i64 0), .cn (.int .i64 3000000)],
 u1 15 .or [.tm 12, .tm 14],
 u1 16 .mov [.tm 15],
 u2 17 16 false .mov [.tm 2],
 u2 18 16 false (.cmp .lss) [.tm 17, .cn (.int .i64 0)],
 u1 19 .or [.tm 16, .tm 18],
 u1 20 .mov [.tm 19],
 u2 21 20 false .mov [.tm 2],
 u2 22 20 false (.cmp .gtr) [.tm 21, .cn (.int .i64 8)],
 u1 23 .or [.tm 20, .tm 22]])
 (.cond (.tm 23) (.seq (.region [u1 24 (.build [(.int .i64 0), (.int .i64 0)] []) [],
 u0 (.store 2) [.tm 6, .tm 24],
 u1 7 .mov [.cn (.int .i64 2)]])
 .ret)
  .skip))
 (.seq (.region [u1 26 (.fieldAddr 0) [.tm 3],
 u1 27 (.load false 1) [.tm 26],
 u1 28 (.fieldAddr 0) [.tm 3],
 u1 29 (.load false 1) [.tm 28],
 u1 30 (.ari .mul) [.tm 27, .tm 29],
 u1 31 (.call 35) [.tm 30],
 u1 32 .mov [.tm 1],
 u1 33 .quo [.tm 32, .cn (.int .i64 10000)],
 u1 34 (.ari .add) [.cn (.int .i64 1000), .tm 33],
 u1 35 .mov [.tm 2],
 u1 36 (.ari .mul) [.cn (.int .i64 50), .tm 35],
 u1 37 (.ari .add) [.tm 34, .tm 36],
 u1 38 (.call 34) [.tm 31, .tm 37, .cn (.int .i64 1000)],
 u1 25 .mov [.tm 38],
 u1 39 (.ext 0) [.tm 25],
 u1 40 (.ext 1) [.tm 25],
 u1 8 (.alloc [(.int .i64 0), (.int .i64 0)]) [],
 u0 (.store 2) [.tm 8, .tm 39],
 u1 9 .mov [.tm 40]])
 (.seq (.region [u1 41 (.load true 2) [.tm 8],
 u1 42 (.call 36) [.tm 41, .cn (.int .i64 2)],
 u1 43 (.ext 0) [.tm 42],
 u1 44 (.ext 1) [.tm 42],
 u0 (.store 2) [.tm 6, .tm 43],
 u1 7 .mov [.tm 44]])
 .ret)))) }
theorem v12_is : vfunc Tryz.prog Tryz.f12 = some v12 := by kernel_rfl


def aF (c : List Iv) : Iv × Int := if chkT c ≠ 0 then ((0, 0), chkT c) else (areaF c, 0)
def ArC : Ctr := { alias := false, of := fun l => match l with
  | [.agg [.vs _ _ n sz get]] => .ex (List Iv) fun l => .pre (lsP 2 enc2 n sz get l ∧ l.length ≤ 1000000000000) (.fin (.tup [.agg (enc2 (aF l).1), .int .i64 (aF l).2]) [])
  | _ => noC }
def oF (p : Plt) : Int × Int := if palB p then (0, 2) else (openF p, 0)
def OpC : Ctr := { alias := false, of := fun l => match l with
  | [.agg [.int .i64 w, .int .i64 l, .int .i64 t, .int .i64 s]] => .fin (.tup [.int .i64 (oF ⟨w, l, t, s⟩).1, .int .i64 (oF ⟨w, l, t, s⟩).2]) []
  | _ => noC }
def fF (p : Plt) (pr : Int) : Iv × Int := if palB p || outN pr 10 5000 then ((0, 0), 2) else (forceF p pr, 0)
def FoC : Ctr := { alias := false, of := fun l => match l with
  | [.agg [.int .i64 w, .int .i64 l, .int .i64 t, .int .i64 s], .int .i64 pr] => .fin (.tup [.agg (enc2 (fF ⟨w, l, t, s⟩ pr).1), .int .i64 (fF ⟨w, l, t, s⟩ pr).2]) []
  | _ => noC }
def tubS (t : Iv) (len bends : Int) : Iv := (sclF (t.1 * t.1, t.1 * t.1) (1000 + len / 10000 + 50 * bends) 1000).1
def tF (t : Iv) (len bends : Int) : Iv × Int := if (toeB t || outN len 0 3000000 || decide (bends < 0) || decide (8 < bends)) = true then ((0, 0), 2) else rootF (tubS t len bends) 2
def TuC : Ctr := { alias := false, of := fun l => match l with
  | [.agg [.int .i64 x, .int .i64 y], .int .i64 len, .int .i64 b] => .fin (.tup [.agg (enc2 (tF (x, y) len b).1), .int .i64 (tF (x, y) len b).2]) []
  | _ => noC }
def EnC : Ctr := { alias := false, of := fun l => match l with
  | [.agg [.vs _ _ n sz get], .vs _ _ n' sz' get', .int .i64 per] => .ex (List Iv) fun c => .ex (List Plt) fun l => .pre (lsP 2 enc2 n sz get c ∧ lsP 4 encP n' sz' get' l ∧ c.length ≤ 1000000000000 ∧ l.length ≤ 1000000000000) (.fin (.tup [.int .i64 (enoF c l per).1, .int .i64 (enoF c l per).2]) [])
  | _ => noC }
def ChC : Ctr := { alias := false, of := fun l => match l with
  | [.agg [.vs _ _ n sz get], .vs _ _ n' sz' get', .agg [.int .i64 per, .int .i64 pr, .int .i64 most]] => .ex (List Iv) fun c => .ex (List Plt) fun l => .pre (lsP 2 enc2 n sz get c ∧ lsP 4 encP n' sz' get' l ∧ c.length ≤ 1000000000000 ∧ l.length ≤ 1000000000000) (.fin (.tup [vsI (choF c l ⟨per, pr, most⟩).1, .int .i64 (choF c l ⟨per, pr, most⟩).2]) [])
  | _ => noC }

theorem chkT_0 {c : List Iv} (h : chkT c = 0) : c.length ≤ 24 ∧ ∀ t ∈ c, toeB t = false := by
  unfold chkT at h
  split at h
  · cases h
  · split at h
    · cases h
    · rename_i h1 h2
      refine ⟨by omega, fun t ht => ?_⟩
      rw [Bool.not_eq_true, List.any_eq_false] at h2
      simpa using h2 t ht
theorem area_all {c : List Iv} (h : ∀ t ∈ c, toeB t = false) (hl : c.length ≤ 100) : (0 ≤ (areaF c).1 ∧ (areaF c).1 ≤ 1000000000000) ∧ 0 ≤ (areaF c).2 ∧ (areaF c).2 ≤ 1000000000000 := by
  have := area_rng (l := c) (i := c.length) (Nat.le_refl _) h
  rw [take_full (Nat.le_refl _)] at this
  omega
theorem sumO_all {l : List Plt} (h : ∀ t ∈ l, palB t = false) (hl : l.length ≤ 100) : 0 ≤ sumO l ∧ sumO l ≤ 10000000000000 := by
  have := sumO_rng (l := l) (i := l.length) (Nat.le_refl _) h
  rw [take_full (Nat.le_refl _)] at this
  omega
theorem any_f {α : Type} {l : List α} {F : α → Bool} (h : l.any F = false) : ∀ p ∈ l, F p = false := fun p hp => by
  have := List.any_eq_false.1 h p hp
  simpa using this

theorem ans_nilI {k : SV → List HO → Prop} {al : Bool} {hp : List HO} {e : Int} (h : k (.tup [vsI [], .int .i64 e]) []) : answers al k (.tup [.nil, .int .i64 e]) hp :=
  ans_le (show k _ [] from h) (by simp [vsI, expo, view, viewL, le, leL]) (fun _ => by simp [vsI, freshS, freshL])
theorem ans_chI {k : SV → List HO → Prop} {al : Bool} {hp : List HO} {b : List Int} {e : Int} (h : k (.tup [vsI b, .int .i64 e]) []) : answers al k (.tup [vsI b, .int .i64 e]) hp :=
  ans_le (show k _ [] from h) (by simp only [vsI, expo, view, viewL]; exact ⟨⟨fun h => h, rfl, rfl, rfl, fun j _ => by simp [enc1, viewL, view, leXL, leX]⟩, ⟨rfl, rfl⟩, trivial⟩) (fun _ => by simp [vsI, enc1, freshS, freshL])
def H0 : Env := { ct := fun n => match n with | 21 => some chkC | 22 => some areaC | 25 => some palC | 33 => some toeC | 35 => some oneC | 29 => some outC | 26 => some openC | 30 => some forceC | 51 => some cmpC | 50 => some anyPC | 44 => some shopC | 46 => some chooseC | 34 => some sclC | 36 => some rootC | _ => none, fn := fun _ => none, meth := fun _ _ => none }
theorem H0_ct21 : H0.ct 21 = some chkC := rfl
theorem H0_ct22 : H0.ct 22 = some areaC := rfl
theorem H0_ct25 : H0.ct 25 = some palC := rfl
theorem H0_ct33 : H0.ct 33 = some toeC := rfl
theorem H0_ct35 : H0.ct 35 = some oneC := rfl
theorem H0_ct29 : H0.ct 29 = some outC := rfl
theorem H0_ct26 : H0.ct 26 = some openC := rfl
theorem H0_ct30 : H0.ct 30 = some forceC := rfl
theorem H0_ct51 : H0.ct 51 = some cmpC := rfl
theorem H0_ct50 : H0.ct 50 = some anyPC := rfl
theorem H0_ct44 : H0.ct 44 = some shopC := rfl
theorem H0_ct46 : H0.ct 46 = some chooseC := rfl
theorem H0_ct34 : H0.ct 34 = some sclC := rfl
theorem H0_ct36 : H0.ct 36 = some rootC := rfl
theorem H0_ok : EnvOk Tryz.prog H0 := by
  refine ⟨fun f c h => ?_, fun f vf h => ?_, (fun _ _ _ h => by cases h), by kernel_rfl⟩
  · simp only [H0] at h
    split at h
    · cases h; exact ⟨chk_ok, Tryz.f21, Tryz.func21, by kernel_rfl, by kernel_rfl⟩
    · cases h; exact ⟨area_ok, Tryz.f22, Tryz.func22, by kernel_rfl, by kernel_rfl⟩
    · cases h; exact ⟨pal_ok, Tryz.f25, Tryz.func25, by kernel_rfl, by kernel_rfl⟩
    · cases h; exact ⟨toe_ok, Tryz.f33, Tryz.func33, by kernel_rfl, by kernel_rfl⟩
    · cases h; exact ⟨one_ok, Tryz.f35, Tryz.func35, by kernel_rfl, by kernel_rfl⟩
    · cases h; exact ⟨out_ok, Tryz.f29, Tryz.func29, by kernel_rfl, by kernel_rfl⟩
    · cases h; exact ⟨open_ok, Tryz.f26, Tryz.func26, by kernel_rfl, by kernel_rfl⟩
    · cases h; exact ⟨force_ok, Tryz.f30, Tryz.func30, by kernel_rfl, by kernel_rfl⟩
    · cases h; exact ⟨cmp_ok, Tryz.f51, Tryz.func51, by kernel_rfl, by kernel_rfl⟩
    · cases h; exact ⟨anyP_ok, Tryz.f50, Tryz.func50, by kernel_rfl, by kernel_rfl⟩
    · cases h; exact ⟨shop_ok, Tryz.f44, Tryz.func44, by kernel_rfl, by kernel_rfl⟩
    · cases h; exact ⟨choose_ok, Tryz.f46, Tryz.func46, by kernel_rfl, by kernel_rfl⟩
    · cases h; exact ⟨scl_ok, Tryz.f34, Tryz.func34, by kernel_rfl, by kernel_rfl⟩
    · cases h; exact ⟨root_ok, Tryz.f36, Tryz.func36, by kernel_rfl, by kernel_rfl⟩
    · cases h
  · cases h


theorem Ar_ok : ArC.ok Tryz.prog 6 := by
  refine contract Tryz.func6 v6_is H0_ok 200 ArC fun args k h => ?_
  simp only [ArC] at h
  split at h
  · rename_i t z n sz get
    obtain ⟨l, ⟨⟨rfl, rfl, hg⟩, hl⟩, h⟩ := h
    refine ⟨[.agg [.vs t z l.length 2 (fun k => enc2 (l.getD k default))]], ⟨by simpa [le, leL] using hg, trivial⟩, ?_⟩
    have h : k (.tup [.agg (enc2 (aF l).1), .int .i64 (aF l).2]) [] := h
    dsimp only [v6, H0_ct21, H0_ct22, chkC, areaC, enc2, go_sem, Option.bind, Option.map, List.append_nil, Nat.beq, List.cons_append, List.nil_append, List.append_eq, List.map_cons, List.map_nil, ite_self, reduceIte]
    simp only [true_and, and_true, imp_self, implies_true, decide_eq_true_eq, decide_eq_false_iff_not, Nat.reduceAdd, Nat.reduceLeDiff, Bool.not_not, reduceCtorEq, false_imp_iff, Bool.not_eq_true', Bool.not_eq_false', Bool.false_eq_true, and_self, forall_const, ne_eq, not_false_eq_true, Nat.reduceEqDiff]
    refine ⟨l, ⟨lsP_self, by omega⟩, fun hc => ?_, fun hc => ⟨l, ⟨lsP_self, ?_, (chkT_0 (by simpa using hc)).2⟩, ?_⟩⟩
    · rw [aF, if_pos (by simpa using hc)] at h
      exact ans_iv (r := ((0, 0), chkT l)) h
    · have := (chkT_0 (c := l) (by simpa using hc)).1; omega
    · rw [aF, if_neg (by simpa using hc)] at h
      exact ans_iv (r := (areaF l, 0)) h
  · exact h.1.elim
theorem Op_ok : OpC.ok Tryz.prog 8 := by
  refine contract Tryz.func8 v8_is H0_ok 200 OpC fun args k h => ⟨args, ?_⟩
  simp only [OpC] at h
  split at h
  · rename_i w l t s
    refine ⟨by simp [leL, le], ?_⟩
    have h : k (.tup [.int .i64 (oF ⟨w, l, t, s⟩).1, .int .i64 (oF ⟨w, l, t, s⟩).2]) [] := h
    dsimp only [v8, H0_ct25, H0_ct26, palC, openC, go_sem, Option.bind, Option.map, List.append_nil, Nat.beq, List.cons_append, List.nil_append, List.append_eq, List.map_cons, List.map_nil, ite_self, reduceIte]
    simp only [true_and, and_true, imp_self, implies_true, decide_eq_true_eq, decide_eq_false_iff_not, Nat.reduceAdd, Nat.reduceLeDiff, Bool.not_not, reduceCtorEq, false_imp_iff, Bool.not_eq_true', Bool.not_eq_false', Bool.false_eq_true, and_self, forall_const, ne_eq, not_false_eq_true, Nat.reduceEqDiff]
    refine ⟨fun hc => ?_, fun hc => ⟨hc, ?_⟩⟩
    · rw [oF, if_pos hc] at h; exact ans_ii h
    · rw [oF, if_neg (by rw [hc]; simp)] at h; exact ans_ii h
  · exact h.1.elim
theorem Fo_ok : FoC.ok Tryz.prog 10 := by
  refine contract Tryz.func10 v10_is H0_ok 200 FoC fun args k h => ⟨args, ?_⟩
  simp only [FoC] at h
  split at h
  · rename_i w l t s pr
    refine ⟨by simp [leL, le], ?_⟩
    have h : k (.tup [.agg (enc2 (fF ⟨w, l, t, s⟩ pr).1), .int .i64 (fF ⟨w, l, t, s⟩ pr).2]) [] := h
    dsimp only [v10, H0_ct25, H0_ct29, H0_ct30, palC, outC, forceC, forC, enc2, go_sem, Option.bind, Option.map, List.append_nil, Nat.beq, List.cons_append, List.nil_append, List.append_eq, List.map_cons, List.map_nil, ite_self, reduceIte]
    simp only [true_and, and_true, imp_self, implies_true, decide_eq_true_eq, decide_eq_false_iff_not, Nat.reduceAdd, Nat.reduceLeDiff, Bool.not_not, reduceCtorEq, false_imp_iff, Bool.not_eq_true', Bool.not_eq_false', Bool.false_eq_true, and_self, forall_const, ne_eq, not_false_eq_true, Nat.reduceEqDiff]
    refine ⟨fun hc => ?_, fun hc => ⟨?_, ?_⟩⟩
    · rw [fF, if_pos hc] at h; exact ans_iv (r := ((0, 0), 2)) h
    · rw [Bool.or_eq_false_iff, outN_f] at hc; exact hc
    · rw [fF, if_neg (by rw [hc]; simp)] at h; exact ans_iv (r := (forceF ⟨w, l, t, s⟩ pr, 0)) h
  · exact h.1.elim
theorem Tu_ok : TuC.ok Tryz.prog 12 := by
  refine contract Tryz.func12 v12_is H0_ok 200 TuC fun args k h => ⟨args, ?_⟩
  simp only [TuC] at h
  split at h
  · rename_i x y len b
    refine ⟨by simp [leL, le], ?_⟩
    have h : k (.tup [.agg (enc2 (tF (x, y) len b).1), .int .i64 (tF (x, y) len b).2]) [] := h
    dsimp only [v12, H0_ct33, H0_ct29, H0_ct35, H0_ct34, H0_ct36, toeC, outC, oneC, sclC, rootC, enc2, go_sem, Option.bind, Option.map, List.append_nil, Nat.beq, List.cons_append, List.nil_append, List.append_eq, List.map_cons, List.map_nil, ite_self, reduceIte]
    simp only [true_and, and_true, imp_self, implies_true, decide_eq_true_eq, decide_eq_false_iff_not, Nat.reduceAdd, Nat.reduceLeDiff, Bool.not_not, reduceCtorEq, false_imp_iff, Bool.not_eq_true', Bool.not_eq_false', Bool.false_eq_true, and_self, forall_const, ne_eq, not_false_eq_true, Nat.reduceEqDiff]
    have h40 : ∀ hc : (toeB (x, y) || outN len 0 3000000 || decide (b < 0) || decide (8 < b)) = false, (100 ≤ x ∧ x ≤ 100000) ∧ (0 ≤ len ∧ len ≤ 3000000) ∧ 0 ≤ b ∧ b ≤ 8 := fun hc => by
      rw [Bool.or_eq_false_iff, Bool.or_eq_false_iff, Bool.or_eq_false_iff, outN_f, decide_eq_false_iff_not, decide_eq_false_iff_not] at hc
      obtain ⟨⟨⟨h1, h2⟩, h3⟩, h4⟩ := hc
      have := toe_rng h1
      dsimp only at this
      omega
    refine ⟨fun hc => ?_, fun hc => ⟨by decide, by decide, by decide, by decide, by decide, ?_⟩⟩
    · rw [tF, if_pos hc] at h; exact ans_iv (r := ((0, 0), 2)) h
    · rw [tF, if_neg (by rw [hc]; simp)] at h
      obtain ⟨⟨h1, h2⟩, ⟨h3, h4⟩, h5, h6⟩ := h40 hc
      have m1 : x * x ≤ 100000 * 100000 := mul_le' h2 h2 (by omega) (by omega)
      have m2 : 0 ≤ x * x := Int.mul_nonneg (by omega) (by omega)
      have e1 : len.tdiv 10000 = len / 10000 := Int.tdiv_eq_ediv_of_nonneg h3
      rw [e1, w6_raw (x := x * x) (by omega) (by omega), w6_raw (x := len / 10000) (by omega) (by omega), w6_raw (x := 1000 + len / 10000) (by omega) (by omega), w6_raw (x := 50 * b) (by omega) (by omega), w6_raw (x := _ + 50 * b) (by omega) (by omega)]
      exact ans_iv (r := rootF (tubS (x, y) len b) 2) h
  · exact h.1.elim
theorem En_ok : EnC.ok Tryz.prog 19 := by
  refine contract Tryz.func19 v19_is H0_ok 300 EnC fun args k h => ?_
  simp only [EnC] at h
  split at h
  · rename_i t z n sz get t' z' n' sz' get' per
    obtain ⟨c, l, ⟨⟨rfl, rfl, hg⟩, ⟨rfl, rfl, hg'⟩, hl, hl'⟩, h⟩ := h
    refine ⟨[.agg [.vs t z c.length 2 (fun k => enc2 (c.getD k default))], .vs t' z' l.length 4 (fun k => encP (l.getD k default)), .int .i64 per], ⟨by simpa [le, leL] using hg, by simpa [le, leL] using hg', by simp [le, leL], trivial⟩, ?_⟩
    have h : k (.tup [.int .i64 (enoF c l per).1, .int .i64 (enoF c l per).2]) [] := h
    dsimp only [v19, H0_ct21, H0_ct29, H0_ct50, chkC, outC, anyPC, anyC, enc2, encP, go_sem, Option.bind, Option.map, List.append_nil, Nat.beq, List.cons_append, List.nil_append, List.append_eq, List.map_cons, List.map_nil, ite_self, reduceIte]
    simp only [true_and, and_true, imp_self, implies_true, decide_eq_true_eq, decide_eq_false_iff_not, Nat.reduceAdd, Nat.reduceLeDiff, Bool.not_not, reduceCtorEq, false_imp_iff, Bool.not_eq_true', Bool.not_eq_false', Bool.false_eq_true, and_self, forall_const, ne_eq, not_false_eq_true, Nat.reduceEqDiff]
    have e40 : decide ((40 : Int) < (l.length : Int)) = decide (40 < l.length) := by rw [decide_eq_decide]; omega
    rw [e40]
    refine ⟨c, ⟨lsP_self, by omega⟩, fun hc => ?_, fun hc => ⟨l, palB, fun _ => ⟨lsP_self, by omega, rfl, rfl, rfl⟩, fun hd => ?_, fun hd => ?_⟩⟩
    · rw [enoF, if_pos hc] at h; exact ans_ii h
    · rw [enoF, if_neg (by rw [hc]; simp), if_pos hd] at h; exact ans_ii h
    · rw [enoF, if_neg (by rw [hc]; simp), if_neg (by rw [hd]; simp)] at h
      rw [Bool.or_eq_false_iff, Bool.or_eq_false_iff, Bool.not_eq_false', decide_eq_true_eq, outN_f] at hd
      obtain ⟨⟨hd1, hd2⟩, hd3⟩ := hd
      have hv := any_f hd2
      obtain ⟨hcl, hct⟩ := chkT_0 hd1
      have h24 : l.length ≤ 40 := by
        rw [Bool.or_eq_false_iff, decide_eq_false_iff_not, decide_eq_false_iff_not] at hc; omega
      refine Loop.keep [1, 0, 0, 2, 0, 25, 0] Nat (fun i => [(9, .int .i64 (sumO (l.take i))), (35, .int .i64 i)]) (fun _ => []) [] (fun i => i ≤ l.length) (fun i => l.length - i) ?_ ?_
      · refine ⟨0, Nat.zero_le _, ?_⟩
        dsimp only [go_sem, Option.bind, Option.map, List.append_nil, Nat.beq, List.cons_append, List.nil_append, List.append_eq, List.map_cons, List.map_nil, ite_self, reduceIte]
        simp only [leS_mk, leL_cons, leL_nil, le_junk, le_int, le_bool, le_nil, leLL_nil, leLL_cons, leH_cons, leH_nil, leH1_box, leH1_own, leH1_gone, le_vs, le_agg, le_tup, le_ptr, le_own, le_xp, le_fn, le_opt, le_val, le_elem, le_nil_own, le_nil_vs, leH_ghost, leL_chunk, leXL_id, bnd_int, bnd_bool, bnd_val, bnd_nil, bnd_junk, bnd_vs, bnd_xp, bnd_agg, bnd_tup, bnd_ptr, bnd_own, bnd_elem, bnd_fn, bnd_iface, bnd_opt, bndL_nil, bndL_cons, lenH_cons, lenH_nil, imp_self, implies_true, true_and, and_true] <;> simp [sumO]
      · rintro i hi
        dsimp only [H0_ct26, H0_ct22, H0_ct51, openC, areaC, cmpC, enc2, encP, Int.toNat_natCast, go_sem, Option.bind, Option.map, List.append_nil, Nat.beq, List.cons_append, List.nil_append, List.append_eq, List.map_cons, List.map_nil, ite_self, reduceIte]
        simp only [true_and, and_true, imp_self, implies_true, decide_eq_true_eq, decide_eq_false_iff_not, Nat.reduceAdd, Nat.reduceLeDiff, Bool.not_not, reduceCtorEq, false_imp_iff, Bool.not_eq_true', Bool.not_eq_false', Bool.false_eq_true, and_self, forall_const, ne_eq, not_false_eq_true, Nat.reduceEqDiff, plt_eta]
        refine ⟨fun hlt => ?_, fun hge => ?_⟩
        · have hi' : i < l.length := by omega
          have ho := open_rng (hv _ (getD_mem hi'))
          have hs := sumO_rng (l := l) hi hv
          refine ⟨⟨by omega, hlt⟩, hv _ (getD_mem hi'), i + 1, by omega, by omega, ?_⟩
          rw [w6_raw (x := sumO _ + _) (by omega) (by omega)]
          simp only [w_succ (i := i) (n := l.length) (by omega) (by omega), sumO_take hi', leS_mk, leL_cons, leL_nil, le_junk, le_int, le_bool, le_nil, leLL_nil, leLL_cons, leH_cons, leH_nil, leH1_box, leH1_own, leH1_gone, le_vs, le_agg, le_tup, le_ptr, le_own, le_xp, le_fn, le_opt, le_val, le_elem, le_nil_own, le_nil_vs, leH_ghost, leL_chunk, leXL_id, bnd_int, bnd_bool, bnd_val, bnd_nil, bnd_junk, bnd_vs, bnd_xp, bnd_agg, bnd_tup, bnd_ptr, bnd_own, bnd_elem, bnd_fn, bnd_iface, bnd_opt, bndL_nil, bndL_cons, lenH_cons, lenH_nil, imp_self, implies_true, true_and, and_true] <;> simp
        · obtain rfl : i = l.length := by omega
          rw [take_full (Nat.le_refl _)]
          have ha := area_all hct (by omega)
          refine ⟨c, ⟨lsP_self, by omega, hct⟩, ⟨ha.1, ha.2, sumO_all hv (by omega), hd3⟩, ?_⟩
          exact ans_ii h
  · exact h.1.elim
theorem Ch_ok : ChC.ok Tryz.prog 20 := by
  refine contract Tryz.func20 v20_is H0_ok 300 ChC fun args k h => ?_
  simp only [ChC] at h
  split at h
  · rename_i t z n sz get t' z' n' sz' get' per pr most
    obtain ⟨c, l, ⟨⟨rfl, rfl, hg⟩, ⟨rfl, rfl, hg'⟩, hl, hl'⟩, h⟩ := h
    refine ⟨[.agg [.vs t z c.length 2 (fun k => enc2 (c.getD k default))], .vs t' z' l.length 4 (fun k => encP (l.getD k default)), .agg [.int .i64 per, .int .i64 pr, .int .i64 most]], ⟨by simpa [le, leL] using hg, by simpa [le, leL] using hg', by simp [le, leL], trivial⟩, ?_⟩
    have h : k (.tup [vsI (choF c l ⟨per, pr, most⟩).1, .int .i64 (choF c l ⟨per, pr, most⟩).2]) [] := h
    dsimp only [v20, H0_ct21, H0_ct44, H0_ct22, H0_ct46, chkC, shopC, areaC, chooseC, vsI, enc2, encP, go_sem, Option.bind, Option.map, List.append_nil, Nat.beq, List.cons_append, List.nil_append, List.append_eq, List.map_cons, List.map_nil, ite_self, reduceIte]
    simp only [true_and, and_true, imp_self, implies_true, decide_eq_true_eq, decide_eq_false_iff_not, Nat.reduceAdd, Nat.reduceLeDiff, Bool.not_not, reduceCtorEq, false_imp_iff, Bool.not_eq_true', Bool.not_eq_false', Bool.false_eq_true, and_self, forall_const, ne_eq, not_false_eq_true, Nat.reduceEqDiff]
    have e40 : decide ((40 : Int) < (l.length : Int)) = decide (40 < l.length) := by rw [decide_eq_decide]; omega
    rw [e40]
    refine ⟨c, ⟨lsP_self, by omega⟩, fun hc => ?_, fun hc => ⟨l, fun _ => ⟨lsP_self, by omega⟩, fun hd => ?_, fun hd => ?_⟩⟩
    · rw [choF, if_pos hc] at h; exact ans_nilI h
    · rw [choF, if_neg (by rw [hc]; simp), if_pos hd] at h; exact ans_nilI h
    · rw [choF, if_neg (by rw [hc]; simp), if_neg (by rw [hd]; simp)] at h
      rw [Bool.or_eq_false_iff, Bool.or_eq_false_iff, Bool.not_eq_false', decide_eq_true_eq] at hd
      obtain ⟨hd1, hd2, hd3⟩ := hd
      have hv := any_f hd2
      obtain ⟨hcl, hct⟩ := chkT_0 hd1
      have h24 : l.length ≤ 40 := by
        rw [Bool.or_eq_false_iff, decide_eq_false_iff_not, decide_eq_false_iff_not] at hc; omega
      have ha := area_all hct (by omega)
      refine ⟨c, ⟨lsP_self, by omega, hct⟩, l, ⟨lsP_self, by omega, hv, hd3, ha⟩, fun hn => ?_, fun hn => ?_⟩
      · rw [List.isEmpty_eq_false_iff] at hn
        rw [if_pos hn] at h
        exact ans_chI h
      · rw [List.isEmpty_iff] at hn
        rw [if_neg (fun hh => hh hn)] at h
        exact ans_nilI h
  · exact h.1.elim
end Go.Proofs.YtngccjllkgpjmaaGreat

/- Intervals, walked: the reference's functions without fractions. -/
/- Intervals, walked: the reference's functions without fractions. -/
set_option linter.all false
namespace Go.Proofs.YtngccjllkgpjmaaGreat
open Go Go.Vx
set_option maxRecDepth 100000
set_option maxHeartbeats 4000000

def v86 : VF := { ntmps := 58, res := [.tmp 2], body :=
 (.seq (.region [u1 2 .mov [.cn (.int .i64 0)]])
 (.seq (.seq (.region [u1 3 .mov [.cn (.int .i64 0)]])
 (.block 0 (.loop (.seq (.seq (.region [u1 5 .mov [.tm 3],
 u1 6 .mov [.tm 0],
 u1 7 .len [.tm 6],
 u1 8 (.cmp .lss) [.tm 5, .tm 7]])
 (.cond (.tm 8) .skip
  (.exit 0)))
 (.seq (.block 1 (.seq (.region [u1 11 .mov [.tm 0],
 u1 12 .mov [.tm 3],
 u1 13 (.idxAddr 2) [.tm 11, .tm 12],
 u1 14 (.fieldAddr 0) [.tm 13],
 u1 15 (.load false 1) [.tm 14],
 u1 16 (.cmp .lss) [.tm 15, .cn (.int .i64 (-4611686018427387904))],
 u1 17 .mov [.tm 16],
 u2 18 17 false .mov [.tm 0],
 u2 19 17 false .mov [.tm 3],
 u2 20 17 false (.idxAddr 2) [.tm 18, .tm 19],
 u2 21 17 false (.fieldAddr 0) [.tm 20],
 u2 22 17 false (.load false 1) [.tm 21],
 u2 23 17 false (.cmp .gtr) [.tm 22, .cn (.int .i64 4611686018427387904)],
 u1 24 .or [.tm 17, .tm 23],
 u1 25 .mov [.tm 24],
 u2 26 25 false .mov [.tm 0],
 u2 27 25 false .mov [.tm 3],
 u2 28 25 false (.idxAddr 2) [.tm 26, .tm 27],
 u2 29 25 false (.fieldAddr 1) [.tm 28],
 u2 30 25 false (.load false 1) [.tm 29],
 u2 31 25 false (.cmp .lss) [.tm 30, .cn (.int .i64 (-4611686018427387904))],
 u1 32 .or [.tm 25, .tm 31],
 u1 33 .mov [.tm 32],
 u2 34 33 false .mov [.tm 0],
 u2 35 33 false .mov [.tm 3],
 u2 36 33 false (.idxAddr 2) [.tm 34, .tm 35],
 u2 37 33 false (.fieldAddr 1) [.tm 36],
 u2 38 33 false (.load false 1) [.tm 37],
 u2 39 33 false (.cmp .gtr) [.tm 38, .cn (.int .i64 4611686018427387904)],
 u1 40 .or [.tm 33, .tm 39]])
 (.cond (.tm 40) (.seq (.region [u1 2 .mov [.cn (.int .i64 7)]])
 .ret)
  .skip)))
 (.region [u1 9 .mov [.tm 3],
 u1 10 (.ari .add) [.tm 9, .cn (.int .i64 1)],
 u1 3 .mov [.tm 10]]))))))
 (.seq (.seq (.region [u1 4 .mov [.cn (.int .i64 0)]])
 (.block 2 (.loop (.seq (.seq (.region [u1 41 .mov [.tm 4],
 u1 42 .mov [.tm 0],
 u1 43 .len [.tm 42],
 u1 44 (.cmp .lss) [.tm 41, .tm 43]])
 (.cond (.tm 44) .skip
  (.exit 2)))
 (.seq (.block 3 (.seq (.draw [] [w1 47 .mov [.tm 0],
 w1 48 .mov [.tm 4],
 w1 49 (.idxAddr 2) [.tm 47, .tm 48],
 w1 50 (.fieldAddr 0) [.tm 49],
 w1 51 (.load false 1) [.tm 50],
 w1 52 .mov [.tm 0],
 w1 53 .mov [.tm 4],
 w1 54 (.idxAddr 2) [.tm 52, .tm 53],
 w1 55 (.fieldAddr 1) [.tm 54],
 w1 56 (.load false 1) [.tm 55],
 w1 57 (.cmp .gtr) [.tm 51, .tm 56]])
 (.cond (.tm 57) (.seq (.region [u1 2 .mov [.cn (.int .i64 2)]])
 .ret)
  .skip)))
 (.region [u1 45 .mov [.tm 4],
 u1 46 (.ari .add) [.tm 45, .cn (.int .i64 1)],
 u1 4 .mov [.tm 46]]))))))
 (.seq (.region [u1 2 .mov [.cn (.int .i64 0)]])
 .ret)))) }
theorem v86_is : vfunc Tryz.prog Tryz.f86 = some v86 := by kernel_rfl
def v62 : VF := { ntmps := 6, res := [.tmp 2], body :=
 (.seq (.region [u1 1 .box [.tm 0],
 u1 2 .mov [.cn (.int .i64 0)]])
 (.seq (.region [u1 3 (.load true 2) [.tm 1],
 u1 4 (.buildSlice 2 1 [(.int .i64 0), (.int .i64 0)] [(0, 2)]) [.tm 3],
 u1 5 (.call 86) [.tm 4],
 u1 2 .mov [.tm 5]])
 .ret)) }
theorem v62_is : vfunc Tryz.prog Tryz.f62 = some v62 := by kernel_rfl


theorem num_or {a b : Int} : (decide (a < -4611686018427387904) || decide (4611686018427387904 < a) || decide (b < -4611686018427387904) || decide (4611686018427387904 < b)) = !(numOk a && numOk b) := by
  rw [Bool.eq_iff_iff]
  simp only [numOk, Bool.or_eq_true, decide_eq_true_eq, Bool.not_eq_true', Bool.and_eq_false_iff, decide_eq_false_iff_not]
  omega

theorem rbad_ok : ivlC.ok Tryz.prog 86 := by
  refine contract Tryz.func86 v86_is P1_ok 400 ivlC fun args k h => ?_
  simp only [ivlC] at h
  split at h
  · rename_i tt z n sz get
    obtain ⟨l, ⟨⟨rfl, rfl, hg⟩, hmax⟩, h⟩ := h
    refine ⟨[.vs tt z l.length 2 (fun k => enc2 (l.getD k default))], by simpa [leL, le] using hg, ?_⟩
    (try dsimp only [v86, enc2, go_sem, Option.bind, Option.map, List.append_nil, Nat.beq, List.cons_append, List.nil_append, List.append_eq, List.map_cons, List.map_nil, ite_self, reduceIte])
    (try simp only [true_and, and_true, imp_self, implies_true, decide_eq_true_eq, decide_eq_false_iff_not, Nat.reduceAdd, Nat.reduceLeDiff, Bool.not_not, reduceCtorEq, false_imp_iff, Bool.not_eq_true', Bool.not_eq_false', Bool.false_eq_true, and_self, forall_const, ne_eq, not_false_eq_true, Nat.reduceEqDiff])
    refine Loop.keep [0, 2] Nat (fun i => [(3, .int .i64 i)]) (fun _ => []) [] (fun i => i ≤ l.length ∧ ∀ j, j < i → (numOk (l.getD j default).1 && numOk (l.getD j default).2) = true) (fun i => l.length - i) ?_ ?_
    · refine ⟨0, ⟨Nat.zero_le _, fun j h => by omega⟩, ?_⟩
      (try dsimp only [go_sem, Option.bind, Option.map, List.append_nil, Nat.beq, List.cons_append, List.nil_append, List.append_eq, List.map_cons, List.map_nil, ite_self, reduceIte])
      simp only [leS_mk, leL_cons, leL_nil, le_junk, le_int, le_bool, le_nil, leLL_nil, leLL_cons, leH_cons, leH_nil, leH1_box, leH1_own, leH1_gone, le_vs, le_agg, le_tup, le_ptr, le_own, le_xp, le_fn, le_opt, le_val, le_elem, le_nil_own, le_nil_vs, leH_ghost, leL_chunk, leXL_id, bnd_int, bnd_bool, bnd_val, bnd_nil, bnd_junk, bnd_vs, bnd_xp, bnd_agg, bnd_tup, bnd_ptr, bnd_own, bnd_elem, bnd_fn, bnd_iface, bnd_opt, bndL_nil, bndL_cons, lenH_cons, lenH_nil, imp_self, implies_true, true_and, and_true]
      simp
    · rintro i ⟨hi, ha⟩
      (try dsimp only [enc2, Int.toNat_natCast, go_sem, Option.bind, Option.map, List.append_nil, Nat.beq, List.cons_append, List.nil_append, List.append_eq, List.map_cons, List.map_nil, ite_self, reduceIte])
      (try simp only [true_and, and_true, imp_self, implies_true, decide_eq_true_eq, decide_eq_false_iff_not, Nat.reduceAdd, Nat.reduceLeDiff, Bool.not_not, reduceCtorEq, false_imp_iff, Bool.not_eq_true', Bool.not_eq_false', Bool.false_eq_true, and_self, forall_const, ne_eq, not_false_eq_true, Nat.reduceEqDiff])
      simp only [num_or]
      refine ⟨fun hlt => ⟨⟨by omega, hlt⟩, fun _ => ⟨by omega, hlt⟩, fun _ => ⟨by omega, hlt⟩, fun _ => ⟨by omega, hlt⟩, fun hb => ans_int ?_, fun hb => ?_⟩, fun hge => ?_⟩
      · have e := ivE_bad (l := l) (i := i) (by omega) (by rw [Bool.not_eq_true'] at hb; exact hb)
        rw [e] at h; exact h
      · refine ⟨i + 1, ⟨by omega, fun j hj => ?_⟩, by omega, ?_⟩
        · rcases Nat.lt_or_ge j i with h' | h'
          · exact ha j h'
          · obtain rfl : j = i := by omega
            simpa using hb
        · have hw := w_succ (i := i) (n := l.length) (by omega) (by omega)
          simp only [hw, leS_mk, leL_cons, leL_nil, le_junk, le_int, le_bool, le_nil, leLL_nil, leLL_cons, leH_cons, leH_nil, leH1_box, leH1_own, leH1_gone, le_vs, le_agg, le_tup, le_ptr, le_own, le_xp, le_fn, le_opt, le_val, le_elem, le_nil_own, le_nil_vs, leH_ghost, leL_chunk, leXL_id, bnd_int, bnd_bool, bnd_val, bnd_nil, bnd_junk, bnd_vs, bnd_xp, bnd_agg, bnd_tup, bnd_ptr, bnd_own, bnd_elem, bnd_fn, bnd_iface, bnd_opt, bndL_nil, bndL_cons, lenH_cons, lenH_nil, imp_self, implies_true, true_and, and_true] <;> simp
      · obtain rfl : i = l.length := by omega
        refine Loop.keep [0, 3] Nat (fun i => [(4, .int .i64 i)]) (fun _ => []) [] (fun i => i ≤ l.length ∧ ∀ j, j < i → (l.getD j default).1 ≤ (l.getD j default).2) (fun i => l.length - i) ?_ ?_
        · refine ⟨0, ⟨Nat.zero_le _, fun j h => by omega⟩, ?_⟩
          (try dsimp only [go_sem, Option.bind, Option.map, List.append_nil, Nat.beq, List.cons_append, List.nil_append, List.append_eq, List.map_cons, List.map_nil, ite_self, reduceIte])
          simp only [leS_mk, leL_cons, leL_nil, le_junk, le_int, le_bool, le_nil, leLL_nil, leLL_cons, leH_cons, leH_nil, leH1_box, leH1_own, leH1_gone, le_vs, le_agg, le_tup, le_ptr, le_own, le_xp, le_fn, le_opt, le_val, le_elem, le_nil_own, le_nil_vs, leH_ghost, leL_chunk, leXL_id, bnd_int, bnd_bool, bnd_val, bnd_nil, bnd_junk, bnd_vs, bnd_xp, bnd_agg, bnd_tup, bnd_ptr, bnd_own, bnd_elem, bnd_fn, bnd_iface, bnd_opt, bndL_nil, bndL_cons, lenH_cons, lenH_nil, imp_self, implies_true, true_and, and_true]
          simp
        · rintro i ⟨hi, hc⟩
          (try dsimp only [enc2, Int.toNat_natCast, go_sem, Option.bind, Option.map, List.append_nil, Nat.beq, List.cons_append, List.nil_append, List.append_eq, List.map_cons, List.map_nil, ite_self, reduceIte])
          (try simp only [true_and, and_true, imp_self, implies_true, decide_eq_true_eq, decide_eq_false_iff_not, Nat.reduceAdd, Nat.reduceLeDiff, Bool.not_not, reduceCtorEq, false_imp_iff, Bool.not_eq_true', Bool.not_eq_false', Bool.false_eq_true, and_self, forall_const, ne_eq, not_false_eq_true, Nat.reduceEqDiff])
          refine ⟨fun hlt => ⟨⟨by omega, hlt⟩, ⟨by omega, hlt⟩, fun hb => ans_int ?_, fun hb => ?_⟩, fun hge => ?_⟩
          · have e := ivE_2 ha (i := i) (by omega) (by omega)
            rw [e] at h; exact h
          · refine ⟨i + 1, ⟨by omega, fun j hj => ?_⟩, by omega, ?_⟩
            · rcases Nat.lt_or_ge j i with h' | h'
              · exact hc j h'
              · obtain rfl : j = i := by omega
                omega
            · have hw := w_succ (i := i) (n := l.length) (by omega) (by omega)
              simp only [hw, leS_mk, leL_cons, leL_nil, le_junk, le_int, le_bool, le_nil, leLL_nil, leLL_cons, leH_cons, leH_nil, leH1_box, leH1_own, leH1_gone, le_vs, le_agg, le_tup, le_ptr, le_own, le_xp, le_fn, le_opt, le_val, le_elem, le_nil_own, le_nil_vs, leH_ghost, leL_chunk, leXL_id, bnd_int, bnd_bool, bnd_val, bnd_nil, bnd_junk, bnd_vs, bnd_xp, bnd_agg, bnd_tup, bnd_ptr, bnd_own, bnd_elem, bnd_fn, bnd_iface, bnd_opt, bndL_nil, bndL_cons, lenH_cons, lenH_nil, imp_self, implies_true, true_and, and_true] <;> simp
          · obtain rfl : i = l.length := by omega
            rw [ivE_0 ha hc] at h
            exact ans_int h
  · exact h.1.elim

def Q0 : Env := { ct := fun n => match n with | 86 => some ivlC | _ => none, fn := fun _ => none, meth := fun _ _ => none }
theorem Q0_ct86 : Q0.ct 86 = some ivlC := rfl
theorem Q0_ok : EnvOk Tryz.prog Q0 := by
  refine ⟨fun f c h => ?_, fun f vf h => ?_, (fun _ _ _ h => by cases h), by kernel_rfl⟩
  · simp only [Q0] at h
    split at h
    · cases h; exact ⟨rbad_ok, Tryz.f86, Tryz.func86, by kernel_rfl, by kernel_rfl⟩
    · cases h
  · cases h


theorem rcheck_ok : iv1C.ok Tryz.prog 62 := by
  refine contract Tryz.func62 v62_is Q0_ok 100 iv1C fun args k h => ⟨args, ?_⟩
  simp only [iv1C] at h
  split at h
  · rename_i x y
    refine ⟨by simp [leL, le], ?_⟩
    (try dsimp only [v62, Q0_ct86, ivlC, go_sem, Option.bind, Option.map, List.append_nil, Nat.beq, List.cons_append, List.nil_append, List.append_eq, List.map_cons, List.map_nil, ite_self, reduceIte])
    (try simp only [true_and, and_true, imp_self, implies_true, decide_eq_true_eq, decide_eq_false_iff_not, Nat.reduceAdd, Nat.reduceLeDiff, Bool.not_not, reduceCtorEq, false_imp_iff, Bool.not_eq_true', Bool.not_eq_false', Bool.false_eq_true, and_self, forall_const, ne_eq, not_false_eq_true, Nat.reduceEqDiff])
    refine ⟨by decide, [(x, y)], ⟨⟨rfl, rfl, fun k hk => ?_⟩, by simp⟩, ans_int h⟩
    match k, hk with
    | 0, _ => exact leXL_self _
  · exact h.1.elim

end Go.Proofs.YtngccjllkgpjmaaGreat

/- Intervals: the laws without a reference, in plain Lean. -/
/- Intervals: the laws without a reference, in plain Lean. -/
set_option linter.all false
namespace Go.Proofs.YtngccjllkgpjmaaGreat
open Go Go.Vx

/-! ### Products -/

theorem mul_btw {a1 a2 x : Int} (y : Int) (h1 : a1 ≤ x) (h2 : x ≤ a2) : min (a1 * y) (a2 * y) ≤ x * y ∧ x * y ≤ max (a1 * y) (a2 * y) := by
  rcases Int.le_total 0 y with hy | hy
  · have := Int.mul_le_mul_of_nonneg_right h1 hy
    have := Int.mul_le_mul_of_nonneg_right h2 hy
    omega
  · have := Int.mul_le_mul_of_nonpos_right h1 hy
    have := Int.mul_le_mul_of_nonpos_right h2 hy
    omega
def lo4 (a b c d : Int) : Int := min (min a b) (min c d)
def hi4 (a b c d : Int) : Int := max (max a b) (max c d)
theorem mul_box {a1 a2 b1 b2 x y : Int} (h1 : a1 ≤ x) (h2 : x ≤ a2) (h3 : b1 ≤ y) (h4 : y ≤ b2) :
    lo4 (a1 * b1) (a1 * b2) (a2 * b1) (a2 * b2) ≤ x * y ∧ x * y ≤ hi4 (a1 * b1) (a1 * b2) (a2 * b1) (a2 * b2) := by
  have e1 := mul_btw y h1 h2
  have e2 := mul_btw a1 h3 h4
  have e3 := mul_btw a2 h3 h4
  rw [Int.mul_comm b1 a1, Int.mul_comm b2 a1, Int.mul_comm y a1] at e2
  rw [Int.mul_comm b1 a2, Int.mul_comm b2 a2, Int.mul_comm y a2] at e3
  unfold lo4 hi4
  omega
theorem mul_bnd {a b M N : Int} (h1 : -M ≤ a ∧ a ≤ M) (h2 : -N ≤ b ∧ b ≤ N) : -(M * N) ≤ a * b ∧ a * b ≤ M * N := by
  have e := mul_box h1.1 h1.2 h2.1 h2.2
  simp only [lo4, hi4, Int.neg_mul, Int.mul_neg, Int.neg_neg] at e
  have : 0 ≤ M * N := Int.mul_nonneg (by omega) (by omega)
  omega

theorem lowI3 (a b c d : Int) : lowI a [b, c, d] = lo4 a b c d := by
  simp only [lowI, List.foldl, lo4]; split <;> split <;> split <;> omega
theorem highI3 (a b c d : Int) : highI a [b, c, d] = hi4 a b c d := by
  simp only [highI, List.foldl, hi4]; split <;> split <;> split <;> omega
theorem rndB_in {t : Int} (h : -4611686018427387904 ≤ t ∧ t ≤ 4611686018427387904) : rndB t = (t, true) := by rw [rndB, if_pos h]
theorem spanR_in {s t : Int} : spanR (s, true) (t, true) = ((s, t), 0) := rfl
/-! ### Quotients -/

theorem fl_mono {x y x' y' : Int} (hy : 0 < y) (hy' : 0 < y') (h : x * y' ≤ x' * y) : x / y ≤ x' / y' := by
  rw [Int.le_ediv_iff_mul_le hy']
  have e := Int.ediv_mul_le x (show y ≠ 0 by omega)
  have e2 := Int.mul_le_mul_of_nonneg_right e (show 0 ≤ y' by omega)
  refine Int.le_of_mul_le_mul_right ?_ hy
  have e3 : x / y * y * y' = x / y * y' * y := by rw [Int.mul_assoc, Int.mul_comm y, ← Int.mul_assoc]
  omega
def lowQ (a b : Iv) : Int := a.1 / (if a.1 < 0 then b.1 else b.2)
def highQ (a b : Iv) : Int := -((-a.2) / (if a.2 < 0 then b.2 else b.1))
theorem lowQ_at {a b : Iv} : lowQ a b = a.1 / b.1 ∨ lowQ a b = a.1 / b.2 := by
  unfold lowQ; split
  · exact Or.inl rfl
  · exact Or.inr rfl
theorem highQ_at {a b : Iv} : highQ a b = -((-a.2) / b.1) ∨ highQ a b = -((-a.2) / b.2) := by
  unfold highQ; split
  · exact Or.inr rfl
  · exact Or.inl rfl
theorem quo_absM {x y M : Int} (hx : -M ≤ x ∧ x ≤ M) (hy : 0 < y) : -M ≤ x / y ∧ x / y ≤ M := by
  have h := Int.mul_le_mul_of_nonneg_left (show 1 ≤ y by omega) (show 0 ≤ M by omega)
  have e1 := fl_mono (x := -M) (y := 1) (x' := x) (y' := y) (by omega) hy (by rw [Int.neg_mul]; omega)
  have e2 := fl_mono (x := x) (y := y) (x' := M) (y' := 1) hy (by omega) (by omega)
  rw [Int.ediv_one] at e1 e2
  exact ⟨e1, e2⟩
theorem quo_abs {x y : Int} (hx : -2147483648 ≤ x ∧ x ≤ 2147483648) (hy : 0 < y) : -2147483648 ≤ x / y ∧ x / y ≤ 2147483648 := by
  have e1 := fl_mono (x := -2147483648) (y := 1) (x' := x) (y' := y) (by omega) hy (by omega)
  have e2 := fl_mono (x := x) (y := y) (x' := 2147483648) (y' := 1) hy (by omega) (by omega)
  rw [Int.ediv_one] at e1 e2
  exact ⟨e1, e2⟩
theorem div_pos {a b : Iv} (ha : -2147483648 ≤ a.1 ∧ a.1 ≤ a.2 ∧ a.2 ≤ 2147483648) (hb : 0 < b.1) (hb' : b.1 ≤ b.2) : divPos a b = ((lowQ a b, highQ a b), 0) := by
  have q1 : -2147483648 ≤ lowQ a b ∧ lowQ a b ≤ 2147483648 := by
    rcases lowQ_at (a := a) (b := b) with e | e <;> rw [e]
    · exact quo_abs (by omega) (by omega)
    · exact quo_abs (by omega) (by omega)
  have q2 : -2147483648 ≤ highQ a b ∧ highQ a b ≤ 2147483648 := by
    rcases highQ_at (a := a) (b := b) with e | e <;> rw [e]
    · have := quo_abs (x := -a.2) (y := b.1) (by omega) (by omega); omega
    · have := quo_abs (x := -a.2) (y := b.2) (by omega) (by omega); omega
  have e1 : rndF false a.1 (if a.1 < 0 then b.1 else b.2) = rndB (lowQ a b) := rfl
  have e2 : rndF true a.2 (if a.2 < 0 then b.2 else b.1) = rndB (highQ a b) := rfl
  rw [divPos, e1, e2, rndB_in (by omega), rndB_in (by omega), spanR_in]

def neg (a : Iv) : Iv := (-a.2, -a.1)
end Go.Proofs.YtngccjllkgpjmaaGreat

/- Intervals, walked: the reference's fractions. -/
/- Intervals, walked: the reference's fractions. -/
set_option linter.all false
namespace Go.Proofs.YtngccjllkgpjmaaGreat
open Go Go.Vx
set_option maxRecDepth 100000
set_option maxHeartbeats 4000000

def v65 : VF := { ntmps := 16, res := [.cell 2 true 3], body :=
 (.seq (.region [u1 2 (.alloc [(.bool false), .nil, .nil]) []])
 (.seq (.seq (.region [u1 3 .mov [.tm 0],
 u1 4 (.cmp .lss) [.tm 3, .cn (.int .i64 0)]])
 (.cond (.tm 4) (.seq (.region [u1 5 .mov [.tm 0],
 u1 6 .neg [.tm 5],
 u1 7 (.conv .u64) [.tm 6],
 u1 8 (.call 68) [.tm 7],
 u1 9 (.call 68) [.cn (.int .u64 1)],
 u1 10 (.build [(.bool false), .nil, .nil] [(0, 1), (1, 1), (2, 1)]) [.cn (.bool true), .tm 8, .tm 9],
 u0 (.store 3) [.tm 2, .tm 10]])
 .ret)
  .skip))
 (.seq (.region [u1 11 .mov [.tm 0],
 u1 12 (.conv .u64) [.tm 11],
 u1 13 (.call 68) [.tm 12],
 u1 14 (.call 68) [.cn (.int .u64 1)],
 u1 15 (.build [(.bool false), .nil, .nil] [(1, 1), (2, 1)]) [.tm 13, .tm 14],
 u0 (.store 3) [.tm 2, .tm 15]])
 .ret))) }
theorem v65_is : vfunc Tryz.prog Tryz.f65 = some v65 := by kernel_rfl
def v63 : VF := { ntmps := 16, res := [.cell 4 true 3], body :=
 (.seq (.region [u1 4 (.alloc [(.bool false), .nil, .nil]) []])
 (.seq (.region [u1 8 .mov [.tm 0],
 u1 9 (.call 65) [.tm 8],
 u1 10 .mov [.tm 1],
 u1 11 (.call 65) [.tm 10],
 u1 12 (.call 87) [.tm 9, .tm 11],
 u1 7 .mov [.tm 12],
 u1 13 (.ext 0) [.tm 7],
 u1 14 (.ext 1) [.tm 7],
 u1 5 (.alloc [(.bool false), .nil, .nil]) [],
 u0 (.store 3) [.tm 5, .tm 13],
 u1 6 .mov [.tm 14]])
 (.seq (.region [u1 15 (.load true 3) [.tm 5],
 u0 (.store 3) [.tm 4, .tm 15]])
 .ret))) }
theorem v63_is : vfunc Tryz.prog Tryz.f63 = some v63 := by kernel_rfl
def v92 : VF := { ntmps := 32, res := [.tmp 2, .tmp 3], body :=
 (.seq (.region [u1 1 .box [.tm 0],
 u1 2 .mov [.cn (.int .i64 0)],
 u1 3 .mov [.cn (.bool false)]])
 (.seq (.region [u1 10 (.load true 3) [.tm 1],
 u1 11 (.call 108) [.tm 10],
 u1 9 .mov [.tm 11],
 u1 12 (.ext 0) [.tm 9],
 u1 13 (.ext 1) [.tm 9],
 u1 14 (.ext 2) [.tm 9],
 u1 4 .mov [.tm 12],
 u1 5 .mov [.tm 13],
 u1 6 .mov [.tm 14]])
 (.seq (.region [u1 16 .mov [.tm 5],
 u1 17 (.call 70) [.tm 16],
 u1 15 .mov [.tm 17],
 u1 18 (.ext 0) [.tm 15],
 u1 19 (.ext 1) [.tm 15],
 u1 7 .mov [.tm 18],
 u1 8 .mov [.tm 19]])
 (.seq (.seq (.region [u1 20 .mov [.tm 8],
 u1 21 (.cmp .neq) [.tm 20, .cn (.int .i64 0)],
 u1 22 .mov [.tm 21],
 u2 23 22 false .mov [.tm 7],
 u2 24 22 false (.cmp .gtr) [.tm 23, .cn (.int .u64 4611686018427387904)],
 u1 25 .or [.tm 22, .tm 24]])
 (.cond (.tm 25) (.seq (.region [u1 2 .mov [.cn (.int .i64 0)],
 u1 3 .mov [.cn (.bool false)]])
 .ret)
  .skip))
 (.seq (.seq (.region [u1 26 .mov [.tm 4]])
 (.cond (.tm 26) (.seq (.region [u1 27 .mov [.tm 7],
 u1 28 (.conv .i64) [.tm 27],
 u1 29 .neg [.tm 28],
 u1 2 .mov [.tm 29],
 u1 3 .mov [.cn (.bool true)]])
 .ret)
  .skip))
 (.seq (.region [u1 30 .mov [.tm 7],
 u1 31 (.conv .i64) [.tm 30],
 u1 2 .mov [.tm 31],
 u1 3 .mov [.cn (.bool true)]])
 .ret)))))) }
theorem v92_is : vfunc Tryz.prog Tryz.f92 = some v92 := by kernel_rfl
def v93 : VF := { ntmps := 27, res := [.tmp 2, .tmp 3], body :=
 (.seq (.region [u1 1 .box [.tm 0],
 u1 2 .mov [.cn (.int .i64 0)],
 u1 3 .mov [.cn (.bool false)]])
 (.seq (.region [u1 7 (.fieldAddr 0) [.tm 1],
 u1 8 (.load false 1) [.tm 7],
 u1 9 .not [.tm 8],
 u1 10 .mov [.tm 9],
 u2 11 10 true (.fieldAddr 1) [.tm 1],
 u2 12 10 true (.load false 1) [.tm 11],
 u2 13 10 true .len [.tm 12],
 u2 14 10 true (.cmp .gtr) [.tm 13, .cn (.int .i64 0)],
 u1 15 .and [.tm 10, .tm 14],
 u1 16 (.fieldAddr 1) [.tm 1],
 u1 17 (.load false 1) [.tm 16],
 u1 18 (.fieldAddr 2) [.tm 1],
 u1 19 (.load false 1) [.tm 18],
 u1 20 (.build [(.bool false), .nil, .nil] [(0, 1), (1, 1), (2, 1)]) [.tm 15, .tm 17, .tm 19],
 u1 21 (.call 92) [.tm 20],
 u1 6 .mov [.tm 21],
 u1 22 (.ext 0) [.tm 6],
 u1 23 (.ext 1) [.tm 6],
 u1 4 .mov [.tm 22],
 u1 5 .mov [.tm 23]])
 (.seq (.region [u1 24 .mov [.tm 4],
 u1 25 .neg [.tm 24],
 u1 26 .mov [.tm 5],
 u1 2 .mov [.tm 25],
 u1 3 .mov [.tm 26]])
 .ret))) }
theorem v93_is : vfunc Tryz.prog Tryz.f93 = some v93 := by kernel_rfl
def v66 : VF := { ntmps := 75, res := [.cell 2 true 2, .tmp 3], body :=
 (.seq (.region [u1 2 (.alloc [(.int .i64 0), (.int .i64 0)]) [],
 u1 3 .mov [.cn (.int .i64 0)]])
 (.seq (.draw [(4, .box [(.bool false), .nil, .nil]), (5, .box [(.bool false), .nil, .nil])] [w1 13 .mov [.tm 0],
 w1 14 (.idxAddr 3) [.tm 13, .cn (.int .i64 0)],
 w1 15 (.load true 3) [.tm 14],
 w1 16 .mov [.tm 0],
 w1 17 (.idxAddr 3) [.tm 16, .cn (.int .i64 0)],
 w1 18 (.load true 3) [.tm 17],
 ⟨u0 (.store 3) [.tm 4, .tm 15], [.tm 17]⟩,
 w0 (.store 3) [.tm 5, .tm 18]])
 (.seq (.seq (.region [u1 6 .mov [.cn (.int .i64 1)]])
 (.block 0 (.loop (.seq (.seq (.region [u1 19 .mov [.tm 6],
 u1 20 .mov [.tm 0],
 u1 21 .len [.tm 20],
 u1 22 (.cmp .lss) [.tm 19, .tm 21]])
 (.cond (.tm 22) .skip
  (.exit 0)))
 (.seq (.block 1 (.seq (.draw [] [w1 26 .mov [.tm 0],
 w1 27 .mov [.tm 6],
 w1 28 (.idxAddr 3) [.tm 26, .tm 27],
 w1 29 (.load true 3) [.tm 28],
 w1 30 (.load true 3) [.tm 4],
 w1 31 (.call 91) [.tm 29, .tm 30],
 w1 25 .mov [.tm 31],
 w1 32 (.ext 0) [.tm 25],
 w1 33 (.ext 1) [.tm 25],
 w1 7 .mov [.tm 32],
 w1 8 .mov [.tm 33]])
 (.seq (.seq (.region [u1 34 .mov [.tm 7],
 u1 35 (.cmp .lss) [.tm 34, .cn (.int .i64 0)]])
 (.cond (.tm 35) (.region [u1 36 .mov [.tm 0],
 u1 37 .mov [.tm 6],
 u1 38 (.idxAddr 3) [.tm 36, .tm 37],
 u1 39 (.load true 3) [.tm 38],
 u0 (.store 3) [.tm 4, .tm 39]])
  .skip))
 (.seq (.draw [] [w1 41 .mov [.tm 0],
 w1 42 .mov [.tm 6],
 w1 43 (.idxAddr 3) [.tm 41, .tm 42],
 w1 44 (.load true 3) [.tm 43],
 w1 45 (.load true 3) [.tm 5],
 w1 46 (.call 91) [.tm 44, .tm 45],
 w1 40 .mov [.tm 46],
 w1 47 (.ext 0) [.tm 40],
 w1 48 (.ext 1) [.tm 40],
 w1 7 .mov [.tm 47]])
 (.seq (.region [u1 49 .mov [.tm 7],
 u1 50 (.cmp .gtr) [.tm 49, .cn (.int .i64 0)]])
 (.cond (.tm 50) (.region [u1 51 .mov [.tm 0],
 u1 52 .mov [.tm 6],
 u1 53 (.idxAddr 3) [.tm 51, .tm 52],
 u1 54 (.load true 3) [.tm 53],
 u0 (.store 3) [.tm 5, .tm 54]])
  .skip))))))
 (.region [u1 23 .mov [.tm 6],
 u1 24 (.ari .add) [.tm 23, .cn (.int .i64 1)],
 u1 6 .mov [.tm 24]]))))))
 (.seq (.region [u1 56 (.load true 3) [.tm 4],
 u1 57 (.call 92) [.tm 56],
 u1 55 .mov [.tm 57],
 u1 58 (.ext 0) [.tm 55],
 u1 59 (.ext 1) [.tm 55],
 u1 9 .mov [.tm 58],
 u1 10 .mov [.tm 59]])
 (.seq (.region [u1 61 (.load true 3) [.tm 5],
 u1 62 (.call 93) [.tm 61],
 u1 60 .mov [.tm 62],
 u1 63 (.ext 0) [.tm 60],
 u1 64 (.ext 1) [.tm 60],
 u1 11 .mov [.tm 63],
 u1 12 .mov [.tm 64]])
 (.seq (.seq (.region [u1 65 .mov [.tm 10],
 u1 66 .not [.tm 65],
 u1 67 .mov [.tm 66],
 u2 68 67 false .mov [.tm 12],
 u2 69 67 false .not [.tm 68],
 u1 70 .or [.tm 67, .tm 69]])
 (.cond (.tm 70) (.seq (.region [u1 71 (.build [(.int .i64 0), (.int .i64 0)] []) [],
 u0 (.store 2) [.tm 2, .tm 71],
 u1 3 .mov [.cn (.int .i64 7)]])
 .ret)
  .skip))
 (.seq (.region [u1 72 .mov [.tm 9],
 u1 73 .mov [.tm 11],
 u1 74 (.build [(.int .i64 0), (.int .i64 0)] [(0, 1), (1, 1)]) [.tm 72, .tm 73],
 u0 (.store 2) [.tm 2, .tm 74],
 u1 3 .mov [.cn (.int .i64 0)]])
 .ret))))))) }
theorem v66_is : vfunc Tryz.prog Tryz.f66 = some v66 := by kernel_rfl


theorem frOk_8 {p : Fr} (hd : 0 < p.2) (h1 : p.1.natAbs < 4294967296 ^ 8) (h2 : p.2 < 4294967296 ^ 8) : frOk p :=
  ⟨hd, Nat.le_trans (nl_le.2 (Nat.lt_of_le_of_lt (rnum_le _ _) h1)) (by decide), Nat.le_trans (nl_le.2 (Nat.lt_of_le_of_lt (rden_le _ _) h2)) (by decide)⟩
theorem frOk_1 {n : Int} (h : -4611686018427387904 ≤ n ∧ n ≤ 4611686018427387904) : frOk (n, 1) :=
  frOk_8 (show 0 < 1 by decide) (by dsimp only; omega) (show 1 < 4294967296 ^ 8 by decide)
theorem rnum_1 (n : Int) : rnum n 1 = n.natAbs := by simp [rnum, fg]
theorem rden_1 (n : Int) : rden n 1 = 1 := by simp [rden, fg]
theorem fl_red (p : Fr) (hd : 0 < p.2) : p.1 / (p.2 : Int) = nsg (decide (p.1 < 0)) (rnum p.1 p.2) / (rden p.1 p.2 : Int) := by
  have h1 := n_eq p.1 p.2
  have h2 := d_eq p.1 p.2
  have hg : 0 < ((fg p.1 p.2 : Nat) : Int) := by have := fg_pos (n := p.1) hd; omega
  conv => lhs; rw [h1, h2]
  exact Int.mul_ediv_mul_of_pos_left _ _ hg
theorem fl_abs {p : Fr} (hd : 0 < p.2) : (p.1 / (p.2 : Int)).natAbs ≤ rnum p.1 p.2 := by
  rw [fl_red p hd]
  have hr := rden_pos (n := p.1) hd
  have := quo_absM (x := nsg (decide (p.1 < 0)) (rnum p.1 p.2)) (y := (rden p.1 p.2 : Int)) (M := (rnum p.1 p.2 : Int)) (by unfold nsg; split <;> omega) (by omega)
  omega

theorem ans_frA {k : SV → List HO → Prop} {al : Bool} {hp : List HO} {p : Fr} (h : k (.agg (encF true p)) []) : answers al k (.agg (encF true p)) hp :=
  ans_le h (le_self _ ⟨trivial, trivial, trivial, trivial⟩) (fun _ => by simp [encF, natV, freshS, freshL])
theorem ans_ib' {k : SV → List HO → Prop} {al : Bool} {hp : List HO} {κ : IntKind} {x : Int} {b : Bool} (h : k (.tup [.int κ x, .bool b]) []) : answers al k (.tup [.int κ x, .bool b]) hp :=
  ans_le h (le_self _ ⟨trivial, trivial, trivial⟩) (fun _ => by simp [freshS, freshL])

def quoiC : Ctr := { alias := false, of := fun l => match l with
  | [.int .i64 n] => .pre (-4611686018427387904 ≤ n ∧ n ≤ 4611686018427387904) (.fin (.agg (encF true (n, 1))) [])
  | _ => noC }
def ofrC : Ctr := { alias := false, of := fun l => match l with
  | [.int .i64 n, .int .i64 d] => .pre ((-4611686018427387904 ≤ n ∧ n ≤ 4611686018427387904) ∧ 0 < d ∧ d ≤ 4611686018427387904) (.fin (.agg (encF true (n, d.toNat))) [])
  | _ => noC }
def floC (up : Bool) : Ctr := { alias := false, of := fun l => match l with
  | [.agg [.bool neg, .vs _ z1 n1 s1 g1, .vs _ z2 n2 s2 g2]] => .ex Fr fun p => .pre (fracP p neg z1 n1 s1 g1 z2 n2 s2 g2) (.fin (.tup [.int .i64 (rndF up p.1 p.2).1, .bool (rndF up p.1 p.2).2]) [])
  | _ => noC }

def floorC := floC false
def ceilC := floC true

def S1 : Env := { ct := fun n => match n with | 68 => some ofC | 108 => some qfloorC | 70 => some smallC | _ => none, fn := fun _ => none, meth := fun _ _ => none }
theorem S1_ct68 : S1.ct 68 = some ofC := rfl
theorem S1_ct108 : S1.ct 108 = some qfloorC := rfl
theorem S1_ct70 : S1.ct 70 = some smallC := rfl
theorem S1_ok : EnvOk Tryz.prog S1 := by
  refine ⟨fun f c h => ?_, fun f vf h => ?_, (fun _ _ _ h => by cases h), by kernel_rfl⟩
  · simp only [S1] at h
    split at h
    · cases h; exact ⟨of_ok, Tryz.f68, Tryz.func68, by kernel_rfl, by kernel_rfl⟩
    · cases h; exact ⟨qfloor_ok, Tryz.f108, Tryz.func108, by kernel_rfl, by kernel_rfl⟩
    · cases h; exact ⟨small_ok, Tryz.f70, Tryz.func70, by kernel_rfl, by kernel_rfl⟩
    · cases h
  · cases h


theorem quoi_ok : quoiC.ok Tryz.prog 65 := by
  refine contract Tryz.func65 v65_is S1_ok 200 quoiC fun args k h => ⟨args, ?_⟩
  simp only [quoiC] at h
  split at h
  · rename_i n
    obtain ⟨hn, h⟩ := h
    refine ⟨by simp [leL, le], ?_⟩
    (try dsimp only [v65, S1_ct68, ofC, natS, go_sem, Option.bind, Option.map, List.append_nil, Nat.beq, List.cons_append, List.nil_append, List.append_eq, List.map_cons, List.map_nil, ite_self, reduceIte])
    (try simp only [true_and, and_true, imp_self, implies_true, decide_eq_true_eq, decide_eq_false_iff_not, Nat.reduceAdd, Nat.reduceLeDiff, Bool.not_not, reduceCtorEq, false_imp_iff, Bool.not_eq_true', Bool.not_eq_false', Bool.false_eq_true, and_self, forall_const, ne_eq, not_false_eq_true, Nat.reduceEqDiff])
    have h : k (.agg (encF true (n, 1))) [] := h
    have e : encF true (n, 1) = [.bool (decide (n < 0)), natV true false n.natAbs, natV true false 1] := by unfold encF; rw [rnum_1, rden_1]
    refine ⟨fun h0 => ?_, fun h0 => ?_⟩
    · have w1 : IntKind.u64.wrap (IntKind.i64.wrap (0 - n)) = -n := by rw [IntWalk.i64_in (0 - n) (by omega), IntWalk.u64_in _ (by omega)]; omega
      have w2 : (-n).toNat = n.natAbs := by omega
      rw [w1, w2]
      refine ⟨by omega, by decide, ?_⟩
      have h2 := ans_frA (al := quoiC.alias) (hp := [HO.box (encF true (n, 1))]) h
      rw [e, decide_eq_true h0] at h2; exact h2
    · have w1 : IntKind.u64.wrap n = n := IntWalk.u64_in _ (by omega)
      have w2 : n.toNat = n.natAbs := by omega
      rw [w1, w2]
      refine ⟨by omega, by decide, ?_⟩
      have h2 := ans_frA (al := quoiC.alias) (hp := [HO.box (encF true (n, 1))]) h
      rw [e, decide_eq_false h0] at h2; exact h2
  · exact h.1.elim

theorem flo_ok : floorC.ok Tryz.prog 92 := by
  refine contract Tryz.func92 v92_is S1_ok 200 floorC fun args k h => ?_
  simp only [floorC, ceilC, floC] at h
  split at h
  · rename_i neg t1 z1 n1 s1 g1 t2 z2 n2 s2 g2
    obtain ⟨p, hp, h⟩ := h
    refine ⟨[.agg (encF false p)], ⟨fr_le hp, trivial⟩, ?_⟩
    have hok := hp.1
    clear hp
    (try dsimp only [v92, S1_ct108, S1_ct70, qfloorC, smallC, natS, natV, encF, go_sem, Option.bind, Option.map, List.append_nil, Nat.beq, List.cons_append, List.nil_append, List.append_eq, List.map_cons, List.map_nil, ite_self, reduceIte])
    (try simp only [true_and, and_true, imp_self, implies_true, decide_eq_true_eq, decide_eq_false_iff_not, Nat.reduceAdd, Nat.reduceLeDiff, Bool.not_not, reduceCtorEq, false_imp_iff, Bool.not_eq_true', Bool.not_eq_false', Bool.false_eq_true, and_self, forall_const, ne_eq, not_false_eq_true, Nat.reduceEqDiff])
    have hN : nl (p.1 / (p.2 : Int)).natAbs ≤ 512 := Nat.le_trans (nl_mono (fl_abs hok.1)) hok.2.1
    have h : k (.tup [.int .i64 (rndB (p.1 / (p.2 : Int))).1, .bool (rndB (p.1 / (p.2 : Int))).2]) [] := h
    have s1 : p.1 < 0 → p.1 / (p.2 : Int) < 0 := fun hn => Int.ediv_neg_of_neg_of_pos hn (by have := hok.1; omega)
    have s2 : ¬ p.1 < 0 → 0 ≤ p.1 / (p.2 : Int) := fun hn => Int.ediv_nonneg (by omega) (by omega)
    refine ⟨p, fracP_self hok, by decide, by decide, by decide, (p.1 / (p.2 : Int)).natAbs, ⟨padP_nl (by omega), rfl, hN⟩, by decide, by decide, ?_⟩
    clear hN
    generalize p.1 / (p.2 : Int) = q at *
    have key : (!decide ((if q.natAbs < 18446744073709551616 then (0 : Int) else 7) = 0) || decide ((4611686018427387904 : Int) < if q.natAbs < 18446744073709551616 then (q.natAbs : Int) else 0)) = decide (4611686018427387904 < q.natAbs) := by
      by_cases hN : q.natAbs < 18446744073709551616
      · rw [if_pos hN, if_pos hN, Bool.eq_iff_iff]; simp only [decide_true, Bool.not_true, Bool.false_or, decide_eq_true_eq]; omega
      · rw [if_neg hN, if_neg hN, Bool.eq_iff_iff]; simp only [decide_eq_true_eq]; simp; omega
    rw [key]
    refine ⟨fun hb => ?_, fun hb => ⟨fun hn => ?_, fun hn => ?_⟩⟩
    · rw [decide_eq_true_eq] at hb
      rw [rndB, if_neg (by omega)] at h
      exact ans_ib' h
    · rw [decide_eq_false_iff_not] at hb
      have := s1 hn
      rw [rndB, if_pos (by omega)] at h
      have w : IntKind.i64.wrap (0 - IntKind.i64.wrap (if q.natAbs < 18446744073709551616 then (q.natAbs : Int) else 0)) = q := by
        rw [if_pos (by omega), IntWalk.i64_in ((q.natAbs : Int)) (by omega), IntWalk.i64_in _ (by omega)]; omega
      rw [w]; exact ans_ib' h
    · rw [decide_eq_false_iff_not] at hb
      have := s2 hn
      rw [rndB, if_pos (by omega)] at h
      have w : IntKind.i64.wrap (if q.natAbs < 18446744073709551616 then (q.natAbs : Int) else 0) = q := by
        rw [if_pos (by omega), IntWalk.i64_in _ (by omega)]; omega
      rw [w]; exact ans_ib' h
  · exact h.1.elim

def loQ (x : Fr) (r : List Fr) : Fr := r.foldl (fun low y => if cmpQ y.1 y.2 low.1 low.2 < 0 then y else low) x
def hiQ (x : Fr) (r : List Fr) : Fr := r.foldl (fun high y => if 0 < cmpQ y.1 y.2 high.1 high.2 then y else high) x
def spanQ (x : Fr) (r : List Fr) : Iv × Int := spanR (rndF false (loQ x r).1 (loQ x r).2) (rndF true (hiQ x r).1 (hiQ x r).2)
def spanqC : Ctr := { alias := false, of := fun l => match l with
  | [.vs _ _ n sz get] => .ex Fr fun x => .ex (List Fr) fun r => .pre (lsP 3 (encF false) n sz get (x :: r) ∧ (x :: r).length ≤ 1000 ∧ ∀ p ∈ x :: r, frOk p) (.fin (.tup [.agg (enc2 (spanQ x r).1), .int .i64 (spanQ x r).2]) [])
  | _ => noC }

def S2 : Env := { ct := fun n => match n with | 65 => some quoiC | 87 => some qdivC | 92 => some floorC | _ => none, fn := fun _ => none, meth := fun _ _ => none }
theorem S2_ct65 : S2.ct 65 = some quoiC := rfl
theorem S2_ct87 : S2.ct 87 = some qdivC := rfl
theorem S2_ct92 : S2.ct 92 = some floorC := rfl
theorem S2_ok : EnvOk Tryz.prog S2 := by
  refine ⟨fun f c h => ?_, fun f vf h => ?_, (fun _ _ _ h => by cases h), by kernel_rfl⟩
  · simp only [S2] at h
    split at h
    · cases h; exact ⟨quoi_ok, Tryz.f65, Tryz.func65, by kernel_rfl, by kernel_rfl⟩
    · cases h; exact ⟨qdiv_ok, Tryz.f87, Tryz.func87, by kernel_rfl, by kernel_rfl⟩
    · cases h; exact ⟨flo_ok, Tryz.f92, Tryz.func92, by kernel_rfl, by kernel_rfl⟩
    · cases h
  · cases h


theorem ofr_ok : ofrC.ok Tryz.prog 63 := by
  refine contract Tryz.func63 v63_is S2_ok 200 ofrC fun args k h => ⟨args, ?_⟩
  simp only [ofrC] at h
  split at h
  · rename_i n d
    obtain ⟨⟨hn, hd0, hd⟩, h⟩ := h
    refine ⟨by simp [leL, le], ?_⟩
    (try dsimp only [v63, S2_ct65, S2_ct87, quoiC, qdivC, natS, natV, encF, go_sem, Option.bind, Option.map, List.append_nil, Nat.beq, List.cons_append, List.nil_append, List.append_eq, List.map_cons, List.map_nil, ite_self, reduceIte])
    (try simp only [true_and, and_true, imp_self, implies_true, decide_eq_true_eq, decide_eq_false_iff_not, Nat.reduceAdd, Nat.reduceLeDiff, Bool.not_not, reduceCtorEq, false_imp_iff, Bool.not_eq_true', Bool.not_eq_false', Bool.false_eq_true, and_self, forall_const, ne_eq, not_false_eq_true, Nat.reduceEqDiff])
    have h : k (.agg (encF true (n, d.toNat))) [] := h
    have e : divF (n, 1) (d, 1) = (n, d.toNat) := by
      have h1 : ¬ d < 0 := by omega
      have h2 : d.natAbs = d.toNat := by omega
      simp [divF, nsg, h1, h2]
    rw [← e] at h
    refine ⟨hn, by omega, (n, 1), (d, 1), ⟨fracP_self (frOk_1 hn), fracP_self (frOk_1 (by omega)), by show ¬ d = 0; omega, by rw [e]; exact frOk_8 (by dsimp only; omega) (by dsimp only; omega) (by dsimp only; omega)⟩, by decide, by decide, ?_⟩
    exact ans_frA h
  · exact h.1.elim

theorem rndB_neg (t : Int) : rndB (-t) = (-(rndB t).1, (rndB t).2) := by
  unfold rndB
  by_cases h : -4611686018427387904 ≤ t ∧ t ≤ 4611686018427387904
  · rw [if_pos h, if_pos (by omega)]
  · rw [if_neg h, if_neg (by omega)]; rfl
theorem rndB_bnd (t : Int) : -4611686018427387904 ≤ (rndB t).1 ∧ (rndB t).1 ≤ 4611686018427387904 := by
  unfold rndB; split
  · assumption
  · simp
theorem cei_ok : ceilC.ok Tryz.prog 93 := by
  refine contract Tryz.func93 v93_is S2_ok 200 ceilC fun args k h => ?_
  simp only [floorC, ceilC, floC] at h
  split at h
  · rename_i neg t1 z1 n1 s1 g1 t2 z2 n2 s2 g2
    obtain ⟨p, hp, h⟩ := h
    refine ⟨[.agg (encF false p)], ⟨fr_le hp, trivial⟩, ?_⟩
    have hok := hp.1
    clear hp
    (try dsimp only [v93, S2_ct92, floorC, floC, natS, natV, encF, go_sem, Option.bind, Option.map, List.append_nil, Nat.beq, List.cons_append, List.nil_append, List.append_eq, List.map_cons, List.map_nil, ite_self, reduceIte])
    (try simp only [true_and, and_true, imp_self, implies_true, decide_eq_true_eq, decide_eq_false_iff_not, Nat.reduceAdd, Nat.reduceLeDiff, Bool.not_not, reduceCtorEq, false_imp_iff, Bool.not_eq_true', Bool.not_eq_false', Bool.false_eq_true, and_self, forall_const, ne_eq, not_false_eq_true, Nat.reduceEqDiff])
    have t := turn_eq hok.1
    have f := fracP_self (turn_ok hok)
    rw [t.1, t.2.1, ← t.2.2] at f
    have h : k (.tup [.int .i64 (rndB (-((-p.1) / (p.2 : Int)))).1, .bool (rndB (-((-p.1) / (p.2 : Int)))).2]) [] := h
    rw [rndB_neg] at h
    refine ⟨turnF p, f, by decide, by decide, ?_⟩
    have e : rndF false (turnF p).1 ((turnF p).2 : Int) = rndB ((-p.1) / (p.2 : Int)) := rfl
    rw [e]
    have b := rndB_bnd ((-p.1) / (p.2 : Int))
    rw [IntWalk.i64_in _ (by omega), Int.zero_sub]
    exact ans_ib' h
  · exact h.1.elim

def S3 : Env := { ct := fun n => match n with | 91 => some qcmpC | 92 => some floorC | 93 => some ceilC | _ => none, fn := fun _ => none, meth := fun _ _ => none }
theorem S3_ct91 : S3.ct 91 = some qcmpC := rfl
theorem S3_ct92 : S3.ct 92 = some floorC := rfl
theorem S3_ct93 : S3.ct 93 = some ceilC := rfl
theorem S3_ok : EnvOk Tryz.prog S3 := by
  refine ⟨fun f c h => ?_, fun f vf h => ?_, (fun _ _ _ h => by cases h), by kernel_rfl⟩
  · simp only [S3] at h
    split at h
    · cases h; exact ⟨qcmp_ok, Tryz.f91, Tryz.func91, by kernel_rfl, by kernel_rfl⟩
    · cases h; exact ⟨flo_ok, Tryz.f92, Tryz.func92, by kernel_rfl, by kernel_rfl⟩
    · cases h; exact ⟨cei_ok, Tryz.f93, Tryz.func93, by kernel_rfl, by kernel_rfl⟩
    · cases h
  · cases h


theorem loQ_mem (x : Fr) : ∀ (r : List Fr), loQ x r ∈ x :: r := by
  intro r
  induction r generalizing x with
  | nil => exact List.mem_cons_self
  | cons a r ih =>
    have e : loQ x (a :: r) = loQ (if cmpQ a.1 a.2 x.1 x.2 < 0 then a else x) r := rfl
    rw [e]
    have h := ih (if cmpQ a.1 a.2 x.1 x.2 < 0 then a else x)
    rcases List.mem_cons.1 h with h | h
    · rw [h]; split <;> simp
    · simp [h]
theorem hiQ_mem (x : Fr) : ∀ (r : List Fr), hiQ x r ∈ x :: r := by
  intro r
  induction r generalizing x with
  | nil => exact List.mem_cons_self
  | cons a r ih =>
    have e : hiQ x (a :: r) = hiQ (if 0 < cmpQ a.1 a.2 x.1 x.2 then a else x) r := rfl
    rw [e]
    have h := ih (if 0 < cmpQ a.1 a.2 x.1 x.2 then a else x)
    rcases List.mem_cons.1 h with h | h
    · rw [h]; split <;> simp
    · simp [h]
theorem take_sub {x a : Fr} {r : List Fr} {i : Nat} (h : a ∈ x :: r.take i) : a ∈ x :: r := by
  rcases List.mem_cons.1 h with h | h
  · simp [h]
  · simp [List.mem_of_mem_take h]

theorem spanq_ok : spanqC.ok Tryz.prog 66 := by
  refine contract Tryz.func66 v66_is S3_ok 400 spanqC fun args k h => ?_
  simp only [spanqC] at h
  split at h
  · rename_i tt z n sz get
    obtain ⟨x, r, ⟨⟨rfl, rfl, hg⟩, hmax, hall⟩, h⟩ := h
    refine ⟨[.vs tt z (x :: r).length 3 (fun k => encF false ((x :: r).getD k default))], ⟨by simpa [le] using hg, trivial⟩, ?_⟩
    (try dsimp only [v66, encF, natV, go_sem, Option.bind, Option.map, List.append_nil, Nat.beq, List.cons_append, List.nil_append, List.append_eq, List.map_cons, List.map_nil, ite_self, reduceIte])
    (try simp only [true_and, and_true, imp_self, implies_true, decide_eq_true_eq, decide_eq_false_iff_not, Nat.reduceAdd, Nat.reduceLeDiff, Bool.not_not, reduceCtorEq, false_imp_iff, Bool.not_eq_true', Bool.not_eq_false', Bool.false_eq_true, and_self, forall_const, ne_eq, not_false_eq_true, Nat.reduceEqDiff])
    have hlen : ((x :: r).length : Int) = r.length + 1 := by simp
    refine ⟨⟨by decide, by omega⟩, ⟨by decide, by omega⟩, ?_⟩
    refine Loop.keep [0, 1, 0, 0, 0, 0] Nat (fun i => [(6, .int .i64 ((i : Int) + 1))]) (fun i => [(1, .box (encF false (loQ x (r.take i)))), (2, .box (encF false (hiQ x (r.take i))))]) [] (fun i => i ≤ r.length) (fun i => r.length - i) ?_ ?_
    · refine ⟨0, Nat.zero_le _, ?_⟩
      (try dsimp only [encF, natV, go_sem, Option.bind, Option.map, List.append_nil, Nat.beq, List.cons_append, List.nil_append, List.append_eq, List.map_cons, List.map_nil, ite_self, reduceIte])
      simp only [leS_mk, leL_cons, leL_nil, le_junk, le_int, le_bool, le_nil, leLL_nil, leLL_cons, leH_cons, leH_nil, leH1_box, leH1_own, leH1_gone, le_vs, le_agg, le_tup, le_ptr, le_own, le_xp, le_fn, le_opt, le_val, le_elem, le_nil_own, le_nil_vs, leH_ghost, leL_chunk, leXL_id, bnd_int, bnd_bool, bnd_val, bnd_nil, bnd_junk, bnd_vs, bnd_xp, bnd_agg, bnd_tup, bnd_ptr, bnd_own, bnd_elem, bnd_fn, bnd_iface, bnd_opt, bndL_nil, bndL_cons, lenH_cons, lenH_nil, imp_self, implies_true, true_and, and_true]
      refine ⟨by simp, ?_, ?_⟩ <;> simp [loQ, hiQ] <;> exact ⟨rfl, fun k _ => leXL_self _, fun k _ => leXL_self _⟩
    · rintro i hi
      (try dsimp only [S3_ct91, S3_ct92, S3_ct93, qcmpC, floorC, ceilC, floC, encF, natV, Int.toNat_natCast, go_sem, Option.bind, Option.map, List.append_nil, Nat.beq, List.cons_append, List.nil_append, List.append_eq, List.map_cons, List.map_nil, ite_self, reduceIte])
      (try simp only [true_and, and_true, imp_self, implies_true, decide_eq_true_eq, decide_eq_false_iff_not, Nat.reduceAdd, Nat.reduceLeDiff, Bool.not_not, reduceCtorEq, false_imp_iff, Bool.not_eq_true', Bool.not_eq_false', Bool.false_eq_true, and_self, forall_const, ne_eq, not_false_eq_true, Nat.reduceEqDiff])
      have ey : (x :: r).getD ((i : Int) + 1).toNat default = r.getD i default := by
        have : ((i : Int) + 1).toNat = i + 1 := by omega
        rw [this]; rfl
      simp only [ey, hlen]
      have hL : frOk (loQ x (r.take i)) := hall _ (take_sub (loQ_mem x _))
      have hH : frOk (hiQ x (r.take i)) := hall _ (take_sub (hiQ_mem x _))
      refine ⟨fun hlt => ?_, fun hge => ?_⟩
      · have hi' : i < r.length := by omega
        have hY : frOk (r.getD i default) := hall _ (List.mem_cons_of_mem _ (getD_mem hi'))
        have eL : loQ x (r.take (i + 1)) = if cmpQ (r.getD i default).1 (r.getD i default).2 (loQ x (r.take i)).1 (loQ x (r.take i)).2 < 0 then r.getD i default else loQ x (r.take i) := foldl_take_succ hi'
        have eH : hiQ x (r.take (i + 1)) = if 0 < cmpQ (r.getD i default).1 (r.getD i default).2 (hiQ x (r.take i)).1 (hiQ x (r.take i)).2 then r.getD i default else hiQ x (r.take i) := foldl_take_succ hi'
        have hw : IntKind.i64.wrap ((i : Int) + 1 + 1) = ((i + 1 : Nat) : Int) + 1 := by
          rw [List.length_cons] at hmax
          rw [IntWalk.i64_in _ (by omega)]; omega
        have bd : 0 ≤ (i : Int) + 1 ∧ (i : Int) + 1 < (r.length : Int) + 1 := by omega
        refine ⟨bd, r.getD i default, loQ x (r.take i), ⟨fracP_self hY, fracP_self hL⟩, by decide, by decide,
          fun h1 => ⟨bd, bd, r.getD i default, hiQ x (r.take i), ⟨fracP_self hY, fracP_self hH⟩, by decide, by decide, fun h2 => ⟨bd, i + 1, by omega, by omega, ?_⟩, fun h2 => ⟨i + 1, by omega, by omega, ?_⟩⟩,
          fun h1 => ⟨bd, r.getD i default, hiQ x (r.take i), ⟨fracP_self hY, fracP_self hH⟩, by decide, by decide, fun h2 => ⟨bd, i + 1, by omega, by omega, ?_⟩, fun h2 => ⟨i + 1, by omega, by omega, ?_⟩⟩⟩
        · simp only [eL, eH, if_pos h1, if_pos h2, hw, leS_mk, leL_cons, leL_nil, le_junk, le_int, le_bool, le_nil, leLL_nil, leLL_cons, leH_cons, leH_nil, leH1_box, leH1_own, leH1_gone, le_vs, le_agg, le_tup, le_ptr, le_own, le_xp, le_fn, le_opt, le_val, le_elem, le_nil_own, le_nil_vs, leH_ghost, leL_chunk, leXL_id, bnd_int, bnd_bool, bnd_val, bnd_nil, bnd_junk, bnd_vs, bnd_xp, bnd_agg, bnd_tup, bnd_ptr, bnd_own, bnd_elem, bnd_fn, bnd_iface, bnd_opt, bndL_nil, bndL_cons, lenH_cons, lenH_nil, imp_self, implies_true, true_and, and_true]
          simp
        · simp only [eL, eH, if_pos h1, if_neg h2, hw, leS_mk, leL_cons, leL_nil, le_junk, le_int, le_bool, le_nil, leLL_nil, leLL_cons, leH_cons, leH_nil, leH1_box, leH1_own, leH1_gone, le_vs, le_agg, le_tup, le_ptr, le_own, le_xp, le_fn, le_opt, le_val, le_elem, le_nil_own, le_nil_vs, leH_ghost, leL_chunk, leXL_id, bnd_int, bnd_bool, bnd_val, bnd_nil, bnd_junk, bnd_vs, bnd_xp, bnd_agg, bnd_tup, bnd_ptr, bnd_own, bnd_elem, bnd_fn, bnd_iface, bnd_opt, bndL_nil, bndL_cons, lenH_cons, lenH_nil, imp_self, implies_true, true_and, and_true]
          simp
        · simp only [eL, eH, if_neg h1, if_pos h2, hw, leS_mk, leL_cons, leL_nil, le_junk, le_int, le_bool, le_nil, leLL_nil, leLL_cons, leH_cons, leH_nil, leH1_box, leH1_own, leH1_gone, le_vs, le_agg, le_tup, le_ptr, le_own, le_xp, le_fn, le_opt, le_val, le_elem, le_nil_own, le_nil_vs, leH_ghost, leL_chunk, leXL_id, bnd_int, bnd_bool, bnd_val, bnd_nil, bnd_junk, bnd_vs, bnd_xp, bnd_agg, bnd_tup, bnd_ptr, bnd_own, bnd_elem, bnd_fn, bnd_iface, bnd_opt, bndL_nil, bndL_cons, lenH_cons, lenH_nil, imp_self, implies_true, true_and, and_true]
          simp
        · simp only [eL, eH, if_neg h1, if_neg h2, hw, leS_mk, leL_cons, leL_nil, le_junk, le_int, le_bool, le_nil, leLL_nil, leLL_cons, leH_cons, leH_nil, leH1_box, leH1_own, leH1_gone, le_vs, le_agg, le_tup, le_ptr, le_own, le_xp, le_fn, le_opt, le_val, le_elem, le_nil_own, le_nil_vs, leH_ghost, leL_chunk, leXL_id, bnd_int, bnd_bool, bnd_val, bnd_nil, bnd_junk, bnd_vs, bnd_xp, bnd_agg, bnd_tup, bnd_ptr, bnd_own, bnd_elem, bnd_fn, bnd_iface, bnd_opt, bndL_nil, bndL_cons, lenH_cons, lenH_nil, imp_self, implies_true, true_and, and_true]
          simp
      · obtain rfl : i = r.length := by omega
        rw [List.take_length] at hL hH
        rw [List.take_length]
        refine ⟨loQ x r, fracP_self hL, by decide, by decide, hiQ x r, fracP_self hH, by decide, by decide, ?_⟩
        have h : k (.tup [.agg (enc2 (spanQ x r).1), .int .i64 (spanQ x r).2]) [] := h
        unfold spanQ spanR at h
        refine ⟨fun hb => ?_, fun hb => ?_⟩
        · rw [if_neg (by rw [← Bool.not_and, Bool.not_eq_true'] at hb; rw [hb]; simp)] at h
          exact ans_iv (r := ((0, 0), 7)) h
        · rw [if_pos (by rw [← Bool.not_and, Bool.not_eq_false'] at hb; exact hb)] at h
          exact ans_iv h
  · exact h.1.elim

/-! ### Fractions with one denominator -/

theorem cmpQ_one {n m : Int} {d : Nat} (hd : 0 < d) : (cmpQ n d m d < 0 ↔ n < m) ∧ (0 < cmpQ n d m d ↔ m < n) := by
  have h1 := mul_lt_iff (x := n) (y := m) hd
  have h2 := mul_lt_iff (x := m) (y := n) hd
  unfold cmpQ cmpI
  rw [← h1, ← h2]
  generalize n * (d : Int) = N
  generalize m * (d : Int) = M
  clear h1 h2
  by_cases c1 : N < M
  · rw [if_pos c1]; omega
  · rw [if_neg c1]
    by_cases c2 : M < N
    · rw [if_pos c2]; omega
    · rw [if_neg c2]; omega
theorem loQ_one {d : Nat} (hd : 0 < d) (n : Int) (r : List Int) : loQ (n, d) (r.map fun m => (m, d)) = (lowI n r, d) := by
  induction r generalizing n with
  | nil => rfl
  | cons a r ih =>
    have e : loQ (n, d) ((a :: r).map fun m => (m, d)) = loQ (if cmpQ a d n d < 0 then (a, d) else (n, d)) (r.map fun m => (m, d)) := rfl
    have e2 : lowI n (a :: r) = lowI (if a < n then a else n) r := rfl
    rw [e, e2, ← ih]
    by_cases h : a < n
    · rw [if_pos ((cmpQ_one hd).1.2 h), if_pos h]
    · rw [if_neg (fun hh => h ((cmpQ_one hd).1.1 hh)), if_neg h]
theorem hiQ_one {d : Nat} (hd : 0 < d) (n : Int) (r : List Int) : hiQ (n, d) (r.map fun m => (m, d)) = (highI n r, d) := by
  induction r generalizing n with
  | nil => rfl
  | cons a r ih =>
    have e : hiQ (n, d) ((a :: r).map fun m => (m, d)) = hiQ (if 0 < cmpQ a d n d then (a, d) else (n, d)) (r.map fun m => (m, d)) := rfl
    have e2 : highI n (a :: r) = highI (if n < a then a else n) r := rfl
    rw [e, e2, ← ih]
    by_cases h : n < a
    · rw [if_pos ((cmpQ_one hd).2.2 h), if_pos h]
    · rw [if_neg (fun hh => h ((cmpQ_one hd).2.1 hh)), if_neg h]
theorem spanQ_one {d : Nat} (hd : 0 < d) (n : Int) (r : List Int) : spanQ (n, d) (r.map fun m => (m, d)) = spanI d n r := by
  rw [spanQ, loQ_one hd, hiQ_one hd]; rfl

end Go.Proofs.YtngccjllkgpjmaaGreat

/- Intervals, walked: the reference's Scale, Pi. -/
/- Intervals, walked: the reference's Scale, Pi. -/
set_option linter.all false
namespace Go.Proofs.YtngccjllkgpjmaaGreat
open Go Go.Vx
set_option maxRecDepth 100000
set_option maxHeartbeats 4000000

def v39 : VF := { ntmps := 63, res := [.cell 6 true 2, .tmp 7], body :=
 (.seq (.region [u1 3 .box [.tm 0],
 u1 6 (.alloc [(.int .i64 0), (.int .i64 0)]) [],
 u1 7 .mov [.cn (.int .i64 0)]])
 (.seq (.region [u1 14 (.load true 2) [.tm 3],
 u1 15 (.call 62) [.tm 14],
 u1 8 .mov [.tm 15]])
 (.seq (.seq (.region [u1 16 .mov [.tm 8],
 u1 17 (.cmp .eql) [.tm 16, .cn (.int .i64 0)],
 u1 18 .mov [.tm 17],
 u2 19 18 true .mov [.tm 2],
 u2 20 18 true (.cmp .lss) [.tm 19, .cn (.int .i64 1)],
 u2 21 18 true .mov [.tm 20],
 u2 22 21 false .mov [.tm 2],
 u2 23 21 false (.cmp .gtr) [.tm 22, .cn (.int .i64 4611686018427387904)],
 u2 24 18 true .or [.tm 21, .tm 23],
 u2 25 18 true .mov [.tm 24],
 u2 26 25 false .mov [.tm 1],
 u2 27 25 false (.cmp .lss) [.tm 26, .cn (.int .i64 (-4611686018427387904))],
 u2 28 18 true .or [.tm 25, .tm 27],
 u2 29 18 true .mov [.tm 28],
 u2 30 29 false .mov [.tm 1],
 u2 31 29 false (.cmp .gtr) [.tm 30, .cn (.int .i64 4611686018427387904)],
 u2 32 18 true .or [.tm 29, .tm 31],
 u1 33 .and [.tm 18, .tm 32]])
 (.cond (.tm 33) (.region [u1 8 .mov [.cn (.int .i64 2)]])
  .skip))
 (.seq (.seq (.region [u1 34 .mov [.tm 8],
 u1 35 (.cmp .neq) [.tm 34, .cn (.int .i64 0)]])
 (.cond (.tm 35) (.seq (.region [u1 36 (.build [(.int .i64 0), (.int .i64 0)] []) [],
 u1 37 .mov [.tm 8],
 u0 (.store 2) [.tm 6, .tm 36],
 u1 7 .mov [.tm 37]])
 .ret)
  .skip))
 (.seq (.region [u1 38 .mov [.tm 1],
 u1 39 .mov [.tm 2],
 u1 40 (.call 63) [.tm 38, .tm 39],
 u1 9 (.alloc [(.bool false), .nil, .nil]) [],
 u0 (.store 3) [.tm 9, .tm 40]])
 (.seq (.draw [(10, .box [(.bool false), .nil, .nil])] [w1 42 (.fieldAddr 0) [.tm 3],
 w1 43 (.load false 1) [.tm 42],
 w1 45 (.load true 3) [.tm 9],
 w1 44 (.call 65) [.tm 43],
 w1 46 (.call 64) [.tm 44, .tm 45],
 w1 41 .mov [.tm 46],
 w1 47 (.ext 0) [.tm 41],
 w1 48 (.ext 1) [.tm 41],
 w0 (.store 3) [.tm 10, .tm 47],
 w1 11 .mov [.tm 48]])
 (.seq (.draw [(12, .box [(.bool false), .nil, .nil])] [w1 50 (.fieldAddr 1) [.tm 3],
 w1 51 (.load false 1) [.tm 50],
 w1 53 (.load true 3) [.tm 9],
 w1 52 (.call 65) [.tm 51],
 w1 54 (.call 64) [.tm 52, .tm 53],
 w1 49 .mov [.tm 54],
 w1 55 (.ext 0) [.tm 49],
 w1 56 (.ext 1) [.tm 49],
 w0 (.store 3) [.tm 12, .tm 55],
 w1 13 .mov [.tm 56]])
 (.seq (.region [u1 57 (.load true 3) [.tm 10],
 u1 58 (.load true 3) [.tm 12],
 u1 59 (.buildSlice 3 2 [(.bool false), .nil, .nil] [(0, 3), (3, 3)]) [.tm 57, .tm 58],
 u1 60 (.call 66) [.tm 59],
 u1 61 (.ext 0) [.tm 60],
 u1 62 (.ext 1) [.tm 60],
 u0 (.store 2) [.tm 6, .tm 61],
 u1 7 .mov [.tm 62]])
 .ret)))))))) }
theorem v39_is : vfunc Tryz.prog Tryz.f39 = some v39 := by kernel_rfl
def v80 : VF := { ntmps := 39, res := [.tmp 2], body :=
 (.seq (.region [u1 2 .mov [.cn .nil]])
 (.seq (.region [u1 3 .mov [.cn .nil]])
 (.seq (.seq (.region [u1 4 .mov [.cn (.int .i64 0)]])
 (.block 0 (.loop (.seq (.seq (.region [u1 9 .mov [.tm 4],
 u1 10 .mov [.tm 0],
 u1 11 .len [.tm 10],
 u1 12 (.cmp .lss) [.tm 9, .tm 11]])
 (.cond (.tm 12) .skip
  (.exit 0)))
 (.seq (.block 1 (.seq (.draw [(5, .box [(.bool false), .nil, .nil])] [w1 16 .mov [.tm 0],
 w1 17 .mov [.tm 4],
 w1 18 (.idxAddr 3) [.tm 16, .tm 17],
 w1 19 (.load true 3) [.tm 18],
 w1 20 (.call 63) [.cn (.int .i64 3141592653589793238), .cn (.int .i64 1000000000000000000)],
 w1 21 (.call 64) [.tm 19, .tm 20],
 w1 15 .mov [.tm 21],
 w1 22 (.ext 0) [.tm 15],
 w1 23 (.ext 1) [.tm 15],
 w0 (.store 3) [.tm 5, .tm 22],
 w1 6 .mov [.tm 23]])
 (.seq (.draw [(7, .box [(.bool false), .nil, .nil])] [w1 25 .mov [.tm 0],
 w1 26 .mov [.tm 4],
 w1 27 (.idxAddr 3) [.tm 25, .tm 26],
 w1 28 (.load true 3) [.tm 27],
 w1 29 (.call 63) [.cn (.int .i64 3141592653589793239), .cn (.int .i64 1000000000000000000)],
 w1 30 (.call 64) [.tm 28, .tm 29],
 w1 24 .mov [.tm 30],
 w1 31 (.ext 0) [.tm 24],
 w1 32 (.ext 1) [.tm 24],
 w0 (.store 3) [.tm 7, .tm 31],
 w1 8 .mov [.tm 32]])
 (.region [u1 33 .mov [.tm 3],
 u1 34 (.load true 3) [.tm 5],
 u1 35 (.load true 3) [.tm 7],
 u1 36 (.buildSlice 3 2 [(.bool false), .nil, .nil] [(0, 3), (3, 3)]) [.tm 34, .tm 35],
 u1 37 (.append 3 56 [(.bool false), .nil, .nil]) [.tm 33, .tm 36],
 u1 3 .mov [.tm 37]]))))
 (.region [u1 13 .mov [.tm 4],
 u1 14 (.ari .add) [.tm 13, .cn (.int .i64 1)],
 u1 4 .mov [.tm 14]]))))))
 (.seq (.region [u1 38 .mov [.tm 3],
 u1 2 .mov [.tm 38]])
 .ret)))) }
theorem v80_is : vfunc Tryz.prog Tryz.f80 = some v80 := by kernel_rfl


def S4 : Env := { ct := fun n => match n with | 62 => some iv1C | 65 => some quoiC | 63 => some ofrC | 64 => some qmulC | 66 => some spanqC | _ => none, fn := fun _ => none, meth := fun _ _ => none }
theorem S4_ct62 : S4.ct 62 = some iv1C := rfl
theorem S4_ct65 : S4.ct 65 = some quoiC := rfl
theorem S4_ct63 : S4.ct 63 = some ofrC := rfl
theorem S4_ct64 : S4.ct 64 = some qmulC := rfl
theorem S4_ct66 : S4.ct 66 = some spanqC := rfl
theorem S4_ok : EnvOk Tryz.prog S4 := by
  refine ⟨fun f c h => ?_, fun f vf h => ?_, (fun _ _ _ h => by cases h), by kernel_rfl⟩
  · simp only [S4] at h
    split at h
    · cases h; exact ⟨rcheck_ok, Tryz.f62, Tryz.func62, by kernel_rfl, by kernel_rfl⟩
    · cases h; exact ⟨quoi_ok, Tryz.f65, Tryz.func65, by kernel_rfl, by kernel_rfl⟩
    · cases h; exact ⟨ofr_ok, Tryz.f63, Tryz.func63, by kernel_rfl, by kernel_rfl⟩
    · cases h; exact ⟨qmul_ok, Tryz.f64, Tryz.func64, by kernel_rfl, by kernel_rfl⟩
    · cases h; exact ⟨spanq_ok, Tryz.f66, Tryz.func66, by kernel_rfl, by kernel_rfl⟩
    · cases h
  · cases h


theorem rscl_ok : sclC.ok Tryz.prog 39 := by
  refine contract Tryz.func39 v39_is S4_ok 400 sclC fun args k h => ⟨args, ?_⟩
  simp only [sclC] at h
  split at h
  · rename_i x y n d
    refine ⟨by simp [leL, le], ?_⟩
    (try dsimp only [v39, S4_ct62, S4_ct65, S4_ct63, S4_ct64, S4_ct66, iv1C, quoiC, ofrC, qmulC, spanqC, enc2, encF, natV, go_sem, Option.bind, Option.map, List.append_nil, Nat.beq, List.cons_append, List.nil_append, List.append_eq, List.map_cons, List.map_nil, ite_self, reduceIte])
    (try simp only [true_and, and_true, imp_self, implies_true, decide_eq_true_eq, decide_eq_false_iff_not, Nat.reduceAdd, Nat.reduceLeDiff, Bool.not_not, reduceCtorEq, false_imp_iff, Bool.not_eq_true', Bool.not_eq_false', Bool.false_eq_true, and_self, forall_const, ne_eq, not_false_eq_true, Nat.reduceEqDiff])
    have h : k (.tup [.agg (enc2 (sclF (x, y) n d).1), .int .i64 (sclF (x, y) n d).2]) [] := h
    refine ⟨fun a b => by simp [a, b], fun a b => by rw [b]; simp [a], fun a b => by rw [b]; simp [a], fun hb => ⟨fun _ => ?_, fun h2 => absurd h2 (by decide)⟩, fun hb => ⟨fun he => ?_, fun he => ?_⟩⟩
    · simp only [Bool.and_eq_true, Bool.or_eq_true, decide_eq_true_eq] at hb
      rw [sclF, if_neg (by omega), if_pos (by omega)] at h
      exact ans_iv h
    · rw [sclF, if_pos he] at h
      exact ans_iv h
    · have hb' : ¬ (d < 1 ∨ 4611686018427387904 < d ∨ n < -4611686018427387904 ∨ 4611686018427387904 < n) := by
        intro hh
        have : (decide (ivE [(x, y)] = 0) && (decide (d < 1) || decide (4611686018427387904 < d) || decide (n < -4611686018427387904) || decide (4611686018427387904 < n))) = true := by
          simp only [Bool.and_eq_true, Bool.or_eq_true, decide_eq_true_eq]; omega
        rw [this] at hb; cases hb
      rw [sclF, if_neg (by omega), if_neg hb'] at h
      obtain ⟨hx, hy, hxy⟩ := ivE1 he
      have m1 := mul_bnd (M := 4611686018427387904) (N := 4611686018427387904) hx (show -4611686018427387904 ≤ n ∧ n ≤ 4611686018427387904 by omega)
      have m2 := mul_bnd (M := 4611686018427387904) (N := 4611686018427387904) hy (show -4611686018427387904 ≤ n ∧ n ≤ 4611686018427387904 by omega)
      dsimp only at hx hy m1 m2
      have hq : frOk (n, d.toNat) := frOk_8 (by dsimp only; omega) (by dsimp only; omega) (by dsimp only; omega)
      have hp1 : frOk (x * n, 1 * d.toNat) := frOk_8 (by dsimp only; omega) (by dsimp only; omega) (by dsimp only; omega)
      have hp2 : frOk (y * n, 1 * d.toNat) := frOk_8 (by dsimp only; omega) (by dsimp only; omega) (by dsimp only; omega)
      refine ⟨⟨by omega, by omega⟩, hx, (x, 1), (n, d.toNat), ⟨fracP_self (frOk_1 hx), fracP_self hq, hp1⟩, by decide, by decide, hy, (y, 1), (n, d.toNat), ⟨fracP_self (frOk_1 hy), fracP_self hq, hp2⟩, by decide, by decide, by decide,
        (x * n, 1 * d.toNat), [(y * n, 1 * d.toNat)], ⟨⟨rfl, rfl, fun k hk => match k, hk with | 0, _ => leXL_self (encF false (x * n, 1 * d.toNat)) | 1, _ => leXL_self (encF false (y * n, 1 * d.toNat))⟩, by simp, list2 hp1 hp2⟩, ?_⟩
      have e := spanQ_one (d := 1 * d.toNat) (by omega) (x * n) [y * n]
      have e2 : ((1 * d.toNat : Nat) : Int) = d := by omega
      rw [e2] at e
      have e3 : spanQ (x * n, 1 * d.toNat) [(y * n, 1 * d.toNat)] = spanI d (x * n) [y * n] := e
      rw [e3]
      exact ⟨by decide, by decide, ans_iv h⟩
  · exact h.1.elim

/-! ### Both bounds of pi -/

def pisF (l : List Fr) : List Fr := l.flatMap fun p => [(p.1 * 3141592653589793238, p.2 * 1000000000000000000), (p.1 * 3141592653589793239, p.2 * 1000000000000000000)]
theorem pisF_len (l : List Fr) : (pisF l).length = 2 * l.length := by
  induction l with
  | nil => rfl
  | cons a l ih =>
    have e : pisF (a :: l) = (a.1 * 3141592653589793238, a.2 * 1000000000000000000) :: (a.1 * 3141592653589793239, a.2 * 1000000000000000000) :: pisF l := rfl
    rw [e, List.length_cons, List.length_cons, ih, List.length_cons]; omega
theorem pisF_get : ∀ (l : List Fr) (i : Nat), i < l.length → (pisF l).getD (2 * i) default = ((l.getD i default).1 * 3141592653589793238, (l.getD i default).2 * 1000000000000000000) ∧ (pisF l).getD (2 * i + 1) default = ((l.getD i default).1 * 3141592653589793239, (l.getD i default).2 * 1000000000000000000)
  | [], _, h => absurd h (Nat.not_lt_zero _)
  | a :: l, 0, _ => ⟨rfl, rfl⟩
  | a :: l, i + 1, h => by
    have e : pisF (a :: l) = (a.1 * 3141592653589793238, a.2 * 1000000000000000000) :: (a.1 * 3141592653589793239, a.2 * 1000000000000000000) :: pisF l := rfl
    have ih := pisF_get l i (by simpa using h)
    rw [e, show 2 * (i + 1) = 2 * i + 2 by omega]
    exact ih
def frsR (l : List Fr) : SV := .vs true (decide (l.length = 0)) l.length 3 (fun k => encF true (l.getD k default))
def pisC : Ctr := { alias := false, of := fun l => match l with
  | [.vs _ _ n sz get] => .ex (List Fr) fun l => .pre (lsP 3 (encF false) n sz get l ∧ l.length ≤ 100 ∧ (∀ p ∈ l, frOk p) ∧ ∀ p ∈ pisF l, frOk p) (.fin (frsR (pisF l)) [])
  | _ => noC }

theorem pis_ok : pisC.ok Tryz.prog 80 := by
  refine contract Tryz.func80 v80_is S4_ok 400 pisC fun args k h => ?_
  simp only [pisC] at h
  split at h
  · rename_i tt z n sz get
    obtain ⟨l, ⟨⟨rfl, rfl, hg⟩, hmax, hall, hpis⟩, h⟩ := h
    refine ⟨[.vs tt z l.length 3 (fun k => encF false (l.getD k default))], ⟨by simpa [le] using hg, trivial⟩, ?_⟩
    (try dsimp only [v80, encF, natV, go_sem, Option.bind, Option.map, List.append_nil, Nat.beq, List.cons_append, List.nil_append, List.append_eq, List.map_cons, List.map_nil, ite_self, reduceIte])
    (try simp only [true_and, and_true, imp_self, implies_true, decide_eq_true_eq, decide_eq_false_iff_not, Nat.reduceAdd, Nat.reduceLeDiff, Bool.not_not, reduceCtorEq, false_imp_iff, Bool.not_eq_true', Bool.not_eq_false', Bool.false_eq_true, and_self, forall_const, ne_eq, not_false_eq_true, Nat.reduceEqDiff])
    refine Loop.keep [0, 1, 0, 0] Nat (fun i => [(3, .own 0 0 (2 * i) 3), (4, .int .i64 i)]) (fun i => [(0, .own (decide (i = 0)) 3 (2 * i) (fun k => encF true ((pisF l).getD k default)))]) [.gone] (fun i => i ≤ l.length) (fun i => l.length - i) ?_ ?_
    · refine ⟨0, Nat.zero_le _, ?_⟩
      (try dsimp only [go_sem, Option.bind, Option.map, List.append_nil, Nat.beq, List.cons_append, List.nil_append, List.append_eq, List.map_cons, List.map_nil, ite_self, reduceIte])
      simp only [leS_mk, leL_cons, leL_nil, le_junk, le_int, le_bool, le_nil, leLL_nil, leLL_cons, leH_cons, leH_nil, leH1_box, leH1_own, leH1_gone, le_vs, le_agg, le_tup, le_ptr, le_own, le_xp, le_fn, le_opt, le_val, le_elem, le_nil_own, le_nil_vs, leH_ghost, leL_chunk, leXL_id, bnd_int, bnd_bool, bnd_val, bnd_nil, bnd_junk, bnd_vs, bnd_xp, bnd_agg, bnd_tup, bnd_ptr, bnd_own, bnd_elem, bnd_fn, bnd_iface, bnd_opt, bndL_nil, bndL_cons, lenH_cons, lenH_nil, imp_self, implies_true, true_and, and_true]
      simp
    · rintro i hi
      (try dsimp only [S4_ct63, S4_ct64, ofrC, qmulC, encF, natV, Int.toNat_natCast, go_sem, Option.bind, Option.map, List.append_nil, Nat.beq, List.cons_append, List.nil_append, List.append_eq, List.map_cons, List.map_nil, ite_self, reduceIte])
      (try simp only [true_and, and_true, imp_self, implies_true, decide_eq_true_eq, decide_eq_false_iff_not, Nat.reduceAdd, Nat.reduceLeDiff, Bool.not_not, reduceCtorEq, false_imp_iff, Bool.not_eq_true', Bool.not_eq_false', Bool.false_eq_true, and_self, forall_const, ne_eq, not_false_eq_true, Nat.reduceEqDiff])
      have eT : Int.toNat 1000000000000000000 = 1000000000000000000 := rfl
      simp only [eT]
      refine ⟨fun hlt => ?_, fun hge => ?_⟩
      · have hi' : i < l.length := by omega
        have hp : frOk (l.getD i default) := hall _ (getD_mem hi')
        have hc1 : frOk (3141592653589793238, 1000000000000000000) := frOk_8 (show 0 < 1000000000000000000 by decide) (show Int.natAbs 3141592653589793238 < 4294967296 ^ 8 by decide) (show 1000000000000000000 < 4294967296 ^ 8 by decide)
        have hc2 : frOk (3141592653589793239, 1000000000000000000) := frOk_8 (show 0 < 1000000000000000000 by decide) (show Int.natAbs 3141592653589793239 < 4294967296 ^ 8 by decide) (show 1000000000000000000 < 4294967296 ^ 8 by decide)
        have hg2 := pisF_get l i hi'
        have hr1 : frOk ((l.getD i default).1 * 3141592653589793238, (l.getD i default).2 * 1000000000000000000) := by
          rw [← hg2.1]; exact hpis _ (getD_mem (by rw [pisF_len]; omega))
        have hr2 : frOk ((l.getD i default).1 * 3141592653589793239, (l.getD i default).2 * 1000000000000000000) := by
          rw [← hg2.2]; exact hpis _ (getD_mem (by rw [pisF_len]; omega))
        refine ⟨⟨by omega, by omega⟩, ⟨⟨by decide, by decide⟩, by decide, by decide⟩, l.getD i default, (3141592653589793238, 1000000000000000000), ⟨fracP_self hp, fracP_self hc1, hr1⟩, by decide, by decide,
          ⟨by omega, by omega⟩, ⟨⟨by decide, by decide⟩, by decide, by decide⟩, l.getD i default, (3141592653589793239, 1000000000000000000), ⟨fracP_self hp, fracP_self hc2, hr2⟩, by decide, by decide, by decide, ?_⟩
        generalize l.getD i default = p at *
        (try dsimp only [go_sem, Option.bind, Option.map, List.append_nil, Nat.beq, List.cons_append, List.nil_append, List.append_eq, List.map_cons, List.map_nil, ite_self, reduceIte])
        (try simp only [true_and, and_true, imp_self, implies_true, decide_eq_true_eq, decide_eq_false_iff_not, Nat.reduceAdd, Nat.reduceLeDiff, Bool.not_not, reduceCtorEq, false_imp_iff, Bool.not_eq_true', Bool.not_eq_false', Bool.false_eq_true, and_self, forall_const, ne_eq, not_false_eq_true, Nat.reduceEqDiff])
        refine ⟨⟨by unfold capOk; omega, fun q hq => ?_⟩, i + 1, by omega, by omega, ?_⟩
        · match q, hq with
          | 0, _ => exact ⟨rfl, trivial, trivial, trivial, trivial⟩
          | 1, _ => exact ⟨rfl, trivial, trivial, trivial, trivial⟩
        · have hw : IntKind.i64.wrap ((i : Int) + 1) = ((i + 1 : Nat) : Int) := by rw [IntWalk.i64_in _ (by omega)]; omega
          have e2 : 2 * (i + 1) = 2 * i + 2 := by omega
          simp only [hw, e2, Bool.or_self, Bool.or_false, leS_mk, leL_cons, leL_nil, le_junk, le_int, le_bool, le_nil, leLL_nil, leLL_cons, leH_cons, leH_nil, leH1_box, leH1_own, leH1_gone, le_vs, le_agg, le_tup, le_ptr, le_own, le_xp, le_fn, le_opt, le_val, le_elem, le_nil_own, le_nil_vs, leH_ghost, leL_chunk, leXL_id, bnd_int, bnd_bool, bnd_val, bnd_nil, bnd_junk, bnd_vs, bnd_xp, bnd_agg, bnd_tup, bnd_ptr, bnd_own, bnd_elem, bnd_fn, bnd_iface, bnd_opt, bndL_nil, bndL_cons, lenH_cons, lenH_nil, imp_self, implies_true, true_and, and_true]
          refine ⟨by omega, by simp, fun q hq => ?_⟩
          rcases Nat.lt_or_ge q (2 * i) with h' | h'
          · rw [if_pos h']; exact leL_self _ ⟨trivial, trivial, trivial, trivial⟩
          · rw [if_neg (by omega)]
            rcases Nat.lt_or_ge q (2 * i + 1) with h'' | h''
            · obtain rfl : q = 2 * i := by omega
              rw [Nat.sub_self, hg2.1]
              exact leL_self (encF true (p.1 * 3141592653589793238, p.2 * 1000000000000000000)) ⟨trivial, trivial, trivial, trivial⟩
            · obtain rfl : q = 2 * i + 1 := by omega
              rw [show 2 * i + 1 - 2 * i = 1 by omega, hg2.2]
              exact leL_self (encF true (p.1 * 3141592653589793239, p.2 * 1000000000000000000)) ⟨trivial, trivial, trivial, trivial⟩
      · obtain rfl : i = l.length := by omega
        have hz : decide ((pisF l).length = 0) = decide (l.length = 0) := by rw [pisF_len, Bool.eq_iff_iff, decide_eq_true_eq, decide_eq_true_eq]; omega
        refine ans_le (show k _ [] from h) ?_ ?_
        · (try dsimp only [frsR, expo, encF, natV, go_sem, Option.bind, Option.map, List.append_nil, Nat.beq, List.cons_append, List.nil_append, List.append_eq, List.map_cons, List.map_nil, ite_self, reduceIte])
          rw [hz, pisF_len]
          simp only [leS_mk, leL_cons, leL_nil, le_junk, le_int, le_bool, le_nil, leLL_nil, leLL_cons, leH_cons, leH_nil, leH1_box, leH1_own, leH1_gone, le_vs, le_agg, le_tup, le_ptr, le_own, le_xp, le_fn, le_opt, le_val, le_elem, le_nil_own, le_nil_vs, leH_ghost, leL_chunk, leXL_id, bnd_int, bnd_bool, bnd_val, bnd_nil, bnd_junk, bnd_vs, bnd_xp, bnd_agg, bnd_tup, bnd_ptr, bnd_own, bnd_elem, bnd_fn, bnd_iface, bnd_opt, bndL_nil, bndL_cons, lenH_cons, lenH_nil, imp_self, implies_true, true_and, and_true]
        · intro _; simp [freshS, freshL, encF, natV, frsR]
  · exact h.1.elim

theorem pis2_ok {x y : Int} {d : Nat} (hd : 0 < d ∧ d ≤ 1000000) (hx : x.natAbs < 4294967296 ^ 5) (hy : y.natAbs < 4294967296 ^ 5) : ∀ p ∈ pisF [(x, d), (y, d)], frOk p := by
  have a1 : (x * 3141592653589793238).natAbs < 4294967296 ^ 8 := by omega
  have a2 : (x * 3141592653589793239).natAbs < 4294967296 ^ 8 := by omega
  have a3 : (y * 3141592653589793238).natAbs < 4294967296 ^ 8 := by omega
  have a4 : (y * 3141592653589793239).natAbs < 4294967296 ^ 8 := by omega
  have b1 : 0 < d * 1000000000000000000 := by omega
  have b2 : d * 1000000000000000000 < 4294967296 ^ 8 := by omega
  have e : pisF [(x, d), (y, d)] = [(x * 3141592653589793238, d * 1000000000000000000), (x * 3141592653589793239, d * 1000000000000000000), (y * 3141592653589793238, d * 1000000000000000000), (y * 3141592653589793239, d * 1000000000000000000)] := rfl
  rw [e]
  intro p hp
  simp only [List.mem_cons, List.not_mem_nil, or_false] at hp
  rcases hp with rfl | rfl | rfl | rfl
  · exact frOk_8 b1 a1 b2
  · exact frOk_8 b1 a2 b2
  · exact frOk_8 b1 a3 b2
  · exact frOk_8 b1 a4 b2

end Go.Proofs.YtngccjllkgpjmaaGreat

/- Fractions, walked: powers. -/
/- Fractions, walked: powers. -/
set_option linter.all false
namespace Go.Proofs.YtngccjllkgpjmaaGreat
open Go Go.Vx
set_option maxRecDepth 100000
set_option maxHeartbeats 4000000

def v98 : VF := { ntmps := 27, res := [.tmp 4, .tmp 5], body :=
 (.seq (.region [u1 4 .mov [.cn .nil],
 u1 5 .mov [.cn (.bool false)]])
 (.seq (.region [u1 8 (.call 68) [.cn (.int .u64 1)],
 u1 6 .mov [.tm 8]])
 (.seq (.seq (.region [u1 9 .mov [.tm 0],
 u1 10 .mov [.tm 6],
 u1 11 (.call 71) [.tm 9, .tm 10],
 u1 12 (.cmp .leq) [.tm 11, .cn (.int .i64 0)]])
 (.cond (.tm 12) (.region [u1 13 .mov [.tm 1],
 u1 14 .min [.tm 13, .cn (.int .i64 1)],
 u1 1 .mov [.tm 14]])
  .skip))
 (.seq (.seq (.region [u1 7 .mov [.cn (.int .i64 0)]])
 (.block 0 (.loop (.seq (.seq (.region [u1 15 .mov [.tm 7],
 u1 16 .mov [.tm 1],
 u1 17 (.cmp .lss) [.tm 15, .tm 16]])
 (.cond (.tm 17) .skip
  (.exit 0)))
 (.seq (.block 1 (.seq (.region [u1 20 .mov [.tm 6],
 u1 21 .mov [.tm 0],
 u1 22 (.call 90) [.tm 20, .tm 21],
 u1 6 .mov [.tm 22]])
 (.seq (.region [u1 23 .mov [.tm 6],
 u1 24 .len [.tm 23],
 u1 25 (.cmp .gtr) [.tm 24, .cn (.int .i64 512)]])
 (.cond (.tm 25) (.seq (.region [u1 4 .mov [.cn .nil],
 u1 5 .mov [.cn (.bool false)]])
 .ret)
  .skip))))
 (.region [u1 18 .mov [.tm 7],
 u1 19 (.ari .add) [.tm 18, .cn (.int .i64 1)],
 u1 7 .mov [.tm 19]]))))))
 (.seq (.region [u1 26 .mov [.tm 6],
 u1 4 .mov [.tm 26],
 u1 5 .mov [.cn (.bool true)]])
 .ret))))) }
theorem v98_is : vfunc Tryz.prog Tryz.f98 = some v98 := by kernel_rfl
def v79 : VF := { ntmps := 87, res := [.cell 4 true 3, .tmp 5], body :=
 (.seq (.region [u1 2 .box [.tm 0],
 u1 4 (.alloc [(.bool false), .nil, .nil]) [],
 u1 5 .mov [.cn (.int .i64 0)]])
 (.seq (.region [u1 13 (.load true 3) [.tm 2],
 u1 14 (.buildSlice 3 1 [(.bool false), .nil, .nil] [(0, 3)]) [.tm 13],
 u1 15 (.call 88) [.tm 14],
 u1 6 .mov [.tm 15]])
 (.seq (.seq (.region [u1 16 .mov [.tm 6],
 u1 17 (.cmp .eql) [.tm 16, .cn (.int .i64 0)],
 u1 18 .mov [.tm 17],
 u2 19 18 true .mov [.tm 1],
 u2 20 18 true (.cmp .lss) [.tm 19, .cn (.int .i64 (-2000))],
 u2 21 18 true .mov [.tm 20],
 u2 22 21 false .mov [.tm 1],
 u2 23 21 false (.cmp .gtr) [.tm 22, .cn (.int .i64 2000)],
 u2 24 18 true .or [.tm 21, .tm 23],
 u1 25 .and [.tm 18, .tm 24]])
 (.cond (.tm 25) (.region [u1 6 .mov [.cn (.int .i64 2)]])
  .skip))
 (.seq (.seq (.region [u1 26 .mov [.tm 6],
 u1 27 (.cmp .eql) [.tm 26, .cn (.int .i64 0)],
 u1 28 .mov [.tm 27],
 u2 29 28 true .mov [.tm 1],
 u2 30 28 true (.cmp .lss) [.tm 29, .cn (.int .i64 0)],
 u1 31 .and [.tm 28, .tm 30],
 u1 32 .mov [.tm 31],
 u2 33 32 true (.fieldAddr 1) [.tm 2],
 u2 34 32 true (.load false 1) [.tm 33],
 u2 35 32 true .len [.tm 34],
 u2 36 32 true (.cmp .eql) [.tm 35, .cn (.int .i64 0)],
 u1 37 .and [.tm 32, .tm 36]])
 (.cond (.tm 37) (.region [u1 6 .mov [.cn (.int .i64 4)]])
  .skip))
 (.seq (.seq (.region [u1 38 .mov [.tm 6],
 u1 39 (.cmp .neq) [.tm 38, .cn (.int .i64 0)]])
 (.cond (.tm 39) (.seq (.region [u1 40 (.build [(.bool false), .nil, .nil] []) [],
 u1 41 .mov [.tm 6],
 u0 (.store 3) [.tm 4, .tm 40],
 u1 5 .mov [.tm 41]])
 .ret)
  .skip))
 (.seq (.draw [] [w1 42 (.fieldAddr 1) [.tm 2],
 w1 43 (.load false 1) [.tm 42],
 w1 44 (.fieldAddr 2) [.tm 2],
 w1 45 (.load false 1) [.tm 44],
 w1 7 .mov [.tm 43],
 w1 8 .mov [.tm 45]])
 (.seq (.seq (.region [u1 46 .mov [.tm 1],
 u1 47 (.cmp .lss) [.tm 46, .cn (.int .i64 0)]])
 (.cond (.tm 47) (.region [u1 48 .mov [.tm 8],
 u1 49 .mov [.tm 7],
 u1 7 .mov [.tm 48],
 u1 8 .mov [.tm 49]])
  .skip))
 (.seq (.region [u1 51 .mov [.tm 7],
 u1 52 .mov [.tm 1],
 u1 53 .mov [.tm 1],
 u1 54 .neg [.tm 53],
 u1 55 .max [.tm 52, .tm 54],
 u1 56 (.call 98) [.tm 51, .tm 55],
 u1 50 .mov [.tm 56],
 u1 57 (.ext 0) [.tm 50],
 u1 58 (.ext 1) [.tm 50],
 u1 9 .mov [.tm 57],
 u1 10 .mov [.tm 58]])
 (.seq (.region [u1 60 .mov [.tm 8],
 u1 61 .mov [.tm 1],
 u1 62 .mov [.tm 1],
 u1 63 .neg [.tm 62],
 u1 64 .max [.tm 61, .tm 63],
 u1 65 (.call 98) [.tm 60, .tm 64],
 u1 59 .mov [.tm 65],
 u1 66 (.ext 0) [.tm 59],
 u1 67 (.ext 1) [.tm 59],
 u1 11 .mov [.tm 66],
 u1 12 .mov [.tm 67]])
 (.seq (.seq (.region [u1 68 .mov [.tm 10],
 u1 69 .not [.tm 68],
 u1 70 .mov [.tm 69],
 u2 71 70 false .mov [.tm 12],
 u2 72 70 false .not [.tm 71],
 u1 73 .or [.tm 70, .tm 72]])
 (.cond (.tm 73) (.seq (.region [u1 74 (.build [(.bool false), .nil, .nil] []) [],
 u0 (.store 3) [.tm 4, .tm 74],
 u1 5 .mov [.cn (.int .i64 3)]])
 .ret)
  .skip))
 (.seq (.region [u1 75 (.fieldAddr 0) [.tm 2],
 u1 76 (.load false 1) [.tm 75],
 u1 77 .mov [.tm 76],
 u2 78 77 true .mov [.tm 1],
 u2 79 77 true .rem [.tm 78, .cn (.int .i64 2)],
 u2 80 77 true (.cmp .neq) [.tm 79, .cn (.int .i64 0)],
 u1 81 .and [.tm 77, .tm 80],
 u1 82 .mov [.tm 9],
 u1 83 .mov [.tm 11],
 u1 84 (.call 89) [.tm 81, .tm 82, .tm 83],
 u1 85 (.ext 0) [.tm 84],
 u1 86 (.ext 1) [.tm 84],
 u0 (.store 3) [.tm 4, .tm 85],
 u1 5 .mov [.tm 86]])
 .ret))))))))))) }
theorem v79_is : vfunc Tryz.prog Tryz.f79 = some v79 := by kernel_rfl


def powerC : Ctr := { alias := false, of := fun l => match l with
  | [.vs _ _ n sz get, .int .i64 k] => .ex Nat fun a => .ex Nat fun e => .pre (padP a n sz get ∧ n = nl a ∧ k = (e : Int) ∧ e ≤ 20000 ∧ nl a ≤ 512 ∧ nl (a ^ e) ≤ 512) (.fin (.tup [natS false (a ^ e), .bool true]) [])
  | _ => noC }

def T0 : Env := { ct := fun n => match n with | 68 => some ofC | 71 => some orderC | 90 => some timesC | _ => none, fn := fun _ => none, meth := fun _ _ => none }
theorem T0_ct68 : T0.ct 68 = some ofC := rfl
theorem T0_ct71 : T0.ct 71 = some orderC := rfl
theorem T0_ct90 : T0.ct 90 = some timesC := rfl
theorem T0_ok : EnvOk Tryz.prog T0 := by
  refine ⟨fun f c h => ?_, fun f vf h => ?_, (fun _ _ _ h => by cases h), by kernel_rfl⟩
  · simp only [T0] at h
    split at h
    · cases h; exact ⟨of_ok, Tryz.f68, Tryz.func68, by kernel_rfl, by kernel_rfl⟩
    · cases h; exact ⟨order_ok, Tryz.f71, Tryz.func71, by kernel_rfl, by kernel_rfl⟩
    · cases h; exact ⟨times_ok, Tryz.f90, Tryz.func90, by kernel_rfl, by kernel_rfl⟩
    · cases h
  · cases h


theorem pow_cut (a e : Nat) (h : a ≤ 1) : a ^ (min e 1) = a ^ e := by
  rcases Nat.eq_zero_or_pos e with h0 | h0
  · subst h0; rfl
  · rw [Nat.min_eq_right h0, Nat.pow_one]
    rcases Nat.le_one_iff_eq_zero_or_eq_one.1 h with rfl | rfl
    · rw [Nat.zero_pow h0]
    · rw [Nat.one_pow]
theorem pow_fits {a e i : Nat} (he : nl (a ^ e) ≤ 512) (hi : i ≤ e) : nl (a ^ i) ≤ 512 := by
  rcases Nat.eq_zero_or_pos a with h | h
  · subst h
    rcases Nat.eq_zero_or_pos i with h0 | h0
    · subst h0; exact Nat.le_trans (nl_le (n := 1).2 (by decide)) (by decide)
    · rw [Nat.zero_pow h0, nl_0]; decide
  · exact Nat.le_trans (nl_mono (Nat.pow_le_pow_right h hi)) he
theorem ans_nb {k : SV → List HO → Prop} {al : Bool} {hp : List HO} {z b : Bool} {a : Nat} (h : k (.tup [natS z a, .bool b]) []) : answers al k (.tup [.vs true z (nl a) 1 (fun k => [.int .u32 (dig a k)]), .bool b]) hp :=
  ans_le h (le_self (.tup [natS z a, .bool b]) ⟨trivial, trivial, trivial⟩) (fun _ => by simp [natS, freshS, freshL])

theorem power_ok : powerC.ok Tryz.prog 98 := by
  refine contract Tryz.func98 v98_is T0_ok 300 powerC fun args k h => ?_
  simp only [powerC] at h
  split at h
  · rename_i t1 z1 n sz get e'
    obtain ⟨a, e, ⟨⟨rfl, hn, ha, hg⟩, rfl, rfl, he2, hna, hfit⟩, h⟩ := h
    refine ⟨[.vs t1 z1 (nl a) 1 (fun k => [.int .u32 (dig a k)]), .int .i64 e], ⟨by simpa [le] using hg, ⟨rfl, rfl⟩, trivial⟩, ?_⟩
    (try dsimp only [v98, T0_ct68, T0_ct71, T0_ct90, ofC, orderC, timesC, natS, go_sem, Option.bind, Option.map, List.append_nil, Nat.beq, List.cons_append, List.nil_append, List.append_eq, List.map_cons, List.map_nil, ite_self, reduceIte])
    (try simp only [true_and, and_true, imp_self, implies_true, decide_eq_true_eq, decide_eq_false_iff_not, Nat.reduceAdd, Nat.reduceLeDiff, Bool.not_not, reduceCtorEq, false_imp_iff, Bool.not_eq_true', Bool.not_eq_false', Bool.false_eq_true, and_self, forall_const, ne_eq, not_false_eq_true, Nat.reduceEqDiff])
    have h : k (.tup [natS false (a ^ e), .bool true]) [] := h
    refine ⟨by decide, a, 1, ⟨padP_nl (by omega), padP_nl (show nl 1 ≤ 100000 from Nat.le_trans (nl_le (n := 1).2 (by decide)) (by decide))⟩, fun hc => ?_, fun hc => ?_⟩
    · have ha1 : a ≤ 1 := by
        unfold ordN at hc
        split at hc
        · omega
        · split at hc <;> omega
      obtain ⟨K, hK⟩ : ∃ K : Nat, K = min e 1 := ⟨_, rfl⟩
      have hKv : a ^ K = a ^ e := by rw [hK]; exact pow_cut a e ha1
      have hKe : K ≤ e := by omega
      have hKi : min (e : Int) 1 = (K : Int) := by omega
      rw [hKi]
      refine Loop.keep [0, 0, 2, 0, 0, 0] Nat (fun i => [(6, .vs true false (nl (a ^ i)) 1 (fun k => [.int .u32 (dig (a ^ i) k)])), (7, .int .i64 i)]) (fun _ => []) [] (fun i => i ≤ K) (fun i => K - i) ?_ ?_
      · refine ⟨0, Nat.zero_le _, ?_⟩
        (try dsimp only [go_sem, Option.bind, Option.map, List.append_nil, Nat.beq, List.cons_append, List.nil_append, List.append_eq, List.map_cons, List.map_nil, ite_self, reduceIte])
        simp only [Nat.pow_zero, leS_mk, leL_cons, leL_nil, le_junk, le_int, le_bool, le_nil, leLL_nil, leLL_cons, leH_cons, leH_nil, leH1_box, leH1_own, leH1_gone, le_vs, le_agg, le_tup, le_ptr, le_own, le_xp, le_fn, le_opt, le_val, le_elem, le_nil_own, le_nil_vs, leH_ghost, leL_chunk, leXL_id, bnd_int, bnd_bool, bnd_val, bnd_nil, bnd_junk, bnd_vs, bnd_xp, bnd_agg, bnd_tup, bnd_ptr, bnd_own, bnd_elem, bnd_fn, bnd_iface, bnd_opt, bndL_nil, bndL_cons, lenH_cons, lenH_nil, imp_self, implies_true, true_and, and_true]
        simp
        exact fun k _ => leXL_self _
      · rintro i hi
        (try dsimp only [T0_ct90, timesC, natS, Int.toNat_natCast, go_sem, Option.bind, Option.map, List.append_nil, Nat.beq, List.cons_append, List.nil_append, List.append_eq, List.map_cons, List.map_nil, ite_self, reduceIte])
        (try simp only [true_and, and_true, imp_self, implies_true, decide_eq_true_eq, decide_eq_false_iff_not, Nat.reduceAdd, Nat.reduceLeDiff, Bool.not_not, reduceCtorEq, false_imp_iff, Bool.not_eq_true', Bool.not_eq_false', Bool.false_eq_true, and_self, forall_const, ne_eq, not_false_eq_true, Nat.reduceEqDiff])
        have hf1 := pow_fits hfit (show i ≤ e by omega)
        refine ⟨fun hlt => ⟨a ^ i, a, ⟨padP_nl (by omega), padP_nl (by omega), by omega⟩, fun hb => ?_, fun hb => ?_⟩, fun hge => ?_⟩
        · exfalso
          have hf2 := pow_fits hfit (show i + 1 ≤ e by omega)
          rw [Nat.pow_succ] at hf2; omega
        · refine ⟨i + 1, by omega, by omega, ?_⟩
          have hw : IntKind.i64.wrap ((i : Int) + 1) = ((i + 1 : Nat) : Int) := by rw [IntWalk.i64_in _ (by omega)]; omega
          simp only [hw, Nat.pow_succ, leS_mk, leL_cons, leL_nil, le_junk, le_int, le_bool, le_nil, leLL_nil, leLL_cons, leH_cons, leH_nil, leH1_box, leH1_own, leH1_gone, le_vs, le_agg, le_tup, le_ptr, le_own, le_xp, le_fn, le_opt, le_val, le_elem, le_nil_own, le_nil_vs, leH_ghost, leL_chunk, leXL_id, bnd_int, bnd_bool, bnd_val, bnd_nil, bnd_junk, bnd_vs, bnd_xp, bnd_agg, bnd_tup, bnd_ptr, bnd_own, bnd_elem, bnd_fn, bnd_iface, bnd_opt, bndL_nil, bndL_cons, lenH_cons, lenH_nil, imp_self, implies_true, true_and, and_true]
        · obtain rfl : i = K := by omega
          rw [hKv]
          exact ans_nb h
    · obtain ⟨K, hK⟩ : ∃ K : Nat, K = e := ⟨_, rfl⟩
      have hKv : a ^ K = a ^ e := by rw [hK]
      have hKe : K ≤ e := by omega
      have hKi : (e : Int) = (K : Int) := by omega
      rw [hKi]
      refine Loop.keep [0, 0, 2, 0, 0, 0] Nat (fun i => [(6, .vs true false (nl (a ^ i)) 1 (fun k => [.int .u32 (dig (a ^ i) k)])), (7, .int .i64 i)]) (fun _ => []) [] (fun i => i ≤ K) (fun i => K - i) ?_ ?_
      · refine ⟨0, Nat.zero_le _, ?_⟩
        (try dsimp only [go_sem, Option.bind, Option.map, List.append_nil, Nat.beq, List.cons_append, List.nil_append, List.append_eq, List.map_cons, List.map_nil, ite_self, reduceIte])
        simp only [Nat.pow_zero, leS_mk, leL_cons, leL_nil, le_junk, le_int, le_bool, le_nil, leLL_nil, leLL_cons, leH_cons, leH_nil, leH1_box, leH1_own, leH1_gone, le_vs, le_agg, le_tup, le_ptr, le_own, le_xp, le_fn, le_opt, le_val, le_elem, le_nil_own, le_nil_vs, leH_ghost, leL_chunk, leXL_id, bnd_int, bnd_bool, bnd_val, bnd_nil, bnd_junk, bnd_vs, bnd_xp, bnd_agg, bnd_tup, bnd_ptr, bnd_own, bnd_elem, bnd_fn, bnd_iface, bnd_opt, bndL_nil, bndL_cons, lenH_cons, lenH_nil, imp_self, implies_true, true_and, and_true]
        simp
        exact fun k _ => leXL_self _
      · rintro i hi
        (try dsimp only [T0_ct90, timesC, natS, Int.toNat_natCast, go_sem, Option.bind, Option.map, List.append_nil, Nat.beq, List.cons_append, List.nil_append, List.append_eq, List.map_cons, List.map_nil, ite_self, reduceIte])
        (try simp only [true_and, and_true, imp_self, implies_true, decide_eq_true_eq, decide_eq_false_iff_not, Nat.reduceAdd, Nat.reduceLeDiff, Bool.not_not, reduceCtorEq, false_imp_iff, Bool.not_eq_true', Bool.not_eq_false', Bool.false_eq_true, and_self, forall_const, ne_eq, not_false_eq_true, Nat.reduceEqDiff])
        have hf1 := pow_fits hfit (show i ≤ e by omega)
        refine ⟨fun hlt => ⟨a ^ i, a, ⟨padP_nl (by omega), padP_nl (by omega), by omega⟩, fun hb => ?_, fun hb => ?_⟩, fun hge => ?_⟩
        · exfalso
          have hf2 := pow_fits hfit (show i + 1 ≤ e by omega)
          rw [Nat.pow_succ] at hf2; omega
        · refine ⟨i + 1, by omega, by omega, ?_⟩
          have hw : IntKind.i64.wrap ((i : Int) + 1) = ((i + 1 : Nat) : Int) := by rw [IntWalk.i64_in _ (by omega)]; omega
          simp only [hw, Nat.pow_succ, leS_mk, leL_cons, leL_nil, le_junk, le_int, le_bool, le_nil, leLL_nil, leLL_cons, leH_cons, leH_nil, leH1_box, leH1_own, leH1_gone, le_vs, le_agg, le_tup, le_ptr, le_own, le_xp, le_fn, le_opt, le_val, le_elem, le_nil_own, le_nil_vs, leH_ghost, leL_chunk, leXL_id, bnd_int, bnd_bool, bnd_val, bnd_nil, bnd_junk, bnd_vs, bnd_xp, bnd_agg, bnd_tup, bnd_ptr, bnd_own, bnd_elem, bnd_fn, bnd_iface, bnd_opt, bndL_nil, bndL_cons, lenH_cons, lenH_nil, imp_self, implies_true, true_and, and_true]
        · obtain rfl : i = K := by omega
          rw [hKv]
          exact ans_nb h
  · exact h.1.elim

theorem pow_sgn (neg : Bool) (a e : Nat) : (nsg neg a) ^ e = nsg (neg && decide (e % 2 = 1)) (a ^ e) := by
  cases neg
  · simp [nsg]
  · simp only [nsg, if_true, Bool.true_and]
    induction e with
    | zero => simp
    | succ e ih =>
      rw [Int.pow_succ, ih]
      rcases Nat.mod_two_eq_zero_or_one e with h | h
      · have h2 : (e + 1) % 2 = 1 := by omega
        simp [h, h2, Nat.pow_succ, Int.mul_neg, Int.neg_mul, Int.neg_mul_neg]
      · have h2 : (e + 1) % 2 = 0 := by omega
        simp [h, h2, Nat.pow_succ, Int.mul_neg, Int.neg_mul, Int.neg_mul_neg]
theorem q_pow {p : Fr} (hp : 0 < p.2) (e : Nat) : rnum (nsg (decide (p.1 < 0) && decide (e % 2 = 1)) (rnum p.1 p.2 ^ e)) (rden p.1 p.2 ^ e) = rnum (p.1 ^ e) (p.2 ^ e) ∧ rden (nsg (decide (p.1 < 0) && decide (e % 2 = 1)) (rnum p.1 p.2 ^ e)) (rden p.1 p.2 ^ e) = rden (p.1 ^ e) (p.2 ^ e) ∧ decide (nsg (decide (p.1 < 0) && decide (e % 2 = 1)) (rnum p.1 p.2 ^ e) < 0) = decide (p.1 ^ e < 0) := by
  have hg : 0 < fg p.1 p.2 ^ e := Nat.pow_pos (fg_pos hp)
  have e1 : p.1 ^ e = nsg (decide (p.1 < 0) && decide (e % 2 = 1)) (rnum p.1 p.2 ^ e) * ((fg p.1 p.2 ^ e : Nat) : Int) := by
    conv => lhs; rw [n_eq p.1 p.2, Int.mul_pow, pow_sgn]
    rw [Int.natCast_pow]
  have e2 : p.2 ^ e = rden p.1 p.2 ^ e * fg p.1 p.2 ^ e := by
    conv => lhs; rw [← rden_mul p.1 p.2, Nat.mul_pow]
  have r := r_scale (n := nsg (decide (p.1 < 0) && decide (e % 2 = 1)) (rnum p.1 p.2 ^ e)) (d := rden p.1 p.2 ^ e) hg
  rw [← e1, ← e2] at r
  exact ⟨r.1.symm, r.2.1.symm, r.2.2.symm⟩

def qpowC : Ctr := { alias := false, of := fun l => match l with
  | [.agg [.bool neg, .vs _ z1 n1 s1 g1, .vs _ z2 n2 s2 g2], .int .i64 k] => .ex Fr fun p => .ex Nat fun e => .pre (fracP p neg z1 n1 s1 g1 z2 n2 s2 g2 ∧ k = (e : Int) ∧ e ≤ 2000 ∧ nl (rnum p.1 p.2 ^ e) ≤ 512 ∧ nl (rden p.1 p.2 ^ e) ≤ 512) (.fin (.tup [.agg (encF true (p.1 ^ e, p.2 ^ e)), .int .i64 0]) [])
  | _ => noC }

def T1 : Env := { ct := fun n => match n with | 88 => some badqC | 98 => some powerC | 89 => some lowestC | _ => none, fn := fun _ => none, meth := fun _ _ => none }
theorem T1_ct88 : T1.ct 88 = some badqC := rfl
theorem T1_ct98 : T1.ct 98 = some powerC := rfl
theorem T1_ct89 : T1.ct 89 = some lowestC := rfl
theorem T1_ok : EnvOk Tryz.prog T1 := by
  refine ⟨fun f c h => ?_, fun f vf h => ?_, (fun _ _ _ h => by cases h), by kernel_rfl⟩
  · simp only [T1] at h
    split at h
    · cases h; exact ⟨badq_ok, Tryz.f88, Tryz.func88, by kernel_rfl, by kernel_rfl⟩
    · cases h; exact ⟨power_ok, Tryz.f98, Tryz.func98, by kernel_rfl, by kernel_rfl⟩
    · cases h; exact ⟨lowest_ok, Tryz.f89, Tryz.func89, by kernel_rfl, by kernel_rfl⟩
    · cases h
  · cases h


theorem qpow_ok : qpowC.ok Tryz.prog 79 := by
  refine contract Tryz.func79 v79_is T1_ok 300 qpowC fun args k h => ?_
  simp only [qpowC] at h
  split at h
  · rename_i neg t1 z1 n1 s1 g1 t2 z2 n2 s2 g2 k'
    obtain ⟨p, e, ⟨hp, rfl, he, hfn, hfd⟩, h⟩ := h
    refine ⟨[.agg (encF false p), .int .i64 e], ⟨fr_le hp, ⟨rfl, rfl⟩, trivial⟩, ?_⟩
    have hok := hp.1
    clear hp
    (try dsimp only [v79, T1_ct88, T1_ct98, T1_ct89, badqC, powerC, lowestC, natS, natV, encF, go_sem, Option.bind, Option.map, List.append_nil, Nat.beq, List.cons_append, List.nil_append, List.append_eq, List.map_cons, List.map_nil, ite_self, reduceIte])
    simp only [true_and, and_true, imp_self, implies_true, decide_eq_true_eq, decide_eq_false_iff_not, Nat.reduceAdd, Nat.reduceLeDiff, Bool.not_not, reduceCtorEq, false_imp_iff, Bool.not_eq_true', Bool.not_eq_false', Bool.false_eq_true, and_self, forall_const, ne_eq, not_false_eq_true, Nat.reduceEqDiff, decide_true, decide_false, Bool.and_true, Bool.true_and, Bool.and_false, Bool.false_and, Bool.not_true, Bool.not_false, Bool.or_false, Bool.false_or, Bool.or_true, Bool.true_or, Bool.and_self, Bool.or_self, Bool.false_eq_true, Bool.true_eq_false, false_imp_iff, forall_const, true_and, and_true, implies_true, reduceCtorEq, not_true_eq_false, not_false_eq_true, ite_true, ite_false]
    have h : k (.tup [.agg (encF true (p.1 ^ e, p.2 ^ e)), .int .i64 0]) [] := h
    have hn : IntKind.i64.wrap (0 - (e : Int)) = -(e : Int) := by rw [IntWalk.i64_in _ (by omega)]; omega
    have hm : max (e : Int) (-(e : Int)) = (e : Int) := by omega
    simp only [hn, hm]
    refine ⟨by decide, [p], ⟨⟨rfl, rfl, fun k hk => match k, hk with | 0, _ => leXL_self (encF false p)⟩, by simp, list1 hok⟩, fun hb => ?_, fun hb => ?_⟩
    · exfalso; simp only [Bool.or_eq_true, decide_eq_true_eq] at hb; omega
    · refine ⟨fun hb2 => ?_, fun hb2 => ?_⟩
      · exfalso; simp only [Bool.and_eq_true, decide_eq_true_eq] at hb2; omega
      · have hev : (!decide ((e : Int).tmod 2 = 0)) = decide (e % 2 = 1) := by
          have e2 : (e : Int).tmod 2 = ((e % 2 : Nat) : Int) := IntWalk.up_tmod (y := 2) rfl rfl
          rw [e2, Bool.eq_iff_iff, Bool.not_eq_true', decide_eq_false_iff_not, decide_eq_true_eq]; omega
        simp only [hev]
        have ⟨hp0, hp1, hp2⟩ := hok
        have hd : 0 < rden p.1 p.2 ^ e := Nat.pow_pos (rden_pos hp0)
        have hM : frOk (nsg (decide (p.1 < 0) && decide (e % 2 = 1)) (rnum p.1 p.2 ^ e), rden p.1 p.2 ^ e) := by
          refine ⟨hd, Nat.le_trans (nl_mono (rnum_le _ _)) ?_, Nat.le_trans (nl_mono (rden_le _ _)) hfd⟩
          dsimp only; rw [nsg_abs]; exact hfn
        refine ⟨fun hneg => by exfalso; omega, fun _ => ⟨rnum p.1 p.2, e, ⟨padP_nl (by omega), rfl, rfl, by omega, hp1, hfn⟩, by decide, by decide, rden p.1 p.2, e, ⟨padP_nl (by omega), rfl, rfl, by omega, hp2, hfd⟩, by decide, by decide, fun _ => by decide,
          rnum p.1 p.2 ^ e, rden p.1 p.2 ^ e, ⟨padP_nl (by omega), rfl, padP_nl (by omega), rfl, hd, by omega, by omega, hM⟩, by decide, by decide, ?_⟩⟩
        have eq := encF_eq (t := true) (p := (nsg (decide (p.1 < 0) && decide (e % 2 = 1)) (rnum p.1 p.2 ^ e), rden p.1 p.2 ^ e)) (q := (p.1 ^ e, p.2 ^ e)) (q_pow hp0 e)
        rw [← eq] at h
        exact ans_fr h
  · exact h.1.elim
end Go.Proofs.YtngccjllkgpjmaaGreat

/- Intervals, walked: the reference's Disc, Pow. -/
/- Intervals, walked: the reference's Disc, Pow. -/
set_option linter.all false
namespace Go.Proofs.YtngccjllkgpjmaaGreat
open Go Go.Vx
set_option maxRecDepth 100000
set_option maxHeartbeats 4000000

def v54 : VF := { ntmps := 55, res := [.cell 2 true 2, .tmp 3], body :=
 (.seq (.region [u1 1 .box [.tm 0],
 u1 2 (.alloc [(.int .i64 0), (.int .i64 0)]) [],
 u1 3 .mov [.cn (.int .i64 0)]])
 (.seq (.region [u1 9 (.load true 2) [.tm 1],
 u1 10 (.call 62) [.tm 9],
 u1 4 .mov [.tm 10]])
 (.seq (.seq (.region [u1 11 .mov [.tm 4],
 u1 12 (.cmp .eql) [.tm 11, .cn (.int .i64 0)],
 u1 13 .mov [.tm 12],
 u2 14 13 true (.fieldAddr 0) [.tm 1],
 u2 15 13 true (.load false 1) [.tm 14],
 u2 16 13 true (.cmp .lss) [.tm 15, .cn (.int .i64 0)],
 u1 17 .and [.tm 13, .tm 16]])
 (.cond (.tm 17) (.region [u1 4 .mov [.cn (.int .i64 9)]])
  .skip))
 (.seq (.seq (.region [u1 18 .mov [.tm 4],
 u1 19 (.cmp .neq) [.tm 18, .cn (.int .i64 0)]])
 (.cond (.tm 19) (.seq (.region [u1 20 (.build [(.int .i64 0), (.int .i64 0)] []) [],
 u1 21 .mov [.tm 4],
 u0 (.store 2) [.tm 2, .tm 20],
 u1 3 .mov [.tm 21]])
 .ret)
  .skip))
 (.seq (.region [u1 23 (.fieldAddr 0) [.tm 1],
 u1 24 (.load false 1) [.tm 23],
 u1 25 (.call 65) [.tm 24],
 u1 26 (.call 79) [.tm 25, .cn (.int .i64 2)],
 u1 22 .mov [.tm 26],
 u1 27 (.ext 0) [.tm 22],
 u1 28 (.ext 1) [.tm 22],
 u1 5 (.alloc [(.bool false), .nil, .nil]) [],
 u0 (.store 3) [.tm 5, .tm 27],
 u1 6 .mov [.tm 28]])
 (.seq (.region [u1 30 (.fieldAddr 1) [.tm 1],
 u1 31 (.load false 1) [.tm 30],
 u1 32 (.call 65) [.tm 31],
 u1 33 (.call 79) [.tm 32, .cn (.int .i64 2)],
 u1 29 .mov [.tm 33],
 u1 34 (.ext 0) [.tm 29],
 u1 35 (.ext 1) [.tm 29],
 u1 7 (.alloc [(.bool false), .nil, .nil]) [],
 u0 (.store 3) [.tm 7, .tm 34],
 u1 8 .mov [.tm 35]])
 (.seq (.draw [] [w1 37 (.load true 3) [.tm 5],
 w1 38 (.call 63) [.cn (.int .i64 1), .cn (.int .i64 4)],
 w1 39 (.call 64) [.tm 37, .tm 38],
 w1 36 .mov [.tm 39],
 w1 40 (.ext 0) [.tm 36],
 w1 41 (.ext 1) [.tm 36],
 w0 (.store 3) [.tm 5, .tm 40]])
 (.seq (.draw [] [w1 43 (.load true 3) [.tm 7],
 w1 44 (.call 63) [.cn (.int .i64 1), .cn (.int .i64 4)],
 w1 45 (.call 64) [.tm 43, .tm 44],
 w1 42 .mov [.tm 45],
 w1 46 (.ext 0) [.tm 42],
 w1 47 (.ext 1) [.tm 42],
 w0 (.store 3) [.tm 7, .tm 46]])
 (.seq (.region [u1 48 (.load true 3) [.tm 5],
 u1 49 (.load true 3) [.tm 7],
 u1 50 (.buildSlice 3 2 [(.bool false), .nil, .nil] [(0, 3), (3, 3)]) [.tm 48, .tm 49],
 u1 51 (.call 80) [.tm 50],
 u1 52 (.call 66) [.tm 51],
 u1 53 (.ext 0) [.tm 52],
 u1 54 (.ext 1) [.tm 52],
 u0 (.store 2) [.tm 2, .tm 53],
 u1 3 .mov [.tm 54]])
 .ret))))))))) }
theorem v54_is : vfunc Tryz.prog Tryz.f54 = some v54 := by kernel_rfl


def S6 : Env := { ct := fun n => match n with | 62 => some iv1C | 65 => some quoiC | 63 => some ofrC | 64 => some qmulC | 79 => some qpowC | 80 => some pisC | 66 => some spanqC | _ => none, fn := fun _ => none, meth := fun _ _ => none }
theorem S6_ct62 : S6.ct 62 = some iv1C := rfl
theorem S6_ct65 : S6.ct 65 = some quoiC := rfl
theorem S6_ct63 : S6.ct 63 = some ofrC := rfl
theorem S6_ct64 : S6.ct 64 = some qmulC := rfl
theorem S6_ct79 : S6.ct 79 = some qpowC := rfl
theorem S6_ct80 : S6.ct 80 = some pisC := rfl
theorem S6_ct66 : S6.ct 66 = some spanqC := rfl
theorem S6_ok : EnvOk Tryz.prog S6 := by
  refine ⟨fun f c h => ?_, fun f vf h => ?_, (fun _ _ _ h => by cases h), by kernel_rfl⟩
  · simp only [S6] at h
    split at h
    · cases h; exact ⟨rcheck_ok, Tryz.f62, Tryz.func62, by kernel_rfl, by kernel_rfl⟩
    · cases h; exact ⟨quoi_ok, Tryz.f65, Tryz.func65, by kernel_rfl, by kernel_rfl⟩
    · cases h; exact ⟨ofr_ok, Tryz.f63, Tryz.func63, by kernel_rfl, by kernel_rfl⟩
    · cases h; exact ⟨qmul_ok, Tryz.f64, Tryz.func64, by kernel_rfl, by kernel_rfl⟩
    · cases h; exact ⟨qpow_ok, Tryz.f79, Tryz.func79, by kernel_rfl, by kernel_rfl⟩
    · cases h; exact ⟨pis_ok, Tryz.f80, Tryz.func80, by kernel_rfl, by kernel_rfl⟩
    · cases h; exact ⟨spanq_ok, Tryz.f66, Tryz.func66, by kernel_rfl, by kernel_rfl⟩
    · cases h
  · cases h


theorem sq_fit {x : Int} (hx : -4611686018427387904 ≤ x ∧ x ≤ 4611686018427387904) : nl (rnum x 1 ^ 2) ≤ 512 ∧ nl (rden x 1 ^ 2) ≤ 512 ∧ x ^ 2 = x * x ∧ (x ^ 2).natAbs < 4294967296 ^ 5 := by
  have q : x ^ 2 = x * x := by rw [Int.pow_succ, Int.pow_succ, Int.pow_zero, Int.one_mul]
  have m := mul_bnd (M := 4611686018427387904) (N := 4611686018427387904) hx hx
  have h1 : x.natAbs ^ 2 < 4294967296 ^ 5 := by
    have := Nat.pow_le_pow_left (show x.natAbs ≤ 4611686018427387904 by omega) 2
    omega
  refine ⟨?_, ?_, q, by rw [q]; omega⟩
  · rw [rnum_1]; exact Nat.le_trans (nl_le (n := 5).2 h1) (by decide)
  · rw [rden_1]; exact Nat.le_trans (nl_le (n := 1).2 (by decide)) (by decide)

theorem rdisc_ok : discC.ok Tryz.prog 54 := by
  refine contract Tryz.func54 v54_is S6_ok 400 discC fun args k h => ⟨args, ?_⟩
  simp only [discC, ivoC] at h
  split at h
  · rename_i x y
    refine ⟨by simp [leL, le], ?_⟩
    (try dsimp only [v54, S6_ct62, S6_ct65, S6_ct63, S6_ct64, S6_ct79, S6_ct80, S6_ct66, iv1C, quoiC, ofrC, qmulC, qpowC, pisC, frsR, spanqC, enc2, encF, natV, go_sem, Option.bind, Option.map, List.append_nil, Nat.beq, List.cons_append, List.nil_append, List.append_eq, List.map_cons, List.map_nil, ite_self, reduceIte])
    (try simp only [true_and, and_true, imp_self, implies_true, decide_eq_true_eq, decide_eq_false_iff_not, Nat.reduceAdd, Nat.reduceLeDiff, Bool.not_not, reduceCtorEq, false_imp_iff, Bool.not_eq_true', Bool.not_eq_false', Bool.false_eq_true, and_self, forall_const, ne_eq, not_false_eq_true, Nat.reduceEqDiff])
    have h : k (.tup [.agg (enc2 (discF (x, y)).1), .int .i64 (discF (x, y)).2]) [] := h
    simp only [show Int.toNat 4 = 4 from rfl]
    refine ⟨fun hb => ⟨fun _ => ?_, fun h9 => absurd h9 (by decide)⟩, fun hb => ⟨fun he => ?_, fun he => ?_⟩⟩
    · simp only [Bool.and_eq_true, decide_eq_true_eq] at hb
      rw [discF, if_neg (by omega), if_pos hb.2] at h
      exact ans_iv h
    · rw [discF, if_pos he] at h
      exact ans_iv h
    · have hx0 : ¬ x < 0 := by
        intro hx0
        have : (decide (ivE [(x, y)] = 0) && decide (x < 0)) = true := by simp [he, hx0]
        rw [this] at hb; cases hb
      rw [discF, if_neg (by omega), if_neg hx0] at h
      obtain ⟨hx, hy, hxy⟩ := ivE1 he
      dsimp only at hx hy hxy
      obtain ⟨fx1, fx2, fx3, fx4⟩ := sq_fit hx
      obtain ⟨fy1, fy2, fy3, fy4⟩ := sq_fit hy
      have hf4 : frOk (1, 4) := frOk_8 (show 0 < 4 by decide) (show Int.natAbs 1 < 4294967296 ^ 8 by decide) (show 4 < 4294967296 ^ 8 by decide)
      have hqx : frOk (x ^ 2, 1 ^ 2) := frOk_8 (show 0 < 1 ^ 2 by decide) (by dsimp only; omega) (show 1 ^ 2 < 4294967296 ^ 8 by decide)
      have hqy : frOk (y ^ 2, 1 ^ 2) := frOk_8 (show 0 < 1 ^ 2 by decide) (by dsimp only; omega) (show 1 ^ 2 < 4294967296 ^ 8 by decide)
      have hX : frOk (x ^ 2 * 1, 1 ^ 2 * 4) := frOk_8 (show 0 < 1 ^ 2 * 4 by decide) (by dsimp only; omega) (show 1 ^ 2 * 4 < 4294967296 ^ 8 by decide)
      have hY : frOk (y ^ 2 * 1, 1 ^ 2 * 4) := frOk_8 (show 0 < 1 ^ 2 * 4 by decide) (by dsimp only; omega) (show 1 ^ 2 * 4 < 4294967296 ^ 8 by decide)
      have hP := pis2_ok (x := x ^ 2 * 1) (y := y ^ 2 * 1) (d := 1 ^ 2 * 4) ⟨by decide, by decide⟩ (by omega) (by omega)
      refine ⟨hx, (x, 1), 2, ⟨fracP_self (frOk_1 hx), rfl, by decide, fx1, fx2⟩, by decide, by decide, hy, (y, 1), 2, ⟨fracP_self (frOk_1 hy), rfl, by decide, fy1, fy2⟩, by decide, by decide,
        ⟨⟨by decide, by decide⟩, by decide, by decide⟩, (x ^ 2, 1 ^ 2), (1, 4), ⟨fracP_self hqx, fracP_self hf4, hX⟩, by decide, by decide,
        ⟨⟨by decide, by decide⟩, by decide, by decide⟩, (y ^ 2, 1 ^ 2), (1, 4), ⟨fracP_self hqy, fracP_self hf4, hY⟩, by decide, by decide, by decide,
        [(x ^ 2 * 1, 1 ^ 2 * 4), (y ^ 2 * 1, 1 ^ 2 * 4)], ⟨⟨rfl, rfl, fun k hk => match k, hk with | 0, _ => leXL_self (encF false (x ^ 2 * 1, 1 ^ 2 * 4)) | 1, _ => leXL_self (encF false (y ^ 2 * 1, 1 ^ 2 * 4))⟩, by simp, list2 hX hY, hP⟩,
        (x ^ 2 * 1 * 3141592653589793238, 1 ^ 2 * 4 * 1000000000000000000), [(x ^ 2 * 1 * 3141592653589793239, 1 ^ 2 * 4 * 1000000000000000000), (y ^ 2 * 1 * 3141592653589793238, 1 ^ 2 * 4 * 1000000000000000000), (y ^ 2 * 1 * 3141592653589793239, 1 ^ 2 * 4 * 1000000000000000000)],
        ⟨⟨rfl, rfl, fun k hk => leXL_self (encF false ((pisF [(x ^ 2 * 1, 1 ^ 2 * 4), (y ^ 2 * 1, 1 ^ 2 * 4)]).getD k default))⟩, by simp, hP⟩, by decide, by decide, ?_⟩
      have e := spanQ_one (d := 1 ^ 2 * 4 * 1000000000000000000) (by decide) (x ^ 2 * 1 * 3141592653589793238) [x ^ 2 * 1 * 3141592653589793239, y ^ 2 * 1 * 3141592653589793238, y ^ 2 * 1 * 3141592653589793239]
      have e2 : ((1 ^ 2 * 4 * 1000000000000000000 : Nat) : Int) = 4000000000000000000 := rfl
      rw [e2] at e
      have e3 : spanQ (x ^ 2 * 1 * 3141592653589793238, 1 ^ 2 * 4 * 1000000000000000000) [(x ^ 2 * 1 * 3141592653589793239, 1 ^ 2 * 4 * 1000000000000000000), (y ^ 2 * 1 * 3141592653589793238, 1 ^ 2 * 4 * 1000000000000000000), (y ^ 2 * 1 * 3141592653589793239, 1 ^ 2 * 4 * 1000000000000000000)] = spanI 4000000000000000000 (x ^ 2 * 1 * 3141592653589793238) [x ^ 2 * 1 * 3141592653589793239, y ^ 2 * 1 * 3141592653589793238, y ^ 2 * 1 * 3141592653589793239] := e
      rw [e3]
      have k1 : x * x ≤ x * y := Int.mul_le_mul_of_nonneg_left hxy (by omega)
      have k2 : x * y ≤ y * y := Int.mul_le_mul_of_nonneg_right hxy (by omega)
      have k3 : 0 ≤ x * x := Int.mul_nonneg (by omega) (by omega)
      have e4 : spanI 4000000000000000000 (x ^ 2 * 1 * 3141592653589793238) [x ^ 2 * 1 * 3141592653589793239, y ^ 2 * 1 * 3141592653589793238, y ^ 2 * 1 * 3141592653589793239] = spanR (discN false x) (discN true y) := by
        rw [fx3, fy3, spanI, lowI3, highI3]
        have a1 : lo4 (x * x * 1 * 3141592653589793238) (x * x * 1 * 3141592653589793239) (y * y * 1 * 3141592653589793238) (y * y * 1 * 3141592653589793239) = x * x * 3141592653589793238 := by
          generalize x * x = X at *
          generalize y * y = Y at *
          unfold lo4; omega
        have a2 : hi4 (x * x * 1 * 3141592653589793238) (x * x * 1 * 3141592653589793239) (y * y * 1 * 3141592653589793238) (y * y * 1 * 3141592653589793239) = y * y * 3141592653589793239 := by
          generalize x * x = X at *
          generalize y * y = Y at *
          unfold hi4; omega
        rw [a1, a2]; rfl
      rw [e4]
      exact ans_iv h
  · exact h.1.elim

end Go.Proofs.YtngccjllkgpjmaaGreat

/- Fractions with the other sign, differences; the corners of two intervals: walked. -/
/- Fractions with the other sign, differences; the corners of two intervals: walked. -/
set_option linter.all false
namespace Go.Proofs.YtngccjllkgpjmaaGreat
open Go Go.Vx
set_option maxRecDepth 100000
set_option maxHeartbeats 4000000

def v117 : VF := { ntmps := 17, res := [.cell 2 true 3], body :=
 (.seq (.region [u1 1 .box [.tm 0],
 u1 2 (.alloc [(.bool false), .nil, .nil]) []])
 (.seq (.region [u1 3 (.fieldAddr 0) [.tm 1],
 u1 4 (.load false 1) [.tm 3],
 u1 5 .not [.tm 4],
 u1 6 .mov [.tm 5],
 u2 7 6 true (.fieldAddr 1) [.tm 1],
 u2 8 6 true (.load false 1) [.tm 7],
 u2 9 6 true .len [.tm 8],
 u2 10 6 true (.cmp .gtr) [.tm 9, .cn (.int .i64 0)],
 u1 11 .and [.tm 6, .tm 10],
 u1 12 (.fieldAddr 1) [.tm 1],
 u1 13 (.load false 1) [.tm 12],
 u1 14 (.fieldAddr 2) [.tm 1],
 u1 15 (.load false 1) [.tm 14],
 u1 16 (.build [(.bool false), .nil, .nil] [(0, 1), (1, 1), (2, 1)]) [.tm 11, .tm 13, .tm 15],
 u0 (.store 3) [.tm 2, .tm 16]])
 .ret)) }
theorem v117_is : vfunc Tryz.prog Tryz.f117 = some v117 := by kernel_rfl
def v113 : VF := { ntmps := 21, res := [.cell 4 true 3, .tmp 5], body :=
 (.seq (.region [u1 2 .box [.tm 0],
 u1 3 .box [.tm 1],
 u1 4 (.alloc [(.bool false), .nil, .nil]) [],
 u1 5 .mov [.cn (.int .i64 0)]])
 (.seq (.region [u1 7 (.load true 3) [.tm 2],
 u1 8 (.load true 3) [.tm 3],
 u1 9 (.buildSlice 3 2 [(.bool false), .nil, .nil] [(0, 3), (3, 3)]) [.tm 7, .tm 8],
 u1 10 (.call 88) [.tm 9],
 u1 6 .mov [.tm 10]])
 (.seq (.seq (.region [u1 11 .mov [.tm 6],
 u1 12 (.cmp .neq) [.tm 11, .cn (.int .i64 0)]])
 (.cond (.tm 12) (.seq (.region [u1 13 (.build [(.bool false), .nil, .nil] []) [],
 u1 14 .mov [.tm 6],
 u0 (.store 3) [.tm 4, .tm 13],
 u1 5 .mov [.tm 14]])
 .ret)
  .skip))
 (.seq (.draw [] [w1 15 (.load true 3) [.tm 2],
 w1 16 (.load true 3) [.tm 3],
 w1 17 (.call 117) [.tm 16],
 w1 18 (.call 112) [.tm 15, .tm 17],
 w1 19 (.ext 0) [.tm 18],
 w1 20 (.ext 1) [.tm 18],
 w0 (.store 3) [.tm 4, .tm 19],
 w1 5 .mov [.tm 20]])
 .ret)))) }
theorem v113_is : vfunc Tryz.prog Tryz.f113 = some v113 := by kernel_rfl
def v104 : VF := { ntmps := 100, res := [.tmp 6], body :=
 (.seq (.region [u1 3 .box [.tm 0],
 u1 4 .box [.tm 1],
 u1 6 .mov [.cn .nil]])
 (.seq (.region [u1 7 .mov [.cn .nil]])
 (.seq (.region [u1 13 (.fieldAddr 0) [.tm 3],
 u1 14 (.load false 1) [.tm 13],
 u1 15 (.fieldAddr 1) [.tm 3],
 u1 16 (.load false 1) [.tm 15],
 u1 17 (.buildSlice 1 2 [(.int .i64 0)] [(0, 1), (1, 1)]) [.tm 14, .tm 16],
 u1 8 .mov [.tm 17]])
 (.seq (.region [u1 18 (.fieldAddr 0) [.tm 4],
 u1 19 (.load false 1) [.tm 18],
 u1 20 (.fieldAddr 1) [.tm 4],
 u1 21 (.load false 1) [.tm 20],
 u1 22 (.buildSlice 1 2 [(.int .i64 0)] [(0, 1), (1, 1)]) [.tm 19, .tm 21],
 u1 9 .mov [.tm 22]])
 (.seq (.seq (.region [u1 10 .mov [.cn (.int .i64 0)]])
 (.block 0 (.loop (.seq (.seq (.region [u1 23 .mov [.tm 10],
 u1 24 (.cmp .lss) [.tm 23, .cn (.int .i64 2)]])
 (.cond (.tm 24) .skip
  (.exit 0)))
 (.seq (.block 1 (.seq (.region [u1 11 .mov [.cn (.int .i64 0)]])
 (.block 2 (.loop (.seq (.seq (.region [u1 27 .mov [.tm 11],
 u1 28 (.cmp .lss) [.tm 27, .cn (.int .i64 2)]])
 (.cond (.tm 28) .skip
  (.exit 2)))
 (.seq (.block 3 (.seq (.region [u1 31 (.build [(.bool false), .nil, .nil] []) [],
 u1 12 (.alloc [(.bool false), .nil, .nil]) [],
 u0 (.store 3) [.tm 12, .tm 31]])
 (.seq (.seq (.region [u1 32 .mov [.tm 2]])
 (.block 4 (.seq (.region [u1 48 (.cmp .eql) [.tm 32, .cn (.int .i64 0)],
 u1 47 .mov [.tm 48]])
 (.cond (.tm 47) (.draw [] [w1 50 .mov [.tm 8],
 w1 51 .mov [.tm 10],
 w1 52 (.idxAddr 1) [.tm 50, .tm 51],
 w1 53 (.load false 1) [.tm 52],
 w1 55 .mov [.tm 9],
 w1 56 .mov [.tm 11],
 w1 57 (.idxAddr 1) [.tm 55, .tm 56],
 w1 58 (.load false 1) [.tm 57],
 w1 54 (.call 65) [.tm 53],
 w1 59 (.call 65) [.tm 58],
 w1 60 (.call 112) [.tm 54, .tm 59],
 w1 49 .mov [.tm 60],
 w1 61 (.ext 0) [.tm 49],
 w1 62 (.ext 1) [.tm 49],
 w0 (.store 3) [.tm 12, .tm 61]])
  (.seq (.region [u1 64 (.cmp .eql) [.tm 32, .cn (.int .i64 1)],
 u1 63 .mov [.tm 64]])
 (.cond (.tm 63) (.draw [] [w1 66 .mov [.tm 8],
 w1 67 .mov [.tm 10],
 w1 68 (.idxAddr 1) [.tm 66, .tm 67],
 w1 69 (.load false 1) [.tm 68],
 w1 71 .mov [.tm 9],
 w1 72 .mov [.tm 11],
 w1 73 (.idxAddr 1) [.tm 71, .tm 72],
 w1 74 (.load false 1) [.tm 73],
 w1 70 (.call 65) [.tm 69],
 w1 75 (.call 65) [.tm 74],
 w1 76 (.call 113) [.tm 70, .tm 75],
 w1 65 .mov [.tm 76],
 w1 77 (.ext 0) [.tm 65],
 w1 78 (.ext 1) [.tm 65],
 w0 (.store 3) [.tm 12, .tm 77]])
  (.seq (.region [u1 80 (.cmp .eql) [.tm 32, .cn (.int .i64 2)],
 u1 79 .mov [.tm 80]])
 (.cond (.tm 79) (.draw [] [w1 82 .mov [.tm 8],
 w1 83 .mov [.tm 10],
 w1 84 (.idxAddr 1) [.tm 82, .tm 83],
 w1 85 (.load false 1) [.tm 84],
 w1 87 .mov [.tm 9],
 w1 88 .mov [.tm 11],
 w1 89 (.idxAddr 1) [.tm 87, .tm 88],
 w1 90 (.load false 1) [.tm 89],
 w1 86 (.call 65) [.tm 85],
 w1 91 (.call 65) [.tm 90],
 w1 92 (.call 64) [.tm 86, .tm 91],
 w1 81 .mov [.tm 92],
 w1 93 (.ext 0) [.tm 81],
 w1 94 (.ext 1) [.tm 81],
 w0 (.store 3) [.tm 12, .tm 93]])
  (.draw [] [w1 34 .mov [.tm 8],
 w1 35 .mov [.tm 10],
 w1 36 (.idxAddr 1) [.tm 34, .tm 35],
 w1 37 (.load false 1) [.tm 36],
 w1 39 .mov [.tm 9],
 w1 40 .mov [.tm 11],
 w1 41 (.idxAddr 1) [.tm 39, .tm 40],
 w1 42 (.load false 1) [.tm 41],
 w1 38 (.call 65) [.tm 37],
 w1 43 (.call 65) [.tm 42],
 w1 44 (.call 87) [.tm 38, .tm 43],
 w1 33 .mov [.tm 44],
 w1 45 (.ext 0) [.tm 33],
 w1 46 (.ext 1) [.tm 33],
 w0 (.store 3) [.tm 12, .tm 45]])))))))))
 (.region [u1 95 .mov [.tm 7],
 u1 96 (.load true 3) [.tm 12],
 u1 97 (.buildSlice 3 1 [(.bool false), .nil, .nil] [(0, 3)]) [.tm 96],
 u1 98 (.append 3 56 [(.bool false), .nil, .nil]) [.tm 95, .tm 97],
 u1 7 .mov [.tm 98]]))))
 (.region [u1 29 .mov [.tm 11],
 u1 30 (.ari .add) [.tm 29, .cn (.int .i64 1)],
 u1 11 .mov [.tm 30]])))))))
 (.region [u1 25 .mov [.tm 10],
 u1 26 (.ari .add) [.tm 25, .cn (.int .i64 1)],
 u1 10 .mov [.tm 26]]))))))
 (.seq (.region [u1 99 .mov [.tm 7],
 u1 6 .mov [.tm 99]])
 .ret)))))) }
theorem v104_is : vfunc Tryz.prog Tryz.f104 = some v104 := by kernel_rfl


def turnedC : Ctr := { alias := true, of := fun l => match l with
  | [.agg [.bool neg, .vs _ z1 n1 s1 g1, .vs _ z2 n2 s2 g2]] => .ex Fr fun p => .pre (fracP p neg z1 n1 s1 g1 z2 n2 s2 g2) (.fin (.agg (encF false (turnF p))) [])
  | _ => noC }
def U0 : Env := { ct := fun _ => none, fn := fun _ => none, meth := fun _ _ => none }
theorem U0_ok : EnvOk Tryz.prog U0 := by
  refine ⟨fun f c h => ?_, fun f vf h => ?_, (fun _ _ _ h => by cases h), by kernel_rfl⟩
  · cases h
  · cases h


theorem turned_ok : turnedC.ok Tryz.prog 117 := by
  refine contract Tryz.func117 v117_is U0_ok 300 turnedC fun args k h => ?_
  simp only [turnedC] at h
  split at h
  · rename_i neg t1 z1 n1 s1 g1 t2 z2 n2 s2 g2
    obtain ⟨p, hpp, h⟩ := h
    refine ⟨[.agg (encF false p)], ⟨fr_le hpp, trivial⟩, ?_⟩
    have hp := hpp.1
    clear hpp
    dsimp only [v117, natV, encF, go_sem, Option.bind, Option.map, List.append_nil, Nat.beq, List.cons_append, List.nil_append, List.append_eq, List.map_cons, List.map_nil, ite_self, reduceIte]
    simp only [true_and, and_true, imp_self, implies_true, decide_eq_true_eq, decide_eq_false_iff_not, Nat.reduceAdd, Nat.reduceLeDiff, Bool.not_not, reduceCtorEq, false_imp_iff, Bool.not_eq_true', Bool.not_eq_false', Bool.false_eq_true, and_self, forall_const, ne_eq, not_false_eq_true, Nat.reduceEqDiff, decide_true, decide_false, Bool.and_true, Bool.true_and, Bool.and_false, Bool.false_and, Bool.not_true, Bool.not_false, Bool.or_false, Bool.false_or, Bool.or_true, Bool.true_or, Bool.and_self, Bool.or_self, Bool.false_eq_true, Bool.true_eq_false, false_imp_iff, forall_const, true_and, and_true, implies_true, reduceCtorEq, not_true_eq_false, not_false_eq_true, ite_true, ite_false]
    obtain ⟨e1, e2, e3⟩ := turn_eq hp.1
    have h : k (.agg (encF false (turnF p))) [] := h
    unfold encF natV at h
    rw [e1, e2, ← e3] at h
    exact ans_le h (le_self _ ⟨trivial, trivial, trivial, trivial⟩) (fun h => by cases h)
  · exact h.1.elim

def U1 : Env := { ct := fun n => match n with | 88 => some badqC | 117 => some turnedC | 112 => some qaddC | _ => none, fn := fun _ => none, meth := fun _ _ => none }
theorem U1_ct88 : U1.ct 88 = some badqC := rfl
theorem U1_ct117 : U1.ct 117 = some turnedC := rfl
theorem U1_ct112 : U1.ct 112 = some qaddC := rfl
theorem U1_ok : EnvOk Tryz.prog U1 := by
  refine ⟨fun f c h => ?_, fun f vf h => ?_, (fun _ _ _ h => by cases h), by kernel_rfl⟩
  · simp only [U1] at h
    split at h
    · cases h; exact ⟨badq_ok, Tryz.f88, Tryz.func88, by kernel_rfl, by kernel_rfl⟩
    · cases h; exact ⟨turned_ok, Tryz.f117, Tryz.func117, by kernel_rfl, by kernel_rfl⟩
    · cases h; exact ⟨qadd_ok, Tryz.f112, Tryz.func112, by kernel_rfl, by kernel_rfl⟩
    · cases h
  · cases h


theorem qsub_ok : qsubC.ok Tryz.prog 113 := by
  refine contract Tryz.func113 v113_is U1_ok 300 qsubC fun args k h => ?_
  simp only [qsubC] at h
  split at h
  · rename_i neg t1 z1 n1 s1 g1 t2 z2 n2 s2 g2 neg' t1' z1' n1' s1' g1' t2' z2' n2' s2' g2'
    obtain ⟨p, q, ⟨hpp, hqq, hpq⟩, h⟩ := h
    refine ⟨[.agg (encF false p), .agg (encF false q)], ⟨fr_le hpp, fr_le hqq, trivial⟩, ?_⟩
    have hp := hpp.1
    have hq := hqq.1
    clear hpp hqq
    dsimp only [v113, U1_ct88, U1_ct117, U1_ct112, badqC, turnedC, qaddC, natV, encF, go_sem, Option.bind, Option.map, List.append_nil, Nat.beq, List.cons_append, List.nil_append, List.append_eq, List.map_cons, List.map_nil, ite_self, reduceIte]
    simp only [true_and, and_true, imp_self, implies_true, decide_eq_true_eq, decide_eq_false_iff_not, Nat.reduceAdd, Nat.reduceLeDiff, Bool.not_not, reduceCtorEq, false_imp_iff, Bool.not_eq_true', Bool.not_eq_false', Bool.false_eq_true, and_self, forall_const, ne_eq, not_false_eq_true, Nat.reduceEqDiff, decide_true, decide_false, Bool.and_true, Bool.true_and, Bool.and_false, Bool.false_and, Bool.not_true, Bool.not_false, Bool.or_false, Bool.false_or, Bool.or_true, Bool.true_or, Bool.and_self, Bool.or_self, Bool.false_eq_true, Bool.true_eq_false, false_imp_iff, forall_const, true_and, and_true, implies_true, reduceCtorEq, not_true_eq_false, not_false_eq_true, ite_true, ite_false]
    have ht := turn_ok hq
    refine ⟨by decide, [p, q], ⟨⟨rfl, rfl, fun k hk => match k, hk with | 0, _ => leXL_self _ | 1, _ => leXL_self _⟩, by simp, list2 hp hq⟩, q, fracP_self hq, p, turnF q, ⟨fracP_self hp, fracP_self ht, hpq⟩, by decide, by decide, ?_⟩
    exact ans_fr (show k (.tup [.agg (encF true (addQ p (turnF q))), .int .i64 0]) [] from h)
  · exact h.1.elim

/-- What is made of two whole numbers: 0 sum, 1 difference, 2 product, 3 quotient. -/
def opQ (w : Int) (m n : Int) : Fr := if w = 0 then addQ (m, 1) (n, 1) else if w = 1 then addQ (m, 1) (turnF (n, 1)) else if w = 2 then (m * n, 1 * 1) else divF (m, 1) (n, 1)
theorem opQ_ok {w m n : Int} (hm : -4611686018427387904 ≤ m ∧ m ≤ 4611686018427387904) (hn : -4611686018427387904 ≤ n ∧ n ≤ 4611686018427387904) (h0 : w ≠ 0 → w ≠ 1 → w ≠ 2 → n ≠ 0) : frOk (opQ w m n) := by
  unfold opQ
  split
  · exact frOk_8 (show 0 < 1 * 1 by decide) (show (m * ((1 : Nat) : Int) + n * ((1 : Nat) : Int)).natAbs < 4294967296 ^ 8 by omega) (show 1 * 1 < 4294967296 ^ 8 by decide)
  · split
    · exact frOk_8 (show 0 < 1 * 1 by decide) (show (m * ((1 : Nat) : Int) + -n * ((1 : Nat) : Int)).natAbs < 4294967296 ^ 8 by omega) (show 1 * 1 < 4294967296 ^ 8 by decide)
    · split
      · refine frOk_8 (show 0 < 1 * 1 by decide) (show (m * n).natAbs < 4294967296 ^ 8 from ?_) (show 1 * 1 < 4294967296 ^ 8 by decide)
        rw [Int.natAbs_mul]
        exact Nat.lt_of_le_of_lt (Nat.mul_le_mul (show m.natAbs ≤ 4611686018427387904 by omega) (show n.natAbs ≤ 4611686018427387904 by omega)) (by decide)
      · have hn0 := h0 (by assumption) (by assumption) (by assumption)
        refine frOk_8 (show 0 < 1 * n.natAbs by omega) (show (nsg (decide (n < 0)) 1 * m * ((1 : Nat) : Int)).natAbs < 4294967296 ^ 8 from ?_) (show 1 * n.natAbs < 4294967296 ^ 8 by omega)
        rw [Int.natAbs_mul, Int.natAbs_mul, nsg_abs, show Int.natAbs ((1 : Nat) : Int) = 1 from rfl, Nat.one_mul, Nat.mul_one]; omega
def crnF (x y u v w : Int) (j : Nat) : Fr := opQ w (if j / 2 = 0 then x else y) (if j % 2 = 0 then u else v)
def bg6 (n : Int) : Prop := -4611686018427387904 ≤ n ∧ n ≤ 4611686018427387904
def crnC : Ctr := { alias := false, of := fun l => match l with
  | [.agg [.int .i64 x, .int .i64 y], .agg [.int .i64 u, .int .i64 v], .int .i64 w] => .pre ((bg6 x ∧ bg6 y) ∧ (bg6 u ∧ bg6 v) ∧ (w ≠ 0 → w ≠ 1 → w ≠ 2 → u ≠ 0 ∧ v ≠ 0)) (.fin (.vs true false 4 3 (fun k => encF true (crnF x y u v w k))) [])
  | _ => noC }
def U2 : Env := { ct := fun n => match n with | 65 => some quoiC | 112 => some qaddC | 113 => some qsubC | 64 => some qmulC | 87 => some qdivC | _ => none, fn := fun _ => none, meth := fun _ _ => none }
theorem U2_ct65 : U2.ct 65 = some quoiC := rfl
theorem U2_ct112 : U2.ct 112 = some qaddC := rfl
theorem U2_ct113 : U2.ct 113 = some qsubC := rfl
theorem U2_ct64 : U2.ct 64 = some qmulC := rfl
theorem U2_ct87 : U2.ct 87 = some qdivC := rfl
theorem U2_ok : EnvOk Tryz.prog U2 := by
  refine ⟨fun f c h => ?_, fun f vf h => ?_, (fun _ _ _ h => by cases h), by kernel_rfl⟩
  · simp only [U2] at h
    split at h
    · cases h; exact ⟨quoi_ok, Tryz.f65, Tryz.func65, by kernel_rfl, by kernel_rfl⟩
    · cases h; exact ⟨qadd_ok, Tryz.f112, Tryz.func112, by kernel_rfl, by kernel_rfl⟩
    · cases h; exact ⟨qsub_ok, Tryz.f113, Tryz.func113, by kernel_rfl, by kernel_rfl⟩
    · cases h; exact ⟨qmul_ok, Tryz.f64, Tryz.func64, by kernel_rfl, by kernel_rfl⟩
    · cases h; exact ⟨qdiv_ok, Tryz.f87, Tryz.func87, by kernel_rfl, by kernel_rfl⟩
    · cases h
  · cases h


theorem crn_ok : crnC.ok Tryz.prog 104 := by
  refine contract Tryz.func104 v104_is U2_ok 400 crnC fun args k h => ⟨args, ?_⟩
  simp only [crnC] at h
  split at h
  · rename_i x y u v w
    obtain ⟨⟨⟨hx, hy⟩, ⟨hu, hv⟩, hw⟩, h⟩ := h
    refine ⟨by simp [leL, le], ?_⟩
    dsimp only [v104, go_sem, Option.bind, Option.map, List.append_nil, Nat.beq, List.cons_append, List.nil_append, List.append_eq, List.map_cons, List.map_nil, ite_self, reduceIte]
    simp only [true_and, and_true, imp_self, implies_true, decide_eq_true_eq, decide_eq_false_iff_not, Nat.reduceAdd, Nat.reduceLeDiff, Bool.not_not, reduceCtorEq, false_imp_iff, Bool.not_eq_true', Bool.not_eq_false', Bool.false_eq_true, and_self, forall_const, ne_eq, not_false_eq_true, Nat.reduceEqDiff, decide_true, decide_false, Bool.and_true, Bool.true_and, Bool.and_false, Bool.false_and, Bool.not_true, Bool.not_false, Bool.or_false, Bool.false_or, Bool.or_true, Bool.true_or, Bool.and_self, Bool.or_self, Bool.false_eq_true, Bool.true_eq_false, false_imp_iff, forall_const, true_and, and_true, implies_true, reduceCtorEq, not_true_eq_false, not_false_eq_true, ite_true, ite_false]
    refine ⟨by decide, by decide, ?_⟩
    refine Loop.keep [2, 4, 0, 0, 0] Nat (fun i => [(7, .own 4 0 (2 * i) 3), (10, .int .i64 i)]) (fun i => [(2, .own false 1 2 (fun k => [.int .i64 (if k = 0 then x else y)])), (3, .own false 1 2 (fun k => [.int .i64 (if k = 0 then u else v)])), (4, .own (decide (i = 0)) 3 (2 * i) (fun k => encF true (crnF x y u v w k)))]) [.gone] (fun i => i ≤ 2) (fun i => 2 - i) ?_ ?_
    · refine ⟨0, Nat.zero_le _, ?_⟩
      dsimp only [go_sem, Option.bind, Option.map, List.append_nil, Nat.beq, List.cons_append, List.nil_append, List.append_eq, List.map_cons, List.map_nil, ite_self, reduceIte]
      simp only [leS_mk, leL_cons, leL_nil, le_junk, le_int, le_bool, le_nil, leLL_nil, leLL_cons, leH_cons, leH_nil, leH1_box, leH1_own, leH1_gone, le_vs, le_agg, le_tup, le_ptr, le_own, le_xp, le_fn, le_opt, le_val, le_elem, le_nil_own, le_nil_vs, leH_ghost, leL_chunk, leXL_id, bnd_int, bnd_bool, bnd_val, bnd_nil, bnd_junk, bnd_vs, bnd_xp, bnd_agg, bnd_tup, bnd_ptr, bnd_own, bnd_elem, bnd_fn, bnd_iface, bnd_opt, bndL_nil, bndL_cons, lenH_cons, lenH_nil, imp_self, implies_true, true_and, and_true]
      exact ⟨⟨by omega, by omega, by omega, rfl⟩, fun k hk => match k, hk with | 0, _ => leL_self [.int .i64 x] ⟨trivial, trivial⟩ | 1, _ => leL_self [.int .i64 y] ⟨trivial, trivial⟩, fun k hk => match k, hk with | 0, _ => leL_self [.int .i64 u] ⟨trivial, trivial⟩ | 1, _ => leL_self [.int .i64 v] ⟨trivial, trivial⟩, rfl⟩
    · rintro i hi
      dsimp only [go_sem, Option.bind, Option.map, List.append_nil, Nat.beq, List.cons_append, List.nil_append, List.append_eq, List.map_cons, List.map_nil, ite_self, reduceIte]
      simp only [true_and, and_true, imp_self, implies_true, decide_eq_true_eq, decide_eq_false_iff_not, Nat.reduceAdd, Nat.reduceLeDiff, Bool.not_not, reduceCtorEq, false_imp_iff, Bool.not_eq_true', Bool.not_eq_false', Bool.false_eq_true, and_self, forall_const, ne_eq, not_false_eq_true, Nat.reduceEqDiff]
      refine ⟨fun hlt => ?_, fun hge => ?_⟩
      · refine Loop.keep [2, 4, 0, 0, 0, 0] Nat (fun j => [(7, .own 4 0 (2 * i + j) 3), (11, .int .i64 j)]) (fun j => [(4, .own (decide (2 * i + j = 0)) 3 (2 * i + j) (fun k => encF true (crnF x y u v w k)))]) [] (fun j => j ≤ 2) (fun j => 2 - j) ?_ ?_
        · refine ⟨0, Nat.zero_le _, ?_⟩
          dsimp only [go_sem, Option.bind, Option.map, List.append_nil, Nat.beq, List.cons_append, List.nil_append, List.append_eq, List.map_cons, List.map_nil, ite_self, reduceIte]
          simp only [leS_mk, leL_cons, leL_nil, le_junk, le_int, le_bool, le_nil, leLL_nil, leLL_cons, leH_cons, leH_nil, leH1_box, leH1_own, leH1_gone, le_vs, le_agg, le_tup, le_ptr, le_own, le_xp, le_fn, le_opt, le_val, le_elem, le_nil_own, le_nil_vs, leH_ghost, leL_chunk, leXL_id, bnd_int, bnd_bool, bnd_val, bnd_nil, bnd_junk, bnd_vs, bnd_xp, bnd_agg, bnd_tup, bnd_ptr, bnd_own, bnd_elem, bnd_fn, bnd_iface, bnd_opt, bndL_nil, bndL_cons, lenH_cons, lenH_nil, imp_self, implies_true, true_and, and_true]
          exact ⟨⟨⟨by omega, by omega⟩, by omega, by omega, rfl⟩, by congr 1; exact propext (by omega), by omega, fun k hk => leL_self (encF true (crnF x y u v w k)) ⟨trivial, trivial, trivial, trivial⟩⟩
        · rintro j hj
          dsimp only [U2_ct65, U2_ct112, U2_ct113, U2_ct64, U2_ct87, quoiC, qaddC, qsubC, qmulC, qdivC, natV, encF, Int.toNat_natCast, go_sem, Option.bind, Option.map, List.append_nil, Nat.beq, List.cons_append, List.nil_append, List.append_eq, List.map_cons, List.map_nil, ite_self, reduceIte]
          simp only [true_and, and_true, imp_self, implies_true, decide_eq_true_eq, decide_eq_false_iff_not, Nat.reduceAdd, Nat.reduceLeDiff, Bool.not_not, reduceCtorEq, false_imp_iff, Bool.not_eq_true', Bool.not_eq_false', Bool.false_eq_true, and_self, forall_const, ne_eq, not_false_eq_true, Nat.reduceEqDiff]
          refine ⟨fun hlj => ?_, fun hgj => ?_⟩
          · have hcr : crnF x y u v w (2 * i + j) = opQ w (if i = 0 then x else y) (if j = 0 then u else v) := by
              unfold crnF
              rw [show (2 * i + j) / 2 = i by omega, show (2 * i + j) % 2 = j by omega]
            have hm : bg6 (if i = 0 then x else y) := by split <;> assumption
            have hn : bg6 (if j = 0 then u else v) := by split <;> assumption
            have hwn : w ≠ 0 → w ≠ 1 → w ≠ 2 → (if j = 0 then u else v) ≠ 0 := fun a b c => by
              have := hw a b c
              split
              · exact this.1
              · exact this.2
            have hok := opQ_ok hm hn hwn
            generalize (if i = 0 then x else y) = m at *
            generalize (if j = 0 then u else v) = n at *
            have hm1 := frOk_1 hm
            have hn1 := frOk_1 hn
            refine ⟨fun h0 => ?_, fun h0 => ⟨fun h1 => ?_, fun h1 => ⟨fun h2 => ?_, fun h2 => ?_⟩⟩⟩
            · have eo : opQ w m n = addQ (m, 1) (n, 1) := if_pos h0
              rw [eo] at hok hcr
              refine ⟨⟨by omega, by omega⟩, by omega, ⟨by omega, by omega⟩, by omega, hm, hn, (m, 1), (n, 1), ⟨fracP_self hm1, fracP_self hn1, hok⟩, by decide, by decide, by decide, ?_⟩
              refine ⟨⟨by unfold capOk; omega, fun q hq => match q, hq with | 0, _ => ⟨rfl, trivial, trivial, trivial, trivial⟩⟩, j + 1, by omega, by omega, ?_⟩
              have hwj : IntKind.i64.wrap ((j : Int) + 1) = ((j + 1 : Nat) : Int) := by rw [IntWalk.i64_in _ (by omega)]; omega
              simp only [hwj, ← Nat.add_assoc, leS_mk, leL_cons, leL_nil, le_junk, le_int, le_bool, le_nil, leLL_nil, leLL_cons, leH_cons, leH_nil, leH1_box, leH1_own, leH1_gone, le_vs, le_agg, le_tup, le_ptr, le_own, le_xp, le_fn, le_opt, le_val, le_elem, le_nil_own, le_nil_vs, leH_ghost, leL_chunk, leXL_id, bnd_int, bnd_bool, bnd_val, bnd_nil, bnd_junk, bnd_vs, bnd_xp, bnd_agg, bnd_tup, bnd_ptr, bnd_own, bnd_elem, bnd_fn, bnd_iface, bnd_opt, bndL_nil, bndL_cons, lenH_cons, lenH_nil, imp_self, implies_true, true_and, and_true]
              refine ⟨by omega, by simp, fun q hq => ?_⟩
              rcases Nat.lt_or_ge q (2 * i + j) with h' | h'
              · rw [if_pos h']; exact leL_self (encF true (crnF x y u v w q)) ⟨trivial, trivial, trivial, trivial⟩
              · rw [if_neg (by omega)]
                obtain rfl : q = 2 * i + j := by omega
                rw [Nat.sub_self, hcr]
                first | exact leL_self (encF true _) ⟨trivial, trivial, trivial, trivial⟩ | exact leL_self (encF true (m * n, 1 * 1)) ⟨trivial, trivial, trivial, trivial⟩
            · have eo : opQ w m n = addQ (m, 1) (turnF (n, 1)) := (if_neg h0).trans (if_pos h1)
              rw [eo] at hok hcr
              refine ⟨⟨by omega, by omega⟩, by omega, ⟨by omega, by omega⟩, by omega, hm, hn, (m, 1), (n, 1), ⟨fracP_self hm1, fracP_self hn1, hok⟩, by decide, by decide, by decide, ?_⟩
              refine ⟨⟨by unfold capOk; omega, fun q hq => match q, hq with | 0, _ => ⟨rfl, trivial, trivial, trivial, trivial⟩⟩, j + 1, by omega, by omega, ?_⟩
              have hwj : IntKind.i64.wrap ((j : Int) + 1) = ((j + 1 : Nat) : Int) := by rw [IntWalk.i64_in _ (by omega)]; omega
              simp only [hwj, ← Nat.add_assoc, leS_mk, leL_cons, leL_nil, le_junk, le_int, le_bool, le_nil, leLL_nil, leLL_cons, leH_cons, leH_nil, leH1_box, leH1_own, leH1_gone, le_vs, le_agg, le_tup, le_ptr, le_own, le_xp, le_fn, le_opt, le_val, le_elem, le_nil_own, le_nil_vs, leH_ghost, leL_chunk, leXL_id, bnd_int, bnd_bool, bnd_val, bnd_nil, bnd_junk, bnd_vs, bnd_xp, bnd_agg, bnd_tup, bnd_ptr, bnd_own, bnd_elem, bnd_fn, bnd_iface, bnd_opt, bndL_nil, bndL_cons, lenH_cons, lenH_nil, imp_self, implies_true, true_and, and_true]
              refine ⟨by omega, by simp, fun q hq => ?_⟩
              rcases Nat.lt_or_ge q (2 * i + j) with h' | h'
              · rw [if_pos h']; exact leL_self (encF true (crnF x y u v w q)) ⟨trivial, trivial, trivial, trivial⟩
              · rw [if_neg (by omega)]
                obtain rfl : q = 2 * i + j := by omega
                rw [Nat.sub_self, hcr]
                first | exact leL_self (encF true _) ⟨trivial, trivial, trivial, trivial⟩ | exact leL_self (encF true (m * n, 1 * 1)) ⟨trivial, trivial, trivial, trivial⟩
            · have eo : opQ w m n = (m * n, 1 * 1) := (if_neg h0).trans ((if_neg h1).trans (if_pos h2))
              rw [eo] at hok hcr
              refine ⟨⟨by omega, by omega⟩, by omega, ⟨by omega, by omega⟩, by omega, hm, hn, (m, 1), (n, 1), ⟨fracP_self hm1, fracP_self hn1, hok⟩, by decide, by decide, by decide, ?_⟩
              refine ⟨⟨by unfold capOk; omega, fun q hq => match q, hq with | 0, _ => ⟨rfl, trivial, trivial, trivial, trivial⟩⟩, j + 1, by omega, by omega, ?_⟩
              have hwj : IntKind.i64.wrap ((j : Int) + 1) = ((j + 1 : Nat) : Int) := by rw [IntWalk.i64_in _ (by omega)]; omega
              simp only [hwj, ← Nat.add_assoc, leS_mk, leL_cons, leL_nil, le_junk, le_int, le_bool, le_nil, leLL_nil, leLL_cons, leH_cons, leH_nil, leH1_box, leH1_own, leH1_gone, le_vs, le_agg, le_tup, le_ptr, le_own, le_xp, le_fn, le_opt, le_val, le_elem, le_nil_own, le_nil_vs, leH_ghost, leL_chunk, leXL_id, bnd_int, bnd_bool, bnd_val, bnd_nil, bnd_junk, bnd_vs, bnd_xp, bnd_agg, bnd_tup, bnd_ptr, bnd_own, bnd_elem, bnd_fn, bnd_iface, bnd_opt, bndL_nil, bndL_cons, lenH_cons, lenH_nil, imp_self, implies_true, true_and, and_true]
              refine ⟨by omega, by simp, fun q hq => ?_⟩
              rcases Nat.lt_or_ge q (2 * i + j) with h' | h'
              · rw [if_pos h']; exact leL_self (encF true (crnF x y u v w q)) ⟨trivial, trivial, trivial, trivial⟩
              · rw [if_neg (by omega)]
                obtain rfl : q = 2 * i + j := by omega
                rw [Nat.sub_self, hcr]
                first | exact leL_self (encF true _) ⟨trivial, trivial, trivial, trivial⟩ | exact leL_self (encF true (m * n, 1 * 1)) ⟨trivial, trivial, trivial, trivial⟩
            · have eo : opQ w m n = divF (m, 1) (n, 1) := (if_neg h0).trans ((if_neg h1).trans (if_neg h2))
              rw [eo] at hok hcr
              refine ⟨⟨by omega, by omega⟩, by omega, ⟨by omega, by omega⟩, by omega, hm, hn, (m, 1), (n, 1), ⟨fracP_self hm1, fracP_self hn1, hwn h0 h1 h2, hok⟩, by decide, by decide, by decide, ?_⟩
              refine ⟨⟨by unfold capOk; omega, fun q hq => match q, hq with | 0, _ => ⟨rfl, trivial, trivial, trivial, trivial⟩⟩, j + 1, by omega, by omega, ?_⟩
              have hwj : IntKind.i64.wrap ((j : Int) + 1) = ((j + 1 : Nat) : Int) := by rw [IntWalk.i64_in _ (by omega)]; omega
              simp only [hwj, ← Nat.add_assoc, leS_mk, leL_cons, leL_nil, le_junk, le_int, le_bool, le_nil, leLL_nil, leLL_cons, leH_cons, leH_nil, leH1_box, leH1_own, leH1_gone, le_vs, le_agg, le_tup, le_ptr, le_own, le_xp, le_fn, le_opt, le_val, le_elem, le_nil_own, le_nil_vs, leH_ghost, leL_chunk, leXL_id, bnd_int, bnd_bool, bnd_val, bnd_nil, bnd_junk, bnd_vs, bnd_xp, bnd_agg, bnd_tup, bnd_ptr, bnd_own, bnd_elem, bnd_fn, bnd_iface, bnd_opt, bndL_nil, bndL_cons, lenH_cons, lenH_nil, imp_self, implies_true, true_and, and_true]
              refine ⟨by omega, by simp, fun q hq => ?_⟩
              rcases Nat.lt_or_ge q (2 * i + j) with h' | h'
              · rw [if_pos h']; exact leL_self (encF true (crnF x y u v w q)) ⟨trivial, trivial, trivial, trivial⟩
              · rw [if_neg (by omega)]
                obtain rfl : q = 2 * i + j := by omega
                rw [Nat.sub_self, hcr]
                first | exact leL_self (encF true _) ⟨trivial, trivial, trivial, trivial⟩ | exact leL_self (encF true (m * n, 1 * 1)) ⟨trivial, trivial, trivial, trivial⟩
          · obtain rfl : j = 2 := by omega
            refine ⟨i + 1, by omega, by omega, ?_⟩
            have hwi : IntKind.i64.wrap ((i : Int) + 1) = ((i + 1 : Nat) : Int) := by rw [IntWalk.i64_in _ (by omega)]; omega
            simp only [hwi, show 2 * (i + 1) = 2 * i + 2 by omega, leS_mk, leL_cons, leL_nil, le_junk, le_int, le_bool, le_nil, leLL_nil, leLL_cons, leH_cons, leH_nil, leH1_box, leH1_own, leH1_gone, le_vs, le_agg, le_tup, le_ptr, le_own, le_xp, le_fn, le_opt, le_val, le_elem, le_nil_own, le_nil_vs, leH_ghost, leL_chunk, leXL_id, bnd_int, bnd_bool, bnd_val, bnd_nil, bnd_junk, bnd_vs, bnd_xp, bnd_agg, bnd_tup, bnd_ptr, bnd_own, bnd_elem, bnd_fn, bnd_iface, bnd_opt, bndL_nil, bndL_cons, lenH_cons, lenH_nil, imp_self, implies_true, true_and, and_true]
            simp
      · obtain rfl : i = 2 := by omega
        refine ans_le (show k _ [] from h) ?_ ?_
        · dsimp only [expo, encF, natV, go_sem, Option.bind, Option.map, List.append_nil, Nat.beq, List.cons_append, List.nil_append, List.append_eq, List.map_cons, List.map_nil, ite_self, reduceIte]
          simp only [leS_mk, leL_cons, leL_nil, le_junk, le_int, le_bool, le_nil, leLL_nil, leLL_cons, leH_cons, leH_nil, leH1_box, leH1_own, leH1_gone, le_vs, le_agg, le_tup, le_ptr, le_own, le_xp, le_fn, le_opt, le_val, le_elem, le_nil_own, le_nil_vs, leH_ghost, leL_chunk, leXL_id, bnd_int, bnd_bool, bnd_val, bnd_nil, bnd_junk, bnd_vs, bnd_xp, bnd_agg, bnd_tup, bnd_ptr, bnd_own, bnd_elem, bnd_fn, bnd_iface, bnd_opt, bndL_nil, bndL_cons, lenH_cons, lenH_nil, imp_self, implies_true, true_and, and_true]
          decide
        · intro _; simp [freshS, freshL, encF, natV]
  · exact h.1.elim
end Go.Proofs.YtngccjllkgpjmaaGreat

/- Intervals: the span of the four corners is what the program computes; the reference's Add, Sub, Mul, Div walked. -/
/- Intervals: the span of the four corners is what the program computes; the reference's Add, Sub, Mul, Div walked. -/
set_option linter.all false
namespace Go.Proofs.YtngccjllkgpjmaaGreat
open Go Go.Vx
set_option maxRecDepth 100000
set_option maxHeartbeats 4000000

theorem crn_mem {x y u v w : Int} (p : Fr) (h : p ∈ crnF x y u v w 0 :: [crnF x y u v w 1, crnF x y u v w 2, crnF x y u v w 3]) : ∃ m n, (m = x ∨ m = y) ∧ (n = u ∨ n = v) ∧ p = opQ w m n := by
  simp only [List.mem_cons, List.not_mem_nil, or_false] at h
  rcases h with rfl | rfl | rfl | rfl
  · exact ⟨x, u, .inl rfl, .inl rfl, rfl⟩
  · exact ⟨x, v, .inl rfl, .inr rfl, rfl⟩
  · exact ⟨y, u, .inr rfl, .inl rfl, rfl⟩
  · exact ⟨y, v, .inr rfl, .inr rfl, rfl⟩
/-- The span of the corners. -/
def crnS (x y u v w : Int) : Iv × Int := spanQ (crnF x y u v w 0) [crnF x y u v w 1, crnF x y u v w 2, crnF x y u v w 3]

theorem rnd_one (up : Bool) (x : Int) : rndF up x 1 = rndB x := by
  unfold rndF rndT; cases up <;> simp
theorem rndB_num (s : Int) : rndB s = if numOk s then (s, true) else (0, false) := by
  unfold rndB
  by_cases a : -4611686018427387904 ≤ s ∧ s ≤ 4611686018427387904
  · rw [if_pos a, if_pos (numOk_iff.2 a)]
  · rw [if_neg a, if_neg (fun h => a (numOk_iff.1 h))]
theorem span_fit (s t : Int) : spanR (rndB s) (rndB t) = fitF s t := by
  rw [rndB_num, rndB_num]
  unfold spanR fitF
  cases numOk s <;> cases numOk t <;> rfl

/-- What the reference's 'two' returns. -/
def twoF (a b : Iv) (w : Int) : Iv × Int := if ivE [a, b] ≠ 0 then errI (ivE [a, b]) else if w = 3 ∧ b.1 ≤ 0 ∧ 0 ≤ b.2 then errI 9 else crnS a.1 a.2 b.1 b.2 w
theorem two_add (a b : Iv) : twoF a b 0 = addF a b := by
  unfold twoF addF
  split
  · rfl
  · rename_i h
    obtain ⟨⟨_, _, ha⟩, _, _, hb⟩ := ivE2 (by omega : ivE [a, b] = 0)
    rw [if_neg (by omega)]
    have e := spanQ_one (d := 1 * 1) (by decide) (a.1 * ((1 : Nat) : Int) + b.1 * ((1 : Nat) : Int)) [a.1 * ((1 : Nat) : Int) + b.2 * ((1 : Nat) : Int), a.2 * ((1 : Nat) : Int) + b.1 * ((1 : Nat) : Int), a.2 * ((1 : Nat) : Int) + b.2 * ((1 : Nat) : Int)]
    have e2 : crnS a.1 a.2 b.1 b.2 0 = _ := e
    rw [e2, spanI]
    have e3 : ((1 * 1 : Nat) : Int) = 1 := rfl
    rw [e3, rnd_one, rnd_one, span_fit]
    have l := lowI_spec (a.1 * ((1 : Nat) : Int) + b.1 * ((1 : Nat) : Int)) [a.1 * ((1 : Nat) : Int) + b.2 * ((1 : Nat) : Int), a.2 * ((1 : Nat) : Int) + b.1 * ((1 : Nat) : Int), a.2 * ((1 : Nat) : Int) + b.2 * ((1 : Nat) : Int)]
    have g := highI_spec (a.1 * ((1 : Nat) : Int) + b.1 * ((1 : Nat) : Int)) [a.1 * ((1 : Nat) : Int) + b.2 * ((1 : Nat) : Int), a.2 * ((1 : Nat) : Int) + b.1 * ((1 : Nat) : Int), a.2 * ((1 : Nat) : Int) + b.2 * ((1 : Nat) : Int)]
    have c1 : ((1 : Nat) : Int) = 1 := rfl
    simp only [List.mem_cons, List.not_mem_nil, or_false, forall_eq_or_imp, forall_eq, c1, Int.mul_one] at l g ⊢
    congr 1 <;> omega
/-! ### The walk -/

def v81 : VF := { ntmps := 37, res := [.cell 6 true 2, .tmp 7], body :=
 (.seq (.region [u1 3 .box [.tm 0],
 u1 4 .box [.tm 1],
 u1 6 (.alloc [(.int .i64 0), (.int .i64 0)]) [],
 u1 7 .mov [.cn (.int .i64 0)]])
 (.seq (.region [u1 9 (.load true 2) [.tm 3],
 u1 10 (.load true 2) [.tm 4],
 u1 11 (.buildSlice 2 2 [(.int .i64 0), (.int .i64 0)] [(0, 2), (2, 2)]) [.tm 9, .tm 10],
 u1 12 (.call 86) [.tm 11],
 u1 8 .mov [.tm 12]])
 (.seq (.seq (.region [u1 13 .mov [.tm 8],
 u1 14 (.cmp .neq) [.tm 13, .cn (.int .i64 0)]])
 (.cond (.tm 14) (.seq (.region [u1 15 (.build [(.int .i64 0), (.int .i64 0)] []) [],
 u1 16 .mov [.tm 8],
 u0 (.store 2) [.tm 6, .tm 15],
 u1 7 .mov [.tm 16]])
 .ret)
  .skip))
 (.seq (.seq (.region [u1 17 .mov [.tm 2],
 u1 18 (.cmp .eql) [.tm 17, .cn (.int .i64 3)],
 u1 19 .mov [.tm 18],
 u2 20 19 true (.fieldAddr 0) [.tm 4],
 u2 21 19 true (.load false 1) [.tm 20],
 u2 22 19 true (.cmp .leq) [.tm 21, .cn (.int .i64 0)],
 u1 23 .and [.tm 19, .tm 22],
 u1 24 .mov [.tm 23],
 u2 25 24 true (.fieldAddr 1) [.tm 4],
 u2 26 24 true (.load false 1) [.tm 25],
 u2 27 24 true (.cmp .geq) [.tm 26, .cn (.int .i64 0)],
 u1 28 .and [.tm 24, .tm 27]])
 (.cond (.tm 28) (.seq (.region [u1 29 (.build [(.int .i64 0), (.int .i64 0)] []) [],
 u0 (.store 2) [.tm 6, .tm 29],
 u1 7 .mov [.cn (.int .i64 9)]])
 .ret)
  .skip))
 (.seq (.region [u1 30 (.load true 2) [.tm 3],
 u1 31 (.load true 2) [.tm 4],
 u1 32 .mov [.tm 2],
 u1 33 (.call 104) [.tm 30, .tm 31, .tm 32],
 u1 34 (.call 66) [.tm 33],
 u1 35 (.ext 0) [.tm 34],
 u1 36 (.ext 1) [.tm 34],
 u0 (.store 2) [.tm 6, .tm 35],
 u1 7 .mov [.tm 36]])
 .ret))))) }
theorem v81_is : vfunc Tryz.prog Tryz.f81 = some v81 := by kernel_rfl
def v55 : VF := { ntmps := 11, res := [.cell 4 true 2, .tmp 5], body :=
 (.seq (.region [u1 2 .box [.tm 0],
 u1 3 .box [.tm 1],
 u1 4 (.alloc [(.int .i64 0), (.int .i64 0)]) [],
 u1 5 .mov [.cn (.int .i64 0)]])
 (.seq (.region [u1 6 (.load true 2) [.tm 2],
 u1 7 (.load true 2) [.tm 3],
 u1 8 (.call 81) [.tm 6, .tm 7, .cn (.int .i64 0)],
 u1 9 (.ext 0) [.tm 8],
 u1 10 (.ext 1) [.tm 8],
 u0 (.store 2) [.tm 4, .tm 9],
 u1 5 .mov [.tm 10]])
 .ret)) }
theorem v55_is : vfunc Tryz.prog Tryz.f55 = some v55 := by kernel_rfl


def twoC : Ctr := { alias := false, of := fun a => match a with
  | [.agg [.int .i64 x, .int .i64 y], .agg [.int .i64 u, .int .i64 v], .int .i64 w] => .pre (w = 0 ∨ w = 1 ∨ w = 2 ∨ w = 3) (.fin (.tup [.agg (enc2 (twoF (x, y) (u, v) w).1), .int .i64 (twoF (x, y) (u, v) w).2]) [])
  | _ => noC }
def U3 : Env := { ct := fun n => match n with | 86 => some ivlC | 104 => some crnC | 66 => some spanqC | _ => none, fn := fun _ => none, meth := fun _ _ => none }
theorem U3_ct86 : U3.ct 86 = some ivlC := rfl
theorem U3_ct104 : U3.ct 104 = some crnC := rfl
theorem U3_ct66 : U3.ct 66 = some spanqC := rfl
theorem U3_ok : EnvOk Tryz.prog U3 := by
  refine ⟨fun f c h => ?_, fun f vf h => ?_, (fun _ _ _ h => by cases h), by kernel_rfl⟩
  · simp only [U3] at h
    split at h
    · cases h; exact ⟨rbad_ok, Tryz.f86, Tryz.func86, by kernel_rfl, by kernel_rfl⟩
    · cases h; exact ⟨crn_ok, Tryz.f104, Tryz.func104, by kernel_rfl, by kernel_rfl⟩
    · cases h; exact ⟨spanq_ok, Tryz.f66, Tryz.func66, by kernel_rfl, by kernel_rfl⟩
    · cases h
  · cases h


theorem two_ok : twoC.ok Tryz.prog 81 := by
  refine contract Tryz.func81 v81_is U3_ok 300 twoC fun args k h => ⟨args, ?_⟩
  simp only [twoC] at h
  split at h
  · rename_i x y u v w
    refine ⟨by simp [leL, le], ?_⟩
    obtain ⟨hw, h⟩ := h
    have h : k (.tup [.agg (enc2 (twoF (x, y) (u, v) w).1), .int .i64 (twoF (x, y) (u, v) w).2]) [] := h
    dsimp only [v81, U3_ct86, U3_ct104, U3_ct66, ivlC, crnC, spanqC, enc2, go_sem, Option.bind, Option.map, List.append_nil, Nat.beq, List.cons_append, List.nil_append, List.append_eq, List.map_cons, List.map_nil, ite_self, reduceIte]
    simp only [true_and, and_true, imp_self, implies_true, decide_eq_true_eq, decide_eq_false_iff_not, Nat.reduceAdd, Nat.reduceLeDiff, Bool.not_not, reduceCtorEq, false_imp_iff, Bool.not_eq_true', Bool.not_eq_false', Bool.false_eq_true, and_self, forall_const, ne_eq, not_false_eq_true, Nat.reduceEqDiff]
    refine ⟨by decide, [(x, y), (u, v)], ⟨⟨rfl, rfl, fun k hk => match k, hk with | 0, _ => leXL_self [.int .i64 x, .int .i64 y] | 1, _ => leXL_self [.int .i64 u, .int .i64 v]⟩, by simp⟩, fun he => ?_, fun he => ⟨fun hz => ?_, fun hz => ?_⟩⟩
    · rw [twoF, if_pos he] at h
      exact ans_iv (r := errI (ivE [(x, y), (u, v)])) h
    · simp only [Bool.and_eq_true, decide_eq_true_eq] at hz
      rw [twoF, if_neg (by omega), if_pos ⟨hz.1.1, hz.1.2, hz.2⟩] at h
      exact ans_iv (r := errI 9) h
    · have hz' : ¬ (w = 3 ∧ u ≤ 0 ∧ 0 ≤ v) := by
        intro hh
        have : (decide (w = 3) && decide (u ≤ 0) && decide (0 ≤ v)) = true := by
          simp only [Bool.and_eq_true, decide_eq_true_eq]; exact ⟨⟨hh.1, hh.2.1⟩, hh.2.2⟩
        rw [this] at hz; cases hz
      rw [twoF, if_neg (by omega), if_neg hz'] at h
      obtain ⟨⟨hx, hy, hxy⟩, hu, hv, huv⟩ := ivE2 he
      dsimp only at hx hy hxy hu hv huv
      have hz2 : ¬ w = 0 → ¬ w = 1 → ¬ w = 2 → ¬ u = 0 ∧ ¬ v = 0 := fun a b c => by omega
      refine ⟨⟨⟨hx, hy⟩, ⟨hu, hv⟩, hz2⟩, crnF x y u v w 0, [crnF x y u v w 1, crnF x y u v w 2, crnF x y u v w 3], ⟨⟨rfl, rfl, fun k hk => match k, hk with
        | 0, _ => leXL_self (encF false (crnF x y u v w 0)) | 1, _ => leXL_self (encF false (crnF x y u v w 1)) | 2, _ => leXL_self (encF false (crnF x y u v w 2)) | 3, _ => leXL_self (encF false (crnF x y u v w 3))⟩, by simp, fun p hp => ?_⟩, by decide, by decide, ?_⟩
      · obtain ⟨m, n, hm, hn, rfl⟩ := crn_mem p hp
        refine opQ_ok ?_ ?_ fun a b c => ?_
        · rcases hm with rfl | rfl <;> assumption
        · rcases hn with rfl | rfl <;> assumption
        · have := hz2 a b c
          rcases hn with rfl | rfl
          · exact this.1
          · exact this.2
      · exact ans_iv (r := crnS x y u v w) h
  · exact h.1.elim

def U4 : Env := { ct := fun n => match n with | 81 => some twoC | _ => none, fn := fun _ => none, meth := fun _ _ => none }
theorem U4_ct81 : U4.ct 81 = some twoC := rfl
theorem U4_ok : EnvOk Tryz.prog U4 := by
  refine ⟨fun f c h => ?_, fun f vf h => ?_, (fun _ _ _ h => by cases h), by kernel_rfl⟩
  · simp only [U4] at h
    split at h
    · cases h; exact ⟨two_ok, Tryz.f81, Tryz.func81, by kernel_rfl, by kernel_rfl⟩
    · cases h
  · cases h

theorem radd_ok : addC.ok Tryz.prog 55 := by
  refine contract Tryz.func55 v55_is U4_ok 300 addC fun args k h => ⟨args, ?_⟩
  simp only [addC, iv2C] at h
  split at h
  · rename_i x y u v
    refine ⟨by simp [leL, le], ?_⟩
    have h : k (.tup [.agg (enc2 (addF (x, y) (u, v)).1), .int .i64 (addF (x, y) (u, v)).2]) [] := h
    dsimp only [v55, U4_ct81, twoC, enc2, go_sem, Option.bind, Option.map, List.append_nil, Nat.beq, List.cons_append, List.nil_append, List.append_eq, List.map_cons, List.map_nil, ite_self, reduceIte]
    simp only [true_and, and_true, imp_self, implies_true, decide_eq_true_eq, decide_eq_false_iff_not, Nat.reduceAdd, Nat.reduceLeDiff, Bool.not_not, reduceCtorEq, false_imp_iff, Bool.not_eq_true', Bool.not_eq_false', Bool.false_eq_true, and_self, forall_const, ne_eq, not_false_eq_true, Nat.reduceEqDiff]
    rw [← two_add] at h
    exact ⟨by decide, by decide, by decide, ans_iv (r := twoF (x, y) (u, v) 0) h⟩
  · exact h.1.elim
end Go.Proofs.YtngccjllkgpjmaaGreat

/- Chests, walked: the reference's functions. -/
/- Chests, walked: the reference's functions. -/
set_option linter.all false
namespace Go.Proofs.YtngccjllkgpjmaaGreat
open Go Go.Vx
set_option maxRecDepth 100000
set_option maxHeartbeats 4000000

def v38 : VF := { ntmps := 15, res := [.tmp 6], body :=
 (.seq (.region [u1 6 .mov [.cn (.bool false)]])
 (.seq (.region [u1 7 .mov [.tm 0],
 u1 8 .mov [.tm 1],
 u1 9 (.cmp .geq) [.tm 7, .tm 8],
 u1 10 .mov [.tm 9],
 u2 11 10 true .mov [.tm 0],
 u2 12 10 true .mov [.tm 2],
 u2 13 10 true (.cmp .leq) [.tm 11, .tm 12],
 u1 14 .and [.tm 10, .tm 13],
 u1 6 .mov [.tm 14]])
 .ret)) }
theorem v38_is : vfunc Tryz.prog Tryz.f38 = some v38 := by kernel_rfl
def v40 : VF := { ntmps := 6, res := [.cell 2 true 2], body :=
 (.seq (.region [u1 2 (.alloc [(.int .i64 0), (.int .i64 0)]) []])
 (.seq (.region [u1 3 .mov [.tm 0],
 u1 4 .mov [.tm 0],
 u1 5 (.build [(.int .i64 0), (.int .i64 0)] [(0, 1), (1, 1)]) [.tm 3, .tm 4],
 u0 (.store 2) [.tm 2, .tm 5]])
 .ret)) }
theorem v40_is : vfunc Tryz.prog Tryz.f40 = some v40 := by kernel_rfl
def v27 : VF := { ntmps := 21, res := [.tmp 2], body :=
 (.seq (.region [u1 1 .box [.tm 0],
 u1 2 .mov [.cn (.bool false)]])
 (.seq (.region [u1 3 (.fieldAddr 0) [.tm 1],
 u1 4 (.load false 1) [.tm 3],
 u1 5 (.call 38) [.tm 4, .cn (.int .i64 1000), .cn (.int .i64 100000)],
 u1 6 .mov [.tm 5],
 u2 7 6 true (.fieldAddr 1) [.tm 1],
 u2 8 6 true (.load false 1) [.tm 7],
 u2 9 6 true (.call 38) [.tm 8, .cn (.int .i64 10000), .cn (.int .i64 1000000)],
 u1 10 .and [.tm 6, .tm 9],
 u1 11 .mov [.tm 10],
 u2 12 11 true (.fieldAddr 2) [.tm 1],
 u2 13 11 true (.load false 1) [.tm 12],
 u2 14 11 true (.call 38) [.tm 13, .cn (.int .i64 500), .cn (.int .i64 30000)],
 u1 15 .and [.tm 11, .tm 14],
 u1 16 .mov [.tm 15],
 u2 17 16 true (.fieldAddr 3) [.tm 1],
 u2 18 16 true (.load false 1) [.tm 17],
 u2 19 16 true (.call 38) [.tm 18, .cn (.int .i64 0), .cn (.int .i64 10000000)],
 u1 20 .and [.tm 16, .tm 19],
 u1 2 .mov [.tm 20]])
 .ret)) }
theorem v27_is : vfunc Tryz.prog Tryz.f27 = some v27 := by kernel_rfl
def v37 : VF := { ntmps := 21, res := [.tmp 2], body :=
 (.seq (.region [u1 1 .box [.tm 0],
 u1 2 .mov [.cn (.bool false)]])
 (.seq (.region [u1 3 (.fieldAddr 0) [.tm 1],
 u1 4 (.load false 1) [.tm 3],
 u1 5 (.cmp .geq) [.tm 4, .cn (.int .i64 100)],
 u1 6 .mov [.tm 5],
 u2 7 6 true (.fieldAddr 0) [.tm 1],
 u2 8 6 true (.load false 1) [.tm 7],
 u2 9 6 true (.cmp .leq) [.tm 8, .cn (.int .i64 100000)],
 u1 10 .and [.tm 6, .tm 9],
 u1 11 .mov [.tm 10],
 u2 12 11 true (.fieldAddr 1) [.tm 1],
 u2 13 11 true (.load false 1) [.tm 12],
 u2 14 11 true (.cmp .geq) [.tm 13, .cn (.int .i64 100)],
 u1 15 .and [.tm 11, .tm 14],
 u1 16 .mov [.tm 15],
 u2 17 16 true (.fieldAddr 1) [.tm 1],
 u2 18 16 true (.load false 1) [.tm 17],
 u2 19 16 true (.cmp .leq) [.tm 18, .cn (.int .i64 1000)],
 u1 20 .and [.tm 16, .tm 19],
 u1 2 .mov [.tm 20]])
 .ret)) }
theorem v37_is : vfunc Tryz.prog Tryz.f37 = some v37 := by kernel_rfl
def v23 : VF := { ntmps := 18, res := [.tmp 2], body :=
 (.seq (.region [u1 1 .box [.tm 0],
 u1 2 .mov [.cn (.bool false)]])
 (.seq (.seq (.region [u1 3 .mov [.cn (.int .i64 0)]])
 (.block 0 (.loop (.seq (.seq (.region [u1 4 .mov [.tm 3],
 u1 5 (.fieldAddr 0) [.tm 1],
 u1 6 (.load false 1) [.tm 5],
 u1 7 .len [.tm 6],
 u1 8 (.cmp .lss) [.tm 4, .tm 7]])
 (.cond (.tm 8) .skip
  (.exit 0)))
 (.seq (.block 1 (.seq (.region [u1 11 (.fieldAddr 0) [.tm 1],
 u1 12 (.load false 1) [.tm 11],
 u1 13 .mov [.tm 3],
 u1 14 (.idxAddr 2) [.tm 12, .tm 13],
 u1 15 (.load true 2) [.tm 14],
 u1 16 (.call 37) [.tm 15],
 u1 17 .not [.tm 16]])
 (.cond (.tm 17) (.seq (.region [u1 2 .mov [.cn (.bool false)]])
 .ret)
  .skip)))
 (.region [u1 9 .mov [.tm 3],
 u1 10 (.ari .add) [.tm 9, .cn (.int .i64 1)],
 u1 3 .mov [.tm 10]]))))))
 (.seq (.region [u1 2 .mov [.cn (.bool true)]])
 .ret))) }
theorem v23_is : vfunc Tryz.prog Tryz.f23 = some v23 := by kernel_rfl
def v47 : VF := { ntmps := 16, res := [.tmp 2], body :=
 (.seq (.region [u1 2 .mov [.cn (.bool false)]])
 (.seq (.seq (.region [u1 3 .mov [.cn (.int .i64 0)]])
 (.block 0 (.loop (.seq (.seq (.region [u1 4 .mov [.tm 3],
 u1 5 .mov [.tm 0],
 u1 6 .len [.tm 5],
 u1 7 (.cmp .lss) [.tm 4, .tm 6]])
 (.cond (.tm 7) .skip
  (.exit 0)))
 (.seq (.block 1 (.seq (.region [u1 10 .mov [.tm 0],
 u1 11 .mov [.tm 3],
 u1 12 (.idxAddr 4) [.tm 10, .tm 11],
 u1 13 (.load true 4) [.tm 12],
 u1 14 (.call 27) [.tm 13],
 u1 15 .not [.tm 14]])
 (.cond (.tm 15) (.seq (.region [u1 2 .mov [.cn (.bool false)]])
 .ret)
  .skip)))
 (.region [u1 8 .mov [.tm 3],
 u1 9 (.ari .add) [.tm 8, .cn (.int .i64 1)],
 u1 3 .mov [.tm 9]]))))))
 (.seq (.region [u1 2 .mov [.cn (.bool true)]])
 .ret))) }
theorem v47_is : vfunc Tryz.prog Tryz.f47 = some v47 := by kernel_rfl
def v28 : VF := { ntmps := 17, res := [.tmp 2], body :=
 (.seq (.region [u1 1 .box [.tm 0],
 u1 2 .mov [.cn (.int .i64 0)]])
 (.seq (.region [u1 3 (.fieldAddr 0) [.tm 1],
 u1 4 (.load false 1) [.tm 3],
 u1 5 (.fieldAddr 1) [.tm 1],
 u1 6 (.load false 1) [.tm 5],
 u1 7 (.ari .mul) [.tm 4, .tm 6],
 u1 8 (.fieldAddr 2) [.tm 1],
 u1 9 (.load false 1) [.tm 8],
 u1 10 (.fieldAddr 0) [.tm 1],
 u1 11 (.load false 1) [.tm 10],
 u1 12 (.fieldAddr 1) [.tm 1],
 u1 13 (.load false 1) [.tm 12],
 u1 14 (.ari .add) [.tm 11, .tm 13],
 u1 15 (.ari .mul) [.tm 9, .tm 14],
 u1 16 .min [.tm 7, .tm 15],
 u1 2 .mov [.tm 16]])
 .ret)) }
theorem v28_is : vfunc Tryz.prog Tryz.f28 = some v28 := by kernel_rfl
def v32 : VF := { ntmps := 27, res := [.cell 4 true 2], body :=
 (.seq (.region [u1 2 .box [.tm 0],
 u1 4 (.alloc [(.int .i64 0), (.int .i64 0)]) []])
 (.seq (.region [u1 8 (.fieldAddr 0) [.tm 2],
 u1 9 (.load false 1) [.tm 8],
 u1 10 (.fieldAddr 1) [.tm 2],
 u1 11 (.load false 1) [.tm 10],
 u1 12 (.ari .mul) [.tm 9, .tm 11],
 u1 13 (.call 40) [.tm 12],
 u1 14 .mov [.tm 1],
 u1 15 (.call 39) [.tm 13, .tm 14, .cn (.int .i64 1000000)],
 u1 7 .mov [.tm 15],
 u1 16 (.ext 0) [.tm 7],
 u1 17 (.ext 1) [.tm 7],
 u1 5 (.alloc [(.int .i64 0), (.int .i64 0)]) [],
 u0 (.store 2) [.tm 5, .tm 16],
 u1 6 .mov [.tm 17]])
 (.seq (.draw [] [w1 19 (.load true 2) [.tm 5],
 w1 20 (.fieldAddr 3) [.tm 2],
 w1 21 (.load false 1) [.tm 20],
 w1 22 (.call 40) [.tm 21],
 w1 23 (.call 55) [.tm 19, .tm 22],
 w1 18 .mov [.tm 23],
 w1 24 (.ext 0) [.tm 18],
 w1 25 (.ext 1) [.tm 18],
 w0 (.store 2) [.tm 5, .tm 24]])
 (.seq (.region [u1 26 (.load true 2) [.tm 5],
 u0 (.store 2) [.tm 4, .tm 26]])
 .ret)))) }
theorem v32_is : vfunc Tryz.prog Tryz.f32 = some v32 := by kernel_rfl
def v24 : VF := { ntmps := 33, res := [.cell 2 true 2], body :=
 (.seq (.region [u1 1 .box [.tm 0],
 u1 2 (.alloc [(.int .i64 0), (.int .i64 0)]) []])
 (.seq (.region [u1 7 (.build [(.int .i64 0), (.int .i64 0)] []) [],
 u1 3 (.alloc [(.int .i64 0), (.int .i64 0)]) [],
 u0 (.store 2) [.tm 3, .tm 7]])
 (.seq (.seq (.region [u1 4 .mov [.cn (.int .i64 0)]])
 (.block 0 (.loop (.seq (.seq (.region [u1 8 .mov [.tm 4],
 u1 9 (.fieldAddr 0) [.tm 1],
 u1 10 (.load false 1) [.tm 9],
 u1 11 .len [.tm 10],
 u1 12 (.cmp .lss) [.tm 8, .tm 11]])
 (.cond (.tm 12) .skip
  (.exit 0)))
 (.seq (.block 1 (.seq (.region [u1 16 (.fieldAddr 0) [.tm 1],
 u1 17 (.load false 1) [.tm 16],
 u1 18 .mov [.tm 4],
 u1 19 (.idxAddr 2) [.tm 17, .tm 18],
 u1 20 (.fieldAddr 0) [.tm 19],
 u1 21 (.load false 1) [.tm 20],
 u1 22 (.call 40) [.tm 21],
 u1 23 (.call 54) [.tm 22],
 u1 15 .mov [.tm 23],
 u1 24 (.ext 0) [.tm 15],
 u1 25 (.ext 1) [.tm 15],
 u1 5 (.alloc [(.int .i64 0), (.int .i64 0)]) [],
 u0 (.store 2) [.tm 5, .tm 24],
 u1 6 .mov [.tm 25]])
 (.region [u1 27 (.load true 2) [.tm 3],
 u1 28 (.load true 2) [.tm 5],
 u1 29 (.call 55) [.tm 27, .tm 28],
 u1 26 .mov [.tm 29],
 u1 30 (.ext 0) [.tm 26],
 u1 31 (.ext 1) [.tm 26],
 u0 (.store 2) [.tm 3, .tm 30]])))
 (.region [u1 13 .mov [.tm 4],
 u1 14 (.ari .add) [.tm 13, .cn (.int .i64 1)],
 u1 4 .mov [.tm 14]]))))))
 (.seq (.region [u1 32 (.load true 2) [.tm 3],
 u0 (.store 2) [.tm 2, .tm 32]])
 .ret)))) }
theorem v24_is : vfunc Tryz.prog Tryz.f24 = some v24 := by kernel_rfl
def v101 : VF := { ntmps := 36, res := [.tmp 6], body :=
 (.seq (.region [u1 3 .box [.tm 0],
 u1 6 .mov [.cn (.int .i64 0)]])
 (.seq (.region [u1 7 .mov [.cn (.int .i64 0)]])
 (.seq (.seq (.region [u1 8 .mov [.cn (.int .i64 0)]])
 (.block 0 (.loop (.seq (.seq (.region [u1 9 .mov [.tm 8],
 u1 10 .mov [.tm 1],
 u1 11 .len [.tm 10],
 u1 12 (.cmp .lss) [.tm 9, .tm 11]])
 (.cond (.tm 12) .skip
  (.exit 0)))
 (.seq (.block 1 (.region [u1 15 .mov [.tm 7],
 u1 16 .mov [.tm 1],
 u1 17 .mov [.tm 8],
 u1 18 (.idxAddr 4) [.tm 16, .tm 17],
 u1 19 (.load true 4) [.tm 18],
 u1 20 (.call 28) [.tm 19],
 u1 21 (.ari .add) [.tm 15, .tm 20],
 u1 7 .mov [.tm 21]]))
 (.region [u1 13 .mov [.tm 8],
 u1 14 (.ari .add) [.tm 13, .cn (.int .i64 1)],
 u1 8 .mov [.tm 14]]))))))
 (.seq (.seq (.region [u1 22 .mov [.tm 7],
 u1 23 (.ari .mul) [.cn (.int .i64 100), .tm 22],
 u1 24 .mov [.tm 2],
 u1 25 (.fieldAddr 1) [.tm 3],
 u1 26 (.load false 1) [.tm 25],
 u1 27 (.ari .mul) [.tm 24, .tm 26],
 u1 28 (.cmp .geq) [.tm 23, .tm 27]])
 (.cond (.tm 28) (.seq (.region [u1 6 .mov [.cn (.int .i64 1)]])
 .ret)
  .skip))
 (.seq (.seq (.region [u1 29 .mov [.tm 7],
 u1 30 (.ari .mul) [.cn (.int .i64 100), .tm 29],
 u1 31 .mov [.tm 2],
 u1 32 (.fieldAddr 0) [.tm 3],
 u1 33 (.load false 1) [.tm 32],
 u1 34 (.ari .mul) [.tm 31, .tm 33],
 u1 35 (.cmp .lss) [.tm 30, .tm 34]])
 (.cond (.tm 35) (.seq (.region [u1 6 .mov [.cn (.int .i64 (-1))]])
 .ret)
  .skip))
 (.seq (.region [u1 6 .mov [.cn (.int .i64 0)]])
 .ret)))))) }
theorem v101_is : vfunc Tryz.prog Tryz.f101 = some v101 := by kernel_rfl
def v74 : VF := { ntmps := 25, res := [.tmp 4], body :=
 (.seq (.region [u1 3 .box [.tm 1],
 u1 4 .mov [.cn .nil]])
 (.seq (.region [u1 5 .mov [.cn .nil]])
 (.seq (.seq (.region [u1 6 .mov [.cn (.int .i64 0)]])
 (.block 0 (.loop (.seq (.seq (.region [u1 7 .mov [.tm 6],
 u1 8 .mov [.tm 0],
 u1 9 .len [.tm 8],
 u1 10 (.cmp .lss) [.tm 7, .tm 9]])
 (.cond (.tm 10) .skip
  (.exit 0)))
 (.seq (.block 1 (.draw [] [w1 13 .mov [.tm 5],
 w1 14 .mov [.tm 0],
 w1 15 .mov [.tm 6],
 w1 16 (.idxAddr 4) [.tm 14, .tm 15],
 w1 17 (.load true 4) [.tm 16],
 w1 18 (.fieldAddr 1) [.tm 3],
 w1 19 (.load false 1) [.tm 18],
 w1 20 (.call 32) [.tm 17, .tm 19],
 w1 21 (.field false 1 1) [.tm 20],
 w1 22 (.buildSlice 1 1 [(.int .i64 0)] [(0, 1)]) [.tm 21],
 w1 23 (.append 1 8 [(.int .i64 0)]) [.tm 13, .tm 22],
 w1 5 .mov [.tm 23]]))
 (.region [u1 11 .mov [.tm 6],
 u1 12 (.ari .add) [.tm 11, .cn (.int .i64 1)],
 u1 6 .mov [.tm 12]]))))))
 (.seq (.region [u1 24 .mov [.tm 5],
 u1 4 .mov [.tm 24]])
 .ret)))) }
theorem v74_is : vfunc Tryz.prog Tryz.f74 = some v74 := by kernel_rfl
def v75 : VF := { ntmps := 95, res := [.tmp 10, .tmp 11], body :=
 (.seq (.region [u1 5 .box [.tm 0],
 u1 8 .box [.tm 3],
 u1 10 .mov [.cn (.int .i64 0)],
 u1 11 .mov [.cn (.bool false)]])
 (.seq (.seq (.region [u1 15 .mov [.tm 4],
 u1 16 .len [.tm 15],
 u1 17 (.cmp .lss) [.tm 16, .cn (.int .i64 1)],
 u1 18 .mov [.tm 17],
 u2 19 18 false .mov [.tm 4],
 u2 20 18 false .len [.tm 19],
 u2 21 18 false (.cmp .gtr) [.tm 20, .cn (.int .i64 2)],
 u1 22 .or [.tm 18, .tm 21]])
 (.cond (.tm 22) (.seq (.region [u1 10 .mov [.cn (.int .i64 0)],
 u1 11 .mov [.cn (.bool false)]])
 .ret)
  .skip))
 (.seq (.region [u1 12 .mov [.cn .nil]])
 (.seq (.region [u1 13 .mov [.cn (.int .i64 0)]])
 (.seq (.seq (.region [u1 14 .mov [.cn (.int .i64 0)]])
 (.block 0 (.loop (.seq (.seq (.region [u1 23 .mov [.tm 14],
 u1 24 .mov [.tm 4],
 u1 25 .len [.tm 24],
 u1 26 (.cmp .lss) [.tm 23, .tm 25]])
 (.cond (.tm 26) .skip
  (.exit 0)))
 (.seq (.block 1 (.seq (.seq (.draw [] [w1 29 .mov [.tm 4],
 w1 30 .mov [.tm 14],
 w1 31 (.idxAddr 1) [.tm 29, .tm 30],
 w1 32 (.load false 1) [.tm 31],
 w1 33 (.cmp .lss) [.tm 32, .cn (.int .i64 0)],
 w1 34 .mov [.tm 33],
 ⟨u2 35 34 false .mov [.tm 4], []⟩,
 ⟨u2 36 34 false .mov [.tm 14], []⟩,
 ⟨u2 37 34 false (.idxAddr 1) [.tm 35, .tm 36], []⟩,
 ⟨u2 38 34 false (.load false 1) [.tm 37], []⟩,
 ⟨u2 39 34 false .mov [.tm 2], []⟩,
 ⟨u2 40 34 false .len [.tm 39], []⟩,
 ⟨u2 41 34 false (.cmp .geq) [.tm 38, .tm 40], []⟩,
 w1 42 .or [.tm 34, .tm 41],
 w1 43 .mov [.tm 42],
 ⟨u2 44 43 false .mov [.tm 14], []⟩,
 ⟨u2 45 43 false (.cmp .gtr) [.tm 44, .cn (.int .i64 0)], []⟩,
 ⟨u2 46 43 false .mov [.tm 45], []⟩,
 ⟨u2 47 46 true .mov [.tm 4], []⟩,
 ⟨u2 48 46 true .mov [.tm 14], []⟩,
 ⟨u2 49 46 true (.idxAddr 1) [.tm 47, .tm 48], []⟩,
 ⟨u2 50 46 true (.load false 1) [.tm 49], []⟩,
 ⟨u2 51 46 true .mov [.tm 4], []⟩,
 ⟨u2 52 46 true .mov [.tm 14], []⟩,
 ⟨u2 53 46 true (.ari .sub) [.tm 52, .cn (.int .i64 1)], []⟩,
 ⟨u2 54 46 true (.idxAddr 1) [.tm 51, .tm 53], []⟩,
 ⟨u2 55 46 true (.load false 1) [.tm 54], []⟩,
 ⟨u2 56 46 true (.cmp .lss) [.tm 50, .tm 55], []⟩,
 ⟨u2 57 43 false .and [.tm 46, .tm 56], []⟩,
 w1 58 .or [.tm 43, .tm 57]])
 (.cond (.tm 58) (.seq (.region [u1 10 .mov [.cn (.int .i64 0)],
 u1 11 .mov [.cn (.bool false)]])
 .ret)
  .skip))
 (.seq (.seq (.draw [] [w1 59 .mov [.tm 1],
 w1 60 .mov [.tm 4],
 w1 61 .mov [.tm 14],
 w1 62 (.idxAddr 1) [.tm 60, .tm 61],
 w1 63 (.load false 1) [.tm 62],
 w1 64 (.idxAddr 1) [.tm 59, .tm 63],
 w1 65 (.load false 1) [.tm 64],
 w1 66 (.fieldAddr 2) [.tm 8],
 w1 67 (.load false 1) [.tm 66],
 w1 68 (.cmp .gtr) [.tm 65, .tm 67]])
 (.cond (.tm 68) (.seq (.region [u1 10 .mov [.cn (.int .i64 0)],
 u1 11 .mov [.cn (.bool false)]])
 .ret)
  .skip))
 (.seq (.region [u1 69 .mov [.tm 13],
 u1 70 .mov [.tm 1],
 u1 71 .mov [.tm 4],
 u1 72 .mov [.tm 14],
 u1 73 (.idxAddr 1) [.tm 71, .tm 72],
 u1 74 (.load false 1) [.tm 73],
 u1 75 (.idxAddr 1) [.tm 70, .tm 74],
 u1 76 (.load false 1) [.tm 75],
 u1 77 (.ari .add) [.tm 69, .tm 76],
 u1 13 .mov [.tm 77]])
 (.region [u1 78 .mov [.tm 12],
 u1 79 .mov [.tm 2],
 u1 80 .mov [.tm 4],
 u1 81 .mov [.tm 14],
 u1 82 (.idxAddr 1) [.tm 80, .tm 81],
 u1 83 (.load false 1) [.tm 82],
 u1 84 (.idxAddr 4) [.tm 79, .tm 83],
 u1 85 (.load true 4) [.tm 84],
 u1 86 (.buildSlice 4 1 [(.int .i64 0), (.int .i64 0), (.int .i64 0), (.int .i64 0)] [(0, 4)]) [.tm 85],
 u1 87 (.append 4 32 [(.int .i64 0), (.int .i64 0), (.int .i64 0), (.int .i64 0)]) [.tm 78, .tm 86],
 u1 12 .mov [.tm 87]])))))
 (.region [u1 27 .mov [.tm 14],
 u1 28 (.ari .add) [.tm 27, .cn (.int .i64 1)],
 u1 14 .mov [.tm 28]]))))))
 (.seq (.region [u1 88 .mov [.tm 13],
 u1 89 (.load true 2) [.tm 5],
 u1 90 .mov [.tm 12],
 u1 91 (.fieldAddr 0) [.tm 8],
 u1 92 (.load false 1) [.tm 91],
 u1 93 (.call 101) [.tm 89, .tm 90, .tm 92],
 u1 94 (.cmp .eql) [.tm 93, .cn (.int .i64 1)],
 u1 10 .mov [.tm 88],
 u1 11 .mov [.tm 94]])
 .ret)))))) }
theorem v75_is : vfunc Tryz.prog Tryz.f75 = some v75 := by kernel_rfl


def frmC : Ctr := { alias := false, of := fun l => match l with
  | [.int .i64 n, .int .i64 lo, .int .i64 hi] => .fin (.bool (!outN n lo hi)) []
  | _ => noC }
def rtoeC : Ctr := { alias := false, of := fun l => match l with
  | [.agg [.int .i64 x, .int .i64 y]] => .fin (.bool (!toeB (x, y))) []
  | _ => noC }
def rpalC : Ctr := { alias := false, of := fun l => match l with
  | [.agg [.int .i64 w, .int .i64 l, .int .i64 t, .int .i64 s]] => .fin (.bool (!palB ⟨w, l, t, s⟩)) []
  | _ => noC }
theorem nout {n lo hi : Int} : (!outN n lo hi) = (decide (lo ≤ n) && decide (n ≤ hi)) := by
  unfold outN
  rw [Bool.not_or, ← decide_not, ← decide_not]
  congr 1 <;> rw [decide_eq_decide] <;> omega
theorem frm_ok : frmC.ok Tryz.prog 38 := by
  refine contract Tryz.func38 v38_is E0_ok 100 frmC fun args k h => ⟨args, ?_⟩
  simp only [frmC] at h
  split at h
  · refine ⟨by simp [leL, le], ?_⟩
    dsimp only [v38, go_sem, Option.bind, Option.map, List.append_nil, Nat.beq, List.cons_append, List.nil_append, List.append_eq, List.map_cons, List.map_nil, ite_self, reduceIte]
    simp only [true_and, and_true, imp_self, implies_true, decide_eq_true_eq, decide_eq_false_iff_not, Nat.reduceAdd, Nat.reduceLeDiff, Bool.not_not, reduceCtorEq, false_imp_iff, Bool.not_eq_true', Bool.not_eq_false', Bool.false_eq_true, and_self, forall_const, ne_eq, not_false_eq_true, Nat.reduceEqDiff]
    have h : k _ [] := h
    rw [nout] at h
    exact ans_bool h
  · exact h.1.elim
def F1 : Env := { ct := fun n => match n with | 38 => some frmC | _ => none, fn := fun _ => none, meth := fun _ _ => none }
theorem F1_ct38 : F1.ct 38 = some frmC := rfl
theorem F1_ok : EnvOk Tryz.prog F1 := by
  refine ⟨fun f c h => ?_, fun f vf h => ?_, (fun _ _ _ h => by cases h), by kernel_rfl⟩
  · simp only [F1] at h
    split at h
    · cases h; exact ⟨frm_ok, Tryz.f38, Tryz.func38, by kernel_rfl, by kernel_rfl⟩
    · cases h
  · cases h

theorem rtoe_ok : rtoeC.ok Tryz.prog 37 := by
  refine contract Tryz.func37 v37_is F1_ok 100 rtoeC fun args k h => ⟨args, ?_⟩
  simp only [rtoeC] at h
  split at h
  · refine ⟨by simp [leL, le], ?_⟩
    dsimp only [v37, go_sem, Option.bind, Option.map, List.append_nil, Nat.beq, List.cons_append, List.nil_append, List.append_eq, List.map_cons, List.map_nil, ite_self, reduceIte]
    simp only [true_and, and_true, imp_self, implies_true, decide_eq_true_eq, decide_eq_false_iff_not, Nat.reduceAdd, Nat.reduceLeDiff, Bool.not_not, reduceCtorEq, false_imp_iff, Bool.not_eq_true', Bool.not_eq_false', Bool.false_eq_true, and_self, forall_const, ne_eq, not_false_eq_true, Nat.reduceEqDiff]
    have h : k _ [] := h
    rw [toeB, Bool.not_or, nout, nout, ← Bool.and_assoc] at h
    exact ans_bool h
  · exact h.1.elim
theorem rpal_ok : rpalC.ok Tryz.prog 27 := by
  refine contract Tryz.func27 v27_is F1_ok 100 rpalC fun args k h => ⟨args, ?_⟩
  simp only [rpalC] at h
  split at h
  · refine ⟨by simp [leL, le], ?_⟩
    dsimp only [v27, F1_ct38, frmC, go_sem, Option.bind, Option.map, List.append_nil, Nat.beq, List.cons_append, List.nil_append, List.append_eq, List.map_cons, List.map_nil, ite_self, reduceIte]
    simp only [true_and, and_true, imp_self, implies_true, decide_eq_true_eq, decide_eq_false_iff_not, Nat.reduceAdd, Nat.reduceLeDiff, Bool.not_not, reduceCtorEq, false_imp_iff, Bool.not_eq_true', Bool.not_eq_false', Bool.false_eq_true, and_self, forall_const, ne_eq, not_false_eq_true, Nat.reduceEqDiff]
    have h : k _ [] := h
    rw [palB, Bool.not_or, Bool.not_or, Bool.not_or] at h
    exact ans_bool h
  · exact h.1.elim
theorem rone_ok : oneC.ok Tryz.prog 40 := by
  refine contract Tryz.func40 v40_is F1_ok 100 oneC fun args k h => ⟨args, ?_⟩
  simp only [oneC] at h
  split at h
  · refine ⟨by simp [leL, le], ?_⟩
    dsimp only [v40, go_sem, Option.bind, Option.map, List.append_nil, Nat.beq, List.cons_append, List.nil_append, List.append_eq, List.map_cons, List.map_nil, ite_self, reduceIte]
    simp only [true_and, and_true, imp_self, implies_true, decide_eq_true_eq, decide_eq_false_iff_not, Nat.reduceAdd, Nat.reduceLeDiff, Bool.not_not, reduceCtorEq, false_imp_iff, Bool.not_eq_true', Bool.not_eq_false', Bool.false_eq_true, and_self, forall_const, ne_eq, not_false_eq_true, Nat.reduceEqDiff]
    exact ans_le (show k _ [] from h) (by simp [expo, view, viewL, leL, le]) (fun _ => by simp [freshS, freshL])
  · exact h.1.elim

def toesC : Ctr := { alias := false, of := fun l => match l with
  | [.agg [.vs _ _ n sz get]] => .ex (List Iv) fun l => .pre (lsP 2 enc2 n sz get l ∧ l.length ≤ 1000000000000) (.fin (.bool (!(l.any toeB))) [])
  | _ => noC }
def palsC : Ctr := { alias := false, of := fun l => match l with
  | [.vs _ _ n sz get] => .ex (List Plt) fun l => .pre (lsP 4 encP n sz get l ∧ l.length ≤ 1000000000000) (.fin (.bool (!(l.any palB))) [])
  | _ => noC }
def F2 : Env := { ct := fun n => match n with | 38 => some frmC | 37 => some rtoeC | 27 => some rpalC | 40 => some oneC | 39 => some sclC | 55 => some addC | 54 => some discC | _ => none, fn := fun _ => none, meth := fun _ _ => none }
theorem F2_ct37 : F2.ct 37 = some rtoeC := rfl
theorem F2_ct27 : F2.ct 27 = some rpalC := rfl
theorem F2_ct40 : F2.ct 40 = some oneC := rfl
theorem F2_ct39 : F2.ct 39 = some sclC := rfl
theorem F2_ct55 : F2.ct 55 = some addC := rfl
theorem F2_ct54 : F2.ct 54 = some discC := rfl
theorem F2_ok : EnvOk Tryz.prog F2 := by
  refine ⟨fun f c h => ?_, fun f vf h => ?_, (fun _ _ _ h => by cases h), by kernel_rfl⟩
  · simp only [F2] at h
    split at h
    · cases h; exact ⟨frm_ok, Tryz.f38, Tryz.func38, by kernel_rfl, by kernel_rfl⟩
    · cases h; exact ⟨rtoe_ok, Tryz.f37, Tryz.func37, by kernel_rfl, by kernel_rfl⟩
    · cases h; exact ⟨rpal_ok, Tryz.f27, Tryz.func27, by kernel_rfl, by kernel_rfl⟩
    · cases h; exact ⟨rone_ok, Tryz.f40, Tryz.func40, by kernel_rfl, by kernel_rfl⟩
    · cases h; exact ⟨rscl_ok, Tryz.f39, Tryz.func39, by kernel_rfl, by kernel_rfl⟩
    · cases h; exact ⟨radd_ok, Tryz.f55, Tryz.func55, by kernel_rfl, by kernel_rfl⟩
    · cases h; exact ⟨rdisc_ok, Tryz.f54, Tryz.func54, by kernel_rfl, by kernel_rfl⟩
    · cases h
  · cases h

theorem toes_ok : toesC.ok Tryz.prog 23 := by
  refine contract Tryz.func23 v23_is F2_ok 200 toesC fun args k h => ?_
  simp only [toesC] at h
  split at h
  · rename_i t z n sz get
    obtain ⟨l, ⟨⟨rfl, rfl, hg⟩, hl⟩, h⟩ := h
    refine ⟨[.agg [.vs t z l.length 2 (fun k => enc2 (l.getD k default))]], ⟨by simpa [le, leL] using hg, trivial⟩, ?_⟩
    have h : k (.bool (!(l.any toeB))) [] := h
    dsimp only [v23, enc2, go_sem, Option.bind, Option.map, List.append_nil, Nat.beq, List.cons_append, List.nil_append, List.append_eq, List.map_cons, List.map_nil, ite_self, reduceIte]
    simp only [true_and, and_true, imp_self, implies_true, decide_eq_true_eq, decide_eq_false_iff_not, Nat.reduceAdd, Nat.reduceLeDiff, Bool.not_not, reduceCtorEq, false_imp_iff, Bool.not_eq_true', Bool.not_eq_false', Bool.false_eq_true, and_self, forall_const, ne_eq, not_false_eq_true, Nat.reduceEqDiff]
    obtain ⟨F, hF⟩ : ∃ F, F = toeB := ⟨_, rfl⟩
    rw [← hF] at h
    refine Loop.keep [1, 0] Nat (fun i => [(3, .int .i64 i)]) (fun _ => []) [] (fun i => i ≤ l.length ∧ ∀ j, j < i → F (l.getD j default) = false) (fun i => l.length - i) ?_ ?_
    · refine ⟨0, ⟨Nat.zero_le _, fun j h => by omega⟩, ?_⟩
      dsimp only [go_sem, Option.bind, Option.map, List.append_nil, Nat.beq, List.cons_append, List.nil_append, List.append_eq, List.map_cons, List.map_nil, ite_self, reduceIte]
      simp only [leS_mk, leL_cons, leL_nil, le_junk, le_int, le_bool, le_nil, leLL_nil, leLL_cons, leH_cons, leH_nil, leH1_box, leH1_own, leH1_gone, le_vs, le_agg, le_tup, le_ptr, le_own, le_xp, le_fn, le_opt, le_val, le_elem, le_nil_own, le_nil_vs, leH_ghost, leL_chunk, leXL_id, bnd_int, bnd_bool, bnd_val, bnd_nil, bnd_junk, bnd_vs, bnd_xp, bnd_agg, bnd_tup, bnd_ptr, bnd_own, bnd_elem, bnd_fn, bnd_iface, bnd_opt, bndL_nil, bndL_cons, lenH_cons, lenH_nil, imp_self, implies_true, true_and, and_true]
      simp
    · rintro i ⟨hi, ha⟩
      dsimp only [F2_ct37, rtoeC, enc2, Int.toNat_natCast, go_sem, Option.bind, Option.map, List.append_nil, Nat.beq, List.cons_append, List.nil_append, List.append_eq, List.map_cons, List.map_nil, ite_self, reduceIte]
      simp only [true_and, and_true, imp_self, implies_true, decide_eq_true_eq, decide_eq_false_iff_not, Nat.reduceAdd, Nat.reduceLeDiff, Bool.not_not, reduceCtorEq, false_imp_iff, Bool.not_eq_true', Bool.not_eq_false', Bool.false_eq_true, and_self, forall_const, ne_eq, not_false_eq_true, Nat.reduceEqDiff]
      simp only [show toeB (((l.getD i default).1, (l.getD i default).2)) = F (l.getD i default) by rw [hF]]
      refine ⟨fun hlt => ⟨⟨by omega, hlt⟩, fun hb => ?_, fun hb => ?_⟩, fun hge => ?_⟩
      · have e : l.any F = true := List.any_eq_true.2 ⟨_, getD_mem (by omega : i < l.length), hb⟩
        exact ans_bool (by rw [e] at h; exact h)
      · refine ⟨i + 1, ⟨by omega, fun j hj => ?_⟩, by omega, ?_⟩
        · rcases Nat.lt_or_ge j i with h' | h'
          · exact ha j h'
          · obtain rfl : j = i := by omega
            exact hb
        · simp only [w_succ (i := i) (n := l.length) (by omega) (by omega), leS_mk, leL_cons, leL_nil, le_junk, le_int, le_bool, le_nil, leLL_nil, leLL_cons, leH_cons, leH_nil, leH1_box, leH1_own, leH1_gone, le_vs, le_agg, le_tup, le_ptr, le_own, le_xp, le_fn, le_opt, le_val, le_elem, le_nil_own, le_nil_vs, leH_ghost, leL_chunk, leXL_id, bnd_int, bnd_bool, bnd_val, bnd_nil, bnd_junk, bnd_vs, bnd_xp, bnd_agg, bnd_tup, bnd_ptr, bnd_own, bnd_elem, bnd_fn, bnd_iface, bnd_opt, bndL_nil, bndL_cons, lenH_cons, lenH_nil, imp_self, implies_true, true_and, and_true] <;> simp
      · have e : l.any F = false := List.any_eq_false.2 fun x hx => by
          obtain ⟨j, hj, rfl⟩ := mem_getD hx
          rw [ha j (by omega)]; simp
        exact ans_bool (by rw [e] at h; exact h)
  · exact h.1.elim
theorem pals_ok : palsC.ok Tryz.prog 47 := by
  refine contract Tryz.func47 v47_is F2_ok 200 palsC fun args k h => ?_
  simp only [palsC] at h
  split at h
  · rename_i t z n sz get
    obtain ⟨l, ⟨⟨rfl, rfl, hg⟩, hl⟩, h⟩ := h
    refine ⟨[.vs t z l.length 4 (fun k => encP (l.getD k default))], ⟨by simpa [le, leL] using hg, trivial⟩, ?_⟩
    have h : k (.bool (!(l.any palB))) [] := h
    dsimp only [v47, encP, go_sem, Option.bind, Option.map, List.append_nil, Nat.beq, List.cons_append, List.nil_append, List.append_eq, List.map_cons, List.map_nil, ite_self, reduceIte]
    simp only [true_and, and_true, imp_self, implies_true, decide_eq_true_eq, decide_eq_false_iff_not, Nat.reduceAdd, Nat.reduceLeDiff, Bool.not_not, reduceCtorEq, false_imp_iff, Bool.not_eq_true', Bool.not_eq_false', Bool.false_eq_true, and_self, forall_const, ne_eq, not_false_eq_true, Nat.reduceEqDiff]
    obtain ⟨F, hF⟩ : ∃ F, F = palB := ⟨_, rfl⟩
    rw [← hF] at h
    refine Loop.keep [0, 1] Nat (fun i => [(3, .int .i64 i)]) (fun _ => []) [] (fun i => i ≤ l.length ∧ ∀ j, j < i → F (l.getD j default) = false) (fun i => l.length - i) ?_ ?_
    · refine ⟨0, ⟨Nat.zero_le _, fun j h => by omega⟩, ?_⟩
      dsimp only [go_sem, Option.bind, Option.map, List.append_nil, Nat.beq, List.cons_append, List.nil_append, List.append_eq, List.map_cons, List.map_nil, ite_self, reduceIte]
      simp only [leS_mk, leL_cons, leL_nil, le_junk, le_int, le_bool, le_nil, leLL_nil, leLL_cons, leH_cons, leH_nil, leH1_box, leH1_own, leH1_gone, le_vs, le_agg, le_tup, le_ptr, le_own, le_xp, le_fn, le_opt, le_val, le_elem, le_nil_own, le_nil_vs, leH_ghost, leL_chunk, leXL_id, bnd_int, bnd_bool, bnd_val, bnd_nil, bnd_junk, bnd_vs, bnd_xp, bnd_agg, bnd_tup, bnd_ptr, bnd_own, bnd_elem, bnd_fn, bnd_iface, bnd_opt, bndL_nil, bndL_cons, lenH_cons, lenH_nil, imp_self, implies_true, true_and, and_true]
      simp
    · rintro i ⟨hi, ha⟩
      dsimp only [F2_ct27, rpalC, encP, Int.toNat_natCast, go_sem, Option.bind, Option.map, List.append_nil, Nat.beq, List.cons_append, List.nil_append, List.append_eq, List.map_cons, List.map_nil, ite_self, reduceIte]
      simp only [true_and, and_true, imp_self, implies_true, decide_eq_true_eq, decide_eq_false_iff_not, Nat.reduceAdd, Nat.reduceLeDiff, Bool.not_not, reduceCtorEq, false_imp_iff, Bool.not_eq_true', Bool.not_eq_false', Bool.false_eq_true, and_self, forall_const, ne_eq, not_false_eq_true, Nat.reduceEqDiff]
      simp only [show palB ⟨(l.getD i default).w, (l.getD i default).l, (l.getD i default).t, (l.getD i default).s⟩ = F (l.getD i default) by rw [hF]]
      refine ⟨fun hlt => ⟨⟨by omega, hlt⟩, fun hb => ?_, fun hb => ?_⟩, fun hge => ?_⟩
      · have e : l.any F = true := List.any_eq_true.2 ⟨_, getD_mem (by omega : i < l.length), hb⟩
        exact ans_bool (by rw [e] at h; exact h)
      · refine ⟨i + 1, ⟨by omega, fun j hj => ?_⟩, by omega, ?_⟩
        · rcases Nat.lt_or_ge j i with h' | h'
          · exact ha j h'
          · obtain rfl : j = i := by omega
            exact hb
        · simp only [w_succ (i := i) (n := l.length) (by omega) (by omega), leS_mk, leL_cons, leL_nil, le_junk, le_int, le_bool, le_nil, leLL_nil, leLL_cons, leH_cons, leH_nil, leH1_box, leH1_own, leH1_gone, le_vs, le_agg, le_tup, le_ptr, le_own, le_xp, le_fn, le_opt, le_val, le_elem, le_nil_own, le_nil_vs, leH_ghost, leL_chunk, leXL_id, bnd_int, bnd_bool, bnd_val, bnd_nil, bnd_junk, bnd_vs, bnd_xp, bnd_agg, bnd_tup, bnd_ptr, bnd_own, bnd_elem, bnd_fn, bnd_iface, bnd_opt, bndL_nil, bndL_cons, lenH_cons, lenH_nil, imp_self, implies_true, true_and, and_true] <;> simp
      · have e : l.any F = false := List.any_eq_false.2 fun x hx => by
          obtain ⟨j, hj, rfl⟩ := mem_getD hx
          rw [ha j (by omega)]; simp
        exact ans_bool (by rw [e] at h; exact h)
  · exact h.1.elim
theorem ropen_ok : openC.ok Tryz.prog 28 := by
  refine contract Tryz.func28 v28_is F2_ok 100 openC fun args k h => ⟨args, ?_⟩
  simp only [openC] at h
  split at h
  · rename_i w l t s
    obtain ⟨hp, h⟩ := h
    refine ⟨by simp [leL, le], ?_⟩
    obtain ⟨h1, h2, h3, h4⟩ := pal_rng hp
    obtain ⟨_, _, h5, h6⟩ := open_rng hp
    dsimp only at h1 h2 h3 h4 h5 h6
    have h : k (.int .i64 (min (w * l) (t * (w + l)))) [] := h
    dsimp only [v28, go_sem, Option.bind, Option.map, List.append_nil, Nat.beq, List.cons_append, List.nil_append, List.append_eq, List.map_cons, List.map_nil, ite_self, reduceIte]
    simp only [true_and, and_true, imp_self, implies_true, decide_eq_true_eq, decide_eq_false_iff_not, Nat.reduceAdd, Nat.reduceLeDiff, Bool.not_not, reduceCtorEq, false_imp_iff, Bool.not_eq_true', Bool.not_eq_false', Bool.false_eq_true, and_self, forall_const, ne_eq, not_false_eq_true, Nat.reduceEqDiff]
    rw [w6_raw (x := w + l) (by omega) (by omega), w6_raw (x := w * l) (by omega) (by omega), w6_raw (x := t * (w + l)) (by omega) (by omega)]
    exact ans_int h
  · exact h.1.elim
theorem add_in {a b : Iv} (h1 : 0 ≤ a.1 ∧ a.1 ≤ a.2 ∧ a.2 ≤ 100000000000000) (h2 : 0 ≤ b.1 ∧ b.1 ≤ b.2 ∧ b.2 ≤ 1000000000000) : addF a b = ((a.1 + b.1, a.2 + b.2), 0) := by
  have h5 : ivE [a, b] = 0 := by
    unfold ivE
    rw [if_pos (by simp [numOk]; omega), if_pos (by simp; omega)]
  unfold addF fitF
  rw [if_neg (by rw [h5]; simp), if_pos (by rw [Bool.and_eq_true, numOk_iff, numOk_iff]; omega)]
theorem rforce_ok : forceC.ok Tryz.prog 32 := by
  refine contract Tryz.func32 v32_is F2_ok 200 forceC fun args k h => ⟨args, ?_⟩
  simp only [forceC, forC] at h
  split at h
  · rename_i w l t s pr
    obtain ⟨⟨hp, hp1, hp2⟩, h⟩ := h
    refine ⟨by simp [leL, le], ?_⟩
    obtain ⟨h1, h2, h3, h4⟩ := pal_rng hp
    obtain ⟨_, _, h5, h6⟩ := open_rng hp
    obtain ⟨f1, f2, f3, f4⟩ := force_rng hp hp1 hp2
    dsimp only at h1 h2 h3 h4 h5 h6
    unfold sclI at f1 f2 f3
    dsimp only at f1 f2 f3
    dsimp only [v32, F2_ct40, F2_ct39, F2_ct55, oneC, sclC, addC, iv2C, enc2, go_sem, Option.bind, Option.map, List.append_nil, Nat.beq, List.cons_append, List.nil_append, List.append_eq, List.map_cons, List.map_nil, ite_self, reduceIte]
    simp only [true_and, and_true, imp_self, implies_true, decide_eq_true_eq, decide_eq_false_iff_not, Nat.reduceAdd, Nat.reduceLeDiff, Bool.not_not, reduceCtorEq, false_imp_iff, Bool.not_eq_true', Bool.not_eq_false', Bool.false_eq_true, and_self, forall_const, ne_eq, not_false_eq_true, Nat.reduceEqDiff]
    rw [w6_raw (x := w * l) (by omega) (by omega)]
    have e := add_in (a := (sclF (w * l, w * l) pr 1000000).1) (b := (s, s)) ⟨f1.1, f3, by omega⟩ ⟨h4.1, Int.le_refl _, by show s ≤ _; omega⟩
    have h : k (.agg (enc2 (forceF ⟨w, l, t, s⟩ pr))) [] := h
    have e2 : (addF (sclF (w * l, w * l) pr 1000000).1 (s, s)).1 = forceF ⟨w, l, t, s⟩ pr := by rw [e]; rfl
    rw [← e2] at h
    exact ⟨by decide, by decide, by decide, by decide, ans_p2 (r := (addF (sclF (w * l, w * l) pr 1000000).1 (s, s)).1) h⟩
  · exact h.1.elim
theorem rarea_ok : areaC.ok Tryz.prog 24 := by
  refine contract Tryz.func24 v24_is F2_ok 200 areaC fun args k h => ?_
  simp only [areaC] at h
  split at h
  · rename_i t z n sz get
    obtain ⟨l, ⟨⟨rfl, rfl, hg⟩, hl, hv⟩, h⟩ := h
    refine ⟨[.agg [.vs t z l.length 2 (fun k => enc2 (l.getD k default))]], ⟨by simpa [le, leL] using hg, trivial⟩, ?_⟩
    have h : k (.agg (enc2 (areaF l))) [] := h
    dsimp only [v24, enc2, go_sem, Option.bind, Option.map, List.append_nil, Nat.beq, List.cons_append, List.nil_append, List.append_eq, List.map_cons, List.map_nil, ite_self, reduceIte]
    simp only [true_and, and_true, imp_self, implies_true, decide_eq_true_eq, decide_eq_false_iff_not, Nat.reduceAdd, Nat.reduceLeDiff, Bool.not_not, reduceCtorEq, false_imp_iff, Bool.not_eq_true', Bool.not_eq_false', Bool.false_eq_true, and_self, forall_const, ne_eq, not_false_eq_true, Nat.reduceEqDiff]
    refine Loop.keep [1, 0, 0] Nat (fun i => [(4, .int .i64 i)]) (fun i => [(2, .box (enc2 (areaF (l.take i))))]) [] (fun i => i ≤ l.length) (fun i => l.length - i) ?_ ?_
    · refine ⟨0, Nat.zero_le _, ?_⟩
      dsimp only [enc2, go_sem, Option.bind, Option.map, List.append_nil, Nat.beq, List.cons_append, List.nil_append, List.append_eq, List.map_cons, List.map_nil, ite_self, reduceIte]
      simp only [leS_mk, leL_cons, leL_nil, le_junk, le_int, le_bool, le_nil, leLL_nil, leLL_cons, leH_cons, leH_nil, leH1_box, leH1_own, leH1_gone, le_vs, le_agg, le_tup, le_ptr, le_own, le_xp, le_fn, le_opt, le_val, le_elem, le_nil_own, le_nil_vs, leH_ghost, leL_chunk, leXL_id, bnd_int, bnd_bool, bnd_val, bnd_nil, bnd_junk, bnd_vs, bnd_xp, bnd_agg, bnd_tup, bnd_ptr, bnd_own, bnd_elem, bnd_fn, bnd_iface, bnd_opt, bndL_nil, bndL_cons, lenH_cons, lenH_nil, imp_self, implies_true, true_and, and_true] <;> simp [areaF]
    · rintro i hi
      dsimp only [F2_ct40, F2_ct54, F2_ct55, oneC, discC, ivoC, addC, iv2C, enc2, Int.toNat_natCast, go_sem, Option.bind, Option.map, List.append_nil, Nat.beq, List.cons_append, List.nil_append, List.append_eq, List.map_cons, List.map_nil, ite_self, reduceIte]
      simp only [true_and, and_true, imp_self, implies_true, decide_eq_true_eq, decide_eq_false_iff_not, Nat.reduceAdd, Nat.reduceLeDiff, Bool.not_not, reduceCtorEq, false_imp_iff, Bool.not_eq_true', Bool.not_eq_false', Bool.false_eq_true, and_self, forall_const, ne_eq, not_false_eq_true, Nat.reduceEqDiff]
      refine ⟨fun hlt => ?_, fun hge => ?_⟩
      · have hi' : i < l.length := by omega
        have r1 := area_rng (l := l) hi hv
        have ht := toe_rng (hv _ (getD_mem hi'))
        have hd := discI_rng (b := (l.getD i default).1) (by omega) (by omega)
        have hd2 := discI_le (b := (l.getD i default).1) (by omega) (by omega)
        have e := add_in (a := areaF (l.take i)) (b := discI (l.getD i default).1) ⟨r1.1, r1.2.2.2.2, by omega⟩ ⟨hd.1, hd2, by omega⟩
        refine ⟨⟨by omega, hlt⟩, by decide, by decide, by decide, by decide, i + 1, by omega, by omega, ?_⟩
        have e' : addF ((areaF (l.take i)).1, (areaF (l.take i)).2) ((discF ((l.getD i default).1, (l.getD i default).1)).1.1, (discF ((l.getD i default).1, (l.getD i default).1)).1.2) = ((((areaF (l.take i)).1 + (discI (l.getD i default).1).1, (areaF (l.take i)).2 + (discI (l.getD i default).1).2)), 0) := e
        simp only [w_succ (i := i) (n := l.length) (by omega) (by omega), e', area_take hi', leS_mk, leL_cons, leL_nil, le_junk, le_int, le_bool, le_nil, leLL_nil, leLL_cons, leH_cons, leH_nil, leH1_box, leH1_own, leH1_gone, le_vs, le_agg, le_tup, le_ptr, le_own, le_xp, le_fn, le_opt, le_val, le_elem, le_nil_own, le_nil_vs, leH_ghost, leL_chunk, leXL_id, bnd_int, bnd_bool, bnd_val, bnd_nil, bnd_junk, bnd_vs, bnd_xp, bnd_agg, bnd_tup, bnd_ptr, bnd_own, bnd_elem, bnd_fn, bnd_iface, bnd_opt, bndL_nil, bndL_cons, lenH_cons, lenH_nil, imp_self, implies_true, true_and, and_true] <;> simp
      · rw [take_full (by omega)]
        exact ans_p2 h
  · exact h.1.elim
def enoughC : Ctr := { alias := false, of := fun l => match l with
  | [.agg [.int .i64 x, .int .i64 y], .vs _ _ n sz get, .int .i64 per] => .ex (List Plt) fun l => .pre (lsP 4 encP n sz get l ∧ l.length ≤ 100 ∧ (∀ p ∈ l, palB p = false) ∧ (0 ≤ x ∧ x ≤ 1000000000000) ∧ (0 ≤ y ∧ y ≤ 1000000000000) ∧ 10 ≤ per ∧ per ≤ 1000) (.fin (.int .i64 (cmpF (x, y) (sumO l) per)) [])
  | _ => noC }
def F3 : Env := { ct := fun n => match n with | 28 => some openC | _ => none, fn := fun _ => none, meth := fun _ _ => none }
theorem F3_ct28 : F3.ct 28 = some openC := rfl
theorem F3_ok : EnvOk Tryz.prog F3 := by
  refine ⟨fun f c h => ?_, fun f vf h => ?_, (fun _ _ _ h => by cases h), by kernel_rfl⟩
  · simp only [F3] at h
    split at h
    · cases h; exact ⟨ropen_ok, Tryz.f28, Tryz.func28, by kernel_rfl, by kernel_rfl⟩
    · cases h
  · cases h

theorem renough_ok : enoughC.ok Tryz.prog 101 := by
  refine contract Tryz.func101 v101_is F3_ok 200 enoughC fun args k h => ?_
  simp only [enoughC] at h
  split at h
  · rename_i x y t z n sz get per
    obtain ⟨l, ⟨⟨rfl, rfl, hg⟩, hl, hv, ⟨h1, h2⟩, ⟨h3, h4⟩, h7, h8⟩, h⟩ := h
    refine ⟨[.agg [.int .i64 x, .int .i64 y], .vs t z l.length 4 (fun k => encP (l.getD k default)), .int .i64 per], ⟨by simp [le, leL], by simpa [le, leL] using hg, by simp [le], trivial⟩, ?_⟩
    have h : k (.int .i64 (cmpF (x, y) (sumO l) per)) [] := h
    dsimp only [v101, encP, go_sem, Option.bind, Option.map, List.append_nil, Nat.beq, List.cons_append, List.nil_append, List.append_eq, List.map_cons, List.map_nil, ite_self, reduceIte]
    simp only [true_and, and_true, imp_self, implies_true, decide_eq_true_eq, decide_eq_false_iff_not, Nat.reduceAdd, Nat.reduceLeDiff, Bool.not_not, reduceCtorEq, false_imp_iff, Bool.not_eq_true', Bool.not_eq_false', Bool.false_eq_true, and_self, forall_const, ne_eq, not_false_eq_true, Nat.reduceEqDiff]
    refine Loop.keep [1, 0, 0, 2] Nat (fun i => [(7, .int .i64 (sumO (l.take i))), (8, .int .i64 i)]) (fun i => []) [] (fun i => i ≤ l.length) (fun i => l.length - i) ?_ ?_
    · refine ⟨0, Nat.zero_le _, ?_⟩
      dsimp only [go_sem, Option.bind, Option.map, List.append_nil, Nat.beq, List.cons_append, List.nil_append, List.append_eq, List.map_cons, List.map_nil, ite_self, reduceIte]
      simp only [leS_mk, leL_cons, leL_nil, le_junk, le_int, le_bool, le_nil, leLL_nil, leLL_cons, leH_cons, leH_nil, leH1_box, leH1_own, leH1_gone, le_vs, le_agg, le_tup, le_ptr, le_own, le_xp, le_fn, le_opt, le_val, le_elem, le_nil_own, le_nil_vs, leH_ghost, leL_chunk, leXL_id, bnd_int, bnd_bool, bnd_val, bnd_nil, bnd_junk, bnd_vs, bnd_xp, bnd_agg, bnd_tup, bnd_ptr, bnd_own, bnd_elem, bnd_fn, bnd_iface, bnd_opt, bndL_nil, bndL_cons, lenH_cons, lenH_nil, imp_self, implies_true, true_and, and_true] <;> simp [sumO]
    · rintro i hi
      dsimp only [F3_ct28, openC, encP, Int.toNat_natCast, go_sem, Option.bind, Option.map, List.append_nil, Nat.beq, List.cons_append, List.nil_append, List.append_eq, List.map_cons, List.map_nil, ite_self, reduceIte]
      simp only [true_and, and_true, imp_self, implies_true, decide_eq_true_eq, decide_eq_false_iff_not, Nat.reduceAdd, Nat.reduceLeDiff, Bool.not_not, reduceCtorEq, false_imp_iff, Bool.not_eq_true', Bool.not_eq_false', Bool.false_eq_true, and_self, forall_const, ne_eq, not_false_eq_true, Nat.reduceEqDiff, plt_eta]
      refine ⟨fun hlt => ?_, fun hge => ?_⟩
      · have hi' : i < l.length := by omega
        have ho := open_rng (hv _ (getD_mem hi'))
        have hs := sumO_rng (l := l) hi hv
        refine ⟨⟨by omega, hlt⟩, hv _ (getD_mem hi'), i + 1, by omega, by omega, ?_⟩
        rw [w6_raw (x := sumO _ + _) (by omega) (by omega)]
        simp only [w_succ (i := i) (n := l.length) (by omega) (by omega), sumO_take hi', leS_mk, leL_cons, leL_nil, le_junk, le_int, le_bool, le_nil, leLL_nil, leLL_cons, leH_cons, leH_nil, leH1_box, leH1_own, leH1_gone, le_vs, le_agg, le_tup, le_ptr, le_own, le_xp, le_fn, le_opt, le_val, le_elem, le_nil_own, le_nil_vs, leH_ghost, leL_chunk, leXL_id, bnd_int, bnd_bool, bnd_val, bnd_nil, bnd_junk, bnd_vs, bnd_xp, bnd_agg, bnd_tup, bnd_ptr, bnd_own, bnd_elem, bnd_fn, bnd_iface, bnd_opt, bndL_nil, bndL_cons, lenH_cons, lenH_nil, imp_self, implies_true, true_and, and_true] <;> simp
      · obtain rfl : i = l.length := by omega
        rw [take_full (Nat.le_refl _)]
        have hs := sumO_all hv hl
        generalize sumO l = o at *
        have m1 : per * x ≤ 1000 * 1000000000000 := mul_le' h8 h2 (by omega) (by omega)
        have m2 : per * y ≤ 1000 * 1000000000000 := mul_le' h8 h4 (by omega) (by omega)
        have m3 : 0 ≤ per * x := Int.mul_nonneg (by omega) h1
        have m4 : 0 ≤ per * y := Int.mul_nonneg (by omega) h3
        rw [w6_raw (x := 100 * o) (by omega) (by omega), w6_raw (x := per * x) (by omega) (by omega), w6_raw (x := per * y) (by omega) (by omega)]
        refine ⟨fun hc => ?_, fun hc => ⟨fun hd => ?_, fun hd => ?_⟩⟩
        · rw [cmpF, if_pos hc] at h; exact ans_int h
        · rw [cmpF, if_neg hc, if_pos hd] at h; exact ans_int h
        · rw [cmpF, if_neg hc, if_neg hd] at h; exact ans_int h
  · exact h.1.elim

/-! ### Choices -/

def forcesF (l : List Plt) (pr : Int) : List Int := l.map fun p => fh p pr
def okI (w : Wsh) (l : List Plt) (x : List Int) (i : Nat) : Bool :=
  !(decide (x.getD i default < 0) || decide ((l.length : Int) ≤ x.getD i default) || (decide (0 < i) && decide (x.getD i default < x.getD (i - 1) default))) && !decide (w.most < fh (l.getD (x.getD i default).toNat default) w.pr)
def okA (w : Wsh) (l : List Plt) (x : List Int) : Bool := (List.range x.length).all fun i => okI w l x i
def chs (l : List Plt) (x : List Int) : List Plt := x.map fun i => l.getD i.toNat default
def wtS (l : List Plt) (x : List Int) (pr : Int) : Int := (chs l x).foldl (fun s p => s + fh p pr) 0
def chcF (a : Iv) (w : Wsh) (l : List Plt) (x : List Int) : Int × Bool :=
  if (decide (x.length < 1) || decide (2 < x.length)) = true then (0, false) else if okA w l x = true then (wtS l x w.pr, decide (cmpF a (sumO (chs l x)) w.per = 1)) else (0, false)
theorem chkT_3 {c : List Iv} : decide (chkT c = 3) = decide ((24 : Int) < (c.length : Int)) := by
  rw [decide_eq_decide]
  unfold chkT
  split
  · simp; omega
  · split
    · simp; omega
    · simp; omega
theorem chkT_n {c : List Iv} (h : ¬ chkT c = 3) : decide (chkT c = 0) = !(c.any toeB) := by
  unfold chkT at *
  split
  · rename_i h1; rw [if_pos h1] at h; exact absurd rfl h
  · split
    · rename_i h2; rw [h2]; rfl
    · rename_i h2; rw [Bool.not_eq_true] at h2; rw [h2]; rfl
theorem app1 {m n b i : Nat} {L : List Int} {v : Int} (hv : L.getD i default = v) : ∀ k, k < i + 1 → leL m n (if k < i then purgeL b (enc1 (L.getD k default)) else purgeL b (takeL 1 (dropL ((k - i) * 1) [SV.int .i64 v]))) (enc1 (L.getD k default)) := by
  intro k hk
  split
  · exact ⟨⟨rfl, rfl⟩, trivial⟩
  · obtain rfl : k = i := by omega
    rw [Nat.sub_self, hv]
    exact ⟨⟨rfl, rfl⟩, trivial⟩
theorem getD_map {α β : Type} [Inhabited α] [Inhabited β] {l : List α} {f : α → β} {i : Nat} (h : i < l.length) : (l.map f).getD i default = f (l.getD i default) := by
  rw [List.getD_eq_getElem?_getD, List.getD_eq_getElem?_getD, List.getElem?_map, List.getElem?_eq_getElem h]; rfl
theorem ans_ownI {k : SV → List HO → Prop} {al : Bool} {hp : List HO} {L : List Int} {j : Nat} (h : k (vsI L) []) (hg : getH hp j = .own L.isEmpty 1 L.length (fun k => enc1 (L.getD k default))) : answers al k (.own j 0 L.length 1) hp := by
  refine ans_le (show k _ [] from h) ?_ (fun _ => by simp [vsI, enc1, freshS, freshL])
  simp only [vsI, expo, view, hg]
  exact ⟨fun h => h, rfl, rfl, rfl, fun q _ => ⟨⟨rfl, rfl⟩, trivial⟩⟩
def forcesC : Ctr := { alias := false, of := fun l => match l with
  | [.vs _ _ n sz get, .agg [.int .i64 per, .int .i64 pr, .int .i64 most]] => .ex (List Plt) fun l => .pre (lsP 4 encP n sz get l ∧ l.length ≤ 1000 ∧ (∀ p ∈ l, palB p = false) ∧ wshB ⟨per, pr, most⟩ = false) (.fin (vsI (forcesF l pr)) [])
  | _ => noC }
theorem wsh_rng {w : Wsh} (h : wshB w = false) : (10 ≤ w.per ∧ w.per ≤ 1000) ∧ (10 ≤ w.pr ∧ w.pr ≤ 5000) ∧ 0 ≤ w.most ∧ w.most ≤ 1000000000 := by
  unfold wshB at h
  rw [Bool.or_eq_false_iff, Bool.or_eq_false_iff, outN_f, outN_f, outN_f] at h
  exact ⟨h.1.1, h.1.2, h.2⟩
def F4 : Env := { ct := fun n => match n with | 32 => some forceC | 101 => some enoughC | 24 => some areaC | 23 => some toesC | 47 => some palsC | 38 => some frmC | _ => none, fn := fun _ => none, meth := fun _ _ => none }
theorem F4_ct32 : F4.ct 32 = some forceC := rfl
theorem F4_ct101 : F4.ct 101 = some enoughC := rfl
theorem F4_ok : EnvOk Tryz.prog F4 := by
  refine ⟨fun f c h => ?_, fun f vf h => ?_, (fun _ _ _ h => by cases h), by kernel_rfl⟩
  · simp only [F4] at h
    split at h
    · cases h; exact ⟨rforce_ok, Tryz.f32, Tryz.func32, by kernel_rfl, by kernel_rfl⟩
    · cases h; exact ⟨renough_ok, Tryz.f101, Tryz.func101, by kernel_rfl, by kernel_rfl⟩
    · cases h; exact ⟨rarea_ok, Tryz.f24, Tryz.func24, by kernel_rfl, by kernel_rfl⟩
    · cases h; exact ⟨toes_ok, Tryz.f23, Tryz.func23, by kernel_rfl, by kernel_rfl⟩
    · cases h; exact ⟨pals_ok, Tryz.f47, Tryz.func47, by kernel_rfl, by kernel_rfl⟩
    · cases h; exact ⟨frm_ok, Tryz.f38, Tryz.func38, by kernel_rfl, by kernel_rfl⟩
    · cases h
  · cases h

theorem forces_ok : forcesC.ok Tryz.prog 74 := by
  refine contract Tryz.func74 v74_is F4_ok 300 forcesC fun args k h => ?_
  simp only [forcesC] at h
  split at h
  · rename_i t z n sz get per pr most
    obtain ⟨l, ⟨⟨rfl, rfl, hg⟩, hl, hv, hw⟩, h⟩ := h
    refine ⟨[.vs t z l.length 4 (fun k => encP (l.getD k default)), .agg [.int .i64 per, .int .i64 pr, .int .i64 most]], ⟨by simpa [le, leL] using hg, by simp [le, leL], trivial⟩, ?_⟩
    have hr := wsh_rng hw
    dsimp only at hr
    have h : k (vsI (forcesF l pr)) [] := h
    dsimp only [v74, encP, go_sem, Option.bind, Option.map, List.append_nil, Nat.beq, List.cons_append, List.nil_append, List.append_eq, List.map_cons, List.map_nil, ite_self, reduceIte]
    simp only [true_and, and_true, imp_self, implies_true, decide_eq_true_eq, decide_eq_false_iff_not, Nat.reduceAdd, Nat.reduceLeDiff, Bool.not_not, reduceCtorEq, false_imp_iff, Bool.not_eq_true', Bool.not_eq_false', Bool.false_eq_true, and_self, forall_const, ne_eq, not_false_eq_true, Nat.reduceEqDiff]
    refine Loop.keep [0, 2, 0] Nat (fun i => [(5, .own 1 0 i 1), (6, .int .i64 i)]) (fun i => [(1, .own (decide (i = 0)) 1 i (fun k => enc1 ((forcesF l pr).getD k default)))]) [.gone] (fun i => i ≤ l.length) (fun i => l.length - i) ?_ ?_
    · refine ⟨0, Nat.zero_le _, ?_⟩
      dsimp only [go_sem, Option.bind, Option.map, List.append_nil, Nat.beq, List.cons_append, List.nil_append, List.append_eq, List.map_cons, List.map_nil, ite_self, reduceIte]
      simp only [leH_ghost, leS_mk, leL_cons, leL_nil, le_junk, le_int, le_bool, le_nil, leLL_nil, leLL_cons, leH_cons, leH_nil, leH1_box, leH1_own, leH1_gone, le_vs, le_agg, le_tup, le_ptr, le_own, le_xp, le_fn, le_opt, le_val, le_elem, le_nil_own, le_nil_vs, leH_ghost, leL_chunk, leXL_id, bnd_int, bnd_bool, bnd_val, bnd_nil, bnd_junk, bnd_vs, bnd_xp, bnd_agg, bnd_tup, bnd_ptr, bnd_own, bnd_elem, bnd_fn, bnd_iface, bnd_opt, bndL_nil, bndL_cons, lenH_cons, lenH_nil, imp_self, implies_true, true_and, and_true] <;> simp
    · rintro i hi
      dsimp only [F4_ct32, forceC, forC, enc2, encP, Int.toNat_natCast, go_sem, Option.bind, Option.map, List.append_nil, Nat.beq, List.cons_append, List.nil_append, List.append_eq, List.map_cons, List.map_nil, ite_self, reduceIte]
      simp only [true_and, and_true, imp_self, implies_true, decide_eq_true_eq, decide_eq_false_iff_not, Nat.reduceAdd, Nat.reduceLeDiff, Bool.not_not, reduceCtorEq, false_imp_iff, Bool.not_eq_true', Bool.not_eq_false', Bool.false_eq_true, and_self, forall_const, ne_eq, not_false_eq_true, Nat.reduceEqDiff, plt_eta]
      refine ⟨fun hlt => ?_, fun hge => ?_⟩
      · have hi' : i < l.length := by omega
        have hf : forcesF l pr = forcesF l pr := rfl
        refine ⟨⟨by omega, hlt⟩, ⟨hv _ (getD_mem hi'), hr.2.1⟩, by decide, ⟨by unfold capOk; omega, fun k hk => ?_⟩, i + 1, by omega, by omega, ?_⟩
        · obtain rfl : k = 0 := by omega
          exact ⟨rfl, trivial, trivial⟩
        · have e : fh (l.getD i default) pr = (forceF (l.getD i default) pr).2 := rfl
          simp only [w_succ (i := i) (n := l.length) (by omega) (by omega), leS_mk, leL_cons, leL_nil, le_junk, le_int, le_bool, le_nil, leLL_nil, leLL_cons, leH_cons, leH_nil, leH1_box, leH1_own, leH1_gone, le_vs, le_agg, le_tup, le_ptr, le_own, le_xp, le_fn, le_opt, le_val, le_elem, le_nil_own, le_nil_vs, leH_ghost, leL_chunk, leXL_id, bnd_int, bnd_bool, bnd_val, bnd_nil, bnd_junk, bnd_vs, bnd_xp, bnd_agg, bnd_tup, bnd_ptr, bnd_own, bnd_elem, bnd_fn, bnd_iface, bnd_opt, bndL_nil, bndL_cons, lenH_cons, lenH_nil, imp_self, implies_true, true_and, and_true]
          refine ⟨by omega, by simp, app1 (b := 1) ?_⟩
          rw [forcesF, getD_map hi', e]
      · obtain rfl : i = l.length := by omega
        have hlen : (forcesF l pr).length = l.length := List.length_map ..
        rw [← hlen]
        refine ans_ownI (L := forcesF l pr) h ?_
        simp only [getH]
        congr 1
        cases hL : forcesF l pr <;> simp
  · exact h.1.elim
end Go.Proofs.YtngccjllkgpjmaaGreat

/- Chests, walked: the reference's choices. -/
/- Chests, walked: the reference's choices. -/
set_option linter.all false
namespace Go.Proofs.YtngccjllkgpjmaaGreat
open Go Go.Vx
set_option maxRecDepth 100000
set_option maxHeartbeats 4000000

def choiC : Ctr := { alias := false, of := fun l => match l with
  | [.agg [.int .i64 a1, .int .i64 a2], .vs _ _ n1 sz1 get1, .vs _ _ n sz get, .agg [.int .i64 per, .int .i64 pr, .int .i64 most], .vs _ _ n2 sz2 get2] =>
    .ex (List Plt) fun l => .ex (List Int) fun x => .pre (lsP 4 encP n sz get l ∧ lsP 1 enc1 n1 sz1 get1 (forcesF l pr) ∧ lsP 1 enc1 n2 sz2 get2 x ∧ l.length ≤ 1000 ∧ x.length ≤ 1000000000000 ∧ (∀ p ∈ l, palB p = false) ∧ wshB ⟨per, pr, most⟩ = false ∧ (0 ≤ a1 ∧ a1 ≤ 1000000000000) ∧ 0 ≤ a2 ∧ a2 ≤ 1000000000000)
      (.fin (.tup [.int .i64 (chcF (a1, a2) ⟨per, pr, most⟩ l x).1, .bool (chcF (a1, a2) ⟨per, pr, most⟩ l x).2]) [])
  | _ => noC }
def wtT (l : List Plt) (x : List Int) (pr : Int) (i : Nat) : Int := wtS l (x.take i) pr

theorem wt_rng {l : List Plt} {x : List Int} {pr : Int} : ∀ {i : Nat}, i ≤ x.length → (∀ j, j < i → 0 ≤ fh (l.getD (x.getD j default).toNat default) pr ∧ fh (l.getD (x.getD j default).toNat default) pr ≤ 510000000) → 0 ≤ wtT l x pr i ∧ wtT l x pr i ≤ 510000000 * i
  | 0, _, _ => by simp [wtT, wtS, chs]
  | i + 1, h, hj => by
    have ih := wt_rng (i := i) (by omega) fun j hj' => hj j (by omega)
    have hi := hj i (by omega)
    have e : wtT l x pr (i + 1) = wtT l x pr i + fh (l.getD (x.getD i default).toNat default) pr := by
      unfold wtT wtS chs
      rw [take_succ_eq (by omega : i < x.length), List.map_append, List.foldl_append]; rfl
    rw [e]; omega
theorem app4 {m n b i : Nat} {L : List Plt} {v : Plt} (hv : L.getD i default = v) : ∀ k, k < i + 1 → leL m n (if k < i then purgeL b [SV.int .i64 (L.getD k default).w, SV.int .i64 (L.getD k default).l, SV.int .i64 (L.getD k default).t, SV.int .i64 (L.getD k default).s] else purgeL b (takeL 4 (dropL ((k - i) * 4) [SV.int .i64 v.w, SV.int .i64 v.l, SV.int .i64 v.t, SV.int .i64 v.s]))) [SV.int .i64 (L.getD k default).w, SV.int .i64 (L.getD k default).l, SV.int .i64 (L.getD k default).t, SV.int .i64 (L.getD k default).s] := by
  intro k hk
  split
  · exact ⟨⟨rfl, rfl⟩, ⟨rfl, rfl⟩, ⟨rfl, rfl⟩, ⟨rfl, rfl⟩, trivial⟩
  · obtain rfl : k = i := by omega
    rw [Nat.sub_self, hv]
    exact ⟨⟨rfl, rfl⟩, ⟨rfl, rfl⟩, ⟨rfl, rfl⟩, ⟨rfl, rfl⟩, trivial⟩
theorem choi_ok : choiC.ok Tryz.prog 75 := by
  refine contract Tryz.func75 v75_is F4_ok 300 choiC fun args k h => ?_
  simp only [choiC] at h
  split at h
  · rename_i a1 a2 t1 z1 n1 sz1 get1 t z n sz get per pr most t2 z2 n2 sz2 get2
    obtain ⟨l, x, ⟨⟨rfl, rfl, hg⟩, ⟨rfl, rfl, hg1⟩, ⟨rfl, rfl, hg2⟩, hl, hx, hv, hw, ha1, ha2⟩, h⟩ := h
    refine ⟨[.agg [.int .i64 a1, .int .i64 a2], .vs t1 z1 (forcesF l pr).length 1 (fun k => enc1 ((forcesF l pr).getD k default)), .vs t z l.length 4 (fun k => encP (l.getD k default)), .agg [.int .i64 per, .int .i64 pr, .int .i64 most], .vs t2 z2 x.length 1 (fun k => enc1 (x.getD k default))], ⟨by simp [le, leL], by simpa [le, leL] using hg1, by simpa [le, leL] using hg, by simp [le, leL], by simpa [le, leL] using hg2, trivial⟩, ?_⟩
    have hr := wsh_rng hw
    dsimp only at hr
    have h : k (.tup [.int .i64 (chcF (a1, a2) ⟨per, pr, most⟩ l x).1, .bool (chcF (a1, a2) ⟨per, pr, most⟩ l x).2]) [] := h
    dsimp only [v75, encP, enc1, go_sem, Option.bind, Option.map, List.append_nil, Nat.beq, List.cons_append, List.nil_append, List.append_eq, List.map_cons, List.map_nil, ite_self, reduceIte]
    simp only [true_and, and_true, imp_self, implies_true, decide_eq_true_eq, decide_eq_false_iff_not, Nat.reduceAdd, Nat.reduceLeDiff, Bool.not_not, reduceCtorEq, false_imp_iff, Bool.not_eq_true', Bool.not_eq_false', Bool.false_eq_true, and_self, forall_const, ne_eq, not_false_eq_true, Nat.reduceEqDiff]
    refine ⟨fun hc => ?_, fun hc => ?_⟩
    · have e1 : decide ((x.length : Int) < 1) = decide (x.length < 1) := by rw [decide_eq_decide]; omega
      have e2 : decide ((2 : Int) < (x.length : Int)) = decide (2 < x.length) := by rw [decide_eq_decide]; omega
      rw [e1, e2] at hc
      rw [chcF, if_pos hc] at h
      exact ans_ib h
    · refine Loop.keep [1, 0, 1, 0, 2, 1, 0] Nat (fun i => [(12, .own 2 0 i 4), (13, .int .i64 (wtT l x pr i)), (14, .int .i64 i)]) (fun i => [(2, .own (decide (i = 0)) 4 i (fun k => encP ((chs l x).getD k default)))]) [.gone] (fun i => i ≤ x.length ∧ ∀ j, j < i → okI ⟨per, pr, most⟩ l x j = true) (fun i => x.length - i) ?_ ?_
      · refine ⟨0, ⟨Nat.zero_le _, fun j h => by omega⟩, ?_⟩
        dsimp only [go_sem, Option.bind, Option.map, List.append_nil, Nat.beq, List.cons_append, List.nil_append, List.append_eq, List.map_cons, List.map_nil, ite_self, reduceIte]
        simp only [leH_ghost, leS_mk, leL_cons, leL_nil, le_junk, le_int, le_bool, le_nil, leLL_nil, leLL_cons, leH_cons, leH_nil, leH1_box, leH1_own, leH1_gone, le_vs, le_agg, le_tup, le_ptr, le_own, le_xp, le_fn, le_opt, le_val, le_elem, le_nil_own, le_nil_vs, leH_ghost, leL_chunk, leXL_id, bnd_int, bnd_bool, bnd_val, bnd_nil, bnd_junk, bnd_vs, bnd_xp, bnd_agg, bnd_tup, bnd_ptr, bnd_own, bnd_elem, bnd_fn, bnd_iface, bnd_opt, bndL_nil, bndL_cons, lenH_cons, lenH_nil, imp_self, implies_true, true_and, and_true] <;> simp [wtT, wtS, chs]
      · rintro i ⟨hi, ha⟩
        dsimp only [F4_ct101, enoughC, enc1, encP, Int.toNat_natCast, go_sem, Option.bind, Option.map, List.append_nil, Nat.beq, List.cons_append, List.nil_append, List.append_eq, List.map_cons, List.map_nil, ite_self, reduceIte]
        simp only [true_and, and_true, imp_self, implies_true, decide_eq_true_eq, decide_eq_false_iff_not, Nat.reduceAdd, Nat.reduceLeDiff, Bool.not_not, reduceCtorEq, false_imp_iff, Bool.not_eq_true', Bool.not_eq_false', Bool.false_eq_true, and_self, forall_const, ne_eq, not_false_eq_true, Nat.reduceEqDiff, plt_eta]
        have hc' : x.length = 1 ∨ x.length = 2 := by
          rw [Bool.or_eq_false_iff, decide_eq_false_iff_not, decide_eq_false_iff_not] at hc; omega
        rw [chcF, if_neg (by rw [Bool.or_eq_true, decide_eq_true_eq, decide_eq_true_eq]; omega)] at h
        have hpv : (decide (0 < (i : Int)) && decide (x.getD i default < x.getD (IntKind.i64.wrap ((i : Int) - 1)).toNat default)) = (decide (0 < i) && decide (x.getD i default < x.getD (i - 1) default)) := by
          rcases Nat.eq_zero_or_pos i with rfl | h0
          · rfl
          · have e : (IntKind.i64.wrap ((i : Int) - 1)).toNat = i - 1 := by rw [w6_raw (by omega) (by omega)]; omega
            rw [e, decide_eq_true (show 0 < (i : Int) by omega), decide_eq_true h0]
        have hfl : (forcesF l pr).length = l.length := List.length_map ..
        refine ⟨fun hlt => ?_, fun hge => ?_⟩
        · have hi' : i < x.length := by omega
          refine ⟨⟨by omega, hlt⟩, fun _ => ⟨by omega, hlt⟩, fun _ => ⟨by omega, hlt⟩, fun hh => ?_, fun h1 h2 => ?_, fun hb => ?_, fun hb => ?_⟩
          · rw [Bool.and_eq_true, decide_eq_true_eq] at hh
            rw [w6_raw (by omega) (by omega)]; omega
          · rw [h1, decide_eq_true h2]; rfl
          · rw [hpv] at hb
            have : okA ⟨per, pr, most⟩ l x = false := by
              unfold okA
              rw [List.all_eq_false]
              refine ⟨i, List.mem_range.2 hi', ?_⟩
              unfold okI
              rw [hb]; simp
            rw [if_neg (by rw [this]; simp)] at h
            exact ans_ib h
          · rw [hpv] at hb
            have hb0 := hb
            rw [Bool.or_eq_false_iff, Bool.or_eq_false_iff, decide_eq_false_iff_not, decide_eq_false_iff_not] at hb
            have hir : 0 ≤ x.getD i default ∧ x.getD i default < (l.length : Int) := by omega
            have hil : (x.getD i default).toNat < l.length := by omega
            have hfi : (forcesF l pr).getD (x.getD i default).toNat default = fh (l.getD (x.getD i default).toNat default) pr := getD_map hil
            have hp := hv _ (getD_mem hil)
            have hfr := (force_rng hp hr.2.1.1 hr.2.1.2).2.2.2
            refine ⟨⟨by omega, hlt⟩, ⟨hir.1, by rw [hfl]; exact hir.2⟩, fun hm => ?_, fun hm => ⟨⟨by omega, hlt⟩, ⟨hir.1, by rw [hfl]; exact hir.2⟩, ⟨by omega, hlt⟩, hir, by decide, ⟨by unfold capOk; omega, fun k hk => ?_⟩, i + 1, ⟨by omega, fun j hj => ?_⟩, by omega, ?_⟩⟩
            · rw [hfi] at hm
              have : okA ⟨per, pr, most⟩ l x = false := by
                unfold okA
                rw [List.all_eq_false]
                refine ⟨i, List.mem_range.2 hi', ?_⟩
                unfold okI
                rw [decide_eq_true hm]; simp
              rw [if_neg (by rw [this]; simp)] at h
              exact ans_ib h
            · obtain rfl : k = 0 := by omega
              exact ⟨rfl, trivial, trivial, trivial, trivial, trivial⟩
            · rcases Nat.lt_or_ge j i with h' | h'
              · exact ha j h'
              · obtain rfl : j = i := by omega
                rw [hfi] at hm
                unfold okI
                rw [hb0, decide_eq_false hm]; rfl
            · have hwt : wtT l x pr (i + 1) = wtT l x pr i + fh (l.getD (x.getD i default).toNat default) pr := by
                unfold wtT wtS chs
                rw [take_succ_eq hi', List.map_append, List.foldl_append]; rfl
              have hwr : 0 ≤ wtT l x pr i ∧ wtT l x pr i ≤ 510000000 * i := wt_rng hi fun j hj => by
                have hj' := ha j hj
                unfold okI at hj'
                rw [Bool.and_eq_true, Bool.not_eq_true', Bool.or_eq_false_iff, Bool.or_eq_false_iff, decide_eq_false_iff_not, decide_eq_false_iff_not] at hj'
                have hjl : (x.getD j default).toNat < l.length := by omega
                exact (force_rng (hv _ (getD_mem hjl)) hr.2.1.1 hr.2.1.2).2.2.2
              rw [hfi, w6_raw (x := wtT l x pr i + _) (by omega) (by omega), ← hwt]
              simp only [w_succ (i := i) (n := x.length) (by omega) (by omega), leS_mk, leL_cons, leL_nil, le_junk, le_int, le_bool, le_nil, leLL_nil, leLL_cons, leH_cons, leH_nil, leH1_box, leH1_own, leH1_gone, le_vs, le_agg, le_tup, le_ptr, le_own, le_xp, le_fn, le_opt, le_val, le_elem, le_nil_own, le_nil_vs, leH_ghost, leL_chunk, leXL_id, bnd_int, bnd_bool, bnd_val, bnd_nil, bnd_junk, bnd_vs, bnd_xp, bnd_agg, bnd_tup, bnd_ptr, bnd_own, bnd_elem, bnd_fn, bnd_iface, bnd_opt, bndL_nil, bndL_cons, lenH_cons, lenH_nil, imp_self, implies_true, true_and, and_true]
              refine ⟨by omega, by simp, app4 (b := 2) ?_⟩
              rw [chs, getD_map hi']
        · obtain rfl : i = x.length := by omega
          have hok : okA ⟨per, pr, most⟩ l x = true := by
            unfold okA
            rw [List.all_eq_true]
            exact fun j hj => ha j (List.mem_range.1 hj)
          rw [if_pos hok] at h
          have hcl : (chs l x).length = x.length := List.length_map ..
          refine ⟨chs l x, ⟨⟨rfl, hcl.symm, fun k hk => leXL_self _⟩, by omega, fun p hp => ?_, ha1, ha2, hr.1⟩, ?_⟩
          · obtain ⟨j, hj, rfl⟩ := mem_getD hp
            rw [hcl] at hj
            have hj' := ha j hj
            unfold okI at hj'
            rw [Bool.and_eq_true, Bool.not_eq_true', Bool.or_eq_false_iff, Bool.or_eq_false_iff, decide_eq_false_iff_not, decide_eq_false_iff_not] at hj'
            have hjl : (x.getD j default).toNat < l.length := by omega
            rw [chs, getD_map hj]
            exact hv _ (getD_mem hjl)
          · unfold wtT
            rw [take_full (Nat.le_refl _)]
            exact ans_ib h
  · exact h.1.elim

end Go.Proofs.YtngccjllkgpjmaaGreat

