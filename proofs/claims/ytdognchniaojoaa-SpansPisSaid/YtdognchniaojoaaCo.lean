/- Lists and whole numbers in plain Lean, as the proofs of this seat need them. -/
import Derived.Test.YtdognchniaojoaaVxL1
import Derived.IntWalk
set_option linter.all false
namespace Go.Proofs.Ytdognchniaojoaa
open Go Go.Vx

def w6 (x : Int) : Int := IntKind.i64.wrap x
theorem w6_in {x : Int} (h1 : -9223372036854775808 ≤ x) (h2 : x ≤ 9223372036854775807) : w6 x = x := IntWalk.i64_in x (by omega)
theorem w6_raw {x : Int} (h1 : -9223372036854775808 ≤ x) (h2 : x ≤ 9223372036854775807) : IntKind.i64.wrap x = x := IntWalk.i64_in x (by omega)
theorem w_succ {i n : Nat} (h : i < n) (hn : n ≤ 9223372036854775807) : IntKind.i64.wrap ((i : Int) + 1) = ((i + 1 : Nat) : Int) := by
  rw [IntWalk.i64_in _ (by omega)]; simp
theorem w6_rng (x : Int) : -9223372036854775808 ≤ w6 x ∧ w6 x ≤ 9223372036854775807 := by
  unfold w6
  have e : (2 : Int) ^ IntKind.i64.bits = 18446744073709551616 := by decide
  have e1 : (2 : Int) ^ (IntKind.i64.bits - 1) = 9223372036854775808 := by decide
  have e2 : IntKind.i64.signed = true := rfl
  simp only [IntKind.wrap, e, e1, e2, Bool.true_and, decide_eq_true_eq]
  split <;> omega

theorem getD_mem {α : Type} [Inhabited α] {l : List α} {i : Nat} (h : i < l.length) : l.getD i default ∈ l := by
  rw [List.getD_eq_getElem?_getD, List.getElem?_eq_getElem h]; exact List.getElem_mem h
theorem mem_getD {α : Type} [Inhabited α] {l : List α} {x : α} (h : x ∈ l) : ∃ i, i < l.length ∧ l.getD i default = x := by
  obtain ⟨j, hj, rfl⟩ := List.getElem_of_mem h
  exact ⟨j, hj, by rw [List.getD_eq_getElem?_getD, List.getElem?_eq_getElem hj]; rfl⟩
theorem take_all_succ {α : Type} [Inhabited α] {l : List α} {f : α → Bool} {i : Nat} (h : i < l.length) : (l.take (i + 1)).all f = ((l.take i).all f && f (l.getD i default)) := by
  rw [List.take_add_one, List.all_append, List.getD_eq_getElem?_getD, List.getElem?_eq_getElem h]
  simp
theorem take_any_succ {α : Type} [Inhabited α] {l : List α} {f : α → Bool} {i : Nat} (h : i < l.length) : (l.take (i + 1)).any f = ((l.take i).any f || f (l.getD i default)) := by
  rw [List.take_add_one, List.any_append, List.getD_eq_getElem?_getD, List.getElem?_eq_getElem h]
  simp
theorem take_full {α : Type} {l : List α} {i : Nat} (h : l.length ≤ i) : l.take i = l := List.take_of_length_le h
theorem take_succ_eq {α : Type} [Inhabited α] {l : List α} {i : Nat} (h : i < l.length) : l.take (i + 1) = l.take i ++ [l.getD i default] := by
  rw [List.take_add_one, List.getD_eq_getElem?_getD, List.getElem?_eq_getElem h]; rfl
theorem foldl_take_succ {α β : Type} [Inhabited α] {l : List α} {f : β → α → β} {b : β} {i : Nat} (h : i < l.length) : (l.take (i + 1)).foldl f b = f ((l.take i).foldl f b) (l.getD i default) := by
  rw [take_succ_eq h, List.foldl_append]
  rfl
theorem list_ext {α : Type} [Inhabited α] {a b : List α} (h : a.length = b.length) (hh : ∀ i, i < a.length → a.getD i default = b.getD i default) : a = b := by
  refine List.ext_getElem h fun i h1 h2 => ?_
  have := hh i h1
  rwa [List.getD_eq_getElem?_getD, List.getD_eq_getElem?_getD, List.getElem?_eq_getElem h1, List.getElem?_eq_getElem h2] at this

/-- The first number below 'n' for which something holds, else n. -/
def leastF (f : Nat → Bool) : Nat → Nat → Nat
  | 0, k => k
  | n + 1, k => if f k then k else leastF f n (k + 1)

theorem leastF_spec {f : Nat → Bool} : ∀ (n k : Nat), k ≤ leastF f n k ∧ leastF f n k ≤ n + k ∧ (∀ j, k ≤ j → j < leastF f n k → f j = false) ∧ (leastF f n k < n + k → f (leastF f n k) = true)
  | 0, k => ⟨Nat.le_refl _, by simp [leastF], fun j h1 h2 => by simp [leastF] at h2; omega, fun h => by simp [leastF] at h⟩
  | n + 1, k => by
    unfold leastF
    split
    · rename_i h; exact ⟨Nat.le_refl _, by omega, fun j h1 h2 => by omega, fun _ => h⟩
    · rename_i h
      obtain ⟨h1, h2, h3, h4⟩ := leastF_spec (f := f) n (k + 1)
      refine ⟨by omega, by omega, fun j a b => ?_, fun hlt => h4 (by omega)⟩
      rcases Nat.lt_or_ge k j with h' | h'
      · exact h3 j h' b
      · obtain rfl : j = k := by omega
        simpa using h
theorem leastF_eq {f : Nat → Bool} {n m : Nat} (h1 : ∀ j, j < m → f j = false) (h2 : m ≤ n) (h3 : m < n → f m = true) : leastF f n 0 = m := by
  obtain ⟨a, b, c, d⟩ := leastF_spec (f := f) n 0
  rcases Nat.lt_trichotomy (leastF f n 0) m with h | h | h
  · have := h1 _ h
    rw [d (by omega)] at this; cases this
  · exact h
  · have := c m (Nat.zero_le _) h
    rw [h3 (by omega)] at this; cases this

theorem mul_le' {a b c d : Int} (h1 : a ≤ c) (h2 : b ≤ d) (ha : 0 ≤ a) (hd : 0 ≤ d) : a * b ≤ c * d :=
  Int.le_trans (Int.mul_le_mul_of_nonneg_left h2 ha) (Int.mul_le_mul_of_nonneg_right h1 hd)

def noC : CRes := .pre False (.fin .junk [])
def trueC : Ctr := { alias := false, of := fun a => match a with
  | [] => .fin (.bool true) []
  | _ => noC }

/-- A list came in. -/
def lsP {α : Type} [Inhabited α] (size : Nat) (e : α → List SV) (n sz : Nat) (get : Nat → List SV) (l : List α) : Prop := sz = size ∧ n = l.length ∧ ∀ k, k < n → leXL (get k) (e (l.getD k default))
theorem lsP_self {α : Type} [Inhabited α] {size : Nat} {e : α → List SV} {l : List α} : lsP size e l.length size (fun k => e (l.getD k default)) l := ⟨rfl, rfl, fun k _ => leXL_self _⟩

def enc1 (x : Int) : List SV := [.int .i64 x]
def enc2 (x : Int × Int) : List SV := [.int .i64 x.1, .int .i64 x.2]

theorem maxLen_eq : maxLen = 9223372036854775807 := by decide

theorem mid {i j m : Nat} (hi : i ≤ m) (hj : j ≤ m) (hm : m ≤ 4611686018427387903) : IntKind.i64.wrap ((IntKind.u64.wrap (IntKind.i64.wrap ((i : Int) + (j : Int)))).fdiv (2 ^ min (1 : Int).toNat IntKind.u64.bits)) = (((i + j) / 2 : Nat) : Int) := by
  have e1 : IntKind.i64.wrap ((i : Int) + (j : Int)) = (i : Int) + j := IntWalk.i64_in _ (by omega)
  have e2 : IntKind.u64.wrap ((i : Int) + (j : Int)) = (i : Int) + j := IntWalk.u64_in _ (by omega)
  have e3 : (2 : Int) ^ min (1 : Int).toNat IntKind.u64.bits = 2 := by decide
  rw [e1, e2, e3, Int.fdiv_eq_ediv_of_nonneg _ (by omega), IntWalk.i64_in _ (by omega)]
  omega

def bare2 : List Sh := [.int .i64, .int .i64]
theorem iv_of {c : List SV} (h : okSL bare2 c) : ∃ p : Int × Int, c = enc2 p := by
  obtain ⟨_, _, rfl, ⟨n1, rfl, _⟩, e1⟩ := okSL_cons_inv h
  obtain ⟨_, _, rfl, ⟨n2, rfl, _⟩, e2⟩ := okSL_cons_inv e1
  cases okSL_nil_inv e2
  exact ⟨(n1, n2), rfl⟩
theorem slice_of {α : Type} [Inhabited α] {sh : List Sh} {e : α → List SV} (hof : ∀ c, okSL sh c → ∃ a, leXL c (e a)) {v : SV} (h : okS (.slice sh) v) : ∃ (z : Bool) (l : List α), l.length ≤ maxLen ∧ leX v (.vs false z l.length (lenSh sh) (fun k => e (l.getD k default))) := by
  obtain ⟨z, n, get, rfl, hn, hg⟩ := h
  obtain ⟨l, hl, hp⟩ := list_of (P := fun k a => leXL (get k) (e a)) fun k hk => hof _ (hg k hk)
  exact ⟨z, l, by rw [hl]; exact hn, fun h => h, rfl, hl.symm, rfl, hp⟩
theorem ivs_of {v : SV} (h : okS (.slice bare2) v) : ∃ (z : Bool) (l : List (Int × Int)), l.length ≤ maxLen ∧ leX v (.vs false z l.length 2 (fun k => enc2 (l.getD k default))) :=
  slice_of (fun c hc => let ⟨p, h⟩ := iv_of hc; ⟨p, by rw [h]; exact leXL_self _⟩) h
end Go.Proofs.Ytdognchniaojoaa
