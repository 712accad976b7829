/- The last steps: what 'answers' and 'leS' say, form by form. -/
import Derived.Test.YtdognchniaojoaaVx13
set_option linter.all false
namespace Go.Vx
variable {al : Bool} {k : SV → List HO → Prop} {hp : List HO} {m n : Nat}

theorem ans_int {κ : IntKind} {x : Int} (h : k (.int κ x) []) : answers al k (.int κ x) hp := ⟨_, h, by simp [expo, view, le], fun _ => by simp [freshS]⟩
theorem ans_bool {b : Bool} (h : k (.bool b) []) : answers al k (.bool b) hp := ⟨_, h, by simp [expo, view, le], fun _ => by simp [freshS]⟩
theorem ans_nil (h : k .nil []) : answers al k .nil hp := ⟨_, h, by simp [expo, view, le, bnd], fun _ => by simp [freshS]⟩
theorem ans_junk {x : SV} (h : k .junk []) : answers al k x hp := ⟨_, h, by simp [le], fun _ => by simp [freshS]⟩
theorem ans_le {x r' : SV} (h : k r' []) (hl : le 0 0 (expo hp x) r') (hf : al = false → freshS r') : answers al k x hp := ⟨_, h, hl, hf⟩

theorem le_junk {x : SV} : le m n x .junk = True := by cases x <;> simp [le]
theorem le_int {κ κ' : IntKind} {x y : Int} : le m n (.int κ x) (.int κ' y) = (κ = κ' ∧ x = y) := by simp [le]
theorem le_bool {x y : Bool} : le m n (.bool x) (.bool y) = (x = y) := by simp [le]
theorem le_nil : le m n .nil .nil = True := by simp [le, bnd]
theorem le_agg {a b : List SV} : le m n (.agg a) (.agg b) = leL m n a b := by simp [le]
theorem le_tup {a b : List SV} : le m n (.tup a) (.tup b) = leL m n a b := by simp [le]
theorem le_vs {t t' z z' : Bool} {l l' sz sz' : Nat} {g g' : Nat → List SV} : le m n (.vs t z l sz g) (.vs t' z' l' sz' g') = ((t' = true → t = true) ∧ z = z' ∧ l = l' ∧ sz = sz' ∧ ∀ k, k < l → leXL (g k) (g' k)) := by simp [le]
theorem le_ptr {i o i' o' : Nat} : le m n (.ptr i o) (.ptr i' o') = (i = i' ∧ o = o' ∧ i' < n) := by simp [le, bnd, and_assoc]
theorem le_own {i lo l sz i' lo' l' sz' : Nat} : le m n (.own i lo l sz) (.own i' lo' l' sz') = (i = i' ∧ lo = lo' ∧ l = l' ∧ sz = sz' ∧ i < n) := by simp [le]
theorem le_xp {t t' : Bool} {c c' : List SV} : le m n (.xp t c) (.xp t' c') = ((t' = true → t = true) ∧ leXL c c') := by simp [le]
theorem le_fn {f f' : Fn} {a b a' b' : List SV} : le m n (.fn f a b) (.fn f' a' b') = (f = f' ∧ a = a' ∧ b = b' ∧ bndL n a' ∧ bndL n b') := by simp [le, bnd, and_assoc]
theorem le_opt {b b' : Bool} {x y : SV} : le m n (.opt b x) (.opt b' y) = (b = b' ∧ x = y ∧ bnd n y) := by simp [le, bnd, and_assoc]
theorem le_val {x y : Value} : le m n (.val x) (.val y) = (x = y) := by simp [le, bnd]
theorem le_elem {i k o sz i' k' o' sz' : Nat} : le m n (.elem i k o sz) (.elem i' k' o' sz') = (i = i' ∧ k = k' ∧ o = o' ∧ sz = sz' ∧ i' < n) := by simp [le, bnd, and_assoc]
theorem leXL_id {x : List SV} : leXL x x = True := eq_true (leXL_self x)
theorem le_nil_own {i lo l sz : Nat} : le m n .nil (.own i lo l sz) = (m ≤ i ∧ i < n ∧ lo = 0 ∧ l = 0) := by simp [le]
theorem le_nil_vs {t z : Bool} {l sz : Nat} {g : Nat → List SV} : le m n .nil (.vs t z l sz g) = (z = true ∧ l = 0) := by simp [le]
theorem leH_ghost {z : Bool} {sz l : Nat} {g : Nat → List SV} {r : List HO} : leH m n [] (.own z sz l g :: r) = (z = true ∧ l = 0 ∧ leH m n [] r) := rfl
theorem lenH_nil : lenH [] = 0 := rfl
theorem lenH_cons {x : HO} {a : List HO} : lenH (x :: a) = lenH a + 1 := rfl
theorem leL_nil : leL m n [] [] = True := by simp [leL]
theorem leL_cons {x y : SV} {a b : List SV} : leL m n (x :: a) (y :: b) = (le m n x y ∧ leL m n a b) := by simp [leL]
theorem leLL_nil : leLL m n [] [] = True := by simp [leLL]
theorem leLL_cons {x y : List SV} {a b : List (List SV)} : leLL m n (x :: a) (y :: b) = (leL m n x y ∧ leLL m n a b) := by simp [leLL]
theorem leH_nil {h : List HO} : leH m n h [] = True := by cases h <;> simp [leH]
theorem leH1_box {a b : List SV} : leH1 m n (.box a) (.box b) = leL m n a b := by simp [leH1]
theorem leH1_gone : leH1 m n .gone .gone = True := by simp [leH1]
theorem leH1_own {z z' : Bool} {sz sz' l l' : Nat} {g g' : Nat → List SV} : leH1 m n (.own z sz l g) (.own z' sz' l' g') = (z = z' ∧ sz = sz' ∧ l = l' ∧ ∀ k, k < l → leL m n (g k) (g' k)) := by simp [leH1]
theorem leS_mk {fr fr' : List SV} {sv sv' : List (List SV)} {h h' : List HO} : leS ⟨fr, sv, h⟩ ⟨fr', sv', h'⟩ = (leL (lenH h) (lenH h') fr fr' ∧ leLL (lenH h) (lenH h') sv sv' ∧ leH (lenH h) (lenH h') h h') := rfl
theorem bnd_int {k : IntKind} {x : Int} : bnd n (.int k x) = True := rfl
theorem bnd_bool {b : Bool} : bnd n (.bool b) = True := rfl
theorem bnd_val {v : Value} : bnd n (.val v) = True := rfl
theorem bnd_nil : bnd n .nil = True := rfl
theorem bnd_junk : bnd n .junk = True := rfl
theorem bnd_vs {t z : Bool} {l sz : Nat} {g : Nat → List SV} : bnd n (.vs t z l sz g) = True := rfl
theorem bnd_xp {t : Bool} {c : List SV} : bnd n (.xp t c) = True := rfl
theorem bnd_agg {c : List SV} : bnd n (.agg c) = bndL n c := rfl
theorem bnd_tup {c : List SV} : bnd n (.tup c) = bndL n c := rfl
theorem bnd_ptr {i o : Nat} : bnd n (.ptr i o) = (i < n) := rfl
theorem bnd_own {i a b c : Nat} : bnd n (.own i a b c) = (i < n) := rfl
theorem bnd_elem {i a b c : Nat} : bnd n (.elem i a b c) = (i < n) := rfl
theorem bnd_fn {f : Fn} {a b : List SV} : bnd n (.fn f a b) = (bndL n a ∧ bndL n b) := rfl
theorem bnd_iface {t : TypeId} {v : SV} : bnd n (.iface t v) = bnd n v := rfl
theorem bnd_opt {b : Bool} {v : SV} : bnd n (.opt b v) = bnd n v := rfl
theorem bndL_nil : bndL n [] = True := rfl
theorem bndL_cons {x : SV} {l : List SV} : bndL n (x :: l) = (bnd n x ∧ bndL n l) := rfl

mutual
theorem le_self : ∀ (x : SV), bnd n x → le m n x x
  | .int _ _, _ => ⟨rfl, rfl⟩
  | .bool _, _ => rfl
  | .val _, h => ⟨rfl, h⟩
  | .nil, h => ⟨rfl, h⟩
  | .agg cs, h => leL_self cs h
  | .tup cs, h => leL_self cs h
  | .vs _ _ _ _ get, _ => ⟨id, rfl, rfl, rfl, fun k _ => leXL_self (get k)⟩
  | .xp _ cs, _ => ⟨id, leXL_self cs⟩
  | .ptr _ _, h => ⟨rfl, h⟩
  | .own _ _ _ _, h => ⟨rfl, rfl, rfl, rfl, h⟩
  | .elem _ _ _ _, h => ⟨rfl, h⟩
  | .fn _ _ _, h => ⟨rfl, h⟩
  | .iface _ _, h => ⟨rfl, h⟩
  | .opt _ _, h => ⟨rfl, h⟩
  | .junk, _ => trivial
theorem leL_self : ∀ (x : List SV), bndL n x → leL m n x x
  | [], _ => trivial
  | x :: l, h => ⟨le_self x h.1, leL_self l h.2⟩
end

mutual
/-- What was read covers. -/
theorem leX_le : ∀ (x y : SV), leX x y → bnd n y → le m n x y
  | .agg cs, y, h, hb => by
    cases y with
    | agg ds => exact leXL_le cs ds h hb
    | junk => trivial
    | _ => cases h
  | .tup cs, y, h, hb => by
    cases y with
    | tup ds => exact leXL_le cs ds h hb
    | junk => trivial
    | _ => cases h
  | .int _ _, y, h, hb => by cases y <;> first | trivial | exact h | cases h
  | .bool _, y, h, hb => by cases y <;> first | trivial | exact h | cases h
  | .val _, y, h, hb => by cases y <;> first | trivial | (cases h; done) | (cases h; exact ⟨rfl, hb⟩)
  | .nil, y, h, hb => by cases y <;> first | trivial | exact h | (cases h; done) | (cases h; exact ⟨rfl, hb⟩)
  | .vs _ _ _ _ _, y, h, hb => by cases y <;> first | trivial | exact h | cases h
  | .xp _ _, y, h, hb => by cases y <;> first | trivial | exact h | cases h
  | .ptr _ _, y, h, hb => by cases y <;> first | trivial | (cases h; done) | (cases h; exact ⟨rfl, hb⟩)
  | .own _ _ _ _, y, h, hb => by cases y <;> first | trivial | (cases h; done) | (cases h; exact ⟨rfl, rfl, rfl, rfl, hb⟩)
  | .elem _ _ _ _, y, h, hb => by cases y <;> first | trivial | (cases h; done) | (cases h; exact ⟨rfl, hb⟩)
  | .fn _ _ _, y, h, hb => by cases y <;> first | trivial | (cases h; done) | (cases h; exact ⟨rfl, hb⟩)
  | .iface _ _, y, h, hb => by cases y <;> first | trivial | (cases h; done) | (cases h; exact ⟨rfl, hb⟩)
  | .opt _ _, y, h, hb => by cases y <;> first | trivial | (cases h; done) | (cases h; exact ⟨rfl, hb⟩)
  | .junk, y, h, hb => by cases y <;> first | trivial | (cases h; done)
theorem leXL_le : ∀ (x y : List SV), leXL x y → bndL n y → leL m n x y
  | [], y, h, hb => by
    cases y with
    | nil => trivial
    | cons _ _ => exact h.elim
  | x :: l, y, h, hb => by
    cases y with
    | nil => exact h.elim
    | cons a r => exact ⟨leX_le x a h.1 hb.1, leXL_le l r h.2 hb.2⟩
end

theorem bndL_take : ∀ (k : Nat) (l : List SV), bndL n l → bndL n (takeL k l)
  | 0, _, _ => trivial
  | _ + 1, [], _ => trivial
  | k + 1, _ :: l, h => ⟨h.1, bndL_take k l h.2⟩
theorem bndL_drop : ∀ (k : Nat) (l : List SV), bndL n l → bndL n (dropL k l)
  | 0, _, h => h
  | _ + 1, [], _ => trivial
  | k + 1, _ :: l, h => bndL_drop k l h.2

/-- Elements of a slice literal. -/
theorem leL_chunk {sz k : Nat} {cs : List SV} (h : bndL n cs = True) : leL m n (chunk sz cs k) (chunk sz cs k) = True :=
  eq_true (leL_self _ (bndL_take _ _ (bndL_drop _ _ (of_eq_true h))))

theorem subLo_z (n : Nat) : subLo n 0 = n := rfl
theorem addLo_z (k : Nat) : addLo 0 k = k := rfl
theorem subLo_one (n : Nat) : subLo n (Int.toNat 1) = n - 1 := rfl
theorem addLo_one (k : Nat) : addLo (Int.toNat 1) k = 1 + k := rfl
end Go.Vx
