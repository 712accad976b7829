/- Each operation that leaves memory as it is: what the executor says of it is so. -/
import Derived.Test.YtdognchniaojoaaVx2
set_option linter.all false
namespace Go.Vx
open Go.RowKit

section
variable {P : Program} {ρ : Operand → Value} {w : World} {bs : List BK} {B : Nat} {hp : List HO} {nx : Nat}

/-- A quiet operation's outcome. -/
def QOk (P : Program) (ρ : Operand → Value) (op : Op) (w : World) (bs : List BK) (B : Nat) (e : Ef) : Prop :=
  e.upd = .no ∧ ∃ v, (∀ dst type pos after guard, (execOp ρ ⟨dst, op, type, pos, after, guard⟩).run P w = .ok (.value v) w) ∧ Rep w bs B e.val v

theorem pure1_inv {p : Prop} {v : SV} {e : Ef} (h : pure1 p v = some e) : e = ⟨p, v, .no⟩ := by
  simp only [pure1, Option.some.injEq] at h; exact h.symm

theorem two {f : Operand → Value} {x y : Operand} {a b : SV} (h : RepL w bs B [a, b] ([x, y].map f)) : Rep w bs B a (f x) ∧ Rep w bs B b (f y) := by
  obtain ⟨v, vs, h1, h2, h3⟩ := h.cons_inv
  obtain ⟨v', vs', h4, h5, h6⟩ := h3.cons_inv
  simp only [List.map_cons, List.map_nil, List.cons.injEq] at h1
  obtain ⟨rfl, rfl⟩ := h1
  simp only [List.cons.injEq] at h4
  obtain ⟨rfl, _⟩ := h4
  exact ⟨h2, h5⟩

theorem one1 {f : Operand → Value} {x : Operand} {a : SV} (h : RepL w bs B [a] ([x].map f)) : Rep w bs B a (f x) := by
  obtain ⟨v, vs, h1, h2, h3⟩ := h.cons_inv
  simp only [List.map_cons, List.map_nil, List.cons.injEq] at h1
  obtain ⟨rfl, rfl⟩ := h1
  exact h2

theorem lenRep {l : List SV} {vs : List Value} (h : RepL w bs B l vs) : lenL l = vs.length := h.length

theorem ari_ok {o : Ari} {t yt : TypeId} {x y : Operand} {op : BinOp} {xs : List SV} {e : Ef} (hop : op = match o with | .add => .add | .sub => .sub | .mul => .mul)
    (he : eAri o xs = some e) (hp : e.pre) (hx : RepL w bs B xs ([x, y].map ρ)) : QOk P ρ (.binOp op t x y yt) w bs B e := by
  unfold eAri at he
  split at he
  · rename_i k a k' b
    cases pure1_inv he
    obtain ⟨h1, h2⟩ := two hx
    have h1 := h1.int_inv; have h2 := h2.int_inv
    dsimp only at hp; subst hp
    refine ⟨rfl, .int k (k.wrap (ari o a b)), ?_, .x _ _ (.int _ _)⟩
    intro dst type pos after guard
    subst hop
    cases o <;> simp [execOp, h1, h2, eqGuard, binOp, Op.intArith, ari]
  · cases he

theorem cmp_ok {o : Cmp} {t yt : TypeId} {x y : Operand} {op : BinOp} {xs : List SV} {e : Ef} (hop : vcmp op = some o)
    (he : eCmp o xs = some e) (hp : e.pre) (hx : RepL w bs B xs ([x, y].map ρ)) : QOk P ρ (.binOp op t x y yt) w bs B e := by
  unfold eCmp at he
  split at he
  · rename_i k a k' b
    cases pure1_inv he
    obtain ⟨h1, h2⟩ := two hx
    have h1 := h1.int_inv; have h2 := h2.int_inv
    dsimp only at hp; subst hp
    refine ⟨rfl, .bool (cmpB o a b), ?_, .x _ _ (.bool _)⟩
    intro dst type pos after guard
    cases op <;> simp [vcmp] at hop <;> subst hop <;> simp [execOp, h1, h2, eqGuard, binOp, Op.intCmp, cmpB]
    · rw [Bool.eq_iff_iff]; simp
    · rw [Bool.eq_iff_iff]; simp
  · cases he

theorem eqb_ok {neg : Bool} {t yt : TypeId} {x y : Operand} {op : BinOp} {xs : List SV} {e : Ef} (hop : op = if neg then .neq else .eql) (ht : boolType P t = true)
    (he : eEqb neg xs = some e) (hx : RepL w bs B xs ([x, y].map ρ)) : QOk P ρ (.binOp op t x y yt) w bs B e := by
  unfold eEqb at he
  split at he
  · rename_i a b
    cases pure1_inv he
    obtain ⟨h1, h2⟩ := two hx
    have h1 := h1.bool_inv; have h2 := h2.bool_inv
    have ht' : P.underlying t = some .bool := by unfold boolType at ht; split at ht <;> first | assumption | cases ht
    have hr := run_equal_bool (P := P) (w := w) t a b ht'
    cases neg <;> subst hop
    · refine ⟨rfl, .bool (a == b), ?_, .x _ _ (.bool _)⟩
      intro dst type pos after guard
      simp [execOp, h1, h2, eqGuard, binOp, hr]
    · refine ⟨rfl, .bool (!(a == b)), ?_, .x _ _ (.bool _)⟩
      intro dst type pos after guard
      simp [execOp, h1, h2, eqGuard, binOp, hr]
  · cases he

theorem bit_ok {o : Bit} {t yt : TypeId} {x y : Operand} {op : BinOp} {xs : List SV} {e : Ef} (hop : op = match o with | .and => .and | .or => .or | .xor => .xor | .andNot => .andNot)
    (he : eBit o xs = some e) (hp : e.pre) (hx : RepL w bs B xs ([x, y].map ρ)) : QOk P ρ (.binOp op t x y yt) w bs B e := by
  unfold eBit at he
  split at he
  · rename_i k a k' b
    cases pure1_inv he
    obtain ⟨h1, h2⟩ := two hx
    have h1 := h1.int_inv; have h2 := h2.int_inv
    dsimp only at hp; subst hp
    refine ⟨rfl, .int k (bitI o k a b), ?_, .x _ _ (.int _ _)⟩
    intro dst type pos after guard
    subst hop
    cases o <;> simp [execOp, h1, h2, eqGuard, binOp, Op.intBits, bitI]
  · cases he

theorem div_ok {rem : Bool} {t yt : TypeId} {x y : Operand} {op : BinOp} {xs : List SV} {e : Ef} (hop : op = if rem then .rem else .quo)
    (he : eDiv rem xs = some e) (hp : e.pre) (hx : RepL w bs B xs ([x, y].map ρ)) : QOk P ρ (.binOp op t x y yt) w bs B e := by
  unfold eDiv at he
  split at he
  · rename_i k a k' b
    cases pure1_inv he
    obtain ⟨h1, h2⟩ := two hx
    have h1 := h1.int_inv; have h2 := h2.int_inv
    dsimp only at hp; obtain ⟨rfl, hb⟩ := hp
    cases rem <;> subst hop
    · refine ⟨rfl, .int k (k.wrap (a.tdiv b)), ?_, .x _ _ (.int _ _)⟩
      intro dst type pos after guard
      simp [execOp, h1, h2, eqGuard, binOp, Op.intDiv, hb]
    · refine ⟨rfl, .int k (a.tmod b), ?_, .x _ _ (.int _ _)⟩
      intro dst type pos after guard
      simp [execOp, h1, h2, eqGuard, binOp, Op.intDiv, hb]
  · cases he

theorem sh_ok {left : Bool} {t yt : TypeId} {x y : Operand} {op : BinOp} {xs : List SV} {e : Ef} (hop : op = if left then .shl else .shr)
    (he : eSh left xs = some e) (hp : e.pre) (hx : RepL w bs B xs ([x, y].map ρ)) : QOk P ρ (.binOp op t x y yt) w bs B e := by
  unfold eSh at he
  split at he
  · rename_i k a k' b
    cases pure1_inv he
    obtain ⟨h1, h2⟩ := two hx
    have h1 := h1.int_inv; have h2 := h2.int_inv
    dsimp only at hp
    have hb : ¬ b < 0 := by omega
    cases left <;> subst hop
    · refine ⟨rfl, .int k (a.fdiv (2 ^ min b.toNat k.bits)), ?_, .x _ _ (.int _ _)⟩
      intro dst type pos after guard
      simp [execOp, h1, h2, eqGuard, binOp, Op.shift, hb]
    · refine ⟨rfl, .int k (k.wrap (a * 2 ^ min b.toNat k.bits)), ?_, .x _ _ (.int _ _)⟩
      intro dst type pos after guard
      simp [execOp, h1, h2, eqGuard, binOp, Op.shift, hb]
  · cases he

theorem mov_ok {x : Operand} {op : Op} {xs : List SV} {e : Ef} (hop : op = .move x ∨ op = .assign x)
    (he : eMov xs = some e) (hx : RepL w bs B xs ([x].map ρ)) : QOk P ρ op w bs B e := by
  unfold eMov at he
  split at he
  · rename_i a
    cases pure1_inv he
    refine ⟨rfl, ρ x, ?_, one1 hx⟩
    intro dst type pos after guard
    rcases hop with rfl | rfl <;> simp [execOp]
  · cases he

theorem not_ok {x : Operand} {t : TypeId} {xs : List SV} {e : Ef}
    (he : eNot xs = some e) (hx : RepL w bs B xs ([x].map ρ)) : QOk P ρ (.unOp .not t x) w bs B e := by
  unfold eNot at he
  split at he
  · cases pure1_inv he
    have h := (one1 hx).bool_inv
    exact ⟨rfl, _, fun dst type pos after guard => by simp [execOp, h, Op.unary], .x _ _ (.bool _)⟩
  · cases he

theorem neg_ok {x : Operand} {t : TypeId} {xs : List SV} {e : Ef}
    (he : eNeg xs = some e) (hx : RepL w bs B xs ([x].map ρ)) : QOk P ρ (.unOp .neg t x) w bs B e := by
  unfold eNeg at he
  split at he
  · cases pure1_inv he
    have h := (one1 hx).int_inv
    exact ⟨rfl, _, fun dst type pos after guard => by simp only [execOp, h, Op.unary, Op.intArith]; simp, .x _ _ (.int _ _)⟩
  · cases he

theorem conv_ok {x : Operand} {s d : TypeId} {k : IntKind} {xs : List SV} {e : Ef} (hs : (P.underlying s).isSome = true) (hd : P.underlying d = some (.int k))
    (he : eConv k xs = some e) (hx : RepL w bs B xs ([x].map ρ)) : QOk P ρ (.convert s d x) w bs B e := by
  unfold eConv at he
  split at he
  · cases pure1_inv he
    have h := (one1 hx).int_inv
    obtain ⟨u, hu⟩ := Option.isSome_iff_exists.1 hs
    refine ⟨rfl, _, fun dst type pos after guard => ?_, .x _ _ (.int _ _)⟩
    simp [execOp, h, convert, run_underlying hu, run_underlying hd, Conv.intToInt]
  · cases he

theorem ext_ok {x : Operand} {i : Nat} {xs : List SV} {e : Ef}
    (he : eExt i xs = some e) (hp : e.pre) (hx : RepL w bs B xs ([x].map ρ)) : QOk P ρ (.extract x i) w bs B e := by
  unfold eExt at he
  split at he
  · cases pure1_inv he
    obtain ⟨vs, h, hr⟩ := (one1 hx).tup_inv
    obtain ⟨v, h1, h2⟩ := hr.get? i hp
    refine ⟨rfl, v, fun dst type pos after guard => ?_, h2⟩
    simp [execOp, h, Instr.extract, h1]
  · cases he

theorem iface_ok {x : Operand} {t : TypeId} {xs : List SV} {e : Ef} (ht : ∀ v w, (Instr.makeInterface t v).run P w = .ok (.iface t v) w)
    (he : eIface t xs = some e) (hx : RepL w bs B xs ([x].map ρ)) : QOk P ρ (.makeInterface t x) w bs B e := by
  unfold eIface at he
  split at he
  · cases pure1_inv he
    exact ⟨rfl, _, fun dst type pos after guard => by simp [execOp, ht], .iface _ _ _ (one1 hx)⟩
  · cases he

theorem bool2_ok {c a : Operand} {op : Op} {o : VO} {xs : List SV} {e : Ef} (hop : (o = .and ∧ op = .pick c a (.const (.bool false))) ∨ (o = .or ∧ op = .pick c (.const (.bool true)) a))
    (hρ : ∀ v, ρ (.const v) = v) (he : eBool2 o xs = some e) (hp : e.pre) (hx : RepL w bs B xs ([c, a].map ρ)) : QOk P ρ op w bs B e := by
  unfold eBool2 at he
  split at he
  · rename_i b y
    obtain ⟨h1, h2⟩ := two hx
    have h1 := h1.bool_inv
    rcases hop with ⟨rfl, rfl⟩ | ⟨rfl, rfl⟩
    · cases y <;> try (cases he; done)
      · rename_i b'
        simp only at he
        cases pure1_inv he
        have h2 := h2.bool_inv
        refine ⟨rfl, .bool (b && b'), fun dst type pos after guard => ?_, .x _ _ (.bool _)⟩
        cases b <;> simp [execOp, h1, h2, asBool, hρ]
      · rename_i g y
        cases y <;> try (cases he; done)
        rename_i b'
        simp only at he
        cases pure1_inv he
        refine ⟨rfl, .bool (b && b'), fun dst type pos after guard => ?_, .x _ _ (.bool _)⟩
        cases b
        · simp [execOp, h1, asBool, hρ]
        · have hg := hp rfl
          subst hg
          cases h2 with
          | x _ _ h => cases h
          | optT _ _ h => have h2 := h.bool_inv; simp [execOp, h1, h2, asBool, hρ]
    · cases y <;> try (cases he; done)
      · rename_i b'
        simp only at he
        cases pure1_inv he
        have h2 := h2.bool_inv
        refine ⟨rfl, .bool (b || b'), fun dst type pos after guard => ?_, .x _ _ (.bool _)⟩
        cases b <;> simp [execOp, h1, h2, asBool, hρ]
      · rename_i g y
        cases y <;> try (cases he; done)
        rename_i b'
        simp only at he
        cases pure1_inv he
        refine ⟨rfl, .bool (b || b'), fun dst type pos after guard => ?_, .x _ _ (.bool _)⟩
        cases b
        · have hg := hp rfl
          subst hg
          cases h2 with
          | x _ _ h => cases h
          | optT _ _ h => have h2 := h.bool_inv; simp [execOp, h1, h2, asBool, hρ]
        · simp [execOp, h1, asBool, hρ]
  · cases he

theorem lenS_ok {x : SV} {v : Value} {n : Nat} (h : lenS x = some n) (hx : Rep w bs B x v) : ∃ a c, v = .slice a n c := by
  unfold lenS at h
  split at h <;> cases h
  · exact ⟨_, _, hx.nil_inv⟩
  · cases hx with | x _ _ h => cases h; exact ⟨_, _, rfl⟩
  · cases hx with
    | x _ _ h => cases h
    | own => exact ⟨_, _, rfl⟩
    | ownNil => exact ⟨_, _, rfl⟩

theorem args1 {c : Call} {a : SV} (h : RepL w bs B [a] (c.args.toList.map ρ)) : ∃ v, c.args.map ρ = #[v] ∧ Rep w bs B a v := by
  obtain ⟨v, vs, h1, h2, h3⟩ := h.cons_inv
  cases h3
  exact ⟨v, by apply Array.ext'; rw [Array.toList_map, h1], h2⟩

theorem len_ok {c : Call} {xs : List SV} {e : Ef} {el : TypeId} (hc : c.callee = .builtin .len) (ht : c.argTypes[0]?.bind P.underlying = some (.slice el))
    (he : eLen xs = some e) (hx : RepL w bs B xs (c.args.toList.map ρ)) : QOk P ρ (.call c) w bs B e := by
  unfold eLen at he
  split at he
  · rename_i a
    obtain ⟨n, hn, he⟩ := Option.bind_eq_some_iff.1 he
    cases pure1_inv he
    obtain ⟨t, h1, h2⟩ := Option.bind_eq_some_iff.1 ht
    obtain ⟨v, hv, h3⟩ := args1 hx
    obtain ⟨a', cc, rfl⟩ := lenS_ok hn h3
    refine ⟨rfl, .int .i64 n, fun dst type pos after guard => ?_, .x _ _ (.int _ _)⟩
    simp [execOp, resolve, hc, invoke, builtin, Builtin.len_, h1, run_underlying h2, hv, goInt]
  · cases he

theorem lenStr_ok {c : Call} {xs : List SV} {e : Ef} (hc : c.callee = .builtin .len) (ht : c.argTypes[0]?.bind P.underlying = some .string)
    (he : eLenStr xs = some e) (hx : RepL w bs B xs (c.args.toList.map ρ)) : QOk P ρ (.call c) w bs B e := by
  unfold eLenStr at he
  split at he
  · cases pure1_inv he
    obtain ⟨t, h1, h2⟩ := Option.bind_eq_some_iff.1 ht
    obtain ⟨v, hv, h3⟩ := args1 hx
    have h4 := h3.val_inv; subst h4
    refine ⟨rfl, _, fun dst type pos after guard => ?_, .x _ _ (.int _ _)⟩
    simp [execOp, resolve, hc, invoke, builtin, Builtin.len_, h1, run_underlying h2, hv, goInt]
  · cases he

theorem lenArr_ok {c : Call} {xs : List SV} {e : Ef} {el : TypeId} {n : Nat} (hc : c.callee = .builtin .len) (ht : c.argTypes[0]?.bind P.underlying = some (.array n el))
    (he : eLenArr n xs = some e) (hx : RepL w bs B xs (c.args.toList.map ρ)) : QOk P ρ (.call c) w bs B e := by
  unfold eLenArr at he
  split at he
  · cases pure1_inv he
    obtain ⟨t, h1, h2⟩ := Option.bind_eq_some_iff.1 ht
    obtain ⟨v, hv, h3⟩ := args1 hx
    refine ⟨rfl, .int .i64 n, fun dst type pos after guard => ?_, .x _ _ (.int _ _)⟩
    simp [execOp, resolve, hc, invoke, builtin, Builtin.len_, h1, run_underlying h2, hv, goInt]
  · cases he

theorem max_if (y m : Int) : (if y > m then y else m) = max m y := by rw [Int.max_def]; split <;> split <;> omega
theorem min_if (y m : Int) : (if y < m then y else m) = min m y := by rw [Int.min_def]; split <;> split <;> omega

theorem bif_some {α : Type} {b : Bool} {o : Option α} {r : α} (h : (bif b then o else none) = some r) : b = true ∧ o = some r := by
  cases b with
  | true => exact ⟨rfl, h⟩
  | false => cases h

theorem kEq_eq {k k' : IntKind} (h : kEq k k' = true) : k = k' := by cases k <;> cases k' <;> first | rfl | cases h

theorem foldMax_ok {k : IntKind} : ∀ {l : List SV} {m r : Int} {vs : List Value}, foldMax k m l = some r → RepL w bs B l vs →
    (vs.foldlM Builtin.max2 (.int k m)).run P w = .ok (.int k r) w
  | [], m, r, vs, h, hl => by cases hl; simp only [foldMax, Option.some.injEq] at h; subst h; rfl
  | x :: l, m, r, vs, h, hl => by
    obtain ⟨v, vs', rfl, hv, hl2⟩ := hl.cons_inv
    unfold foldMax at h
    split at h
    · cases ‹_ :: _ = []›
    · rename_i k' y l' heq
      cases heq
      obtain ⟨hkq, hfold⟩ := bif_some h
      · have hk := kEq_eq hkq; subst hk
        have hv := hv.int_inv; subst hv
        have := foldMax_ok hfold hl2
        simp only [List.foldlM_cons, Sem.run_bind, Builtin.max2, Sem.run_pure, Result.andThen_ok]
        rw [max_if]; exact this
    · cases h

theorem foldMin_ok {k : IntKind} : ∀ {l : List SV} {m r : Int} {vs : List Value}, foldMin k m l = some r → RepL w bs B l vs →
    (vs.foldlM Builtin.min2 (.int k m)).run P w = .ok (.int k r) w
  | [], m, r, vs, h, hl => by cases hl; simp only [foldMin, Option.some.injEq] at h; subst h; rfl
  | x :: l, m, r, vs, h, hl => by
    obtain ⟨v, vs', rfl, hv, hl2⟩ := hl.cons_inv
    unfold foldMin at h
    split at h
    · cases ‹_ :: _ = []›
    · rename_i k' y l' heq
      cases heq
      obtain ⟨hkq, hfold⟩ := bif_some h
      · have hk := kEq_eq hkq; subst hk
        have hv := hv.int_inv; subst hv
        have := foldMin_ok hfold hl2
        simp only [List.foldlM_cons, Sem.run_bind, Builtin.min2, Sem.run_pure, Result.andThen_ok]
        rw [min_if]; exact this
    · cases h

theorem minmax_ok {mx : Bool} {c : Call} {xs : List SV} {e : Ef} (hc : c.callee = .builtin (if mx then .max else .min))
    (he : eMinMax mx xs = some e) (hx : RepL w bs B xs (c.args.toList.map ρ)) : QOk P ρ (.call c) w bs B e := by
  unfold eMinMax at he
  split at he
  · rename_i k x l
    obtain ⟨v, vs, hvs, hv, hl⟩ := hx.cons_inv
    have hv := hv.int_inv; subst hv
    cases mx
    · obtain ⟨m, hm, he⟩ := Option.bind_eq_some_iff.1 he
      cases pure1_inv he
      refine ⟨rfl, .int k m, fun dst type pos after guard => ?_, .x _ _ (.int _ _)⟩
      simp only [Bool.false_eq_true, if_false] at hc
      simp [execOp, resolve, hc, invoke, builtin, Builtin.min_, hvs, foldMin_ok hm hl]
    · obtain ⟨m, hm, he⟩ := Option.bind_eq_some_iff.1 he
      cases pure1_inv he
      refine ⟨rfl, .int k m, fun dst type pos after guard => ?_, .x _ _ (.int _ _)⟩
      simp only [if_true] at hc
      simp [execOp, resolve, hc, invoke, builtin, Builtin.max_, hvs, foldMax_ok hm hl]
  · cases he

/-! ### Addresses, parts, loads -/

theorem run_sizeOf {t : TypeId} {n : Nat} (h : sizeOf? P t = some n) : (sizeOf t).run P w = .ok n w := by
  unfold sizeOf? at h
  obtain ⟨i, h1, h2⟩ := Option.map_eq_some_iff.1 h
  simp [sizeOf, typeInfo, h1, h2]

theorem run_isAgg {t : TypeId} {b : Bool} (h : aggOf P t = some b) : (isAgg t).run P w = .ok b w := by
  unfold aggOf at h
  obtain ⟨u, h1, h2⟩ := Option.map_eq_some_iff.1 h
  unfold isAgg
  simp only [Sem.run_bind, run_underlying h1, Result.andThen_ok]
  subst h2
  split <;> simp_all

theorem add_none {b off n : Nat} : (Addr.add ⟨b, off, none⟩ n) = ⟨b, off + n, none⟩ := by
  unfold Addr.add; split <;> simp_all

theorem add_spot {a : Addr} (h : a.spot = none) (n : Nat) : a.add n = ⟨a.block, a.off + n, none⟩ := by
  obtain ⟨b, o, s⟩ := a; simp only at h; subst h; exact add_none

theorem Cells.cell {b off j : Nat} {l : List Value} {v : Value} (h : Cells w b off l) (hj : l[j]? = some v) : w.cell? ⟨b, off + j, none⟩ = some v := by
  obtain ⟨cs, T, fz, h1, h2⟩ := h
  simp [World.cell?, h1, h2 j v hj]

theorem Cells.drop {b off n : Nat} {l : List Value} (h : Cells w b off l) : Cells w b (off + n) (l.drop n) := by
  obtain ⟨cs, T, fz, h1, h2⟩ := h
  refine ⟨cs, T, fz, h1, fun j v hj => ?_⟩
  rw [Nat.add_assoc]
  exact h2 _ v (by simpa using hj)

theorem Cells.take {b off n : Nat} {l : List Value} (h : Cells w b off l) : Cells w b off (l.take n) := by
  obtain ⟨cs, T, fz, h1, h2⟩ := h
  refine ⟨cs, T, fz, h1, fun j v hj => h2 _ v ?_⟩
  rw [List.getElem?_take] at hj
  split at hj
  · exact hj
  · cases hj

/-- Where an address leads. -/
theorem cellsAt_ok {x : SV} {v : Value} {p : Prop} {cs : List SV} (h : cellsAt hp x = some (p, cs)) (hpp : p) (hx : Rep w bs B x v) (hH : Hp w bs B hp) :
    ∃ ad vals, v = .pointer (some ad) ∧ ad.spot = none ∧ RepL w bs B cs vals ∧ Cells w ad.block ad.off vals := by
  unfold cellsAt at h
  split at h
  · cases h
    cases hx with
    | x _ _ h => cases h with | xp _ _ ad vals hs hf ht hc h => exact ⟨ad, vals, rfl, hs, h.rep, hc⟩
  · rename_i i off
    obtain ⟨b, n, hb, rfl⟩ := hx.ptr_inv
    have he := hH.ent i
    split at h
    · rename_i cs' hg
      cases h
      rw [hg] at he
      obtain ⟨b', vs, T, h1, h2, h3⟩ := he
      rw [hb] at h1; cases h1
      refine ⟨_, vs.toList.drop off, rfl, rfl, h3.drop off, vs, T, _, h2, fun j v hj => ?_⟩
      simpa using hj
    · cases h
  · rename_i i k off sz
    obtain ⟨b, c, n, hb, rfl, hkn⟩ := hx.elem_inv
    have he := hH.ent i
    split at h
    · rename_i z size m get hg
      cases h
      obtain ⟨hk, rfl⟩ := hpp
      rw [hg] at he
      rcases he with ⟨_, _, rfl⟩ | ⟨b', cap, vs, T, h1, h2, h3, h4, h5, h6⟩
      · omega
      rw [hb] at h1; cases h1
      refine ⟨_, ((vs.toList.drop (k * sz)).take sz).drop off, rfl, rfl, (h6 k hk).drop off, vs, T, _, h3, fun j v hj => ?_⟩
      rw [List.getElem?_drop, List.getElem?_take] at hj
      split at hj
      · rw [List.getElem?_drop] at hj
        rw [Nat.add_assoc]
        simpa using hj
      · cases hj
    · cases h
  · cases h

theorem run_loadCellsFrom {a : Addr} (ha : a.spot = none) : ∀ {l : List Value} {i : Nat} {acc : Array Value}, (∀ (j : Nat) (v : Value), l[j]? = some v → w.cell? ⟨a.block, a.off + (i + j), none⟩ = some v) →
    (loadCellsFrom a i l.length acc).run P w = .ok (acc ++ l.toArray) w
  | [], i, acc, h => by simp [loadCellsFrom]
  | x :: l, i, acc, h => by
    have h0 := h 0 x rfl
    have ih := run_loadCellsFrom ha (l := l) (i := i + 1) (acc := acc.push x) (fun j v hj => by
      have := h (j + 1) v (by simpa using hj)
      rwa [show i + 1 + j = i + (j + 1) by omega])
    simp only [List.length_cons, loadCellsFrom, Sem.run_bind, add_spot ha, run_load]
    rw [show a.off + i = a.off + (i + 0) by rfl, h0]
    simp only [Result.andThen_ok]
    rw [ih]
    simp

theorem run_loadCells {a : Addr} (ha : a.spot = none) {l : List Value} (h : Cells w a.block a.off l) : (loadCells a l.length).run P w = .ok l.toArray w := by
  unfold loadCells
  rw [run_loadCellsFrom ha (fun j v hj => by rw [Nat.zero_add]; exact h.cell hj)]
  simp

theorem load_ok {x : Operand} {t : TypeId} {agg : Bool} {size : Nat} {xs : List SV} {e : Ef} (ha : aggOf P t = some agg) (hs : sizeOf? P t = some size)
    (h1 : agg = false → size = 1) (he : eLoad hp agg size xs = some e) (hpre : e.pre) (hx : RepL w bs B xs ([x].map ρ)) (hH : Hp w bs B hp) : QOk P ρ (.load t x) w bs B e := by
  unfold eLoad at he
  split at he
  · obtain ⟨⟨p, cs⟩, hc, he⟩ := Option.bind_eq_some_iff.1 he
    cases pure1_inv he
    obtain ⟨hp1, hp2⟩ := hpre
    obtain ⟨ad, vals, hv, hsp, hr, hcl⟩ := cellsAt_ok hc hp1 (one1 hx) hH
    have hlen : size ≤ vals.length := by rw [← hr.length]; exact hp2
    have hr' := hr.take size
    cases agg
    · have := h1 rfl; subst this
      cases hr with
      | nil => simp at hlen
      | cons y u l us hy hl =>
        refine ⟨rfl, u, fun dst type pos after guard => ?_, by simpa [mkAgg, takeL] using hy⟩
        have := hcl.cell (j := 0) (v := u) rfl
        simp only [Nat.add_zero] at this
        have had : ad = ⟨ad.block, ad.off, none⟩ := by cases ad; simp_all
        simp only [execOp, Instr.loadAt, hv, Instr.sureAddr, loadVar, Sem.run_bind, Sem.run_pure, Result.andThen_ok, run_isAgg ha, Bool.false_eq_true, if_false, run_load]
        rw [had, this]; rfl
    · refine ⟨rfl, .agg (vals.take size).toArray, fun dst type pos after guard => ?_, .agg _ _ hr'⟩
      have hl := run_loadCells (P := P) (w := w) hsp (l := vals.take size) hcl.take
      rw [List.length_take, Nat.min_eq_left hlen] at hl
      simp only [execOp, Instr.loadAt, hv, Instr.sureAddr, loadVar, Sem.run_bind, Sem.run_pure, Result.andThen_ok, run_isAgg ha, if_true, run_sizeOf hs, hl]
  · cases he

theorem run_part {t : TypeId} {agg : Bool} {off size : Nat} {l : List Value} {cs : List SV} (ha : aggOf P t = some agg) (hs : sizeOf? P t = some size)
    (h1 : agg = false → size = 1) (hr : RepL w bs B cs l) (hl : off + size ≤ l.length) :
    ∃ v, (part t l.toArray off).run P w = .ok v w ∧ Rep w bs B (mkAgg agg (takeL size (dropL off cs))) v := by
  have hr' := (hr.drop off).take size
  cases agg
  · have := h1 rfl; subst this
    obtain ⟨v, hv⟩ : ∃ v, l[off]? = some v := ⟨l[off]'(by omega), by simp⟩
    refine ⟨v, ?_, ?_⟩
    · simp [part, run_isAgg ha, hv]
    · have hd : l.drop off = v :: l.drop (off + 1) := by
        have h := List.drop_eq_getElem_cons (l := l) (i := off) (by omega)
        rw [h]; rw [List.getElem?_eq_getElem (by omega)] at hv; cases hv; rfl
      rw [hd] at hr'
      cases hc : dropL off cs with
      | nil => have := (hr.drop off).length; rw [hc, hd] at this; simp [lenL] at this
      | cons y ys =>
        rw [hc] at hr'
        simp only [takeL, List.take_succ_cons, List.take_zero] at hr'
        obtain ⟨_, _, h3, h4, _⟩ := hr'.cons_inv
        cases h3
        simpa [mkAgg, takeL] using h4
  · refine ⟨.agg ((l.drop off).take size).toArray, ?_, .agg _ _ hr'⟩
    simp only [part, Sem.run_bind, run_isAgg ha, Result.andThen_ok, if_true, run_sizeOf hs, Sem.run_pure]
    congr 2
    apply Array.ext'
    simp

theorem field_ok {x : Operand} {s : TypeId} {f : Nat} {fs : Array Field} {fd : Field} {agg : Bool} {size : Nat} {xs : List SV} {e : Ef}
    (hu : P.underlying s = some (.struct fs)) (hf : fs[f]? = some fd) (ha : aggOf P fd.type = some agg) (hs : sizeOf? P fd.type = some size) (h1 : agg = false → size = 1)
    (he : eField agg fd.offset size xs = some e) (hpre : e.pre) (hx : RepL w bs B xs ([x].map ρ)) : QOk P ρ (.field s x f) w bs B e := by
  unfold eField at he
  split at he
  · cases pure1_inv he
    obtain ⟨vs, hv, hr⟩ := (one1 hx).agg_inv
    dsimp only at hpre
    rw [hr.length] at hpre
    obtain ⟨v, hrun, hrep⟩ := run_part (off := fd.offset) ha hs h1 hr hpre
    refine ⟨rfl, v, fun dst type pos after guard => ?_, hrep⟩
    simp [execOp, Instr.field, run_underlying hu, hf, hv, asAgg, hrun]
  · cases he

theorem fieldAddr_ok {x : Operand} {s : TypeId} {f : Nat} {fs : Array Field} {fd : Field} {size : Nat} {xs : List SV} {e : Ef}
    (hu : P.underlying s = some (.struct fs)) (hf : fs[f]? = some fd) (hs : sizeOf? P fd.type = some size) (h1 : size ≠ 0)
    (he : eFieldAddr fd.offset xs = some e) (hx : RepL w bs B xs ([x].map ρ)) : QOk P ρ (.fieldAddr s x f) w bs B e := by
  have run (ad : Addr) (h : ρ x = .pointer (some ad)) (dst type pos after guard) : (execOp ρ ⟨dst, .fieldAddr s x f, type, pos, after, guard⟩).run P w = .ok (.value (.pointer (some (ad.add fd.offset)))) w := by
    simp [execOp, Instr.fieldAt, run_underlying hu, hf, h, Instr.sureAddr, fieldPlace, run_sizeOf hs, h1]
  unfold eFieldAddr at he
  split at he
  · have h := one1 hx
    split at he
    · cases pure1_inv he
      obtain ⟨b, n, hb, hv⟩ := h.ptr_inv
      refine ⟨rfl, _, fun dst type pos after guard => run _ hv .., ?_⟩
      rw [add_none]; exact .ptr _ _ b n hb
    · cases pure1_inv he
      cases h with
      | x _ _ h =>
        generalize hρ : ρ x = v at h
        cases h with
        | xp _ _ ad vals hs hf ht hc h =>
          refine ⟨rfl, _, fun dst type pos after guard => run _ hρ .., ?_⟩
          rw [add_spot hs]
          exact .x _ _ (.xp _ _ _ _ rfl hf ht hc.drop (h.drop _))
    · cases pure1_inv he
      obtain ⟨b, c, n, hb, hv, hkn⟩ := h.elem_inv
      refine ⟨rfl, _, fun dst type pos after guard => run _ hv .., ?_⟩
      rw [add_none, Nat.add_assoc]; exact .elem _ _ _ _ b c n hb hkn
    · cases he
  · cases he

theorem run_asIntOf (k : IntKind) (n : Int) : (asIntOf (.int k n)).run P w = .ok (k, n) w := rfl

theorem addLo_eq (a k : Nat) : addLo a k = a + k := by cases a <;> simp [addLo]
theorem subLo_eq (a k : Nat) : subLo a k = a - k := by cases k <;> simp [subLo]

theorem idxAddr_ok {x i : Operand} {t el : TypeId} {size : Nat} {xs : List SV} {e : Ef} (hu : P.underlying t = some (.slice el)) (hs : sizeOf? P el = some size)
    (he : eIdxAddr size xs = some e) (hpre : e.pre) (hx : RepL w bs B xs ([x, i].map ρ)) (hH : Hp w bs B hp) : QOk P ρ (.indexAddr t x i) w bs B e := by
  have run (ad : Addr) (n c : Nat) (k : IntKind) (j : Int) (h : ρ x = .slice (some ad) n c) (hi : ρ i = .int k j) (hb : 0 ≤ j ∧ j < n) (dst type pos after guard) :
      (execOp ρ ⟨dst, .indexAddr t x i, type, pos, after, guard⟩).run P w = .ok (.value (.pointer (some (ad.add (j.toNat * size))))) w := by
    simp [execOp, Instr.indexAt, run_underlying hu, h, hi, run_asIntOf, run_sizeOf hs, hb]
  unfold eIdxAddr at he
  split at he
  · rename_i y k j
    obtain ⟨h1, h2⟩ := two hx
    have h2 := h2.int_inv
    split at he
    · rename_i t' z' n sz' get'
      cases pure1_inv he
      obtain ⟨rfl, hb⟩ := hpre
      cases h1 with
      | x _ _ h1 =>
        generalize hρ : ρ x = v at h1
        cases h1 with
        | vs _ _ _ _ _ a cap vals hz hc hn hcell h =>
          have hj : j.toNat < n := by omega
          obtain ⟨ad, rfl, h3, h4, h5, h6, h7⟩ := hcell _ hj
          refine ⟨rfl, _, fun dst type pos after guard => run _ _ _ _ _ hρ h2 hb .., ?_⟩
          rw [add_spot h3]
          exact .x _ _ (.xp _ _ _ _ rfl h4 h5 h7 (h _ hj))
    · rename_i jj lo n sz
      cases pure1_inv he
      obtain ⟨rfl, hb⟩ := hpre
      generalize hρ : ρ x = v at h1
      cases h1 with
      | x _ _ h1 => cases h1
      | own _ _ _ _ b cap m ad hbs hl ha =>
        refine ⟨rfl, _, fun dst type pos after guard => run _ _ _ _ _ hρ h2 hb .., ?_⟩
        have had : ad = ⟨b, lo * sz, none⟩ := by
          rcases ha with ha | ha
          · exact ha
          · exfalso
            have hm := hH.le hbs
            have hb2 := hb.2
            have hb1 := hb.1
            omega
        rw [had, add_none, addLo_eq]
        have := Rep.elem (w := w) (bs := bs) (B := B) jj (lo + j.toNat) 0 sz b cap m hbs (by omega)
        rw [Nat.add_zero, Nat.add_mul] at this
        exact this
      | ownNil => exfalso; have hb2 := hb.2; have hb1 := hb.1; omega
    · cases he
  · cases he

theorem idxArr_ok {x i : Operand} {t el : TypeId} {n size : Nat} {xs : List SV} {e : Ef} (hu : P.underlying t = some (.array n el)) (hs : sizeOf? P el = some size)
    (he : eIdxArr hp n size xs = some e) (hpre : e.pre) (hx : RepL w bs B xs ([x, i].map ρ)) (hH : Hp w bs B hp) : QOk P ρ (.indexAddr t x i) w bs B e := by
  unfold eIdxArr at he
  split at he
  · rename_i jj k j
    obtain ⟨h1, h2⟩ := two hx
    have h2 := h2.int_inv
    obtain ⟨b, m, hb, hv⟩ := h1.ptr_inv
    split at he
    · rename_i hg
      cases pure1_inv he
      obtain ⟨h0, h3, hsz, hm⟩ := hpre
      have hent := hH.ent jj
      rw [hg] at hent
      have hmm : n = m := by
        rcases hent with ⟨h, _⟩ | ⟨_, _, _, _, h, _⟩
        · rw [hb] at h; cases h
        · rw [hb] at h; cases h; exact hm.symm
      refine ⟨rfl, .pointer (some ⟨b, j.toNat * size + 0, none⟩), fun dst type pos after guard => ?_, .elem _ _ _ _ b m m hb (by omega)⟩
      simp [execOp, Instr.indexAt, run_underlying hu, hv, h2, run_asIntOf, run_sizeOf hs, h0, h3, Instr.sureAddr, add_none]
    · cases pure1_inv he
      obtain ⟨h0, h3⟩ := hpre
      refine ⟨rfl, .pointer (some ⟨b, j.toNat * size, none⟩), fun dst type pos after guard => ?_, .ptr _ _ b m hb⟩
      simp [execOp, Instr.indexAt, run_underlying hu, hv, h2, run_asIntOf, run_sizeOf hs, h0, h3, Instr.sureAddr, add_none]
    · cases he
  · cases he

theorem index_ok {x i : Operand} {t el : TypeId} {agg : Bool} {n size : Nat} {xs : List SV} {e : Ef} (hu : P.underlying t = some (.array n el)) (ha : aggOf P el = some agg) (hs : sizeOf? P el = some size)
    (h1 : agg = false → size = 1) (he : eIndex agg n size xs = some e) (hpre : e.pre) (hx : RepL w bs B xs ([x, i].map ρ)) : QOk P ρ (.index t x i) w bs B e := by
  unfold eIndex at he
  split at he
  · rename_i cs k j
    cases pure1_inv he
    obtain ⟨h3, h2⟩ := two hx
    have h2 := h2.int_inv
    obtain ⟨vs, hv, hr⟩ := h3.agg_inv
    obtain ⟨h4, h5, h6⟩ := hpre
    rw [hr.length] at h6
    have hl : j.toNat * size + size ≤ vs.length := by
      rw [h6, ← Nat.succ_mul]; exact Nat.mul_le_mul_right _ (by omega)
    obtain ⟨v, hrun, hrep⟩ := run_part (P := P) (off := j.toNat * size) ha hs h1 hr hl
    refine ⟨rfl, v, fun dst type pos after guard => ?_, hrep⟩
    simp [execOp, Instr.index, run_underlying hu, hv, h2, run_asIntOf, run_sizeOf hs, h4, h5, hrun]
  · cases he

theorem run_sliceBound {k : IntKind} {j : Int} {y : Nat} {code : BoundsCode} (h : 0 ≤ j ∧ j ≤ y) : (Instr.sliceBound (.int k j) y code).run P w = .ok j.toNat w := by
  simp [Instr.sliceBound, run_asIntOf, h]

theorem bounds_ok {n len cap : Nat} {lo hi : Bool} {l : List SV} {p : Prop} {a b : Nat} {lov hiv : Option Operand} {isSlice : Bool} (h : bounds n lo hi l = some (p, a, b)) (hpp : p) (hn : n = len) (hc : len ≤ cap)
    (hlo : lov.isSome = lo) (hhi : hiv.isSome = hi) (hx : RepL w bs B l ((lov.toList ++ hiv.toList).map ρ)) :
    (Instr.sliceBounds isSlice len cap (lov.map ρ) (hiv.map ρ) none).run P w = .ok (a, b, cap) w ∧ a ≤ b ∧ b ≤ len := by
  subst hn
  unfold bounds at h
  split at h <;> cases h
  · cases lov <;> simp at hlo
    cases hiv <;> simp at hhi
    simp [Instr.sliceBounds]
  · cases lov <;> simp at hlo
    cases hiv <;> simp at hhi
    rename_i o
    have hv := (one1 (x := o) (by simpa using hx)).int_inv
    simp [Instr.sliceBounds, hv, run_sliceBound hpp]
    omega
  · cases lov <;> simp at hlo
    cases hiv <;> simp at hhi
    rename_i o
    have hv := (one1 (x := o) (by simpa using hx)).int_inv
    have : 0 ≤ ‹Int› ∧ ‹Int› ≤ (cap : Int) := by omega
    simp [Instr.sliceBounds, hv, run_sliceBound this]
    omega
  · cases lov <;> simp at hlo
    cases hiv <;> simp at hhi
    rename_i k x k' y o o'
    obtain ⟨hv, hv'⟩ := two (x := o) (y := o') (by simpa using hx)
    have hv := hv.int_inv; have hv' := hv'.int_inv
    have h1 : 0 ≤ y ∧ y ≤ (cap : Int) := by omega
    have h2 : 0 ≤ x ∧ x ≤ (y.toNat : Int) := by omega
    simp [Instr.sliceBounds, hv, hv', run_sliceBound h1, run_sliceBound h2]
    omega

theorem slice_ok {x : Operand} {t el : TypeId} {size : Nat} {lov hiv : Option Operand} {xs : List SV} {e : Ef} (hu : P.underlying t = some (.slice el)) (hs : sizeOf? P el = some size)
    (he : eSlice size lov.isSome hiv.isSome xs = some e) (hpre : e.pre) (hx : RepL w bs B xs ((x :: (lov.toList ++ hiv.toList)).map ρ)) (hH : Hp w bs B hp) : QOk P ρ (.slice t x lov hiv none) w bs B e := by
  have run (a : Option Addr) (n c l h : Nat) (hv : ρ x = .slice a n c) (hb : (Instr.sliceBounds true n c (lov.map ρ) (hiv.map ρ) none).run P w = .ok (l, h, c) w) (dst type pos after guard) :
      (execOp ρ ⟨dst, .slice t x lov hiv none, type, pos, after, guard⟩).run P w = .ok (.value (.slice (if c = l then a else a.map (·.add (l * size))) (h - l) (c - l))) w := by
    simp [execOp, Instr.sliceAt, Instr.slice, run_underlying hu, hv, hb, run_sizeOf hs]
  unfold eSlice at he
  split at he
  · rename_i y l
    obtain ⟨v, vs, hvs, h1, h2⟩ := hx.cons_inv
    simp only [List.map_cons, List.cons.injEq] at hvs
    obtain ⟨hρ, rfl⟩ := hvs
    split at he
    · rename_i t' z n sz get
      obtain ⟨⟨p, a, b⟩, hb, he⟩ := Option.bind_eq_some_iff.1 he
      cases pure1_inv he
      obtain ⟨rfl, hpp⟩ := hpre
      cases h1 with
      | x _ _ h1 =>
        cases h1 with
        | vs _ _ _ _ _ ad cap vals hz hc hn hcell h =>
          obtain ⟨hrun, hab, hbn⟩ := bounds_ok (P := P) (isSlice := true) hb hpp rfl hc rfl rfl h2
          refine ⟨rfl, _, fun dst type pos after guard => run _ _ _ _ _ hρ hrun .., ?_⟩
          rw [subLo_eq]
          refine .x _ _ (.vs _ _ _ _ _ _ _ (fun k => vals (a + k)) ?_ (by omega) ?_ ?_ ?_)
          · split
            · exact hz
            · cases ad <;> simpa using hz
          · intro hnone
            split at hnone
            · have := hn hnone; omega
            · cases ad with
              | none => have := hn rfl; omega
              | some _ => simp at hnone
          · intro k hk
            obtain ⟨ad', had, h3, h4, h5, h6, h7⟩ := hcell (a + k) (by omega)
            subst had
            rw [if_neg (by omega)]
            refine ⟨ad'.add (a * sz), rfl, ?_, ?_, ?_, h6, ?_⟩ <;> rw [add_spot h3]
            · exact h4
            · exact h5
            · show Cells w ad'.block (ad'.off + a * sz + k * sz) _
              rw [Nat.add_assoc, ← Nat.add_mul]; exact h7
          · intro k hk
            rw [addLo_eq]
            exact h (a + k) (by omega)
    · rename_i j o n sz
      obtain ⟨⟨p, a, b⟩, hb, he⟩ := Option.bind_eq_some_iff.1 he
      cases pure1_inv he
      obtain ⟨rfl, hpp⟩ := hpre
      cases h1 with
      | x _ _ h1 => cases h1
      | own _ _ _ _ bb cap m ad hbs hl ha =>
        have hm := hH.le hbs
        obtain ⟨hrun, hab, hbn⟩ := bounds_ok (P := P) (isSlice := true) (cap := cap - o) hb hpp rfl (by omega) rfl rfl h2
        refine ⟨rfl, _, fun dst type pos after guard => run _ _ _ _ _ hρ hrun .., ?_⟩
        rw [subLo_eq, addLo_eq, Nat.sub_sub]
        by_cases hca : cap - o = a
        · rw [if_pos hca]
          refine .own _ _ _ _ bb cap m ad hbs (by omega) ?_
          by_cases ha0 : a = 0
          · subst ha0; simpa using ha
          · right; omega
        · rw [if_neg hca]
          refine .own _ _ _ _ bb cap m _ hbs (by omega) ?_
          rcases ha with rfl | ha
          · left; simp [add_none, Nat.add_mul]
          · right; omega
      | ownNil _ _ hbs =>
        obtain ⟨hrun, hab, hbn⟩ := bounds_ok (P := P) (isSlice := true) (cap := 0) hb hpp rfl (Nat.le_refl _) rfl rfl h2
        have ha0 : a = 0 := by omega
        have hb0 : b = 0 := by omega
        subst ha0; subst hb0
        refine ⟨rfl, _, fun dst type pos after guard => run _ _ _ _ _ hρ hrun .., ?_⟩
        simpa [subLo, addLo] using Rep.ownNil (w := w) (B := B) _ _ hbs
    · cases he
  · cases he

theorem sliceArr_ok {x : Operand} {t el : TypeId} {n size : Nat} {lov hiv : Option Operand} {xs : List SV} {e : Ef} (hu : P.underlying t = some (.array n el)) (hs : sizeOf? P el = some size)
    (he : eSliceArr hp n size lov.isSome hiv.isSome xs = some e) (hpre : e.pre) (hx : RepL w bs B xs ((x :: (lov.toList ++ hiv.toList)).map ρ)) (hH : Hp w bs B hp) : QOk P ρ (.slice t x lov hiv none) w bs B e := by
  unfold eSliceArr at he
  split at he
  · rename_i jj hl1 hl2
    cases lov with
    | some _ => simp at hl1
    | none =>
    cases hiv with
    | some _ => simp at hl2
    | none =>
    have h3 := one1 (x := x) (by simpa using hx)
    obtain ⟨b, m, hb, hv⟩ := h3.ptr_inv
    split at he
    · rename_i hg
      cases pure1_inv he
      obtain ⟨rfl, rfl⟩ := hpre
      have hent := hH.ent jj
      rw [hg] at hent
      rcases hent with ⟨h, _⟩ | ⟨b', cap, vs, T, h4, h5, h6, h7, h8, h9⟩
      · rw [hb] at h; cases h
      · rw [hb] at h4; cases h4
        refine ⟨rfl, _, fun dst type pos after guard => ?_, Rep.own _ 0 _ _ b _ _ ⟨b, 0, none⟩ hb (by omega) (.inl (by simp))⟩
        simp [execOp, Instr.sliceAt, run_underlying hu, hv, Instr.sureAddr, Instr.sliceBounds, run_sizeOf hs, add_none]
    · cases he
  · cases he

theorem mkfn_ok {fn : Fn} {fs cs : Array Operand} {xs : List SV} (hx : RepL w bs B xs ((fs.toList ++ cs.toList).map ρ)) :
    QOk P ρ (.makeFunc fn fs cs) w bs B ⟨True, .fn fn (takeL fs.size xs) (dropL fs.size xs), .no⟩ := by
  refine ⟨rfl, .func fn (fs.map ρ) (cs.map ρ), fun dst type pos after guard => ?_, ?_⟩
  · simp [execOp, Instr.makeFunc]
  · have h1 := hx.take fs.size
    have h2 := hx.drop fs.size
    rw [List.map_append] at h1 h2
    have e1 : ((fs.toList.map ρ) ++ (cs.toList.map ρ)).take fs.size = fs.toList.map ρ := by simp
    have e2 : ((fs.toList.map ρ) ++ (cs.toList.map ρ)).drop fs.size = cs.toList.map ρ := by simp
    rw [e1] at h1; rw [e2] at h2
    have := Rep.fn fn _ _ _ _ h1 h2
    have e3 : (fs.toList.map ρ).toArray = fs.map ρ := by apply Array.ext'; simp
    have e4 : (cs.toList.map ρ).toArray = cs.map ρ := by apply Array.ext'; simp
    rw [e3, e4] at this
    exact this

/-! ### Building, comparing -/

theorem one_cell (y : SV) (u : Value) (hy : one y) (hr : Rep w bs B y u) : u.oneCell' = true := by
  cases hr with
  | x _ _ h => cases h <;> first | rfl | exact hy | exact hy.elim
  | optT _ _ _ => exact hy.elim
  | optF _ => exact hy.elim
  | agg _ _ _ => exact hy.elim
  | tup _ _ _ => exact hy.elim
  | _ => rfl

theorem ones_cell : ∀ (l : List SV) (us : List Value), ones l → RepL w bs B l us → ∀ u ∈ us, u.oneCell' = true := by
  intro l
  induction l with
  | nil => intro us _ hr; cases hr; simp
  | cons y l ih =>
    intro us ho hr
    obtain ⟨u, us', rfl, h1, h2⟩ := hr.cons_inv
    intro a ha
    rcases List.mem_cons.1 ha with rfl | ha
    · exact one_cell _ _ ho.1 h1
    · exact ih _ ho.2 h2 a ha

theorem asCells_ok {x : SV} {v : Value} (h : ones (asCells x)) (hx : Rep w bs B x v) : RepL w bs B (asCells x) v.cells.toList ∧ ∀ u ∈ v.cells.toList, u.oneCell' = true := by
  unfold asCells at h ⊢
  split at h
  · rename_i cs
    obtain ⟨vs, rfl, hr⟩ := hx.agg_inv
    exact ⟨by simpa [Value.cells] using hr, by simpa [Value.cells] using ones_cell _ _ h hr⟩
  · rename_i hna
    have h1 := one_cell _ _ h.1 hx
    have hc : v.cells = #[v] := by cases v <;> simp_all [Value.cells, Value.oneCell']
    rw [hc]
    refine ⟨.cons _ _ _ _ hx .nil, by simpa using h1⟩

theorem foldl_splice : ∀ (vs : List Value) (cs : Array Value) (off n : Nat), off + n + vs.length ≤ cs.size →
    ((vs.zipIdx n).foldl (fun (cs : Array Value) (x : Value × Nat) => cs.setIfInBounds (off + x.2) x.1) cs).toList = spliceV cs.toList (off + n) vs
  | [], cs, off, n, h => by simp [spliceV]
  | v :: vs, cs, off, n, h => by
    have ih := foldl_splice vs (cs.setIfInBounds (off + n) v) off (n + 1) (by simp at h ⊢; omega)
    simp only [List.zipIdx_cons, List.foldl_cons]
    rw [ih]
    simp only [List.length_cons] at h
    have hk : off + n < cs.toList.length := by simp; omega
    rw [Array.toList_setIfInBounds, show off + (n + 1) = off + n + 1 by omega]
    generalize off + n = k at hk h
    generalize cs.toList = l at hk
    have e1 : (l.set k v).take (k + 1) = l.take k ++ [v] := by
      rw [List.set_eq_take_append_cons_drop, if_pos hk, List.take_append]
      simp [List.length_take, Nat.min_eq_left (Nat.le_of_lt hk)]
      exact List.take_of_length_le (by simp; omega)
    have e2 : (l.set k v).drop (k + 1 + vs.length) = l.drop (k + (vs.length + 1)) := by
      rw [List.set_eq_take_append_cons_drop, if_pos hk, List.drop_append]
      simp [List.length_take, Nat.min_eq_left (Nat.le_of_lt hk)]
      rw [show k + 1 + vs.length - k = vs.length + 1 by omega]
      simp only [List.drop_succ_cons, List.drop_drop]
      rw [List.drop_of_length_le (by simp; omega), List.nil_append]
      congr 1; omega
    simp [spliceV, e1, e2]

theorem splice_len {cs : List Value} {off : Nat} {vs : List Value} (h : off + vs.length ≤ cs.length) : (spliceV cs off vs).length = cs.length := by
  simp [spliceV]; omega

theorem lenL_splice : ∀ (cs : List SV) (off : Nat) (vs : List SV), lenL (spliceL cs off vs) = lenL cs
  | cs, 0, [] => by cases cs <;> rfl
  | [], 0, _ :: _ => rfl
  | [], _ + 1, _ => rfl
  | c :: cs, 0, v :: vs => by simp [spliceL, lenL, lenL_splice cs 0 vs]
  | c :: cs, n + 1, vs => by simp [spliceL, lenL, lenL_splice cs n vs]

/-- 'fill' by places and sizes. -/
theorem fill_ok {place : Nat → Option (Nat × Nat)} : ∀ {parts : List (Nat × Operand)} {pl : List (Nat × Nat)} {xs : List SV} {cs r : List SV} {cells : Array Value} {p : Prop},
    buildCells cs pl xs = some (p, r) → p → pl = parts.map (fun x => (place x.1).getD (0, 0)) → (∀ x ∈ parts, (place x.1).isSome = true) →
    RepL w bs B cs cells.toList → RepL w bs B xs (parts.map fun x => ρ x.2) →
    ∃ out, Instr.fill place cells (parts.map fun x => (x.1, ρ x.2)) = some out ∧ RepL w bs B r out.toList
  | [], pl, xs, cs, r, cells, p, h, hpp, hpl, _, hc, hx => by
    subst hpl; cases hx
    simp only [List.map_nil, buildCells, Option.some.injEq, Prod.mk.injEq] at h
    obtain ⟨_, rfl⟩ := h
    exact ⟨cells, rfl, hc⟩
  | (i, o) :: parts, pl, xs, cs, r, cells, p, h, hpp, hpl, hs, hc, hx => by
    subst hpl
    simp only [List.map_cons] at hx h ⊢
    cases hx with
    | cons x v l vs h1 h2 =>
    simp only [buildCells] at h
    obtain ⟨⟨q, r'⟩, hq, heq⟩ := Option.map_eq_some_iff.1 h
    simp only [Prod.mk.injEq] at heq
    obtain ⟨rfl, rfl⟩ := heq
    obtain ⟨hsz, hones, hoff, hqq⟩ := hpp
    have hplace := hs (i, o) (by simp)
    obtain ⟨⟨off, size⟩, hpl⟩ := Option.isSome_iff_exists.1 hplace
    simp only at hpl
    simp only [hpl, Option.getD_some] at hq hsz hoff
    obtain ⟨hcl, _⟩ := asCells_ok hones h1
    have hl1 : (ρ o).cells.size = size := by rw [← hsz, hcl.length]; simp
    have hl2 : off + (ρ o).cells.size ≤ cells.size := by rw [hl1]; rw [hc.length] at hoff; simpa using hoff
    have hsp := hc.splice off hcl (by rw [hsz]; exact hoff)
    let cells' : Array Value := (ρ o).cells.zipIdx.foldl (fun cs (c, j) => cs.setIfInBounds (off + j) c) cells
    have hf : cells'.toList = spliceV cells.toList off (ρ o).cells.toList := by
      have := foldl_splice (ρ o).cells.toList cells off 0 (by simpa using hl2)
      simp only [Nat.add_zero] at this
      rw [← this]
      simp only [cells', ← Array.foldl_toList, Array.toList_zipIdx]
    rw [← hf] at hsp
    obtain ⟨out, ho, hr⟩ := fill_ok (parts := parts) (cells := cells') hq hqq rfl (fun x hx => hs x (by simp [hx])) hsp h2
    refine ⟨out, ?_, hr⟩
    simp only [Instr.fill, hpl]
    rw [if_neg (by simp [hl1]; omega)]
    exact ho

theorem run_zeroValue {t : TypeId} {z : List SV} (h : zeroOf P t = some z) : ∃ v, (zeroValue t).run P w = .ok v w ∧ RepL w bs B z v.cells.toList := by
  unfold zeroOf at h
  obtain ⟨i, h1, h2⟩ := Option.bind_eq_some_iff.1 h
  obtain ⟨v, h3, h4⟩ := Option.map_eq_some_iff.1 h2
  refine ⟨v, by simp [zeroValue, typeInfo, h1, h3], ?_⟩
  subst h4
  have : ∀ (l : List Value), RepL w bs B (l.map cellOf) l := by
    intro l
    induction l with
    | nil => exact .nil
    | cons x l ih =>
      refine .cons _ _ _ _ (.x _ _ ?_) ih
      unfold cellOf
      split <;> constructor
  exact this _

theorem run_places {fs : List Field} {pl : List (Nat × Nat)} (h : (fs.mapM fun f => (sizeOf? P f.type).map fun s => (f.offset, s)) = some pl) :
    ((fs.mapM fun (f : Field) => Functor.map (Prod.mk f.offset) (sizeOf f.type) : Sem (List (Nat × Nat)))).run P w = .ok pl w := by
  induction fs generalizing pl with
  | nil => simp at h; subst h; simp
  | cons f fs ih =>
    simp only [List.mapM_cons, Option.bind_eq_bind, Option.pure_def] at h
    obtain ⟨a, h1, h2⟩ := Option.bind_eq_some_iff.1 h
    obtain ⟨s, h3, h4⟩ := Option.map_eq_some_iff.1 h1
    obtain ⟨pl', h5, h6⟩ := Option.bind_eq_some_iff.1 h2
    simp only [Option.some.injEq] at h6
    subst h6; subst h4
    have ih' := ih h5
    simp [List.mapM_cons, run_sizeOf h3, ih']

theorem build_ok {t : TypeId} {parts : Array (Nat × Operand)} {z : List SV} {fs : Array Field} {pl : List (Nat × Nat)} {xs : List SV} {p : Prop} {cs : List SV}
    (hz : zeroOf P t = some z) (hu : P.underlying t = some (.struct fs)) (hpl : placesOf P t = some pl) (hin : ∀ x ∈ parts.toList, x.1 < pl.length)
    (he : buildCells z (parts.toList.map fun p => pl.getD p.1 (0, 0)) xs = some (p, cs)) (hpre : p) (hx : RepL w bs B xs ((parts.toList.map (·.2)).map ρ)) :
    QOk P ρ (.build t parts) w bs B ⟨p, .agg cs, .no⟩ := by
  obtain ⟨v, hv, hr⟩ := run_zeroValue (P := P) (w := w) (bs := bs) (B := B) hz
  unfold placesOf at hpl
  simp only [hu] at hpl
  have hplaces := run_places (P := P) (w := w) hpl
  obtain ⟨out, ho, hro⟩ := fill_ok (ρ := ρ) (place := (pl.toArray[·]?)) (parts := parts.toList) (cells := v.cells) he hpre (by
      apply List.map_congr_left
      intro x hx
      simp [List.getD]) (fun x hx => by simp [hin x hx]) hr (by rw [List.map_map] at hx; exact hx)
  refine ⟨rfl, .agg out, fun dst type pos after guard => ?_, ?_⟩
  · have hm : (fs.mapM fun (f : Field) => Functor.map (Prod.mk f.offset) (sizeOf f.type) : Sem (Array (Nat × Nat))).run P w = .ok pl.toArray w := by
      rw [Array.mapM_eq_mapM_toList]
      simp [hplaces]
    have ho' : Instr.fill (fun x => pl.toArray[x]?) v.cells (Array.map (fun x => (x.fst, ρ x.snd)) parts).toList = some out := by
      rw [Array.toList_map]; exact ho
    simp only [execOp, Instr.build, bind_pure_comp, Sem.run_map, Sem.run_bind, hv, Result.andThen_ok, run_underlying hu, hm, ho', Sem.run_pure]
  · have := Rep.agg (w := w) (bs := bs) (B := B) cs out.toList hro
    simpa using this

theorem buildArr_ok {t e n s : Nat} {parts : Array (Nat × Operand)} {z : List SV} {xs : List SV} {p : Prop} {cs : List SV}
    (hz : zeroOf P t = some z) (hu : P.underlying t = some (.array n e)) (hs : sizeOf? P e = some s) (hin : ∀ x ∈ parts.toList, x.1 < ((List.range n).map fun i => (i * s, s)).length)
    (he : buildCells z (parts.toList.map fun p => ((List.range n).map fun i => (i * s, s)).getD p.1 (0, 0)) xs = some (p, cs)) (hpre : p) (hx : RepL w bs B xs ((parts.toList.map (·.2)).map ρ)) :
    QOk P ρ (.build t parts) w bs B ⟨p, .agg cs, .no⟩ := by
  obtain ⟨v, hv, hr⟩ := run_zeroValue (P := P) (w := w) (bs := bs) (B := B) hz
  obtain ⟨out, ho, hro⟩ := fill_ok (ρ := ρ) (place := fun i => some (i * s, s)) (parts := parts.toList) (cells := v.cells) he hpre (by
      apply List.map_congr_left
      intro x hx
      have := hin x hx
      simp only [List.length_map, List.length_range] at this
      simp [List.getD, this]) (fun x hx => rfl) hr (by rw [List.map_map] at hx; exact hx)
  refine ⟨rfl, .agg out, fun dst type pos after guard => ?_, ?_⟩
  · have ho' : Instr.fill (fun i => some (i * s, s)) v.cells (Array.map (fun x => (x.fst, ρ x.snd)) parts).toList = some out := by
      rw [Array.toList_map]; exact ho
    simp only [execOp, Instr.build, bind_pure_comp, Sem.run_map, Sem.run_bind, hv, Result.andThen_ok, run_underlying hu, run_sizeOf hs, ho', Sem.run_pure]
  · have := Rep.agg (w := w) (bs := bs) (B := B) cs out.toList hro
    simpa using this

theorem drop_cons {α : Type} {l : List α} {k : Nat} {x : α} {r : List α} (h : l.drop k = x :: r) : l[k]? = some x ∧ l.drop (k + 1) = r := by
  constructor
  · have : (l.drop k)[0]? = some x := by rw [h]; rfl
    simpa using this
  · rw [← List.drop_drop, h]; rfl

theorem kindOf_inv {t : TypeId} {b : Bool} (hk : kindOf P t = some b) : (b = true ∧ ∃ k, P.underlying t = some (.int k)) ∨ (b = false ∧ P.underlying t = some .bool) := by
  unfold kindOf at hk
  split at hk
  · cases hk; exact .inl ⟨rfl, _, ‹_›⟩
  · cases hk; exact .inr ⟨rfl, ‹_›⟩
  · cases hk

theorem run_part1 {t : TypeId} {l : List Value} {k : Nat} {v : Value} {b : Bool} (hk : kindOf P t = some b) (hv : l[k]? = some v) : (part t l.toArray k).run P w = .ok v w := by
  have ha : aggOf P t = some false := by
    unfold aggOf
    rcases kindOf_inv hk with ⟨_, _, h⟩ | ⟨_, h⟩ <;> simp [h]
  simp [part, run_isAgg ha, hv]

theorem eqFields_ok {d : Nat} {X Y : List Value} : ∀ {fs : List Field} {k : Nat} {ks : List Bool} {cs ds : List SV} {p : Prop} {b : Bool}, kindsOf P k fs = some ks → allEq ks cs ds = some (p, b) → p →
    RepL w bs B cs (X.drop k) → RepL w bs B ds (Y.drop k) → (Op.eqFields (d + 1) X.toArray Y.toArray fs).run P w = .ok b w
  | [], k, ks, cs, ds, p, b, hk, he, hp, _, _ => by
    simp only [kindsOf, Option.some.injEq] at hk; subst hk
    cases cs <;> cases ds <;> simp [allEq] at he
    simp [Op.eqFields, he.2]
  | f :: fs, k, ks, cs, ds, p, b, hk, he, hp, hc, hd => by
    simp only [kindsOf] at hk
    split at hk
    · rename_i hcond
      simp only [Bool.and_eq_true, beq_iff_eq, bne_iff_ne, ne_eq] at hcond
      obtain ⟨⟨h1, h2⟩, h3⟩ := hcond
      obtain ⟨kb, hkb, hk⟩ := Option.bind_eq_some_iff.1 hk
      obtain ⟨ks', hks, rfl⟩ := Option.map_eq_some_iff.1 hk
      have key : ∀ (vx vy : Value) (l r : List SV) (c b' : Bool) (q : Prop), allEq ks' l r = some (q, b') → q → b = (c && b') → X.drop k = vx :: X.drop (k + 1) → Y.drop k = vy :: Y.drop (k + 1) →
          RepL w bs B l (X.drop (k + 1)) → RepL w bs B r (Y.drop (k + 1)) → (Op.equalIn (d + 1) f.type vx vy).run P w = .ok c w →
          (Op.eqFields (d + 1) X.toArray Y.toArray (f :: fs)).run P w = .ok b w := by
        intro vx vy l r c b' q hq hqq hb hX hY hl hr hrun
        have ih := eqFields_ok (d := d) hks hq hqq hl hr
        have hX1 := (drop_cons hX).1
        have hY1 := (drop_cons hY).1
        subst hb
        simp only [Op.eqFields, ne_eq, h3, not_false_eq_true, if_true, h2, Sem.run_bind, run_part1 hkb hX1, run_part1 hkb hY1, Result.andThen_ok, hrun, Sem.run_ite, ih]
        cases c <;> simp
      cases cs with
      | nil => exact absurd he (by cases kb <;> simp [allEq])
      | cons x l =>
      cases ds with
      | nil => exact absurd he (by cases kb <;> cases x <;> simp [allEq])
      | cons y r =>
      obtain ⟨vx, l1, hX, hvx, hl1⟩ := hc.cons_inv
      obtain ⟨vy, l2, hY, hvy, hl2⟩ := hd.cons_inv
      obtain ⟨_, rfl⟩ := drop_cons hX
      obtain ⟨_, rfl⟩ := drop_cons hY
      rcases kindOf_inv hkb with ⟨rfl, ik, hu⟩ | ⟨rfl, hu⟩
      · cases x <;> cases y <;> simp only [allEq, reduceCtorEq] at he
        obtain ⟨⟨q, b'⟩, hq, he⟩ := Option.map_eq_some_iff.1 he
        simp only [Prod.mk.injEq] at he
        obtain ⟨rfl, rfl⟩ := he
        obtain ⟨rfl, hp⟩ := hp
        have hvx := hvx.int_inv; have hvy := hvy.int_inv; subst hvx; subst hvy
        refine key _ _ _ _ _ _ _ hq hp rfl hX hY hl1 hl2 ?_
        rw [run_equalIn_int w d f.type _ ik _ _ hu]
        congr 1
      · cases x <;> cases y <;> simp only [allEq, reduceCtorEq] at he
        obtain ⟨⟨q, b'⟩, hq, he⟩ := Option.map_eq_some_iff.1 he
        simp only [Prod.mk.injEq] at he
        obtain ⟨rfl, rfl⟩ := he
        have hvx := hvx.bool_inv; have hvy := hvy.bool_inv; subst hvx; subst hvy
        exact key _ _ _ _ _ _ _ hq hp rfl hX hY hl1 hl2 (run_equalIn_bool w d f.type _ _ hu)
    · cases hk

theorem eqv_ok {neg : Bool} {t yt : TypeId} {x y : Operand} {op : BinOp} {ks : List Bool} {xs : List SV} {e : Ef} (hop : op = if neg then .neq else .eql) (ht : plainAgg P t = some ks)
    (he : eEqv neg ks xs = some e) (hpre : e.pre) (hx : RepL w bs B xs ([x, y].map ρ)) : QOk P ρ (.binOp op t x y yt) w bs B e := by
  unfold eEqv at he
  split at he
  · rename_i cs ds
    obtain ⟨⟨p, b⟩, hb, he⟩ := Option.bind_eq_some_iff.1 he
    cases pure1_inv he
    obtain ⟨h1, h2⟩ := two hx
    obtain ⟨X, h1, hr1⟩ := h1.agg_inv
    obtain ⟨Y, h2, hr2⟩ := h2.agg_inv
    unfold plainAgg at ht
    split at ht
    · rename_i fs hu
      split at ht
      · rename_i hc
        simp only [Bool.and_eq_true, Bool.not_eq_true'] at hc
        have hu' : P.underlying t = some (.struct (P.fieldsOf t)) := by simp [Program.fieldsOf, hu]
        have hf : (P.fieldsOf t).toList = fs.toList := by simp [Program.fieldsOf, hu]
        have hrun := run_equalIn_struct (P := P) w 9999 t X.toArray Y.toArray hu' hc.1
        rw [hf, eqFields_ok (d := 9998) (X := X) (Y := Y) ht hb hpre (by simpa using hr1) (by simpa using hr2)] at hrun
        have hg := run_eqGuard_agg (P := P) w op t x y X.toArray Y.toArray hc.2
        cases neg <;> subst hop
        · refine ⟨rfl, .bool b, fun dst type pos after guard => ?_, .x _ _ (.bool _)⟩
          simp only [if_false, Bool.false_eq_true] at hg ⊢
          simp [execOp, h1, h2, hg, run_eql_struct, hrun]
        · refine ⟨rfl, .bool (!b), fun dst type pos after guard => ?_, .x _ _ (.bool _)⟩
          simp only [if_true] at hg ⊢
          simp [execOp, h1, h2, hg, run_neq_struct, hrun]
      · cases ht
    · cases ht
  · cases he

theorem run_eqInSliceNil (d : Nat) (t el : TypeId) (a : Option Addr) (l c : Nat) (h : P.underlying t = some (.slice el)) : (Op.equalIn (d + 1) t (.slice a l c) (.slice none 0 0)).run P w = .ok a.isNone w := by
  cases a <;> simp [Op.equalIn, run_underlying h]
theorem run_eqSliceNil (t el : TypeId) (a : Option Addr) (l c : Nat) (h : P.underlying t = some (.slice el)) : (Op.equal t (.slice a l c) (.slice none 0 0)).run P w = .ok a.isNone w := run_eqInSliceNil 9999 t el a l c h

theorem nil_ok {neg : Bool} {t yt : TypeId} {x : Operand} {op : BinOp} {xs : List SV} {e : Ef} (hop : op = if neg then .neq else .eql) (ht : sliceType P t = true)
    (he : eNil hp neg xs = some e) (hρ : ∀ v, ρ (.const v) = v) (hx : RepL w bs B xs ([x, .const (.slice none 0 0)].map ρ)) (hH : Hp w bs B hp) : QOk P ρ (.binOp op t x (.const (.slice none 0 0)) yt) w bs B e := by
  have hu : ∃ el, P.underlying t = some (.slice el) := by
    unfold sliceType at ht; split at ht
    · exact ⟨_, ‹_›⟩
    · cases ht
  obtain ⟨el, hu⟩ := hu
  have run (a : Option Addr) (n c : Nat) (h : ρ x = .slice a n c) : ∀ dst type pos after guard, (execOp ρ ⟨dst, .binOp op t x (.const (.slice none 0 0)) yt, type, pos, after, guard⟩).run P w =
      .ok (.value (.bool (negIf neg a.isNone))) w := by
    intro dst type pos after guard
    have hr := run_eqSliceNil (P := P) (w := w) t el a n c hu
    cases neg <;> subst hop <;> simp [execOp, h, hρ, eqGuard, binOp, hr, negIf]
  unfold eNil at he
  split at he
  · rename_i y
    obtain ⟨h1, _⟩ := two hx
    split at he
    · cases pure1_inv he
      exact ⟨rfl, _, run _ _ _ h1.nil_inv, .x _ _ (.bool _)⟩
    · cases pure1_inv he
      cases h1 with
      | x _ _ h1 =>
        generalize hv : ρ x = v at h1
        cases h1 with
        | vs _ _ _ _ _ a cap vals hz hc hn hcell h =>
          subst hz
          exact ⟨rfl, _, run _ _ _ hv, .x _ _ (.bool _)⟩
    · rename_i i lo n sz
      split at he
      · rename_i z s' n' g hg
        cases pure1_inv he
        have hent := hH.ent i
        rw [hg] at hent
        generalize hv : ρ x = v at h1
        cases h1 with
        | x _ _ h1 => cases h1
        | own _ _ _ _ b cap m ad hbs hl ha =>
          rcases hent with ⟨h, _⟩ | ⟨_, _, _, _, _, hz, _⟩
          · rw [hbs] at h; cases h
          · subst hz
            exact ⟨rfl, _, run _ _ _ hv, .x _ _ (.bool _)⟩
        | ownNil _ _ hbs =>
          rcases hent with ⟨_, hz, _⟩ | ⟨_, _, _, _, h, _⟩
          · subst hz
            exact ⟨rfl, _, run _ _ _ hv, .x _ _ (.bool _)⟩
          · rw [hbs] at h; cases h
      · cases he
    · cases he
  · cases he

end
end Go.Vx
