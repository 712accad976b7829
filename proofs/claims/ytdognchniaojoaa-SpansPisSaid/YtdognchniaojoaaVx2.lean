/- What symbolic values and states stand for, and that this is kept while memory grows. -/
import Derived.Test.YtdognchniaojoaaVx1
set_option linter.all false
namespace Go.Vx
open Go.RowKit

/-- Of a block of the call's own: it is none; a nil slice; block number, capacity, elements that are known. -/
inductive BK where
  | gone | nil | blk (b cap n : Nat)

/-- Block b is none of the call's own. -/
def Free (bs : List BK) (b : Nat) : Prop := ∀ (i b' c n : Nat), bs[i]? = some (.blk b' c n) → b' ≠ b

theorem free_nil {b : Nat} : Free [] b := fun _ _ _ _ h => by simp at h

def Cells (w : World) (b off : Nat) (l : List Value) : Prop :=
  ∃ cs T fz, w.heap[b]? = some (.cells cs T fz) ∧ ∀ (j : Nat) (v : Value), l[j]? = some v → cs[off + j]? = some v

mutual
/-- A value that speaks of no block of the call's own: what it reads is memory that nobody writes. -/
inductive XRep (w : World) (bs : List BK) (B : Nat) : SV → Value → Prop where
  | int (k : IntKind) (n : Int) : XRep w bs B (.int k n) (.int k n)
  | bool (b : Bool) : XRep w bs B (.bool b) (.bool b)
  | val (v : Value) : XRep w bs B (.val v) v
  | nil : XRep w bs B .nil (.slice none 0 0)
  | junk (v : Value) : XRep w bs B .junk v
  | agg (cs : List SV) (vs : List Value) (h : XRepL w bs B cs vs) : XRep w bs B (.agg cs) (.agg vs.toArray)
  | tup (cs : List SV) (vs : List Value) (h : XRepL w bs B cs vs) : XRep w bs B (.tup cs) (.tuple vs.toArray)
  | fn (f : Fn) (fs cs : List SV) (us vs : List Value) (h : XRepL w bs B fs us) (h' : XRepL w bs B cs vs) : XRep w bs B (.fn f fs cs) (.func f us.toArray vs.toArray)
  | iface (t : TypeId) (x : SV) (v : Value) (h : XRep w bs B x v) : XRep w bs B (.iface t x) (.iface t v)
  | vs (t z : Bool) (n size : Nat) (get : Nat → List SV) (a : Option Addr) (cap : Nat) (vals : Nat → List Value) (hz : z = a.isNone) (hc : n ≤ cap) (hn : a = none → n = 0 ∧ cap = 0)
      (hcell : ∀ k, k < n → ∃ ad, a = some ad ∧ ad.spot = none ∧ Free bs ad.block ∧ (t = true → B ≤ ad.block) ∧ (vals k).length = size ∧ Cells w ad.block (ad.off + k * size) (vals k))
      (h : ∀ k, k < n → XRepL w bs B (get k) (vals k)) : XRep w bs B (.vs t z n size get) (.slice a n cap)
  | xp (t : Bool) (cs : List SV) (ad : Addr) (vals : List Value) (hs : ad.spot = none) (hf : Free bs ad.block) (ht : t = true → B ≤ ad.block) (hc : Cells w ad.block ad.off vals)
      (h : XRepL w bs B cs vals) : XRep w bs B (.xp t cs) (.pointer (some ad))
inductive XRepL (w : World) (bs : List BK) (B : Nat) : List SV → List Value → Prop where
  | nil : XRepL w bs B [] []
  | cons (x : SV) (v : Value) (l : List SV) (vs : List Value) (h : XRep w bs B x v) (h' : XRepL w bs B l vs) : XRepL w bs B (x :: l) (v :: vs)
end

mutual
inductive Rep (w : World) (bs : List BK) (B : Nat) : SV → Value → Prop where
  | x (s : SV) (v : Value) (h : XRep w bs B s v) : Rep w bs B s v
  | agg (cs : List SV) (vs : List Value) (h : RepL w bs B cs vs) : Rep w bs B (.agg cs) (.agg vs.toArray)
  | tup (cs : List SV) (vs : List Value) (h : RepL w bs B cs vs) : Rep w bs B (.tup cs) (.tuple vs.toArray)
  | fn (f : Fn) (fs cs : List SV) (us vs : List Value) (h : RepL w bs B fs us) (h' : RepL w bs B cs vs) : Rep w bs B (.fn f fs cs) (.func f us.toArray vs.toArray)
  | iface (t : TypeId) (x : SV) (v : Value) (h : Rep w bs B x v) : Rep w bs B (.iface t x) (.iface t v)
  | ptr (i off b n : Nat) (h : bs[i]? = some (.blk b n n)) : Rep w bs B (.ptr i off) (.pointer (some ⟨b, off, none⟩))
  | own (i lo n size b cap m : Nat) (ad : Addr) (h : bs[i]? = some (.blk b cap m)) (hl : lo + n ≤ m) (ha : ad = ⟨b, lo * size, none⟩ ∨ (cap = lo ∧ 0 < lo)) : Rep w bs B (.own i lo n size) (.slice (some ad) n (cap - lo))
  | ownNil (i size : Nat) (h : bs[i]? = some .nil) : Rep w bs B (.own i 0 0 size) (.slice none 0 0)
  | elem (i k off size b cap m : Nat) (h : bs[i]? = some (.blk b cap m)) (hk : k < m) : Rep w bs B (.elem i k off size) (.pointer (some ⟨b, k * size + off, none⟩))
  | optT (x : SV) (v : Value) (h : Rep w bs B x v) : Rep w bs B (.opt true x) v
  | optF (x : SV) : Rep w bs B (.opt false x) undef
inductive RepL (w : World) (bs : List BK) (B : Nat) : List SV → List Value → Prop where
  | nil : RepL w bs B [] []
  | cons (x : SV) (v : Value) (l : List SV) (vs : List Value) (h : Rep w bs B x v) (h' : RepL w bs B l vs) : RepL w bs B (x :: l) (v :: vs)
end

inductive RepLL (w : World) (bs : List BK) (B : Nat) : List (List SV) → List (List Value) → Prop where
  | nil : RepLL w bs B [] []
  | cons (x : List SV) (v : List Value) (l : List (List SV)) (vs : List (List Value)) (h : RepL w bs B x v) (h' : RepLL w bs B l vs) : RepLL w bs B (x :: l) (v :: vs)

/-- What a block of the call's own holds. -/
def HRep (w : World) (bs : List BK) (B : Nat) (i : Nat) : HO → Prop
  | .gone => bs[i]? = some .gone ∨ bs[i]? = none
  | .box cs => ∃ b vs T, bs[i]? = some (.blk b 0 0) ∧ w.heap[b]? = some (.cells vs T (0, 0)) ∧ RepL w bs B cs vs.toList
  | .own z size n get => (bs[i]? = some .nil ∧ z = true ∧ n = 0) ∨
      ∃ b cap vs T, bs[i]? = some (.blk b cap n) ∧ z = false ∧ w.heap[b]? = some (.cells vs T (0, 0)) ∧ vs.size = cap * size ∧ n ≤ cap ∧
        ∀ k, k < n → RepL w bs B (get k) ((vs.toList.drop (k * size)).take size)

structure Hp (w : World) (bs : List BK) (B : Nat) (hp : List HO) : Prop where
  len : bs.length = lenH hp
  ent : ∀ i, HRep w bs B i (getH hp i)
  inj : ∀ (i j b c n c' n' : Nat), bs[i]? = some (.blk b c n) → bs[j]? = some (.blk b c' n') → i = j
  lo : ∀ (i b c n : Nat), bs[i]? = some (.blk b c n) → B ≤ b ∧ b < w.heap.size

/-- The world in which a call began, and what is known of blocks that hold no cells: records of loops over functions. -/
structure Cx extends World where
  ks : List (Nat × Obj)

/-- The mark of a range over a function, among an activation's deferred calls. -/
def mark (D : Nat) : Deferred := { target := .collected D, args := #[] }

def isLp : Obj → Bool
  | .loop _ => true
  | _ => false

/-- What is known of blocks that hold no cells. 'as': the deferred calls of the activations. -/
structure Oth (w : World) (bs : List BK) (B : Nat) (ks : List (Nat × Obj)) (as : List (List Deferred)) : Prop where
  kn : ∀ x ∈ ks, B ≤ x.1 ∧ Free bs x.1 ∧ w.heap[x.1]? = some x.2 ∧ isLp x.2 = true
  nd : (ks.map (·.1)).Nodup
  ms : ∃ mss : List (List Nat), as = mss.map (·.map mark) ∧ mss.flatten.Nodup ∧ ∀ D ∈ mss.flatten, B ≤ D ∧ Free bs D ∧ w.heap[D]? = some (.deferred (some []))

/-- A state stands for temporaries, those of the callers that were entered in place, and a world. -/
def Rel (w0 : Cx) (as : List (List Deferred)) (s : S) (tmps : List Value) (saved : List (List Value)) (w : World) : Prop :=
  ∃ bs, RepL w bs w0.heap.size s.fr tmps ∧ RepLL w bs w0.heap.size s.saved saved ∧ Hp w bs w0.heap.size s.hp ∧ Below w0.heap.size w0.toWorld w ∧ Oth w bs w0.heap.size w0.ks as

/-! ### Kept -/

/-- Memory that is none of the call's own stays. -/
def Keeps (w : World) (bs : List BK) (w' : World) (bs' : List BK) : Prop :=
  ∀ b, Free bs b → ∀ o, w.heap[b]? = some o → w'.heap[b]? = some o ∧ Free bs' b

section
variable {w w' : World} {bs bs' : List BK} {B : Nat}

/-- Cells that are none of the call's own stay. -/
def KeepsC (w : World) (bs : List BK) (w' : World) (bs' : List BK) : Prop :=
  ∀ b, Free bs b → ∀ cs T fz, w.heap[b]? = some (.cells cs T fz) → w'.heap[b]? = some (.cells cs T fz) ∧ Free bs' b

theorem Keeps.c (h : Keeps w bs w' bs') : KeepsC w bs w' bs' := fun b hf _ _ _ ho => h b hf _ ho

theorem Oth.keep {ks : List (Nat × Obj)} {as : List (List Deferred)} (hk : Keeps w bs w' bs') (h : Oth w bs B ks as) : Oth w' bs' B ks as := by
  refine ⟨fun x hx => ?_, h.nd, ?_⟩
  · obtain ⟨h1, h2, h3, h4⟩ := h.kn x hx
    exact ⟨h1, (hk _ h2 _ h3).2, (hk _ h2 _ h3).1, h4⟩
  · obtain ⟨mss, h1, h2, h3⟩ := h.ms
    refine ⟨mss, h1, h2, fun D hD => ?_⟩
    obtain ⟨k1, k2, k3⟩ := h3 D hD
    exact ⟨k1, (hk _ k2 _ k3).2, (hk _ k2 _ k3).1⟩

theorem Cells.keep {b off : Nat} {l : List Value} (hk : KeepsC w bs w' bs') (hf : Free bs b) (h : Cells w b off l) : Cells w' b off l ∧ Free bs' b := by
  obtain ⟨cs, T, fz, h1, h2⟩ := h
  obtain ⟨h3, h4⟩ := hk b hf _ _ _ h1
  exact ⟨⟨cs, T, fz, h3, h2⟩, h4⟩

mutual
theorem XRep.keepC (hk : KeepsC w bs w' bs') : ∀ {s : SV} {v : Value}, XRep w bs B s v → XRep w' bs' B s v
  | _, _, .int k n => .int k n
  | _, _, .bool b => .bool b
  | _, _, .val v => .val v
  | _, _, .nil => .nil
  | _, _, .junk v => .junk v
  | _, _, .agg cs vs h => .agg cs vs (XRepL.keepC hk h)
  | _, _, .tup cs vs h => .tup cs vs (XRepL.keepC hk h)
  | _, _, .fn f fs cs us vs h h' => .fn f fs cs us vs (XRepL.keepC hk h) (XRepL.keepC hk h')
  | _, _, .iface t x v h => .iface t x v (XRep.keepC hk h)
  | _, _, .vs t z n size get a cap vals hz hc hn hcell h => .vs t z n size get a cap vals hz hc hn
      (fun k hkn => by
        obtain ⟨ad, h1, h2, h3, h4, h5, h6⟩ := hcell k hkn
        obtain ⟨h7, h8⟩ := h6.keep hk h3
        exact ⟨ad, h1, h2, h8, h4, h5, h7⟩)
      (fun k hkn => XRepL.keepC hk (h k hkn))
  | _, _, .xp t cs ad vals hs hf ht hc h => .xp t cs ad vals hs (hc.keep hk hf).2 ht (hc.keep hk hf).1 (XRepL.keepC hk h)
theorem XRepL.keepC (hk : KeepsC w bs w' bs') : ∀ {l : List SV} {vs : List Value}, XRepL w bs B l vs → XRepL w' bs' B l vs
  | _, _, .nil => .nil
  | _, _, .cons x v l vs h h' => .cons x v l vs (XRep.keepC hk h) (XRepL.keepC hk h')
end

/-- The blocks of the call's own stay, but for number 'i' where there is one. -/
def Stays (e : Option Nat) (bs bs' : List BK) : Prop := ∀ (i : Nat) (x : BK), e ≠ some i → bs[i]? = some x → x ≠ .gone → bs'[i]? = some x

def noRef (e : Option Nat) (s : SV) : Prop := ∀ i, e = some i → refs i s = false
def noRefL (e : Option Nat) (s : List SV) : Prop := ∀ i, e = some i → refsL i s = false

theorem beq_false {i j : Nat} (h : Nat.beq i j = false) : i ≠ j := Nat.ne_of_beq_eq_false h

mutual
theorem Rep.keepC {e : Option Nat} (hk : KeepsC w bs w' bs') (hb : Stays e bs bs') : ∀ {s : SV} {v : Value}, Rep w bs B s v → noRef e s → Rep w' bs' B s v
  | _, _, .x s v h, _ => .x s v (h.keepC hk)
  | _, _, .agg cs vs h, hn => .agg cs vs (RepL.keepC hk hb h (fun i hi => by have := hn i hi; simpa [refs] using this))
  | _, _, .tup cs vs h, hn => .tup cs vs (RepL.keepC hk hb h (fun i hi => by have := hn i hi; simpa [refs] using this))
  | _, _, .fn f fs cs us vs h h', hn => .fn f fs cs us vs (RepL.keepC hk hb h (fun i hi => by have := hn i hi; simp [refs] at this; exact this.1))
      (RepL.keepC hk hb h' (fun i hi => by have := hn i hi; simp [refs] at this; exact this.2))
  | _, _, .iface t x v h, hn => .iface t x v (Rep.keepC hk hb h (fun i hi => by have := hn i hi; simpa [refs] using this))
  | _, _, .ptr i off b n h, hn => .ptr i off b n (hb i _ (fun he => by have := beq_false (hn i he); exact this rfl) h (by simp))
  | _, _, .own i lo n size b cap m ad h hl ha, hn => .own i lo n size b cap m ad (hb i _ (fun he => by have := beq_false (hn i he); exact this rfl) h (by simp)) hl ha
  | _, _, .ownNil i size h, hn => .ownNil i size (hb i _ (fun he => by have := beq_false (hn i he); exact this rfl) h (by simp))
  | _, _, .elem i k off size b cap m h hkm, hn => .elem i k off size b cap m (hb i _ (fun he => by have := beq_false (hn i he); exact this rfl) h (by simp)) hkm
  | _, _, .optT x v h, hn => .optT x v (Rep.keepC hk hb h (fun i hi => by have := hn i hi; simpa [refs] using this))
  | _, _, .optF x, _ => .optF x
theorem RepL.keepC {e : Option Nat} (hk : KeepsC w bs w' bs') (hb : Stays e bs bs') : ∀ {l : List SV} {vs : List Value}, RepL w bs B l vs → noRefL e l → RepL w' bs' B l vs
  | _, _, .nil, _ => .nil
  | _, _, .cons x v l vs h h', hn => .cons x v l vs (Rep.keepC hk hb h (fun i hi => by have := hn i hi; simp [refsL] at this; exact this.1))
      (RepL.keepC hk hb h' (fun i hi => by have := hn i hi; simp [refsL] at this; exact this.2))
end

theorem noRef_none {s : SV} : noRef none s := fun _ h => by cases h
theorem noRefL_none {s : List SV} : noRefL none s := fun _ h => by cases h

theorem RepLL.keepC (hk : KeepsC w bs w' bs') (hb : Stays none bs bs') : ∀ {l : List (List SV)} {vs : List (List Value)}, RepLL w bs B l vs → RepLL w' bs' B l vs
  | _, _, .nil => .nil
  | _, _, .cons x v l vs h h' => .cons x v l vs (h.keepC hk hb noRefL_none) (RepLL.keepC hk hb h')

theorem XRep.keep (hk : Keeps w bs w' bs') {s : SV} {v : Value} (h : XRep w bs B s v) : XRep w' bs' B s v := h.keepC hk.c
theorem XRepL.keep (hk : Keeps w bs w' bs') {l : List SV} {vs : List Value} (h : XRepL w bs B l vs) : XRepL w' bs' B l vs := XRepL.keepC hk.c h
theorem Rep.keep {e : Option Nat} (hk : Keeps w bs w' bs') (hb : Stays e bs bs') {s : SV} {v : Value} (h : Rep w bs B s v) (hn : noRef e s) : Rep w' bs' B s v := h.keepC hk.c hb hn
theorem RepL.keep {e : Option Nat} (hk : Keeps w bs w' bs') (hb : Stays e bs bs') {l : List SV} {vs : List Value} (h : RepL w bs B l vs) (hn : noRefL e l) : RepL w' bs' B l vs := RepL.keepC hk.c hb h hn
theorem RepLL.keep (hk : Keeps w bs w' bs') (hb : Stays none bs bs') {l : List (List SV)} {vs : List (List Value)} (h : RepLL w bs B l vs) : RepLL w' bs' B l vs := RepLL.keepC hk.c hb h

/-! ### Forms -/

theorem XRep.int_inv {k : IntKind} {n : Int} {v : Value} (h : XRep w bs B (.int k n) v) : v = .int k n := by cases h; rfl
theorem Rep.int_inv {k : IntKind} {n : Int} {v : Value} (h : Rep w bs B (.int k n) v) : v = .int k n := by cases h with | x _ _ h => cases h; rfl
theorem Rep.bool_inv {b : Bool} {v : Value} (h : Rep w bs B (.bool b) v) : v = .bool b := by cases h with | x _ _ h => cases h; rfl
theorem Rep.val_inv {u v : Value} (h : Rep w bs B (.val u) v) : v = u := by cases h with | x _ _ h => cases h; rfl
theorem Rep.nil_inv {v : Value} (h : Rep w bs B .nil v) : v = .slice none 0 0 := by cases h with | x _ _ h => cases h; rfl

mutual
theorem XRepL.rep : ∀ {l : List SV} {vs : List Value}, XRepL w bs B l vs → RepL w bs B l vs
  | _, _, .nil => .nil
  | _, _, .cons x v l vs h h' => .cons x v l vs (.x x v h) (XRepL.rep h')
end

theorem Rep.agg_inv {cs : List SV} {v : Value} (h : Rep w bs B (.agg cs) v) : ∃ vs : List Value, v = .agg vs.toArray ∧ RepL w bs B cs vs := by
  cases h with
  | x _ _ h => cases h with | agg _ vs h => exact ⟨vs, rfl, h.rep⟩
  | agg _ vs h => exact ⟨vs, rfl, h⟩
theorem Rep.tup_inv {cs : List SV} {v : Value} (h : Rep w bs B (.tup cs) v) : ∃ vs : List Value, v = .tuple vs.toArray ∧ RepL w bs B cs vs := by
  cases h with
  | x _ _ h => cases h with | tup _ vs h => exact ⟨vs, rfl, h.rep⟩
  | tup _ vs h => exact ⟨vs, rfl, h⟩
theorem Rep.fn_inv {f : Fn} {a c : List SV} {v : Value} (h : Rep w bs B (.fn f a c) v) : ∃ us vs : List Value, v = .func f us.toArray vs.toArray ∧ RepL w bs B a us ∧ RepL w bs B c vs := by
  cases h with
  | x _ _ h => cases h with | fn _ _ _ us vs h h' => exact ⟨us, vs, rfl, h.rep, h'.rep⟩
  | fn _ _ _ us vs h h' => exact ⟨us, vs, rfl, h, h'⟩
theorem Rep.iface_inv {t : TypeId} {x : SV} {v : Value} (h : Rep w bs B (.iface t x) v) : ∃ u, v = .iface t u ∧ Rep w bs B x u := by
  cases h with
  | x _ _ h => cases h with | iface _ _ u h => exact ⟨u, rfl, .x _ _ h⟩
  | iface _ _ u h => exact ⟨u, rfl, h⟩
theorem Rep.ptr_inv {i off : Nat} {v : Value} (h : Rep w bs B (.ptr i off) v) : ∃ b n, bs[i]? = some (.blk b n n) ∧ v = .pointer (some ⟨b, off, none⟩) := by
  cases h with
  | x _ _ h => cases h
  | ptr _ _ b n h => exact ⟨b, n, h, rfl⟩
theorem Rep.elem_inv {i k off size : Nat} {v : Value} (h : Rep w bs B (.elem i k off size) v) : ∃ b c n, bs[i]? = some (.blk b c n) ∧ v = .pointer (some ⟨b, k * size + off, none⟩) ∧ k < n := by
  cases h with
  | x _ _ h => cases h
  | elem _ _ _ _ b c n h hk => exact ⟨b, c, n, h, rfl, hk⟩

theorem RepL.cons_inv {x : SV} {l : List SV} {vs : List Value} (h : RepL w bs B (x :: l) vs) : ∃ v vs', vs = v :: vs' ∧ Rep w bs B x v ∧ RepL w bs B l vs' := by
  cases h with | cons _ v _ vs h h' => exact ⟨v, vs, rfl, h, h'⟩
theorem RepL.nil_inv {vs : List Value} (h : RepL w bs B [] vs) : vs = [] := by cases h; rfl

theorem RepL.length : ∀ {l : List SV} {vs : List Value}, RepL w bs B l vs → lenL l = vs.length
  | _, _, .nil => rfl
  | _, _, .cons x v l vs h h' => by simp [lenL, RepL.length h']

theorem RepL.get : ∀ {l : List SV} {vs : List Value} (_ : RepL w bs B l vs) (n : Nat) {d : Value}, Rep w bs B (getL l n) (vs.getD n d)
  | _, _, .nil, n, d => by cases n <;> exact .x _ _ (.junk _)
  | _, _, .cons x v l vs h h', 0, d => by simpa [getL] using h
  | _, _, .cons x v l vs h h', n + 1, d => by simpa [getL] using RepL.get h' n (d := d)

theorem RepL.get? : ∀ {l : List SV} {vs : List Value} (_ : RepL w bs B l vs) (n : Nat), n < lenL l → ∃ v, vs[n]? = some v ∧ Rep w bs B (getL l n) v
  | _, _, .nil, n, h => by simp [lenL] at h
  | _, _, .cons x v l vs h h', 0, _ => ⟨v, rfl, h⟩
  | _, _, .cons x v l vs h h', n + 1, hn => by
    obtain ⟨u, h1, h2⟩ := RepL.get? h' n (by simpa [lenL] using hn)
    exact ⟨u, by simpa using h1, h2⟩

theorem RepL.set : ∀ {l : List SV} {vs : List Value} (_ : RepL w bs B l vs) (n : Nat) {x : SV} {v : Value}, Rep w bs B x v → RepL w bs B (setL l n x) (vs.set n v)
  | _, _, .nil, n, x, v, _ => by cases n <;> exact .nil
  | _, _, .cons _ _ l vs _ h', 0, x, v, hx => .cons _ _ _ _ hx h'
  | _, _, .cons y u l vs h h', n + 1, x, v, hx => .cons _ _ _ _ h (RepL.set h' n hx)

theorem RepL.take : ∀ {l : List SV} {vs : List Value} (_ : RepL w bs B l vs) (n : Nat), RepL w bs B (takeL n l) (vs.take n)
  | _, _, _, 0 => by simp only [takeL, List.take_zero]; exact .nil
  | _, _, .nil, n + 1 => by simp only [takeL, List.take_nil]; exact .nil
  | _, _, .cons x v l vs h h', n + 1 => by simp only [takeL, List.take_succ_cons]; exact .cons _ _ _ _ h (RepL.take h' n)

theorem RepL.drop : ∀ {l : List SV} {vs : List Value} (_ : RepL w bs B l vs) (n : Nat), RepL w bs B (dropL n l) (vs.drop n)
  | _, _, h, 0 => by simpa only [dropL, List.drop_zero] using h
  | _, _, .nil, n + 1 => by simp only [dropL, List.drop_nil]; exact .nil
  | _, _, .cons x v l vs h h', n + 1 => by simp only [dropL, List.drop_succ_cons]; exact RepL.drop h' n

theorem RepL.append : ∀ {l r : List SV} {vs us : List Value}, RepL w bs B l vs → RepL w bs B r us → RepL w bs B (l ++ r) (vs ++ us)
  | _, _, _, _, .nil, h => h
  | _, _, _, _, .cons x v l vs h h', hr => .cons _ _ _ _ h (RepL.append h' hr)

/-- A list with a part written over. -/
def spliceV (cs : List Value) (off : Nat) (vs : List Value) : List Value := cs.take off ++ vs ++ cs.drop (off + vs.length)

theorem RepL.splice : ∀ {l : List SV} {cs : List Value} (_ : RepL w bs B l cs) (off : Nat) {xs : List SV} {vs : List Value} (_ : RepL w bs B xs vs), off + lenL xs ≤ lenL l →
    RepL w bs B (spliceL l off xs) (spliceV cs off vs)
  | l, _, h, 0, _, _, .nil, _ => by cases l <;> simpa [spliceL, spliceV] using h
  | _, _, .nil, 0, _, _, .cons .., hl => by simp [lenL] at hl
  | _, _, .cons x v l cs h h', 0, _, _, .cons y u xs vs hy hx, hl => by
    have := RepL.splice h' 0 hx (by simpa [lenL] using hl)
    simpa [spliceL, spliceV] using RepL.cons y u _ _ hy (by simpa [spliceV] using this)
  | _, _, .nil, n + 1, _, _, hx, hl => by simp [lenL] at hl
  | _, _, .cons x v l cs h h', n + 1, xs, vs, hx, hl => by
    have := RepL.splice h' n hx (by simp [lenL] at hl ⊢; omega)
    have e : n + 1 + vs.length = (n + vs.length) + 1 := by omega
    simpa [spliceL, spliceV, e] using RepL.cons x v _ _ h (by simpa [spliceV] using this)

theorem XRepL.length : ∀ {l : List SV} {vs : List Value}, XRepL w bs B l vs → lenL l = vs.length
  | _, _, .nil => rfl
  | _, _, .cons x v l vs h h' => by simp [lenL, XRepL.length h']

theorem XRepL.drop : ∀ {l : List SV} {vs : List Value} (_ : XRepL w bs B l vs) (n : Nat), XRepL w bs B (dropL n l) (vs.drop n)
  | _, _, h, 0 => by simpa only [dropL, List.drop_zero] using h
  | _, _, .nil, n + 1 => by simp only [dropL, List.drop_nil]; exact .nil
  | _, _, .cons x v l vs h h', n + 1 => by simp only [dropL, List.drop_succ_cons]; exact XRepL.drop h' n

theorem Hp.le {hp : List HO} {i b cap m : Nat} (h : Hp w bs B hp) (hb : bs[i]? = some (.blk b cap m)) : m ≤ cap := by
  have hent := h.ent i
  cases hg : getH hp i with
  | gone => rw [hg] at hent; rcases hent with h | h <;> rw [hb] at h <;> cases h
  | box cs => rw [hg] at hent; obtain ⟨_, _, _, h, _⟩ := hent; rw [hb] at h; cases h; exact Nat.le_refl _
  | own z s n' g =>
    rw [hg] at hent
    rcases hent with ⟨h, _⟩ | ⟨_, _, _, _, h, _, _, _, h5, _⟩
    · rw [hb] at h; cases h
    · rw [hb] at h; cases h; exact h5

end
end Go.Vx
