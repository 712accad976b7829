/- One state covers another one. -/
import Derived.Test.YtdognchniaojoaaVx7
set_option linter.all false
namespace Go.Vx
open Go.RowKit
section
variable {w : World} {bs bs' : List BK} {B m n : Nat}

structure Cut (bs bs' : List BK) (m n : Nat) : Prop where
  len : bs.length = m
  len' : bs'.length = n
  old : ∀ (i : Nat) (x : BK), i < n → bs[i]? = some x → bs'[i]? = some x
  ghost : ∀ i, m ≤ i → i < n → bs'[i]? = some .nil

theorem Cut.blk (h : Cut bs bs' m n) {i b c k : Nat} (hi : bs'[i]? = some (.blk b c k)) : bs[i]? = some (.blk b c k) := by
  have hin : i < n := by rw [← h.len']; exact (List.getElem?_eq_some_iff.1 hi).1
  rcases Nat.lt_or_ge i m with hm | hm
  · have : i < bs.length := by rw [h.len]; exact hm
    obtain ⟨x, hx⟩ : ∃ x, bs[i]? = some x := ⟨bs[i], by simp⟩
    have h2 := h.old i x hin hx
    rw [hi] at h2; cases h2; exact hx
  · rw [h.ghost i hm hin] at hi; cases hi

theorem Cut.free (h : Cut bs bs' m n) {b : Nat} (hf : Free bs b) : Free bs' b := fun i b' c k hi => hf i b' c k (h.blk hi)

theorem Cut.keeps (h : Cut bs bs' m n) : Keeps w bs w bs' := fun _ hf _ ho => ⟨ho, h.free hf⟩

mutual
theorem bnd_ok (hc : Cut bs bs' m n) : ∀ {s : SV} {v : Value}, Rep w bs B s v → bnd n s → Rep w bs' B s v
  | _, _, .x s v h, _ => .x s v (h.keep hc.keeps)
  | _, _, .agg cs vs h, hb => .agg cs vs (bndL_ok hc h hb)
  | _, _, .tup cs vs h, hb => .tup cs vs (bndL_ok hc h hb)
  | _, _, .fn f fs cs us vs h h', hb => .fn f fs cs us vs (bndL_ok hc h hb.1) (bndL_ok hc h' hb.2)
  | _, _, .iface t x v h, hb => .iface t x v (bnd_ok hc h hb)
  | _, _, .ptr i off b n h, hb => .ptr i off b n (hc.old _ _ hb h)
  | _, _, .own i lo n size b cap m ad h hl ha, hb => .own i lo n size b cap m ad (hc.old _ _ hb h) hl ha
  | _, _, .ownNil i size h, hb => .ownNil i size (hc.old _ _ hb h)
  | _, _, .elem i k off size b cap m h hk, hb => .elem i k off size b cap m (hc.old _ _ hb h) hk
  | _, _, .optT x v h, hb => .optT x v (bnd_ok hc h hb)
  | _, _, .optF x, _ => .optF x
theorem bndL_ok (hc : Cut bs bs' m n) : ∀ {l : List SV} {vs : List Value}, RepL w bs B l vs → bndL n l → RepL w bs' B l vs
  | _, _, .nil, _ => .nil
  | _, _, .cons x v l vs h h', hb => .cons _ _ _ _ (bnd_ok hc h hb.1) (bndL_ok hc h' hb.2)
end

mutual
theorem leX_ok : ∀ {a : SV} {v : Value}, XRep w bs B a v → ∀ (b : SV), leX a b → XRep w bs B b v
  | _, _, .int k n, b, h => by cases b <;> first | exact .junk _ | (obtain ⟨rfl, rfl⟩ := h; exact .int _ _) | cases h
  | _, _, .bool c, b, h => by cases b <;> first | exact .junk _ | (cases h; done) | (cases h; exact .bool _)
  | _, _, .val v, b, h => by cases b <;> first | exact .junk _ | (cases h; done) | (cases h; exact .val _)
  | _, _, .nil, b, h => by
    cases b <;> first | exact .junk _ | (cases h; exact .nil) | (obtain ⟨rfl, rfl⟩ := h; exact .vs _ _ _ _ _ none 0 (fun _ => []) rfl (Nat.le_refl _) (fun _ => ⟨rfl, rfl⟩) (fun k hk => by omega) (fun k hk => by omega)) | cases h
  | _, _, .junk v, b, h => by cases b <;> first | exact .junk _ | cases h
  | _, _, .agg cs vs hl, b, h => by
    cases b with
    | agg ds => exact .agg _ _ (leXL_ok hl ds h)
    | junk => exact .junk _
    | _ => cases h
  | _, _, .tup cs vs hl, b, h => by
    cases b with
    | tup ds => exact .tup _ _ (leXL_ok hl ds h)
    | junk => exact .junk _
    | _ => cases h
  | _, _, .fn f fs cs us vs h1 h2, b, h => by cases b <;> first | exact .junk _ | (cases h; done) | (cases h; exact .fn f fs cs us vs h1 h2)
  | _, _, .iface t x v h1, b, h => by cases b <;> first | exact .junk _ | (cases h; done) | (cases h; exact .iface t x v h1)
  | _, _, .vs t z n size get a cap vals hz hcap hn hcell hh, b, h => by
    cases b with
    | vs t' z' l' sz' get' =>
      obtain ⟨h1, rfl, rfl, rfl, h5⟩ := h
      refine .vs _ _ _ _ _ a cap vals hz hcap hn (fun k hk => ?_) (fun k hk => leXL_ok (hh k hk) (get' k) (h5 k hk))
      obtain ⟨ad, e1, e2, e3, e4, e5, e6⟩ := hcell k hk
      exact ⟨ad, e1, e2, e3, fun ht => e4 (h1 ht), e5, e6⟩
    | junk => exact .junk _
    | _ => cases h
  | _, _, .xp t cs ad vals hs hf ht hcc hh, b, h => by
    cases b with
    | xp t' ds => exact .xp _ _ ad vals hs hf (fun ht' => ht (h.1 ht')) hcc (leXL_ok hh ds h.2)
    | junk => exact .junk _
    | _ => cases h
theorem leXL_ok : ∀ {a : List SV} {v : List Value}, XRepL w bs B a v → ∀ (b : List SV), leXL a b → XRepL w bs B b v
  | _, _, .nil, b, h => by
    cases b with
    | nil => exact .nil
    | cons _ _ => cases h
  | _, _, .cons x v l vs h1 h2, b, h => by
    cases b with
    | nil => cases h
    | cons y r => exact .cons _ _ _ _ (leX_ok h1 y h.1) (leXL_ok h2 r h.2)
end

mutual
theorem leX_self : ∀ (a : SV), leX a a
  | .int k n => ⟨rfl, rfl⟩
  | .bool b => rfl
  | .val v => rfl
  | .nil => rfl
  | .agg cs => leXL_self cs
  | .tup cs => leXL_self cs
  | .vs t z l sz get => ⟨id, rfl, rfl, rfl, fun k _ => leXL_self (get k)⟩
  | .xp t cs => ⟨id, leXL_self cs⟩
  | .ptr i off => rfl
  | .own .. => rfl
  | .elem .. => rfl
  | .fn .. => rfl
  | .iface .. => rfl
  | .opt .. => rfl
  | .junk => trivial
theorem leXL_self : ∀ (a : List SV), leXL a a
  | [] => trivial
  | x :: l => ⟨leX_self x, leXL_self l⟩
end

theorem leXL_eq {a b : List SV} (h : a = b) : leXL a b := h ▸ leXL_self a

mutual
theorem le_ok (hc : Cut bs bs' m n) : ∀ (a b : SV) {v : Value}, le m n a b → Rep w bs B a v → Rep w bs' B b v := by
  intro a b v h hr
  unfold le at h
  split at h
  · exact .x _ _ (.junk _)
  · obtain ⟨rfl, rfl⟩ := h; rw [hr.int_inv]; exact .x _ _ (.int _ _)
  · subst h; rw [hr.bool_inv]; exact .x _ _ (.bool _)
  · obtain ⟨h1, h2, rfl, rfl⟩ := h; rw [hr.nil_inv]; exact .ownNil _ _ (hc.ghost _ h1 h2)
  · obtain ⟨rfl, rfl⟩ := h; rw [hr.nil_inv]
    exact .x _ _ (.vs _ _ _ _ _ none 0 (fun _ => []) rfl (Nat.le_refl _) (fun _ => ⟨rfl, rfl⟩) (fun k hk => by omega) (fun k hk => by omega))
  · rename_i cs ds
    obtain ⟨vs, rfl, hl⟩ := hr.agg_inv
    exact .agg _ _ (leL_ok hc cs ds h hl)
  · rename_i cs ds
    obtain ⟨vs, rfl, hl⟩ := hr.tup_inv
    exact .tup _ _ (leL_ok hc cs ds h hl)
  · obtain ⟨h1, rfl, rfl, rfl, h5⟩ := h
    cases hr with
    | x _ _ hr =>
      have hr := hr.keep (hc.keeps (w := w))
      cases hr with
      | vs _ _ _ _ _ a cap vals hz hcap hn hcell hh =>
        refine .x _ _ (.vs _ _ _ _ _ a cap vals hz hcap hn (fun k hk => ?_) (fun k hk => leXL_ok (hh k hk) _ (h5 k hk)))
        obtain ⟨ad, e1, e2, e3, e4, e5, e6⟩ := hcell k hk
        exact ⟨ad, e1, e2, e3, fun ht => e4 (h1 ht), e5, e6⟩
  · obtain ⟨rfl, rfl, rfl, rfl, h5⟩ := h
    exact bnd_ok hc hr h5
  · obtain ⟨h1, h2⟩ := h
    cases hr with
    | x _ _ hr =>
      have hr := hr.keep (hc.keeps (w := w))
      cases hr with
      | xp _ _ ad vals hs hf ht hcc hh => exact .x _ _ (.xp _ _ ad vals hs hf (fun h => ht (h1 h)) hcc (leXL_ok hh _ h2))
  · obtain ⟨rfl, h2⟩ := h
    exact bnd_ok hc hr h2
theorem leL_ok (hc : Cut bs bs' m n) : ∀ (a b : List SV) {v : List Value}, leL m n a b → RepL w bs B a v → RepL w bs' B b v := by
  intro a b v h hr
  unfold leL at h
  split at h
  · cases hr; exact .nil
  · rename_i x l y r
    obtain ⟨u, us, rfl, h1, h2⟩ := hr.cons_inv
    exact .cons _ _ _ _ (le_ok hc x y h.1 h1) (leL_ok hc l r h.2 h2)
  · cases h
end

theorem leLL_ok (hc : Cut bs bs' m n) : ∀ (a b : List (List SV)) {v : List (List Value)}, leLL m n a b → RepLL w bs B a v → RepLL w bs' B b v
  | [], [], _, _, hr => by cases hr; exact .nil
  | x :: l, y :: r, _, h, .cons _ v _ vs h1 h2 => .cons _ _ _ _ (leL_ok hc x y h.1 h1) (leLL_ok hc l r h.2 h2)
  | [], _ :: _, _, h, _ => h.elim
  | _ :: _, [], _, h, _ => h.elim

theorem leH_cons {x y : HO} {l r : List HO} : leH m n (x :: l) (y :: r) = (leH1 m n x y ∧ leH m n l r) := by cases y <;> rfl

theorem leH_get : ∀ (a b : List HO), leH m n a b → ∀ i, i < lenH b → (i < lenH a ∧ leH1 m n (getH a i) (getH b i)) ∨ (lenH a ≤ i ∧ ∃ z sz l get, getH b i = .own z sz l get ∧ z = true ∧ l = 0)
  | _, [], _, i, hi => by simp [lenH] at hi
  | [], .own z sz l get :: r, h, 0, _ => .inr ⟨Nat.zero_le _, z, sz, l, get, rfl, h.1, h.2.1⟩
  | [], .own z sz l get :: r, h, i + 1, hi => by
    rcases leH_get [] r h.2.2 i (by simpa [lenH] using hi) with h1 | ⟨_, h2⟩
    · simp [lenH] at h1
    · exact .inr ⟨Nat.zero_le _, h2⟩
  | [], .box _ :: _, h, _, _ => h.elim
  | [], .gone :: _, h, _, _ => h.elim
  | x :: l, y :: r, h, 0, _ => .inl ⟨by simp [lenH], (leH_cons ▸ h : leH1 m n x y ∧ leH m n l r).1⟩
  | x :: l, y :: r, h, i + 1, hi => by
    rcases leH_get l r (leH_cons ▸ h : leH1 m n x y ∧ leH m n l r).2 i (by simpa [lenH] using hi) with ⟨h1, h2⟩ | ⟨h1, h2⟩
    · exact .inl ⟨by simpa [lenH] using h1, h2⟩
    · exact .inr ⟨by simpa [lenH] using h1, h2⟩

theorem leS_ok {w0 : Cx} {as : List (List Deferred)} {s s' : S} {tmps : List Value} {saved : List (List Value)} (h : leS s s') (hr : Rel w0 as s tmps saved w) : Rel w0 as s' tmps saved w := by
  obtain ⟨bs, h1, h2, hH, hb, ho⟩ := hr
  obtain ⟨l1, l2, l3⟩ := h
  let bs' := bs.take (lenH s'.hp) ++ List.replicate (lenH s'.hp - lenH s.hp) .nil
  have hlen := hH.len
  have hc : Cut bs bs' (lenH s.hp) (lenH s'.hp) := by
    refine ⟨hlen, by simp [bs', hlen]; omega, fun i x hi hx => ?_, fun i h1 h2 => ?_⟩
    · have : i < bs.length := (List.getElem?_eq_some_iff.1 hx).1
      simp only [bs']
      rw [List.getElem?_append_left (by simp; omega), List.getElem?_take, if_pos hi]; exact hx
    · simp only [bs']
      rw [List.getElem?_append_right (by simp; omega), List.getElem?_replicate, if_pos (by simp; omega)]
  refine ⟨bs', leL_ok hc _ _ l1 h1, leLL_ok hc _ _ l2 h2, ⟨hc.len', fun i => ?_, fun i j b c k c' k' e1 e2 => hH.inj i j b c k c' k' (hc.blk e1) (hc.blk e2), fun i b c k e1 => hH.lo i b c k (hc.blk e1)⟩, hb, ho.keep hc.keeps⟩
  rcases Nat.lt_or_ge i (lenH s'.hp) with hi | hi
  · rcases leH_get _ _ l3 i hi with ⟨g1, g2⟩ | ⟨g1, z, sz, l, get, g2, rfl, rfl⟩
    · have hent := hH.ent i
      have hx : ∀ x, bs[i]? = some x → bs'[i]? = some x := fun x hx => hc.old i x hi hx
      cases ha : getH s.hp i <;> cases hbb : getH s'.hp i <;> rw [ha, hbb] at g2 <;> simp only [leH1] at g2
      · rw [ha] at hent
        obtain ⟨b, vs, T, e1, e2, e3⟩ := hent
        exact ⟨b, vs, T, hx _ e1, e2, leL_ok hc _ _ g2 e3⟩
      · obtain ⟨rfl, rfl, rfl, g3⟩ := g2
        rw [ha] at hent
        rcases hent with ⟨e1, e2, e3⟩ | ⟨b, cap, vs, T, e1, e2, e3, e4, e5, e6⟩
        · exact .inl ⟨hx _ e1, e2, e3⟩
        · exact .inr ⟨b, cap, vs, T, hx _ e1, e2, e3, e4, e5, fun k hk => leL_ok hc _ _ (g3 k hk) (e6 k hk)⟩
      · rw [ha] at hent
        rcases hent with e | e
        · exact .inl (hx _ e)
        · rw [List.getElem?_eq_none_iff, hlen] at e; omega
    · rw [g2]; exact .inl ⟨hc.ghost i g1 hi, rfl, rfl⟩
  · rw [getH_ge _ _ hi]
    right
    rw [List.getElem?_eq_none_iff, hc.len']; exact hi

end
end Go.Vx
