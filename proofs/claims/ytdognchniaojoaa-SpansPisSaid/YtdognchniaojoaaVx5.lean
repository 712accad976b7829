/- append, make, slices written out. -/
import Derived.Test.YtdognchniaojoaaVx4
set_option linter.all false
namespace Go.Vx
open Go.RowKit
section
variable {P : Program} {ρ : Operand → Value} {w w' : World} {bs bs' : List BK} {B : Nat} {hp : List HO}

theorem args2 {c : Call} {x y : Operand} (h : c.args.toList = [x, y]) : c.args.map ρ = #[ρ x, ρ y] := by
  apply Array.ext'; rw [Array.toList_map, h]; rfl

theorem rowV_take {l : List Value} {size : Nat} : ∀ (n : Nat), rowV (fun k => (l.drop (k * size)).take size) n = l.take (n * size)
  | 0 => by simp [rowV]
  | n + 1 => by rw [rowV, rowV_take n, Nat.succ_mul, List.take_add]

theorem drew_keeps : Keeps w bs w.drew bs := Keeps.heap rfl

theorem row_rep {f g : Nat → List Value} {size n m : Nat} (hf : ∀ k, k < n → (f k).length = size) (hg : ∀ k, k < m → (g k).length = size) {rest : List Value} {k : Nat} (hk : k < n + m) :
    ((rowV f n ++ rowV g m ++ rest).drop (k * size)).take size = if k < n then f k else g (k - n) := by
  have hl1 := rowV_len hf
  have hl2 := rowV_len hg
  by_cases h : k < n
  · rw [if_pos h]
    have : k * size + size ≤ n * size := by rw [← Nat.succ_mul]; exact Nat.mul_le_mul_right _ h
    rw [List.append_assoc, List.drop_append_of_le_length (by omega), List.take_append_of_le_length (by simp; omega)]
    exact rowV_chunk hf k h
  · rw [if_neg h]
    obtain ⟨j, rfl⟩ : ∃ j, k = n + j := ⟨k - n, by omega⟩
    have hj : j < m := by omega
    have : j * size + size ≤ m * size := by rw [← Nat.succ_mul]; exact Nat.mul_le_mul_right _ hj
    rw [List.append_assoc, Nat.add_mul, ← hl1, ← List.drop_drop, List.drop_left, List.drop_append_of_le_length (by omega), List.take_append_of_le_length (by simp; omega), Nat.add_sub_cancel_left]
    exact rowV_chunk hg j hj

theorem row_len {f g : Nat → List Value} {size n m nc : Nat} (hf : ∀ k, k < n → (f k).length = size) (hg : ∀ k, k < m → (g k).length = size) {rest : List Value} (hr : rest.length = (nc - (n + m)) * size) (hnc : n + m ≤ nc) :
    (rowV f n ++ rowV g m ++ rest).length = nc * size := by
  simp only [List.length_append, rowV_len hf, rowV_len hg, hr]
  rw [← Nat.add_mul, ← Nat.add_mul]; congr 1; omega

/-- What stands in a new block behind an append that must grow. -/
theorem grow_own {wd : World} {f g : Nat → List Value} {fx gx : Nat → List SV} {size n m nc i : Nat} {el : TypeId} {arr : Array Value}
    (hf : ∀ k, k < n → (f k).length = size) (hg : ∀ k, k < m → (g k).length = size) {rest : List Value} (hr : rest.length = (nc - (n + m)) * size) (hnc : n + m ≤ nc)
    (harr : arr.toList = rowV f n ++ rowV g m ++ rest) (hb : bs'[i]? = some (.blk wd.heap.size nc (n + m)))
    (hfx : ∀ k, k < n → RepL (World.push wd (.cells arr el (0, 0))) bs' B (fx k) (f k)) (hgx : ∀ k, k < m → RepL (World.push wd (.cells arr el (0, 0))) bs' B (gx k) (g k)) (z : Bool) (hz : z = false) :
    HRep (World.push wd (.cells arr el (0, 0))) bs' B i (.own z size (n + m) fun k => if k < n then fx k else gx (k - n)) := by
  refine Or.inr ⟨_, nc, arr, el, hb, hz, push_new, ?_, hnc, fun k hk => ?_⟩
  · rw [← Array.length_toList, harr, row_len hf hg hr hnc]
  · rw [harr, row_rep hf hg hk]
    by_cases h : k < n
    · simp only [h, if_true]; exact hfx k h
    · simp only [h, if_false]; exact hgx (k - n) (by omega)

theorem append_nil_ok {c : Call} {x y : Operand} {t1 t2 el el2 : TypeId} {size bytes m : Nat} {z : List SV} {b : SV} {gx : Nat → List SV}
    (hc : c.callee = .builtin .append) (ht1 : c.argTypes[0]? = some t1) (ht2 : c.argTypes[1]? = some t2) (hu1 : P.underlying t1 = some (.slice el)) (hu2 : P.underlying t2 = some (.slice el2))
    (hs : sizeOf? P el = some size) (hby : bytesOf? P el = some bytes) (hz : zeroOf P el = some z) (hzl : z.length = size) (hb0 : 0 < bytes) (hs0 : 0 < size) (hargs : c.args.toList = [x, y])
    (hr : readS hp b = some (m, gx)) (hcap : capOk m bytes) (hl : ∀ k, k < m → lenL (gx k) = size ∧ ones (gx k)) (ha : ρ x = .slice none 0 0) (hb : Rep w bs B b (ρ y)) (hH : Hp w bs B hp) (hB : B ≤ w.heap.size) (p : Prop) :
    MOk P ρ (.call c) w bs B hp ⟨p, .own (lenH hp) 0 m size, .new (.own (decide (m = 0)) size m gx)⟩ := by
  have hA := args2 (ρ := ρ) hargs
  by_cases hm : m = 0
  · subst hm
    obtain ⟨ax, cx, g, hv, _⟩ := readS_ok (P := P) hr hs0 hl hb hH
    rw [ha, hv] at hA
    have hrun := append_nil0 hc ht1 ht2 hu1 hu2 hs hA (w := w)
    refine ⟨_, .slice none 0 0, w, bs ++ [.nil], hrun, .inl rfl, .ownNil _ _ (last_get hH), new_hp_nil hH (by simp) rfl, keeps_nil, push_stays _ _, Below.refl _ _⟩
  · have hheap : w.drew.heap = w.heap := rfl
    have hbel : Below B w w.drew := (Below.refl B w).drew
    have hgr : ∀ {ax cx} {arr : Array Value}, c.args.map ρ = #[.slice none 0 0, .slice ax m cx] → (Builtin.firstCells size m (.slice ax m cx)).run P w.drew = .ok arr w.drew → _ :=
      fun {ax cx arr} h1 h2 => append_grow (w := w) (ρ := ρ) (ty := t1) (va := ρ x) (vx := ρ y) (n := 0) (cap := 0) (a := none) hc ht1 ht2 hu1 hu2 hs hby hz hzl hb0 hs0 h1 (by simpa using hcap) (by omega) (old := #[]) (new := arr) rfl h2
    have hbd : Rep w.drew bs B b (ρ y) := hb.keep drew_keeps Stays.refl noRef_none
    generalize w.drew = wd at *
    have hHd : Hp wd bs B hp := hH.heap_eq hheap
    obtain ⟨ax, cx, g, hv, hgl, hgrr, hone, arr, harr, harrl⟩ := readS_ok (P := P) hr hs0 hl hbd hHd
    rw [ha, hv] at hA
    rw [hv] at harr
    obtain ⟨nc, rest, hnc, hrun, hrest⟩ := hgr hA harr
    rw [Nat.zero_add] at hnc hrun
    have hkp := push_keeps (w := wd) (bs := bs) (#[] ++ arr ++ rest) el nc m
    have hlast : (bs ++ [BK.blk wd.heap.size nc m])[lenH hp]? = some (.blk wd.heap.size nc m) := last_get hH
    have hown := grow_own (wd := wd) (bs' := bs ++ [.blk wd.heap.size nc m]) (B := B) (f := fun _ => []) (g := g) (fx := fun _ => []) (gx := gx) (size := size) (n := 0) (m := m) (nc := nc) (i := lenH hp) (el := el) (arr := #[] ++ arr ++ rest) (rest := rest.toList)
      (fun k hk => by omega) hgl (by simpa using hrest) (by omega) (by simp only [Array.toList_append, harrl]; rfl) (by rw [Nat.zero_add]; exact hlast) (fun k hk => by omega) (fun k hk => (hgrr k hk).keep hkp (push_stays _ _) noRefL_none) (decide (m = 0)) (by simp [hm])
    simp only [Nat.zero_add, Nat.not_lt_zero, if_false, Nat.sub_zero] at hown
    refine ⟨_, _, _, bs ++ [.blk wd.heap.size nc m], hrun, .inl rfl, ?_, new_hp hHd (by rw [hheap]; exact hB) hown, ?_, push_stays _ _, ?_⟩
    · rw [hheap] at hlast
      have := Rep.own (w := World.push wd (.cells (#[] ++ arr ++ rest) el (0, 0))) (B := B) (lenH hp) 0 m size _ nc m ⟨w.heap.size, 0, none⟩ (hheap ▸ hlast) (by omega) (.inl (by simp [hheap]))
      simpa [hheap] using this
    · exact fun b hf o ho => hkp b hf o (by rw [hheap]; exact ho)
    · exact hbel.trans (push_below _ (by rw [hheap]; exact hB))

theorem append_own_ok {c : Call} {x y : Operand} {t1 t2 el el2 : TypeId} {size bytes m i n n' : Nat} {z : List SV} {b : SV} {gx get : Nat → List SV} {zb : Bool}
    (hc : c.callee = .builtin .append) (ht1 : c.argTypes[0]? = some t1) (ht2 : c.argTypes[1]? = some t2) (hu1 : P.underlying t1 = some (.slice el)) (hu2 : P.underlying t2 = some (.slice el2))
    (hs : sizeOf? P el = some size) (hby : bytesOf? P el = some bytes) (hz : zeroOf P el = some z) (hzl : z.length = size) (hb0 : 0 < bytes) (hs0 : 0 < size) (hargs : c.args.toList = [x, y])
    (hr : readS hp b = some (m, gx)) (hcap : capOk (n + m) bytes) (hl : ∀ k, k < m → lenL (gx k) = size ∧ ones (gx k)) (ha : Rep w bs B (.own i 0 n size) (ρ x)) (hb : Rep w bs B b (ρ y)) (hH : Hp w bs B hp) (hB : B ≤ w.heap.size)
    (hg : getH hp i = .own zb size n' get) (p : Prop) :
    MOk P ρ (.call c) w bs B hp ⟨p, .own i 0 (n + m) size, .app i (.own (zb && decide (m = 0)) size (n + m) fun k => if k < n then purgeL i (get k) else purgeL i (gx (k - n)))⟩ := by
  have hA := args2 (ρ := ρ) hargs
  have hent := hH.ent i
  rw [hg] at hent
  have hi : i < lenH hp := by
    rcases Nat.lt_or_ge i (lenH hp) with h | h
    · exact h
    · rw [getH_ge _ _ h] at hg; cases hg
  have hib : i < bs.length := by rw [hH.len]; exact hi
  have st : ∀ x, Stays (some i) bs (bs.set i x) := fun x j y hj hy _ => by rw [List.getElem?_set_ne (fun he => hj (by rw [he]))]; exact hy
  have get_i : ∀ x : BK, (bs.set i x)[i]? = some x := fun x => by rw [List.getElem?_set_self hib]
  have set_inv : ∀ (x : BK) (j b c k : Nat), (bs.set i x)[j]? = some (.blk b c k) → bs[j]? = some (.blk b c k) ∨ x = .blk b c k := by
    intro x j b c k h
    by_cases hij : i = j
    · subst hij; rw [get_i] at h; cases h; exact .inr rfl
    · rw [List.getElem?_set_ne hij] at h; exact .inl h
  -- behind an append that grows
  have grow : ∀ (wd : World) (f : Nat → List Value) (g : Nat → List Value) (arr rest : Array Value) (old : Array Value) (nc : Nat), wd.heap = w.heap → Below B w wd → (∀ k, k < n → (f k).length = size) → (∀ k, k < m → (g k).length = size) →
      n + m ≤ nc → rest.size = (nc - (n + m)) * size → old.toList = rowV f n → arr.toList = rowV g m → (∀ k, k < n → RepL w bs B (get k) (f k)) → (∀ k, k < m → RepL w bs B (gx k) (g k)) → (zb && decide (m = 0)) = false →
      (∀ dst type pos after guard, (execOp ρ ⟨dst, .call c, type, pos, after, guard⟩).run P w = .ok (.value (.slice (some ⟨w.heap.size, 0, none⟩) (n + m) nc)) (World.push wd (.cells (old ++ arr ++ rest) el (0, 0)))) →
      MOk P ρ (.call c) w bs B hp ⟨p, .own i 0 (n + m) size, .app i (.own (zb && decide (m = 0)) size (n + m) fun k => if k < n then purgeL i (get k) else purgeL i (gx (k - n)))⟩ := by
    intro wd f g arr rest old nc hheap hbel hfl hgl hnc hrest hold harr hfr hgr hzb hrun
    have hkp : Keeps w bs (World.push wd (.cells (old ++ arr ++ rest) el (0, 0))) (bs.set i (.blk wd.heap.size nc (n + m))) := by
      intro b hf o ho
      have hbs : b < w.heap.size := (Array.getElem?_eq_some_iff.1 ho).1
      refine ⟨push_old (by rw [hheap]; exact ho), fun j b' c k hj => ?_⟩
      rcases set_inv _ _ _ _ _ hj with h | h
      · exact hf j b' c k h
      · cases h; rw [hheap]; omega
    have hown := grow_own (wd := wd) (bs' := bs.set i (.blk wd.heap.size nc (n + m))) (B := B) (f := f) (g := g) (fx := fun k => purgeL i (get k)) (gx := fun k => purgeL i (gx k)) (size := size) (n := n) (m := m) (nc := nc) (i := i) (el := el) (arr := old ++ arr ++ rest) (rest := rest.toList)
      hfl hgl (by simpa using hrest) hnc (by simp [hold, harr]) (get_i _) (fun k hk => purge_repL hkp (st _) (hfr k hk)) (fun k hk => purge_repL hkp (st _) (hgr k hk)) (zb && decide (m = 0)) hzb
    have hsz : (World.push wd (.cells (old ++ arr ++ rest) el (0, 0))).heap.size = w.heap.size + 1 := by
      show (wd.heap.push _).size = _
      rw [Array.size_push, hheap]
    refine ⟨_, _, _, bs.set i (.blk wd.heap.size nc (n + m)), hrun, .inl rfl, ?_, app_hp hH hi hkp (by omega) ?_ ?_ hown, hkp, st _, hbel.trans (push_below _ (by rw [hheap]; exact hB))⟩
    · have := Rep.own (w := World.push wd (.cells (old ++ arr ++ rest) el (0, 0))) (bs := bs.set i (.blk wd.heap.size nc (n + m))) (B := B) i 0 (n + m) size _ nc (n + m) ⟨wd.heap.size, 0, none⟩ (get_i _) (by omega) (.inl (by simp))
      rw [hheap] at this ⊢
      simpa using this
    · intro j b c k hj hbj
      have := (hH.lo j b c k hbj).2
      show (wd.heap.push _)[b]? = _
      rw [Array.getElem?_push, if_neg (by rw [hheap]; omega), hheap]
    · intro b c k hx
      cases hx
      refine ⟨⟨by rw [hheap]; exact hB, by rw [hsz, hheap]; omega⟩, fun j c' n' hj hbj => ?_⟩
      have := (hH.lo j _ c' n' hbj).2
      rw [hheap] at this; omega
  have hgrowop : ∀ {a cap ax cx} {old arr : Array Value}, cap < n + m → c.args.map ρ = #[.slice a n cap, .slice ax m cx] → (Builtin.firstCells size n (.slice a n cap)).run P w.drew = .ok old w.drew → (Builtin.firstCells size m (.slice ax m cx)).run P w.drew = .ok arr w.drew → _ :=
    fun {a cap ax cx old arr} h0 h1 h2 h3 => append_grow (w := w) (ρ := ρ) (ty := t1) (va := ρ x) (vx := ρ y) (n := n) (cap := cap) (a := a) hc ht1 ht2 hu1 hu2 hs hby hz hzl hb0 hs0 h1 hcap h0 (old := old) (new := arr) h2 h3
  have hheap : w.drew.heap = w.heap := rfl
  have hbel : Below B w w.drew := (Below.refl B w).drew
  have hbd : Rep w.drew bs B b (ρ y) := hb.keep drew_keeps Stays.refl noRef_none
  generalize w.drew = wd at *
  have hHd : Hp wd bs B hp := hH.heap_eq hheap
  obtain ⟨ax, cx, g, hv, hgl, hgr, hone, arr, harr, harrl⟩ := readS_ok (P := P) hr hs0 hl hbd hHd
  have hgr' : ∀ k, k < m → RepL w bs B (gx k) (g k) := fun k hk => (hgr k hk).keep (Keeps.heap hheap.symm) Stays.refl noRefL_none
  rw [hv] at harr
  generalize hρ : ρ x = v at ha hA
  rw [hv] at hA
  cases ha with
  | x _ _ h => cases h
  | ownNil _ _ hbs =>
    rcases hent with ⟨_, hz1, hn'⟩ | ⟨_, _, _, _, h, _⟩
    case inr => rw [hbs] at h; cases h
    subst hz1; subst hn'
    by_cases hm : m = 0
    · subst hm
      have hrun := append_nil0 hc ht1 ht2 hu1 hu2 hs hA (w := w)
      have hbs' : bs.set i .nil = bs := by
        apply List.ext_getElem?
        intro j
        by_cases hij : i = j
        · subst hij; rw [get_i, hbs]
        · rw [List.getElem?_set_ne hij]
      refine ⟨_, .slice none 0 0, w, bs, hrun, .inl rfl, .ownNil _ _ hbs, ?_, Keeps.refl, Stays.refl, Below.refl _ _⟩
      have h1 : HRep w (bs.set i .nil) B i (.own (true && decide (0 = 0)) size (0 + 0) fun k => if k < 0 then purgeL i (get k) else purgeL i (gx (k - 0))) := Or.inl ⟨get_i _, by simp, rfl⟩
      have := app_hp hH hi (by rw [hbs']; exact Keeps.refl) (Nat.le_refl _) (fun _ _ _ _ _ _ => rfl) (fun _ _ _ h => by cases h) h1
      rw [hbs'] at this
      exact this
    · have ho : (Builtin.firstCells size 0 (.slice none 0 0)).run P wd = .ok #[] wd := rfl
      obtain ⟨nc, rest, hnc, hrun, hrest⟩ := hgrowop (by omega) hA ho harr
      exact grow wd (fun _ => []) g arr rest #[] nc hheap hbel (fun k hk => by omega) hgl hnc hrest rfl harrl (fun k hk => by omega) hgr' (by simp [hm]) hrun
  | own _ _ _ _ blk cap mm ad hbs hlm had =>
    rcases hent with ⟨h, _⟩ | ⟨b', cap', vs, T, h1, h2, h3, h4, h5, h6⟩
    case inl => rw [hbs] at h; cases h
    rw [hbs] at h1; cases h1
    subst h2
    simp only [Nat.sub_zero, Nat.zero_add, Nat.zero_mul] at hA had hlm
    have hnc : n * size ≤ cap * size := Nat.mul_le_mul_right _ (by omega)
    have hfl : ∀ k, k < n → ((vs.toList.drop (k * size)).take size).length = size := by
      intro k hk
      have : k * size + size ≤ cap * size := by rw [← Nat.succ_mul]; exact Nat.mul_le_mul_right _ (by omega)
      simp [h4]; omega
    by_cases hfit : n + m ≤ cap
    · have had0 : ad = ⟨blk, 0, none⟩ := by
        rcases had with h | h
        · exact h
        · omega
      subst had0
      obtain ⟨ax', cx', gw, hvw, hglw, hgrw, honew, arrw, harrw, harrlw⟩ := readS_ok (P := P) hr hs0 hl hb hH
      rw [hv] at hvw; cases hvw
      rw [hv] at harrw
      have hal : arrw.size = m * size := by rw [← Array.length_toList, harrlw, rowV_len hglw]
      have hle : n * size + m * size ≤ vs.size := by rw [h4, ← Nat.add_mul]; exact Nat.mul_le_mul_right _ hfit
      obtain ⟨w', cs', hrun, hwr, hcs⟩ := append_fit (P := P) (ρ := ρ) (w := w) (size := size) hc ht1 ht2 hu1 hu2 hs hA hfit harrw h3 (by rw [hal]; simpa using hle) (by rw [harrlw]; exact honew)
      rw [Nat.zero_add] at hcs
      have hkp : Keeps w bs w' (bs.set i (.blk blk cap (n + m))) := by
        intro b0 hf o ho
        have hne : blk ≠ b0 := hf i blk cap _ hbs
        refine ⟨by rw [hwr.other b0 (by omega)]; exact ho, fun j b' c k hj => ?_⟩
        rcases set_inv _ _ _ _ _ hj with h | h
        · exact hf j b' c k h
        · cases h; exact hne
      have hlen : cs'.size = vs.size := by
        have := congrArg List.length hcs
        rw [splice_len (by simp [hal]; exact hle)] at this
        simpa using this
      have helem : ∀ k, k < n + m → (cs'.toList.drop (k * size)).take size = if k < n then (vs.toList.drop (k * size)).take size else gw (k - n) := by
        intro k hk
        have e : cs'.toList = rowV (fun k => (vs.toList.drop (k * size)).take size) n ++ rowV gw m ++ vs.toList.drop (n * size + m * size) := by
          rw [hcs, rowV_take, ← harrlw]
          simp [spliceV, hal]
        rw [e]
        exact row_rep hfl hglw hk
      refine ⟨_, _, w', bs.set i (.blk blk cap (n + m)), hrun, .inl rfl, ?_, app_hp hH hi hkp (Nat.le_of_eq hwr.size.symm) ?_ ?_ (Or.inr ⟨blk, cap, cs', T, get_i _, rfl, hwr.at_, by rw [hlen, h4], hfit, fun k hk => ?_⟩), hkp, st _, hwr.below (hH.lo _ _ _ _ hbs).1⟩
      · have := Rep.own (w := w') (bs := bs.set i (.blk blk cap (n + m))) (B := B) i 0 (n + m) size _ cap (n + m) ⟨blk, 0, none⟩ (get_i _) (by omega) (.inl (by simp))
        simpa using this
      · intro j b0 c k hj hbj
        refine hwr.other b0 fun he => hj ?_
        subst he
        exact hH.inj j i _ _ _ _ _ hbj hbs
      · intro b0 c k hx
        cases hx
        refine ⟨⟨(hH.lo _ _ _ _ hbs).1, by rw [hwr.size]; exact (hH.lo _ _ _ _ hbs).2⟩, fun j c' n' hj hbj => hj (hH.inj j i _ _ _ _ _ hbj hbs)⟩
      · rw [helem k hk]
        by_cases hkn : k < n
        · simp only [hkn, if_true]; exact purge_repL hkp (st _) (h6 k (by omega))
        · simp only [hkn, if_false]; exact purge_repL hkp (st _) (hgrw (k - n) (by omega))
    · have had' : ad.spot = none ∧ Cells wd ad.block ad.off (vs.toList.take (n * size)) := by
        rcases had with rfl | hh
        · exact ⟨rfl, vs, T, _, by rw [hheap]; exact h3, fun j v hj => by
            rw [List.getElem?_take] at hj
            split at hj
            · simpa using hj
            · cases hj⟩
        · omega
      have ho : (Builtin.firstCells size n (.slice (some ad) n cap)).run P wd = .ok (vs.toList.take (n * size)).toArray wd := by
        have := run_loadCells (P := P) (w := wd) had'.1 had'.2
        simp only [List.length_take, Array.length_toList, h4, Nat.min_eq_left hnc] at this
        exact this
      obtain ⟨nc, rest, hnc', hrun, hrest⟩ := hgrowop (by omega) hA ho harr
      exact grow wd (fun k => (vs.toList.drop (k * size)).take size) g arr rest _ nc hheap hbel hfl hgl hnc' hrest (by simp [rowV_take]) harrl (fun k hk => h6 k (by omega)) hgr' rfl hrun

theorem append_ok {c : Call} {x y : Operand} {t1 t2 el el2 : TypeId} {size bytes : Nat} {z : List SV} {xs : List SV} {e : Ef}
    (hc : c.callee = .builtin .append) (ht1 : c.argTypes[0]? = some t1) (ht2 : c.argTypes[1]? = some t2) (hu1 : P.underlying t1 = some (.slice el)) (hu2 : P.underlying t2 = some (.slice el2))
    (hs : sizeOf? P el = some size) (hby : bytesOf? P el = some bytes) (hz : zeroOf P el = some z) (hzl : z.length = size) (hb0 : 0 < bytes) (hs0 : 0 < size) (hargs : c.args.toList = [x, y])
    (he : eAppend (lenH hp) hp size bytes xs = some e) (hpre : e.pre) (hx : RepL w bs B xs ([x, y].map ρ)) (hH : Hp w bs B hp) (hB : B ≤ w.heap.size) : MOk P ρ (.call c) w bs B hp e := by
  unfold eAppend at he
  split at he
  · rename_i a b
    obtain ⟨ha, hb⟩ := two hx
    split at he
    · obtain ⟨⟨m, gx⟩, hr, he⟩ := Option.bind_eq_some_iff.1 he
      simp only [eNew, Option.some.injEq] at he
      subst he
      exact append_nil_ok hc ht1 ht2 hu1 hu2 hs hby hz hzl hb0 hs0 hargs hr hpre.1 hpre.2 ha.nil_inv hb hH hB _
    · split at he
      · rename_i hg
        obtain ⟨⟨m, gx⟩, hr, heq⟩ := Option.map_eq_some_iff.1 he
        simp only at heq
        subst heq
        obtain ⟨rfl, rfl, hcap, hl⟩ := hpre
        exact append_own_ok hc ht1 ht2 hu1 hu2 hs hby hz hzl hb0 hs0 hargs hr hcap hl ha hb hH hB hg _
      · cases he
    · cases he
  · cases he

theorem repL_rep {zs : List SV} {z : List Value} (h : RepL w bs B zs z) : ∀ n, RepL w bs B (repL n zs) (rowV (fun _ => z) n) ∧ (rowV (fun _ => z) n).length = n * z.length
  | 0 => ⟨.nil, by simp [rowV]⟩
  | n + 1 => by
    obtain ⟨h1, h2⟩ := repL_rep h n
    have e : ∀ n, rowV (fun _ => z) n ++ z = z ++ rowV (fun _ => z) n := by
      intro n
      induction n with
      | zero => simp [rowV]
      | succ n ih => simp only [rowV]; rw [← List.append_assoc, ← ih]
    refine ⟨?_, by simp only [rowV, List.length_append, h2]; rw [Nat.succ_mul]⟩
    simp only [rowV, e, repL]
    exact h.append h1

theorem zeroRow (z : Array Value) (h : 0 < z.size) : ∀ n, ((Array.range (n * z.size)).map (fun i => z[i % z.size]!)).toList = rowV (fun _ => z.toList) n := by
  intro n
  apply List.ext_getElem?
  intro j
  have hlen : (rowV (fun _ => z.toList) n).length = n * z.size := rowV_len (fun _ _ => by simp)
  by_cases hj : j < n * z.size
  · have hm := Nat.mod_lt j h
    obtain ⟨v, hv⟩ : ∃ v, (rowV (fun _ => z.toList) n)[j]? = some v := ⟨(rowV (fun _ => z.toList) n)[j]'(by omega), by simp [hlen, hj]⟩
    obtain ⟨_, h2⟩ := rowV_get h (f := fun _ => z.toList) (n := n) (fun _ _ => by simp) j v hv
    rw [hv]
    simp only [Array.toList_map, Array.toList_range, List.getElem?_map, List.getElem?_range hj, Option.map_some]
    rw [← h2]
    simp [hm]
  · rw [List.getElem?_eq_none (by simp; omega), List.getElem?_eq_none (by omega)]

theorem make_ok {l c : Operand} {t el : TypeId} {size bytes : Nat} {z : List SV} {xs : List SV} {e : Ef} (hu : P.underlying t = some (.slice el)) (hs : sizeOf? P el = some size) (hby : bytesOf? P el = some bytes) (hz : zeroOf P el = some z)
    (hb0 : 0 < bytes) (he : eMake (lenH hp) size bytes z xs = some e) (hpre : e.pre) (hx : RepL w bs B xs ([l, c].map ρ)) (hH : Hp w bs B hp) (hB : B ≤ w.heap.size) : MOk P ρ (.makeSlice t l c) w bs B hp e := by
  unfold eMake at he
  split at he
  · rename_i k1 n k2 cp
    simp only [eNew, Option.some.injEq] at he
    subst he
    obtain ⟨hzl, hs0, hn0, hnc, hcap⟩ := hpre
    obtain ⟨h1, h2⟩ := two hx
    have h1 := h1.int_inv; have h2 := h2.int_inv
    obtain ⟨zv, hzv, hzr⟩ := run_zeroValue (P := P) (w := w) (bs := bs) (B := B) hz
    have hzs : zv.cells.size = size := by rw [← hzl, hzr.length]; simp
    unfold bytesOf? at hby
    obtain ⟨ti, hti, htb⟩ := Option.map_eq_some_iff.1 hby
    have hcb : cp.toNat ≤ 140737488355328 := by
      have h3 : cp.toNat * bytes ≤ 140737488355328 := hcap
      exact Nat.le_trans (Nat.le_mul_of_pos_right _ hb0) h3
    have hw1 : IntKind.i64.wrap n = n := IntWalk.i64_in _ ⟨by omega, by omega⟩
    have hw2 : IntKind.i64.wrap cp = cp := IntWalk.i64_in _ ⟨by omega, by omega⟩
    have hbi : (bytes : Int) * cp ≤ 140737488355328 := by
      have h3 : cp.toNat * bytes ≤ 140737488355328 := hcap
      have h4 : ((cp.toNat * bytes : Nat) : Int) ≤ 140737488355328 := by generalize cp.toNat * bytes = q at h3 ⊢; omega
      rw [Int.natCast_mul, Int.toNat_of_nonneg (by omega), Int.mul_comm] at h4
      exact h4
    have hrow := zeroRow zv.cells (by omega) cp.toNat
    rw [hzs] at hrow
    let row := (Array.range (cp.toNat * size)).map (fun i => zv.cells[i % zv.cells.size]!)
    have hrow' : row.toList = rowV (fun _ => zv.cells.toList) cp.toNat := by simp only [row, hzs]; exact hrow
    have hrun : (Instr.makeSlice t (.int k1 n) (.int k2 cp)).run P w = .ok (.slice (some ⟨w.heap.size, 0, none⟩) n.toNat cp.toNat) (World.push w (.cells row el (0, 0))) := by
      subst htb
      have h48 : (2 : Int) ^ 48 = 281474976710656 := by decide
      have hcond : ¬ ((decide (cp < 0) || decide ((ti.bytes : Int) * cp > 2 ^ 48) || decide (n < 0) || decide (n > cp)) = true) := by
        rw [h48]
        simp only [Bool.or_eq_true, decide_eq_true_eq]
        omega
      unfold Instr.makeSlice
      by_cases h0 : cp.toNat * size = 0
      · have hrow0 : row = #[] := by simp [row, h0]
        simp only [Sem.run_bind, run_underlying hu, Result.andThen_ok, asInt, run_asIntOf, Sem.run_pure, typeInfo, run_program, hti, hw1, hw2, hcond, Bool.false_eq_true, if_false, run_askRoom, run_sizeOf hs, h0, if_true, newRow, run_newObj, hrow0]
        have he0 : ∀ f : Nat → Value, Array.map f (Array.range 0) = #[] := fun f => by simp
        rw [he0]; rfl
      · simp only [Sem.run_bind, run_underlying hu, Result.andThen_ok, asInt, run_asIntOf, Sem.run_pure, typeInfo, run_program, hti, hw1, hw2, hcond, Bool.false_eq_true, if_false, run_askRoom, run_sizeOf hs, h0, newRow, run_newObj, hzv]
        rfl
    have hkp := push_keeps (w := w) (bs := bs) row el cp.toNat n.toNat
    have hlast : (bs ++ [BK.blk w.heap.size cp.toNat n.toNat])[lenH hp]? = some (.blk w.heap.size cp.toNat n.toNat) := last_get hH
    have hown : HRep (World.push w (.cells row el (0, 0))) (bs ++ [.blk w.heap.size cp.toNat n.toNat]) B (lenH hp) (.own false size n.toNat fun _ => z) := by
      refine Or.inr ⟨_, _, _, _, hlast, rfl, push_new, ?_, by omega, fun k hk => ?_⟩
      · rw [← Array.length_toList, hrow', rowV_len (fun _ _ => by simpa using hzs)]
      · rw [hrow', rowV_chunk (f := fun _ => zv.cells.toList) (n := cp.toNat) (fun _ _ => by simpa using hzs) k (by omega)]
        exact hzr.keep hkp (push_stays _ _) noRefL_none
    refine ⟨.value (.slice (some ⟨w.heap.size, 0, none⟩) n.toNat cp.toNat), _, World.push w (.cells row el (0, 0)), bs ++ [.blk w.heap.size cp.toNat n.toNat], fun dst type pos after guard => ?_, .inl rfl, ?_, new_hp hH hB hown, hkp, push_stays _ _, push_below _ hB⟩
    · simp only [execOp, h1, h2, Sem.run_bind, hrun, Result.andThen_ok, Sem.run_pure]
    · have := Rep.own (w := World.push w (.cells row el (0, 0))) (B := B) (lenH hp) 0 n.toNat size _ cp.toNat n.toNat ⟨w.heap.size, 0, none⟩ hlast (by omega) (.inl (by simp))
      simpa using this
  · cases he

theorem buildSlice_ok {t el : TypeId} {len size : Nat} {parts : Array (Nat × Operand)} {z : List SV} {xs : List SV} {p : Prop} {cs : List SV} (hu : P.underlying t = some (.slice el)) (hs : sizeOf? P el = some size) (hz : zeroOf P el = some z)
    (hlim : len * size ≤ 16777216) (he : buildCells (repL len z) (parts.toList.map fun p => (p.1 * size, size)) xs = some (p, cs)) (hpre : p ∧ lenL z = size ∧ 0 < size) (hx : RepL w bs B xs ((parts.toList.map (·.2)).map ρ))
    (hH : Hp w bs B hp) (hB : B ≤ w.heap.size) :
    MOk P ρ (.buildSlice t len parts) w bs B hp ⟨p ∧ lenL z = size ∧ 0 < size, .own (lenH hp) 0 len size, .new (.own false size len (chunk size cs))⟩ := by
  obtain ⟨hpp, hzl, hs0⟩ := hpre
  obtain ⟨zv, hzv, hzr⟩ := run_zeroValue (P := P) (w := w) (bs := bs) (B := B) hz
  have hzs : zv.cells.size = size := by rw [← hzl, hzr.length]; simp
  have hrow := zeroRow zv.cells (by omega) len
  rw [hzs] at hrow
  let row := (Array.range (len * size)).map (fun i => (if len * size = 0 then (#[] : Array Value) else zv.cells)[i % (if len * size = 0 then (#[] : Array Value) else zv.cells).size]!)
  have hrow' : row.toList = rowV (fun _ => zv.cells.toList) len := by
    by_cases h0 : len * size = 0
    · have hl0 : len = 0 := by
        rcases Nat.mul_eq_zero.1 h0 with h | h
        · exact h
        · omega
      subst hl0
      simp [row, rowV]
    · simp only [row, h0, if_false, hzs]; exact hrow
  obtain ⟨hrr, hrl⟩ := repL_rep hzr len
  rw [← hrow'] at hrr
  obtain ⟨out, ho, hro⟩ := fill_ok (ρ := ρ) (place := fun i => some (i * size, size)) (parts := parts.toList) (cells := row) he hpp rfl (fun x hx => rfl) hrr (by rw [List.map_map] at hx; exact hx)
  have hol : out.size = len * size := by
    have h1 : ∀ {cs : List SV} {pl : List (Nat × Nat)} {xs : List SV} {p : Prop} {r : List SV}, buildCells cs pl xs = some (p, r) → lenL r = lenL cs := by
      intro cs pl
      induction pl generalizing cs with
      | nil => intro xs p r h; cases xs <;> simp [buildCells] at h; rw [h.2]
      | cons a pl ih =>
        intro xs p r h
        cases xs with
        | nil => simp [buildCells] at h
        | cons x xs =>
          simp only [buildCells] at h
          obtain ⟨⟨q, r'⟩, hq, heq⟩ := Option.map_eq_some_iff.1 h
          simp only [Prod.mk.injEq] at heq
          rw [← heq.2, ih hq, lenL_splice]
    have h2 := h1 he
    rw [hro.length, hrr.length, hrow', hrl] at h2
    simp at h2
    rw [h2, hzs]
  have hkp := push_keeps (w := w) (bs := bs) out el len len
  have hlast : (bs ++ [BK.blk w.heap.size len len])[lenH hp]? = some (.blk w.heap.size len len) := last_get hH
  have hown : HRep (World.push w (.cells out el (0, 0))) (bs ++ [.blk w.heap.size len len]) B (lenH hp) (.own false size len (chunk size cs)) :=
    Or.inr ⟨_, _, _, _, hlast, rfl, push_new, hol, Nat.le_refl _, fun k hk => (chunk_ok hro size k).keep hkp (push_stays _ _) noRefL_none⟩
  refine ⟨.value (.slice (some ⟨w.heap.size, 0, none⟩) len len), .slice (some ⟨w.heap.size, 0, none⟩) len len, World.push w (.cells out el (0, 0)), bs ++ [.blk w.heap.size len len], fun dst type pos after guard => ?_, .inl rfl, ?_, new_hp hH hB hown, hkp, push_stays _ _, push_below _ hB⟩
  · have ho' : Instr.fill (fun i => some (i * size, size)) row (Array.map (fun x => (x.fst, ρ x.snd)) parts).toList = some out := by
      rw [Array.toList_map]; exact ho
    have hl2 : ¬ (len * size > 2 ^ 24) := by
      have : (2 : Nat) ^ 24 = 16777216 := by decide
      rw [this]; omega
    by_cases h0 : len * size = 0
    · simp only [row, h0, if_true] at ho'
      simp only [execOp, Instr.buildSlice, bind_pure_comp, Sem.run_map, Sem.run_bind, Result.andThen_ok, run_underlying hu, run_sizeOf hs, hl2, if_false, h0, if_true, Sem.run_pure, newRow, run_newObj, ho', show ¬ (0 > 2 ^ 24) by decide]
      rfl
    · simp only [row, h0, if_false] at ho'
      simp only [execOp, Instr.buildSlice, bind_pure_comp, Sem.run_map, Sem.run_bind, Result.andThen_ok, run_underlying hu, run_sizeOf hs, hl2, if_false, h0, Sem.run_pure, newRow, run_newObj, ho', hzv]
      rfl
  · have := Rep.own (w := World.push w (.cells out el (0, 0))) (B := B) (lenH hp) 0 len size _ len len ⟨w.heap.size, 0, none⟩ hlast (by omega) (.inl (by simp))
    simpa using this

end
end Go.Vx
