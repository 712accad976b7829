/- Every operation that has a translation does what the executor says. -/
import Derived.Test.YtdognchniaojoaaVx5
import Derived.Laws.Externs
set_option linter.all false
namespace Go.Vx
open Go.RowKit
section
variable {P : Program} {ρ : Operand → Value} {w w' : World} {bs bs' : List BK} {B : Nat} {hp : List HO}

theorem chk_inv {g : Bool} {s : Nat} (h : chk g s = true) : g = false → s = 1 := by
  intro hg; subst hg; simpa [chk] using h

theorem vbin_ok {op : BinOp} {t yt : TypeId} {x y : Operand} {vo : VO} {xs : List SV} {e : Ef} (hv : vbin P op t = some vo) (he : eff hp (lenH hp) vo xs = some e) (hpre : e.pre)
    (hx : RepL w bs B xs ([x, y].map ρ)) : QOk P ρ (.binOp op t x y yt) w bs B e := by
  cases op <;> simp only [vbin] at hv
  · split at hv <;> cases hv; exact ari_ok (o := .add) rfl he hpre hx
  · split at hv <;> cases hv; exact ari_ok (o := .sub) rfl he hpre hx
  · cases hv; exact ari_ok (o := .mul) rfl he hpre hx
  · cases hv; exact div_ok (rem := false) rfl he hpre hx
  · cases hv; exact div_ok (rem := true) rfl he hpre hx
  · cases hv; exact bit_ok (o := .and) rfl he hpre hx
  · cases hv; exact bit_ok (o := .or) rfl he hpre hx
  · cases hv; exact bit_ok (o := .xor) rfl he hpre hx
  · cases hv; exact sh_ok (left := true) rfl he hpre hx
  · cases hv; exact sh_ok (left := false) rfl he hpre hx
  · cases hv; exact bit_ok (o := .andNot) rfl he hpre hx
  · split at hv
    · cases hv; exact cmp_ok (o := .eql) rfl he hpre hx
    · split at hv
      · cases hv; exact eqb_ok (neg := false) rfl ‹_› he hx
      · obtain ⟨ks, hk, rfl⟩ := Option.map_eq_some_iff.1 hv
        exact eqv_ok (neg := false) rfl hk he hpre hx
  · split at hv
    · cases hv; exact cmp_ok (o := .neq) rfl he hpre hx
    · split at hv
      · cases hv; exact eqb_ok (neg := true) rfl ‹_› he hx
      · obtain ⟨ks, hk, rfl⟩ := Option.map_eq_some_iff.1 hv
        exact eqv_ok (neg := true) rfl hk he hpre hx
  · cases hv; exact cmp_ok (o := .lss) rfl he hpre hx
  · cases hv; exact cmp_ok (o := .leq) rfl he hpre hx
  · cases hv; exact cmp_ok (o := .gtr) rfl he hpre hx
  · cases hv; exact cmp_ok (o := .geq) rfl he hpre hx

theorem fieldsOf_inv {t : TypeId} {fs : List Field} (h : Go.Vx.fieldsOf P t = some fs) : ∃ a : Array Field, P.underlying t = some (.struct a) ∧ a.toList = fs := by
  unfold Go.Vx.fieldsOf at h
  split at h
  · cases h; exact ⟨_, ‹_›, rfl⟩
  · cases h

theorem placesOf_inv {t : TypeId} {pl : List (Nat × Nat)} (h : placesOf P t = some pl) : (∃ a : Array Field, P.underlying t = some (.struct a)) ∨ ∃ n e s, P.underlying t = some (.array n e) ∧ sizeOf? P e = some s ∧ pl = (List.range n).map fun i => (i * s, s) := by
  unfold placesOf at h
  split at h
  · exact .inl ⟨_, ‹_›⟩
  · rename_i n e hu
    obtain ⟨s, hs, rfl⟩ := Option.map_eq_some_iff.1 h
    exact .inr ⟨n, e, s, hu, hs, rfl⟩
  · cases h

theorem bind_inv {ty : Array TypeId} {i : Nat} {d : TypeDesc} (h : ty[i]?.bind P.underlying = some d) : ∃ t, ty[i]? = some t ∧ P.underlying t = some d := Option.bind_eq_some_iff.1 h

theorem addc_ok {c : Call} {f : FuncId} {xs : List SV} {e : Ef} (hcal : c.callee = .value (.func f)) (hf : isAddc P f = true) (hρf : ∀ f, ρ (.func f) = .func (.func f) #[] #[]) (he : eff hp (lenH hp) .addc xs = some e) (hpre : e.pre)
    (hx : RepL w bs B xs (c.args.toList.map ρ)) : QOk P ρ (.call c) w bs B e := by
  unfold isAddc at hf
  cases hfn : P.funcs[f]? with
  | none => rw [hfn] at hf; cases hf
  | some fn =>
    rw [hfn] at hf
    simp only [Bool.and_eq_true, beq_iff_eq] at hf
    obtain ⟨⟨hb, hn⟩, ho⟩ := hf
    simp only [eff] at he
    unfold eAddc at he
    split at he
    · rename_i x y z
      cases pure1_inv he
      obtain ⟨h1, h2, h3, h4⟩ := hpre
      obtain ⟨v1, l1, e1, g1, hx⟩ := hx.cons_inv
      obtain ⟨v2, l2, e2, g2, hx⟩ := hx.cons_inv
      obtain ⟨v3, l3, e3, g3, hx⟩ := hx.cons_inv
      cases hx.nil_inv
      cases g1.int_inv; cases g2.int_inv; cases g3.int_inv
      have hrun : (callFunc f #[.int .u64 x, .int .u64 y, .int .u64 z]).run P w = .ok (.value (.tuple #[.int .u64 ((x + y + z) % 18446744073709551616), .int .u64 ((x + y + z) / 18446744073709551616)])) w := by
        have hne : (fn.name == "runtime.NumGoroutine") = false := by rw [hn]; decide
        have hnx : Extern.findNext fn = none := by
          unfold Extern.findNext
          simp only [hn, ho]
          rfl
        have hfi : Extern.find fn = some add64Entry := by
          unfold Extern.find
          simp only [hn, ho]
          rfl
        rw [run_callFunc_extern hfn hne hb hnx hfi, run_add64 x y z h1 h2 h3 h4]
        rfl
      refine ⟨rfl, .tuple #[.int .u64 ((x + y + z) % 18446744073709551616), .int .u64 ((x + y + z) / 18446744073709551616)], fun dst type pos after guard => ?_, ?_⟩
      · have e0 : #[] ++ c.args.map ρ ++ #[] = #[.int .u64 x, .int .u64 y, .int .u64 z] := by
          apply Array.ext'
          simp [e1, e2, e3]
        simp only [execOp, resolve, hcal, hρf, Deferred.ofValue, Sem.run_bind, Sem.run_pure, Result.andThen_ok, invoke, e0, hrun]
      · exact .x _ _ (.tup _ _ (.cons _ _ _ _ (.int _ _) (.cons _ _ _ _ (.int _ _) .nil)))
    · cases he

set_option maxHeartbeats 1000000 in
theorem vop_ok {o : Oper} {vo : VO} {ops : List Operand} {xs : List SV} {e : Ef} (hv : vop P o = some (vo, ops)) (he : eff hp (lenH hp) vo xs = some e) (hpre : e.pre)
    (hx : RepL w bs B xs (ops.map ρ)) (hρ : ∀ v, ρ (.const v) = v) (hρf : ∀ f, ρ (.func f) = .func (.func f) #[] #[]) (hH : Hp w bs B hp) (hB : B ≤ w.heap.size) : MOk P ρ o.op w bs B hp e := by
  obtain ⟨dst, op, type, pos, after, guard⟩ := o
  unfold vop at hv
  simp only at hv
  split at hv
  · cases hv; exact (mov_ok (.inl rfl) he hx).mok hH
  · cases hv; exact (mov_ok (.inr rfl) he hx).mok hH
  · cases hv; exact (bool2_ok (.inl ⟨rfl, rfl⟩) hρ he hpre hx).mok hH
  · cases hv; exact (bool2_ok (.inr ⟨rfl, rfl⟩) hρ he hpre hx).mok hH
  · split at hv
    · obtain ⟨z, hz, hv⟩ := Option.bind_eq_some_iff.1 hv
      obtain ⟨s, hs, hv⟩ := Option.map_eq_some_iff.1 hv
      cases hv
      simp only [eff, eNew, Option.some.injEq] at he
      subst he
      exact allocArr_ok (t := 0) hz hpre hH hB
    · obtain ⟨z, hz, hv⟩ := Option.map_eq_some_iff.1 hv
      cases hv
      simp only [eff, eNew, Option.some.injEq] at he
      subst he
      exact alloc_ok hz hH hB
  · cases hv; exact box_ok he hpre hx hH hB
  · rename_i t parts
    obtain ⟨z, hz, hv⟩ := Option.bind_eq_some_iff.1 hv
    obtain ⟨pl, hpl, hv⟩ := Option.bind_eq_some_iff.1 hv
    split at hv
    · rename_i hall
      cases hv
      simp only [eff] at he
      obtain ⟨⟨p, cs⟩, hb, he⟩ := Option.bind_eq_some_iff.1 he
      cases pure1_inv he
      have hin : ∀ x ∈ parts.toList, x.1 < pl.length := fun x hx => by have := List.all_eq_true.1 hall x hx; simpa using this
      rcases placesOf_inv hpl with ⟨fs, hu⟩ | ⟨n, e, s, hu, hs, rfl⟩
      · exact (build_ok hz hu hpl hin hb hpre hx).mok hH
      · exact (buildArr_ok hz hu hs hin hb hpre hx).mok hH
    · cases hv
  · obtain ⟨g, hg, hv⟩ := Option.bind_eq_some_iff.1 hv
    obtain ⟨s, hs, hv⟩ := Option.bind_eq_some_iff.1 hv
    split at hv <;> cases hv
    exact (load_ok hg hs (chk_inv ‹_›) he hpre hx hH).mok hH
  · obtain ⟨s, hs, hv⟩ := Option.map_eq_some_iff.1 hv
    cases hv
    exact store_ok hs he hpre hx hH
  · split at hv <;> cases hv
    exact (nil_ok (neg := false) rfl ‹_› he hρ hx hH).mok hH
  · split at hv <;> cases hv
    exact (nil_ok (neg := true) rfl ‹_› he hρ hx hH).mok hH
  · obtain ⟨v, hb, hv⟩ := Option.map_eq_some_iff.1 hv
    cases hv
    exact (vbin_ok hb he hpre hx).mok hH
  · cases hv; exact (not_ok he hx).mok hH
  · cases hv; exact (neg_ok he hx).mok hH
  · split at hv
    · cases hv
      rename_i h1 h2
      exact (conv_ok (by rw [h1]; rfl) h2 he hx).mok hH
    · cases hv
  · obtain ⟨fs, hfs, hv⟩ := Option.bind_eq_some_iff.1 hv
    obtain ⟨fd, hfd, hv⟩ := Option.bind_eq_some_iff.1 hv
    obtain ⟨z, hz, hv⟩ := Option.bind_eq_some_iff.1 hv
    split at hv <;> cases hv
    obtain ⟨a, hu, rfl⟩ := fieldsOf_inv hfs
    exact (fieldAddr_ok hu (by simpa using hfd) hz ‹_› he hx).mok hH
  · obtain ⟨fs, hfs, hv⟩ := Option.bind_eq_some_iff.1 hv
    obtain ⟨fd, hfd, hv⟩ := Option.bind_eq_some_iff.1 hv
    obtain ⟨z, hz, hv⟩ := Option.bind_eq_some_iff.1 hv
    obtain ⟨g, hg, hv⟩ := Option.bind_eq_some_iff.1 hv
    split at hv <;> cases hv
    obtain ⟨a, hu, rfl⟩ := fieldsOf_inv hfs
    exact (field_ok hu (by simpa using hfd) hg hz (chk_inv ‹_›) he hpre hx).mok hH
  · split at hv
    · obtain ⟨s, hs, hv⟩ := Option.map_eq_some_iff.1 hv
      cases hv
      exact (idxAddr_ok ‹_› hs he hpre hx hH).mok hH
    · obtain ⟨s, hs, hv⟩ := Option.map_eq_some_iff.1 hv
      cases hv
      exact (idxArr_ok ‹_› hs he hpre hx hH).mok hH
    · cases hv
  · split at hv
    · obtain ⟨s, hs, hv⟩ := Option.bind_eq_some_iff.1 hv
      obtain ⟨g, hg, hv⟩ := Option.bind_eq_some_iff.1 hv
      split at hv <;> cases hv
      exact (index_ok ‹_› hg hs (chk_inv ‹_›) he hpre hx).mok hH
    · cases hv
  · split at hv
    · obtain ⟨s, hs, hv⟩ := Option.map_eq_some_iff.1 hv
      cases hv
      exact (slice_ok ‹_› hs he hpre hx hH).mok hH
    · obtain ⟨s, hs, hv⟩ := Option.map_eq_some_iff.1 hv
      cases hv
      exact (sliceArr_ok ‹_› hs he hpre hx hH).mok hH
    · cases hv
  · split at hv
    · obtain ⟨s, hs, hv⟩ := Option.bind_eq_some_iff.1 hv
      obtain ⟨b, hb, hv⟩ := Option.bind_eq_some_iff.1 hv
      obtain ⟨z, hz, hv⟩ := Option.bind_eq_some_iff.1 hv
      split at hv <;> cases hv
      exact make_ok ‹_› hs hb hz (And.left ‹0 < b ∧ 0 < s›) he hpre hx hH hB
    · cases hv
  · split at hv
    · obtain ⟨s, hs, hv⟩ := Option.bind_eq_some_iff.1 hv
      obtain ⟨z, hz, hv⟩ := Option.bind_eq_some_iff.1 hv
      split at hv <;> cases hv
      simp only [eff] at he
      obtain ⟨⟨p, cs⟩, hb, he⟩ := Option.bind_eq_some_iff.1 he
      simp only [eNew, Option.some.injEq] at he
      subst he
      exact buildSlice_ok ‹_› hs hz ‹_› hb hpre hx hH hB
    · cases hv
  · cases hv
    simp only [eff] at he
    cases pure1_inv he
    exact (mkfn_ok hx).mok hH
  · cases hv; exact (ext_ok he hpre hx).mok hH
  · rename_i c
    split at hv
    · split at hv
      · cases hv; exact (addc_ok (by assumption) (by assumption) hρf he hpre hx).mok hH
      · cases hv; simp [eff] at he
    · cases hv; simp [eff] at he
    · cases hv; simp [eff] at he
    · split at hv
      · cases hv; exact (len_ok ‹_› ‹_› he hx).mok hH
      · cases hv; exact (lenStr_ok ‹_› ‹_› he hx).mok hH
      · cases hv; exact (lenArr_ok ‹_› ‹_› he hx).mok hH
      · cases hv
    · cases hv; exact (minmax_ok (mx := false) ‹_› he hx).mok hH
    · cases hv; exact (minmax_ok (mx := true) ‹_› he hx).mok hH
    · rename_i hc
      split at hv
      · rename_i h1 h2
        obtain ⟨s, hs, hv⟩ := Option.bind_eq_some_iff.1 hv
        obtain ⟨b, hb, hv⟩ := Option.bind_eq_some_iff.1 hv
        obtain ⟨z, hz, hv⟩ := Option.bind_eq_some_iff.1 hv
        split at hv <;> cases hv
        have hcond : 0 < b ∧ 0 < s ∧ z.length = s := ‹_›
        obtain ⟨t1, ht1, hu1⟩ := bind_inv h1
        obtain ⟨t2, ht2, hu2⟩ := bind_inv h2
        simp only [eff] at he
        have hxl : ∃ x y, c.args.toList = [x, y] := by
          have hl := hx.length
          unfold eAppend at he
          split at he
          · simp only [lenL, List.length_map] at hl
            match hh : c.args.toList with
            | [x, y] => exact ⟨x, y, rfl⟩
            | [] => rw [hh] at hl; simp at hl
            | [_] => rw [hh] at hl; simp at hl
            | _ :: _ :: _ :: _ => rw [hh] at hl; simp at hl
          · cases he
        obtain ⟨x, y, hxy⟩ := hxl
        rw [hxy] at hx
        exact append_ok hc ht1 ht2 hu1 hu2 hs hb hz hcond.2.2 hcond.1 hcond.2.1 hxy he hpre hx hH hB
      · cases hv
    · cases hv
  · cases hv

end
end Go.Vx
