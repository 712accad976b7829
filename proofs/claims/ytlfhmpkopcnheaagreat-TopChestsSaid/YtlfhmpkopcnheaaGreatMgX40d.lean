/- Data that came in, as the executor's values: by shapes of types. -/
import Derived.Test.YtlfhmpkopcnheaaGreatMgX40c
import Derived.ProofKit
import Derived.Deep.Slices
import Derived.IntWalk
import Derived.Test.YtlfhmpkopcnheaaGreatProg
import Derived.Lib.BitFns
import Derived.Test.YtlfhmpkopcnheaaGreatBL
open And renaming intro->YHB
open Bool renaming and_eq_true->YHn,false_eq_true->YHG,not_eq_true'->YHD,or_eq_true->YHS
open Int renaming eq_ofNat_of_zero_le->YHv,mul_le_mul_of_nonneg_left->YHU,natCast_mul->YIj,toNat->YH0,toNat_natCast->YHj
open Go.IntWalk renaming i64_in->YHi,u64_in->YHJ
open List renaming getD_eq_getElem?_getD->YHo,getElem?_append_left->YH6,getElem?_cons_zero->YH9,getElem?_eq_getElem->YH2,map_cons->YHH,mem_cons->YHI,mem_cons_of_mem->YHu,mem_cons_self->YHw,take_length->YIq
open Nat renaming add_mul->YHT,beq->YH1,div_add_mod->YH5,div_div_eq_div_mul->YId,div_lt_iff_lt_mul->YHW,eq_of_beq_eq_true->YHF,eq_zero_or_pos->YH4,le_div_iff_mul_le->YH7,le_refl->YHr,le_trans->YHC,lt_of_le_of_lt->YIi,lt_of_lt_of_le->YIa,lt_or_ge->YHA,mod_lt->YIk,mul_add->YIo,mul_assoc->YHt,mul_comm->YHq,mul_le_mul->YHE,mul_le_mul_left->YHx,mul_le_mul_right->YHs,mul_left_comm->YHY,not_lt_zero->YIf,one_mul->YIu,pow_add->YHz,pow_le_pow_left->YHN,pow_le_pow_right->YHL,pow_mul->YHQ,pow_pos->YIv,pow_succ->YHR,reduceAdd->YHf,reduceEqDiff->YHg,reduceLeDiff->YHh,zero_add->YIb,zero_le->YHK
open Option renaming bind_eq_some_iff->YHl,map_eq_some_iff->YHm
open Go.Proofs.Tryz renaming prog->YHk
set_option linter.all false
namespace Go.Vx
open Go.RowKit Go.WideShapes Go.ChangeShapes
inductive Sh where
 |int (k:IntKind)
 |bool
 |str
 |slice (l:List Sh)
def Yba:List Sh->Nat
 | []=>0
 |_::l=>Yba l+1
mutual
def okS:Sh->SV->Prop
 | .int k,v=> ∃n,v= .int k n/\(Lit.int k n).wf=true
 | .bool,v=> ∃b,v= .bool b
 | .str,v=> ∃s:ByteArray,v= .val (.string s)/\s.size<=maxLen
 | .slice l,v=> ∃z n get,v= .vs false z n (Yba l) get/\n<=maxLen/\∀k,k<n->okSL l (get k)
def okSL:List Sh->List SV->Prop
 | [],[]=>True
 |s::l,v::r=>okS s v/\okSL l r
 |_,_=>False
end
def Yb5(P:Program)(fl:TypeId->Option (List Sh)):Nat->List Field->Option (List Sh)
 |_,[]=>some []
 |off,f::fs=>bif YH1 f.offset off then(fl f.type).bind fun l=>bif YH1 (Yba l) (P.cellsOf f.type)then(Yb5 P fl (off+P.cellsOf f.type) fs).map (l++·)else none else none
def YAW:Nat->List Sh->List Sh
 |0,_=>[]
 |n+1,l=>l++YAW n l
def flat(P:Program):Nat->TypeId->Option (List Sh)
 |0,_=>none
 |n+1,t=>match P.underlying t with
  |some (.int k)=>some [.int k]
  |some .bool=>some [.bool]
  |some .string=>some [.str]
  |some (.slice e)=>(flat P n e).bind fun l=>bif YH1 (Yba l) (P.cellsOf e)then(bif Nat.ble 1 (Yba l)then some [.slice l]else none)else none
  |some (.struct fs)=>(Yb5 P (flat P n) 0 fs.toList).bind fun l=>bif YH1 (Yba l) (P.cellsOf t)then some l else none
  |some (.array m e)=>(flat P n e).bind fun l=>bif YH1 (Yba l) (P.cellsOf e)then(bif YH1 (m*P.cellsOf e) (P.cellsOf t)then some (YAW m l)else none)else none
  |_=>none
theorem YkY:∀(a b:List Sh),Yba (a++b)=Yba a+Yba b
 | [],b=>by simp [Yba]
 |_::a,b=>by simp [Yba,YkY a b];omega
theorem Yjs:∀{a b:List Sh}{x y:List SV},okSL a x->okSL b y->okSL (a++b) (x++y)
 | [],_,[],_,_,h=>h
 | [],_,_::_,_,h,_=>h.elim
 |_::_,_,[],_,h,_=>h.elim
 |_::_,_,_::_,_,h,h'=>⟨h.1,Yjs h.2 h'⟩
def bd0(n:Nat):Bd:=⟨n,fun _=>True,fun _=>none,fun _ _ _=>trivial,fun _ _=>rfl⟩
def cx0(w:World):Cx0:={ toWorld:=w,F:=fun _=>True,I:=fun _=>none,up:=fun _ _ _=>trivial,ex:=fun _ _=>rfl}
section
variable {H:Type} {enc:TypeId×Value->H} {P:Program} {w:World} {B:Nat} {base:Nat} {spare:Nat->Bool} {held:Bool}
theorem XRepL.append:∀{l r:List SV}{vs us:List Value},XRepL w [] (bd0 B) l vs->XRepL w [] (bd0 B) r us->XRepL w [] (bd0 B) (l++r) (vs++us)
 |_,_,_,_,.nil,h=>h
 |_,_,_,_,.cons x v l vs h h',hr=> .cons _ _ _ _ h (XRepL.append h' hr)
theorem YdP{fl:TypeId->Option (List Sh)}{fuel:Nat}{cs:List Value}
 (ih:∀(t:TypeId) (cs:List Value) (x:DataW H×List MemPlace) (l:List Sh),fl t=some l->DataW.trod enc P w base spare held fuel t cs=some x->∃svs,XRepL w [] (bd0 B) svs cs/\okSL l svs):
 ∀(fs:List Field)(off:Nat)(l:List Sh),Yb5 P fl off fs=some l->(∀f∈fs,∃x,DataW.trod enc P w base spare held fuel f.type ((cs.drop f.offset).take (P.cellsOf f.type))=some x)->off+Yba l=cs.length->
  ∃svs,XRepL w [] (bd0 B) svs (cs.drop off)/\okSL l svs
 | [],off,l,h,_,hl=>by
   simp only[Yb5,Option.some.injEq]at h
   subst h
   simp only[Yba,Nat.add_zero]at hl
   refine⟨[],?_,trivial⟩
   rw[List.drop_of_length_le (by omega)];exact .nil
 |f::fs,off,l,h,hall,hl=>by
  unfold Yb5 at h
  cases hb:YH1 f.offset off with
  |false=>rw[hb]at h;cases h
  |true=>
   rw[hb]at h
   have ho:=YHF hb
   obtain⟨l1,h1,h⟩:=YHl.1 h
   cases hb2:YH1 (Yba l1) (P.cellsOf f.type)with
   |false=>rw[hb2]at h;cases h
   |true=>
    rw[hb2]at h
    have hsz:=YHF hb2
    obtain⟨l2,h2,rfl⟩:=YHm.1 h
    obtain⟨x,hx⟩:=hall f YHw
    obtain⟨s1,r1,o1⟩:=ih _ _ _ _ h1 hx
    obtain⟨s2,r2,o2⟩:=YdP ih fs _ _ h2 (fun g hg=>hall g (YHu _ hg)) (by rw[YkY]at hl;omega)
    refine⟨s1++s2,?_,Yjs o1 o2⟩
    have:=r1.append r2
    rw[ho]at this
    have e:(cs.drop off).take (P.cellsOf f.type)++cs.drop (off+P.cellsOf f.type)=cs.drop off:=by
     rw[<-List.drop_drop];exact List.take_append_drop _ _
    rwa [e]at this
theorem YgG{fuel:Nat}{cs:List Value}{e:TypeId}{l:List Sh}(hs:Yba l=P.cellsOf e)
 (ih:∀(cs:List Value) (x:DataW H×List MemPlace),DataW.trod enc P w base spare held fuel e cs=some x->∃svs,XRepL w [] (bd0 B) svs cs/\okSL l svs):
 ∀(k j:Nat),(∀i,j<=i->i<j+k->∃x,DataW.trod enc P w base spare held fuel e ((cs.drop (i*P.cellsOf e)).take (P.cellsOf e))=some x)->j*P.cellsOf e+k*P.cellsOf e=cs.length->
  ∃svs,XRepL w [] (bd0 B) svs (cs.drop (j*P.cellsOf e))/\okSL (YAW k l) svs
 |0,j,_,hl=>by
  refine⟨[],?_,trivial⟩
  rw[List.drop_of_length_le (by omega)];exact .nil
 |k+1,j,hall,hl=>by
  obtain⟨x,hx⟩:=hall j (YHr _) (by omega)
  obtain⟨s1,r1,o1⟩:=ih _ _ hx
  obtain⟨s2,r2,o2⟩:=YgG hs ih k (j+1) (fun i h1 h2=>hall i (by omega) (by omega)) (by rw[Nat.succ_mul]at hl⊢;omega)
  refine⟨s1++s2,?_,Yjs o1 o2⟩
  have:=r1.append r2
  have e:(cs.drop (j*P.cellsOf e)).take (P.cellsOf e)++cs.drop ((j+1)*P.cellsOf e)=cs.drop (j*P.cellsOf e):=by
   rw[Nat.succ_mul,<-List.drop_drop];exact List.take_append_drop _ _
  rwa [e]at this
theorem YgW{α β:Type}{g:α->Option β}:∀{l:List α}{r:List β},l.mapM g=some r->∀x∈l,∃y,g x=some y
 | [],_,_,x,hx=>by cases hx
 |a::l,r,h,x,hx=>by
  rw[List.mapM_cons]at h
  cases ha:g a with
  |none=>rw[ha]at h;cases h
  |some y=>
   rw[ha]at h
   cases hl:l.mapM g with
   |none=>rw[hl]at h;cases h
   |some ys=>
    rcases YHI.1 hx with rfl|hx
    ·exact⟨y,ha⟩
    ·exact YgW hl x hx
theorem Yku{a:Addr}{n:Nat}{cs:List Value}(h:w.cells? base a n=some cs):cs.length=n/\∀j v,cs[j]? =some v->w.cell? (a.add j)=some v:=by
 unfold World.cells? at h
 split at h
 ·have key:∀(l:List Nat)(r:List Value),l.mapM (fun i=>w.cell? (a.add i))=some r->r.length=l.length/\∀(j:Nat)(v:Value),r[j]? =some v->∃i,l[j]? =some i/\w.cell? (a.add i)=some v:=by
   intro l
   induction l with
   |nil=>intro r h;simp at h;subst h;exact⟨rfl,fun j v h=>by simp at h⟩
   |cons i l ih=>
    intro r h
    rw[List.mapM_cons]at h
    cases hi:w.cell? (a.add i)with
    |none=>rw[hi]at h;cases h
    |some v0=>
     rw[hi]at h
     cases hl:l.mapM (fun i=>w.cell? (a.add i))with
     |none=>rw[hl]at h;cases h
     |some r'=>
      rw[hl]at h
      cases h
      obtain⟨h1,h2⟩:=ih r' hl
      refine⟨by simp [h1],fun j v hj=>?_⟩
      cases j with
      |zero=>simp only[YH9,Option.some.injEq]at hj;subst hj;exact⟨i,rfl,hi⟩
      |succ j=>obtain⟨i',k1,k2⟩:=h2 j v (by simpa using hj);exact⟨i',by simpa using k1,k2⟩
  obtain⟨h1,h2⟩:=key _ _ h
  refine⟨by simpa using h1,fun j v hj=>?_⟩
  obtain⟨i,k1,k2⟩:=h2 j v hj
  have:j<n:=by
   have:=(List.getElem?_eq_some_iff.1 hj).1
   simp at h1;omega
  rw[List.getElem?_range this]at k1
  cases k1;exact k2
 ·cases h
theorem Ye2{a:Addr}{v:Value}(h:w.cell? a=some v):a.spot=none/\∃cs T fz,w.heap[a.block]? =some (.cells cs T fz)/\cs[a.off]? =some v:=by
 unfold World.cell? at h
 split at h
 ·split at h
  ·cases h
  ·rename_i hs
   exact⟨by cases hq:a.spot with|none=>rfl|some _=>rw[hq]at hs;simp at hs,_,_,_,‹_›,h⟩
 ·cases h
theorem YwM:∀(n fuel:Nat)(t:TypeId)(cs:List Value)(x:DataW H×List MemPlace)(l:List Sh),flat P n t=some l->DataW.trod enc P w base spare held fuel t cs=some x->∃svs,XRepL w [] (bd0 B) svs cs/\okSL l svs:=by
 intro n
 induction n with
 |zero=>intro fuel t cs x l h;cases h
 |succ n ih=>
  intro fuel t cs x l h hx
  unfold flat at h
  split at h
  ·rename_i k hu
   cases h
   obtain⟨m,rfl,_,hw⟩:=DataW.trod_int hu hx
   exact⟨[.int k m],.cons _ _ _ _ (.int _ _) .nil,⟨m,rfl,hw⟩,trivial⟩
  ·rename_i hu
   cases h
   obtain⟨b,rfl,_⟩:=DataW.trod_bool hu hx
   exact⟨[.bool b],.cons _ _ _ _ (.bool _) .nil,⟨b,rfl⟩,trivial⟩
  ·rename_i hu
   cases h
   obtain⟨s,rfl,_,hs⟩:=DataW.trod_string hu hx
   exact⟨[.val (.string s)],.cons _ _ _ _ (.val _) .nil,⟨s,rfl,hs⟩,trivial⟩
  ·rename_i e hu
   obtain⟨le,he,h⟩:=YHl.1 h
   cases hb:YH1 (Yba le) (P.cellsOf e)with
   |false=>rw[hb]at h;cases h
   |true=>
   rw[hb]at h
   have hsz:=YHF hb
   cases hb1:Nat.ble 1 (Yba le)with
   |false=>rw[hb1]at h;cases h
   |true=>
   rw[hb1]at h
   have hpos:=Nat.le_of_ble_eq_true hb1
   cases h
   rcases Deep.open_slice hu hx with⟨rfl,_⟩ | ⟨a,len,cap,m,fu,D,Pl,rfl,hba,hlc,hcm,hm,_,hel⟩
   ·exact⟨[.vs false true 0 (Yba le) fun _=>[]],.cons _ _ _ _ (.vs _ _ _ _ _ none 0 (fun _=>[]) rfl (YHr _) (fun _=>⟨rfl,rfl⟩) (fun k hk=>by omega) (fun k hk=>by omega)) .nil,
     ⟨true,0,_,rfl,YHK _,fun k hk=>by omega⟩,trivial⟩
   ·have hlm:len<=m:=by rw[hm];split <;> omega
    have hel':∀k,∃vals svs,k<len->w.cells? base (a.add (k*P.cellsOf e)) (P.cellsOf e)=some vals/\XRepL w [] (bd0 B) svs vals/\okSL le svs:=by
     intro k
     by_cases hk:k<len
     ·obtain⟨cs',h1,h2⟩:=hel k (by omega)
      obtain⟨svs,h3,h4⟩:=ih fu e cs' _ _ he h2
      exact⟨cs',svs,fun _=>⟨h1,h3,h4⟩⟩
     ·exact⟨[],[],fun h=>absurd h hk⟩
    obtain⟨vals,hv⟩:=Classical.axiomOfChoice hel'
    obtain⟨get,hg⟩:=Classical.axiomOfChoice hv
    refine⟨[.vs false false len (Yba le) get],.cons _ _ _ _ (.vs _ _ _ _ _ (some a) cap vals rfl hlc (fun h=>by cases h) (fun k hk=>?_) (fun k hk=>(hg k hk).2.1)) .nil,⟨false,len,get,rfl,by omega,fun k hk=>(hg k hk).2.2⟩,trivial⟩
    have h0:=(hg 0 (by omega)).1
    obtain⟨l0,c0⟩:=Yku h0
    have hsp:a.spot=none:=by
     cases hv0:vals 0 with
     |nil=>rw[hv0]at l0;simp at l0;omega
     |cons v r=>
      have:=(Ye2 (c0 0 v (by rw[hv0];rfl))).1
      simpa [Addr.add]using this
    obtain⟨lk,ck⟩:=Yku (hg k hk).1
    refine⟨a,rfl,hsp,⟨YbL,trivial⟩,(fun h=>by cases h),by rw[lk,hsz],?_⟩
    cases hvk:vals k with
    |nil=>rw[hvk]at lk;simp at lk;omega
    |cons v r=>
     rw[hvk]at ck
     have e1:∀j,(a.add (k*P.cellsOf e)).add j=⟨a.block,a.off+k*P.cellsOf e+j,none⟩:=by
      intro j
      obtain⟨ab,ao,asp⟩:=a
      simp only at hsp
      subst hsp
      unfold Addr.add
      split <;> split <;> simp_all <;> omega
     obtain⟨_,cs2,T,fz,hb,hc⟩:=Ye2 (ck 0 v rfl)
     rw[e1]at hb
     refine⟨cs2,T,fz,hb,fun j u hj=>?_⟩
     obtain⟨_,cs3,T3,fz3,hb3,hc3⟩:=Ye2 (ck j u hj)
     rw[e1]at hb3 hc3
     simp only at hb hb3 hc3
     rw[hb]at hb3;cases hb3
     rw[hsz]
     exact hc3
  ·rename_i fs hu
   obtain⟨l0,hf,h⟩:=YHl.1 h
   cases hb:YH1 (Yba l0) (P.cellsOf t)with
   |false=>rw[hb]at h;cases h
   |true=>
    rw[hb]at h
    cases h
    have hsz:=YHF hb
    cases fuel with
    |zero=>simp [DataW.trod]at hx
    |succ fuel=>
     unfold DataW.trod at hx
     rw[hu]at hx
     simp only at hx
     split at hx
     ·rename_i hlen
      obtain⟨xs,hxs,_⟩:=YHm.1 hx
      have:=YdP (cs:=cs) (B:=B) (fun t cs x l h h'=>ih fuel t cs x l h h') fs.toList 0 l hf (fun f hf=>YgW hxs f hf) (by omega)
      simpa using this
     ·cases hx
  ·rename_i m e hu
   obtain⟨l0,hf,h⟩:=YHl.1 h
   cases hb:YH1 (Yba l0) (P.cellsOf e)with
   |false=>rw[hb]at h;cases h
   |true=>
    rw[hb]at h
    have hsz:=YHF hb
    cases hb2:YH1 (m*P.cellsOf e) (P.cellsOf t)with
    |false=>rw[hb2]at h;cases h
    |true=>
     rw[hb2]at h
     cases h
     have hsz2:=YHF hb2
     cases fuel with
     |zero=>simp [DataW.trod]at hx
     |succ fuel=>
      unfold DataW.trod at hx
      rw[hu]at hx
      simp only at hx
      split at hx
      ·rename_i hlen
       obtain⟨xs,hxs,_⟩:=YHm.1 hx
       have:=YgG (cs:=cs) (B:=B) hsz (fun cs x h'=>ih fuel e cs x l0 hf h') m 0 (fun i _ hi=>YgW hxs i (List.mem_range.2 (by omega))) (by omega)
       simpa using this
      ·cases hx
  ·cases h
structure PSh where
 agg:Bool
 l:List Sh
def okP(p:PSh)(v:SV):Prop:=
 match p.agg with
 |true=> ∃cs,v= .agg cs/\okSL p.l cs
 |false=>okSL p.l [v]
def okPL:List PSh->List SV->Prop
 | [],[]=>True
 |p::l,v::r=>okP p v/\okPL l r
 |_,_=>False
def YAm(P:Program)(t:TypeId):Option PSh:=
 (flat P 16 t).bind fun l=>match P.underlying t with
   |some (.struct _)=>some ⟨true,l⟩
   |some (.array _ _)=>some ⟨true,l⟩
   |some (.int _) |some .bool|some .string|some (.slice _)=>some ⟨false,l⟩
   |_=>none
def Yld(P:Program):List TypeId->Option (List PSh)
 | []=>some []
 |t::l=>(YAm P t).bind fun p=>(Yld P l).map (p::·)
theorem YfZ{n:Nat}{t:TypeId}{l:List Sh}(h:flat P n t=some l)(hu:(∃k,P.underlying t=some (.int k))\/P.underlying t=some .bool\/P.underlying t=some .string\/∃e,P.underlying t=some (.slice e)):∃s,l=[s]:=by
 cases n with
 |zero=>cases h
 |succ n=>
  unfold flat at h
  rcases hu with⟨k,hu⟩ |hu|hu| ⟨e,hu⟩ <;> rw[hu]at h <;> simp only at h
  ·cases h;exact⟨_,rfl⟩
  ·cases h;exact⟨_,rfl⟩
  ·cases h;exact⟨_,rfl⟩
  ·obtain⟨le,_,h⟩:=YHl.1 h
   cases hb:YH1 (Yba le) (P.cellsOf e)with
   |false=>rw[hb]at h;cases h
   |true=>
    rw[hb]at h
    cases hb1:Nat.ble 1 (Yba le)with
    |false=>rw[hb1]at h;cases h
    |true=>rw[hb1]at h;cases h;exact⟨_,rfl⟩
theorem YsU{r:Reach}{b0:Nat}{t:TypeId}{v:Value}{d:DataW H}{ps:List MemPlace}{p:PSh}(hp:YAm P t=some p)(hval:Value.okWide P w r b0 t v)(hd:DataW.Trod enc P w base spare held t v d ps):∃sv,XRep w [] (bd0 B) sv v/\okP p sv:=by
 obtain⟨fuel,hf⟩:=id hd
 unfold YAm at hp
 obtain⟨l,hl,hp⟩:=YHl.1 hp
 obtain⟨svs,h1,h2⟩:=YwM (B:=B) 16 fuel t _ _ l hl hf
 have one:∀(c:Value),v.cells.toList=[c]->v=c->(∃s,l=[s])->∃sv,XRep w [] (bd0 B) sv v/\okP ⟨false,l⟩ sv:=by
  rintro c hc rfl ⟨s,rfl⟩
  rw[hc]at h1
  cases h1 with
  |cons sv _ svs' _ k1 k2=>
   cases k2
   exact⟨sv,k1,h2⟩
 split at hp
 ·rename_i fs hu
  cases hp
  unfold Value.okWide at hval
  rw[hu]at hval
  simp only at hval
  obtain⟨cs,rfl,_⟩:=hval
  refine⟨.agg svs,?_,svs,rfl,h2⟩
  have:=XRep.agg (w:=w) (bs:=[]) (B:=bd0 B) svs cs.toList h1
  simpa using this
 ·rename_i m e hu
  cases hp
  unfold Value.okWide at hval
  rw[hu]at hval
  simp only at hval
  obtain⟨cs,rfl,_⟩:=hval
  refine⟨.agg svs,?_,svs,rfl,h2⟩
  have:=XRep.agg (w:=w) (bs:=[]) (B:=bd0 B) svs cs.toList h1
  simpa using this
 ·rename_i k hu
  cases hp
  obtain⟨n,rfl⟩:=okWide_int hu hval
  exact one _ rfl rfl (YfZ hl (.inl ⟨_,hu⟩))
 ·rename_i hu
  cases hp
  obtain⟨n,rfl⟩:=okWide_bool hu hval
  exact one _ rfl rfl (YfZ hl (.inr (.inl hu)))
 ·rename_i hu
  cases hp
  obtain⟨n,rfl⟩:=okWide_string hu hval
  exact one _ rfl rfl (YfZ hl (.inr (.inr (.inl hu))))
 ·rename_i e hu
  cases hp
  obtain⟨a,len,cap,rfl⟩:=okWide_slice hu hval
  exact one _ rfl rfl (YfZ hl (.inr (.inr (.inr ⟨_,hu⟩))))
 ·cases hp
theorem Yif{r:Reach}{b0:Nat}:∀{ts:List TypeId}{vs:List Value}{ds:List (DataW H)}{ps:List MemPlace}{shs:List PSh},Yld P ts=some shs->(∀(j:Nat) t v,ts[j]? =some t->vs[j]? =some v->Value.okWide P w r b0 t v)->
 DataW.TrodAll enc P w base spare held ts vs ds ps->∃svs,XRepL w [] (bd0 B) svs vs/\okPL shs svs
 | [],vs,ds,ps,shs,h,_,hd=>by
   simp only[Yld,Option.some.injEq]at h
   subst h
   obtain⟨rfl,_,_⟩:=trodAll_nil hd
   exact⟨[],.nil,trivial⟩
 |t::ts,vs,ds,ps,shs,h,hv,hd=>by
  unfold Yld at h
  obtain⟨p,hp,h⟩:=YHl.1 h
  obtain⟨shs',hs,rfl⟩:=YHm.1 h
  obtain⟨v,vs',d,ds',p1,q1,rfl,rfl,rfl,h1,h2⟩:=trodAll_cons hd
  obtain⟨sv,k1,k2⟩:=YsU (B:=B) hp (hv 0 t v rfl rfl) h1
  obtain⟨svs,k3,k4⟩:=Yif hs (fun j t' v' ht hv'=>hv (j+1) t' v' (by simpa using ht) (by simpa using hv')) h2
  exact⟨sv::svs,.cons _ _ _ _ k1 k3,k2,k4⟩
end
def YAV(P:Program)(ts:List TypeId):Bool:=ts.all fun t=>P.readableRec t&&Nat.blt t P.types.size
theorem Yfu{H:Type}{enc:TypeId×Value->H}{P:Program}(hl:laidOutB P=true){W W':World}(hb:Below W.heap.size W W'):
 ∀{ts:List TypeId}{vs:List Value}{ds:List (DataW H)}{ps:List MemPlace},YAV P ts=true->DataW.TrodAll enc P W 0 (fun _=>true) true ts vs ds ps->DataW.TrodAll enc P W' 0 (fun b=>decide (b<W.heap.size)) true ts vs ds ps
 | [],vs,ds,ps,_,h=>by
   obtain⟨rfl,rfl,rfl⟩:=trodAll_nil h
   rfl
 |t::ts,vs,ds,ps,hr,h=>by
  obtain⟨v,vs',d,ds',p1,q1,rfl,rfl,rfl,h1,h2⟩:=trodAll_cons h
  simp only[YAV,List.all_cons,YHn]at hr
  have hlt:∀x∈p1,x.block<W.heap.size:=by obtain⟨m,hm⟩:=h1;exact DataW.trod_lt m _ _ _ hm
  refine⟨_,_,Below.trod hl hr.1.1 ?_ h1 hb hlt,Yfu hl hb hr.2 h2,rfl⟩
  have:=hr.1.2
  simpa using this
theorem Yhu{H:Type}{enc:TypeId×Value->H}{P:Program}{W:World}{base:Nat}{spare:Nat->Bool}{held:Bool}:
 ∀{ts:List TypeId}{vs:List Value}{ds:List (DataW H)}{ps:List MemPlace},DataW.TrodAll enc P W base spare held ts vs ds ps->ds.length=ts.length
 | [],vs,ds,ps,h=>by obtain⟨_,rfl,_⟩:=trodAll_nil h;rfl
 |t::ts,vs,ds,ps,h=>by
  obtain⟨v,vs',d,ds',p1,q1,rfl,rfl,rfl,h1,h2⟩:=trodAll_cons h
  simp [Yhu h2]
theorem Yf{s:Sh}{l:List Sh}{c:List SV}(h:okSL (s::l) c):∃x r,c=x::r/\okS s x/\okSL l r:=by
 cases c with
 |nil=>exact h.elim
 |cons x r=>exact⟨x,r,rfl,h.1,h.2⟩
theorem YbN{c:List SV}(h:okSL [] c):c=[]:=by
 cases c with
 |nil=>rfl
 |cons x r=>exact h.elim
theorem Yjr{p:PSh}{l:List PSh}{c:List SV}(h:okPL (p::l) c):∃x r,c=x::r/\okP p x/\okPL l r:=by
 cases c with
 |nil=>exact h.elim
 |cons x r=>exact⟨x,r,rfl,h.1,h.2⟩
theorem Yk9{c:List SV}(h:okPL [] c):c=[]:=by
 cases c with
 |nil=>rfl
 |cons x r=>exact h.elim
theorem Yme{l:List Sh}{v:SV}(h:okP ⟨true,l⟩ v):∃cs,v= .agg cs/\okSL l cs:=h
theorem Ysp{α:Type}[Inhabited α]{n:Nat}{P:Nat->α->Prop}(h:∀k,k<n->∃x,P k x):∃l:List α,l.length=n/\∀k,k<n->P k (l.getD k default):=by
 induction n with
 |zero=>exact⟨[],rfl,fun k hk=>absurd hk (YIf _)⟩
 |succ n ih=>
  obtain⟨l,h1,h2⟩:=ih fun k hk=>h k (by omega)
  obtain⟨x,hx⟩:=h n (by omega)
  refine⟨l++[x],by simp [h1],fun k hk=>?_⟩
  rcases YHA k n with h'|h'
  ·have:=h2 k h'
   rw[YHo]at this⊢
   rwa [YH6 (by omega)]
  ·obtain rfl:k=n:=by omega
   rw[YHo,List.getElem?_append_right (by omega),h1,Nat.sub_self]
   exact hx
def lawC(shs:List PSh):Ctr:={ alias:=false,of:=fun l=> .pre (okPL shs l) (.fin (.bool true) [])}
theorem Ypa{C:Checked}{f:FuncId}{fn:Func}{s:ChangeSpec}{dom:List PathCond}{os:Os}{H:Type}{enc:TypeId×Value->H}{shs:List PSh}{tb:TypeId}
 (own:ownKnob C.prog.godebug=none)(started:os.Started)(noInit:C.prog.inits.idxOf? f=none)(hfn:C.prog.funcs[f]? =some fn)(hl:laidOutB C.prog=true)
 (witness:∃(w:World) (tape:Tape) (i:Input),w.os=os/\(w.forCall tape i).Shaped C.prog/\i.vars=[]/\Input.okWide C.prog (w.forCall tape i) .any w.heap.size f i/\
   s.pre6 enc C.prog fn dom false (w.forCall tape i).memory i.args/\({}:Assume).holds C.prog (lone (Frame.enter C.prog f i.args .normal) [] (w.forCall tape i)))
 (hsh:Yld C.prog fn.params.toList=some shs)(hread:YAV C.prog fn.params.toList=true)(hres:fn.resultTypes.toList=[tb])(htb:C.prog.underlying tb=some .bool)(hvars:s.vars=[])
 (hspec:∀ds:List (DataW H),ds.length=fn.params.toList.length->(s.fn H ds).results=[.lit (.bool true)]/\(s.fn H ds).args=ds/\(s.fn H ds).vars=[])(hc:(lawC shs).ok C.prog f)(hn:C.prog.globalNamed "quintadena/ratios.primes" =none):
 ReturnsInHanded {} C os f .any (s.pre6 enc C.prog fn dom false) (s.post enc C.prog fn false true false false):=by
 refine returnsInHanded_of_change own started noInit hfn witness ?_
 intro W base args ds gs before hval hW hcnd _
 obtain⟨p,q,hA,hV,hbef,hfz,hnd⟩:=id hW
 have hlen:=Yhu hA
 rw[hvars]at hV
 obtain⟨rfl,rfl⟩:=trodVars_none hV
 obtain⟨svs,k1,k2⟩:=Yif (B:=W.heap.size) hsh (fun j t v ht hv=>hval j t v (by simpa using ht) (by simpa using hv)) hA
 have hcall:=hc svs args.toList (cx0 W) (fun r hs=>r= .bool true) ⟨fun b K h=>(by cases h),fun g l h=>by simp [glob,hn]at h⟩ k1 ⟨k2,rfl⟩
 simp only[Array.toArray_toList]at hcall
 refine hcall.mono fun e W' h=>?_
 obtain⟨r,hs,v,bs,J,hJ,rfl,rfl,hr,_,hbI,_⟩:=h
 have hb:Below W.heap.size W W':=⟨hbI.os,hbI.tape,hbI.output,hbI.size,fun k hk=>hbI.block k hk rfl⟩
 have hv:=hr.bool_inv
 subst hv
 obtain⟨s1,s2,s3⟩:=hspec ds hlen
 refine⟨_,rfl,ds,[],before,[],p,[],hW,?_,?_,?_,hb.frame _,fun h=>by cases h⟩
 ·rw[List.append_nil,s1,hres]
  have hsz:fn.resultTypes.size=1:=by rw[<-Array.length_toList,hres];rfl
  have:(Value.bool true).resultList fn.resultTypes.size=[.bool true]:=by rw[hsz];rfl
  rw[this]
  exact trodAll_mk1 (shut_bool htb true)
 ·rw[List.append_nil,s2]
  exact Yfu hl hb hread hA
 ·rw[List.append_nil,s3,hvars];rfl
end Go.Vx
namespace Go.Vx
def idxK(ho:HO)(n size j:Nat)(i:Int):Option Ef:=
 match ho with
 | .own _ sz m _=>YB (0<=i/\i<n/\sz=size/\m=n) (.elem j i.toNat 0 size)
 | .box _=>YB (0<=i/\i<n) (.ptr j (idxN i size))
 |_=>none
theorem q_idx{hp:List HO}{n size j:Nat}{k:IntKind}{i:Int}:Yct hp n size [.ptr j 0,.int k i]=idxK (getH hp j) n size j i:=rfl
def YzG(ho:HO)(n size j o:Nat)(i:Int):Option Ef:=
 match ho with
 | .box _=>YB (0<=i/\i<n) (.ptr j (o+idxN i size))
 |_=>none
theorem YEK{hp:List HO}{n size j:Nat}{k:IntKind}{i:Int}:Yct hp n size [.ptr j 1,.int k i]=YzG (getH hp j) n size j 1 i:=rfl
theorem YEL{hp:List HO}{n size j:Nat}{k:IntKind}{i:Int}:Yct hp n size [.ptr j 2,.int k i]=YzG (getH hp j) n size j 2 i:=rfl
theorem YzH:idxN 0 1=0:=rfl
theorem YzI:idxN 0 2=0:=rfl
theorem YzJ:idxN 0 3=0:=rfl
theorem YzK:idxN 0 4=0:=rfl
theorem YzL:idxN 1 2=2:=rfl
theorem YzO:idxN 2 2=4:=rfl
theorem YzM:idxN 1 3=3:=rfl
theorem YzN:idxN 1 4=4:=rfl
def stoK(ho:HO)(size i off:Nat)(vals:List SV):Option Ef:=
 match ho with
 | .box cs=>some { pre:=off+size<=lenL cs,val:= .junk,upd:= .set i (.box (Y7 cs off vals))}
 | .own z sz n _=>match off with
   |0=>some { pre:=size=n*sz/\0<sz,val:= .junk,upd:= .set i (.own z sz n (Ybh sz vals))}
   |_=>none
 | .smap _=>none
 | .gone=>none
def stoE(ho:HO)(size i k off sz:Nat)(vals:List SV):Option Ef:=
 match ho with
 | .own z size' n get=>some { pre:=k<n/\sz=size'/\off+size<=sz,val:= .junk,upd:= .set i (.own z size' n fun j=>if j=k then Y7 (get k) off vals else get j)}
 |_=>none
theorem YEQ{hp:List HO}{size i off:Nat}{vals:List SV}:storeAt hp size vals (.ptr i off)=stoK (getH hp i) size i off vals:=rfl
theorem YEN{size i off:Nat}{cs vals:List SV}:stoK (.box cs) size i off vals=some { pre:=off+size<=lenL cs,val:= .junk,upd:= .set i (.box (Y7 cs off vals))}:=rfl
theorem YEP{z:Bool}{sz n size i:Nat}{g:Nat->List SV}{vals:List SV}:stoK (.own z sz n g) size i 0 vals=some { pre:=size=n*sz/\0<sz,val:= .junk,upd:= .set i (.own z sz n (Ybh sz vals))}:=rfl
theorem YEO{hp:List HO}{size i k off sz:Nat}{vals:List SV}:storeAt hp size vals (.elem i k off sz)=stoE (getH hp i) size i k off sz vals:=rfl
def appN(nx size bytes:Nat)(r:Option (Nat×(Nat->List SV))):Option Ef:=
 r.bind fun(m,gx)=>eNew (.own (decide (m=0)) size m gx) (.own (nx) 0 m size) (Y3 m bytes/\∀k,k<m->lenL (gx k)=size/\ones (gx k))
def appO(ho:HO)(i n sz size bytes:Nat)(r:Option (Nat×(Nat->List SV))):Option Ef:=
 match ho with
 | .own z s' _ get=>r.map fun(m,gx)=>
     {pre:=sz=size/\s'=size/\Y3 (n+m) bytes/\∀k,k<m->lenL (gx k)=size/\ones (gx k),val:= .own i 0 (n+m) size,
      upd:= .app i (.own (z&&decide (m=0)) size (n+m) fun k=>if k<n then Yq i (get k)else Yq i (gx (k-n)))}
 |_=>none
theorem YEF{nx:Nat}{hp:List HO}{size bytes:Nat}{x:SV}:Ybw nx hp size bytes [.nil,x]=appN nx size bytes (YcP hp x):=rfl
theorem YEG{nx:Nat}{hp:List HO}{size bytes i n sz:Nat}{x:SV}:Ybw nx hp size bytes [.own i 0 n sz,x]=appO (getH hp i) i n sz size bytes (YcP hp x):=rfl
def appC(nx size bytes:Nat)(ry r:Option (Nat×(Nat->List SV))):Option Ef:=
 ry.bind fun(n,gy)=>r.bind fun(m,gx)=>eNew (.own false size (n+m) fun k=>if k<n then gy k else gx (k-n)) (.own (nx) 0 (n+m) size)
  (0<m/\Y3 (n+m) bytes/\(∀k,k<n->lenL (gy k)=size/\ones (gy k))/\∀k,k<m->lenL (gx k)=size/\ones (gx k))
theorem YEE{nx:Nat}{hp:List HO}{size bytes:Nat}{y x:SV}:Ybw nx hp size bytes [.cut y,x]=appC nx size bytes (YcP hp y) (YcP hp x):=rfl
def sliK(ho:HO)(n size j:Nat):Option Ef:=
 match ho with
 | .own _ sz m _=>YB (sz=size/\m=n) (.own j 0 n size)
 |_=>none
theorem q_sli{hp:List HO}{n size j:Nat}:Ybx hp n size false false [.ptr j 0]=sliK (getH hp j) n size j:=rfl
theorem YEM{n:Nat}{get:Nat->List SV}:Yjw 0 n get=some (True,YgH n 0 get):=rfl
theorem q_fl1{get:Nat->List SV}:YgH 1 0 get=get 0++[]:=rfl
theorem q_fl2{get:Nat->List SV}:YgH 2 0 get=get 0++(get 1++[]):=rfl
theorem q_fl3{get:Nat->List SV}:YgH 3 0 get=get 0++(get 1++(get 2++[])):=rfl
theorem q_fl4{get:Nat->List SV}:YgH 4 0 get=get 0++(get 1++(get 2++(get 3++[]))):=rfl
theorem q_ch1{cs:List SV}:Ybh 1 cs 0=YT 1 cs:=rfl
theorem YEH{cs:List SV}:Ybh 1 cs 1=YT 1 (YM 1 cs):=rfl
theorem YEI{cs:List SV}:Ybh 1 cs 2=YT 1 (YM 2 cs):=rfl
theorem YEJ{cs:List SV}:Ybh 1 cs 3=YT 1 (YM 3 cs):=rfl
theorem q_fo(b:Bool):(false|| b)=b:=rfl
theorem q_to(b:Bool):(true|| b)=true:=rfl
def YDO(s:S)(i:Nat)(keep:List Nat)(ghosts:List HO)(Yab:List (Nat×SV))(blocks:List (Nat×HO)):S:=
 {fr:=Ylj (keepG keep s.fr) Yab,saved:=Yhd i s.saved,hp:=Ys3 (s.hp++ghosts) blocks}
theorem Loop.keepF{r:List It->S->Prop}{body:VC}{K:List It}{s:S}(keep:List Nat)(σ:Type)(Yab:σ->List (Nat×SV))(blocks:σ->List (Nat×HO))(ghosts:List HO)(inv:σ->Prop)(μ:σ->Nat)
 (h0:∃x,inv x/\leF s (Ye5 s keep ghosts (Yab x) (blocks x)))
 (h:∀x,inv x->r (.code body:: .inLoop (fun s'=> ∃y,inv y/\μ y<μ x/\leF s' (Ye5 s keep ghosts (Yab y) (blocks y)))::K) (Ye5 s keep ghosts (Yab x) (blocks x))):Loop r body K s leP:=
 ⟨σ,fun x=>Ye5 s keep ghosts (Yab x) (blocks x),inv,μ,leF,fun _ _ h=>⟨[],trivial,h⟩,h0,h⟩
theorem Loop.keepG{r:List It->S->Prop}{body:VC}{K:List It}{s:S}(keep:List Nat)(σ:Type)(Yab:σ->List (Nat×SV))(blocks:σ->List (Nat×HO))(ghosts:List HO)(inv:σ->Prop)(μ:σ->Nat)
 (h0:∃x,inv x/\leP s (Ye5 s keep ghosts (Yab x) (blocks x)))
 (h:∀x,inv x->r (.code body:: .inLoop (fun s'=> ∃y,inv y/\μ y<μ x/\leP s' (Ye5 s keep ghosts (Yab y) (blocks y)))::K) (Ye5 s keep ghosts (Yab x) (blocks x))):Loop r body K s leP:=
 ⟨σ,fun x=>Ye5 s keep ghosts (Yab x) (blocks x),inv,μ,leP,fun _ _ h=>h,h0,h⟩
open Go.RowKit in
@[reducible] def Zm (d a:Nat):VOp:=u1 d .mov [.tm a]
@[reducible] def Zi (d:Nat) (k:Int):VOp:=u1 d .mov [.cn (.int .i64 k)]
@[reducible] def Ze (d i a:Nat):VOp:=u1 d (.ext i) [.tm a]
@[reducible] def Zt (d s a:Nat):VOp:=u1 d (.load true s) [.tm a]
@[reducible] def Zf (d s a:Nat):VOp:=u1 d (.load false s) [.tm a]
@[reducible] def Zs (s a b:Nat):VOp:=u0 (.store s) [.tm a,.tm b]
@[reducible] def Za (d f a:Nat):VOp:=u1 d (.fieldAddr f) [.tm a]
@[reducible] def Zc (d f a:Nat):VOp:=u1 d (.call f) [.tm a]
@[reducible] def Zd (d f a b:Nat):VOp:=u1 d (.call f) [.tm a,.tm b]
@[reducible] def Zx (d s a b:Nat):VOp:=u1 d (.idxAddr s) [.tm a,.tm b]
@[reducible] def Zp (d a:Nat) (k:Int):VOp:=u1 d (.ari .add) [.tm a,.cn (.int .i64 k)]
@[reducible] def Zq (d:Nat) (c:Cmp) (a:Nat) (k:Int):VOp:=u1 d (.cmp c) [.tm a,.cn (.int .i64 k)]
@[reducible] def Zr (d:Nat) (c:Cmp) (a b:Nat):VOp:=u1 d (.cmp c) [.tm a,.tm b]
@[reducible] def Zl (d a:Nat):VOp:=u1 d .len [.tm a]
@[reducible] def Zn (d:Nat):VOp:=u1 d (.alloc [.int .i64 0,.int .i64 0]) []
@[reducible] def Zo (d:Nat) (o:Ari) (a b:Nat):VOp:=u1 d (.ari o) [.tm a,.tm b]
@[reducible] def Zg (d g:Nat) (t:Bool) (a:Nat):VOp:=u2 d g t .mov [.tm a]
@[reducible] def Zh (d g:Nat) (t:Bool) (s a:Nat):VOp:=u2 d g t (.load false s) [.tm a]
@[reducible] def Zj (d g:Nat) (t:Bool) (f a:Nat):VOp:=u2 d g t (.fieldAddr f) [.tm a]
@[reducible] def Zu (d a:Nat):DOp:=w1 d .mov [.tm a]
@[reducible] def Zv (d s a:Nat):DOp:=w1 d (.load false s) [.tm a]
@[reducible] def Zw (d s a:Nat):DOp:=w1 d (.load true s) [.tm a]
@[reducible] def Zy (d f a:Nat):DOp:=w1 d (.fieldAddr f) [.tm a]
@[reducible] def Zz (d f a b:Nat):DOp:=w1 d (.call f) [.tm a,.tm b]
@[reducible] def ZX (d s a b:Nat):DOp:=w1 d (.idxAddr s) [.tm a,.tm b]
@[reducible] def ZS (s a b:Nat):DOp:=w0 (.store s) [.tm a,.tm b]
@[reducible] def ZE (d i a:Nat):DOp:=w1 d (.ext i) [.tm a]
@[reducible] def ZR (l:List VOp) (c:VC):VC:= .seq (.region l) c
@[reducible] def ZC (a:Nat) (c d:VC):VC:= .cond (.tm a) c d
attribute [go_sem] Zm Zi Ze Zt Zf Zs Za Zc Zd Zx Zp Zq Zr Zl Zn Zo Zg Zh Zj Zu Zv Zw Zy Zz ZX ZS ZE ZR ZC
attribute [go_sem] pubV pubL Ywm YfJ pub1 pubC YAw pubS pubP YFg YFh YAN YAO YE6 psd Yer YiW Ynv Yi0 YiY Yjk Ys8 YAS VO.bad u0 u1 u2 w0 w1 YlT ctM ctI frzV frzL YvI YfF frz1 YzB frzS frzP Ynx YE9 YFa r_nil r_op YFe YAR r_op0 YFm YFn r_y YFi YxJ YAP YxK YAQ Ys9 Ywr Ywq YE4 YAI YAU YFl r_tbr YFp YFq VO.isAppend chkG chkA napP napB YBg YE0 r_dop YE1 YE3 YE2 r_dq r_dq0 YET YES YEV YEU YEZ YAH r_dgd YEY YEX YEW r_op1 r_eff YE5 YER YAE r_inl YFc r_w r_wX r_wH r_w0 r_g r_gq r_gc YE7 YAJ YE8 YAK YAF Ywn r_fin r_pre r_imp r_all r_ex YFb YFf r_exg Ys7 Ywp Ys6 Ywo YFk YAT Yws r_seq YxH YAG YAD YxI YAL YAM YFj YFd YA0 YA1 s_xt s_xc padL Yko callee YiK eff ctOf getL setL S.put S.upd YfA Ymt YR YjS YDX Yah YzC eMov eNot eNeg YvB eExt YiX eLen YiZ eEqb eEqv YbI eNil YgY YkG eCmp eAri ari eBit eDiv eSh YgE Ye4 Ye3 kEq YB cmpB VO.quiet Yaw Yn9 Yfz Yak YbA cond eNew eBox YaB lenH Ybp Ydt Ynw YhF Yat getH setH YM YT YfI lenL lenS shift YcO YS viewN YaS view andT Yr5 YfX YDQ YDR YDS YDT Yny Yh4 Y7 ones one Ynz Ykr YBf YlJ YtB YqN YrH YcP repL YL Ybh Yq Yhd YaF Yhc refs Yhh YwV wrAl YtO YlC wrC junkAt Ylj Ys3 YkN Ye5 keepG Ycz chkP YhU YqW blk Ypt YhJ AL.ho yld Ylk lenN Yd2 Ybm Yo8 YkT YzR idxK YzG YEK YEL q_idx YzH YzI YzJ YzK YzL YzO YzM YzN stoE YEQ YEN YEP YEO appN appO YEF YEG appC YEE Yi1 sliK q_sli noOwn Yai YEM q_fl1 q_fl2 q_fl3 q_fl4 q_ch1 YEH YEI YEJ YDO q_fo q_to
theorem it_p(α:Prop):(α->True)=True:=implies_true α
theorem it_t(α:Type):(α->True)=True:=implies_true α
theorem fc_t{b:Prop}(α:Type)[Nonempty α]:(α->b)↔b:=forall_const α
theorem fc_p{b:Prop}(α:Prop)[Nonempty α]:(α->b)↔b:=forall_const α
theorem ne_t{α:Type}(a b:α):(a≠b)=¬(a=b):=rfl
def Ya:=YHB @imp_self (YHB @true_and (YHB @and_true (YHB @it_p (YHB @it_t (YHB @YDZ (YHB @YnO (YHB @Ysg (YHB @YzY (YHB @Yxr (YHB @YzV (YHB @YD4 (YHB @YvU (YHB @Ysd (YHB @Yjm (YHB @YzT (YHB @YvS (YHB @YvT (YHB @Ysa (YHB @YEc (YHB @YD3 (YHB @Yxs (YHB @YD8 (YHB @YD7 (YHB @le_xp (YHB @YgS (YHB @YD6 (YHB @YEb (YHB @YzW (YHB @Ypb (YHB @Ysi (YHB @Ysc (YHB @Ysf (YHB @YzU (YHB @Yy4 (YHB @Yvj (YHB @Yzc (YHB @Yy5 (YHB @Yvm (YHB @YDt (YHB @YDu (YHB @Yy3 (YHB @Yzb (YHB @Yy8 (YHB @Yy7 (YHB @Yvk (YHB @YDs (YHB @Yrh (YHB @Yy6 (YHB @Yy9 (YHB @Yri (YHB @Yvl (YHB @Yza (YHB @YD9 (YHB @YvW (YHB @YzX (YHB @YEa (YHB @Ysb (YHB @Yvi (YHB @Yrg (YHB @Ysl (@YvX)))))))))))))))))))))))))))))))))))))))))))))))))))))))))))))
def Yc:=YHB @true_imp_iff (YHB @fc_p (YHB @it_p (YHB @it_t (YHB @fc_t (YHB @ne_t (YHB @true_and (YHB @and_true (YHB @imp_self (YHB @decide_eq_true_eq (YHB @decide_eq_false_iff_not (YHB @Bool.not_not (YHB @false_imp_iff (YHB @YHD (YHB @Bool.not_eq_false' (YHB @YHG (YHB @and_self (@not_false_eq_true)))))))))))))))))
attribute [go_sem] Option.bind Option.map List.append_nil YH1 List.cons_append List.nil_append List.append_eq YHH List.map_nil ite_self
end Go.Vx
namespace Go.Proofs.YtlfhmpkopcnheaaGreat
open Go Go.Vx
theorem YbH{x:Int}(h1: -9223372036854775808<=x)(h2:x<=9223372036854775807):IntKind.i64.wrap x=x:=YHi x (by omega)
theorem Y0{i n:Nat}(h:i<n)(hn:n<=9223372036854775807):IntKind.i64.wrap ((i:Int)+1)=((i+1:Nat):Int):=by
 rw[YHi _ (by omega)];simp
theorem Yh{α:Type}[Inhabited α]{l:List α}{i:Nat}(h:i<l.length):l.getD i default∈l:=by
 rw[YHo,YH2 h];exact List.getElem_mem h
theorem YQ{α:Type}[Inhabited α]{l:List α}{x:α}(h:x∈l):∃i,i<l.length/\l.getD i default=x:=by
 obtain⟨j,hj,rfl⟩:=List.getElem_of_mem h
 exact⟨j,hj,by rw[YHo,YH2 hj];rfl⟩
theorem YjP{α:Type}[Inhabited α]{l:List α}{f:α->Bool}{i:Nat}(h:i<l.length):(l.take (i+1)).all f=((l.take i).all f&&f (l.getD i default)):=by
 rw[List.take_add_one,List.all_append,YHo,YH2 h]
 simp
theorem YjQ{α:Type}[Inhabited α]{l:List α}{f:α->Bool}{i:Nat}(h:i<l.length):(l.take (i+1)).any f=((l.take i).any f|| f (l.getD i default)):=by
 rw[List.take_add_one,List.any_append,YHo,YH2 h]
 simp
theorem Ycj{α:Type}{l:List α}{i:Nat}(h:l.length<=i):l.take i=l:=List.take_of_length_le h
theorem YbP{α:Type}[Inhabited α]{l:List α}{i:Nat}(h:i<l.length):l.take (i+1)=l.take i++[l.getD i default]:=by
 rw[List.take_add_one,YHo,YH2 h];rfl
theorem Ym{α β:Type}[Inhabited α]{l:List α}{f:β->α->β}{b:β}{i:Nat}(h:i<l.length):(l.take (i+1)).foldl f b=f ((l.take i).foldl f b) (l.getD i default):=by
 rw[YbP h,List.foldl_append]
 rfl
theorem YvY{α:Type}[Inhabited α]{a b:List α}(h:a.length=b.length)(hh:∀i,i<a.length->a.getD i default=b.getD i default):a=b:=by
 refine List.ext_getElem h fun i h1 h2=>?_
 have:=hh i h1
 rwa [YHo,YHo,YH2 h1,YH2 h2]at this
def Yb9(f:Nat->Bool):Nat->Nat->Nat
 |0,k=>k
 |n+1,k=>if f k then k else Yb9 f n (k+1)
theorem YcC{f:Nat->Bool}:∀(n k:Nat),k<=Yb9 f n k/\Yb9 f n k<=n+k/\(∀j,k<=j->j<Yb9 f n k->f j=false)/\(Yb9 f n k<n+k->f (Yb9 f n k)=true)
 |0,k=>⟨YHr _,by simp [Yb9],fun j h1 h2=>by simp [Yb9]at h2;omega,fun h=>by simp [Yb9]at h⟩
 |n+1,k=>by
  unfold Yb9
  split
  ·rename_i h;exact⟨YHr _,by omega,fun j h1 h2=>by omega,fun _=>h⟩
  ·rename_i h
   obtain⟨h1,h2,h3,h4⟩:=YcC (f:=f) n (k+1)
   refine⟨by omega,by omega,fun j a b=>?_,fun hlt=>h4 (by omega)⟩
   rcases YHA k j with h'|h'
   ·exact h3 j h' b
   ·obtain rfl:j=k:=by omega
    simpa using h
theorem YkX{f:Nat->Bool}{n m:Nat}(h1:∀j,j<m->f j=false)(h2:m<=n)(h3:m<n->f m=true):Yb9 f n 0=m:=by
 obtain⟨a,b,c,d⟩:=YcC (f:=f) n 0
 rcases Nat.lt_trichotomy (Yb9 f n 0) m with h|h|h
 ·have:=h1 _ h
  rw[d (by omega)]at this;cases this
 ·exact h
 ·have:=c m (YHK _) h
  rw[h3 (by omega)]at this;cases this
theorem YO{a b c d:Int}(h1:a<=c)(h2:b<=d)(ha:0<=a)(hd:0<=d):a*b<=c*d:=
 Int.le_trans (YHU h2 ha) (Int.mul_le_mul_of_nonneg_right h1 hd)
def noC:CRes:= .pre False (.fin .junk [])
def trueC:Ctr:={ alias:=false,of:=fun a=>match a with
 | []=> .fin (.bool true) []
 |_=>noC}
def lsP{α:Type}[Inhabited α](size:Nat)(e:α->List SV)(n sz:Nat)(get:Nat->List SV)(l:List α):Prop:=sz=size/\n=l.length/\∀k,k<n->leXL (get k) (e (l.getD k default))
theorem YD{α:Type}[Inhabited α]{size:Nat}{e:α->List SV}{l:List α}:lsP size e l.length size (fun k=>e (l.getD k default)) l:=⟨rfl,rfl,fun k _=>Yd _⟩
def enc1(x:Int):List SV:=[.int .i64 x]
def enc2(x:Int×Int):List SV:=[.int .i64 x.1,.int .i64 x.2]
theorem YsA:maxLen=9223372036854775807:=by decide
theorem mid{i j m:Nat}(hi:i<=m)(hj:j<=m)(hm:m<=4611686018427387903):IntKind.i64.wrap ((IntKind.u64.wrap (IntKind.i64.wrap ((i:Int)+(j:Int)))).fdiv (2^min (1:Int).toNat IntKind.u64.bits))=(((i+j)/2:Nat):Int):=by
 have e1:IntKind.i64.wrap ((i:Int)+(j:Int))=(i:Int)+j:=YHi _ (by omega)
 have e2:IntKind.u64.wrap ((i:Int)+(j:Int))=(i:Int)+j:=YHJ _ (by omega)
 have e3:(2:Int)^min (1:Int).toNat IntKind.u64.bits=2:=by decide
 rw[e1,e2,e3,Int.fdiv_eq_ediv_of_nonneg _ (by omega),YHi _ (by omega)]
 omega
def Yvh:List Sh:=[.int .i64,.int .i64]
theorem iv_of{c:List SV}(h:okSL Yvh c):∃p:Int×Int,c=enc2 p:=by
 obtain⟨_,_,rfl,⟨n1,rfl,_⟩,e1⟩:=Yf h
 obtain⟨_,_,rfl,⟨n2,rfl,_⟩,e2⟩:=Yf e1
 cases YbN e2
 exact⟨(n1,n2),rfl⟩
theorem Yok{α:Type}[Inhabited α]{sh:List Sh}{e:α->List SV}(hof:∀c,okSL sh c->∃a,leXL c (e a)){v:SV}(h:okS (.slice sh) v):∃(z:Bool) (l:List α),l.length<=maxLen/\leX v (.vs false z l.length (Yba sh) (fun k=>e (l.getD k default))):=by
 obtain⟨z,n,get,rfl,hn,hg⟩:=h
 obtain⟨l,hl,hp⟩:=Ysp (P:=fun k a=>leXL (get k) (e a)) fun k hk=>hof _ (hg k hk)
 exact⟨z,l,by rw[hl];exact hn,fun h=>h,rfl,hl.symm,rfl,hp⟩
theorem Yxo{v:SV}(h:okS (.slice Yvh) v):∃(z:Bool) (l:List (Int×Int)),l.length<=maxLen/\leX v (.vs false z l.length 2 (fun k=>enc2 (l.getD k default))):=
 Yok (fun c hc=>let⟨p,h⟩:=iv_of hc;⟨p,by rw[h];exact Yd _⟩) h
def cdiv(x d:Nat):Nat:=if x/d*d<x then x/d+1 else x/d
theorem Ybg(x d:Nat)(hd:0<d):x<=cdiv x d*d:=by
 have h:=YH5 x d
 have h2:=YIk x hd
 rw[YHq]at h
 unfold cdiv
 split
 ·rw[YHT,YIu];omega
 ·omega
theorem YaK{x d k:Nat}(h:x<=k*d):cdiv x d<=k:=by
 unfold cdiv
 rcases YH4 d with h0|h0
 ·subst h0
  simp only[Nat.mul_zero,Nat.div_zero]at*
  split <;> omega
 split
 ·rename_i h1
  rw[Nat.lt_iff_add_one_le]at*
  refine Nat.lt_of_mul_lt_mul_right (a:=d) ?_
  omega
 ·exact Nat.div_le_of_le_mul (by rw[YHq];exact h)
theorem Ysh(x d:Nat):x/d<=cdiv x d:=by
 unfold cdiv
 split <;> omega
theorem Ydq{x y d:Nat}(h:x<=y):x/d<=cdiv y d:=YHC (Nat.div_le_div_right h) (Ysh y d)
theorem Yro{x d:Nat}(hd:0<d):cdiv (cdiv x d) 2=cdiv x (d*2):=by
 refine Nat.le_antisymm (YaK (YaK ?_)) (YaK ?_)
 ·have:=Ybg x (d*2) (by omega)
  rw[YHt,YHq 2 d];exact this
 ·have h1:=Ybg x d hd
  have h2:=YHs d (Ybg (cdiv x d) 2 (by decide))
  rw[YHq d 2,<-YHt];omega
def gl(M:Nat)(t:Bool):Nat->Nat->Nat->Nat->Nat×Nat
 |0,_,_,S=>(S,S+1)
 |f+1,A,B,S=>
  if A*A/M<2*M then
   if cdiv (B*B) M<2*M then gl M t f (A*A/M) (cdiv (B*B) M) (2*S)
   else(S*2^(f+1),(S+1)*2^(f+1))
  else
   if(t&&decide (2*M<=cdiv (cdiv (B*B) M) 2))=true then(S*2^(f+1),(S+1)*2^(f+1))
   else gl M t f (A*A/M/2) (cdiv (cdiv (B*B) M) 2) (2*S+1)
theorem YgL(M:Nat)(t:Bool):∀(f A B S:Nat),S*2^f<=(gl M t f A B S).1/\(gl M t f A B S).2<=(S+1)*2^f
 |0,A,B,S=>by simp [gl]
 |f+1,A,B,S=>by
  have e1:∀x,x*2^(f+1)=x*2*2^f:=fun x=>by rw[YHR,YHt,YHq 2 (2^f)]
  have m:∀x y,x<=y->x*2^f<=y*2^f:=fun x y h=>YHs _ h
  rw[gl]
  split
  ·split
   ·obtain⟨h1,h2⟩:=YgL M t f (A*A/M) (cdiv (B*B) M) (2*S)
    rw[e1,e1]
    exact⟨YHC (m _ _ (by omega)) h1,YHC h2 (m _ _ (by omega))⟩
   ·exact⟨YHr _,YHr _⟩
  ·split
   ·exact⟨YHr _,YHr _⟩
   ·obtain⟨h1,h2⟩:=YgL M t f (A*A/M/2) (cdiv (cdiv (B*B) M) 2) (2*S+1)
    rw[e1,e1]
    exact⟨YHC (m _ _ (by omega)) h1,YHC h2 (m _ _ (by omega))⟩
theorem YxQ{P A N M A1:Nat}(hM:0<M)(h:P*A<=N*M)(h1:A1*M<=A*A):P*P*A1<=N*N*M:=by
 refine Nat.le_of_mul_le_mul_right (c:=M) ?_ hM
 have k1:P*P*(A1*M)<=P*P*(A*A):=YHx _ h1
 have k2:(P*A)*(P*A)<=(N*M)*(N*M):=YHE h h
 have e1:P*P*A1*M=P*P*(A1*M):=YHt ..
 have e2:P*P*(A*A)=(P*A)*(P*A):=by simp only[YHt,YHY]
 have e3:(N*M)*(N*M)=N*N*M*M:=by simp only[YHt,YHY]
 omega
theorem Ytx{P B N M B1:Nat}(hM:0<M)(h:N*M<=P*B)(h1:B*B<=B1*M):N*N*M<=P*P*B1:=by
 refine Nat.le_of_mul_le_mul_right (c:=M) ?_ hM
 have k1:P*P*(B*B)<=P*P*(B1*M):=YHx _ h1
 have k2:(N*M)*(N*M)<=(P*B)*(P*B):=YHE h h
 have e1:P*P*B1*M=P*P*(B1*M):=YHt ..
 have e2:P*P*(B*B)=(P*B)*(P*B):=by simp only[YHt,YHY]
 have e3:(N*M)*(N*M)=N*N*M*M:=by simp only[YHt,YHY]
 omega
theorem Ydb(S:Nat):2^(2*S)=2^S*2^S:=by rw[<-YHz];congr 1;omega
theorem YsY(N f:Nat):N^(2^(f+1))=(N*N)^(2^f):=by
 rw[YHR,YHq (2^f) 2,YHQ,Nat.pow_two]
theorem YnJ(M:Nat)(t:Bool)(hM:0<M):∀(f A B S N:Nat),2^S*A<=N*M->N*M<=2^S*B->M<=A->B<=2*M->2^(gl M t f A B S).1<=N^(2^f)/\N^(2^f)<=2^(gl M t f A B S).2:=by
 have stop:∀(f A B S N:Nat),2^S*A<=N*M->N*M<=2^S*B->M<=A->B<=2*M->2^S<=N/\N<=2^(S+1):=by
  intro f A B S N h1 h2 ha hb
  constructor
  ·refine Nat.le_of_mul_le_mul_right (c:=M) ?_ hM
   have:=YHx (2^S) ha
   omega
  ·refine Nat.le_of_mul_le_mul_right (c:=M) ?_ hM
   have:=YHx (2^S) hb
   rw[YHR,YHt]
   omega
 have stop2:∀(f S N:Nat),2^S<=N/\N<=2^(S+1)->2^(S*2^f)<=N^(2^f)/\N^(2^f)<=2^((S+1)*2^f):=fun f S N h=>by
  rw[YHQ,YHQ]
  exact⟨YHN h.1 _,YHN h.2 _⟩
 intro f
 induction f with
 |zero=>
  intro A B S N h1 h2 ha hb
  have:=stop 0 A B S N h1 h2 ha hb
  simpa [gl]using this
 |succ f ih=>
  intro A B S N h1 h2 ha hb
  have hs:=stop2 (f+1) S N (stop f A B S N h1 h2 ha hb)
  have hA:A*A/M*M<=A*A:=Nat.div_mul_le_self _ _
  have hB:B*B<=cdiv (B*B) M*M:=Ybg _ _ hM
  have k1:=YxQ hM h1 hA
  have k2:=Ytx hM h2 hB
  have hA1:M<=A*A/M:=(YH7 hM).2 (YHE ha ha)
  have hB1:cdiv (B*B) M<=4*M:=YaK (by
   have:=YHE hb hb
   have e:4*M*M=2*M*(2*M):=by rw[Nat.mul_mul_mul_comm,YHt]
   omega)
  rw[gl,YsY]
  rw[YsY]at hs
  split
  ·split
   ·refine ih _ _ _ _ ?_ ?_ hA1 (by omega)
    ·rw[Ydb];exact k1
    ·rw[Ydb];exact k2
   ·exact hs
  ·rename_i hge
   split
   ·exact hs
   ·have hB2:cdiv (B*B) M<=cdiv (cdiv (B*B) M) 2*2:=Ybg _ _ (by decide)
    have hA2:A*A/M/2*2<=A*A/M:=Nat.div_mul_le_self _ _
    have e3:∀x,2^(2*S+1)*x=2^S*2^S*(x*2):=fun x=>by rw[YHR,Ydb,YHt,YHq 2 x]
    refine ih _ _ _ _ ?_ ?_ (by omega) (YaK (by omega))
    ·rw[e3]
     exact YHC (YHx _ hA2) k1
    ·rw[e3]
     exact YHC k2 (YHx _ hB2)
theorem YkL(M E:Nat)(t:Bool)(hM:0<M)(hE:0<E)(g:Nat):∀(f A B S A' B':Nat),E*A<=A'->A'<=B'->B'<=E*B->
 (gl M t f A B S).1*2^g<=(gl (M*E) false (f+g) A' B' S).1/\(gl (M*E) false (f+g) A' B' S).2<=(gl M t f A B S).2*2^g:=by
 intro f
 induction f with
 |zero=>
  intro A B S A' B' _ _ _
  have:=YgL (M*E) false (0+g) A' B' S
  simpa [gl]using this
 |succ f ih=>
  intro A B S A' B' ha hab hb
  have stop:S*2^(f+1)*2^g<=(gl (M*E) false (f+1+g) A' B' S).1/\(gl (M*E) false (f+1+g) A' B' S).2<=(S+1)*2^(f+1)*2^g:=by
   have:=YgL (M*E) false (f+1+g) A' B' S
   rw[YHt,YHt,<-YHz]
   exact this
  have hME:0<M*E:=Nat.mul_pos hM hE
  have q1:E*(A*A/M)<=A'*A'/(M*E):=by
   rw[YH7 hME]
   have h1:A*A/M*M<=A*A:=Nat.div_mul_le_self _ _
   have h2:=YHx (E*E) h1
   have h3:=YHE ha ha
   have e1:E*(A*A/M)*(M*E)=E*E*(A*A/M*M):=by simp only[YHt,YHY,YHq]
   have e2:E*A*(E*A)=E*E*(A*A):=by simp only[YHt,YHY,YHq]
   omega
  have q2:cdiv (B'*B') (M*E)<=E*cdiv (B*B) M:=YaK (by
   have h1:B*B<=cdiv (B*B) M*M:=Ybg _ _ hM
   have h2:=YHx (E*E) h1
   have h3:=YHE hb hb
   have e1:E*cdiv (B*B) M*(M*E)=E*E*(cdiv (B*B) M*M):=by simp only[YHt,YHY,YHq]
   have e2:E*B*(E*B)=E*E*(B*B):=by simp only[YHt,YHY,YHq]
   omega)
  have q3:A'*A'/(M*E)<=cdiv (B'*B') (M*E):=Ydq (YHE hab hab)
  have e2M:2*(M*E)=E*(2*M):=by rw[<-YHt,YHq]
  by_cases c1:A*A/M<2*M
  ·by_cases c2:cdiv (B*B) M<2*M
   ·have d2:cdiv (B'*B') (M*E)<2*(M*E):=by
     rw[e2M]
     exact YIi q2 (Nat.mul_lt_mul_of_pos_left c2 hE)
    have d1:A'*A'/(M*E)<2*(M*E):=by omega
    rw[show f+1+g=(f+g)+1 by omega,gl,if_pos c1,if_pos c2,gl,if_pos d1,if_pos d2]
    exact ih _ _ _ _ _ q1 q3 q2
   ·rw[gl.eq_def M t (f+1)]
    simp only
    rw[if_pos c1,if_neg c2]
    exact stop
  ·have d1:¬A'*A'/(M*E)<2*(M*E):=by
    have:E*(2*M)<=E*(A*A/M):=YHx _ (by omega)
    omega
   by_cases c2:(t&&decide (2*M<=cdiv (cdiv (B*B) M) 2))=true
   ·rw[gl.eq_def M t (f+1)]
    simp only
    rw[if_neg c1,if_pos c2]
    exact stop
   ·rw[show f+1+g=(f+g)+1 by omega,gl,if_neg c1,if_neg c2,gl,if_neg d1,if_neg (by simp)]
    refine ih _ _ _ _ _ ?_ (Ydq q3) (YaK ?_)
    ·rw[YH7 (by decide)]
     have h1:A*A/M/2*2<=A*A/M:=Nat.div_mul_le_self _ _
     have h2:=YHx E h1
     rw[YHt];omega
    ·have h1:cdiv (B*B) M<=cdiv (cdiv (B*B) M) 2*2:=Ybg _ _ (by decide)
     have h2:=YHx E h1
     rw[YHt];omega
def dig(a i:Nat):Nat:=a/4294967296^i%4294967296
theorem Yaa(i:Nat):0<4294967296^i:=YIv (by decide)
theorem YaP(i:Nat):4294967296^(i+1)=4294967296^i*4294967296:=YHR ..
theorem Yb0(a i:Nat):dig a i<4294967296:=YIk _ (by decide)
theorem Yfs(a i:Nat):a%4294967296^(i+1)=a%4294967296^i+4294967296^i*dig a i:=Nat.mod_pow_succ
theorem YDD(a:Nat):dig a 0=a%4294967296:=by simp [dig]
theorem YfV(i:Nat):dig 0 i=0:=by simp [dig]
theorem Yvt(a i:Nat):dig a (i+1)=dig (a/4294967296) i:=by
 unfold dig
 rw[YId,YaP,YHq]
theorem Ycr{a n i:Nat}(h:a<4294967296^n)(hi:n<=i):dig a i=0:=by
 unfold dig
 rw[Nat.div_eq_of_lt]
 exact YIa h (YHL (by decide) hi)
theorem YsB{a b:Nat}:∀{n:Nat},(∀i,i<n->dig a i=dig b i)->a%4294967296^n=b%4294967296^n
 |0,_=>by simp [Nat.mod_one]
 |n+1,h=>by rw[Yfs,Yfs,YsB fun i hi=>h i (by omega),h n (by omega)]
theorem Yzk{a b n:Nat}(ha:a<4294967296^n)(hb:b<4294967296^n)(h:∀i,i<n->dig a i=dig b i):a=b:=by
 have:=YsB h
 rwa [Nat.mod_eq_of_lt ha,Nat.mod_eq_of_lt hb]at this
theorem YiQ{a j k:Nat}(h:k<j):dig (a%4294967296^j) k=dig a k:=by
 unfold dig
 obtain⟨m,rfl⟩:∃m,j=k+(m+1):=⟨j-k-1,by omega⟩
 rw[YHz,Nat.mod_mul_right_div_self,YHR,YHq,Nat.mod_mul_right_mod]
def nlF:Nat->Nat->Nat
 |0,_=>0
 |f+1,a=>if a=0 then 0 else nlF f (a/4294967296)+1
def nl(a:Nat):Nat:=nlF a a
theorem YxA:∀(f a n:Nat),a<=f->(nlF f a<=n↔a<4294967296^n)
 |0,a,n,h=>by
  have:=Yaa n
  simp only[nlF];omega
 |f+1,a,n,h=>by
  simp only[nlF]
  split
  ·rename_i h0;have:=Yaa n;subst h0;simp;omega
  ·cases n with
   |zero=>simp;omega
   |succ n=>
    have:=YxA f (a/4294967296) n (by omega)
    rw[YaP,<-YHW (by decide),<-this]
    omega
theorem nl_le{a n:Nat}:nl a<=n↔a<4294967296^n:=YxA a a n (YHr _)
theorem Ypf(a:Nat):a<4294967296^nl a:=nl_le.1 (YHr _)
theorem nl_0:nl 0=0:=rfl
theorem nl_eq0{a:Nat}:nl a=0↔a=0:=by
 have:= @nl_le a 0
 simp at this;omega
theorem YEj{a:Nat}(h:a≠0):dig a (nl a-1)≠0:=by
 obtain⟨n,hn⟩:∃n,nl a=n+1:=⟨nl a-1,by have:=nl_eq0 (a:=a);omega⟩
 rw[hn,Nat.add_sub_cancel]
 have h1:=Ypf a
 have h2:¬a<4294967296^n:=fun hh=>by have:=nl_le.2 hh;omega
 rw[hn,YaP]at h1
 unfold dig
 have h3:a/4294967296^n<4294967296:=by rw[YHW (Yaa n),YHq];exact h1
 rw[Nat.mod_eq_of_lt h3]
 have:=Nat.div_pos (Nat.le_of_not_lt h2) (Yaa n)
 omega
theorem Ymb{a b:Nat}(h:a<=b):nl a<=nl b:=nl_le.2 (YIi h (Ypf b))
theorem Yg0{a n:Nat}(h:a<4294967296^n)(ht:n=0\/dig a (n-1)≠0):nl a=n:=by
 have h1:=nl_le.2 h
 rcases ht with rfl|ht
 ·omega
 ·rcases YHA (nl a) n with h2|h2
  ·exact absurd (Ycr (Ypf a) (by omega:nl a<=n-1)) ht
  ·omega
theorem YgV{a n:Nat}(h:a<4294967296^(n+1))(h0:dig a n=0):a<4294967296^n:=by
 have:=Yfs a n
 rw[h0,Nat.mod_eq_of_lt h]at this
 rw[this]
 simpa using YIk a (Yaa n)
def cy(a b i:Nat):Nat:=(a%4294967296^i+b%4294967296^i)/4294967296^i
theorem cy_0(a b:Nat):cy a b 0=0:=by simp [cy,Nat.mod_one]
theorem Yzi(a b i:Nat):cy a b i<=1:=by
 unfold cy
 have h1:=YIk a (Yaa i)
 have h2:=YIk b (Yaa i)
 have:(a%4294967296^i+b%4294967296^i)/4294967296^i<2:=by
  rw[YHW (Yaa i)];omega
 omega
theorem YDG(a b i:Nat):(a+b)/4294967296^i=a/4294967296^i+b/4294967296^i+cy a b i:=by
 unfold cy
 have h1:=YH5 a (4294967296^i)
 have h2:=YH5 b (4294967296^i)
 generalize hP:4294967296^i=P at*
 have hp:0<P:=hP▸Yaa i
 have e:a+b=P*(a/P+b/P)+(a%P+b%P):=by rw[YIo];omega
 conv=>lhs;rw[e]
 rw[Nat.mul_add_div hp]
theorem YlK(a b i:Nat):(dig a i+dig b i+cy a b i)%4294967296=dig (a+b) i:=by
 unfold dig
 rw[YDG]
 omega
theorem Yw5(a b i:Nat):(dig a i+dig b i+cy a b i)/4294967296=cy a b (i+1):=by
 have e:cy a b (i+1)=(a%4294967296^(i+1)+b%4294967296^(i+1))/4294967296^(i+1):=rfl
 rw[e,Yfs,Yfs,YaP,<-YId]
 unfold cy
 generalize hP:4294967296^i=P at*
 have hp:0<P:=hP▸Yaa i
 have e:a%P+P*dig a i+(b%P+P*dig b i)=P*(dig a i+dig b i)+(a%P+b%P):=by rw[YIo];omega
 rw[e,Nat.mul_add_div hp]
def setD(V j x:Nat):Nat:=V-dig V j*4294967296^j+x*4294967296^j
theorem YeT(V j:Nat):V=4294967296^j*(4294967296*(V/4294967296^(j+1))+dig V j)+V%4294967296^j:=by
 have h1:=YH5 V (4294967296^j)
 have h2:=YH5 (V/4294967296^j) 4294967296
 rw[YId,<-YaP]at h2
 unfold dig
 rw[h2,h1]
theorem YjG(V j x:Nat):setD V j x=4294967296^j*(4294967296*(V/4294967296^(j+1))+x)+V%4294967296^j:=by
 have:=YeT V j
 unfold setD
 generalize dig V j=d at*
 generalize V/4294967296^(j+1)=h at*
 generalize V%4294967296^j=l at*
 generalize 4294967296^j=P at*
 rw[YIo]at this⊢
 rw[YHq d,YHq x]
 omega
theorem YjF(V j x:Nat):setD V j x+dig V j*4294967296^j=V+x*4294967296^j:=by
 have:=YeT V j
 rw[YjG]
 generalize dig V j=d at*
 generalize V/4294967296^(j+1)=h at*
 generalize V%4294967296^j=l at*
 generalize 4294967296^j=P at*
 rw[YIo]at this⊢
 rw[YHq d,YHq x]
 omega
theorem Yod{V j x:Nat}(hx:x<4294967296):setD V j x/4294967296^(j+1)=V/4294967296^(j+1):=by
 have hl:=YIk V (Yaa j)
 have e:∀Y:Nat,Y/4294967296^(j+1)=Y/4294967296^j/4294967296:=fun Y=>by rw[YaP,YId]
 rw[YjG,e (4294967296^j*(4294967296*(V/4294967296^(j+1))+x)+V%4294967296^j),Nat.mul_add_div (Yaa j),Nat.div_eq_of_lt hl]
 generalize V/4294967296^(j+1)=h
 omega
theorem YfU{V j x:Nat}(hx:x<4294967296)(k:Nat):dig (setD V j x) k=if k=j then x else dig V k:=by
 have hl:=YIk V (Yaa j)
 rcases Nat.lt_trichotomy k j with h|h|h
 ·rw[if_neg (by omega),<-YiQ h,<-YiQ (a:=V) h,YjG,Nat.mul_add_mod,Nat.mod_mod]
 ·subst h
  rw[if_pos rfl,YjG]
  unfold dig
  rw[Nat.mul_add_div (Yaa k),Nat.div_eq_of_lt hl]
  omega
 ·rw[if_neg (by omega)]
  obtain⟨m,rfl⟩:∃m,k=(j+1)+m:=⟨k-(j+1),by omega⟩
  unfold dig
  have e:setD V j x/4294967296^(j+1)=V/4294967296^(j+1):=by
   exact Yod hx
  rw[YHz,<-YId,<-YId,e]
theorem Yto{V j x n:Nat}(hV:V<4294967296^n)(hx:x<4294967296)(hj:j<n):setD V j x<4294967296^n:=by
 obtain⟨m,rfl⟩:∃m,n=m+(j+1):=⟨n-(j+1),by omega⟩
 rw[YHz,<-YHW (Yaa _)]at hV⊢
 rw[Yod hx]
 exact hV
theorem Yv7{a b i k V c:Nat}(h:V+c*4294967296^(i+k)=(a%4294967296^i)*b+dig a i*(b%4294967296^k)*4294967296^i):
 setD V (i+k) ((dig V (i+k)+dig a i*dig b k+c)%4294967296)+((dig V (i+k)+dig a i*dig b k+c)/4294967296)*4294967296^(i+(k+1))=(a%4294967296^i)*b+dig a i*(b%4294967296^(k+1))*4294967296^i:=by
 have e1:=YjF V (i+k) ((dig V (i+k)+dig a i*dig b k+c)%4294967296)
 have e2:=YH5 (dig V (i+k)+dig a i*dig b k+c) 4294967296
 rw[Yfs,show i+(k+1)=(i+k)+1 by omega,YaP]
 rw[YHz]at*
 generalize setD V (i+k) ((dig V (i+k)+dig a i*dig b k+c)%4294967296)=V' at*
 generalize(dig V (i+k)+dig a i*dig b k+c)%4294967296=r at*
 generalize(dig V (i+k)+dig a i*dig b k+c)/4294967296=q at*
 generalize dig V (i+k)=d at*
 generalize dig a i=x at*
 generalize dig b k=y at*
 generalize b%4294967296^k=bm at*
 generalize a%4294967296^i=am at*
 generalize 4294967296^i=P at*
 generalize 4294967296^k=R at*
 grind
theorem YsD{d x y c:Nat}(hd:d<4294967296)(hx:x<4294967296)(hy:y<4294967296)(hc:c<4294967296):d+x*y+c<18446744073709551616/\(d+x*y+c)/4294967296<4294967296:=by
 have:x*y<=4294967295*4294967295:=YHE (by omega) (by omega)
 omega
theorem YrC(a m k:Nat):dig (a/4294967296^m) k=dig a (m+k):=by
 unfold dig
 rw[YHz,YId]
theorem YAc(a b:Nat):∃n,a<4294967296^n/\b<4294967296^n:=
 ⟨nl a+nl b,YIa (Ypf a) (YHL (by decide) (by omega)),YIa (Ypf b) (YHL (by decide) (by omega))⟩
theorem YrA{a b:Nat}(h:∀i,dig a i=dig b i):a=b:=by
 obtain⟨n,h1,h2⟩:=YAc a b
 exact Yzk h1 h2 fun i _=>h i
theorem YDE{a b m:Nat}(h:∀i,m<=i->dig a i=dig b i):a/4294967296^m=b/4294967296^m:=
 YrA fun i=>by rw[YrC,YrC];exact h _ (by omega)
theorem YrB{a b j:Nat}(h:∀i,j<i->dig a i=dig b i)(hd:dig a j<dig b j):a<b:=by
 have h1:=YeT a j
 have h2:=YeT b j
 rw[YDE (m:=j+1) fun i hi=>h i hi]at h1
 have h3:=YIk a (Yaa j)
 generalize b/4294967296^(j+1)=q at*
 generalize 4294967296^j=P at*
 generalize a%P=x at*
 generalize b%P=y at*
 generalize dig a j=d at*
 generalize dig b j=e at*
 have:P*(4294967296*q+d)+P<=P*(4294967296*q+e):=by
  rw[<-Nat.mul_succ];exact YHx _ (by omega)
 omega
def ordN(a b:Nat):Int:=if a<b then -1 else if b<a then 1 else 0
theorem YP{j:Nat}(h:0<j)(hj:j<=9223372036854775807):IntKind.i64.wrap ((j:Int)-1)=((j-1:Nat):Int):=by
 rw[YHi _ (by omega)];omega
theorem YbX{x:Nat}(h:x<18446744073709551616):IntKind.u64.wrap (x:Int)=x:=YHJ _ (by omega)
theorem YtH{x:Nat}(h:x<4294967296):IntKind.u32.wrap (x:Int)=x:=IntWalk.u32_in _ (by omega)
theorem YhN{x y:Nat}(h:x+y<18446744073709551616):IntKind.u64.wrap ((x:Int)+(y:Int))=((x+y:Nat):Int):=by rw[YHJ _ (by omega)];simp
theorem Yms{x y:Nat}(h:x*y<18446744073709551616):IntKind.u64.wrap ((x:Int)*(y:Int))=((x*y:Nat):Int):=by
 rw[<-YIj];exact YbX h
theorem u_sub{x y:Nat}(h:y<=x)(hx:x<18446744073709551616):IntKind.u64.wrap ((x:Int)-(y:Int))=((x-y:Nat):Int):=by
 rw[YHJ _ (by omega)];omega
set_option maxRecDepth 100000
set_option maxHeartbeats 4000000
def padP(a n sz:Nat)(get:Nat->List SV):Prop:=sz=1/\n<=100000/\a<4294967296^n/\∀k,k<n->leXL (get k) [.int .u32 (dig a k)]
theorem YsS{a n:Nat}(hn:n<=100000)(ha:a<4294967296^n):padP a n 1 (fun k=>[.int .u32 (dig a k)]):=⟨rfl,hn,ha,fun k _=>Yd _⟩
theorem YaD{a:Nat}(hn:nl a<=100000):padP a (nl a) 1 (fun k=>[.int .u32 (dig a k)]):=YsS hn (Ypf a)
def natS(z:Bool)(a:Nat):SV:= .vs true z (nl a) 1 (fun k=>[.int .u32 (dig a k)])
theorem YAl{hp:List HO}{i n m:Nat}{z zz:Bool}{get:Nat->List SV}{a:Nat}(hn:n=nl a)(hz:z=zz)(hi:getH hp i= .own z 1 m get)(hg:∀j,j<n->get j=[.int .u32 (dig a j)]):
 le 0 0 (expo hp (.own i 0 n 1)) (natS zz a):=by
 have e:expo hp (.own i 0 n 1)= .vs true z n 1 (fun k=>viewN true hp 2 (get (Ybu 0 k))):=by
  show view true hp (viewN true hp 2) (.own i 0 n 1)=_
  unfold view
  rw[hi];rfl
 rw[e]
 unfold natS
 rw[YEc]
 refine⟨id,hz,hn,rfl,fun j hj=>?_⟩
 show leXL (viewN true hp 2 (get j)) _
 rw[hg j hj]
 exact Yd _
theorem Ygj{k:SV->List HO->Prop}{al:Bool}{hp:List HO}{i n m:Nat}{z zz:Bool}{get:Nat->List SV}{a:Nat}(h:k (natS zz a) [])(hn:n=nl a)(hz:z=zz)(hi:getH hp i= .own z 1 m get)(hg:∀j,j<n->get j=[.int .u32 (dig a j)]):
 Yz al k (.own i 0 n 1) hp:=YE h (YAl hn hz hi hg) (fun _=>by simp [natS,Yt,Ys])
theorem Ydm{k:SV->List HO->Prop}{al:Bool}{hp:List HO}{t z:Bool}{a:Nat}(h:k (natS z a) []):Yz al k (.vs true z (nl a) 1 (fun k=>[.int .u32 (dig a k)])) hp:=
 YE h (YC _ trivial) (fun _=>by simp [natS,Yt,Ys])
def R0:Env:={ ct:=fun _=>none,fn:=fun _=>none,meth:=fun _ _=>none}
def ofC:Ctr:={ alias:=false,of:=fun l=>match l with
 | [.int .u64 n]=> .pre (0<=n/\n<18446744073709551616) (.fin (natS false n.toNat) [])
 |_=>noC}
def plusC:Ctr:={ alias:=false,of:=fun l=>match l with
 | [.vs _ _ n sz get,.vs _ _ m sz' get']=> .ex Nat fun a=> .ex Nat fun b=> .pre (padP a n sz get/\padP b m sz' get'/\n<=99999/\m<=99999) (.fin (natS false (a+b)) [])
 |_=>noC}
def R1:Env:={ ct:=fun _=>none,fn:=fun _=>none,meth:=fun _ _=>none}
def Yre:Nat->Nat->Nat
 |0,_=>0
 |f+1,a=>if a=0 then 0 else Yre f (a/2)+1
def Yo(a:Nat):Nat:=Yre a a
theorem YH(i:Nat):0<2^i:=YIv (by decide)
theorem Yng:∀(f a n:Nat),a<=f->(Yre f a<=n↔a<2^n)
 |0,a,n,h=>by
  have:=YH n
  simp only[Yre];omega
 |f+1,a,n,h=>by
  simp only[Yre]
  split
  ·rename_i h0;have:=YH n;subst h0;simp;omega
  ·cases n with
   |zero=>simp;omega
   |succ n=>
    have:=Yng f (a/2) n (by omega)
    rw[YHR,<-YHW (by decide),<-this]
    omega
theorem bitsN_le{a n:Nat}:Yo a<=n↔a<2^n:=Yng a a n (YHr _)
theorem Ydn(a:Nat):a<2^Yo a:=bitsN_le.1 (YHr _)
theorem YhY{a:Nat}(h:0<a):Yo a=Yo (a/2)+1:=by
 have h1:∀n,Yo a<=n↔Yo (a/2)+1<=n:=fun n=>by
  cases n with
  |zero=>have:= @bitsN_le a 0;simp at this;omega
  |succ n=>rw[bitsN_le,YHR,<-YHW (by decide),<-bitsN_le];omega
 have a1:=(h1 (Yo (a/2)+1)).2 (YHr _)
 have a2:=(h1 (Yo a)).1 (YHr _)
 omega
theorem bitsN_eq0{a:Nat}:Yo a=0↔a=0:=by
 have:= @bitsN_le a 0
 simp at this;omega
theorem Yfx(m:Nat):4294967296^m=2^(32*m):=by
 rw[YHQ]
theorem Yay(a j k:Nat):dig (a%4294967296^j) k=if k<j then dig a k else 0:=by
 split
 ·exact YiQ ‹_›
 ·exact Ycr (YIk _ (Yaa j)) (by omega)
theorem Yk8{x:Nat}(h:x<4294967296):(BitVec.ofInt 32 (x:Int)).toNat=x:=by
 simp [BitVec.toNat_ofInt];omega
theorem YEr{x y:Nat}(hx:x<4294967296)(hy:y<4294967296):IntKind.u32.wrap ((BitVec.ofInt 32 (x:Int) ||| BitVec.ofInt 32 (y:Int)).toNat:Int)=((x||| y:Nat):Int):=by
 rw[BitVec.toNat_or,Yk8 hx,Yk8 hy]
 exact YtH (Nat.or_lt_two_pow (n:=32) hx hy)
def nsg(neg:Bool)(a:Nat):Int:=if neg then -(a:Int)else a
theorem YsN(neg:Bool)(a:Nat):(nsg neg a).natAbs=a:=by
 unfold nsg;split <;> omega
theorem Yca{x:Nat}(h:x<18446744073709551616):(BitVec.ofInt 64 (x:Int)).toNat=x:=by
 simp [BitVec.toNat_ofInt];omega
theorem Yvb{x:Nat}(h:x<18446744073709551616):IntKind.u64.wrap ((BitVec.ofInt 64 (x:Int)&&&BitVec.ofInt 64 4294967295).toNat:Int)=((x%4294967296:Nat):Int):=by
 have h2:(BitVec.ofInt 64 4294967295).toNat=2^32-1:=by decide
 rw[BitVec.toNat_and,Yca h,h2,Nat.and_two_pow_sub_one_eq_mod]
 exact YbX (by omega)
theorem YsQ{x y:Nat}(hx:x<18446744073709551616)(hy:y<18446744073709551616):IntKind.u64.wrap ((BitVec.ofInt 64 (x:Int) ||| BitVec.ofInt 64 (y:Int)).toNat:Int)=((x||| y:Nat):Int):=by
 rw[BitVec.toNat_or,Yca hx,Yca hy]
 exact YbX (Nat.or_lt_two_pow (n:=64) hx hy)
theorem YbW{x s:Nat}(hs:s<=64):(x:Int).fdiv (2^min s 64)=((x/2^s:Nat):Int):=by
 rw[Nat.min_eq_left hs,Int.fdiv_eq_ediv_of_nonneg _ (Int.le_of_lt (Int.pow_pos (by decide)))]
 simp
theorem Yhn{x s:Nat}(hs:s<=64)(h:x*2^s<18446744073709551616):IntKind.u64.wrap ((x:Int)*2^min s 64)=((x*2^s:Nat):Int):=by
 rw[Nat.min_eq_left hs]
 have:(x:Int)*2^s=((x*2^s:Nat):Int):=by simp
 rw[this];exact YbX h
theorem Ymr(x:Int):IntKind.u64.wrap x=x%18446744073709551616:=by
 rw[IntKind.wrap_u64]
theorem YFE(x:Nat):IntKind.u64.wrap (x:Int)=((x%18446744073709551616:Nat):Int):=by
 rw[Ymr];simp
theorem YEf{x y:Nat}(hx:x<18446744073709551616)(hy:y<18446744073709551616):
 let x0:=x%4294967296;let x1:=x/4294967296;let y0:=y%4294967296;let y1:=y/4294967296
 let t:=x1*y0+x0*y0/4294967296
 let w1:=t%4294967296+x0*y1
 x1*y1+t/4294967296+w1/4294967296=x*y/18446744073709551616/\x0*y0<18446744073709551616/\x1*y0<18446744073709551616/\t<18446744073709551616/\x0*y1<18446744073709551616/\w1<18446744073709551616/\x1*y1<18446744073709551616/\x1*y1+t/4294967296<18446744073709551616/\x1*y1+t/4294967296+w1/4294967296<18446744073709551616:=by
 intro x0 x1 y0 y1 t w1
 have e1:x=4294967296*x1+x0:=(YH5 x _).symm
 have e2:y=4294967296*y1+y0:=(YH5 y _).symm
 have h0:x0<4294967296:=YIk _ (by decide)
 have h1:y0<4294967296:=YIk _ (by decide)
 have h2:x1<4294967296:=by omega
 have h3:y1<4294967296:=by omega
 have m:∀{a b:Nat},a<4294967296->b<4294967296->a*b<=4294967295*4294967295:=fun ha hb=>YHE (by omega) (by omega)
 have p1:=m h0 h1
 have p2:=m h2 h1
 have p3:=m h0 h3
 have p4:=m h2 h3
 have e:x*y=18446744073709551616*(x1*y1)+4294967296*(x1*y0+x0*y1)+x0*y0:=by
  rw[e1,e2];grind
 have ht:t=x1*y0+x0*y0/4294967296:=rfl
 have hw:w1=t%4294967296+x0*y1:=rfl
 rw[e]
 generalize x0*y0=A at*
 generalize x1*y0=B at*
 generalize x0*y1=C at*
 generalize x1*y1=D at*
 omega
structure Yfi (y1 y0 a u q r:Nat):Prop where
 eq:q*y1+r=a
 ge:(a*4294967296+u)/(y1*4294967296+y0)<=q
 le:q<=4294967297
theorem YrD{y1 y0 a u q r:Nat}(hy:0<y1)(h:q*y1+r=a):q*(y1*4294967296+y0)<=a*4294967296+u↔q*y0<=4294967296*r+u:=by
 have e:q*(y1*4294967296+y0)=q*y1*4294967296+q*y0:=by grind
 rw[e,<-h]
 generalize q*y1=A
 generalize q*y0=B
 omega
theorem YrE{y1 y0 a u:Nat}(h1:2147483648<=y1)(h0:y0<4294967296)(ha:a<y1*4294967296+y0)(hu:u<4294967296):Yfi y1 y0 a u (a/y1) (a-a/y1*y1)/\a-a/y1*y1<4294967296\/4294967296<=y1:=by
 rcases YHA y1 4294967296 with hy|hy
 ·left
  have hp:0<y1:=by omega
  have e:=YH5 a y1
  have hm:=YIk a hp
  rw[YHq]at e
  refine⟨⟨by omega,?_,?_⟩,by omega⟩
  ·rw[<-Nat.lt_add_one_iff,YHW (by omega)]
   have:(a/y1+1)*(y1*4294967296+y0)=(a/y1*y1+y1)*4294967296+(a/y1+1)*y0:=by grind
   rw[this]
   have:(0:Nat)<=(a/y1+1)*y0:=YHK _
   omega
  ·rw[<-Nat.lt_add_one_iff,YHW hp]
   omega
 ·exact .inr hy
theorem YiP{y1 y0 a u q r:Nat}(h:Yfi y1 y0 a u q r)(hy:0<y1)(hle:q*y0<=4294967296*r+u):q=(a*4294967296+u)/(y1*4294967296+y0):=by
 have h1:=(YrD (u:=u) (y0:=y0) hy h.eq).2 hle
 have h2:=(YH7 (by omega)).2 h1
 have:=h.ge
 omega
theorem YiR{y1 y0 a u q r:Nat}(h:Yfi y1 y0 a u q r)(hy:0<y1)(ha:a<y1*4294967296+y0)(hu:u<4294967296)(hc:4294967296<=q\/4294967296*r+u<q*y0):0<q/\Yfi y1 y0 a u (q-1) (r+y1):=by
 have hlt:(a*4294967296+u)/(y1*4294967296+y0)<q:=by
  rcases hc with hc|hc
  ·have:(a*4294967296+u)/(y1*4294967296+y0)<4294967296:=by
    rw[YHW (by omega)];omega
   exact YIa this hc
  ·rw[YHW (by omega)]
   refine Nat.lt_of_not_le fun hh=>?_
   have:=(YrD (u:=u) (y0:=y0) hy h.eq).1 hh
   omega
 have h1:=h.eq
 have h2:=h.le
 have hq:0<q:=YIi (YHK _) hlt
 refine⟨hq,⟨?_,by omega,by omega⟩⟩
 obtain⟨m,rfl⟩:∃m,q=m+1:=⟨q-1,by omega⟩
 rw[Nat.add_sub_cancel]
 rw[Nat.succ_mul]at h1
 omega
theorem Ygz{y1 y0 a u q r:Nat}(h:Yfi y1 y0 a u q r)(hy:0<y1)(h0:y0<4294967296)(hq:q<=4294967296)(hr:4294967296<=r):q=(a*4294967296+u)/(y1*4294967296+y0):=by
 refine YiP h hy ?_
 have:q*y0<=4294967296*4294967295:=YHE hq (by omega)
 omega
theorem Yhv{M y a u1 u0 q1 r1 q0 r0:Nat}(hy:0<y)(hq1:q1=(a*M+u1)/y)(hr1:r1=(a*M+u1)%y)(hq0:q0=(r1*M+u0)/y)(hr0:r0=(r1*M+u0)%y):
 q1*M+q0=(a*(M*M)+(u1*M+u0))/y/\r0=(a*(M*M)+(u1*M+u0))%y:=by
 have e1:=YH5 (a*M+u1) y
 have e2:=YH5 (r1*M+u0) y
 have hm:=YIk (r1*M+u0) hy
 rw[<-hq1,<-hr1]at e1
 rw[<-hq0,<-hr0]at e2
 rw[<-hr0]at hm
 have e3:a*(M*M)+(u1*M+u0)=y*(q1*M+q0)+r0:=by
  have:a*(M*M)+(u1*M+u0)=(a*M+u1)*M+u0:=by grind
  rw[this,<-e1]
  have:(y*q1+r1)*M+u0=y*q1*M+(r1*M+u0):=by grind
  rw[this,<-e2]
  grind
 rw[e3,Nat.mul_add_div hy,Nat.div_eq_of_lt hm,Nat.mul_add_mod,Nat.mod_eq_of_lt hm]
 exact⟨rfl,rfl⟩
theorem YdK{y a u1 u0 q1 q0 r1:Nat}(hy:0<y)(hq1:q1=(a*4294967296+u1)/y)(hr1:r1=(a*4294967296+u1)%y)(hq0:q0=(r1*4294967296+u0)/y):
 q1*4294967296+q0=(a*18446744073709551616+(u1*4294967296+u0))/y/\(r1*4294967296+u0)%y=(a*18446744073709551616+(u1*4294967296+u0))%y:=
 Yhv (M:=4294967296) hy hq1 hr1 hq0 rfl
theorem Ypg{y:Nat}(hy:y<18446744073709551616)(h0:0<y):Yo y<=64/\9223372036854775808<=y*2^(64-Yo y)/\y*2^(64-Yo y)<18446744073709551616:=by
 have hb:Yo y<=64:=bitsN_le.2 hy
 have hpos:0<Yo y:=Nat.pos_of_ne_zero fun h=>by have:=bitsN_eq0.1 h;omega
 have h1:=Ydn y
 have h2:2^(Yo y-1)<=y:=by
  rcases YHA y (2^(Yo y-1))with h|h
  ·have:=bitsN_le.2 h;omega
  ·exact h
 refine⟨hb,?_,?_⟩
 ·have:2^(Yo y-1)*2^(64-Yo y)<=y*2^(64-Yo y):=YHs _ h2
  rw[<-YHz,show Yo y-1+(64-Yo y)=63 by omega]at this
  exact this
 ·have:y*2^(64-Yo y)<2^Yo y*2^(64-Yo y):=Nat.mul_lt_mul_of_pos_right h1 (YH _)
  rw[<-YHz,show Yo y+(64-Yo y)=64 by omega]at this
  exact this
theorem YvK{h x s:Nat}(hs:s<=64)(hx:x<18446744073709551616):(h*2^s||| x/2^(64-s))=h*2^s+x/2^(64-s)/\x/2^(64-s)<2^s/\(h*2^s+x/2^(64-s))*18446744073709551616+x*2^s%18446744073709551616=(h*18446744073709551616+x)*2^s:=by
 have e:(18446744073709551616:Nat)=2^(64-s)*2^s:=by rw[<-YHz,show 64-s+s=64 by omega]
 have hl:x/2^(64-s)<2^s:=by
  rw[YHW (YH _),YHq,<-e];exact hx
 refine⟨?_,hl,?_⟩
 ·rw[YHq h];exact(Nat.two_pow_add_eq_or_of_lt hl h).symm
 ·have h1:=YH5 x (2^(64-s))
  have e2:x*2^s%18446744073709551616=x%2^(64-s)*2^s:=by
   rw[e];exact Nat.mul_mod_mul_right _ _ _
  rw[e2,e]
  generalize 2^(64-s)=P at*
  generalize 2^s=R at*
  generalize x/P=a at*
  generalize x%P=b at*
  subst h1
  grind
def v155:VF:=⟨21,[.tmp 2],(ZR [u1 2 .mov [.cn .nil]] (.seq (.block 0 (.loop (.seq (ZR [Zm 3 0,Zl 4 3,Zq 5 .gtr 4 0,Zm 6 5,Zg 7 6 true 0,Zg 8 6 true 0,u2 9 6 true .len [.tm 8],u2 10 6 true (.ari .sub) [.tm 9,.cn (.int .i64 1)],u2 11 6 true (.idxAddr 1) [.tm 7,.tm 10],Zh 12 6 true 1 11,u2 13 6 true (.cmp .eql) [.tm 12,.cn (.int .u32 0)],u1 14 .and [.tm 6,.tm 13]] (ZC 14 .skip (.exit 0))) (.block 1 (.region [Zm 15 0,Zm 16 0,Zl 17 16,u1 18 (.ari .sub) [.tm 17,.cn (.int .i64 1)],u1 19 (.slice 1 false true) [.tm 15,.tm 18],Zm 0 19]))))) (ZR [Zm 20 0,Zm 2 20] .ret)))⟩
theorem YtK:Ye YHk Tryz.f155=some v155:=by kernel_rfl
def v148:VF:=⟨10,[.tmp 2],(ZR [u1 2 .mov [.cn .nil]] (ZR [Zm 3 0,u1 4 (.conv .u32) [.tm 3],Zm 5 0,u1 6 .shr [.tm 5,.cn (.int .u64 32)],u1 7 (.conv .u32) [.tm 6],u1 8 (.buildSlice 1 2 [(.int .u32 0)] [(0,1),(1,1)]) [.tm 4,.tm 7],Zc 9 155 8,Zm 2 9] .ret))⟩
theorem YBY:Ye YHk Tryz.f148=some v148:=by kernel_rfl
def v141:VF:=⟨5,[.tmp 2],(ZR [u1 2 .mov [.cn .nil]] (ZR [Zm 3 0,Zc 4 148 3,Zm 2 4] .ret))⟩
theorem YBR:Ye YHk Tryz.f141=some v141:=by kernel_rfl
def v143:VF:=⟨43,[.tmp 4],(ZR [Zi 4 0] (.seq (.block 0 (ZR [Zm 7 0,Zl 8 7,Zm 9 1,Zl 10 9,Zr 11 .lss 8 10,Zm 6 11] (ZC 6 (ZR [Zi 4 (-1)] .ret) (ZR [Zm 13 0,Zl 14 13,Zm 15 1,Zl 16 15,Zr 17 .gtr 14 16,Zm 12 17] (ZC 12 (ZR [Zi 4 1] .ret) .skip))))) (.seq (ZR [Zm 18 0,Zl 19 18,u1 20 (.ari .sub) [.tm 19,.cn (.int .i64 1)],Zm 5 20] (.block 1 (.loop (.seq (ZR [Zm 21 5,Zq 22 .geq 21 0] (ZC 22 .skip (.exit 1))) (.seq (.block 2 (.seq (.draw [] [Zu 25 0,Zu 26 5,ZX 27 1 25 26,Zv 28 1 27,Zu 29 1,Zu 30 5,ZX 31 1 29 30,Zv 32 1 31,w1 33 (.cmp .neq) [.tm 28,.tm 32]]) (ZC 33 (.seq (.seq (.draw [] [Zu 34 0,Zu 35 5,ZX 36 1 34 35,Zv 37 1 36,Zu 38 1,Zu 39 5,ZX 40 1 38 39,Zv 41 1 40,w1 42 (.cmp .lss) [.tm 37,.tm 41]]) (ZC 42 (ZR [Zi 4 (-1)] .ret) .skip)) (ZR [Zi 4 1] .ret)) .skip))) (.region [Zm 23 5,u1 24 (.ari .sub) [.tm 23,.cn (.int .i64 1)],Zm 5 24])))))) (ZR [Zi 4 0] .ret))))⟩
theorem YBT:Ye YHk Tryz.f143=some v143:=by kernel_rfl
def v145:VF:=⟨59,[.tmp 4],(ZR [u1 4 .mov [.cn .nil]] (.seq (ZR [Zm 9 0,Zl 10 9,Zm 11 1,Zl 12 11,Zr 13 .lss 10 12] (ZC 13 (.region [Zm 14 1,Zm 15 0,Zm 0 14,Zm 1 15]) .skip)) (ZR [Zm 16 0,Zl 17 16,Zp 18 17 1,u1 19 (.make 1 4 [(.int .u32 0)]) [.tm 18,.tm 18],Zm 5 19] (ZR [u1 6 .mov [.cn (.int .u64 0)]] (.seq (ZR [Zm 20 0,Zl 21 20,Zi 22 0] (.block 0 (.loop (ZR [Zr 23 .lss 22 21] (.seq (ZC 23 .skip (.exit 0)) (.seq (.block 1 (ZR [Zm 24 22,Zm 7 24] (ZR [Zm 25 0,Zm 26 7,Zx 27 1 25 26,Zf 28 1 27,u1 29 (.conv .u64) [.tm 28],Zm 30 6,Zo 31 .add 29 30,Zm 8 31] (.seq (ZR [Zm 32 7,Zm 33 1,Zl 34 33,Zr 35 .lss 32 34] (ZC 35 (.region [Zm 36 8,Zm 37 1,Zm 38 7,Zx 39 1 37 38,Zf 40 1 39,u1 41 (.conv .u64) [.tm 40],Zo 42 .add 36 41,Zm 8 42]) .skip)) (.region [Zm 43 5,Zm 44 7,Zm 45 8,u1 46 (.conv .u32) [.tm 45],Zm 47 8,u1 48 .shr [.tm 47,.cn (.int .u64 32)],Zx 49 1 43 44,Zs 1 49 46,Zm 6 48]))))) (.region [Zp 50 22 1,Zm 22 50]))))))) (ZR [Zm 51 5,Zm 52 0,Zl 53 52,Zm 54 6,u1 55 (.conv .u32) [.tm 54],Zx 56 1 51 53,Zs 1 56 55] (ZR [Zm 57 5,Zc 58 155 57,Zm 4 58] .ret)))))))⟩
theorem YBV:Ye YHk Tryz.f145=some v145:=by kernel_rfl
def WD0:Env:={ ct:=fun _=>none,fn:=fun n=>match n with|155=>some v155|_=>none,meth:=fun _ _=>none}
theorem Yqy:WD0.ct 155=none:=rfl
theorem Yqz:WD0.fn 155=some v155:=rfl
theorem YDa:Yn YHk WD0:=by
 refine⟨fun f c h=>?_,fun f vf h=>?_,(fun _ _ _ h=>by cases h),by kernel_rfl,(fun _ h=>by cases h),(fun _ _ h=>by cases h)⟩
 ·cases h
 ·simp only[WD0]at h
  split at h
  ·cases h;exact⟨Tryz.f155,Tryz.func155,YtK,Tryz.f155,Tryz.func155,by kernel_rfl,by kernel_rfl⟩
  ·cases h
theorem sh32(z:Nat):(z:Int).fdiv (2^min (YH0 32) 64)=((z/4294967296:Nat):Int):=YbW (s:=32) (by decide)
theorem Yhx(z:Nat):IntKind.u32.wrap (z:Int)=((z%4294967296:Nat):Int):=by rw[IntKind.wrap_u32];omega
theorem YHa:ofC.ok YHk 148:=by
 refine Yb Tryz.func148 YBY YDa 200 ofC fun args k h=>?_
 simp only[ofC]at h
 split at h
 ·rename_i n
  obtain⟨⟨h0,h1⟩,h⟩:=h
  obtain⟨X,rfl⟩:=YHv h0
  obtain⟨N,hN⟩:∃N,N=2:=⟨_,rfl⟩
  have hXN:X<4294967296^N:=by rw[hN];omega
  refine⟨[.int .u64 X],by simp [leL,le],?_⟩
  dsimp only[v148,Yqy,Yqz,v155,go_sem,reduceIte,YHf]
  simp only[Yc,YHf,YHh,reduceCtorEq,YHg]
  refine⟨by decide,by decide,?_⟩
  refine Loop.keep [0] Nat (fun j=>[(0,.own 0 0 j 1)]) (fun _=>[(0,.own false 1 N (fun k=>[.int .u32 (dig X k)]))]) [] (fun j=>j<=N/\X<4294967296^j) (fun j=>j) ?_ ?_
  ·refine⟨N,⟨YHr _,hXN⟩,?_⟩
   dsimp only[go_sem,reduceIte,YHf]
   simp only[Ya]
   refine⟨⟨hN.symm,by decide⟩,by decide,hN.symm,fun k hk=>?_⟩
   rw[show(2:Int)^min (YH0 32) 64=4294967296 by decide,Int.fdiv_eq_ediv_of_nonneg _ (by decide)]
   have e0:dig X 0=X%4294967296:=YDD X
   have e1:dig X 1=X/4294967296:=by rw[Yvt,YDD];omega
   match k,hk with
   |0,_=>rw[e0];exact⟨⟨rfl,by rw[IntKind.wrap_u32];omega⟩,trivial⟩
   |1,_=>rw[e1];exact⟨⟨rfl,by rw[IntKind.wrap_u32];omega⟩,trivial⟩
  ·rintro j ⟨hj,haj⟩
   dsimp only[YHj,go_sem,reduceIte,YHf]
   simp only[Yc,YHf,YHh,reduceCtorEq,YHg]
   refine⟨fun hlt=>?_,fun hlt=>?_,fun hb=>?_,fun hb=>?_⟩
   ·rw[YP (by omega) (by omega)];omega
   ·rw[YP (by omega) (by omega)];omega
   ·rw[YHn,decide_eq_true_eq,decide_eq_true_eq]at hb
    obtain⟨h1,h2⟩:=hb
    rw[YP (by omega) (by omega),YHj]at h2
    refine⟨by rw[YP (by omega) (by omega)];omega,j-1,⟨by omega,?_⟩,by omega,?_⟩
    ·obtain⟨m,rfl⟩:∃m,j=m+1:=⟨j-1,by omega⟩
     exact YgV haj (by simp at h2;exact_mod_cast h2)
    ·rw[YP (by omega) (by omega)]
     simp only[Ya] <;> simp [leL,le]
   ·have e:nl X=j:=by
     refine Yg0 haj ?_
     rw[Bool.and_eq_false_iff,decide_eq_false_iff_not,decide_eq_false_iff_not]at hb
     rcases YH4 j with h0|h0
     ·exact .inl h0
     ·refine .inr fun hh=>hb.elim (fun h=>h (by omega)) fun h=>h ?_
      rw[YP h0 (by omega),YHj,hh];rfl
    subst e
    exact Ygj h rfl rfl rfl fun j hj=>rfl
 ·exact h.1.elim
def WD1:Env:={ ct:=fun n=>match n with|148=>some ofC|_=>none,fn:=fun n=>match n with|155=>some v155|_=>none,meth:=fun _ _=>none}
theorem YqA:WD1.ct 148=some ofC:=rfl
theorem YaX:WD1.ct 155=none:=rfl
theorem YaY:WD1.fn 155=some v155:=rfl
theorem YhQ:Yn YHk WD1:=by
 refine⟨fun f c h=>?_,fun f vf h=>?_,(fun _ _ _ h=>by cases h),by kernel_rfl,(fun _ h=>by cases h),(fun _ _ h=>by cases h)⟩
 ·simp only[WD1]at h
  split at h
  ·cases h;exact⟨YHa,Tryz.f148,Tryz.func148,by kernel_rfl,by kernel_rfl⟩
  ·cases h
 ·simp only[WD1]at h
  split at h
  ·cases h;exact⟨Tryz.f155,Tryz.func155,YtK,Tryz.f155,Tryz.func155,by kernel_rfl,by kernel_rfl⟩
  ·cases h
theorem YG7:ofC.ok YHk 141:=by
 refine Yb Tryz.func141 YBR YhQ 200 ofC fun args k h=>?_
 simp only[ofC]at h
 split at h
 ·rename_i n
  obtain⟨⟨h0,h1⟩,h⟩:=h
  refine⟨[.int .u64 n],by simp [leL,le],?_⟩
  dsimp only[v141,YqA,ofC,natS,go_sem,reduceIte,YHf]
  simp only[Yc,YHf,YHh,reduceCtorEq,YHg]
  exact⟨⟨h0,h1⟩,Ydm (t:=true) h⟩
 ·exact h.1.elim
def wcmpC:Ctr:={ alias:=false,of:=fun l=>match l with
 | [.vs _ _ n sz get,.vs _ _ m sz' get']=> .ex Nat fun a=> .ex Nat fun b=> .pre (padP a n sz get/\padP b m sz' get'/\n=nl a/\m=nl b) (.fin (.int .i64 (ordN a b)) [])
 |_=>noC}
theorem YAk{a b:Nat}(h:nl a<nl b):ordN a b= -1:=by
 have:a<b:=Nat.lt_of_not_le fun hh=>by have:=Ymb hh;omega
 rw[ordN,if_pos this]
theorem YAj{a b:Nat}(h:nl b<nl a):ordN a b=1:=by
 have:b<a:=Nat.lt_of_not_le fun hh=>by have:=Ymb hh;omega
 rw[ordN,if_neg (by omega),if_pos this]
theorem YCj:wcmpC.ok YHk 143:=by
 refine Yb Tryz.func143 YBT YhQ 200 wcmpC fun args k h=>?_
 simp only[wcmpC]at h
 split at h
 ·rename_i t1 z1 n sz get t2 z2 m sz' get'
  obtain⟨a,b,⟨⟨rfl,hn,ha,hg⟩,⟨rfl,hm,hb,hg'⟩,hna,hmb⟩,h⟩:=h
  refine⟨[.vs t1 z1 n 1 (fun k=>[.int .u32 (dig a k)]),.vs t2 z2 m 1 (fun k=>[.int .u32 (dig b k)])],⟨by simpa [le]using hg,by simpa [le]using hg',trivial⟩,?_⟩
  dsimp only[v143,go_sem,reduceIte,YHf]
  simp only[Yc,YHf,YHh,reduceCtorEq,YHg]
  refine⟨fun c1=>Yj ?_,fun c1=>⟨fun c2=>Yj ?_,fun c2=>?_⟩⟩
  ·rw[YAk (by omega)]at h;exact h
  ·rw[YAj (by omega)]at h;exact h
  refine Loop.keep [0,0,3] Nat (fun j=>[(5,.int .i64 ((j:Int)-1))]) (fun _=>[]) [] (fun j=>j<=n/\∀i,j<=i->dig a i=dig b i) (fun j=>j) ?_ ?_
  ·refine⟨n,⟨YHr _,fun i hi=>by rw[Ycr ha (by omega),Ycr hb (by omega)]⟩,?_⟩
   dsimp only[go_sem,reduceIte,YHf]
   simp only[Ya]
   rw[YHi _ (by omega)]
   try simp
  ·rintro j ⟨hj,haj⟩
   dsimp only[YHj,go_sem,reduceIte,YHf]
   simp only[Yc,YHf,YHh,reduceCtorEq,YHg]
   refine⟨fun hlt=>?_,fun hge=>?_⟩
   ·obtain⟨i,rfl⟩:∃i,j=i+1:=⟨j-1,by omega⟩
    have e:((i+1:Nat):Int)-1=i:=by omega
    have gt:∀t,i<t->dig a t=dig b t:=fun t ht=>haj t (by omega)
    rw[e]
    simp only[YHj]
    refine⟨⟨by omega,by omega⟩,⟨by omega,by omega⟩,fun hd=>⟨⟨by omega,by omega⟩,⟨by omega,by omega⟩,fun hc=>Yj ?_,fun hc=>Yj ?_⟩,fun hd=>⟨i,⟨by omega,fun t ht=>?_⟩,by omega,?_⟩⟩
    ·have:=YrB gt (by omega:dig a i<dig b i)
     rw[ordN,if_pos this]at h;exact h
    ·have:=YrB (fun t ht=>(gt t ht).symm) (by omega:dig b i<dig a i)
     rw[ordN,if_neg (by omega),if_pos this]at h;exact h
    ·rcases Nat.eq_or_lt_of_le ht with rfl|ht
     ·omega
     ·exact gt t ht
    ·simp only[Ya]
     rw[YHi _ (by omega)]
     try simp
   ·obtain rfl:j=0:=by omega
    have:a=b:=YrA fun i=>haj i (YHK _)
    rw[ordN,if_neg (by omega),if_neg (by omega)]at h
    exact Yj h
 ·exact h.1.elim
theorem YwU:plusC.ok YHk 145:=by
 refine Yb Tryz.func145 YBV YhQ 300 plusC fun args k h=>?_
 simp only[plusC]at h
 split at h
 ·rename_i t1 z1 n sz get t2 z2 m sz' get'
  obtain⟨a,b,⟨⟨rfl,hn,ha,hg⟩,⟨rfl,hm,hb,hg'⟩,hn9,hm9⟩,h⟩:=h
  refine⟨[.vs t1 z1 n 1 (fun k=>[.int .u32 (dig a k)]),.vs t2 z2 m 1 (fun k=>[.int .u32 (dig b k)])],⟨by simpa [le]using hg,by simpa [le]using hg',trivial⟩,?_⟩
  dsimp only[v145,YaX,YaY,v155,go_sem,reduceIte,YHf]
  simp only[Yc,YHf,YHh,reduceCtorEq,YHg]
  refine⟨fun hlt=>?_,fun hge=>?_⟩
  all_goals first
   | (obtain⟨q,rfl⟩:∃q,q=n:=⟨_,rfl⟩
      obtain⟨n,rfl⟩:∃q,q=m:=⟨_,rfl⟩
      obtain⟨m,rfl⟩:∃m,m=q:=⟨_,rfl⟩
      obtain⟨q,rfl⟩:∃q,q=a:=⟨_,rfl⟩
      obtain⟨a,rfl⟩:∃a,a=b:=⟨_,rfl⟩
      obtain⟨b,rfl⟩:∃b,b=q:=⟨_,rfl⟩
      rw[Nat.add_comm]at h
      obtain⟨N,hNn⟩:∃N,N=n+1:=⟨_,rfl⟩
      obtain⟨X,hX⟩:∃X,X=a+b:=⟨_,rfl⟩
      have hmn:m<=n:=by omega)
   | (obtain⟨N,hNn⟩:∃N,N=n+1:=⟨_,rfl⟩
      obtain⟨X,hX⟩:∃X,X=a+b:=⟨_,rfl⟩
      have hmn:m<=n:=by omega)
  all_goals
   have ha1:a<4294967296^n:=by assumption
   have hb1:b<4294967296^m:=by assumption
   have eN:IntKind.i64.wrap ((n:Int)+1)=((N:Nat):Int):=by rw[hNn,YHi _ (by omega)];omega
   rw[eN]
   simp only[YHj]
   refine⟨⟨by decide,by omega,by omega,by unfold Y3;omega⟩,?_⟩
   refine Loop.keep [0,0,3,14,0] Nat (fun i=>[(6,.int .u64 (cy a b i)),(22,.int .i64 i)]) (fun i=>[(0,.own false 1 N (fun k=>[.int .u32 (dig (X%4294967296^i) k)]))]) [] (fun i=>i<=n) (fun i=>n-i) ?_ ?_
   ·refine⟨0,by omega,?_⟩
    dsimp only[go_sem,reduceIte,YHf]
    simp only[Ya]
    simp [cy_0,Nat.mod_one,YfV,leL,le]
   ·rintro i hi
    dsimp only[YaX,YaY,v155,YHj,go_sem,reduceIte,YHf]
    simp only[Yc,YHf,YHh,reduceCtorEq,YHg]
    refine⟨fun hlt=>⟨⟨by omega,by omega⟩,fun hc=>⟨⟨by omega,by omega⟩,by decide,⟨by omega,by omega⟩,by omega,i+1,by omega,by omega,?_⟩,fun hc=>⟨by decide,⟨by omega,by omega⟩,by omega,i+1,by omega,by omega,?_⟩⟩,fun hge=>?_⟩
    ·have hd1:=Yb0 a i
     have hd2:=Yb0 b i
     have hcy:=Yzi a b i
     have e1:=YlK a b i
     have e2:=Yw5 a b i
     rw[show dig a i+dig b i+cy a b i=dig a i+cy a b i+dig b i by omega]at e1 e2
     rw[YbX (by omega:dig a i<18446744073709551616),YbX (by omega:dig b i<18446744073709551616),YhN (by omega),YhN (by omega),sh32,Yhx,e1,e2,YHi ((i:Int)+1) (by omega)]
     simp only[Ya]
     refine⟨by simp,fun j hj=>?_⟩
     rw[Yay,Yay,hX]
     by_cases hji:j=i
     ·rw[if_pos hji,if_pos (by omega),hji];simp only[leL,le,and_self]
     ·rw[if_neg hji];simp only[show(j<i+1)↔(j<i)from by omega];simp only[leL,le,and_self]
    ·have hd1:=Yb0 a i
     have hd2:dig b i=0:=Ycr hb1 (by omega)
     have hcy:=Yzi a b i
     have e1:=YlK a b i
     have e2:=Yw5 a b i
     rw[hd2,Nat.add_zero]at e1 e2
     rw[YbX (by omega:dig a i<18446744073709551616),YhN (by omega),sh32,Yhx,e1,e2,YHi ((i:Int)+1) (by omega)]
     simp only[Ya]
     refine⟨by simp,fun j hj=>?_⟩
     rw[Yay,Yay,hX]
     by_cases hji:j=i
     ·rw[if_pos hji,if_pos (by omega),hji];simp only[leL,le,and_self]
     ·rw[if_neg hji];simp only[show(j<i+1)↔(j<i)from by omega];simp only[leL,le,and_self]
    ·obtain rfl:i=n:=by omega
     refine⟨⟨by omega,by omega⟩,by omega,?_⟩
     have hXN:X<4294967296^N:=by
      have h2:b<4294967296^i:=YIa hb1 (YHL (by decide) hmn)
      rw[hX,hNn,YaP];omega
     have htop:IntKind.u32.wrap ((cy a b i:Nat):Int)=((dig X i:Nat):Int):=by
      have e1:=YlK a b i
      have hcy:=Yzi a b i
      rw[Ycr ha1 (YHr _),Ycr hb1 hmn]at e1
      rw[Yhx,hX,<-e1]
      omega
     rw[htop]
     rw[<-hX]at h
     refine Loop.keep [0] Nat (fun j=>[(0,.own 0 0 j 1)]) (fun _=>[(0,.own false 1 N (fun k=>[.int .u32 (dig X k)]))]) [] (fun j=>j<=N/\X<4294967296^j) (fun j=>j) ?_ ?_
     ·refine⟨N,⟨YHr _,hXN⟩,?_⟩
      dsimp only[go_sem,reduceIte,YHf]
      simp only[Ya]
      refine⟨by decide,by decide,fun j hj=>?_⟩
      split
      ·rename_i e;rw[e];exact⟨⟨rfl,rfl⟩,trivial⟩
      ·rw[YiQ (by omega)];exact⟨⟨rfl,rfl⟩,trivial⟩
     ·rintro j ⟨hj,haj⟩
      dsimp only[YHj,go_sem,reduceIte,YHf]
      simp only[Yc,YHf,YHh,reduceCtorEq,YHg]
      refine⟨fun hlt=>?_,fun hlt=>?_,fun hb=>?_,fun hb=>?_⟩
      ·rw[YP (by omega) (by omega)];omega
      ·rw[YP (by omega) (by omega)];omega
      ·rw[YHn,decide_eq_true_eq,decide_eq_true_eq]at hb
       obtain⟨h1,h2⟩:=hb
       rw[YP (by omega) (by omega),YHj]at h2
       refine⟨by rw[YP (by omega) (by omega)];omega,j-1,⟨by omega,?_⟩,by omega,?_⟩
       ·obtain⟨m,rfl⟩:∃m,j=m+1:=⟨j-1,by omega⟩
        exact YgV haj (by simp at h2;exact_mod_cast h2)
       ·rw[YP (by omega) (by omega)]
        simp only[Ya] <;> simp [leL,le]
      ·have e:nl X=j:=by
        refine Yg0 haj ?_
        rw[Bool.and_eq_false_iff,decide_eq_false_iff_not,decide_eq_false_iff_not]at hb
        rcases YH4 j with h0|h0
        ·exact .inl h0
        ·refine .inr fun hh=>hb.elim (fun h=>h (by omega)) fun h=>h ?_
         rw[YP h0 (by omega),YHj,hh];rfl
       subst e
       exact Ygj h rfl rfl rfl fun j hj=>rfl
 ·exact h.1.elim
def v147:VF:=⟨68,[.tmp 4],(ZR [u1 4 .mov [.cn .nil]] (ZR [Zm 12 0,Zl 13 12,Zm 14 1,Zl 15 14,Zo 16 .add 13 15,u1 17 (.make 1 4 [(.int .u32 0)]) [.tm 16,.tm 16],Zm 5 17] (.seq (ZR [Zm 18 0,Zl 19 18,Zi 20 0] (.block 0 (.loop (ZR [Zr 21 .lss 20 19] (.seq (ZC 21 .skip (.exit 0)) (.seq (.block 1 (ZR [Zm 22 20,Zx 23 1 18 20,Zf 24 1 23,Zm 6 22,Zm 7 24] (ZR [u1 8 .mov [.cn (.int .u64 0)]] (.seq (ZR [Zm 25 1,Zl 26 25,Zi 27 0] (.block 2 (.loop (ZR [Zr 28 .lss 27 26] (.seq (ZC 28 .skip (.exit 2)) (.seq (.block 3 (ZR [Zm 29 27,Zx 30 1 25 27,Zf 31 1 30,Zm 9 29,Zm 10 31] (ZR [Zm 32 5,Zm 33 6,Zm 34 9,Zo 35 .add 33 34,Zx 36 1 32 35,Zf 37 1 36,u1 38 (.conv .u64) [.tm 37],Zm 39 7,u1 40 (.conv .u64) [.tm 39],Zm 41 10,u1 42 (.conv .u64) [.tm 41],Zo 43 .mul 40 42,Zo 44 .add 38 43,Zm 45 8,Zo 46 .add 44 45,Zm 11 46] (.region [Zm 47 5,Zm 48 6,Zm 49 9,Zo 50 .add 48 49,Zm 51 11,u1 52 (.conv .u32) [.tm 51],Zm 53 11,u1 54 .shr [.tm 53,.cn (.int .u64 32)],Zx 55 1 47 50,Zs 1 55 52,Zm 8 54])))) (.region [Zp 56 27 1,Zm 27 56]))))))) (.region [Zm 57 5,Zm 58 6,Zm 59 1,Zl 60 59,Zo 61 .add 58 60,Zm 62 8,u1 63 (.conv .u32) [.tm 62],Zx 64 1 57 61,Zs 1 64 63]))))) (.region [Zp 65 20 1,Zm 20 65]))))))) (ZR [Zm 66 5,Zc 67 155 66,Zm 4 67] .ret))))⟩
theorem YBX:Ye YHk Tryz.f147=some v147:=by kernel_rfl
def v154:VF:=⟨58,[.tmp 4],(ZR [u1 4 .mov [.cn .nil]] (.seq (ZR [Zm 11 0,Zl 12 11,Zq 13 .eql 12 0] (ZC 13 (ZR [u1 4 .mov [.cn .nil]] .ret) .skip)) (ZR [Zm 14 1,u1 15 .quo [.tm 14,.cn (.int .i64 32)],Zm 16 1,u1 17 .rem [.tm 16,.cn (.int .i64 32)],u1 18 (.conv .u64) [.tm 17],Zm 5 15,Zm 6 18] (ZR [Zm 19 0,Zl 20 19,Zm 21 5,Zo 22 .add 20 21,Zp 23 22 1,u1 24 (.make 1 4 [(.int .u32 0)]) [.tm 23,.tm 23],Zm 7 24] (.seq (ZR [Zm 25 0,Zl 26 25,Zi 27 0] (.block 0 (.loop (ZR [Zr 28 .lss 27 26] (.seq (ZC 28 .skip (.exit 0)) (.seq (.block 1 (ZR [Zm 29 27,Zx 30 1 25 27,Zf 31 1 30,Zm 8 29,Zm 9 31] (ZR [Zm 32 9,u1 33 (.conv .u64) [.tm 32],Zm 34 6,u1 35 .shl [.tm 33,.tm 34],Zm 10 35] (ZR [Zm 36 7,Zm 37 8,Zm 38 5,Zo 39 .add 37 38,Zx 40 1 36 39,Zf 41 1 40,Zm 42 10,u1 43 (.conv .u32) [.tm 42],u1 44 (.bit .or) [.tm 41,.tm 43],Zx 45 1 36 39,Zs 1 45 44] (.region [Zm 46 7,Zm 47 8,Zm 48 5,Zo 49 .add 47 48,Zp 50 49 1,Zm 51 10,u1 52 .shr [.tm 51,.cn (.int .u64 32)],u1 53 (.conv .u32) [.tm 52],Zx 54 1 46 50,Zs 1 54 53]))))) (.region [Zp 55 27 1,Zm 27 55]))))))) (ZR [Zm 56 7,Zc 57 155 56,Zm 4 57] .ret))))))⟩
theorem YB4:Ye YHk Tryz.f154=some v154:=by kernel_rfl
def v153:VF:=⟨64,[.tmp 4],(ZR [u1 4 .mov [.cn .nil]] (ZR [Zm 10 1,u1 11 .quo [.tm 10,.cn (.int .i64 32)],Zm 12 1,u1 13 .rem [.tm 12,.cn (.int .i64 32)],u1 14 (.conv .u64) [.tm 13],Zm 5 11,Zm 6 14] (.seq (ZR [Zm 15 5,Zm 16 0,Zl 17 16,Zr 18 .geq 15 17] (ZC 18 (ZR [u1 4 .mov [.cn .nil]] .ret) .skip)) (ZR [Zm 19 0,Zl 20 19,Zm 21 5,Zo 22 .sub 20 21,u1 23 (.make 1 4 [(.int .u32 0)]) [.tm 22,.tm 22],Zm 7 23] (.seq (ZR [Zm 24 7,Zl 25 24,Zi 26 0] (.block 0 (.loop (ZR [Zr 27 .lss 26 25] (.seq (ZC 27 .skip (.exit 0)) (.seq (.block 1 (ZR [Zm 28 26,Zm 8 28] (ZR [Zm 29 0,Zm 30 8,Zm 31 5,Zo 32 .add 30 31,Zx 33 1 29 32,Zf 34 1 33,u1 35 (.conv .u64) [.tm 34],Zm 9 35] (.seq (ZR [Zm 36 8,Zm 37 5,Zo 38 .add 36 37,Zp 39 38 1,Zm 40 0,Zl 41 40,Zr 42 .lss 39 41] (ZC 42 (.region [Zm 43 9,Zm 44 0,Zm 45 8,Zm 46 5,Zo 47 .add 45 46,Zp 48 47 1,Zx 49 1 44 48,Zf 50 1 49,u1 51 (.conv .u64) [.tm 50],u1 52 .shl [.tm 51,.cn (.int .u64 32)],u1 53 (.bit .or) [.tm 43,.tm 52],Zm 9 53]) .skip)) (.region [Zm 54 7,Zm 55 8,Zm 56 9,Zm 57 6,u1 58 .shr [.tm 56,.tm 57],u1 59 (.conv .u32) [.tm 58],Zx 60 1 54 55,Zs 1 60 59]))))) (.region [Zp 61 26 1,Zm 26 61]))))))) (ZR [Zm 62 7,Zc 63 155 62,Zm 4 63] .ret))))))⟩
theorem YB3:Ye YHk Tryz.f153=some v153:=by kernel_rfl
theorem Yoe{V j x:Nat}(hV:V<4294967296^j):setD V j x=V+x*4294967296^j:=by
 have:=YjF V j x
 rw[Ycr hV (YHr _)]at this
 omega
def wtimC:Ctr:={ alias:=false,of:=fun l=>match l with
 | [.vs _ _ n sz get,.vs _ _ m sz' get']=> .ex Nat fun a=> .ex Nat fun b=> .pre (padP a n sz get/\padP b m sz' get'/\n+m<=99999) (.fin (natS false (a*b)) [])
 |_=>noC}
theorem YtP:wtimC.ok YHk 147:=by
 refine Yb Tryz.func147 YBX YhQ 300 wtimC fun args k h=>?_
 simp only[wtimC]at h
 split at h
 ·rename_i t1 z1 n sz get t2 z2 m sz' get'
  obtain⟨a,b,⟨⟨rfl,hn,ha,hg⟩,⟨rfl,hm,hb,hg'⟩,hnm⟩,h⟩:=h
  refine⟨[.vs t1 z1 n 1 (fun k=>[.int .u32 (dig a k)]),.vs t2 z2 m 1 (fun k=>[.int .u32 (dig b k)])],⟨by simpa [le]using hg,by simpa [le]using hg',trivial⟩,?_⟩
  dsimp only[v147,YaX,YaY,v155,go_sem,reduceIte,YHf]
  simp only[Yc,YHf,YHh,reduceCtorEq,YHg]
  obtain⟨N,hNn⟩:∃N,N=n+m:=⟨_,rfl⟩
  obtain⟨X,hX⟩:∃X,X=a*b:=⟨_,rfl⟩
  have en:IntKind.i64.wrap ((n:Int)+(m:Int))=(N:Int):=by rw[hNn,YHi _ (by omega)];omega
  rw[en]
  simp only[YHj]
  refine⟨⟨by decide,by omega,by omega,by unfold Y3;omega⟩,?_⟩
  refine Loop.keep [0,0,3,12,0] Nat (fun i=>[(20,.int .i64 i)]) (fun i=>[(0,.own false 1 N (fun k=>[.int .u32 (dig ((a%4294967296^i)*b) k)]))]) [] (fun i=>i<=n) (fun i=>n-i) ?_ ?_
  ·refine⟨0,by omega,?_⟩
   dsimp only[go_sem,reduceIte,YHf]
   simp only[Ya]
   simp [Nat.mod_one,YfV,leL,le]
  ·rintro i hi
   dsimp only[YaX,YaY,v155,YHj,go_sem,reduceIte,YHf]
   simp only[Yc,YHf,YHh,reduceCtorEq,YHg]
   have hrow:∀i,(a%4294967296^i)*b<4294967296^(i+m):=fun i=>by
    rw[YHz]
    exact Nat.mul_lt_mul_of_lt_of_le (YIk _ (Yaa i)) (Nat.le_of_lt hb) (Yaa m)
   refine⟨fun hlt=>?_,fun hge=>?_⟩
   ·refine⟨⟨by omega,by omega⟩,?_⟩
    refine Loop.keep [0,0,3,0,0,10,0,0,4,0] (Nat×Nat×Nat) (fun x=>[(8,.int .u64 x.2.2),(27,.int .i64 x.1)]) (fun x=>[(0,.own false 1 N (fun k=>[.int .u32 (dig x.2.1 k)]))]) [] (fun x=>x.1<=m/\x.2.2<4294967296/\x.2.1<4294967296^(i+m)/\x.2.1+x.2.2*4294967296^(i+x.1)=(a%4294967296^i)*b+dig a i*(b%4294967296^x.1)*4294967296^i) (fun x=>m-x.1) ?_ ?_
    ·refine⟨(0,(a%4294967296^i)*b,0),⟨by simp only;omega,by simp only;omega,hrow i,by simp [Nat.mod_one]⟩,?_⟩
     dsimp only[go_sem,reduceIte,YHf]
     simp only[Ya]
     try simp [leL,le]
    ·rintro⟨t,V,c⟩ ⟨ht,hc,hV,he⟩
     dsimp only at ht hc hV he
     dsimp only[YHj,go_sem,reduceIte,YHf]
     simp only[Yc,YHf,YHh,reduceCtorEq,YHg]
     refine⟨fun hlt2=>?_,fun hge2=>?_⟩
     ·have w1:IntKind.i64.wrap ((i:Int)+(t:Int))=((i+t:Nat):Int):=by rw[YHi _ (by omega)];simp
      rw[w1]
      simp only[YHj]
      have hd0:=Yb0 V (i+t)
      have hd1:=Yb0 a i
      have hd2:=Yb0 b t
      obtain⟨hb1,hb2⟩:=YsD hd0 (Yb0 a i) (Yb0 b t) hc
      have hs:=Yv7 he
      refine⟨⟨by omega,by omega⟩,⟨by omega,by omega⟩,by omega,by decide,⟨by omega,by omega⟩,by omega,
       (t+1,setD V (i+t) ((dig V (i+t)+dig a i*dig b t+c)%4294967296),(dig V (i+t)+dig a i*dig b t+c)/4294967296),⟨by simp only;omega,hb2,Yto hV (YIk _ (by decide)) (by omega),hs⟩,by simp only;omega,?_⟩
      rw[YbX (by omega:dig V (i+t)<18446744073709551616),YbX (by omega:dig a i<18446744073709551616),YbX (by omega:dig b t<18446744073709551616),Yms (by omega),YhN (by omega),YhN (by omega),Yhx,sh32,YHi ((t:Int)+1) (by omega)]
      simp only[Ya]
      refine⟨by simp,fun j hj=>?_⟩
      rw[YfU (YIk _ (by decide))]
      split <;> simp only[leL,le,and_self]
     ·obtain rfl:t=m:=by omega
      have w1:IntKind.i64.wrap ((i:Int)+(t:Int))=((i+t:Nat):Int):=by rw[YHi _ (by omega)];simp
      rw[w1]
      simp only[YHj]
      rw[Nat.mod_eq_of_lt hb]at he
      have hrow2:(a%4294967296^(i+1))*b=setD V (i+t) c:=by
       rw[Yoe hV,he,Yfs,YHT,YHt,YHq (4294967296^i)]
      refine⟨⟨by omega,by omega⟩,by omega,i+1,by omega,by omega,?_⟩
      rw[YtH hc,hrow2,YHi ((i:Int)+1) (by omega)]
      simp only[Ya]
      refine⟨by simp,fun j hj=>?_⟩
      rw[YfU hc]
      split <;> simp only[leL,le,and_self]
   ·obtain rfl:i=n:=by omega
    have hmi:a%4294967296^i=a:=Nat.mod_eq_of_lt ha
    have hXN:X<4294967296^N:=by
     have:=hrow i
     rw[hmi]at this
     rw[hX,hNn];exact this
    rw[hmi,<-hX]
    rw[<-hX]at h
    refine Loop.keep [0] Nat (fun j=>[(0,.own 0 0 j 1)]) (fun _=>[(0,.own false 1 N (fun k=>[.int .u32 (dig X k)]))]) [] (fun j=>j<=N/\X<4294967296^j) (fun j=>j) ?_ ?_
    ·refine⟨N,⟨YHr _,hXN⟩,?_⟩
     dsimp only[go_sem,reduceIte,YHf]
     simp only[Ya]
     simp [leL,le]
    ·rintro j ⟨hj,haj⟩
     dsimp only[YHj,go_sem,reduceIte,YHf]
     simp only[Yc,YHf,YHh,reduceCtorEq,YHg]
     refine⟨fun hlt=>?_,fun hlt=>?_,fun hb=>?_,fun hb=>?_⟩
     ·rw[YP (by omega) (by omega)];omega
     ·rw[YP (by omega) (by omega)];omega
     ·rw[YHn,decide_eq_true_eq,decide_eq_true_eq]at hb
      obtain⟨h1,h2⟩:=hb
      rw[YP (by omega) (by omega),YHj]at h2
      refine⟨by rw[YP (by omega) (by omega)];omega,j-1,⟨by omega,?_⟩,by omega,?_⟩
      ·obtain⟨m,rfl⟩:∃m,j=m+1:=⟨j-1,by omega⟩
       exact YgV haj (by simp at h2;exact_mod_cast h2)
      ·rw[YP (by omega) (by omega)]
       simp only[Ya] <;> simp [leL,le]
     ·have e:nl X=j:=by
       refine Yg0 haj ?_
       rw[Bool.and_eq_false_iff,decide_eq_false_iff_not,decide_eq_false_iff_not]at hb
       rcases YH4 j with h0|h0
       ·exact .inl h0
       ·refine .inr fun hh=>hb.elim (fun h=>h (by omega)) fun h=>h ?_
        rw[YP h0 (by omega),YHj,hh];rfl
      subst e
      exact Ygj h rfl rfl rfl fun j hj=>rfl
 ·exact h.1.elim
def wupC:Ctr:={ alias:=false,of:=fun l=>match l with
 | [.vs _ _ n sz get,.int .i64 s]=> .ex Nat fun a=> .ex Nat fun d=> .pre (padP a n sz get/\n=nl a/\n<=9999/\s=d/\d<=20000) (.all Bool fun z=> .fin (natS (z&&decide (a*2^d=0)) (a*2^d)) [])
 |_=>noC}
def wdownC:Ctr:={ alias:=false,of:=fun l=>match l with
 | [.vs _ _ n sz get,.int .i64 s]=> .ex Nat fun a=> .ex Nat fun d=> .pre (padP a n sz get/\n<=9999/\s=d/\d<=20000) (.all Bool fun z=> .fin (natS (z&&decide (a/2^d=0)) (a/2^d)) [])
 |_=>noC}
theorem Ym3{k:SV->List HO->Prop}{al:Bool}{hp:List HO}(h:k (natS true 0) []):Yz al k .nil hp:=
 YE h (by show le 0 0 (view true hp (viewN true hp 2) .nil) _;unfold view;simp [natS,nl_0,le]) (fun _=>by simp [natS,Yt,Ys])
theorem or_hi{x y:Nat}(hx:x<4294967296)(hy:y<4294967296):bitI .or .u64 (x:Int) (IntKind.u64.wrap ((y:Int)*2^min (YH0 32) 64))=((x+y*4294967296:Nat):Int):=by
 have e:IntKind.u64.wrap ((y:Int)*2^min (YH0 32) 64)=((y*4294967296:Nat):Int):=Yhn (s:=32) (by decide) (by omega)
 rw[e,show bitI .or .u64 (x:Int) ((y*4294967296:Nat):Int)=((x||| y*4294967296:Nat):Int)from YsQ (by omega) (by omega)]
 have:=Nat.two_pow_add_eq_or_of_lt (i:=32) hx y
 rw[Nat.or_comm,YHq,show(4294967296:Nat)=2^32 from rfl,<-this,Nat.add_comm]
theorem Yk3{y r:Nat}(h:r<32):y%(4294967296*4294967296)/2^r%4294967296=y/2^r%4294967296:=by
 have e:(4294967296*4294967296:Nat)=2^r*(4294967296*2^(32-r)):=by
  rw[show(4294967296:Nat)=2^32 from rfl,<-YHz,<-YHz,<-YHz];congr 1;omega
 rw[e,Nat.mod_mul_right_div_self,Nat.mod_mul_right_mod]
theorem Yns{a d w r:Nat}(hw:w=d/32)(hr:r=d%32)(i:Nat):dig (a/2^d) i=(dig a (i+w)+dig a (i+w+1)*4294967296)/2^r%4294967296:=by
 have e:dig a (i+w)+dig a (i+w+1)*4294967296=a/4294967296^(i+w)%(4294967296*4294967296):=by
  unfold dig
  rw[YaP,<-YId]
  generalize a/4294967296^(i+w)=y
  omega
 rw[e,Yk3 (by omega)]
 unfold dig
 have e2:2^d*4294967296^i=4294967296^(i+w)*2^r:=by
  rw[Yfx,Yfx,<-YHz,<-YHz];congr 1;omega
 rw[YId,YId,e2]
theorem Yzo{a d w n N:Nat}(hw:w=d/32)(hN:N=n-w)(hwn:w<n)(ha:a<4294967296^n):a/2^d<4294967296^N:=by
 rw[YHW (YH d)]
 refine YIa ha ?_
 rw[Yfx,Yfx,<-YHz]
 exact YHL (by decide) (by omega)
theorem Yhw{d w r:Nat}(hw:w=d/32)(hr:r=d%32):2^d=2^r*4294967296^w:=by
 rw[Yfx,<-YHz];congr 1;omega
theorem Yz5(x:Nat){r:Nat}(hr:r<32):x*2^r%4294967296=2^r*(x%2^(32-r)):=by
 have e:(4294967296:Nat)=2^r*2^(32-r):=by
  rw[<-YHz,show r+(32-r)=32 by omega]
 rw[YHq x,e,Nat.mul_mod_mul_left]
theorem YBh{a d w r:Nat}(hw:w=d/32)(hr:r=d%32)(i:Nat):
 (dig ((a%4294967296^i)*2^d) (i+w) ||| dig a i*2^r%4294967296)<4294967296/\(a%4294967296^(i+1))*2^d=setD (setD ((a%4294967296^i)*2^d) (i+w) (dig ((a%4294967296^i)*2^d) (i+w) ||| dig a i*2^r%4294967296)) (i+w+1) (dig a i*2^r/4294967296):=by
 have hr32:r<32:=by omega
 have hb:(dig ((a%4294967296^i)*2^d) (i+w) ||| dig a i*2^r%4294967296)<4294967296:=Nat.or_lt_two_pow (n:=32) (Yb0 _ _) (YIk _ (by decide))
 refine⟨hb,?_⟩
 have hY:(a%4294967296^i)*2^d<4294967296^(i+w)*2^r:=by
  rw[Yhw hw hr,<-YHt,Nat.mul_right_comm,YHz]
  exact Nat.mul_lt_mul_of_pos_right (Nat.mul_lt_mul_of_pos_right (YIk _ (Yaa i)) (Yaa w)) (YH r)
 have h2r:2^r<4294967296:=Nat.pow_lt_pow_right (a:=2) (n:=32) (by decide) hr32
 have hYl:(a%4294967296^i)*2^d<4294967296^(i+w+1):=by
  rw[YaP]
  exact YIa hY (YHx _ (Nat.le_of_lt h2r))
 have hd0:dig ((a%4294967296^i)*2^d) (i+w)<2^r:=by
  unfold dig
  refine YIi (Nat.mod_le _ _) ?_
  rw[YHW (Yaa _),YHq (2^r)]
  exact hY
 have hor:(dig ((a%4294967296^i)*2^d) (i+w) ||| dig a i*2^r%4294967296)=dig ((a%4294967296^i)*2^d) (i+w)+dig a i*2^r%4294967296:=by
  rw[Yz5 _ hr32,Nat.or_comm,<-Nat.two_pow_add_eq_or_of_lt hd0,Nat.add_comm]
 rw[Yoe (Yto hYl hb (by omega))]
 have e1:=YjF ((a%4294967296^i)*2^d) (i+w) (dig ((a%4294967296^i)*2^d) (i+w) ||| dig a i*2^r%4294967296)
 rw[hor,YHT]at e1
 rw[hor]
 have e2:(a%4294967296^(i+1))*2^d=(a%4294967296^i)*2^d+dig a i*2^r*4294967296^(i+w):=by
  rw[Yfs,YHT,YHz,Yhw hw hr]
  congr 1
  simp only[YHt,YHY,YHq]
 have e3:dig a i*2^r*4294967296^(i+w)=dig a i*2^r%4294967296*4294967296^(i+w)+dig a i*2^r/4294967296*4294967296^(i+w+1):=by
  rw[YaP,YHq (4294967296^(i+w)) 4294967296,<-YHt,<-YHT]
  congr 1
  omega
 rw[e2,e3]
 omega
theorem shl_r{x:Nat}(hx:x<4294967296){r:Nat}(h:r<32):IntKind.u64.wrap ((x:Int)*2^min (YH0 (IntKind.u64.wrap (r:Int))) 64)=((x*2^r:Nat):Int):=by
 have h2r:2^r<4294967296:=Nat.pow_lt_pow_right (a:=2) (n:=32) (by decide) h
 have:x*2^r<=4294967295*4294967295:=YHE (by omega) (by omega)
 rw[YbX (by omega),YHj];exact Yhn (by omega) (by omega)
theorem YDk{x y:Nat}(hx:x<4294967296)(hy:y<4294967296):bitI .or .u32 (x:Int) (y:Int)=((x||| y:Nat):Int):=YEr hx hy
theorem YFu(x:Nat){r:Nat}(h:r<32):(x:Int).fdiv (2^min (YH0 (IntKind.u64.wrap (r:Int))) 64)=((x/2^r:Nat):Int):=by
 rw[YbX (by omega),YHj];exact YbW (by omega)
theorem YwT:wdownC.ok YHk 153:=by
 refine Yb Tryz.func153 YB3 YhQ 300 wdownC fun args k h=>?_
 simp only[wdownC]at h
 split at h
 ·rename_i t1 z1 n sz get s
  obtain⟨a,d,⟨⟨rfl,hn,ha,hg⟩,hn9,rfl,hd⟩,h⟩:=h
  refine⟨[.vs t1 z1 n 1 (fun k=>[.int .u32 (dig a k)]),.int .i64 d],⟨by simpa [le]using hg,⟨rfl,rfl⟩,trivial⟩,?_⟩
  dsimp only[v153,YaX,YaY,v155,go_sem,reduceIte,YHf]
  simp only[Yc,YHf,YHh,reduceCtorEq,YHg]
  obtain⟨w,hw⟩:∃w,w=d/32:=⟨_,rfl⟩
  obtain⟨r,hr⟩:∃r,r=d%32:=⟨_,rfl⟩
  have hr32:r<32:=by rw[hr];exact YIk _ (by decide)
  have ew:IntKind.i64.wrap ((d:Int).tdiv 32)=(w:Int):=by
   have:(d:Int).tdiv 32=((d/32:Nat):Int):=IntWalk.up_tdiv (y:=32) rfl rfl
   rw[this,hw,YHi _ (by omega)]
  have er:(d:Int).tmod 32=(r:Int):=by rw[hr];exact IntWalk.up_tmod (y:=32) rfl rfl
  obtain⟨X,hX⟩:∃X,X=a/2^d:=⟨_,rfl⟩
  rw[ew,er]
  refine⟨by decide,by decide,fun hc=>?_,fun hc=>?_⟩
  ·have:a/2^d=0:=by
    rw[Nat.div_eq_of_lt]
    refine YIa ha ?_
    rw[Yfx]
    exact YHL (by decide) (by omega)
   rw[this]at h
   exact Ym3 (show k _ []from h true)
  ·obtain⟨N,hNn⟩:∃N,N=n-w:=⟨_,rfl⟩
   have en:IntKind.i64.wrap ((n:Int)-(w:Int))=(N:Int):=by rw[hNn,YHi _ (by omega)];omega
   rw[en]
   simp only[YHj]
   have hXN:X<4294967296^N:=by rw[hX];exact Yzo hw hNn (by omega) ha
   refine⟨⟨by decide,by omega,by omega,by unfold Y3;omega⟩,?_⟩
   refine Loop.keep [0,4,0,0,16,0] Nat (fun i=>[(26,.int .i64 i)]) (fun i=>[(0,.own false 1 N (fun k=>[.int .u32 (dig (X%4294967296^i) k)]))]) [] (fun i=>i<=N) (fun i=>N-i) ?_ ?_
   ·refine⟨0,by omega,?_⟩
    dsimp only[go_sem,reduceIte,YHf]
    simp only[Ya]
    simp [Nat.mod_one,YfV,leL,le]
   ·rintro i hi
    dsimp only[YaX,YaY,v155,YHj,go_sem,reduceIte,YHf]
    simp only[Yc,YHf,YHh,reduceCtorEq,YHg]
    refine⟨fun hlt=>?_,fun hge=>?_⟩
    ·have w1:IntKind.i64.wrap ((i:Int)+(w:Int))=((i+w:Nat):Int):=by rw[YHi _ (by omega)];simp
     have w2:IntKind.i64.wrap (((i+w:Nat):Int)+1)=((i+w+1:Nat):Int):=by rw[YHi _ (by omega)];simp
     rw[w1,w2]
     simp only[YHj]
     have hd1:=Yb0 a (i+w)
     have hd2:=Yb0 a (i+w+1)
     refine⟨⟨by omega,by omega⟩,fun hc2=>⟨⟨by omega,by omega⟩,by decide,by rw[YbX (by omega)];omega,⟨by omega,by omega⟩,by omega,i+1,by omega,by omega,?_⟩,fun hc2=>⟨by rw[YbX (by omega)];omega,⟨by omega,by omega⟩,by omega,i+1,by omega,by omega,?_⟩⟩
     ·rw[YbX (by omega:dig a (i+w)<18446744073709551616),YbX (by omega:dig a (i+w+1)<18446744073709551616),or_hi hd1 hd2,YFu _ hr32,Yhx,<-Yns hw hr,YHi ((i:Int)+1) (by omega)]
      simp only[Ya]
      refine⟨by simp,fun j hj=>?_⟩
      rw[Yay,Yay,hX]
      by_cases hji:j=i
      ·rw[if_pos hji,if_pos (by omega),hji];simp only[leL,le,and_self]
      ·rw[if_neg hji];simp only[show(j<i+1)↔(j<i)from by omega];simp only[leL,le,and_self]
     ·have hz:dig a (i+w+1)=0:=Ycr ha (by omega)
      have hdd:= @Yns a d w r hw hr i
      rw[hz,Nat.zero_mul,Nat.add_zero]at hdd
      rw[YbX (by omega:dig a (i+w)<18446744073709551616),YFu _ hr32,Yhx,<-hdd,YHi ((i:Int)+1) (by omega)]
      simp only[Ya]
      refine⟨by simp,fun j hj=>?_⟩
      rw[Yay,Yay,hX]
      by_cases hji:j=i
      ·rw[if_pos hji,if_pos (by omega),hji];simp only[leL,le,and_self]
      ·rw[if_neg hji];simp only[show(j<i+1)↔(j<i)from by omega];simp only[leL,le,and_self]
    ·obtain rfl:i=N:=by omega
     rw[Nat.mod_eq_of_lt hXN]
     have h:k (natS false X) []:=by rw[hX];exact h false
     obtain⟨N,rfl⟩:∃N,N=i:=⟨_,rfl⟩
     refine Loop.keep [0] Nat (fun j=>[(0,.own 0 0 j 1)]) (fun _=>[(0,.own false 1 N (fun k=>[.int .u32 (dig X k)]))]) [] (fun j=>j<=N/\X<4294967296^j) (fun j=>j) ?_ ?_
     ·refine⟨N,⟨YHr _,hXN⟩,?_⟩
      dsimp only[go_sem,reduceIte,YHf]
      simp only[Ya]
      simp [leL,le]
     ·rintro j ⟨hj,haj⟩
      dsimp only[YHj,go_sem,reduceIte,YHf]
      simp only[Yc,YHf,YHh,reduceCtorEq,YHg]
      refine⟨fun hlt=>?_,fun hlt=>?_,fun hb=>?_,fun hb=>?_⟩
      ·rw[YP (by omega) (by omega)];omega
      ·rw[YP (by omega) (by omega)];omega
      ·rw[YHn,decide_eq_true_eq,decide_eq_true_eq]at hb
       obtain⟨h1,h2⟩:=hb
       rw[YP (by omega) (by omega),YHj]at h2
       refine⟨by rw[YP (by omega) (by omega)];omega,j-1,⟨by omega,?_⟩,by omega,?_⟩
       ·obtain⟨m,rfl⟩:∃m,j=m+1:=⟨j-1,by omega⟩
        exact YgV haj (by simp at h2;exact_mod_cast h2)
       ·rw[YP (by omega) (by omega)]
        simp only[Ya] <;> simp [leL,le]
      ·have e:nl X=j:=by
        refine Yg0 haj ?_
        rw[Bool.and_eq_false_iff,decide_eq_false_iff_not,decide_eq_false_iff_not]at hb
        rcases YH4 j with h0|h0
        ·exact .inl h0
        ·refine .inr fun hh=>hb.elim (fun h=>h (by omega)) fun h=>h ?_
         rw[YP h0 (by omega),YHj,hh];rfl
       subst e
       exact Ygj h rfl rfl rfl fun j hj=>rfl
 ·exact h.1.elim
theorem YHd:wupC.ok YHk 154:=by
 refine Yb Tryz.func154 YB4 YhQ 300 wupC fun args k h=>?_
 simp only[wupC]at h
 split at h
 ·rename_i t1 z1 n sz get s
  obtain⟨a,d,⟨⟨rfl,hn,ha,hg⟩,hna,hn9,rfl,hd⟩,h⟩:=h
  refine⟨[.vs t1 z1 n 1 (fun k=>[.int .u32 (dig a k)]),.int .i64 d],⟨by simpa [le]using hg,⟨rfl,rfl⟩,trivial⟩,?_⟩
  dsimp only[v154,YaX,YaY,v155,go_sem,reduceIte,YHf]
  simp only[Yc,YHf,YHh,reduceCtorEq,YHg]
  obtain⟨w,hw⟩:∃w,w=d/32:=⟨_,rfl⟩
  obtain⟨r,hr⟩:∃r,r=d%32:=⟨_,rfl⟩
  have hr32:r<32:=by rw[hr];exact YIk _ (by decide)
  have ew:IntKind.i64.wrap ((d:Int).tdiv 32)=(w:Int):=by
   have:(d:Int).tdiv 32=((d/32:Nat):Int):=IntWalk.up_tdiv (y:=32) rfl rfl
   rw[this,hw,YHi _ (by omega)]
  have er:(d:Int).tmod 32=(r:Int):=by rw[hr];exact IntWalk.up_tmod (y:=32) rfl rfl
  obtain⟨X,hX⟩:∃X,X=a*2^d:=⟨_,rfl⟩
  rw[ew,er]
  refine⟨fun hc=>?_,fun hc=>⟨by decide,by decide,?_⟩⟩
  ·obtain rfl:n=0:=by omega
   have:a=0:=by simpa using ha
   rw[this,Nat.zero_mul]at h
   exact Ym3 (show k _ []from h true)
  ·obtain⟨N,hNn⟩:∃N,N=n+w+1:=⟨_,rfl⟩
   have en:IntKind.i64.wrap (IntKind.i64.wrap ((n:Int)+(w:Int))+1)=(N:Int):=by rw[hNn,YHi ((n:Int)+w) (by omega),YHi _ (by omega)];omega
   rw[en]
   simp only[YHj]
   refine⟨⟨by decide,by omega,by omega,by unfold Y3;omega⟩,?_⟩
   refine Loop.keep [0,4,0,0,17,0] Nat (fun i=>[(27,.int .i64 i)]) (fun i=>[(0,.own false 1 N (fun k=>[.int .u32 (dig ((a%4294967296^i)*2^d) k)]))]) [] (fun i=>i<=n) (fun i=>n-i) ?_ ?_
   ·refine⟨0,by omega,?_⟩
    dsimp only[go_sem,reduceIte,YHf]
    simp only[Ya]
    simp [Nat.mod_one,YfV,leL,le]
   ·rintro i hi
    dsimp only[YaX,YaY,v155,YHj,go_sem,reduceIte,YHf]
    simp only[Yc,YHf,YHh,reduceCtorEq,YHg]
    refine⟨fun hlt=>?_,fun hge=>?_⟩
    ·have w1:IntKind.i64.wrap ((i:Int)+(w:Int))=((i+w:Nat):Int):=by rw[YHi _ (by omega)];simp
     have w2:IntKind.i64.wrap (((i+w:Nat):Int)+1)=((i+w+1:Nat):Int):=by rw[YHi _ (by omega)];simp
     rw[w1,w2]
     simp only[YHj]
     have hd1:=Yb0 a i
     obtain⟨s1,s2⟩:= @YBh a d w r hw hr i
     refine⟨⟨by omega,by omega⟩,by rw[YbX (by omega)];omega,⟨by omega,by omega⟩,by omega,⟨by omega,by omega⟩,by omega,by decide,⟨by omega,by omega⟩,by omega,i+1,by omega,by omega,?_⟩
     rw[YbX (by omega:dig a i<18446744073709551616),shl_r hd1 hr32,Yhx,sh32,YDk (Yb0 _ _) (YIk _ (by decide)),YtH (by
      have h2r:2^r<4294967296:=Nat.pow_lt_pow_right (a:=2) (n:=32) (by decide) hr32
      have:dig a i*2^r<=4294967295*4294967295:=YHE (by omega) (by omega)
      omega),YHi ((i:Int)+1) (by omega)]
     simp only[Ya]
     refine⟨by simp,fun j hj=>?_⟩
     have hhi:dig a i*2^r/4294967296<4294967296:=by
      have h2r:2^r<4294967296:=Nat.pow_lt_pow_right (a:=2) (n:=32) (by decide) hr32
      have:dig a i*2^r<=4294967295*4294967295:=YHE (by omega) (by omega)
      omega
     rw[s2,YfU hhi,YfU s1]
     by_cases hj1:j=i+w+1
     ·rw[if_pos hj1,if_pos hj1,if_neg (by omega)]
      simp [Y7,leL,le]
     ·rw[if_neg hj1,if_neg hj1]
      split <;> simp only[leL,le,and_self]
    ·obtain rfl:i=n:=by omega
     rw[Nat.mod_eq_of_lt ha,<-hX]
     have h:k (natS false X) []:=by rw[hX];exact h false
     have hXN:X<4294967296^N:=by
      have h2r:2^r<4294967296:=Nat.pow_lt_pow_right (a:=2) (n:=32) (by decide) hr32
      rw[hX,Yhw hw hr,hNn,YaP,YHz,YHt,YHq _ (4294967296^w)]
      exact Nat.mul_lt_mul_of_lt_of_le ha (YHx _ (Nat.le_of_lt h2r)) (Nat.mul_pos (Yaa w) (by decide))
     refine Loop.keep [0] Nat (fun j=>[(0,.own 0 0 j 1)]) (fun _=>[(0,.own false 1 N (fun k=>[.int .u32 (dig X k)]))]) [] (fun j=>j<=N/\X<4294967296^j) (fun j=>j) ?_ ?_
     ·refine⟨N,⟨YHr _,hXN⟩,?_⟩
      dsimp only[go_sem,reduceIte,YHf]
      simp only[Ya]
      simp [leL,le]
     ·rintro j ⟨hj,haj⟩
      dsimp only[YHj,go_sem,reduceIte,YHf]
      simp only[Yc,YHf,YHh,reduceCtorEq,YHg]
      refine⟨fun hlt=>?_,fun hlt=>?_,fun hb=>?_,fun hb=>?_⟩
      ·rw[YP (by omega) (by omega)];omega
      ·rw[YP (by omega) (by omega)];omega
      ·rw[YHn,decide_eq_true_eq,decide_eq_true_eq]at hb
       obtain⟨h1,h2⟩:=hb
       rw[YP (by omega) (by omega),YHj]at h2
       refine⟨by rw[YP (by omega) (by omega)];omega,j-1,⟨by omega,?_⟩,by omega,?_⟩
       ·obtain⟨m,rfl⟩:∃m,j=m+1:=⟨j-1,by omega⟩
        exact YgV haj (by simp at h2;exact_mod_cast h2)
       ·rw[YP (by omega) (by omega)]
        simp only[Ya] <;> simp [leL,le]
      ·have e:nl X=j:=by
        refine Yg0 haj ?_
        rw[Bool.and_eq_false_iff,decide_eq_false_iff_not,decide_eq_false_iff_not]at hb
        rcases YH4 j with h0|h0
        ·exact .inl h0
        ·refine .inr fun hh=>hb.elim (fun h=>h (by omega)) fun h=>h ?_
         rw[YP h0 (by omega),YHj,hh];rfl
       subst e
       exact Ygj h rfl rfl rfl fun j hj=>rfl
 ·exact h.1.elim
def v142:VF:=⟨7,[.tmp 2],(ZR [Zi 2 0] (.seq (ZR [Zm 3 0,u1 4 (.call 149) [.tm 3,.cn (.fn (.func 150) [] [])]] (ZC 4 (ZR [Zi 2 3] .ret) .skip)) (.seq (ZR [Zm 5 0,u1 6 (.call 149) [.tm 5,.cn (.fn (.func 151) [] [])]] (ZC 6 (ZR [Zi 2 2] .ret) .skip)) (ZR [Zi 2 0] .ret))))⟩
theorem YBS:Ye YHk Tryz.f142=some v142:=by kernel_rfl
def v150:VF:=⟨6,[.tmp 2],(ZR [u1 2 .mov [.cn (.bool false)]] (ZR [Zm 3 0,Zl 4 3,Zq 5 .gtr 4 512,Zm 2 5] .ret))⟩
theorem YB0:Ye YHk Tryz.f150=some v150:=by kernel_rfl
def v151:VF:=⟨6,[.tmp 2],(ZR [u1 2 .mov [.cn (.bool false)]] (ZR [Zm 3 0,Zc 4 152 3,u1 5 .not [.tm 4],Zm 2 5] .ret))⟩
theorem YB1:Ye YHk Tryz.f151=some v151:=by kernel_rfl
def v152:VF:=⟨20,[.tmp 2],(ZR [u1 2 .mov [.cn (.bool false)]] (ZR [Zm 3 0,Zl 4 3,Zq 5 .leq 4 512,Zm 6 5,Zg 7 6 true 0,u2 8 6 true .len [.tm 7],u2 9 6 true (.cmp .eql) [.tm 8,.cn (.int .i64 0)],Zg 10 6 true 9,Zg 11 10 false 0,Zg 12 10 false 0,u2 13 10 false .len [.tm 12],u2 14 10 false (.ari .sub) [.tm 13,.cn (.int .i64 1)],u2 15 10 false (.idxAddr 1) [.tm 11,.tm 14],Zh 16 10 false 1 15,u2 17 10 false (.cmp .neq) [.tm 16,.cn (.int .u32 0)],u2 18 6 true .or [.tm 10,.tm 17],u1 19 .and [.tm 6,.tm 18],Zm 2 19] .ret))⟩
theorem YB2:Ye YHk Tryz.f152=some v152:=by kernel_rfl
def v146:VF:=⟨9,[.tmp 2,.tmp 3],(ZR [u1 2 .mov [.cn .nil],Zi 3 0] (.seq (ZR [Zm 4 0,Zl 5 4,Zq 6 .gtr 5 512] (ZC 6 (ZR [u1 2 .mov [.cn .nil],Zi 3 3] .ret) .skip)) (ZR [Zm 7 0,Zc 8 156 7,Zm 2 8,Zi 3 0] .ret)))⟩
theorem YBW:Ye YHk Tryz.f146=some v146:=by kernel_rfl
def v135:VF:=⟨17,[.tmp 4,.tmp 5],(ZR [Zi 4 0,Zi 5 0] (.seq (ZR [Zm 7 0,Zm 8 1,u1 9 (.buildSlice 1 2 [.nil] [(0,1),(1,1)]) [.tm 7,.tm 8],Zc 10 142 9,Zm 6 10] (ZR [Zm 11 6,Zq 12 .neq 11 0] (ZC 12 (ZR [Zm 13 6,Zi 4 0,Zm 5 13] .ret) .skip))) (ZR [Zm 14 0,Zm 15 1,Zd 16 143 14 15,Zm 4 16,Zi 5 0] .ret)))⟩
theorem YBL:Ye YHk Tryz.f135=some v135:=by kernel_rfl
def v144:VF:=⟨37,[.tmp 4,.tmp 5],(ZR [u1 4 .mov [.cn .nil],Zi 5 0] (ZR [Zm 7 0,u1 8 (.buildSlice 1 1 [.nil] [(0,1)]) [.tm 7],Zc 9 142 8,Zm 6 9] (.seq (.block 0 (ZR [Zm 11 6,Zq 12 .neq 11 0,Zm 10 12] (ZC 10 (ZR [Zm 13 6,u1 4 .mov [.cn .nil],Zm 5 13] .ret) (ZR [Zm 15 1,Zq 16 .lss 15 (-20000),Zm 17 16,Zg 18 17 false 1,u2 19 17 false (.cmp .gtr) [.tm 18,.cn (.int .i64 20000)],u1 20 .or [.tm 17,.tm 19],Zm 14 20] (ZC 14 (ZR [u1 4 .mov [.cn .nil],Zi 5 2] .ret) (ZR [Zm 22 1,Zq 23 .lss 22 0,Zm 21 23] (ZC 21 (ZR [Zm 24 0,Zm 25 1,u1 26 .neg [.tm 25],Zd 27 153 24 26,Zc 28 146 27,Ze 29 0 28,Ze 30 1 28,Zm 4 29,Zm 5 30] .ret) .skip))))))) (ZR [Zm 31 0,Zm 32 1,Zd 33 154 31 32,Zc 34 146 33,Ze 35 0 34,Ze 36 1 34,Zm 4 35,Zm 5 36] .ret))))⟩
theorem YBU:Ye YHk Tryz.f144=some v144:=by kernel_rfl
def v139:VF:=⟨20,[.tmp 4,.tmp 5],(ZR [u1 4 .mov [.cn .nil],Zi 5 0] (.seq (ZR [Zm 7 0,Zm 8 1,u1 9 (.buildSlice 1 2 [.nil] [(0,1),(1,1)]) [.tm 7,.tm 8],Zc 10 142 9,Zm 6 10] (ZR [Zm 11 6,Zq 12 .neq 11 0] (ZC 12 (ZR [Zm 13 6,u1 4 .mov [.cn .nil],Zm 5 13] .ret) .skip))) (ZR [Zm 14 0,Zm 15 1,Zd 16 145 14 15,Zc 17 146 16,Ze 18 0 17,Ze 19 1 17,Zm 4 18,Zm 5 19] .ret)))⟩
theorem YBP:Ye YHk Tryz.f139=some v139:=by kernel_rfl
def v140:VF:=⟨20,[.tmp 4,.tmp 5],(ZR [u1 4 .mov [.cn .nil],Zi 5 0] (.seq (ZR [Zm 7 0,Zm 8 1,u1 9 (.buildSlice 1 2 [.nil] [(0,1),(1,1)]) [.tm 7,.tm 8],Zc 10 142 9,Zm 6 10] (ZR [Zm 11 6,Zq 12 .neq 11 0] (ZC 12 (ZR [Zm 13 6,u1 4 .mov [.cn .nil],Zm 5 13] .ret) .skip))) (ZR [Zm 14 0,Zm 15 1,Zd 16 147 14 15,Zc 17 146 16,Ze 18 0 17,Ze 19 1 17,Zm 4 18,Zm 5 19] .ret)))⟩
theorem YBQ:Ye YHk Tryz.f140=some v140:=by kernel_rfl
def v149:VF:=⟨9,[.tmp 4],(ZR [u1 4 .mov [.cn (.bool false)]] (ZR [Zm 5 0,Zm 6 1,Zd 7 157 5 6,Zq 8 .geq 7 0,Zm 4 8] .ret))⟩
theorem YBZ:Ye YHk Tryz.f149=some v149:=by kernel_rfl
def v157:VF:=⟨19,[.tmp 4],(ZR [Zi 4 0] (.seq (ZR [Zm 6 0,Zl 7 6,Zi 8 0] (.block 0 (.loop (ZR [Zr 9 .lss 8 7] (.seq (ZC 9 .skip (.exit 0)) (.seq (.block 1 (ZR [Zm 10 8,Zm 5 10] (ZR [Zm 11 1,Zm 12 0,Zm 13 5,Zx 14 1 12 13,Zf 15 1 14,u1 16 .callv [.tm 11,.tm 15]] (ZC 16 (ZR [Zm 17 5,Zm 4 17] .ret) .skip)))) (.region [Zp 18 8 1,Zm 8 18]))))))) (ZR [Zi 4 (-1)] .ret)))⟩
theorem YB6:Ye YHk Tryz.f157=some v157:=by kernel_rfl
def v156:VF:=⟨8,[.tmp 2],(ZR [u1 2 .mov [.cn .nil]] (.seq (ZR [Zm 3 0,u1 4 (.isNil false) [.tm 3,.cn .nil]] (ZC 4 (ZR [u1 2 .mov [.cn .nil]] .ret) .skip)) (ZR [u1 5 (.buildSlice 1 0 [(.int .u32 0)] []) [],Zm 6 0,u1 7 (.append 1 4 [(.int .u32 0)]) [.tm 5,.tm 6],Zm 2 7] .ret)))⟩
theorem YB5:Ye YHk Tryz.f156=some v156:=by kernel_rfl
def wvalC:Ctr:={ alias:=false,of:=fun l=>match l with
 | [.vs _ _ n sz get]=> .ex Nat fun a=> .pre (padP a n sz get/\n=nl a/\n<=512) (.fin (.bool true) [])
 |_=>noC}
def capF(a:Nat):Nat:=if nl a<=512 then a else 0
def capE(a:Nat):Int:=if nl a<=512 then 0 else 3
def resC:Ctr:={ alias:=false,of:=fun l=>match l with
 | [.vs _ z n sz get]=> .ex Nat fun a=> .pre (padP a n sz get/\n=nl a/\(z=true->n=0)) (.all Bool fun y=> .fin (.tup [natS y (capF a),.int .i64 (capE a)]) [])
 |_=>noC}
def natI(z:Bool)(a:Nat):SV:= .vs false z (nl a) 1 (fun k=>[.int .u32 (dig a k)])
def wchkC:Ctr:={ alias:=false,of:=fun l=>match l with
 | [.vs _ _ n sz get]=> .ex (List (Bool×Nat)) fun l=> .pre (lsP 1 (fun x=>[natI x.1 x.2]) n sz get l/\(∀x,x∈l->nl x.2<=512)/\n<=100) (.fin (.int .i64 0) [])
 |_=>noC}
def WD3:Env:={ ct:=fun _=>none,fn:=fun _=>none,meth:=fun _ _=>none}
theorem YDb:Yn YHk WD3:=by
 refine⟨fun f c h=>?_,fun f vf h=>?_,(fun _ _ _ h=>by cases h),by kernel_rfl,(fun _ h=>by cases h),(fun _ _ h=>by cases h)⟩
 ·cases h
 ·cases h
theorem YtQ:wvalC.ok YHk 152:=by
 refine Yb Tryz.func152 YB2 YDb 200 wvalC fun args k h=>?_
 simp only[wvalC]at h
 split at h
 ·rename_i tt z n sz get
  obtain⟨a,⟨⟨rfl,hn,ha,hg⟩,hna,hn5⟩,h⟩:=h
  refine⟨[.vs tt z n 1 (fun k=>[.int .u32 (dig a k)])],by simpa [leL,le]using hg,?_⟩
  dsimp only[v152,go_sem,reduceIte,YHf]
  simp only[Yc,YHf,YHh,reduceCtorEq,YHg]
  refine⟨fun hb=>?_,fun c1 c2=>by rw[decide_eq_true c1,decide_eq_false c2];rfl,?_⟩
  ·rw[YHn,decide_eq_true_eq]at hb
   have h0:¬((n:Int)=0):=fun e=>by rw[decide_eq_true e]at hb;simp at hb
   rw[YP (by omega) (by omega)]
   omega
  ·rw[decide_eq_true (by omega:(n:Int)<=512),Bool.true_and]
   have:(decide ((n:Int)=0) || !decide (((dig a (IntKind.i64.wrap ((n:Int)-1)).toNat:Nat):Int)=0))=true:=by
    rcases YH4 n with h0|h0
    ·simp [h0]
    ·have ht:=YEj (a:=a) (fun e=>by rw[e,nl_0]at hna;omega)
     rw[YP h0 (by omega),YHj,hna,decide_eq_false (by omega:¬(((dig a (nl a-1):Nat):Int)=0))]
     simp
   rw[this]
   exact Yi h
 ·exact h.1.elim
def WD4:Env:={ ct:=fun _=>none,fn:=fun n=>match n with|156=>some v156|_=>none,meth:=fun _ _=>none}
theorem YqB:WD4.ct 156=none:=rfl
theorem YqC:WD4.fn 156=some v156:=rfl
theorem YDc:Yn YHk WD4:=by
 refine⟨fun f c h=>?_,fun f vf h=>?_,(fun _ _ _ h=>by cases h),by kernel_rfl,(fun _ h=>by cases h),(fun _ _ h=>by cases h)⟩
 ·cases h
 ·simp only[WD4]at h
  split at h
  ·cases h;exact⟨Tryz.f156,Tryz.func156,YB5,Tryz.f156,Tryz.func156,by kernel_rfl,by kernel_rfl⟩
  ·cases h
theorem Ym4{k:SV->List HO->Prop}{al:Bool}{hp:List HO}{e:Int}(h:k (.tup [natS true 0,.int .i64 e]) []):Yz al k (.tup [.nil,.int .i64 e]) hp:=
 YE (show k _ []from h) (by simp [natS,nl_0,expo,view,YaS,le,leL]) (fun _=>by simp [natS,Yt,Ys])
theorem YCk:resC.ok YHk 146:=by
 refine Yb Tryz.func146 YBW YDc 200 resC fun args k h=>?_
 simp only[resC]at h
 split at h
 ·rename_i tt z n sz get
  obtain⟨a,⟨⟨rfl,hn,ha,hg⟩,hna,hz0⟩,h⟩:=h
  refine⟨[.vs tt z n 1 (fun k=>[.int .u32 (dig a k)])],by simpa [leL,le]using hg,?_⟩
  dsimp only[v146,YqB,YqC,v156,go_sem,reduceIte,YHf]
  simp only[Yc,YHf,YHh,reduceCtorEq,YHg]
  refine⟨fun hc=>?_,fun hc=>⟨fun hz=>?_,fun hz=>⟨by decide,by unfold Y3;omega,?_⟩⟩⟩
  ·have h:k (.tup [natS true (capF a),.int .i64 (capE a)]) []:=h true
   rw[capF,capE,if_neg (by omega),if_neg (by omega)]at h
   exact Ym4 h
  ·have h:k (.tup [natS true (capF a),.int .i64 (capE a)]) []:=h true
   have:a=0:=nl_eq0.1 (by have:=hz0 hz;omega)
   rw[this]at h
   exact Ym4 h
  ·have h:k (.tup [natS (false&&decide (n=0)) (capF a),.int .i64 (capE a)]) []:=h _
   rw[capF,capE,if_pos (by omega),if_pos (by omega)]at h
   refine YE h ?_ (fun _=>by simp [natS,Yt,Ys])
   have e:expo [HO.own (false&&decide (n=0)) 1 (0+n) fun k=>if k<0 then Yq 0 (YT 1 (YM (k*1) []))else [SV.int IntKind.u32 ((dig a (k-0):Nat):Int)]] (SV.tup [SV.own 0 0 (0+n) 1,SV.int IntKind.i64 0])= .tup [.vs true (false&&decide (n=0)) (0+n) 1 (fun k=>[.int .u32 (dig a k)]),.int .i64 0]:=by
    simp [expo,view,YaS,viewN,getH,YlJ]
   rw[e,YIb,hna]
   exact YC _ ⟨trivial,trivial,trivial⟩
 ·exact h.1.elim
def WD5:Env:={ ct:=fun n=>match n with|152=>some wvalC|_=>none,fn:=fun n=>match n with|149=>some v149|157=>some v157|150=>some v150|151=>some v151|_=>none,meth:=fun _ _=>none}
theorem Ykg:WD5.ct 152=some wvalC:=rfl
theorem Ykf:WD5.ct 149=none:=rfl
theorem Yki:WD5.fn 149=some v149:=rfl
theorem Ykh:WD5.ct 157=none:=rfl
theorem Ykj:WD5.fn 157=some v157:=rfl
theorem YqD:WD5.ct 150=none:=rfl
theorem YqF:WD5.fn 150=some v150:=rfl
theorem YqE:WD5.ct 151=none:=rfl
theorem YqG:WD5.fn 151=some v151:=rfl
theorem YDd:Yn YHk WD5:=by
 refine⟨fun f c h=>?_,fun f vf h=>?_,(fun _ _ _ h=>by cases h),by kernel_rfl,(fun _ h=>by cases h),(fun _ _ h=>by cases h)⟩
 ·simp only[WD5]at h
  split at h
  ·cases h;exact⟨YtQ,Tryz.f152,Tryz.func152,by kernel_rfl,by kernel_rfl⟩
  ·cases h
 ·simp only[WD5]at h
  split at h
  ·cases h;exact⟨Tryz.f149,Tryz.func149,YBZ,Tryz.f149,Tryz.func149,by kernel_rfl,by kernel_rfl⟩
  ·cases h;exact⟨Tryz.f157,Tryz.func157,YB6,Tryz.f157,Tryz.func157,by kernel_rfl,by kernel_rfl⟩
  ·cases h;exact⟨Tryz.f150,Tryz.func150,YB0,Tryz.f150,Tryz.func150,by kernel_rfl,by kernel_rfl⟩
  ·cases h;exact⟨Tryz.f151,Tryz.func151,YB1,Tryz.f151,Tryz.func151,by kernel_rfl,by kernel_rfl⟩
  ·cases h
theorem YCi:wchkC.ok YHk 142:=by
 refine Yb Tryz.func142 YBS YDd 400 wchkC fun args k h=>?_
 simp only[wchkC]at h
 split at h
 ·rename_i tt z n sz get
  obtain⟨l,⟨⟨rfl,rfl,hg⟩,hl,hn⟩,h⟩:=h
  refine⟨[.vs tt z l.length 1 (fun k=>[natI (l.getD k default).1 (l.getD k default).2])],by simpa [leL,le]using hg,?_⟩
  dsimp only[v142,Ykf,Yki,v149,Ykh,Ykj,v157,go_sem,reduceIte,YHf]
  simp only[Yc,YHf,YHh,reduceCtorEq,YHg]
  refine Loop.keep [0,0,2,1,0] Nat (fun i=>[(8,.int .i64 i)]) (fun _=>[]) [] (fun i=>i<=l.length) (fun i=>l.length-i) ?_ ?_
  ·refine⟨0,by omega,?_⟩
   dsimp only[go_sem,reduceIte,YHf]
   simp only[Ya]
   try simp
  ·rintro i hi
   dsimp only[YqD,YqF,v150,Ykg,wvalC,natI,YHj,go_sem,reduceIte,YHf]
   simp only[Yc,YHf,YHh,reduceCtorEq,YHg]
   have h5:∀i,i<l.length->nl (l.getD i default).2<=512:=fun i hi=>hl _ (Yh hi)
   refine⟨fun hlt=>⟨⟨by omega,by omega⟩,fun hc=>?_,fun hc=>⟨i+1,by omega,by omega,?_⟩⟩,fun hge=>?_⟩
   ·have:=h5 i (by omega);omega
   ·rw[YHi ((i:Int)+1) (by omega)]
    simp only[Ya]
    simp
   ·dsimp only[Ykf,Yki,v149,Ykh,Ykj,v157,go_sem,reduceIte,YHf]
    simp only[Yc,YHf,YHh,reduceCtorEq,YHg]
    refine⟨fun hh=>absurd hh (by decide),fun _=>?_⟩
    refine Loop.keep [0,0,2,1,0] Nat (fun i=>[(8,.int .i64 i)]) (fun _=>[]) [] (fun i=>i<=l.length) (fun i=>l.length-i) ?_ ?_
    ·refine⟨0,by omega,?_⟩
     dsimp only[go_sem,reduceIte,YHf]
     simp only[Ya]
     try simp
    ·rintro i hi
     dsimp only[YqE,YqG,v151,Ykg,wvalC,natI,YHj,go_sem,reduceIte,YHf]
     simp only[Yc,YHf,YHh,reduceCtorEq,YHg]
     have h5:∀i,i<l.length->nl (l.getD i default).2<=512:=fun i hi=>hl _ (Yh hi)
     refine⟨fun hlt=>?_,fun hge=>⟨fun hneg=>absurd hneg (by decide),fun _=>Yj h⟩⟩
     ·have:=h5 i (by omega)
      refine⟨⟨by omega,by omega⟩,_,⟨YaD (by omega),rfl,this⟩,i+1,by omega,by omega,?_⟩
      rw[YHi ((i:Int)+1) (by omega)]
      simp only[Ya]
      try simp
 ·exact h.1.elim
def okW(a n sz:Nat)(get:Nat->List SV):Prop:=padP a n sz get/\n=nl a/\n<=512
def wCmpC:Ctr:={ alias:=false,of:=fun l=>match l with
 | [.vs _ z n sz get,.vs _ z' m sz' get']=> .ex Nat fun a=> .ex Nat fun b=> .pre (okW a n sz get/\okW b m sz' get') (.fin (.tup [.int .i64 (ordN a b),.int .i64 0]) [])
 |_=>noC}
def wAddC:Ctr:={ alias:=false,of:=fun l=>match l with
 | [.vs _ z n sz get,.vs _ z' m sz' get']=> .ex Nat fun a=> .ex Nat fun b=> .pre (okW a n sz get/\okW b m sz' get') (.all Bool fun y=> .fin (.tup [natS y (capF (a+b)),.int .i64 (capE (a+b))]) [])
 |_=>noC}
def wMulC:Ctr:={ alias:=false,of:=fun l=>match l with
 | [.vs _ z n sz get,.vs _ z' m sz' get']=> .ex Nat fun a=> .ex Nat fun b=> .pre (okW a n sz get/\okW b m sz' get') (.all Bool fun y=> .fin (.tup [natS y (capF (a*b)),.int .i64 (capE (a*b))]) [])
 |_=>noC}
def shF(a:Nat)(d:Int):Nat:=if d<0 then a/2^(-d).toNat else a*2^d.toNat
def wShiftC:Ctr:={ alias:=false,of:=fun l=>match l with
 | [.vs _ z n sz get,.int .i64 d]=> .ex Nat fun a=> .pre (okW a n sz get/\ -20000<=d/\d<=20000) (.all Bool fun y=> .fin (.tup [natS y (capF (shF a d)),.int .i64 (capE (shF a d))]) [])
 |_=>noC}
def WD6:Env:={ ct:=fun n=>match n with|142=>some wchkC|146=>some resC|143=>some wcmpC|145=>some plusC|147=>some wtimC|154=>some wupC|153=>some wdownC|_=>none,fn:=fun _=>none,meth:=fun _ _=>none}
theorem Yei:WD6.ct 142=some wchkC:=rfl
theorem Ygg:WD6.ct 146=some resC:=rfl
theorem YqH:WD6.ct 143=some wcmpC:=rfl
theorem YqI:WD6.ct 145=some plusC:=rfl
theorem YqJ:WD6.ct 147=some wtimC:=rfl
theorem YqL:WD6.ct 154=some wupC:=rfl
theorem YqK:WD6.ct 153=some wdownC:=rfl
theorem Ym2:Yn YHk WD6:=by
 refine⟨fun f c h=>?_,fun f vf h=>?_,(fun _ _ _ h=>by cases h),by kernel_rfl,(fun _ h=>by cases h),(fun _ _ h=>by cases h)⟩
 ·simp only[WD6]at h
  split at h
  ·cases h;exact⟨YCi,Tryz.f142,Tryz.func142,by kernel_rfl,by kernel_rfl⟩
  ·cases h;exact⟨YCk,Tryz.f146,Tryz.func146,by kernel_rfl,by kernel_rfl⟩
  ·cases h;exact⟨YCj,Tryz.f143,Tryz.func143,by kernel_rfl,by kernel_rfl⟩
  ·cases h;exact⟨YwU,Tryz.f145,Tryz.func145,by kernel_rfl,by kernel_rfl⟩
  ·cases h;exact⟨YtP,Tryz.f147,Tryz.func147,by kernel_rfl,by kernel_rfl⟩
  ·cases h;exact⟨YHd,Tryz.f154,Tryz.func154,by kernel_rfl,by kernel_rfl⟩
  ·cases h;exact⟨YwT,Tryz.f153,Tryz.func153,by kernel_rfl,by kernel_rfl⟩
  ·cases h
 ·cases h
theorem Ygk{k:SV->List HO->Prop}{al:Bool}{hp:List HO}{κ κ':IntKind}{x y:Int}(h:k (.tup [.int κ x,.int κ' y]) []):Yz al k (.tup [.int κ x,.int κ' y]) hp:=
 YE (show k _ []from h) (YC (.tup [.int κ x,.int κ' y]) ⟨trivial,trivial,trivial⟩) (fun _=>by simp [Yt,Ys])
theorem Ymq{t1 z1 t2 z2:Bool}{a b:Nat}{hp:List HO}{r:List SV->List SV}:lsP 1 (fun x:Bool×Nat=>[natI x.1 x.2]) 2 1 (fun k=>YaS false hp r (YT 1 (YM (k*1) [SV.vs t1 z1 (nl a) 1 fun k=>[SV.int IntKind.u32 (dig a k)],SV.vs t2 z2 (nl b) 1 fun k=>[SV.int IntKind.u32 (dig b k)]]))) [(z1,a),(z2,b)]:=
 ⟨rfl,rfl,fun k hk=>match k,hk with
   |0,_=>by refine⟨?_,trivial⟩;exact⟨fun h=>(by cases h),rfl,rfl,rfl,fun j _=>Yd _⟩
   |1,_=>by refine⟨?_,trivial⟩;exact⟨fun h=>(by cases h),rfl,rfl,rfl,fun j _=>Yd _⟩⟩
theorem YAh{t1 z1:Bool}{a:Nat}{hp:List HO}{r:List SV->List SV}:lsP 1 (fun x:Bool×Nat=>[natI x.1 x.2]) 1 1 (fun k=>YaS false hp r (YT 1 (YM (k*1) [SV.vs t1 z1 (nl a) 1 fun k=>[SV.int IntKind.u32 (dig a k)]]))) [(z1,a)]:=
 ⟨rfl,rfl,fun k hk=>match k,hk with
   |0,_=>by refine⟨?_,trivial⟩;exact⟨fun h=>(by cases h),rfl,rfl,rfl,fun j _=>Yd _⟩⟩
theorem Ymp{z1 z2:Bool}{a b:Nat}(h1:nl a<=512)(h2:nl b<=512):∀x:Bool×Nat,x∈ [(z1,a),(z2,b)]->nl x.2<=512:=by simp [h1,h2]
theorem YAg{z1:Bool}{a:Nat}(h1:nl a<=512):∀x:Bool×Nat,x∈ [(z1,a)]->nl x.2<=512:=by simp [h1]
theorem Ym7{k:SV->List HO->Prop}{al:Bool}{hp:List HO}{z:Bool}{a:Nat}{e:Int}(h:k (.tup [natS z a,.int .i64 e]) []):Yz al k (.tup [natS z a,.int .i64 e]) hp:=
 YE (show k _ []from h) (YC _ ⟨trivial,trivial,trivial⟩) (fun _=>by simp [natS,Yt,Ys])
theorem YCg:wCmpC.ok YHk 135:=by
 refine Yb Tryz.func135 YBL Ym2 200 wCmpC fun args k h=>?_
 simp only[wCmpC]at h
 split at h
 ·rename_i t1 z1 n sz get t2 z2 m sz' get'
  obtain⟨a,b,⟨⟨⟨rfl,hn,ha,hg⟩,hna,hn5⟩,⟨rfl,hm,hb,hg'⟩,hmb,hm5⟩,h⟩:=h
  refine⟨[.vs t1 z1 n 1 (fun k=>[.int .u32 (dig a k)]),.vs t2 z2 m 1 (fun k=>[.int .u32 (dig b k)])],⟨by simpa [le]using hg,by simpa [le]using hg',trivial⟩,?_⟩
  dsimp only[v135,Yei,YqH,wchkC,wcmpC,go_sem,reduceIte,YHf]
  simp only[Yc,YHf,YHh,reduceCtorEq,YHg]
  subst hna hmb
  refine⟨by decide,_,⟨Ymq,Ymp hn5 hm5⟩,fun hh=>absurd trivial hh,a,b,⟨YaD hn,YaD hm,rfl,rfl⟩,Ygk h⟩
 ·exact h.1.elim
theorem YsK{a b n:Nat}(h1:nl a<=n)(h2:nl b<=n):nl (a+b)<=n+1:=by
 have h1:=nl_le.1 h1
 have h2:=nl_le.1 h2
 rw[nl_le,YaP]
 generalize(4294967296:Nat)^n=P at*
 omega
theorem YsL{a b n m:Nat}(h1:nl a<=n)(h2:nl b<=m):nl (a*b)<=n+m:=by
 have h1:=nl_le.1 h1
 have h2:=nl_le.1 h2
 rw[nl_le,YHz]
 exact Nat.mul_lt_mul_of_lt_of_le h1 (Nat.le_of_lt h2) (Yaa _)
theorem YsM{a e n m k:Nat}(h1:nl a<=n)(he:e<=32*m)(hk:n+m<=k):nl (a*2^e)<=k:=by
 have h1:=nl_le.1 h1
 refine nl_le.2 ?_
 have h2:(2:Nat)^e<=4294967296^m:=by rw[Yfx];exact YHL (by decide) he
 refine YIa (Nat.mul_lt_mul_of_lt_of_le h1 h2 (Yaa _)) ?_
 rw[<-YHz]
 exact YHL (by decide) hk
theorem YCf:wAddC.ok YHk 139:=by
 refine Yb Tryz.func139 YBP Ym2 200 wAddC fun args k h=>?_
 simp only[wAddC]at h
 split at h
 ·rename_i t1 z1 n sz get t2 z2 m sz' get'
  obtain⟨a,b,⟨⟨⟨rfl,hn,ha,hg⟩,hna,hn5⟩,⟨rfl,hm,hb,hg'⟩,hmb,hm5⟩,h⟩:=h
  refine⟨[.vs t1 z1 n 1 (fun k=>[.int .u32 (dig a k)]),.vs t2 z2 m 1 (fun k=>[.int .u32 (dig b k)])],⟨by simpa [le]using hg,by simpa [le]using hg',trivial⟩,?_⟩
  dsimp only[v139,Yei,YqI,Ygg,wchkC,plusC,resC,natS,go_sem,reduceIte,YHf]
  simp only[Yc,YHf,YHh,reduceCtorEq,YHg]
  subst hna hmb
  have hs:nl (a+b)<=513:=YsK hn5 hm5
  refine⟨by decide,_,⟨Ymq,Ymp hn5 hm5⟩,fun hh=>absurd trivial hh,a,b,⟨YaD hn,YaD hm,by omega,by omega⟩,a+b,⟨YaD (by omega),rfl⟩,fun y=>?_⟩
  refine⟨by decide,by decide,?_⟩
  exact Ym7 (show k (.tup [natS y (capF (a+b)),.int .i64 (capE (a+b))]) []from h y)
 ·exact h.1.elim
theorem YCh:wMulC.ok YHk 140:=by
 refine Yb Tryz.func140 YBQ Ym2 200 wMulC fun args k h=>?_
 simp only[wMulC]at h
 split at h
 ·rename_i t1 z1 n sz get t2 z2 m sz' get'
  obtain⟨a,b,⟨⟨⟨rfl,hn,ha,hg⟩,hna,hn5⟩,⟨rfl,hm,hb,hg'⟩,hmb,hm5⟩,h⟩:=h
  refine⟨[.vs t1 z1 n 1 (fun k=>[.int .u32 (dig a k)]),.vs t2 z2 m 1 (fun k=>[.int .u32 (dig b k)])],⟨by simpa [le]using hg,by simpa [le]using hg',trivial⟩,?_⟩
  dsimp only[v140,Yei,YqJ,Ygg,wchkC,wtimC,resC,natS,go_sem,reduceIte,YHf]
  simp only[Yc,YHf,YHh,reduceCtorEq,YHg]
  subst hna hmb
  have hs:nl (a*b)<=1024:=YsL (n:=512) (m:=512) hn5 hm5
  refine⟨by decide,_,⟨Ymq,Ymp hn5 hm5⟩,fun hh=>absurd trivial hh,a,b,⟨YaD hn,YaD hm,by omega⟩,a*b,⟨YaD (by omega),rfl⟩,fun y=>?_⟩
  refine⟨by decide,by decide,?_⟩
  exact Ym7 (show k (.tup [natS y (capF (a*b)),.int .i64 (capE (a*b))]) []from h y)
 ·exact h.1.elim
theorem YlA:wShiftC.ok YHk 144:=by
 refine Yb Tryz.func144 YBU Ym2 200 wShiftC fun args k h=>?_
 simp only[wShiftC]at h
 split at h
 ·rename_i t1 z1 n sz get d
  obtain⟨a,⟨⟨⟨rfl,hn,ha,hg⟩,hna,hn5⟩,hd0,hd1⟩,h⟩:=h
  refine⟨[.vs t1 z1 n 1 (fun k=>[.int .u32 (dig a k)]),.int .i64 d],⟨by simpa [le]using hg,⟨rfl,rfl⟩,trivial⟩,?_⟩
  dsimp only[v144,Yei,YqL,YqK,Ygg,wchkC,wupC,wdownC,resC,natS,go_sem,reduceIte,YHf]
  simp only[Yc,YHf,YHh,reduceCtorEq,YHg]
  subst hna
  refine⟨by decide,_,⟨YAh,YAg hn5⟩,fun hh=>absurd trivial hh,fun hb=>?_,fun _=>⟨fun hneg=>?_,fun hpos=>?_⟩⟩
  ·rw[YHS,decide_eq_true_eq,decide_eq_true_eq]at hb
   omega
  ·obtain⟨e,he⟩:∃e:Nat,e=(-d).toNat:=⟨_,rfl⟩
   have e1:IntKind.i64.wrap (0-d)=(e:Int):=by rw[he,YHi _ (by omega)];omega
   rw[e1]
   have hdl:nl (a/2^e)<=512:=YHC (Ymb (Nat.div_le_self _ _)) hn5
   refine⟨a,e,⟨YaD hn,by omega,rfl,by omega⟩,fun z=>⟨a/2^e,⟨YaD (by omega),rfl,fun hz=>?_⟩,fun y=>⟨by decide,by decide,?_⟩⟩⟩
   ·rw[YHn,decide_eq_true_eq]at hz
    rw[hz.2,nl_0]
   ·have h:k (.tup [natS y (capF (shF a d)),.int .i64 (capE (shF a d))]) []:=h y
    rw[shF,if_pos hneg,<-he]at h
    exact Ym7 h
  ·obtain⟨e,he⟩:∃e:Nat,e=d.toNat:=⟨_,rfl⟩
   have hde:d=(e:Int):=by omega
   have hdl:nl (a*2^e)<=2000:=YsM (n:=512) (m:=626) hn5 (by omega) (by decide)
   refine⟨a,e,⟨YaD hn,rfl,by omega,hde,by omega⟩,fun z=>⟨a*2^e,⟨YaD (by omega),rfl,fun hz=>?_⟩,fun y=>⟨by decide,by decide,?_⟩⟩⟩
   ·rw[YHn,decide_eq_true_eq]at hz
    rw[hz.2,nl_0]
   ·have h:k (.tup [natS y (capF (shF a d)),.int .i64 (capE (shF a d))]) []:=h y
    rw[shF,if_neg hpos,<-he]at h
    exact Ym7 h
 ·exact h.1.elim
abbrev Fr:=Int×Nat
theorem Yej{k:SV->List HO->Prop}{al:Bool}{hp:List HO}{κ κ':IntKind}{x y:Int}(h:k (.tup [.int κ x,.int κ' y]) []):Yz al k (.tup [.int κ x,.int κ' y]) hp:=
 YE (show k _ []from h) (YC (.tup [.int κ x,.int κ' y]) ⟨trivial,trivial,trivial⟩) (fun _=>by simp [Yt,Ys])
theorem Yfj:∀(f x:Nat),x<2^f->Lib.bitLenAux f x=Yo x
 |0,x,h=>by
  have:x=0:=by simpa using h
  subst this;rfl
 |f+1,x,h=>by
  rw[Lib.bitLenAux]
  split
  ·rename_i h0;subst h0;rfl
  ·rename_i h0
   rw[YHR]at h
   rw[Yfj f (x/2) (by omega),YhY (a:=x) (by omega)];omega
theorem Yrd{x:Nat}(h:x<18446744073709551616):Lib.bitLen x=Yo x:=Yfj 64 x h
def len64C:Ctr:={ alias:=false,of:=fun l=>match l with
 | [.int .u64 x]=> .pre (0<=x/\x<=18446744073709551615) (.fin (.int .i64 (Yo x.toNat)) [])
 |_=>noC}
theorem Yf3:len64C.ok YHk 110:=by
 intro args vs z k hsat hx hc
 simp only[len64C]at hc
 split at hc
 ·rename_i x
  obtain⟨⟨h0,h1⟩,hc⟩:=hc
  cases hx with|cons _ v _ l g1 hx=>
  cases hx
  cases g1
  refine(len64_calls x z.toWorld h0 h1).mono ?_
  rintro e w' ⟨rfl,rfl⟩
  rw[Yrd (by omega)]
  exact⟨_,[],_,[],z.I,Yam z,hc,rfl,.x _ _ (.int _ _),hp0 (hJ:=Yam z) hsat.1,BelowI.refl _ _,fun _=>⟨trivial,trivial⟩⟩
 ·exact hc.1.elim
def v127:VF:=⟨6,[.tmp 2],(ZR [Zi 2 0] (ZR [Zm 3 0,Zc 4 110 3,u1 5 (.ari .sub) [.cn (.int .i64 64),.tm 4],Zm 2 5] .ret))⟩
theorem YBD:Ye YHk Tryz.f127=some v127:=by kernel_rfl
def v90:VF:=⟨51,[.tmp 4,.tmp 5],(ZR [u1 4 .mov [.cn (.int .u64 0)],u1 5 .mov [.cn (.int .u64 0)]] (ZR [Zm 14 0,u1 15 (.bit .and) [.tm 14,.cn (.int .u64 4294967295)],Zm 6 15] (ZR [Zm 16 0,u1 17 .shr [.tm 16,.cn (.int .u64 32)],Zm 7 17] (ZR [Zm 18 1,u1 19 (.bit .and) [.tm 18,.cn (.int .u64 4294967295)],Zm 8 19] (ZR [Zm 20 1,u1 21 .shr [.tm 20,.cn (.int .u64 32)],Zm 9 21] (ZR [Zm 22 6,Zm 23 8,Zo 24 .mul 22 23,Zm 10 24] (ZR [Zm 25 7,Zm 26 8,Zo 27 .mul 25 26,Zm 28 10,u1 29 .shr [.tm 28,.cn (.int .u64 32)],Zo 30 .add 27 29,Zm 11 30] (ZR [Zm 31 11,u1 32 (.bit .and) [.tm 31,.cn (.int .u64 4294967295)],Zm 12 32] (ZR [Zm 33 11,u1 34 .shr [.tm 33,.cn (.int .u64 32)],Zm 13 34] (ZR [Zm 35 12,Zm 36 6,Zm 37 9,Zo 38 .mul 36 37,Zo 39 .add 35 38,Zm 12 39] (ZR [Zm 40 7,Zm 41 9,Zo 42 .mul 40 41,Zm 43 13,Zo 44 .add 42 43,Zm 45 12,u1 46 .shr [.tm 45,.cn (.int .u64 32)],Zo 47 .add 44 46,Zm 4 47] (ZR [Zm 48 0,Zm 49 1,Zo 50 .mul 48 49,Zm 5 50] .ret))))))))))))⟩
theorem YGW:Ye YHk Tryz.f90=some v90:=by kernel_rfl
def v116:VF:=⟨135,[.tmp 6,.tmp 7],(ZR [u1 6 .mov [.cn (.int .u64 0)],u1 7 .mov [.cn (.int .u64 0)]] (.seq (ZR [Zm 19 2,u1 20 (.cmp .eql) [.tm 19,.cn (.int .u64 0)]] (ZC 20 .stuck .skip)) (.seq (ZR [Zm 22 2,Zm 23 0,Zr 24 .leq 22 23] (ZC 24 .stuck .skip)) (.seq (ZR [Zm 26 0,u1 27 (.cmp .eql) [.tm 26,.cn (.int .u64 0)]] (ZC 27 (.seq (.draw [] [Zu 28 1,Zu 29 2,w1 30 .quo [.tm 28,.tm 29],Zu 31 1,Zu 32 2,w1 33 .rem [.tm 31,.tm 32],Zu 6 30,Zu 7 33]) .ret) .skip)) (ZR [Zm 34 2,Zc 35 127 34,u1 36 (.conv .u64) [.tm 35],Zm 8 36] (ZR [Zm 37 2,Zm 38 8,u1 39 .shl [.tm 37,.tm 38],Zm 2 39] (ZR [Zm 40 2,u1 41 .shr [.tm 40,.cn (.int .u64 32)],Zm 9 41] (ZR [Zm 42 2,u1 43 (.bit .and) [.tm 42,.cn (.int .u64 4294967295)],Zm 10 43] (ZR [Zm 44 0,Zm 45 8,u1 46 .shl [.tm 44,.tm 45],Zm 47 1,Zm 48 8,u1 49 (.ari .sub) [.cn (.int .u64 64),.tm 48],u1 50 .shr [.tm 47,.tm 49],u1 51 (.bit .or) [.tm 46,.tm 50],Zm 11 51] (ZR [Zm 52 1,Zm 53 8,u1 54 .shl [.tm 52,.tm 53],Zm 12 54] (ZR [Zm 55 12,u1 56 .shr [.tm 55,.cn (.int .u64 32)],Zm 13 56] (ZR [Zm 57 12,u1 58 (.bit .and) [.tm 57,.cn (.int .u64 4294967295)],Zm 14 58] (ZR [Zm 59 11,Zm 60 9,u1 61 .quo [.tm 59,.tm 60],Zm 15 61] (ZR [Zm 62 11,Zm 63 15,Zm 64 9,Zo 65 .mul 63 64,Zo 66 .sub 62 65,Zm 16 66] (.seq (.block 0 (.loop (.seq (ZR [Zm 67 15,u1 68 (.cmp .geq) [.tm 67,.cn (.int .u64 4294967296)],Zm 69 68,Zg 70 69 false 15,Zg 71 69 false 10,u2 72 69 false (.ari .mul) [.tm 70,.tm 71],Zg 73 69 false 16,u2 74 69 false (.ari .mul) [.cn (.int .u64 4294967296),.tm 73],Zg 75 69 false 13,u2 76 69 false (.ari .add) [.tm 74,.tm 75],u2 77 69 false (.cmp .gtr) [.tm 72,.tm 76],u1 78 .or [.tm 69,.tm 77]] (ZC 78 .skip (.exit 0))) (.block 1 (ZR [Zm 79 15,u1 80 (.ari .sub) [.tm 79,.cn (.int .u64 1)],Zm 15 80] (ZR [Zm 81 16,Zm 82 9,Zo 83 .add 81 82,Zm 16 83] (ZR [Zm 84 16,u1 85 (.cmp .geq) [.tm 84,.cn (.int .u64 4294967296)]] (ZC 85 (.exit 0) .skip)))))))) (ZR [Zm 86 11,u1 87 (.ari .mul) [.tm 86,.cn (.int .u64 4294967296)],Zm 88 13,Zo 89 .add 87 88,Zm 90 15,Zm 91 2,Zo 92 .mul 90 91,Zo 93 .sub 89 92,Zm 17 93] (ZR [Zm 94 17,Zm 95 9,u1 96 .quo [.tm 94,.tm 95],Zm 18 96] (ZR [Zm 97 17,Zm 98 18,Zm 99 9,Zo 100 .mul 98 99,Zo 101 .sub 97 100,Zm 16 101] (.seq (.block 2 (.loop (.seq (ZR [Zm 102 18,u1 103 (.cmp .geq) [.tm 102,.cn (.int .u64 4294967296)],Zm 104 103,Zg 105 104 false 18,Zg 106 104 false 10,u2 107 104 false (.ari .mul) [.tm 105,.tm 106],Zg 108 104 false 16,u2 109 104 false (.ari .mul) [.cn (.int .u64 4294967296),.tm 108],Zg 110 104 false 14,u2 111 104 false (.ari .add) [.tm 109,.tm 110],u2 112 104 false (.cmp .gtr) [.tm 107,.tm 111],u1 113 .or [.tm 104,.tm 112]] (ZC 113 .skip (.exit 2))) (.block 3 (ZR [Zm 114 18,u1 115 (.ari .sub) [.tm 114,.cn (.int .u64 1)],Zm 18 115] (ZR [Zm 116 16,Zm 117 9,Zo 118 .add 116 117,Zm 16 118] (ZR [Zm 119 16,u1 120 (.cmp .geq) [.tm 119,.cn (.int .u64 4294967296)]] (ZC 120 (.exit 2) .skip)))))))) (ZR [Zm 121 15,u1 122 (.ari .mul) [.tm 121,.cn (.int .u64 4294967296)],Zm 123 18,Zo 124 .add 122 123,Zm 125 17,u1 126 (.ari .mul) [.tm 125,.cn (.int .u64 4294967296)],Zm 127 14,Zo 128 .add 126 127,Zm 129 18,Zm 130 2,Zo 131 .mul 129 130,Zo 132 .sub 128 131,Zm 133 8,u1 134 .shr [.tm 132,.tm 133],Zm 6 124,Zm 7 134] .ret))))))))))))))))))))⟩
theorem YBu:Ye YHk Tryz.f116=some v116:=by kernel_rfl
def lz64C:Ctr:={ alias:=false,of:=fun l=>match l with
 | [.int .u64 x]=> .pre (0<=x/\x<=18446744073709551615) (.fin (.int .i64 (64-(Yo x.toNat:Int))) [])
 |_=>noC}
def mul64C:Ctr:={ alias:=false,of:=fun l=>match l with
 | [.int .u64 x,.int .u64 y]=> .pre ((0<=x/\x<=18446744073709551615)/\0<=y/\y<=18446744073709551615) (.fin (.tup [.int .u64 (x*y/18446744073709551616),.int .u64 (x*y%18446744073709551616)]) [])
 |_=>noC}
def div64C:Ctr:={ alias:=false,of:=fun l=>match l with
 | [.int .u64 h,.int .u64 x,.int .u64 y]=> .pre ((0<=x/\x<=18446744073709551615)/\0<=h/\h<y/\y<=18446744073709551615) (.fin (.tup [.int .u64 ((h*18446744073709551616+x)/y),.int .u64 ((h*18446744073709551616+x)%y)]) [])
 |_=>noC}
def B0:Env:={ ct:=fun n=>match n with|110=>some len64C|_=>none,fn:=fun _=>none,meth:=fun _ _=>none}
theorem YtS:B0.ct 110=some len64C:=rfl
theorem YCl:Yn YHk B0:=by
 refine⟨fun f c h=>?_,fun f vf h=>?_,(fun _ _ _ h=>by cases h),by kernel_rfl,(fun _ h=>by cases h),(fun _ _ h=>by cases h)⟩
 ·simp only[B0]at h
  split at h
  ·cases h;exact⟨Yf3,Tryz.f110,Tryz.func110,by kernel_rfl,by kernel_rfl⟩
  ·cases h
 ·cases h
theorem Yz6:lz64C.ok YHk 127:=by
 refine Yb Tryz.func127 YBD YCl 100 lz64C fun args k h=>?_
 simp only[lz64C]at h
 split at h
 ·rename_i x
  obtain⟨⟨h0,h1⟩,h⟩:=h
  refine⟨[.int .u64 x],by simp [leL,le],?_⟩
  (try dsimp only[v127,YtS,len64C,go_sem,reduceIte,YHf])
  (try simp only[Yc,YHf,YHh,reduceCtorEq,YHg])
  refine⟨⟨h0,h1⟩,Yj ?_⟩
  have:Yo x.toNat<=64:=bitsN_le.2 (by have:(2:Nat)^64=18446744073709551616:=rfl;omega)
  rw[YHi _ (by omega)]
  exact h
 ·exact h.1.elim
theorem Ykn{x:Nat}(h:x<18446744073709551616):bitI .and .u64 (x:Int) 4294967295=((x%4294967296:Nat):Int):=Yvb h
theorem Yvg{x y:Nat}(hx:x<18446744073709551616)(hy:y<18446744073709551616):bitI .or .u64 (x:Int) (y:Int)=((x||| y:Nat):Int):=YsQ hx hy
theorem Yf4:mul64C.ok YHk 90:=by
 refine Yb Tryz.func90 YGW YCl 200 mul64C fun args k h=>?_
 simp only[mul64C]at h
 split at h
 ·rename_i x y
  obtain⟨⟨⟨h0,h1⟩,h2,h3⟩,h⟩:=h
  obtain⟨x,rfl⟩:=YHv h0
  obtain⟨y,rfl⟩:=YHv h2
  refine⟨[.int .u64 x,.int .u64 y],by simp [leL,le],?_⟩
  (try dsimp only[v90,go_sem,reduceIte,YHf])
  (try simp only[Yc,YHf,YHh,reduceCtorEq,YHg])
  have hx:x<18446744073709551616:=by omega
  have hy:y<18446744073709551616:=by omega
  obtain⟨e,b1,b2,b3,b4,b5,b6,b7,b8⟩:=YEf hx hy
  have s32:∀z:Nat,(z:Int).fdiv (2^min (YH0 32) IntKind.u64.bits)=((z/4294967296:Nat):Int):=fun z=>YbW (s:=32) (by decide)
  have hm:∀z:Nat,z%4294967296<18446744073709551616:=fun z=>by omega
  try rw[show IntKind.u64.bits=64 from rfl]at*
  rw[Ykn hx,Ykn hy,s32 x,s32 y,Yms b1,s32 (x%4294967296*(y%4294967296)),Yms b2,YhN b3,s32 (x/4294967296*(y%4294967296)+x%4294967296*(y%4294967296)/4294967296),Ykn b3,Yms b4,YhN b5,s32,Yms b6,YhN b7,YhN b8,e,Ymr]
  refine⟨by decide,by decide,by decide,by decide,by decide,?_⟩
  have h:k (.tup [.int .u64 ((x:Int)*y/18446744073709551616),.int .u64 ((x:Int)*y%18446744073709551616)]) []:=h
  have e2:((x*y/18446744073709551616:Nat):Int)=(x:Int)*y/18446744073709551616:=by
   rw[<-YIj];generalize x*y=z;omega
  rw[e2]
  exact Yej h
 ·exact h.1.elim
def B2:Env:={ ct:=fun n=>match n with|127=>some lz64C|_=>none,fn:=fun _=>none,meth:=fun _ _=>none}
theorem YtT:B2.ct 127=some lz64C:=rfl
theorem B2_ok:Yn YHk B2:=by
 refine⟨fun f c h=>?_,fun f vf h=>?_,(fun _ _ _ h=>by cases h),by kernel_rfl,(fun _ h=>by cases h),(fun _ _ h=>by cases h)⟩
 ·simp only[B2]at h
  split at h
  ·cases h;exact⟨Yz6,Tryz.f127,Tryz.func127,by kernel_rfl,by kernel_rfl⟩
  ·cases h
 ·cases h
theorem Ynr:div64C.ok YHk 116:=by
 refine Yb Tryz.func116 YBu B2_ok 300 div64C fun args k h=>?_
 simp only[div64C]at h
 split at h
 ·rename_i hh x y
  obtain⟨⟨⟨h0,h1⟩,h2,h3,h4⟩,h⟩:=h
  obtain⟨x,rfl⟩:=YHv h0
  obtain⟨hh,rfl⟩:=YHv h2
  obtain⟨y,rfl⟩:=YHv (by omega:0<=y)
  refine⟨[.int .u64 hh,.int .u64 x,.int .u64 y],by simp [leL,le],?_⟩
  (try dsimp only[v116,YtT,lz64C,go_sem,reduceIte,YHf])
  (try simp only[Yc,YHf,YHh,reduceCtorEq,YHg])
  have hx:x<18446744073709551616:=by omega
  have hy:y<18446744073709551616:=by omega
  have hlt:hh<y:=by omega
  try rw[show IntKind.u64.bits=64 from rfl]at*
  refine⟨fun hc=>by omega,fun _=>⟨fun hc=>by omega,fun _=>⟨fun hz=>?_,fun hz=>?_⟩⟩⟩
  ·obtain rfl:hh=0:=by omega
   have e1:(x:Int).tdiv y=((x/y:Nat):Int):=IntWalk.up_tdiv rfl rfl
   have e2:(x:Int).tmod y=((x%y:Nat):Int):=IntWalk.up_tmod rfl rfl
   have h:k (.tup [.int .u64 ((((0:Nat):Int)*18446744073709551616+x)/y),.int .u64 ((((0:Nat):Int)*18446744073709551616+x)%y)]) []:=h
   have e3:((0:Nat):Int)*18446744073709551616+x=x:=by omega
   rw[e3]at h
   rw[e1,e2,YbX (YIi (Nat.div_le_self _ _) hx)]
   refine⟨by omega,by omega,?_⟩
   exact Yej h
  ·obtain⟨s,hs⟩:∃s,s=64-Yo y:=⟨_,rfl⟩
   obtain⟨f1,f2,f3⟩:=Ypg hy (by omega)
   rw[<-hs]at f2 f3
   have hs64:s<=64:=by omega
   obtain⟨g1,g2,g3⟩:=YvK (h:=hh) hs64 hx
   have hsh:hh*2^s<y*2^s:=Nat.mul_lt_mul_of_pos_right hlt (YH s)
   have es:IntKind.u64.wrap (64-(Yo ((y:Int)).toNat:Int))=(s:Int):=by
    rw[YHj,YHJ _ (by omega)];omega
   have es2:IntKind.u64.wrap (64-(s:Int))=((64-s:Nat):Int):=by rw[YHJ _ (by omega)];omega
   have sY:=Yhn hs64 f3
   have sH:=Yhn hs64 (Nat.lt_trans hsh f3)
   have sX1:=YbW (x:=x) (s:=64-s) (by omega)
   have hxs:x/2^(64-s)<18446744073709551616:=YIi (Nat.div_le_self _ _) hx
   have sO:=Yvg (Nat.lt_trans hsh f3) hxs
   rw[g1]at sO
   have sX:IntKind.u64.wrap ((x:Int)*2^min s 64)=((x*2^s%18446744073709551616:Nat):Int):=by
    rw[Nat.min_eq_left hs64]
    have:(x:Int)*2^s=((x*2^s:Nat):Int):=by simp
    rw[this,YFE]
   have s32:∀z:Nat,(z:Int).fdiv (2^min (YH0 32) 64)=((z/4294967296:Nat):Int):=fun z=>YbW (s:=32) (by decide)
   have mY:=Ykn f3
   have mX:=Ykn (YIk (x*2^s) (show 0<18446744073709551616 by omega))
   rw[es]
   simp only[YHj,es2,sY,sH,sX1,sO,sX,s32,mY,mX]
   have hN:=g3
   generalize hY:y*2^s=Y at f2 f3 hsh⊢
   generalize hX:x*2^s%18446744073709551616=X at hN⊢
   generalize hA:hh*2^s+x/2^(64-s)=A at hN⊢
   have hX6:X<18446744073709551616:=by rw[<-hX];exact YIk _ (show 0<18446744073709551616 by omega)
   have hAY:A<Y:=by
    have:hh*2^s+2^s<=y*2^s:=by rw[<-Nat.succ_mul];exact YHs _ hlt
    omega
   clear mY mX sX sO sX1 sH sY es es2 g1 g2 g3
   have y1a:2147483648<=Y/4294967296:=by omega
   have y1b:Y/4294967296<4294967296:=by omega
   have y1p:0<Y/4294967296:=by omega
   have eY:Y/4294967296*4294967296+Y%4294967296=Y:=Nat.div_add_mod' Y 4294967296
   have y0b:Y%4294967296<4294967296:=by omega
   have u1b:X/4294967296<4294967296:=by omega
   have u0b:X%4294967296<4294967296:=by omega
   have hYp:0<Y:=by omega
   have start:=fun(a u:Nat) (ha:a<Y) (hu:u<4294967296)=>(YrE (u:=u) y1a y0b (by rw[eY];exact ha) hu).resolve_right (by omega)
   have eq0:∀a:Nat,a<Y->IntKind.u64.wrap ((a:Int).tdiv ((Y/4294967296:Nat):Int))=((a/(Y/4294967296):Nat):Int):=fun a ha=>by
    have:(a:Int).tdiv ((Y/4294967296:Nat):Int)=((a/(Y/4294967296):Nat):Int):=IntWalk.up_tdiv rfl rfl
    rw[this];exact YbX (YIi (Nat.div_le_self _ _) (Nat.lt_trans ha f3))
   have er0:∀a:Nat,a<Y->IntKind.u64.wrap ((a:Int)-IntKind.u64.wrap (((a/(Y/4294967296):Nat):Int)*((Y/4294967296:Nat):Int)))=((a-a/(Y/4294967296)*(Y/4294967296):Nat):Int):=fun a ha=>by
    have hle:a/(Y/4294967296)*(Y/4294967296)<=a:=Nat.div_mul_le_self _ _
    have h6:=Nat.lt_trans ha f3
    rw[Yms (YIi hle h6),u_sub hle h6]
   --the word behind a digit
   have eR:∀a u q:Nat,u<4294967296->q=(a*4294967296+u)/Y->IntKind.u64.wrap (IntKind.u64.wrap (IntKind.u64.wrap ((a:Int)*4294967296)+(u:Int))-IntKind.u64.wrap ((q:Int)*(Y:Int)))=(((a*4294967296+u)%Y:Nat):Int):=fun a u q hu hq=>by
    have e:=YH5 (a*4294967296+u) Y
    have hm:=YIk (a*4294967296+u) hYp
    rw[<-hq,YHq]at e
    have e2:((q*Y:Nat):Int)=(q:Int)*(Y:Int):=YIj _ _
    generalize(a*4294967296+u)%Y=m at*
    simp only[Ymr]
    rw[<-e2]
    generalize q*Y=t at*
    omega
   --the condition of a loop
   have cnd:∀(q r u:Nat),r<4294967296->u<4294967296->((decide (4294967296<=(q:Int)) || decide (IntKind.u64.wrap (IntKind.u64.wrap (4294967296*(r:Int))+(u:Int))<IntKind.u64.wrap ((q:Int)*((Y%4294967296:Nat):Int))))=true↔4294967296<=q\/4294967296*r+u<q*(Y%4294967296)):=fun q r u hr hu=>by
    rcases YHA q 4294967296 with hq|hq
    ·have hm:q*(Y%4294967296)<=4294967295*4294967295:=YHE (by omega) (by omega)
     rw[Yms (by omega),YHJ (4294967296*(r:Int)) (by omega),YHJ _ (by omega),YHS,decide_eq_true_eq,decide_eq_true_eq]
     generalize q*(Y%4294967296)=t
     omega
    ·simp [hq];omega
   have sY1:∀r:Nat,r<4294967296->IntKind.u64.wrap ((r:Int)+((Y/4294967296:Nat):Int))=((r+Y/4294967296:Nat):Int):=fun r hr=>YhN (by omega)
   have dY:∀q:Nat,0<q->q<=4294967297->IntKind.u64.wrap ((q:Int)-1)=((q-1:Nat):Int):=fun q h1 h2=>by rw[YHJ _ (by omega)];omega
   rw[eq0 A hAY,er0 A hAY]
   refine⟨⟨by omega,by omega⟩,by omega,by decide,by omega,by omega,by omega,by decide,by omega,?_⟩
   refine Loop.keep [2,5,0,0,0,1,0] (Nat×Nat) (fun x=>[(15,.int .u64 x.1),(16,.int .u64 x.2)]) (fun _=>[]) [] (fun x=>Yfi (Y/4294967296) (Y%4294967296) A (X/4294967296) x.1 x.2/\x.2<4294967296) (fun x=>x.1) ?_ ?_
   ·refine⟨(A/(Y/4294967296),A-A/(Y/4294967296)*(Y/4294967296)),start A (X/4294967296) hAY u1b,?_⟩
    (try dsimp only[go_sem,reduceIte,YHf])
    simp only[Ya]
   ·rintro⟨q,r⟩ ⟨hd,hr⟩
    dsimp only at hd hr
    (try dsimp only[go_sem,reduceIte,YHf])
    (try simp only[Yc,YHf,YHh,reduceCtorEq,YHg])
    rw[cnd q r _ hr u1b]
    have hql:=hd.le
    refine⟨fun hc=>?_,fun hc=>?_⟩
    ·obtain⟨hq0,hn⟩:=YiR hd y1p (by rw[eY];exact hAY) u1b hc
     rw[dY q hq0 hql,sY1 r hr]
     refine⟨fun hb=>⟨by omega,?_⟩,fun hb=>⟨(q-1,r+Y/4294967296),⟨hn,by simp only;omega⟩,by simp only;omega,?_⟩⟩
     ·have hQ1:=Ygz hn y1p y0b (by omega) (by omega)
      rw[eY]at hQ1
      generalize q-1=Q1 at hQ1⊢
      have hR1Y:(A*4294967296+X/4294967296)%Y<Y:=YIk _ hYp
      rw[eR A _ Q1 u1b hQ1]
      generalize hR1:(A*4294967296+X/4294967296)%Y=R1 at hR1Y⊢
      rw[eq0 R1 hR1Y,er0 R1 hR1Y]
      refine Loop.keep [2,5,0,0,3,0,1] (Nat×Nat) (fun x=>[(18,.int .u64 x.1),(16,.int .u64 x.2)]) (fun _=>[]) [] (fun x=>Yfi (Y/4294967296) (Y%4294967296) R1 (X%4294967296) x.1 x.2/\x.2<4294967296) (fun x=>x.1) ?_ ?_
      ·refine⟨(R1/(Y/4294967296),R1-R1/(Y/4294967296)*(Y/4294967296)),start R1 (X%4294967296) hR1Y u0b,?_⟩
       (try dsimp only[go_sem,reduceIte,YHf])
       simp only[Ya]
      ·rintro⟨q,r⟩ ⟨hd,hr⟩
       dsimp only at hd hr
       (try dsimp only[go_sem,reduceIte,YHf])
       (try simp only[Yc,YHf,YHh,reduceCtorEq,YHg])
       rw[cnd q r _ hr u0b]
       have hql:=hd.le
       refine⟨fun hc=>?_,fun hc=>?_⟩
       ·obtain⟨hq0,hn⟩:=YiR hd y1p (by rw[eY];exact hR1Y) u0b hc
        rw[dY q hq0 hql,sY1 r hr]
        refine⟨fun hb=>?_,fun hb=>⟨(q-1,r+Y/4294967296),⟨hn,by simp only;omega⟩,by simp only;omega,?_⟩⟩
        ·have hQ0:=Ygz hn y1p y0b (by omega) (by omega)
         rw[eY]at hQ0
         generalize q-1=Q0 at hQ0⊢
         obtain⟨eT1,eT2⟩:=YdK hYp hQ1 hR1.symm hQ0
         have eX:X/4294967296*4294967296+X%4294967296=X:=Nat.div_add_mod' X 4294967296
         rw[eX,hN,<-hY,Nat.mul_div_mul_right _ _ (YH s)]at eT1
         rw[eX,hN,<-hY,Nat.mul_mod_mul_right]at eT2
         have hNy:(hh*18446744073709551616+x)/y<18446744073709551616:=by
          rw[YHW (by omega)];omega
         rw[YHj,eR R1 _ Q0 u0b hQ0,YbW hs64,<-hY,eT2,Nat.mul_div_cancel _ (YH s),YHJ ((Q1:Int)*4294967296) (by omega),YHJ _ (by omega)]
         refine⟨by omega,?_⟩
         have h:k (.tup [.int .u64 (((hh:Int)*18446744073709551616+x)/y),.int .u64 (((hh:Int)*18446744073709551616+x)%y)]) []:=h
         have e1:((hh:Int)*18446744073709551616+x)/y=(Q1:Int)*4294967296+Q0:=by
          have:((hh:Int)*18446744073709551616+x)/y=(((hh*18446744073709551616+x)/y:Nat):Int):=by
           rw[Int.natCast_ediv] <;> first|rfl| (congr 1;omega)
          rw[this,<-eT1];omega
         have e2:((hh:Int)*18446744073709551616+x)%y=(((hh*18446744073709551616+x)%y:Nat):Int):=by
          rw[Int.natCast_emod] <;> first|rfl| (congr 1;omega)
         rw[e1,e2]at h
         exact Yej h
        ·simp only[Ya]
       ·have hc:¬(4294967296<=q\/4294967296*r+X%4294967296<q*(Y%4294967296)):=fun hh=>by
         have:=(cnd q r _ hr u0b).2 hh
         rw[hc]at this;cases this
        have hQ0:=YiP hd y1p (by omega)
        rw[eY]at hQ0
        generalize q=Q0 at hQ0⊢
        obtain⟨eT1,eT2⟩:=YdK hYp hQ1 hR1.symm hQ0
        have eX:X/4294967296*4294967296+X%4294967296=X:=Nat.div_add_mod' X 4294967296
        rw[eX,hN,<-hY,Nat.mul_div_mul_right _ _ (YH s)]at eT1
        rw[eX,hN,<-hY,Nat.mul_mod_mul_right]at eT2
        have hNy:(hh*18446744073709551616+x)/y<18446744073709551616:=by
         rw[YHW (by omega)];omega
        rw[YHj,eR R1 _ Q0 u0b hQ0,YbW hs64,<-hY,eT2,Nat.mul_div_cancel _ (YH s),YHJ ((Q1:Int)*4294967296) (by omega),YHJ _ (by omega)]
        refine⟨by omega,?_⟩
        have h:k (.tup [.int .u64 (((hh:Int)*18446744073709551616+x)/y),.int .u64 (((hh:Int)*18446744073709551616+x)%y)]) []:=h
        have e1:((hh:Int)*18446744073709551616+x)/y=(Q1:Int)*4294967296+Q0:=by
         have:((hh:Int)*18446744073709551616+x)/y=(((hh*18446744073709551616+x)/y:Nat):Int):=by
          rw[Int.natCast_ediv] <;> first|rfl| (congr 1;omega)
         rw[this,<-eT1];omega
        have e2:((hh:Int)*18446744073709551616+x)%y=(((hh*18446744073709551616+x)%y:Nat):Int):=by
         rw[Int.natCast_emod] <;> first|rfl| (congr 1;omega)
        rw[e1,e2]at h
        exact Yej h
     ·simp only[Ya]
    ·have hc:¬(4294967296<=q\/4294967296*r+X/4294967296<q*(Y%4294967296)):=fun hh=>by
      have:=(cnd q r _ hr u1b).2 hh
      rw[hc]at this;cases this
     have hQ1:=YiP hd y1p (by omega)
     rw[eY]at hQ1
     refine⟨by omega,?_⟩
     generalize q=Q1 at hQ1⊢
     have hR1Y:(A*4294967296+X/4294967296)%Y<Y:=YIk _ hYp
     rw[eR A _ Q1 u1b hQ1]
     generalize hR1:(A*4294967296+X/4294967296)%Y=R1 at hR1Y⊢
     rw[eq0 R1 hR1Y,er0 R1 hR1Y]
     refine Loop.keep [2,5,0,0,3,0,1] (Nat×Nat) (fun x=>[(18,.int .u64 x.1),(16,.int .u64 x.2)]) (fun _=>[]) [] (fun x=>Yfi (Y/4294967296) (Y%4294967296) R1 (X%4294967296) x.1 x.2/\x.2<4294967296) (fun x=>x.1) ?_ ?_
     ·refine⟨(R1/(Y/4294967296),R1-R1/(Y/4294967296)*(Y/4294967296)),start R1 (X%4294967296) hR1Y u0b,?_⟩
      (try dsimp only[go_sem,reduceIte,YHf])
      simp only[Ya]
     ·rintro⟨q,r⟩ ⟨hd,hr⟩
      dsimp only at hd hr
      (try dsimp only[go_sem,reduceIte,YHf])
      (try simp only[Yc,YHf,YHh,reduceCtorEq,YHg])
      rw[cnd q r _ hr u0b]
      have hql:=hd.le
      refine⟨fun hc=>?_,fun hc=>?_⟩
      ·obtain⟨hq0,hn⟩:=YiR hd y1p (by rw[eY];exact hR1Y) u0b hc
       rw[dY q hq0 hql,sY1 r hr]
       refine⟨fun hb=>?_,fun hb=>⟨(q-1,r+Y/4294967296),⟨hn,by simp only;omega⟩,by simp only;omega,?_⟩⟩
       ·have hQ0:=Ygz hn y1p y0b (by omega) (by omega)
        rw[eY]at hQ0
        generalize q-1=Q0 at hQ0⊢
        obtain⟨eT1,eT2⟩:=YdK hYp hQ1 hR1.symm hQ0
        have eX:X/4294967296*4294967296+X%4294967296=X:=Nat.div_add_mod' X 4294967296
        rw[eX,hN,<-hY,Nat.mul_div_mul_right _ _ (YH s)]at eT1
        rw[eX,hN,<-hY,Nat.mul_mod_mul_right]at eT2
        have hNy:(hh*18446744073709551616+x)/y<18446744073709551616:=by
         rw[YHW (by omega)];omega
        rw[YHj,eR R1 _ Q0 u0b hQ0,YbW hs64,<-hY,eT2,Nat.mul_div_cancel _ (YH s),YHJ ((Q1:Int)*4294967296) (by omega),YHJ _ (by omega)]
        refine⟨by omega,?_⟩
        have h:k (.tup [.int .u64 (((hh:Int)*18446744073709551616+x)/y),.int .u64 (((hh:Int)*18446744073709551616+x)%y)]) []:=h
        have e1:((hh:Int)*18446744073709551616+x)/y=(Q1:Int)*4294967296+Q0:=by
         have:((hh:Int)*18446744073709551616+x)/y=(((hh*18446744073709551616+x)/y:Nat):Int):=by
          rw[Int.natCast_ediv] <;> first|rfl| (congr 1;omega)
         rw[this,<-eT1];omega
        have e2:((hh:Int)*18446744073709551616+x)%y=(((hh*18446744073709551616+x)%y:Nat):Int):=by
         rw[Int.natCast_emod] <;> first|rfl| (congr 1;omega)
        rw[e1,e2]at h
        exact Yej h
       ·simp only[Ya]
      ·have hc:¬(4294967296<=q\/4294967296*r+X%4294967296<q*(Y%4294967296)):=fun hh=>by
        have:=(cnd q r _ hr u0b).2 hh
        rw[hc]at this;cases this
       have hQ0:=YiP hd y1p (by omega)
       rw[eY]at hQ0
       generalize q=Q0 at hQ0⊢
       obtain⟨eT1,eT2⟩:=YdK hYp hQ1 hR1.symm hQ0
       have eX:X/4294967296*4294967296+X%4294967296=X:=Nat.div_add_mod' X 4294967296
       rw[eX,hN,<-hY,Nat.mul_div_mul_right _ _ (YH s)]at eT1
       rw[eX,hN,<-hY,Nat.mul_mod_mul_right]at eT2
       have hNy:(hh*18446744073709551616+x)/y<18446744073709551616:=by
        rw[YHW (by omega)];omega
       rw[YHj,eR R1 _ Q0 u0b hQ0,YbW hs64,<-hY,eT2,Nat.mul_div_cancel _ (YH s),YHJ ((Q1:Int)*4294967296) (by omega),YHJ _ (by omega)]
       refine⟨by omega,?_⟩
       have h:k (.tup [.int .u64 (((hh:Int)*18446744073709551616+x)/y),.int .u64 (((hh:Int)*18446744073709551616+x)%y)]) []:=h
       have e1:((hh:Int)*18446744073709551616+x)/y=(Q1:Int)*4294967296+Q0:=by
        have:((hh:Int)*18446744073709551616+x)/y=(((hh*18446744073709551616+x)/y:Nat):Int):=by
         rw[Int.natCast_ediv] <;> first|rfl| (congr 1;omega)
        rw[this,<-eT1];omega
       have e2:((hh:Int)*18446744073709551616+x)%y=(((hh*18446744073709551616+x)%y:Nat):Int):=by
        rw[Int.natCast_emod] <;> first|rfl| (congr 1;omega)
       rw[e1,e2]at h
       exact Yej h
 ·exact h.1.elim
def v134:VF:=⟨6,[.tmp 2],(ZR [u1 2 .mov [.cn .nil]] (ZR [Zm 3 0,u1 4 (.conv .u64) [.tm 3],Zc 5 141 4,Zm 2 5] .ret))⟩
theorem YBK:Ye YHk Tryz.f134=some v134:=by kernel_rfl
def v132:VF:=⟨14,[.tmp 4],(ZR [u1 4 .mov [.cn .nil]] (ZR [Zm 8 0,Zm 9 1,Zd 10 139 8 9,Zm 7 10,Ze 11 0 7,Ze 12 1 7,Zm 5 11,Zm 6 12] (ZR [Zm 13 5,Zm 4 13] .ret)))⟩
theorem YBI:Ye YHk Tryz.f132=some v132:=by kernel_rfl
def v133:VF:=⟨14,[.tmp 4],(ZR [u1 4 .mov [.cn .nil]] (ZR [Zm 8 0,Zm 9 1,Zd 10 140 8 9,Zm 7 10,Ze 11 0 7,Ze 12 1 7,Zm 5 11,Zm 6 12] (ZR [Zm 13 5,Zm 4 13] .ret)))⟩
theorem YBJ:Ye YHk Tryz.f133=some v133:=by kernel_rfl
def v119:VF:=⟨15,[.tmp 4],(ZR [u1 4 .mov [.cn (.bool false)]] (ZR [Zm 8 0,Zm 9 1,Zd 10 135 8 9,Zm 7 10,Ze 11 0 7,Ze 12 1 7,Zm 5 11,Zm 6 12] (ZR [Zm 13 5,Zq 14 .gtr 13 0,Zm 4 14] .ret)))⟩
theorem YBx:Ye YHk Tryz.f119=some v119:=by kernel_rfl
def v138:VF:=⟨34,[.tmp 6],(ZR [u1 6 .mov [.cn .nil]] (ZR [Zm 12 0,Zm 13 1,Zd 14 144 12 13,Zm 11 14,Ze 15 0 11,Ze 16 1 11,Zm 7 15,Zm 8 16] (.seq (ZR [Zm 18 7,Zm 19 1,u1 20 .neg [.tm 19],Zd 21 144 18 20,Zm 17 21,Ze 22 0 17,Ze 23 1 17,Zm 9 22,Zm 10 23] (ZR [Zm 24 2,Zm 25 24,Zg 26 25 true 0,Zg 27 25 true 9,u2 28 25 true (.call 119) [.tm 26,.tm 27],u1 29 .and [.tm 25,.tm 28]] (ZC 29 (.region [Zm 30 7,u1 31 (.call 134) [.cn (.int .i64 1)],Zd 32 132 30 31,Zm 7 32]) .skip))) (ZR [Zm 33 7,Zm 6 33] .ret))))⟩
theorem YBO:Ye YHk Tryz.f138=some v138:=by kernel_rfl
def v131:VF:=⟨97,[.tmp 4,.tmp 5],(ZR [u1 4 .mov [.cn .nil],u1 5 .mov [.cn .nil]] (ZR [Zm 15 0,u1 16 (.conv .u64) [.tm 15],Zc 17 110 16,u1 18 (.ari .sub) [.tm 17,.cn (.int .i64 1)],Zm 6 18] (ZR [Zm 19 6,Zc 20 134 19,Zm 21 1,u1 22 (.call 138) [.tm 20,.tm 21,.cn (.bool false)],Zm 7 22] (.seq (ZR [Zm 23 0,Zm 24 0,u1 25 (.ari .sub) [.tm 24,.cn (.int .i64 1)],u1 26 (.bit .and) [.tm 23,.tm 25],Zq 27 .eql 26 0] (ZC 27 (ZR [Zm 28 7,Zm 29 7,Zm 4 28,Zm 5 29] .ret) .skip)) (ZR [Zm 30 1,u1 31 (.ari .mul) [.cn (.int .i64 2),.tm 30],Zp 32 31 64,Zm 8 32] (ZR [Zm 33 0,Zc 34 134 33,Zm 35 8,Zm 36 6,Zo 37 .sub 35 36,u1 38 (.call 138) [.tm 34,.tm 37,.cn (.bool false)],Zm 9 38] (ZR [Zm 39 9,Zm 10 39] (ZR [u1 40 (.call 134) [.cn (.int .i64 2)],Zm 41 8,u1 42 (.call 138) [.tm 40,.tm 41,.cn (.bool false)],Zm 11 42] (ZR [Zm 43 6,Zc 44 134 43,Zm 12 44,Zi 13 0] (.seq (.block 0 (.loop (.seq (ZR [Zm 45 13,Zm 46 1,Zr 47 .lss 45 46] (ZC 47 .skip (.exit 0))) (.seq (.block 1 (ZR [Zm 50 9,Zm 51 9,Zd 52 133 50 51,Zm 53 8,u1 54 .neg [.tm 53],u1 55 (.call 138) [.tm 52,.tm 54,.cn (.bool false)],Zm 56 10,Zm 57 10,Zd 58 133 56 57,Zm 59 8,u1 60 .neg [.tm 59],u1 61 (.call 138) [.tm 58,.tm 60,.cn (.bool true)],Zm 9 55,Zm 10 61] (ZR [Zi 14 0] (.seq (.block 2 (ZR [Zm 63 11,Zm 64 9,Zd 65 119 63 64,u1 66 .not [.tm 65],Zm 62 66] (ZC 62 (.region [Zm 67 9,u1 68 (.call 138) [.tm 67,.cn (.int .i64 (-1)),.cn (.bool false)],Zm 69 10,u1 70 (.call 138) [.tm 69,.cn (.int .i64 (-1)),.cn (.bool true)],Zm 9 68,Zm 10 70,Zi 14 1]) (ZR [Zm 72 11,Zm 73 10,Zd 74 119 72 73,u1 75 .not [.tm 74],Zm 71 75] (ZC 71 (ZR [Zm 76 12,Zm 77 1,Zm 78 13,Zo 79 .sub 77 78,u1 80 (.call 138) [.tm 76,.tm 79,.cn (.bool false)],Zm 81 12,u1 82 (.call 134) [.cn (.int .i64 1)],Zd 83 132 81 82,Zm 84 1,Zm 85 13,Zo 86 .sub 84 85,u1 87 (.call 138) [.tm 83,.tm 86,.cn (.bool false)],Zm 4 80,Zm 5 87] .ret) .skip))))) (.region [Zm 88 12,u1 89 (.call 138) [.tm 88,.cn (.int .i64 1),.cn (.bool false)],Zm 90 14,Zc 91 134 90,Zd 92 132 89 91,Zm 12 92]))))) (.region [Zm 48 13,Zp 49 48 1,Zm 13 49]))))) (ZR [Zm 93 12,Zm 94 12,u1 95 (.call 134) [.cn (.int .i64 1)],Zd 96 132 94 95,Zm 4 93,Zm 5 96] .ret)))))))))))⟩
theorem YBH:Ye YHk Tryz.f131=some v131:=by kernel_rfl
theorem Ye1(a:Nat):nl (capF a)<=512:=by
 unfold capF
 split
 ·assumption
 ·rw[nl_0];omega
def addW(a b:Nat):Nat:=capF (a+b)
def mulW(a b:Nat):Nat:=capF (a*b)
def movW(a:Nat)(d:Int)(up:Bool):Nat:=
 if(up&&decide (capF (shF (capF (shF a d)) (-d))<a))=true then addW (capF (shF a d)) 1 else capF (shF a d)
theorem YbR(a b:Nat):nl (addW a b)<=512:=Ye1 _
theorem Ye9(a b:Nat):nl (mulW a b)<=512:=Ye1 _
theorem Ybb(a:Nat)(d:Int)(up:Bool):nl (movW a d up)<=512:=by
 unfold movW
 split <;> exact Ye1 _
theorem Yp{a:Nat}(h:nl a<=512):okW a (nl a) 1 (fun k=>[.int .u32 (dig a k)]):=⟨YaD (by omega),rfl,h⟩
theorem Yk7{a:Nat}(h:a<18446744073709551616):nl a<=2:=nl_le.2 (by omega)
def numWC:Ctr:={ alias:=false,of:=fun l=>match l with
 | [.int .i64 n]=> .pre (0<=n/\n<=9223372036854775807) (.fin (natS false n.toNat) [])
 |_=>noC}
def addWC:Ctr:={ alias:=false,of:=fun l=>match l with
 | [.vs _ z n sz get,.vs _ z' m sz' get']=> .ex Nat fun a=> .ex Nat fun b=> .pre (okW a n sz get/\okW b m sz' get') (.all Bool fun y=> .fin (natS y (addW a b)) [])
 |_=>noC}
def timesWC:Ctr:={ alias:=false,of:=fun l=>match l with
 | [.vs _ z n sz get,.vs _ z' m sz' get']=> .ex Nat fun a=> .ex Nat fun b=> .pre (okW a n sz get/\okW b m sz' get') (.all Bool fun y=> .fin (natS y (mulW a b)) [])
 |_=>noC}
def aboveC:Ctr:={ alias:=false,of:=fun l=>match l with
 | [.vs _ z n sz get,.vs _ z' m sz' get']=> .ex Nat fun a=> .ex Nat fun b=> .pre (okW a n sz get/\okW b m sz' get') (.fin (.bool (decide (b<a))) [])
 |_=>noC}
def movC:Ctr:={ alias:=false,of:=fun l=>match l with
 | [.vs _ z n sz get,.int .i64 d,.bool up]=> .ex Nat fun a=> .pre (okW a n sz get/\ -20000<=d/\d<=20000) (.all Bool fun y=> .fin (natS y (movW a d up)) [])
 |_=>noC}
def RA0:Env:={ ct:=fun n=>match n with|141=>some ofC|139=>some wAddC|140=>some wMulC|135=>some wCmpC|144=>some wShiftC|_=>none,fn:=fun _=>none,meth:=fun _ _=>none}
theorem Yp0:RA0.ct 141=some ofC:=rfl
theorem YpY:RA0.ct 139=some wAddC:=rfl
theorem YpZ:RA0.ct 140=some wMulC:=rfl
theorem YpX:RA0.ct 135=some wCmpC:=rfl
theorem YmL:Yn YHk RA0:=by
 refine⟨fun f c h=>?_,fun f vf h=>?_,(fun _ _ _ h=>by cases h),by kernel_rfl,(fun _ h=>by cases h),(fun _ _ h=>by cases h)⟩
 ·simp only[RA0]at h
  split at h
  ·cases h;exact⟨YG7,Tryz.f141,Tryz.func141,by kernel_rfl,by kernel_rfl⟩
  ·cases h;exact⟨YCf,Tryz.f139,Tryz.func139,by kernel_rfl,by kernel_rfl⟩
  ·cases h;exact⟨YCh,Tryz.f140,Tryz.func140,by kernel_rfl,by kernel_rfl⟩
  ·cases h;exact⟨YCg,Tryz.f135,Tryz.func135,by kernel_rfl,by kernel_rfl⟩
  ·cases h;exact⟨YlA,Tryz.f144,Tryz.func144,by kernel_rfl,by kernel_rfl⟩
  ·cases h
 ·cases h
theorem Ymd:numWC.ok YHk 134:=by
 refine Yb Tryz.func134 YBK YmL 200 numWC fun args k h=>?_
 simp only[numWC]at h
 split at h
 ·rename_i n
  obtain⟨⟨h0,h1⟩,h⟩:=h
  refine⟨[.int .i64 n],by simp [leL,le],?_⟩
  dsimp only[v134,Yp0,ofC,natS,go_sem,reduceIte,YHf]
  simp only[Yc,YHf,YHh,reduceCtorEq,YHg]
  rw[YHJ _ (by omega)]
  exact⟨⟨h0,by omega⟩,Ydm (t:=true) h⟩
 ·exact h.1.elim
theorem YqO:addWC.ok YHk 132:=by
 refine Yb Tryz.func132 YBI YmL 200 addWC fun args k h=>?_
 simp only[addWC]at h
 split at h
 ·rename_i t1 z1 n sz get t2 z2 m sz' get'
  obtain⟨a,b,⟨⟨⟨rfl,hn,ha,hg⟩,hna,hn5⟩,⟨rfl,hm,hb,hg'⟩,hmb,hm5⟩,h⟩:=h
  refine⟨[.vs t1 z1 n 1 (fun k=>[.int .u32 (dig a k)]),.vs t2 z2 m 1 (fun k=>[.int .u32 (dig b k)])],⟨by simpa [le]using hg,by simpa [le]using hg',trivial⟩,?_⟩
  dsimp only[v132,YpY,wAddC,natS,go_sem,reduceIte,YHf]
  simp only[Yc,YHf,YHh,reduceCtorEq,YHg]
  subst hna hmb
  exact⟨a,b,⟨Yp hn5,Yp hm5⟩,fun y=>⟨by decide,by decide,Ydm (t:=true) (h y)⟩⟩
 ·exact h.1.elim
theorem Yxy:timesWC.ok YHk 133:=by
 refine Yb Tryz.func133 YBJ YmL 200 timesWC fun args k h=>?_
 simp only[timesWC]at h
 split at h
 ·rename_i t1 z1 n sz get t2 z2 m sz' get'
  obtain⟨a,b,⟨⟨⟨rfl,hn,ha,hg⟩,hna,hn5⟩,⟨rfl,hm,hb,hg'⟩,hmb,hm5⟩,h⟩:=h
  refine⟨[.vs t1 z1 n 1 (fun k=>[.int .u32 (dig a k)]),.vs t2 z2 m 1 (fun k=>[.int .u32 (dig b k)])],⟨by simpa [le]using hg,by simpa [le]using hg',trivial⟩,?_⟩
  dsimp only[v133,YpZ,wMulC,natS,go_sem,reduceIte,YHf]
  simp only[Yc,YHf,YHh,reduceCtorEq,YHg]
  subst hna hmb
  exact⟨a,b,⟨Yp hn5,Yp hm5⟩,fun y=>⟨by decide,by decide,Ydm (t:=true) (h y)⟩⟩
 ·exact h.1.elim
theorem YlI:aboveC.ok YHk 119:=by
 refine Yb Tryz.func119 YBx YmL 200 aboveC fun args k h=>?_
 simp only[aboveC]at h
 split at h
 ·rename_i t1 z1 n sz get t2 z2 m sz' get'
  obtain⟨a,b,⟨⟨⟨rfl,hn,ha,hg⟩,hna,hn5⟩,⟨rfl,hm,hb,hg'⟩,hmb,hm5⟩,h⟩:=h
  refine⟨[.vs t1 z1 n 1 (fun k=>[.int .u32 (dig a k)]),.vs t2 z2 m 1 (fun k=>[.int .u32 (dig b k)])],⟨by simpa [le]using hg,by simpa [le]using hg',trivial⟩,?_⟩
  dsimp only[v119,YpX,wCmpC,natS,go_sem,reduceIte,YHf]
  simp only[Yc,YHf,YHh,reduceCtorEq,YHg]
  subst hna hmb
  have e:decide (0<ordN a b)=decide (b<a):=by
   unfold ordN
   by_cases h1:a<b
   ·rw[if_pos h1,decide_eq_false (by omega:¬b<a)];rfl
   ·rw[if_neg h1]
    by_cases h2:b<a
    ·rw[if_pos h2,decide_eq_true h2];rfl
    ·rw[if_neg h2,decide_eq_false h2];rfl
  refine⟨a,b,⟨Yp hn5,Yp hm5⟩,by decide,by decide,?_⟩
  rw[e]
  exact Yi h
 ·exact h.1.elim
def RA1:Env:={ ct:=fun n=>match n with|144=>some wShiftC|119=>some aboveC|132=>some addWC|134=>some numWC|_=>none,fn:=fun _=>none,meth:=fun _ _=>none}
theorem Yp4:RA1.ct 144=some wShiftC:=rfl
theorem Yp1:RA1.ct 119=some aboveC:=rfl
theorem Yp2:RA1.ct 132=some addWC:=rfl
theorem Yp3:RA1.ct 134=some numWC:=rfl
theorem YCF:Yn YHk RA1:=by
 refine⟨fun f c h=>?_,fun f vf h=>?_,(fun _ _ _ h=>by cases h),by kernel_rfl,(fun _ h=>by cases h),(fun _ _ h=>by cases h)⟩
 ·simp only[RA1]at h
  split at h
  ·cases h;exact⟨YlA,Tryz.f144,Tryz.func144,by kernel_rfl,by kernel_rfl⟩
  ·cases h;exact⟨YlI,Tryz.f119,Tryz.func119,by kernel_rfl,by kernel_rfl⟩
  ·cases h;exact⟨YqO,Tryz.f132,Tryz.func132,by kernel_rfl,by kernel_rfl⟩
  ·cases h;exact⟨Ymd,Tryz.f134,Tryz.func134,by kernel_rfl,by kernel_rfl⟩
  ·cases h
 ·cases h
theorem mov_c:movC.ok YHk 138:=by
 refine Yb Tryz.func138 YBO YCF 300 movC fun args k h=>?_
 simp only[movC]at h
 split at h
 ·rename_i t1 z1 n sz get d up
  obtain⟨a,⟨⟨⟨rfl,hn,ha,hg⟩,hna,hn5⟩,hd0,hd1⟩,h⟩:=h
  refine⟨[.vs t1 z1 n 1 (fun k=>[.int .u32 (dig a k)]),.int .i64 d,.bool up],⟨by simpa [le]using hg,⟨rfl,rfl⟩,rfl,trivial⟩,?_⟩
  dsimp only[v138,Yp4,Yp1,Yp2,Yp3,wShiftC,aboveC,addWC,numWC,natS,go_sem,reduceIte,YHf]
  simp only[Yc,YHf,YHh,reduceCtorEq,YHg]
  subst hna
  have hneg:IntKind.i64.wrap (0-d)= -d:=by rw[YHi _ (by omega)];omega
  rw[hneg]
  have h1:nl 1<=512:=by have:= @Yk7 1 (by decide);omega
  refine⟨a,⟨Yp hn5,hd0,hd1⟩,fun y=>⟨by decide,by decide,capF (shF a d),⟨Yp (Ye1 _),by omega,by omega⟩,by decide,by decide,a,capF (shF (capF (shF a d)) (-d)),fun _=>⟨Yp hn5,Yp (Ye1 _)⟩,fun hc=>⟨by decide,capF (shF a d),1,⟨Yp (Ye1 _),Yp h1⟩,fun z=>?_⟩,fun hc=>?_⟩⟩
  ·have h:k (natS z (movW a d up)) []:=h z
   rw[movW,if_pos hc]at h
   exact Ydm (t:=true) h
  ·have h:k (natS y (movW a d up)) []:=h y
   rw[movW,if_neg (by rw[hc];decide)]at h
   exact Ydm (t:=true) h
 ·exact h.1.elim
def Ybz(n:Int):Bool:=decide (bitI .and .i64 n (IntKind.i64.wrap (n-1))=0)
def logL(two:Nat)(deep:Int):Nat->Nat->Nat->Nat->Nat×Nat
 |0,_,_,sum=>(sum,addW sum 1)
 |f+1,a,b,sum=>
  let a1:=movW (mulW a a) (-deep) false
  let b1:=movW (mulW b b) (-deep) true
  if a1<two then
   if b1<two then logL two deep f a1 b1 (addW (movW sum 1 false) 0)
   else(movW sum ((f+1:Nat):Int) false,movW (addW sum 1) ((f+1:Nat):Int) false)
  else logL two deep f (movW a1 (-1) false) (movW b1 (-1) true) (addW (movW sum 1 false) 1)
def logF(n:Int)(p:Nat):Nat×Nat:=
 let k:=Yo n.toNat-1
 if Ybz n=true then(movW k p false,movW k p false)
 else
  let deep:Int:=((2*p+64:Nat):Int)
  let a:=movW n.toNat (deep-k) false
  logL (movW 2 deep false) deep p a a k
theorem Yl7{two:Nat}{deep:Int}:∀(f a b sum:Nat),nl sum<=512->nl (logL two deep f a b sum).1<=512/\nl (logL two deep f a b sum).2<=512
 |0,_,_,sum,h=>⟨h,YbR _ _⟩
 |f+1,a,b,sum,h=>by
  rw[logL]
  split
  ·split
   ·exact Yl7 f _ _ _ (YbR _ _)
   ·exact⟨Ybb sum _ false,Ybb (addW sum 1) _ false⟩
  ·exact Yl7 f _ _ _ (YbR _ _)
theorem Yz3(n:Int)(p:Nat)(hn:n<=9223372036854775807):nl (logF n p).1<=512/\nl (logF n p).2<=512:=by
 rw[logF]
 by_cases hb:Ybz n=true
 ·rw[if_pos hb];exact⟨Ybb (Yo n.toNat-1) p false,Ybb (Yo n.toNat-1) p false⟩
 ·rw[if_neg hb]
  refine Yl7 _ _ _ _ ?_
  have h1:Yo n.toNat<=64:=bitsN_le.2 (by have:(2:Nat)^64=18446744073709551616:=rfl;omega)
  have:= @Yk7 (Yo n.toNat-1) (by omega)
  omega
structure LSt where
 i:Nat
 a:Nat
 b:Nat
 s:Nat
 za:Bool
 zb:Bool
 zs:Bool
theorem YqU{k:SV->List HO->Prop}{al:Bool}{hp:List HO}{y z:Bool}{a b:Nat}(h:k (.tup [natS y a,natS z b]) []):Yz al k (.tup [natS y a,natS z b]) hp:=
 YE (show k _ []from h) (YC _ ⟨trivial,trivial,trivial⟩) (fun _=>by simp [natS,Yt,Ys])
def logC:Ctr:={ alias:=false,of:=fun l=>match l with
 | [.int .i64 n,.int .i64 p]=> .ex Nat fun q=> .pre (1<=n/\n<=9223372036854775807/\p=q/\q<=2048) (.all Bool fun y=> .all Bool fun z=> .fin (.tup [natS y (logF n q).1,natS z (logF n q).2]) [])
 |_=>noC}
def RA2:Env:={ ct:=fun n=>match n with|110=>some len64C|119=>some aboveC|132=>some addWC|133=>some timesWC|134=>some numWC|138=>some movC|_=>none,fn:=fun _=>none,meth:=fun _ _=>none}
theorem YjW:RA2.ct 110=some len64C:=rfl
theorem YjX:RA2.ct 119=some aboveC:=rfl
theorem YjY:RA2.ct 132=some addWC:=rfl
theorem YjZ:RA2.ct 133=some timesWC:=rfl
theorem Yj0:RA2.ct 134=some numWC:=rfl
theorem Yj1:RA2.ct 138=some movC:=rfl
theorem YCG:Yn YHk RA2:=by
 refine⟨fun f c h=>?_,fun f vf h=>?_,(fun _ _ _ h=>by cases h),by kernel_rfl,(fun _ h=>by cases h),(fun _ _ h=>by cases h)⟩
 ·simp only[RA2]at h
  split at h
  ·cases h;exact⟨Yf3,Tryz.f110,Tryz.func110,by kernel_rfl,by kernel_rfl⟩
  ·cases h;exact⟨YlI,Tryz.f119,Tryz.func119,by kernel_rfl,by kernel_rfl⟩
  ·cases h;exact⟨YqO,Tryz.f132,Tryz.func132,by kernel_rfl,by kernel_rfl⟩
  ·cases h;exact⟨Yxy,Tryz.f133,Tryz.func133,by kernel_rfl,by kernel_rfl⟩
  ·cases h;exact⟨Ymd,Tryz.f134,Tryz.func134,by kernel_rfl,by kernel_rfl⟩
  ·cases h;exact⟨mov_c,Tryz.f138,Tryz.func138,by kernel_rfl,by kernel_rfl⟩
  ·cases h
 ·cases h
theorem log_c:logC.ok YHk 131:=by
 refine Yb Tryz.func131 YBH YCG 600 logC fun args k h=>?_
 simp only[logC]at h
 split at h
 ·rename_i n p'
  obtain⟨p,⟨hn0,hn1,rfl,hp⟩,h⟩:=h
  refine⟨[.int .i64 n,.int .i64 p],by simp [leL,le],?_⟩
  dsimp only[v131,YjW,YjX,YjY,Yj0,Yj1,YjZ,len64C,aboveC,addWC,numWC,timesWC,movC,natS,go_sem,reduceIte,YHf]
  simp only[Yc,YHf,YHh,reduceCtorEq,YHg]
  have hb1:Yo n.toNat<=64:=bitsN_le.2 (by have:(2:Nat)^64=18446744073709551616:=rfl;omega)
  have hb0:Yo n.toNat≠0:=fun e=>by have:=bitsN_eq0.1 e;omega
  obtain⟨K,hK⟩:∃K,K=Yo n.toNat-1:=⟨_,rfl⟩
  have eu:IntKind.u64.wrap n=n:=YHJ _ (by omega)
  have ek:IntKind.i64.wrap ((Yo n.toNat:Int)-1)=(K:Int):=by rw[hK,YHi _ (by omega)];omega
  have ed:IntKind.i64.wrap (IntKind.i64.wrap (2*(p:Int))+64)=((2*p+64:Nat):Int):=by rw[YHi (2*(p:Int)) (by omega),YHi _ (by omega)];omega
  obtain⟨D,hD⟩:∃D:Int,D=((2*p+64:Nat):Int):=⟨_,rfl⟩
  have edk:IntKind.i64.wrap (D-(K:Int))=D-(K:Int):=YHi _ (by omega)
  rw[eu,ek,ed,<-hD,edk,YHj]
  have hKw:nl K<=512:=by have:= @Yk7 K (by omega);omega
  have hnw:nl n.toNat<=512:=by have:= @Yk7 n.toNat (by omega);omega
  have h2w:nl 2<=512:=by have:= @Yk7 2 (by decide);omega
  refine⟨by omega,by omega,K,⟨Yp hKw,by omega,by omega⟩,fun y=>⟨fun hc=>?_,fun hc=>⟨by omega,n.toNat,⟨Yp hnw,by omega,by omega⟩,fun z=>⟨by decide,2,⟨Yp h2w,by omega,by omega⟩,fun z2=>⟨by omega,?_⟩⟩⟩⟩⟩
  ·have h:k (.tup [natS y (logF n p).1,natS y (logF n p).2]) []:=h y y
   have e:logF n p=(movW K p false,movW K p false):=by rw[logF,if_pos (show Ybz n=true from decide_eq_true hc),hK]
   rw[e]at h
   exact YqU h
  ·have e:logF n p=logL (movW 2 D false) D p (movW n.toNat (D-K) false) (movW n.toNat (D-K) false) K:=by rw[logF,if_neg (show¬Ybz n=true from fun hh=>hc (of_decide_eq_true hh)),hK,hD]
   rw[e]at h
   generalize hA:movW n.toNat (D-(K:Int)) false=A at h⊢
   have hA5:nl A<=512:=by rw[<-hA];exact Ybb _ _ _
   generalize hT:movW 2 D false=T at h⊢
   have hT5:nl T<=512:=by rw[<-hT];exact Ybb _ _ _
   refine Loop.keep [1,6,2] LSt (fun x=>[(9,natS x.za x.a),(10,natS x.zb x.b),(12,natS x.zs x.s),(13,.int .i64 x.i)]) (fun _=>[]) [] (fun x=>x.i<=p/\logL T D p A A K=logL T D (p-x.i) x.a x.b x.s/\nl x.a<=512/\nl x.b<=512/\nl x.s<=512) (fun x=>p-x.i) ?_ ?_
   ·refine⟨⟨0,A,A,K,z,z,false⟩,⟨by simp only;omega,rfl,hA5,hA5,hKw⟩,?_⟩
    dsimp only[natS,go_sem,reduceIte,YHf]
    simp only[Ya]
    try simp
   ·rintro⟨i,a,b,S,za,zb,zs⟩ ⟨hi,he,ha5,hb5,hs5⟩
    dsimp only at hi he ha5 hb5 hs5
    dsimp only[YjW,YjX,YjY,Yj0,Yj1,YjZ,len64C,aboveC,addWC,numWC,timesWC,movC,natS,go_sem,reduceIte,YHf]
    simp only[Yc,YHf,YHh,reduceCtorEq,YHg]
    have eD:IntKind.i64.wrap (0-D)= -D:=by rw[YHi _ (by omega)];omega
    have ei:IntKind.i64.wrap ((p:Int)-(i:Int))=((p-i:Nat):Int):=by rw[YHi _ (by omega)];omega
    have h1w:nl 1<=512:=by have:= @Yk7 1 (by decide);omega
    have h0w:nl 0<=512:=by rw[nl_0];omega
    rw[eD,ei]
    refine⟨fun hlt=>?_,fun hge=>⟨by decide,S,1,⟨Yp hs5,Yp h1w⟩,fun y=>?_⟩⟩
    ·obtain⟨q,hq⟩:∃q,p-i=q+1:=⟨p-i-1,by omega⟩
     rw[hq,logL]at he
     obtain⟨a1,ha1⟩:∃a1,a1=movW (mulW a a) (-D) false:=⟨_,rfl⟩
     obtain⟨b1,hb1⟩:∃b1,b1=movW (mulW b b) (-D) true:=⟨_,rfl⟩
     have ha15:nl a1<=512:=by rw[ha1];exact Ybb _ _ _
     have hb15:nl b1<=512:=by rw[hb1];exact Ybb _ _ _
     rw[<-ha1,<-hb1]at he
     refine⟨a,a,⟨Yp ha5,Yp ha5⟩,fun _=>⟨mulW a a,⟨Yp (Ye9 _ _),by omega,by omega⟩,fun y1=>⟨b,b,⟨Yp hb5,Yp hb5⟩,fun _=>⟨mulW b b,⟨Yp (Ye9 _ _),by omega,by omega⟩,fun y2=>?_⟩⟩⟩⟩
     rw[<-ha1,<-hb1]
     refine⟨T,a1,⟨Yp hT5,Yp ha15⟩,fun hc=>?_,fun hc=>⟨T,b1,⟨Yp hT5,Yp hb15⟩,fun hd=>?_,fun hd=>?_⟩⟩
     ·rw[if_neg hc]at he
      refine⟨a1,⟨Yp ha15,by decide,by decide⟩,fun y3=>⟨b1,⟨Yp hb15,by decide,by decide⟩,fun y4=>⟨S,⟨Yp hs5,by decide,by decide⟩,fun _=>⟨by decide,movW S 1 false,1,⟨Yp (Ybb _ _ _),Yp h1w⟩,fun y5=>?_⟩⟩⟩⟩
      refine⟨⟨i+1,movW a1 (-1) false,movW b1 (-1) true,addW (movW S 1 false) 1,y3,y4,y5⟩,⟨by simp only;omega,?_,Ybb a1 (-1) false,Ybb b1 (-1) true,YbR (movW S 1 false) 1⟩,by simp only;omega,?_⟩
      ·rw[show p-(i+1)=q by omega];exact he
      ·rw[YHi ((i:Int)+1) (by omega)]
       simp only[Ya]
       simp
     ·rw[if_pos hc,if_neg hd]at he
      refine⟨S,⟨Yp hs5,by omega,by omega⟩,fun y3=>⟨by decide,S,1,⟨Yp hs5,Yp h1w⟩,addW S 1,⟨Yp (YbR _ _),by omega,by omega⟩,fun y4=>?_⟩⟩
      have h:k (.tup [natS y3 (logL T D p A A K).1,natS y4 (logL T D p A A K).2]) []:=h y3 y4
      rw[he]at h
      rw[hq]
      exact YqU h
     ·rw[if_pos hc,if_pos hd]at he
      refine⟨S,⟨Yp hs5,by decide,by decide⟩,fun _=>⟨by decide,movW S 1 false,0,⟨Yp (Ybb _ _ _),Yp h0w⟩,fun y5=>?_⟩⟩
      refine⟨⟨i+1,a1,b1,addW (movW S 1 false) 0,y1,y2,y5⟩,⟨by simp only;omega,?_,ha15,hb15,YbR (movW S 1 false) 0⟩,by simp only;omega,?_⟩
      ·rw[show p-(i+1)=q by omega];exact he
      ·rw[YHi ((i:Int)+1) (by omega)]
       simp only[Ya]
       simp
    ·have h:k (.tup [natS zs (logL T D p A A K).1,natS y (logL T D p A A K).2]) []:=h zs y
     rw[he,show p-i=0 by omega,logL]at h
     exact YqU h
 ·exact h.1.elim
def v136:VF:=⟨12,[.tmp 4],(ZR [Zi 4 0] (.seq (.block 0 (.loop (.seq (ZR [Zm 5 1,Zq 6 .neq 5 0] (ZC 6 .skip (.exit 0))) (.block 1 (.draw [] [Zu 7 1,Zu 8 0,Zu 9 1,w1 10 .rem [.tm 8,.tm 9],Zu 0 7,Zu 1 10]))))) (ZR [Zm 11 0,Zm 4 11] .ret)))⟩
theorem YBM:Ye YHk Tryz.f136=some v136:=by kernel_rfl
def v118:VF:=⟨58,[.cell 4 true 2,.cell 5 true 2],(ZR [u1 4 (.alloc [.nil,.nil]) [],u1 5 (.alloc [.nil,.nil]) []] (.seq (ZR [Zm 12 0,Zl 13 12,Zi 14 0] (.block 0 (.loop (ZR [Zr 15 .lss 14 13] (.seq (ZC 15 .skip (.exit 0)) (.seq (.block 1 (ZR [Zx 16 2 12 14,Zt 17 2 16,Zn 7,Zs 2 7 17] (ZR [Za 19 0 7,Zf 20 1 19,Zm 21 1,Zd 22 131 20 21,Zm 18 22,Ze 23 0 18,Ze 24 1 18,Zm 8 23,Zm 9 24] (.seq (.draw [] [Zy 25 1 7,Zv 26 1 25,Zu 10 4,Zu 11 26]) (.seq (ZR [Zm 27 11,Zq 28 .lss 27 0] (ZC 28 (.region [Zm 29 11,u1 30 .neg [.tm 29],Zm 10 5,Zm 11 30]) .skip)) (.draw [] [Zu 31 10,Zu 32 10,Zu 33 10,w1 34 .nilCheck [.tm 33],Zy 35 0 34,Zv 36 1 35,Zu 37 8,Zu 38 11,Zu 42 10,w1 43 .nilCheck [.tm 42],Zy 44 1 43,Zv 45 1 44,Zu 46 9,Zu 47 11,w1 39 (.call 134) [.tm 38],Zz 40 133 37 39,Zz 41 132 36 40,w1 48 (.call 134) [.tm 47],Zz 49 133 46 48,Zz 50 132 45 49,w1 51 .nilCheck [.tm 31],Zy 52 0 51,ZS 1 52 41,w1 53 .nilCheck [.tm 32],Zy 54 1 53,ZS 1 54 50])))))) (.region [Zp 55 14 1,Zm 14 55]))))))) (ZR [Zt 56 2 4,Zt 57 2 5,Zs 2 4 56,Zs 2 5 57] .ret)))⟩
theorem YBw:Ye YHk Tryz.f118=some v118:=by kernel_rfl
def gcdC:Ctr:={ alias:=false,of:=fun l=>match l with
 | [.int .i64 a,.int .i64 b]=> .ex Nat fun x=> .ex Nat fun y=> .pre (a=x/\b=y/\x<=9223372036854775807/\y<=9223372036854775807) (.fin (.int .i64 (Nat.gcd x y)) [])
 |_=>noC}
def RA3:Env:={ ct:=fun _=>none,fn:=fun _=>none,meth:=fun _ _=>none}
theorem YCH:Yn YHk RA3:=by
 refine⟨fun f c h=>?_,fun f vf h=>?_,(fun _ _ _ h=>by cases h),by kernel_rfl,(fun _ h=>by cases h),(fun _ _ h=>by cases h)⟩
 ·cases h
 ·cases h
theorem gcd_c:gcdC.ok YHk 136:=by
 refine Yb Tryz.func136 YBM YCH 100 gcdC fun args k h=>?_
 simp only[gcdC]at h
 split at h
 ·rename_i a b
  obtain⟨x,y,⟨rfl,rfl,hx,hy⟩,h⟩:=h
  refine⟨[.int .i64 x,.int .i64 y],by simp [leL,le],?_⟩
  dsimp only[v136,go_sem,reduceIte,YHf]
  simp only[Yc,YHf,YHh,reduceCtorEq,YHg]
  refine Loop.keep [] (Nat×Nat) (fun s=>[(0,.int .i64 s.1),(1,.int .i64 s.2)]) (fun _=>[]) [] (fun s=>Nat.gcd s.1 s.2=Nat.gcd x y/\s.1<=9223372036854775807/\s.2<=9223372036854775807) (fun s=>s.2) ?_ ?_
  ·refine⟨(x,y),⟨rfl,hx,hy⟩,?_⟩
   dsimp only[go_sem,reduceIte,YHf]
   simp only[Ya]
  ·rintro⟨p,q⟩ ⟨he,hp,hq⟩
   dsimp only at he hp hq
   dsimp only[go_sem,reduceIte,YHf]
   simp only[Yc,YHf,YHh,reduceCtorEq,YHg]
   refine⟨fun hc=>⟨hc,(q,p%q),⟨?_,by simp only;omega,?_⟩,?_,?_⟩,fun hc=>Yj ?_⟩
   ·rw[<-he,Nat.gcd_comm p q]
    show Nat.gcd q (p%q)=Nat.gcd q p
    rw[Nat.gcd_comm q (p%q),<-Nat.gcd_rec]
   ·have:=YIk p (by omega:0<q)
    simp only;omega
   ·exact YIk p (by omega:0<q)
   ·have e:(p:Int).tmod q=((p%q:Nat):Int):=IntWalk.up_tmod rfl rfl
    rw[e]
    simp only[Ya]
   ·obtain rfl:q=0:=by omega
    rw[Nat.gcd_zero_right]at he
    rw[he];exact h
 ·exact h.1.elim
structure Bnd where
 ul:Nat
 uh:Nat
 dl:Nat
 dh:Nat
def Ydj(p:Nat)(s:Bnd)(x:Int×Int):Bnd:=
 if x.2<0 then { s with dl:=addW s.dl (mulW (logF x.1 p).1 (-x.2).toNat),dh:=addW s.dh (mulW (logF x.1 p).2 (-x.2).toNat)}
 else { s with ul:=addW s.ul (mulW (logF x.1 p).1 x.2.toNat),uh:=addW s.uh (mulW (logF x.1 p).2 x.2.toNat)}
def Ych(l:List (Int×Int))(p:Nat):Bnd:=l.foldl (Ydj p) ⟨0,0,0,0⟩
def okT(x:Int×Int):Prop:=1<=x.1/\x.1<=1000000000001/\ -9000000000000000000<=x.2/\x.2<=9000000000000000000
def Bnd.ok(s:Bnd):Prop:=nl s.ul<=512/\nl s.uh<=512/\nl s.dl<=512/\nl s.dh<=512
theorem YjO(p:Nat)(s:Bnd)(x:Int×Int)(h:s.ok):(Ydj p s x).ok:=by
 obtain⟨h1,h2,h3,h4⟩:=h
 unfold Ydj
 split
 ·exact⟨h1,h2,YbR _ _,YbR _ _⟩
 ·exact⟨YbR _ _,YbR _ _,h3,h4⟩
def sumsC:Ctr:={ alias:=false,of:=fun l=>match l with
 | [.vs _ _ n sz get,.int .i64 p]=> .ex (List (Int×Int)) fun l=> .ex Nat fun q=> .pre (lsP 2 enc2 n sz get l/\(∀x,x∈l->okT x)/\n<=100/\p=q/\q<=2048)
     (.all Bool fun y1=> .all Bool fun y2=> .all Bool fun y3=> .all Bool fun y4=> .fin (.tup [.agg [natS y1 (Ych l q).ul,natS y2 (Ych l q).uh],.agg [natS y3 (Ych l q).dl,natS y4 (Ych l q).dh]]) [])
 |_=>noC}
def RA4:Env:={ ct:=fun n=>match n with|132=>some addWC|133=>some timesWC|134=>some numWC|131=>some logC|_=>none,fn:=fun _=>none,meth:=fun _ _=>none}
theorem Yp6:RA4.ct 132=some addWC:=rfl
theorem Yp7:RA4.ct 133=some timesWC:=rfl
theorem Yp8:RA4.ct 134=some numWC:=rfl
theorem Yp5:RA4.ct 131=some logC:=rfl
theorem YCI:Yn YHk RA4:=by
 refine⟨fun f c h=>?_,fun f vf h=>?_,(fun _ _ _ h=>by cases h),by kernel_rfl,(fun _ h=>by cases h),(fun _ _ h=>by cases h)⟩
 ·simp only[RA4]at h
  split at h
  ·cases h;exact⟨YqO,Tryz.f132,Tryz.func132,by kernel_rfl,by kernel_rfl⟩
  ·cases h;exact⟨Yxy,Tryz.f133,Tryz.func133,by kernel_rfl,by kernel_rfl⟩
  ·cases h;exact⟨Ymd,Tryz.f134,Tryz.func134,by kernel_rfl,by kernel_rfl⟩
  ·cases h;exact⟨log_c,Tryz.f131,Tryz.func131,by kernel_rfl,by kernel_rfl⟩
  ·cases h
 ·cases h
structure SSt where
 i:Nat
 b:Bnd
 y1:Bool
 y2:Bool
 y3:Bool
 y4:Bool
theorem YFz:sumsC.ok YHk 118:=by
 refine Yb Tryz.func118 YBw YCI 500 sumsC fun args k h=>?_
 simp only[sumsC]at h
 split at h
 ·rename_i tt z n sz get p'
  obtain⟨l,p,⟨⟨rfl,rfl,hg⟩,hl,hn,rfl,hp⟩,h⟩:=h
  refine⟨[.vs tt z l.length 2 (fun k=>enc2 (l.getD k default)),.int .i64 p],⟨⟨id,rfl,rfl,rfl,hg⟩,⟨rfl,rfl⟩,trivial⟩,?_⟩
  dsimp only[v118,enc2,go_sem,reduceIte,YHf]
  simp only[Yc,YHf,YHh,reduceCtorEq,YHg]
  refine Loop.keep [0,0,2,0,6,0] SSt (fun s=>[(14,.int .i64 s.i)]) (fun s=>[(0,.box [natS s.y1 s.b.ul,natS s.y2 s.b.uh]),(1,.box [natS s.y3 s.b.dl,natS s.y4 s.b.dh])]) [] (fun s=>s.i<=l.length/\s.b=(l.take s.i).foldl (Ydj p) ⟨0,0,0,0⟩/\s.b.ok) (fun s=>l.length-s.i) ?_ ?_
  ·refine⟨⟨0,⟨0,0,0,0⟩,true,true,true,true⟩,⟨by simp only;omega,rfl,by simp [Bnd.ok,nl_0]⟩,?_⟩
   dsimp only[natS,go_sem,reduceIte,YHf]
   simp only[Ya]
   simp [nl_0]
  ·rintro⟨i,B,y1,y2,y3,y4⟩ ⟨hi,hB,hok⟩
   dsimp only at hi hB hok
   dsimp only[Yp5,Yp6,Yp8,Yp7,logC,addWC,numWC,timesWC,natS,enc2,YHj,go_sem,reduceIte,YHf]
   simp only[Yc,YHf,YHh,reduceCtorEq,YHg]
   refine⟨fun hlt=>?_,fun hge=>?_⟩
   ·have hx:=hl _ (Yh (by omega:i<l.length))
    generalize hxe:l.getD i default=x at hx⊢
    obtain⟨q0,q1,q2,q3⟩:=hx
    have hstep:(l.take (i+1)).foldl (Ydj p) ⟨0,0,0,0⟩=Ydj p B x:=by
     rw[Ym (by omega),<-hB,hxe]
    obtain⟨g1,g2⟩:=Yz3 x.1 p (by omega)
    obtain⟨o1,o2,o3,o4⟩:=hok
    refine⟨⟨by omega,by omega⟩,p,⟨q0,by omega,rfl,hp⟩,fun z1 z2=>⟨by decide,by decide,fun hc=>?_,fun hc=>?_⟩⟩
    ·have en:IntKind.i64.wrap (0-x.2)= -x.2:=by rw[YHi _ (by omega)];omega
     rw[en]
     have hnw:nl (-x.2).toNat<=512:=by have:= @Yk7 (-x.2).toNat (by omega);omega
     refine⟨⟨by omega,by omega⟩,(logF x.1 p).1,(-x.2).toNat,⟨Yp g1,Yp hnw⟩,fun _=>⟨B.dl,mulW (logF x.1 p).1 (-x.2).toNat,⟨Yp o3,Yp (Ye9 _ _)⟩,fun z3=>⟨⟨by omega,by omega⟩,(logF x.1 p).2,(-x.2).toNat,⟨Yp g2,Yp hnw⟩,fun _=>⟨B.dh,mulW (logF x.1 p).2 (-x.2).toNat,⟨Yp o4,Yp (Ye9 _ _)⟩,fun z4=>?_⟩⟩⟩⟩
     refine⟨⟨i+1,Ydj p B x,y1,y2,z3,z4⟩,⟨by simp only;omega,hstep.symm,YjO p B x ⟨o1,o2,o3,o4⟩⟩,by simp only;omega,?_⟩
     simp only[Ydj,if_pos hc]
     rw[YHi ((i:Int)+1) (by omega)]
     simp only[Ya]
     exact⟨by decide,by decide,by simp⟩
    ·have hnw:nl x.2.toNat<=512:=by have:= @Yk7 x.2.toNat (by omega);omega
     refine⟨⟨by omega,by omega⟩,(logF x.1 p).1,x.2.toNat,⟨Yp g1,Yp hnw⟩,fun _=>⟨B.ul,mulW (logF x.1 p).1 x.2.toNat,⟨Yp o1,Yp (Ye9 _ _)⟩,fun z3=>⟨⟨by omega,by omega⟩,(logF x.1 p).2,x.2.toNat,⟨Yp g2,Yp hnw⟩,fun _=>⟨B.uh,mulW (logF x.1 p).2 x.2.toNat,⟨Yp o2,Yp (Ye9 _ _)⟩,fun z4=>?_⟩⟩⟩⟩
     refine⟨⟨i+1,Ydj p B x,z3,z4,y3,y4⟩,⟨by simp only;omega,hstep.symm,YjO p B x ⟨o1,o2,o3,o4⟩⟩,by simp only;omega,?_⟩
     simp only[Ydj,if_neg hc]
     rw[YHi ((i:Int)+1) (by omega)]
     simp only[Ya]
     exact⟨by decide,by decide,by simp⟩
   ·obtain rfl:i=l.length:=by omega
    rw[YIq]at hB
    have h:k (.tup [.agg [natS y1 (Ych l p).ul,natS y2 (Ych l p).uh],.agg [natS y3 (Ych l p).dl,natS y4 (Ych l p).dh]]) []:=h y1 y2 y3 y4
    rw[Ych,<-hB]at h
    exact YE h (YC _ ⟨⟨trivial,trivial,trivial⟩,⟨trivial,trivial,trivial⟩,trivial⟩) (fun _=>by simp [natS,Yt,Ys])
 ·exact h.1.elim
end Go.Proofs.YtlfhmpkopcnheaaGreat
