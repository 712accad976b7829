/- Data that came in, as the executor's values: by shapes of types. -/
import Derived.Test.YtlhmikjnholpnaaGreatDoorMgX52c
import Derived.ProofKit
import Derived.Deep.Slices
import Derived.IntWalk
import Derived.Test.YtlhmikjnholpnaaGreatDoorProg
import Derived.Lib.BitFns
import Derived.Test.YtlhmikjnholpnaaGreatDoorBL
open And renaming intro->Yy
open Array renaming replicate->WS
open Bool renaming and_eq_false_iff->Vk,and_eq_true->YS,false_eq_true->XD,not_eq_true'->Z6,or_eq_true->Qt
open Int renaming add_zero->Z7,eq_ofNat_of_zero_le->Vl,mul_le_mul_of_nonneg_right->Xq,mul_nonneg->ZF,natCast_mul->JV,toNat->Xi,toNat_natCast->Yh
open Go.IntWalk renaming i64_in->Yg,u64_in->Z8,up_tdiv->Wt,up_tmod->Vm
open List renaming append_nil->Z9,cons_append->ZH,getD_eq_getElem?_getD->Kp,getElem?_cons_zero->Vo,getElem?_eq_getElem->Wu,getElem?_eq_some_iff->UG,length_append->JI,length_cons->Xr,length_nil->ZI,length_take->J8,map_cons->KD,mem_append->KE,mem_cons->K4,mem_cons_of_mem->KH,mem_cons_self->KF,mem_singleton->JD,nil_append->Vr,take_length->QB
open Nat renaming add_mul->YN,add_zero->Kw,beq->YL,ble->Y8,div_add_mod->KO,div_div_eq_div_mul->KY,div_eq_of_lt->Qu,div_le_self->QP,div_lt_iff_lt_mul->ZJ,eq_of_beq_eq_true->JE,eq_zero_or_pos->KU,gcd->YG,gcd_dvd_left->Wv,le_mul_of_pos_left->V6,le_of_ble_eq_true->KI,le_of_lt->JN,le_of_not_lt->ZK,le_refl->Yr,le_trans->Yj,lt_of_le_of_lt->Jn,lt_of_lt_of_le->Qf,lt_or_ge->YV,lt_trichotomy->We,mod_eq_of_lt->Qg,mod_lt->Kj,mul_add->Y9,mul_assoc->Yx,mul_comm->Yk,mul_le_mul->YP,mul_le_mul_left->Yz,mul_le_mul_right->Yu,mul_left_comm->Jd,mul_lt_mul_of_pos_right->ZL,mul_one->Kb,mul_pos->Y3,mul_right_comm->WW,mul_zero->Wf,pow_add->Yo,pow_le_pow_right->Kl,pow_mul->Yl,pow_pos->YD,pow_succ->YF,reduceAdd->Ya,reduceEqDiff->Yc,reduceLeDiff->Ye,succ_mul->XG,zero_add->KL,zero_le->JP,zero_mul->JX
open Option renaming bind_eq_some_iff->YC,map_eq_some_iff->YO
open Go.Proofs.Tryz renaming prog->Yb
set_option linter.all false
namespace Go.Vx
open Go.RowKit Go.WideShapes Go.ChangeShapes
inductive Sh where
 |int (k:IntKind)
 |bool
 |str
 |slice (l:List Sh)
def J3:List Sh->Nat
 | []=>0
 |_::l=>J3 l+1
mutual
def okS:Sh->SV->Prop
 | .int k,v=> ∃n,v= .int k n/\(Lit.int k n).wf=true
 | .bool,v=> ∃b,v= .bool b
 | .str,v=> ∃s:ByteArray,v= .val (.string s)/\s.size<=maxLen
 | .slice l,v=> ∃z n get,v= .vs false z n (J3 l) get/\n<=maxLen/\∀k,k<n->QH l (get k)
def QH:List Sh->List SV->Prop
 | [],[]=>True
 |s::l,v::r=>okS s v/\QH l r
 |_,_=>False
end
def Mw(P:Program)(fl:TypeId->Option (List Sh)):Nat->List Field->Option (List Sh)
 |_,[]=>some []
 |off,f::fs=>bif YL f.offset off then(fl f.type).bind fun l=>bif YL (J3 l) (P.cellsOf f.type)then(Mw P fl (off+P.cellsOf f.type) fs).map (l++·)else none else none
def PN:Nat->List Sh->List Sh
 |0,_=>[]
 |n+1,l=>l++PN n l
def U3(P:Program):Nat->TypeId->Option (List Sh)
 |0,_=>none
 |n+1,t=>match P.underlying t with
  |some (.int k)=>some [.int k]
  |some .bool=>some [.bool]
  |some .string=>some [.str]
  |some (.slice e)=>(U3 P n e).bind fun l=>bif YL (J3 l) (P.cellsOf e)then(bif Y8 1 (J3 l)then some [.slice l]else none)else none
  |some (.struct fs)=>(Mw P (U3 P n) 0 fs.toList).bind fun l=>bif YL (J3 l) (P.cellsOf t)then some l else none
  |some (.array m e)=>(U3 P n e).bind fun l=>bif YL (J3 l) (P.cellsOf e)then(bif YL (m*P.cellsOf e) (P.cellsOf t)then some (PN m l)else none)else none
  |_=>none
theorem Yax:∀(a b:List Sh),J3 (a++b)=J3 a+J3 b
 | [],b=>by simp [J3]
 |_::a,b=>by simp [J3,Yax a b];omega
theorem Pk:∀{a b:List Sh}{x y:List SV},QH a x->QH b y->QH (a++b) (x++y)
 | [],_,[],_,_,h=>h
 | [],_,_::_,_,h,_=>h.elim
 |_::_,_,[],_,h,_=>h.elim
 |_::_,_,_::_,_,h,h'=>⟨h.1,Pk h.2 h'⟩
def bd0(n:Nat):Bd:=⟨n,fun _=>True,fun _=>none,fun _ _ _=>trivial,fun _ _=>rfl⟩
def cx0(w:World):Cx0:={ toWorld:=w,F:=fun _=>True,I:=fun _=>none,up:=fun _ _ _=>trivial,ex:=fun _ _=>rfl}
section
variable {H:Type} {enc:TypeId×Value->H} {P:Program} {w:World} {B:Nat} {base:Nat} {spare:Nat->Bool} {held:Bool}
theorem XRepL.append:∀{l r:List SV}{vs us:List Value},XRepL w [] (bd0 B) l vs->XRepL w [] (bd0 B) r us->XRepL w [] (bd0 B) (l++r) (vs++us)
 |_,_,_,_,.nil,h=>h
 |_,_,_,_,.cons x v l vs h h',hr=> .cons _ _ _ _ h (XRepL.append h' hr)
theorem Oj{fl:TypeId->Option (List Sh)}{fuel:Nat}{cs:List Value}
 (ih:∀(t:TypeId) (cs:List Value) (x:DataW H×List MemPlace) (l:List Sh),fl t=some l->DataW.trod enc P w base spare held fuel t cs=some x->∃svs,XRepL w [] (bd0 B) svs cs/\QH l svs):
 ∀(fs:List Field)(off:Nat)(l:List Sh),Mw P fl off fs=some l->(∀f∈fs,∃x,DataW.trod enc P w base spare held fuel f.type ((cs.drop f.offset).take (P.cellsOf f.type))=some x)->off+J3 l=cs.length->
  ∃svs,XRepL w [] (bd0 B) svs (cs.drop off)/\QH l svs
 | [],off,l,h,_,hl=>by
   simp only[Mw,Option.some.injEq]at h
   subst h
   simp only[J3,Kw]at hl
   refine⟨[],?_,trivial⟩
   rw[List.drop_of_length_le (by omega)];exact .nil
 |f::fs,off,l,h,hall,hl=>by
  unfold Mw at h
  cases hb:YL f.offset off with
  |false=>rw[hb]at h;cases h
  |true=>
   rw[hb]at h
   have ho:=JE hb
   obtain⟨l1,h1,h⟩:=YC.1 h
   cases hb2:YL (J3 l1) (P.cellsOf f.type)with
   |false=>rw[hb2]at h;cases h
   |true=>
    rw[hb2]at h
    have hsz:=JE hb2
    obtain⟨l2,h2,rfl⟩:=YO.1 h
    obtain⟨x,hx⟩:=hall f KF
    obtain⟨s1,r1,o1⟩:=ih _ _ _ _ h1 hx
    obtain⟨s2,r2,o2⟩:=Oj ih fs _ _ h2 (fun g hg=>hall g (KH _ hg)) (by rw[Yax]at hl;omega)
    refine⟨s1++s2,?_,Pk o1 o2⟩
    have:=r1.append r2
    rw[ho]at this
    have e:(cs.drop off).take (P.cellsOf f.type)++cs.drop (off+P.cellsOf f.type)=cs.drop off:=by
     rw[<-List.drop_drop];exact List.take_append_drop _ _
    rwa [e]at this
theorem Og{fuel:Nat}{cs:List Value}{e:TypeId}{l:List Sh}(hs:J3 l=P.cellsOf e)
 (ih:∀(cs:List Value) (x:DataW H×List MemPlace),DataW.trod enc P w base spare held fuel e cs=some x->∃svs,XRepL w [] (bd0 B) svs cs/\QH l svs):
 ∀(k j:Nat),(∀i,j<=i->i<j+k->∃x,DataW.trod enc P w base spare held fuel e ((cs.drop (i*P.cellsOf e)).take (P.cellsOf e))=some x)->j*P.cellsOf e+k*P.cellsOf e=cs.length->
  ∃svs,XRepL w [] (bd0 B) svs (cs.drop (j*P.cellsOf e))/\QH (PN k l) svs
 |0,j,_,hl=>by
  refine⟨[],?_,trivial⟩
  rw[List.drop_of_length_le (by omega)];exact .nil
 |k+1,j,hall,hl=>by
  obtain⟨x,hx⟩:=hall j (Yr _) (by omega)
  obtain⟨s1,r1,o1⟩:=ih _ _ hx
  obtain⟨s2,r2,o2⟩:=Og hs ih k (j+1) (fun i h1 h2=>hall i (by omega) (by omega)) (by rw[XG]at hl⊢;omega)
  refine⟨s1++s2,?_,Pk o1 o2⟩
  have:=r1.append r2
  have e:(cs.drop (j*P.cellsOf e)).take (P.cellsOf e)++cs.drop ((j+1)*P.cellsOf e)=cs.drop (j*P.cellsOf e):=by
   rw[XG,<-List.drop_drop];exact List.take_append_drop _ _
  rwa [e]at this
theorem L5{α β:Type}{g:α->Option β}:∀{l:List α}{r:List β},l.mapM g=some r->∀x∈l,∃y,g x=some y
 | [],_,_,x,hx=>by cases hx
 |a::l,r,h,x,hx=>by
  rw[List.mapM_cons]at h
  cases ha:g a with
  |none=>rw[ha]at h;cases h
  |some y=>
   rw[ha]at h
   cases hl:l.mapM g with
   |none=>rw[hl]at h;cases h
   |some ys=>
    rcases K4.1 hx with rfl|hx
    ·exact⟨y,ha⟩
    ·exact L5 hl x hx
theorem T7{a:Addr}{n:Nat}{cs:List Value}(h:w.cells? base a n=some cs):cs.length=n/\∀j v,cs[j]? =some v->w.cell? (a.add j)=some v:=by
 unfold World.cells? at h
 split at h
 ·have key:∀(l:List Nat)(r:List Value),l.mapM (fun i=>w.cell? (a.add i))=some r->r.length=l.length/\∀(j:Nat)(v:Value),r[j]? =some v->∃i,l[j]? =some i/\w.cell? (a.add i)=some v:=by
   intro l
   induction l with
   |nil=>intro r h;simp at h;subst h;exact⟨rfl,fun j v h=>by simp at h⟩
   |cons i l ih=>
    intro r h
    rw[List.mapM_cons]at h
    cases hi:w.cell? (a.add i)with
    |none=>rw[hi]at h;cases h
    |some v0=>
     rw[hi]at h
     cases hl:l.mapM (fun i=>w.cell? (a.add i))with
     |none=>rw[hl]at h;cases h
     |some r'=>
      rw[hl]at h
      cases h
      obtain⟨h1,h2⟩:=ih r' hl
      refine⟨by simp [h1],fun j v hj=>?_⟩
      cases j with
      |zero=>simp only[Vo,Option.some.injEq]at hj;subst hj;exact⟨i,rfl,hi⟩
      |succ j=>obtain⟨i',k1,k2⟩:=h2 j v (by simpa using hj);exact⟨i',by simpa using k1,k2⟩
  obtain⟨h1,h2⟩:=key _ _ h
  refine⟨by simpa using h1,fun j v hj=>?_⟩
  obtain⟨i,k1,k2⟩:=h2 j v hj
  have:j<n:=by
   have:=(UG.1 hj).1
   simp at h1;omega
  rw[List.getElem?_range this]at k1
  cases k1;exact k2
 ·cases h
theorem EJ{a:Addr}{v:Value}(h:w.cell? a=some v):a.spot=none/\∃cs T fz,w.heap[a.block]? =some (.cells cs T fz)/\cs[a.off]? =some v:=by
 unfold World.cell? at h
 split at h
 ·split at h
  ·cases h
  ·rename_i hs
   exact⟨by cases hq:a.spot with|none=>rfl|some _=>rw[hq]at hs;simp at hs,_,_,_,‹_›,h⟩
 ·cases h
theorem Yrt:∀(n fuel:Nat)(t:TypeId)(cs:List Value)(x:DataW H×List MemPlace)(l:List Sh),U3 P n t=some l->DataW.trod enc P w base spare held fuel t cs=some x->∃svs,XRepL w [] (bd0 B) svs cs/\QH l svs:=by
 intro n
 induction n with
 |zero=>intro fuel t cs x l h;cases h
 |succ n ih=>
  intro fuel t cs x l h hx
  unfold U3 at h
  split at h
  ·rename_i k hu
   cases h
   obtain⟨m,rfl,_,hw⟩:=DataW.trod_int hu hx
   exact⟨[.int k m],.cons _ _ _ _ (.int _ _) .nil,⟨m,rfl,hw⟩,trivial⟩
  ·rename_i hu
   cases h
   obtain⟨b,rfl,_⟩:=DataW.trod_bool hu hx
   exact⟨[.bool b],.cons _ _ _ _ (.bool _) .nil,⟨b,rfl⟩,trivial⟩
  ·rename_i hu
   cases h
   obtain⟨s,rfl,_,hs⟩:=DataW.trod_string hu hx
   exact⟨[.val (.string s)],.cons _ _ _ _ (.val _) .nil,⟨s,rfl,hs⟩,trivial⟩
  ·rename_i e hu
   obtain⟨le,he,h⟩:=YC.1 h
   cases hb:YL (J3 le) (P.cellsOf e)with
   |false=>rw[hb]at h;cases h
   |true=>
   rw[hb]at h
   have hsz:=JE hb
   cases hb1:Y8 1 (J3 le)with
   |false=>rw[hb1]at h;cases h
   |true=>
   rw[hb1]at h
   have hpos:=KI hb1
   cases h
   rcases Deep.open_slice hu hx with⟨rfl,_⟩ | ⟨a,len,cap,m,fu,D,Pl,rfl,hba,hlc,hcm,hm,_,hel⟩
   ·exact⟨[.vs false true 0 (J3 le) fun _=>[]],.cons _ _ _ _ (.vs _ _ _ _ _ none 0 (fun _=>[]) rfl (Yr _) (fun _=>⟨rfl,rfl⟩) (fun k hk=>by omega) (fun k hk=>by omega)) .nil,
     ⟨true,0,_,rfl,JP _,fun k hk=>by omega⟩,trivial⟩
   ·have hlm:len<=m:=by rw[hm];split <;> omega
    have hel':∀k,∃vals svs,k<len->w.cells? base (a.add (k*P.cellsOf e)) (P.cellsOf e)=some vals/\XRepL w [] (bd0 B) svs vals/\QH le svs:=by
     intro k
     by_cases hk:k<len
     ·obtain⟨cs',h1,h2⟩:=hel k (by omega)
      obtain⟨svs,h3,h4⟩:=ih fu e cs' _ _ he h2
      exact⟨cs',svs,fun _=>⟨h1,h3,h4⟩⟩
     ·exact⟨[],[],fun h=>absurd h hk⟩
    obtain⟨vals,hv⟩:=Classical.axiomOfChoice hel'
    obtain⟨get,hg⟩:=Classical.axiomOfChoice hv
    refine⟨[.vs false false len (J3 le) get],.cons _ _ _ _ (.vs _ _ _ _ _ (some a) cap vals rfl hlc (fun h=>by cases h) (fun k hk=>?_) (fun k hk=>(hg k hk).2.1)) .nil,⟨false,len,get,rfl,by omega,fun k hk=>(hg k hk).2.2⟩,trivial⟩
    have h0:=(hg 0 (by omega)).1
    obtain⟨l0,c0⟩:=T7 h0
    have hsp:a.spot=none:=by
     cases hv0:vals 0 with
     |nil=>rw[hv0]at l0;simp at l0;omega
     |cons v r=>
      have:=(EJ (c0 0 v (by rw[hv0];rfl))).1
      simpa [Addr.add]using this
    obtain⟨lk,ck⟩:=T7 (hg k hk).1
    refine⟨a,rfl,hsp,⟨VH,trivial⟩,(fun h=>by cases h),by rw[lk,hsz],?_⟩
    cases hvk:vals k with
    |nil=>rw[hvk]at lk;simp at lk;omega
    |cons v r=>
     rw[hvk]at ck
     have e1:∀j,(a.add (k*P.cellsOf e)).add j=⟨a.block,a.off+k*P.cellsOf e+j,none⟩:=by
      intro j
      obtain⟨ab,ao,asp⟩:=a
      simp only at hsp
      subst hsp
      unfold Addr.add
      split <;> split <;> simp_all <;> omega
     obtain⟨_,cs2,T,fz,hb,hc⟩:=EJ (ck 0 v rfl)
     rw[e1]at hb
     refine⟨cs2,T,fz,hb,fun j u hj=>?_⟩
     obtain⟨_,cs3,T3,fz3,hb3,hc3⟩:=EJ (ck j u hj)
     rw[e1]at hb3 hc3
     simp only at hb hb3 hc3
     rw[hb]at hb3;cases hb3
     rw[hsz]
     exact hc3
  ·rename_i fs hu
   obtain⟨l0,hf,h⟩:=YC.1 h
   cases hb:YL (J3 l0) (P.cellsOf t)with
   |false=>rw[hb]at h;cases h
   |true=>
    rw[hb]at h
    cases h
    have hsz:=JE hb
    cases fuel with
    |zero=>simp [DataW.trod]at hx
    |succ fuel=>
     unfold DataW.trod at hx
     rw[hu]at hx
     simp only at hx
     split at hx
     ·rename_i hlen
      obtain⟨xs,hxs,_⟩:=YO.1 hx
      have:=Oj (cs:=cs) (B:=B) (fun t cs x l h h'=>ih fuel t cs x l h h') fs.toList 0 l hf (fun f hf=>L5 hxs f hf) (by omega)
      simpa using this
     ·cases hx
  ·rename_i m e hu
   obtain⟨l0,hf,h⟩:=YC.1 h
   cases hb:YL (J3 l0) (P.cellsOf e)with
   |false=>rw[hb]at h;cases h
   |true=>
    rw[hb]at h
    have hsz:=JE hb
    cases hb2:YL (m*P.cellsOf e) (P.cellsOf t)with
    |false=>rw[hb2]at h;cases h
    |true=>
     rw[hb2]at h
     cases h
     have hsz2:=JE hb2
     cases fuel with
     |zero=>simp [DataW.trod]at hx
     |succ fuel=>
      unfold DataW.trod at hx
      rw[hu]at hx
      simp only at hx
      split at hx
      ·rename_i hlen
       obtain⟨xs,hxs,_⟩:=YO.1 hx
       have:=Og (cs:=cs) (B:=B) hsz (fun cs x h'=>ih fuel e cs x l0 hf h') m 0 (fun i _ hi=>L5 hxs i (List.mem_range.2 (by omega))) (by omega)
       simpa using this
      ·cases hx
  ·cases h
structure PSh where
 agg:Bool
 l:List Sh
def okP(p:PSh)(v:SV):Prop:=
 match p.agg with
 |true=> ∃cs,v= .agg cs/\QH p.l cs
 |false=>QH p.l [v]
def H8:List PSh->List SV->Prop
 | [],[]=>True
 |p::l,v::r=>okP p v/\H8 l r
 |_,_=>False
def Px(P:Program)(t:TypeId):Option PSh:=
 (U3 P 16 t).bind fun l=>match P.underlying t with
   |some (.struct _)=>some ⟨true,l⟩
   |some (.array _ _)=>some ⟨true,l⟩
   |some (.int _) |some .bool|some .string|some (.slice _)=>some ⟨false,l⟩
   |_=>none
def M5(P:Program):List TypeId->Option (List PSh)
 | []=>some []
 |t::l=>(Px P t).bind fun p=>(M5 P l).map (p::·)
theorem Bu{n:Nat}{t:TypeId}{l:List Sh}(h:U3 P n t=some l)(hu:(∃k,P.underlying t=some (.int k))\/P.underlying t=some .bool\/P.underlying t=some .string\/∃e,P.underlying t=some (.slice e)):∃s,l=[s]:=by
 cases n with
 |zero=>cases h
 |succ n=>
  unfold U3 at h
  rcases hu with⟨k,hu⟩ |hu|hu| ⟨e,hu⟩ <;> rw[hu]at h <;> simp only at h
  ·cases h;exact⟨_,rfl⟩
  ·cases h;exact⟨_,rfl⟩
  ·cases h;exact⟨_,rfl⟩
  ·obtain⟨le,_,h⟩:=YC.1 h
   cases hb:YL (J3 le) (P.cellsOf e)with
   |false=>rw[hb]at h;cases h
   |true=>
    rw[hb]at h
    cases hb1:Y8 1 (J3 le)with
    |false=>rw[hb1]at h;cases h
    |true=>rw[hb1]at h;cases h;exact⟨_,rfl⟩
theorem YnQ{r:Reach}{b0:Nat}{t:TypeId}{v:Value}{d:DataW H}{ps:List MemPlace}{p:PSh}(hp:Px P t=some p)(hval:Value.okWide P w r b0 t v)(hd:DataW.Trod enc P w base spare held t v d ps):∃sv,XRep w [] (bd0 B) sv v/\okP p sv:=by
 obtain⟨fuel,hf⟩:=id hd
 unfold Px at hp
 obtain⟨l,hl,hp⟩:=YC.1 hp
 obtain⟨svs,h1,h2⟩:=Yrt (B:=B) 16 fuel t _ _ l hl hf
 have one:∀(c:Value),v.cells.toList=[c]->v=c->(∃s,l=[s])->∃sv,XRep w [] (bd0 B) sv v/\okP ⟨false,l⟩ sv:=by
  rintro c hc rfl ⟨s,rfl⟩
  rw[hc]at h1
  cases h1 with
  |cons sv _ svs' _ k1 k2=>
   cases k2
   exact⟨sv,k1,h2⟩
 split at hp
 ·rename_i fs hu
  cases hp
  unfold Value.okWide at hval
  rw[hu]at hval
  simp only at hval
  obtain⟨cs,rfl,_⟩:=hval
  refine⟨.agg svs,?_,svs,rfl,h2⟩
  have:=XRep.agg (w:=w) (bs:=[]) (B:=bd0 B) svs cs.toList h1
  simpa using this
 ·rename_i m e hu
  cases hp
  unfold Value.okWide at hval
  rw[hu]at hval
  simp only at hval
  obtain⟨cs,rfl,_⟩:=hval
  refine⟨.agg svs,?_,svs,rfl,h2⟩
  have:=XRep.agg (w:=w) (bs:=[]) (B:=bd0 B) svs cs.toList h1
  simpa using this
 ·rename_i k hu
  cases hp
  obtain⟨n,rfl⟩:=okWide_int hu hval
  exact one _ rfl rfl (Bu hl (.inl ⟨_,hu⟩))
 ·rename_i hu
  cases hp
  obtain⟨n,rfl⟩:=okWide_bool hu hval
  exact one _ rfl rfl (Bu hl (.inr (.inl hu)))
 ·rename_i hu
  cases hp
  obtain⟨n,rfl⟩:=okWide_string hu hval
  exact one _ rfl rfl (Bu hl (.inr (.inr (.inl hu))))
 ·rename_i e hu
  cases hp
  obtain⟨a,len,cap,rfl⟩:=okWide_slice hu hval
  exact one _ rfl rfl (Bu hl (.inr (.inr (.inr ⟨_,hu⟩))))
 ·cases hp
theorem Ybv{r:Reach}{b0:Nat}:∀{ts:List TypeId}{vs:List Value}{ds:List (DataW H)}{ps:List MemPlace}{shs:List PSh},M5 P ts=some shs->(∀(j:Nat) t v,ts[j]? =some t->vs[j]? =some v->Value.okWide P w r b0 t v)->
 DataW.TrodAll enc P w base spare held ts vs ds ps->∃svs,XRepL w [] (bd0 B) svs vs/\H8 shs svs
 | [],vs,ds,ps,shs,h,_,hd=>by
   simp only[M5,Option.some.injEq]at h
   subst h
   obtain⟨rfl,_,_⟩:=trodAll_nil hd
   exact⟨[],.nil,trivial⟩
 |t::ts,vs,ds,ps,shs,h,hv,hd=>by
  unfold M5 at h
  obtain⟨p,hp,h⟩:=YC.1 h
  obtain⟨shs',hs,rfl⟩:=YO.1 h
  obtain⟨v,vs',d,ds',p1,q1,rfl,rfl,rfl,h1,h2⟩:=trodAll_cons hd
  obtain⟨sv,k1,k2⟩:=YnQ (B:=B) hp (hv 0 t v rfl rfl) h1
  obtain⟨svs,k3,k4⟩:=Ybv hs (fun j t' v' ht hv'=>hv (j+1) t' v' (by simpa using ht) (by simpa using hv')) h2
  exact⟨sv::svs,.cons _ _ _ _ k1 k3,k2,k4⟩
end
def PM(P:Program)(ts:List TypeId):Bool:=ts.all fun t=>P.readableRec t&&Nat.blt t P.types.size
theorem Ybu{H:Type}{enc:TypeId×Value->H}{P:Program}(hl:laidOutB P=true){W W':World}(hb:Below W.heap.size W W'):
 ∀{ts:List TypeId}{vs:List Value}{ds:List (DataW H)}{ps:List MemPlace},PM P ts=true->DataW.TrodAll enc P W 0 (fun _=>true) true ts vs ds ps->DataW.TrodAll enc P W' 0 (fun b=>decide (b<W.heap.size)) true ts vs ds ps
 | [],vs,ds,ps,_,h=>by
   obtain⟨rfl,rfl,rfl⟩:=trodAll_nil h
   rfl
 |t::ts,vs,ds,ps,hr,h=>by
  obtain⟨v,vs',d,ds',p1,q1,rfl,rfl,rfl,h1,h2⟩:=trodAll_cons h
  simp only[PM,List.all_cons,YS]at hr
  have hlt:∀x∈p1,x.block<W.heap.size:=by obtain⟨m,hm⟩:=h1;exact DataW.trod_lt m _ _ _ hm
  refine⟨_,_,Below.trod hl hr.1.1 ?_ h1 hb hlt,Ybu hl hb hr.2 h2,rfl⟩
  have:=hr.1.2
  simpa using this
theorem YdE{H:Type}{enc:TypeId×Value->H}{P:Program}{W:World}{base:Nat}{spare:Nat->Bool}{held:Bool}:
 ∀{ts:List TypeId}{vs:List Value}{ds:List (DataW H)}{ps:List MemPlace},DataW.TrodAll enc P W base spare held ts vs ds ps->ds.length=ts.length
 | [],vs,ds,ps,h=>by obtain⟨_,rfl,_⟩:=trodAll_nil h;rfl
 |t::ts,vs,ds,ps,h=>by
  obtain⟨v,vs',d,ds',p1,q1,rfl,rfl,rfl,h1,h2⟩:=trodAll_cons h
  simp [YdE h2]
theorem Pm{s:Sh}{l:List Sh}{c:List SV}(h:QH (s::l) c):∃x r,c=x::r/\okS s x/\QH l r:=by
 cases c with
 |nil=>exact h.elim
 |cons x r=>exact⟨x,r,rfl,h.1,h.2⟩
theorem YnB{c:List SV}(h:QH [] c):c=[]:=by
 cases c with
 |nil=>rfl
 |cons x r=>exact h.elim
theorem Ybi{k:IntKind}{v:SV}(h:okS (.int k) v):∃n,v= .int k n/\(Lit.int k n).wf=true:=h
theorem Ybg{p:PSh}{l:List PSh}{c:List SV}(h:H8 (p::l) c):∃x r,c=x::r/\okP p x/\H8 l r:=by
 cases c with
 |nil=>exact h.elim
 |cons x r=>exact⟨x,r,rfl,h.1,h.2⟩
theorem Yny{c:List SV}(h:H8 [] c):c=[]:=by
 cases c with
 |nil=>rfl
 |cons x r=>exact h.elim
theorem Ynz{l:List Sh}{v:SV}(h:okP ⟨true,l⟩ v):∃cs,v= .agg cs/\QH l cs:=h
theorem YnA{s:Sh}{v:SV}(h:okP ⟨false,[s]⟩ v):okS s v:=h.1
def LJ(shs:List PSh):Ctr:={ alias:=false,of:=fun l=> .pre (H8 shs l) (.fin (.bool true) [])}
end Go.Vx
namespace Go.Vx
def OX(ho:HO)(n size j:Nat)(i:Int):Option Ef:=
 match ho with
 | .own _ sz m _=>Y5 (0<=i/\i<n/\sz=size/\m=n) (.elem j i.toNat 0 size)
 | .box _=>Y5 (0<=i/\i<n) (.ptr j (Kq i size))
 |_=>none
theorem Yoo{hp:List HO}{n size j:Nat}{k:IntKind}{i:Int}:W3 hp n size [.ptr j 0,.int k i]=OX (Yq hp j) n size j i:=rfl
def BJ(ho:HO)(n size j o:Nat)(i:Int):Option Ef:=
 match ho with
 | .box _=>Y5 (0<=i/\i<n) (.ptr j (o+Kq i size))
 |_=>none
theorem Yop{hp:List HO}{n size j:Nat}{k:IntKind}{i:Int}:W3 hp n size [.ptr j 1,.int k i]=BJ (Yq hp j) n size j 1 i:=rfl
theorem Yoq{hp:List HO}{n size j:Nat}{k:IntKind}{i:Int}:W3 hp n size [.ptr j 2,.int k i]=BJ (Yq hp j) n size j 2 i:=rfl
theorem YkI:Kq 0 1=0:=rfl
theorem YkJ:Kq 0 2=0:=rfl
theorem YkK:Kq 0 3=0:=rfl
theorem YkL:Kq 0 4=0:=rfl
theorem YkN:Kq 1 2=2:=rfl
theorem YkR:Kq 2 2=4:=rfl
theorem YkO:Kq 1 3=3:=rfl
theorem YkP:Kq 1 4=4:=rfl
def Rf(ho:HO)(size i off:Nat)(vals:List SV):Option Ef:=
 match ho with
 | .box cs=>some { pre:=off+size<=YH cs,val:= .junk,upd:= .set i (.box (JT cs off vals))}
 | .own z sz n _=>match off with
   |0=>some { pre:=size=n*sz/\0<sz,val:= .junk,upd:= .set i (.own z sz n (Jp sz vals))}
   |_=>none
 | .smap _=>none
 | .gone=>none
def Ydn(ho:HO)(size i k off sz:Nat)(vals:List SV):Option Ef:=
 match ho with
 | .own z size' n get=>some { pre:=k<n/\sz=size'/\off+size<=sz,val:= .junk,upd:= .set i (.own z size' n fun j=>if j=k then JT (get k) off vals else get j)}
 |_=>none
theorem Yoy{hp:List HO}{size i off:Nat}{vals:List SV}:storeAt hp size vals (.ptr i off)=Rf (Yq hp i) size i off vals:=rfl
theorem Yov{size i off:Nat}{cs vals:List SV}:Rf (.box cs) size i off vals=some { pre:=off+size<=YH cs,val:= .junk,upd:= .set i (.box (JT cs off vals))}:=rfl
theorem Yox{z:Bool}{sz n size i:Nat}{g:Nat->List SV}{vals:List SV}:Rf (.own z sz n g) size i 0 vals=some { pre:=size=n*sz/\0<sz,val:= .junk,upd:= .set i (.own z sz n (Jp sz vals))}:=rfl
theorem Yow{hp:List HO}{size i k off sz:Nat}{vals:List SV}:storeAt hp size vals (.elem i k off sz)=Ydn (Yq hp i) size i k off sz vals:=rfl
def Tv(nx size bytes:Nat)(r:Option (Nat×(Nat->List SV))):Option Ef:=
 r.bind fun(m,gx)=>QU (.own (decide (m=0)) size m gx) (.own (nx) 0 m size) (Ka m bytes/\∀k,k<m->YH (gx k)=size/\Jk (gx k))
def Tw(ho:HO)(i n sz size bytes:Nat)(r:Option (Nat×(Nat->List SV))):Option Ef:=
 match ho with
 | .own z s' _ get=>r.map fun(m,gx)=>
     {pre:=sz=size/\s'=size/\Ka (n+m) bytes/\∀k,k<m->YH (gx k)=size/\Jk (gx k),val:= .own i 0 (n+m) size,
      upd:= .app i (.own (z&&decide (m=0)) size (n+m) fun k=>if k<n then YZ i (get k)else YZ i (gx (k-n)))}
 |_=>none
theorem Yob{nx:Nat}{hp:List HO}{size bytes:Nat}{x:SV}:W2 nx hp size bytes [.nil,x]=Tv nx size bytes (Xo hp x):=rfl
theorem Yoc{nx:Nat}{hp:List HO}{size bytes i n sz:Nat}{x:SV}:W2 nx hp size bytes [.own i 0 n sz,x]=Tw (Yq hp i) i n sz size bytes (Xo hp x):=rfl
def Tu(nx size bytes:Nat)(ry r:Option (Nat×(Nat->List SV))):Option Ef:=
 ry.bind fun(n,gy)=>r.bind fun(m,gx)=>QU (.own false size (n+m) fun k=>if k<n then gy k else gx (k-n)) (.own (nx) 0 (n+m) size)
  (0<m/\Ka (n+m) bytes/\(∀k,k<n->YH (gy k)=size/\Jk (gy k))/\∀k,k<m->YH (gx k)=size/\Jk (gx k))
theorem Yoa{nx:Nat}{hp:List HO}{size bytes:Nat}{y x:SV}:W2 nx hp size bytes [.cut y,x]=Tu nx size bytes (Xo hp y) (Xo hp x):=rfl
def Yde(ho:HO)(n size j:Nat):Option Ef:=
 match ho with
 | .own _ sz m _=>Y5 (sz=size/\m=n) (.own j 0 n size)
 |_=>none
theorem You{hp:List HO}{n size j:Nat}:GY hp n size false false [.ptr j 0]=Yde (Yq hp j) n size j:=rfl
theorem Yot{n:Nat}{get:Nat->List SV}:Pt 0 n get=some (True,Wk n 0 get):=rfl
theorem Yoi{get:Nat->List SV}:Wk 1 0 get=get 0++[]:=rfl
theorem Yok{get:Nat->List SV}:Wk 2 0 get=get 0++(get 1++[]):=rfl
theorem Yol{get:Nat->List SV}:Wk 3 0 get=get 0++(get 1++(get 2++[])):=rfl
theorem Yom{get:Nat->List SV}:Wk 4 0 get=get 0++(get 1++(get 2++(get 3++[]))):=rfl
theorem Yod{cs:List SV}:Jp 1 cs 0=YR 1 cs:=rfl
theorem Yoe{cs:List SV}:Jp 1 cs 1=YR 1 (YK 1 cs):=rfl
theorem Yof{cs:List SV}:Jp 1 cs 2=YR 1 (YK 2 cs):=rfl
theorem Yog{cs:List SV}:Jp 1 cs 3=YR 1 (YK 3 cs):=rfl
theorem q_fo(b:Bool):(false|| b)=b:=rfl
theorem q_to(b:Bool):(true|| b)=true:=rfl
def MH(s:S)(i:Nat)(keep:List Nat)(ghosts:List HO)(Ku:List (Nat×SV))(blocks:List (Nat×HO)):S:=
 {fr:=Nn (keepG keep s.fr) Ku,saved:=Nm i s.saved,hp:=No (s.hp++ghosts) blocks}
theorem Loop.keepP{r:List It->S->Prop}{body:VC}{K:List It}{s:S}(i:Nat)(keep:List Nat)(σ:Type)(Ku:σ->List (Nat×SV))(blocks:σ->List (Nat×HO))(ghosts:List HO)(inv:σ->Prop)(μ:σ->Nat)
 (h0:∃x,inv x/\leS s (MH s i keep ghosts (Ku x) (blocks x)))
 (h:∀x,inv x->r (.code body:: .inLoop (fun s'=> ∃y,inv y/\μ y<μ x/\leS s' (MH s i keep ghosts (Ku y) (blocks y)))::K) (MH s i keep ghosts (Ku x) (blocks x))):Loop r body K s leP:=
 ⟨σ,fun x=>MH s i keep ghosts (Ku x) (blocks x),inv,μ,leS,fun _ _ h=>⟨[],trivial,[],trivial,h⟩,h0,h⟩
theorem Loop.keepF{r:List It->S->Prop}{body:VC}{K:List It}{s:S}(keep:List Nat)(σ:Type)(Ku:σ->List (Nat×SV))(blocks:σ->List (Nat×HO))(ghosts:List HO)(inv:σ->Prop)(μ:σ->Nat)
 (h0:∃x,inv x/\leF s (Wl s keep ghosts (Ku x) (blocks x)))
 (h:∀x,inv x->r (.code body:: .inLoop (fun s'=> ∃y,inv y/\μ y<μ x/\leF s' (Wl s keep ghosts (Ku y) (blocks y)))::K) (Wl s keep ghosts (Ku x) (blocks x))):Loop r body K s leP:=
 ⟨σ,fun x=>Wl s keep ghosts (Ku x) (blocks x),inv,μ,leF,fun _ _ h=>⟨[],trivial,h⟩,h0,h⟩
theorem Loop.keepG{r:List It->S->Prop}{body:VC}{K:List It}{s:S}(keep:List Nat)(σ:Type)(Ku:σ->List (Nat×SV))(blocks:σ->List (Nat×HO))(ghosts:List HO)(inv:σ->Prop)(μ:σ->Nat)
 (h0:∃x,inv x/\leP s (Wl s keep ghosts (Ku x) (blocks x)))
 (h:∀x,inv x->r (.code body:: .inLoop (fun s'=> ∃y,inv y/\μ y<μ x/\leP s' (Wl s keep ghosts (Ku y) (blocks y)))::K) (Wl s keep ghosts (Ku x) (blocks x))):Loop r body K s leP:=
 ⟨σ,fun x=>Wl s keep ghosts (Ku x) (blocks x),inv,μ,leP,fun _ _ h=>h,h0,h⟩
open Go.RowKit in
theorem Il{P:Program}{E:Env}{f:FuncId}{fn:Func}{vf:VF}(hf:P.funcs[f]? =some fn)(hvf:Yn P fn=some vf)(hE:YE P E)(n:Nat)(c:Ctr)
 (h:∀(args:List SV) (k:SV->List HO->Prop),CSat (c.of args) k->∃args',leL 0 0 args args'/\run E (fun r hp=>k r hp/\Y0 r/\QV hp) vf.res n [.code vf.body] { fr:=XM vf.ntmps args',saved:=[],hp:=[]}):c.ok P f:=by
 intro args vs z k hsat hx hc
 obtain⟨args',hle,hrun⟩:=h args k hc
 have hk0:XZ z.toWorld [] z.bd z.toWorld [] (z.wI z.I (Ql z)).bd:=⟨rfl,fun _ _ h=>h,fun b hf cs T fz ho=>⟨ho,VH,hf.2,z.ex b hf.2⟩⟩
 have hx2:RepL z.toWorld [] (z.wI z.I (Ql z)).bd args' vs:=VM DI _ _ hle (XRepL.keepG hk0 hx).rep
 obtain⟨body,hbody,hcode,hres,hnt⟩:=FA hvf
 refine F8 (n:=0) (HX (b:=vf.body) hf hbody ?_)
 refine P0 (w0:=z) (fn0:=fn) (R0:=fun e w'=> ∃r hs v bs,∃J,∃hJ:Ext z J,k r hs/\e= .returned v/\Rep w' bs (z.wI J hJ).bd r v/\Hp w' bs (z.wI J hJ).bd hs/\BelowI z.bd z.toWorld w'/\(c.alias=false->Y0 r/\QV hs)) hE hsat.2 hres (by
  rintro r hp v w' bs D hD ⟨hk,hfr⟩ hr hH hb
  exact⟨r,hp,v,bs,D,hD,hk,rfl,hr,hH,hb,fun ha=>hfr⟩) n _ _ hrun [] [] none _
  {tmps:=vs.toArray++WS (fn.ntmps-vs.toArray.size) undef,defers:=[]} z.toWorld (.code body vf.body [] [] [] none _ hcode .nil) (D:=z.I) (hD:=Ql z) ?_
 refine⟨[],?_,.nil,hp0 (hJ:=Ql z) hsat.1,BelowI.refl _ _,⟨fun _ h=>(by cases h),.nil,[[]],rfl,by simp,fun _ h=>(by simp at h)⟩⟩
 have:=Ha (n:=fn.ntmps) hx2
 rw[hnt]
 simpa using this
@[reducible] def Zm (d a:Nat):VOp:=u1 d .mov [.tm a]
@[reducible] def Zi (d:Nat) (k:Int):VOp:=u1 d .mov [.cn (.int .i64 k)]
@[reducible] def Ze (d i a:Nat):VOp:=u1 d (.ext i) [.tm a]
@[reducible] def Zt (d s a:Nat):VOp:=u1 d (.load true s) [.tm a]
@[reducible] def Zf (d s a:Nat):VOp:=u1 d (.load false s) [.tm a]
@[reducible] def Zs (s a b:Nat):VOp:=u0 (.store s) [.tm a,.tm b]
@[reducible] def Za (d f a:Nat):VOp:=u1 d (.fieldAddr f) [.tm a]
@[reducible] def Zc (d f a:Nat):VOp:=u1 d (.call f) [.tm a]
@[reducible] def Zd (d f a b:Nat):VOp:=u1 d (.call f) [.tm a,.tm b]
@[reducible] def Zx (d s a b:Nat):VOp:=u1 d (.idxAddr s) [.tm a,.tm b]
@[reducible] def Zp (d a:Nat) (k:Int):VOp:=u1 d (.ari .add) [.tm a,.cn (.int .i64 k)]
@[reducible] def Zq (d:Nat) (c:Cmp) (a:Nat) (k:Int):VOp:=u1 d (.cmp c) [.tm a,.cn (.int .i64 k)]
@[reducible] def Zr (d:Nat) (c:Cmp) (a b:Nat):VOp:=u1 d (.cmp c) [.tm a,.tm b]
@[reducible] def Zl (d a:Nat):VOp:=u1 d .len [.tm a]
@[reducible] def Zn (d:Nat):VOp:=u1 d (.alloc [.int .i64 0,.int .i64 0]) []
@[reducible] def Zo (d:Nat) (o:Ari) (a b:Nat):VOp:=u1 d (.ari o) [.tm a,.tm b]
@[reducible] def Zg (d g:Nat) (t:Bool) (a:Nat):VOp:=u2 d g t .mov [.tm a]
@[reducible] def Zh (d g:Nat) (t:Bool) (s a:Nat):VOp:=u2 d g t (.load false s) [.tm a]
@[reducible] def Zj (d g:Nat) (t:Bool) (f a:Nat):VOp:=u2 d g t (.fieldAddr f) [.tm a]
@[reducible] def Zu (d a:Nat):DOp:=w1 d .mov [.tm a]
@[reducible] def Zv (d s a:Nat):DOp:=w1 d (.load false s) [.tm a]
@[reducible] def Zw (d s a:Nat):DOp:=w1 d (.load true s) [.tm a]
@[reducible] def Zy (d f a:Nat):DOp:=w1 d (.fieldAddr f) [.tm a]
@[reducible] def Zz (d f a b:Nat):DOp:=w1 d (.call f) [.tm a,.tm b]
@[reducible] def ZX (d s a b:Nat):DOp:=w1 d (.idxAddr s) [.tm a,.tm b]
@[reducible] def ZS (s a b:Nat):DOp:=w0 (.store s) [.tm a,.tm b]
@[reducible] def ZE (d i a:Nat):DOp:=w1 d (.ext i) [.tm a]
@[reducible] def ZR (l:List VOp) (c:VC):VC:= .seq (.region l) c
@[reducible] def ZC (a:Nat) (c d:VC):VC:= .cond (.tm a) c d
attribute [go_sem] Zm Zi Ze Zt Zf Zs Za Zc Zd Zx Zp Zq Zr Zl Zn Zo Zg Zh Zj Zu Zv Zw Zy Zz ZX ZS ZE ZR ZC
attribute [go_sem] WO Z0 Ap WN Nk Ao PE Ar Aq YpB YpC YpD YpE Ype psd Bh D7 DX Bj Bc Uo Ypt YpM VO.bad u0 u1 u2 w0 w1 EF ctM ctI WA ZV Bw Wz My Le By Bx D8 Ych Ypj Ypw Yck Ycl YpL Ypx YpT YpU r_y YpH Ycn YpJ Ycp YpK Ycm YpG YpF Ypa Ypb YpR YpS YpQ YqA YqB VO.isAppend UU Ma MZ L7 Rp Yo4 Yo5 Yo6 Yo8 Yo7 r_dq Yo9 YoV YoU YoX YoW Yo2 Yo3 YoZ Yo1 Yo0 YoY Ypy Ypc Ypd YoP YoQ Ypu r_g r_gq r_gc Ypf Ypg Yph Ypi YoR YoS Ypn Ypz Ypq YoN r_ex Ypo YpA Ypk Ypr Yps Ycj Ypp YpO YpP YpI YpN Ycg YoT YoO Yci Ypl Ypm Yco Ypv Yqy Yqz s_xt s_xc XM F3 callee ED eff Wh Kn Km S.put S.upd Gz Ho J7 Cf Yam Xw Li Bf Bi Bg DW D3 Bb Ba Be DY DZ Qh GX Va Mp DV DS ari DU Mr eSh Mt HT HS kEq Y5 DG VO.quiet ZB AE Gy Qc Qd cond QU Mq ZM Yi J6 D5 D4 VE X4 Yq Kz YK YR WH YH BX shift XR Jl viewN Qs Qr GP MQ D6 YkH YkM YkQ YkS D9 HN JT Jk one Bk F5 Yri C8 Yrh YhW Ms Xo Fj ZO Jp YZ Nm Xb Z1 Ko WP Cp Co NQ NP wrC junkAt Nn No MG Wl keepG QX Mb HA Ee blk Fv VX AL.ho yld Gs H0 X8 Us HZ MP LE OX BJ Yop Yoq Yoo YkI YkJ YkK YkL YkN YkR YkO YkP Ydn Yoy Yov Yox Yow Tv Tw Yob Yoc Tu Yoa Bl Yde You noOwn QG Yot Yoi Yok Yol Yom Yod Yoe Yof Yog MH q_fo q_to
theorem O8(α:Prop):(α->True)=True:=implies_true α
theorem O9(α:Type):(α->True)=True:=implies_true α
theorem fc_t{b:Prop}(α:Type)[Nonempty α]:(α->b)↔b:=forall_const α
theorem fc_p{b:Prop}(α:Prop)[Nonempty α]:(α->b)↔b:=forall_const α
theorem ne_t{α:Type}(a b:α):(a≠b)=¬(a=b):=rfl
def Yf:=Yy @imp_self (Yy @true_and (Yy @and_true (Yy @O8 (Yy @O9 (Yy @YlR (Yy @BQ (Yy @BR (Yy @YlZ (Yy @BS (Yy @YlV (Yy @Yl0 (Yy @YlP (Yy @YlO (Yy @LL (Yy @YlN (Yy @YlI (Yy @YlK (Yy @YlJ (Yy @LO (Yy @Yaq (Yy @Yma (Yy @Yl5 (Yy @Yl4 (Yy @LP (Yy @YlX (Yy @Yl3 (Yy @Ymb (Yy @YlW (Yy @Yl1 (Yy @Yl2 (Yy @YlM (Yy @YlQ (Yy @YlS (Yy @YiE (Yy @Yiz (Yy @YiO (Yy @YiG (Yy @YiF (Yy @YiP (Yy @YiQ (Yy @Yiy (Yy @YiN (Yy @YiJ (Yy @YiI (Yy @YiA (Yy @YiB (Yy @YiC (Yy @YiH (Yy @YiL (Yy @YiK (Yy @YiD (Yy @YiM (Yy @Yl8 (Yy @Yl7 (Yy @YlY (Yy @Yl9 (Yy @YlL (Yy @Yix (Yy @Yiw (Yy @Ymd (@Yme)))))))))))))))))))))))))))))))))))))))))))))))))))))))))))))
def Yd:=Yy @true_imp_iff (Yy @fc_p (Yy @O8 (Yy @O9 (Yy @fc_t (Yy @ne_t (Yy @true_and (Yy @and_true (Yy @imp_self (Yy @decide_eq_true_eq (Yy @decide_eq_false_iff_not (Yy @Bool.not_not (Yy @false_imp_iff (Yy @Z6 (Yy @Bool.not_eq_false' (Yy @XD (Yy @and_self (@not_false_eq_true)))))))))))))))))
attribute [go_sem] Option.bind Option.map Z9 YL ZH Vr List.append_eq KD List.map_nil ite_self
end Go.Vx
namespace Go.Proofs.YtlhmikjnholpnaaGreatDoor
open Go Go.Vx
theorem NO{i n:Nat}(h:i<n)(hn:n<=9223372036854775807):IntKind.i64.wrap ((i:Int)+1)=((i+1:Nat):Int):=by
 rw[Yg _ (by omega)];simp
theorem KK{α:Type}[Inhabited α]{l:List α}{i:Nat}(h:i<l.length):l.getD i default∈l:=by
 rw[Kp,Wu h];exact List.getElem_mem h
theorem YaJ{α:Type}[Inhabited α]{l:List α}{x:α}(h:x∈l):∃i,i<l.length/\l.getD i default=x:=by
 obtain⟨j,hj,rfl⟩:=List.getElem_of_mem h
 exact⟨j,hj,by rw[Kp,Wu hj];rfl⟩
theorem Ydv{α:Type}[Inhabited α]{l:List α}{f:α->Bool}{i:Nat}(h:i<l.length):(l.take (i+1)).all f=((l.take i).all f&&f (l.getD i default)):=by
 rw[List.take_add_one,List.all_append,Kp,Wu h]
 simp
theorem Ydw{α:Type}[Inhabited α]{l:List α}{f:α->Bool}{i:Nat}(h:i<l.length):(l.take (i+1)).any f=((l.take i).any f|| f (l.getD i default)):=by
 rw[List.take_add_one,List.any_append,Kp,Wu h]
 simp
theorem Hk{α:Type}[Inhabited α]{l:List α}{i:Nat}(h:i<l.length):l.take (i+1)=l.take i++[l.getD i default]:=by
 rw[List.take_add_one,Kp,Wu h];rfl
theorem W5{α β:Type}[Inhabited α]{l:List α}{f:β->α->β}{b:β}{i:Nat}(h:i<l.length):(l.take (i+1)).foldl f b=f ((l.take i).foldl f b) (l.getD i default):=by
 rw[Hk h,List.foldl_append]
 rfl
def Wn(f:Nat->Bool):Nat->Nat->Nat
 |0,k=>k
 |n+1,k=>if f k then k else Wn f n (k+1)
theorem BU{f:Nat->Bool}:∀(n k:Nat),k<=Wn f n k/\Wn f n k<=n+k/\(∀j,k<=j->j<Wn f n k->f j=false)/\(Wn f n k<n+k->f (Wn f n k)=true)
 |0,k=>⟨Yr _,by simp [Wn],fun j h1 h2=>by simp [Wn]at h2;omega,fun h=>by simp [Wn]at h⟩
 |n+1,k=>by
  unfold Wn
  split
  ·rename_i h;exact⟨Yr _,by omega,fun j h1 h2=>by omega,fun _=>h⟩
  ·rename_i h
   obtain⟨h1,h2,h3,h4⟩:=BU (f:=f) n (k+1)
   refine⟨by omega,by omega,fun j a b=>?_,fun hlt=>h4 (by omega)⟩
   rcases YV k j with h'|h'
   ·exact h3 j h' b
   ·obtain rfl:j=k:=by omega
    simpa using h
theorem Yat{f:Nat->Bool}{n m:Nat}(h1:∀j,j<m->f j=false)(h2:m<=n)(h3:m<n->f m=true):Wn f n 0=m:=by
 obtain⟨a,b,c,d⟩:=BU (f:=f) n 0
 rcases We (Wn f n 0) m with h|h|h
 ·have:=h1 _ h
  rw[d (by omega)]at this;cases this
 ·exact h
 ·have:=c m (JP _) h
  rw[h3 (by omega)]at this;cases this
theorem YmU{a b c d:Int}(h1:a<=c)(h2:b<=d)(ha:0<=a)(hd:0<=d):a*b<=c*d:=
 Int.le_trans (Int.mul_le_mul_of_nonneg_left h2 ha) (Xq h1 hd)
def noC:CRes:= .pre False (.fin .junk [])
def trueC:Ctr:={ alias:=false,of:=fun a=>match a with
 | []=> .fin (.bool true) []
 |_=>noC}
def lsP{α:Type}[Inhabited α](size:Nat)(e:α->List SV)(n sz:Nat)(get:Nat->List SV)(l:List α):Prop:=sz=size/\n=l.length/\∀k,k<n->Qz (get k) (e (l.getD k default))
def Uj(x:Int):List SV:=[.int .i64 x]
def YA(x:Int×Int):List SV:=[.int .i64 x.1,.int .i64 x.2]
def dig(a i:Nat):Nat:=a/4294967296^i%4294967296
theorem Ke(i:Nat):0<4294967296^i:=YD (by decide)
theorem Jb(i:Nat):4294967296^(i+1)=4294967296^i*4294967296:=YF ..
theorem Qk(a i:Nat):dig a i<4294967296:=Kj _ (by decide)
theorem Xm(a i:Nat):a%4294967296^(i+1)=a%4294967296^i+4294967296^i*dig a i:=Nat.mod_pow_succ
theorem EU(a:Nat):dig a 0=a%4294967296:=by simp [dig]
theorem Mk(i:Nat):dig 0 i=0:=by simp [dig]
theorem Iz(a i:Nat):dig a (i+1)=dig (a/4294967296) i:=by
 unfold dig
 rw[KY,Jb,Yk]
theorem X6{a n i:Nat}(h:a<4294967296^n)(hi:n<=i):dig a i=0:=by
 unfold dig
 rw[Qu]
 exact Qf h (Kl (by decide) hi)
theorem MY{a b:Nat}:∀{n:Nat},(∀i,i<n->dig a i=dig b i)->a%4294967296^n=b%4294967296^n
 |0,_=>by simp [Nat.mod_one]
 |n+1,h=>by rw[Xm,Xm,MY fun i hi=>h i (by omega),h n (by omega)]
theorem EV{a b n:Nat}(ha:a<4294967296^n)(hb:b<4294967296^n)(h:∀i,i<n->dig a i=dig b i):a=b:=by
 have:=MY h
 rwa [Qg ha,Qg hb]at this
theorem VB{a j k:Nat}(h:k<j):dig (a%4294967296^j) k=dig a k:=by
 unfold dig
 obtain⟨m,rfl⟩:∃m,j=k+(m+1):=⟨j-k-1,by omega⟩
 rw[Yo,Nat.mod_mul_right_div_self,YF,Yk,Nat.mod_mul_right_mod]
def nlF:Nat->Nat->Nat
 |0,_=>0
 |f+1,a=>if a=0 then 0 else nlF f (a/4294967296)+1
def nl(a:Nat):Nat:=nlF a a
theorem M2:∀(f a n:Nat),a<=f->(nlF f a<=n↔a<4294967296^n)
 |0,a,n,h=>by
  have:=Ke n
  simp only[nlF];omega
 |f+1,a,n,h=>by
  simp only[nlF]
  split
  ·rename_i h0;have:=Ke n;subst h0;simp;omega
  ·cases n with
   |zero=>simp;omega
   |succ n=>
    have:=M2 f (a/4294967296) n (by omega)
    rw[Jb,<-ZJ (by decide),<-this]
    omega
theorem nl_le{a n:Nat}:nl a<=n↔a<4294967296^n:=M2 a a n (Yr _)
theorem QF(a:Nat):a<4294967296^nl a:=nl_le.1 (Yr _)
theorem XL:nl 0=0:=rfl
theorem nl_pos{a:Nat}:0<nl a↔0<a:=by
 have:= @nl_le a 0
 simp at this;omega
theorem nl_eq0{a:Nat}:nl a=0↔a=0:=by
 have:= @nl_le a 0
 simp at this;omega
theorem Pc{a:Nat}(h:a≠0):dig a (nl a-1)≠0:=by
 obtain⟨n,hn⟩:∃n,nl a=n+1:=⟨nl a-1,by have:=nl_eq0 (a:=a);omega⟩
 rw[hn,Nat.add_sub_cancel]
 have h1:=QF a
 have h2:¬a<4294967296^n:=fun hh=>by have:=nl_le.2 hh;omega
 rw[hn,Jb]at h1
 unfold dig
 have h3:a/4294967296^n<4294967296:=by rw[ZJ (Ke n),Yk];exact h1
 rw[Qg h3]
 have:=Nat.div_pos (ZK h2) (Ke n)
 omega
theorem G9{a b:Nat}(h:a<=b):nl a<=nl b:=nl_le.2 (Jn h (QF b))
theorem WJ{a n:Nat}(h:a<4294967296^n)(ht:n=0\/dig a (n-1)≠0):nl a=n:=by
 have h1:=nl_le.2 h
 rcases ht with rfl|ht
 ·omega
 ·rcases YV (nl a) n with h2|h2
  ·exact absurd (X6 (QF a) (by omega:nl a<=n-1)) ht
  ·omega
theorem W9{a n:Nat}(h:a<4294967296^(n+1))(h0:dig a n=0):a<4294967296^n:=by
 have:=Xm a n
 rw[h0,Qg h]at this
 rw[this]
 simpa using Kj a (Ke n)
def cy(a b i:Nat):Nat:=(a%4294967296^i+b%4294967296^i)/4294967296^i
theorem Ir(a b:Nat):cy a b 0=0:=by simp [cy,Nat.mod_one]
theorem DJ(a b i:Nat):cy a b i<=1:=by
 unfold cy
 have h1:=Kj a (Ke i)
 have h2:=Kj b (Ke i)
 have:(a%4294967296^i+b%4294967296^i)/4294967296^i<2:=by
  rw[ZJ (Ke i)];omega
 omega
theorem EX(a b i:Nat):(a+b)/4294967296^i=a/4294967296^i+b/4294967296^i+cy a b i:=by
 unfold cy
 have h1:=KO a (4294967296^i)
 have h2:=KO b (4294967296^i)
 generalize hP:4294967296^i=P at*
 have hp:0<P:=hP▸Ke i
 have e:a+b=P*(a/P+b/P)+(a%P+b%P):=by rw[Y9];omega
 conv=>lhs;rw[e]
 rw[Nat.mul_add_div hp]
theorem Dk(a b i:Nat):(dig a i+dig b i+cy a b i)%4294967296=dig (a+b) i:=by
 unfold dig
 rw[EX]
 omega
theorem Ea(a b i:Nat):(dig a i+dig b i+cy a b i)/4294967296=cy a b (i+1):=by
 have e:cy a b (i+1)=(a%4294967296^(i+1)+b%4294967296^(i+1))/4294967296^(i+1):=rfl
 rw[e,Xm,Xm,Jb,<-KY]
 unfold cy
 generalize hP:4294967296^i=P at*
 have hp:0<P:=hP▸Ke i
 have e:a%P+P*dig a i+(b%P+P*dig b i)=P*(dig a i+dig b i)+(a%P+b%P):=by rw[Y9];omega
 rw[e,Nat.mul_add_div hp]
def J5(V j x:Nat):Nat:=V-dig V j*4294967296^j+x*4294967296^j
theorem Uz(V j:Nat):V=4294967296^j*(4294967296*(V/4294967296^(j+1))+dig V j)+V%4294967296^j:=by
 have h1:=KO V (4294967296^j)
 have h2:=KO (V/4294967296^j) 4294967296
 rw[KY,<-Jb]at h2
 unfold dig
 rw[h2,h1]
theorem Ux(V j x:Nat):J5 V j x=4294967296^j*(4294967296*(V/4294967296^(j+1))+x)+V%4294967296^j:=by
 have:=Uz V j
 unfold J5
 generalize dig V j=d at*
 generalize V/4294967296^(j+1)=h at*
 generalize V%4294967296^j=l at*
 generalize 4294967296^j=P at*
 rw[Y9]at this⊢
 rw[Yk d,Yk x]
 omega
theorem Ny(V j x:Nat):J5 V j x+dig V j*4294967296^j=V+x*4294967296^j:=by
 have:=Uz V j
 rw[Ux]
 generalize dig V j=d at*
 generalize V/4294967296^(j+1)=h at*
 generalize V%4294967296^j=l at*
 generalize 4294967296^j=P at*
 rw[Y9]at this⊢
 rw[Yk d,Yk x]
 omega
theorem Nz{V j x:Nat}(hx:x<4294967296):J5 V j x/4294967296^(j+1)=V/4294967296^(j+1):=by
 have hl:=Kj V (Ke j)
 have e:∀Y:Nat,Y/4294967296^(j+1)=Y/4294967296^j/4294967296:=fun Y=>by rw[Jb,KY]
 rw[Ux,e (4294967296^j*(4294967296*(V/4294967296^(j+1))+x)+V%4294967296^j),Nat.mul_add_div (Ke j),Qu hl]
 generalize V/4294967296^(j+1)=h
 omega
theorem Mj{V j x:Nat}(hx:x<4294967296)(k:Nat):dig (J5 V j x) k=if k=j then x else dig V k:=by
 have hl:=Kj V (Ke j)
 rcases We k j with h|h|h
 ·rw[if_neg (by omega),<-VB h,<-VB (a:=V) h,Ux,Nat.mul_add_mod,Nat.mod_mod]
 ·subst h
  rw[if_pos rfl,Ux]
  unfold dig
  rw[Nat.mul_add_div (Ke k),Qu hl]
  omega
 ·rw[if_neg (by omega)]
  obtain⟨m,rfl⟩:∃m,k=(j+1)+m:=⟨k-(j+1),by omega⟩
  unfold dig
  have e:J5 V j x/4294967296^(j+1)=V/4294967296^(j+1):=by
   exact Nz hx
  rw[Yo,<-KY,<-KY,e]
theorem P6{V j x n:Nat}(hV:V<4294967296^n)(hx:x<4294967296)(hj:j<n):J5 V j x<4294967296^n:=by
 obtain⟨m,rfl⟩:∃m,n=m+(j+1):=⟨n-(j+1),by omega⟩
 rw[Yo,<-ZJ (Ke _)]at hV⊢
 rw[Nz hx]
 exact hV
theorem YaR{a b i k V c:Nat}(h:V+c*4294967296^(i+k)=(a%4294967296^i)*b+dig a i*(b%4294967296^k)*4294967296^i):
 J5 V (i+k) ((dig V (i+k)+dig a i*dig b k+c)%4294967296)+((dig V (i+k)+dig a i*dig b k+c)/4294967296)*4294967296^(i+(k+1))=(a%4294967296^i)*b+dig a i*(b%4294967296^(k+1))*4294967296^i:=by
 have e1:=Ny V (i+k) ((dig V (i+k)+dig a i*dig b k+c)%4294967296)
 have e2:=KO (dig V (i+k)+dig a i*dig b k+c) 4294967296
 rw[Xm,show i+(k+1)=(i+k)+1 by omega,Jb]
 rw[Yo]at*
 generalize J5 V (i+k) ((dig V (i+k)+dig a i*dig b k+c)%4294967296)=V' at*
 generalize(dig V (i+k)+dig a i*dig b k+c)%4294967296=r at*
 generalize(dig V (i+k)+dig a i*dig b k+c)/4294967296=q at*
 generalize dig V (i+k)=d at*
 generalize dig a i=x at*
 generalize dig b k=y at*
 generalize b%4294967296^k=bm at*
 generalize a%4294967296^i=am at*
 generalize 4294967296^i=P at*
 generalize 4294967296^k=R at*
 grind
theorem YmS{d x y c:Nat}(hd:d<4294967296)(hx:x<4294967296)(hy:y<4294967296)(hc:c<4294967296):d+x*y+c<18446744073709551616/\(d+x*y+c)/4294967296<4294967296:=by
 have:x*y<=4294967295*4294967295:=YP (by omega) (by omega)
 omega
theorem UW(a m k:Nat):dig (a/4294967296^m) k=dig a (m+k):=by
 unfold dig
 rw[Yo,KY]
theorem Pa(a b:Nat):∃n,a<4294967296^n/\b<4294967296^n:=
 ⟨nl a+nl b,Qf (QF a) (Kl (by decide) (by omega)),Qf (QF b) (Kl (by decide) (by omega))⟩
theorem Mh{a b:Nat}(h:∀i,dig a i=dig b i):a=b:=by
 obtain⟨n,h1,h2⟩:=Pa a b
 exact EV h1 h2 fun i _=>h i
theorem EW{a b m:Nat}(h:∀i,m<=i->dig a i=dig b i):a/4294967296^m=b/4294967296^m:=
 Mh fun i=>by rw[UW,UW];exact h _ (by omega)
theorem Mi{a b j:Nat}(h:∀i,j<i->dig a i=dig b i)(hd:dig a j<dig b j):a<b:=by
 have h1:=Uz a j
 have h2:=Uz b j
 rw[EW (m:=j+1) fun i hi=>h i hi]at h1
 have h3:=Kj a (Ke j)
 generalize b/4294967296^(j+1)=q at*
 generalize 4294967296^j=P at*
 generalize a%P=x at*
 generalize b%P=y at*
 generalize dig a j=d at*
 generalize dig b j=e at*
 have:P*(4294967296*q+d)+P<=P*(4294967296*q+e):=by
  rw[<-Nat.mul_succ];exact Yz _ (by omega)
 omega
def KS(a b:Nat):Int:=if a<b then -1 else if b<a then 1 else 0
theorem Y2{j:Nat}(h:0<j)(hj:j<=9223372036854775807):IntKind.i64.wrap ((j:Int)-1)=((j-1:Nat):Int):=by
 rw[Yg _ (by omega)];omega
theorem Xe{x:Nat}(h:x<18446744073709551616):IntKind.u64.wrap (x:Int)=x:=Z8 _ (by omega)
theorem Rw{x:Nat}(h:x<4294967296):IntKind.u32.wrap (x:Int)=x:=IntWalk.u32_in _ (by omega)
theorem UC{x y:Nat}(h:x+y<18446744073709551616):IntKind.u64.wrap ((x:Int)+(y:Int))=((x+y:Nat):Int):=by rw[Z8 _ (by omega)];simp
theorem NE{x y:Nat}(h:x*y<18446744073709551616):IntKind.u64.wrap ((x:Int)*(y:Int))=((x*y:Nat):Int):=by
 rw[<-JV];exact Xe h
set_option maxRecDepth 100000
set_option maxHeartbeats 4000000
def K6(a n sz:Nat)(get:Nat->List SV):Prop:=sz=1/\n<=100000/\a<4294967296^n/\∀k,k<n->Qz (get k) [.int .u32 (dig a k)]
theorem Hb{a n:Nat}(hn:n<=100000)(ha:a<4294967296^n):K6 a n 1 (fun k=>[.int .u32 (dig a k)]):=⟨rfl,hn,ha,fun k _=>Y1 _⟩
theorem YJ{a:Nat}(hn:nl a<=100000):K6 a (nl a) 1 (fun k=>[.int .u32 (dig a k)]):=Hb hn (QF a)
def Ym(z:Bool)(a:Nat):SV:= .vs true z (nl a) 1 (fun k=>[.int .u32 (dig a k)])
theorem Pu{hp:List HO}{i n m:Nat}{z zz:Bool}{get:Nat->List SV}{a:Nat}(hn:n=nl a)(hz:z=zz)(hi:Yq hp i= .own z 1 m get)(hg:∀j,j<n->get j=[.int .u32 (dig a j)]):
 le 0 0 (QE hp (.own i 0 n 1)) (Ym zz a):=by
 have e:QE hp (.own i 0 n 1)= .vs true z n 1 (fun k=>viewN true hp 2 (get (Qx 0 k))):=by
  show Qr true hp (viewN true hp 2) (.own i 0 n 1)=_
  unfold Qr
  rw[hi];rfl
 rw[e]
 unfold Ym
 rw[LO]
 refine⟨id,hz,hn,rfl,fun j hj=>?_⟩
 show Qz (viewN true hp 2 (get j)) _
 rw[hg j hj]
 exact Y1 _
theorem Ww{k:SV->List HO->Prop}{al:Bool}{hp:List HO}{i n m:Nat}{z zz:Bool}{get:Nat->List SV}{a:Nat}(h:k (Ym zz a) [])(hn:n=nl a)(hz:z=zz)(hi:Yq hp i= .own z 1 m get)(hg:∀j,j<n->get j=[.int .u32 (dig a j)]):
 Jv al k (.own i 0 n 1) hp:=Ky h (Pu hn hz hi hg) (fun _=>by simp [Ym,Y0,Y4])
theorem UN{k:SV->List HO->Prop}{al:Bool}{hp:List HO}{t z:Bool}{a:Nat}(h:k (Ym z a) []):Jv al k (.vs true z (nl a) 1 (fun k=>[.int .u32 (dig a k)])) hp:=
 Ky h (Jq _ trivial) (fun _=>by simp [Ym,Y0,Y4])
def R0:Env:={ ct:=fun _=>none,fn:=fun _=>none,meth:=fun _ _=>none}
def ofC:Ctr:={ alias:=false,of:=fun l=>match l with
 | [.int .u64 n]=> .pre (0<=n/\n<18446744073709551616) (.fin (Ym false n.toNat) [])
 |_=>noC}
def orderC:Ctr:={ alias:=false,of:=fun l=>match l with
 | [.vs _ _ n sz get,.vs _ _ m sz' get']=> .ex Nat fun a=> .ex Nat fun b=> .pre (K6 a n sz get/\K6 b m sz' get') (.fin (.int .i64 (KS a b)) [])
 |_=>noC}
def plusC:Ctr:={ alias:=false,of:=fun l=>match l with
 | [.vs _ _ n sz get,.vs _ _ m sz' get']=> .ex Nat fun a=> .ex Nat fun b=> .pre (K6 a n sz get/\K6 b m sz' get'/\n<=99999/\m<=99999) (.fin (Ym false (a+b)) [])
 |_=>noC}
def R1:Env:={ ct:=fun _=>none,fn:=fun _=>none,meth:=fun _ _=>none}
def F2:Nat->Nat->Nat
 |0,_=>0
 |f+1,a=>if a=0 then 0 else F2 f (a/2)+1
def Yw(a:Nat):Nat:=F2 a a
theorem Ja(i:Nat):0<2^i:=YD (by decide)
theorem TN:∀(f a n:Nat),a<=f->(F2 f a<=n↔a<2^n)
 |0,a,n,h=>by
  have:=Ja n
  simp only[F2];omega
 |f+1,a,n,h=>by
  simp only[F2]
  split
  ·rename_i h0;have:=Ja n;subst h0;simp;omega
  ·cases n with
   |zero=>simp;omega
   |succ n=>
    have:=TN f (a/2) n (by omega)
    rw[YF,<-ZJ (by decide),<-this]
    omega
theorem bitsN_le{a n:Nat}:Yw a<=n↔a<2^n:=TN a a n (Yr _)
theorem US(a:Nat):a<2^Yw a:=bitsN_le.1 (Yr _)
theorem Yit:Yw 0=0:=rfl
theorem Dt{a:Nat}(h:0<a):Yw a=Yw (a/2)+1:=by
 have h1:∀n,Yw a<=n↔Yw (a/2)+1<=n:=fun n=>by
  cases n with
  |zero=>have:= @bitsN_le a 0;simp at this;omega
  |succ n=>rw[bitsN_le,YF,<-ZJ (by decide),<-bitsN_le];omega
 have a1:=(h1 (Yw (a/2)+1)).2 (Yr _)
 have a2:=(h1 (Yw a)).1 (Yr _)
 omega
theorem bitsN_eq0{a:Nat}:Yw a=0↔a=0:=by
 have:= @bitsN_le a 0
 simp at this;omega
theorem Wr(m:Nat):4294967296^m=2^(32*m):=by
 rw[Yl]
theorem Yiv{a m:Nat}(h:nl a=m+1):Yw a=32*m+Yw (dig a m):=by
 have h1:=QF a
 have h2:¬a<4294967296^m:=fun hh=>by have:=nl_le.2 hh;omega
 rw[h,Jb]at h1
 have h3:a/4294967296^m<4294967296:=by rw[ZJ (Ke m),Yk];exact h1
 have h4:dig a m=a/4294967296^m:=by unfold dig;rw[Qg h3]
 have h5:∀t,Yw a<=32*m+t↔Yw (dig a m)<=t:=fun t=>by
  rw[bitsN_le,bitsN_le,Yo,<-Wr,h4,ZJ (Ke m),Yk]
 have h6:32*m<=Yw a:=by
  rcases YV (Yw a) (32*m)with h'|h'
  ·exact absurd (by rw[Wr];exact bitsN_le.1 (JN h')) h2
  ·exact h'
 have a1:=(h5 (Yw (dig a m))).2 (Yr _)
 have a2:=(h5 (Yw a-32*m)).1 (by omega)
 omega
theorem Yiu(a:Nat):Yw a<=32*nl a:=by
 rw[bitsN_le,<-Wr];exact QF a
def Dr(a i:Nat):Nat:=a/2^i%2
theorem Yis(a i:Nat):Dr a i<2:=Kj _ (by decide)
theorem Ykx(a i:Nat):a/2^i=2*(a/2^(i+1))+Dr a i:=by
 unfold Dr
 rw[YF,<-KY]
 generalize a/2^i=y
 omega
theorem UX(a j k:Nat):dig (a%4294967296^j) k=if k<j then dig a k else 0:=by
 split
 ·exact VB ‹_›
 ·exact X6 (Kj _ (Ke j)) (by omega)
theorem Ybb{x:Nat}(h:x<4294967296):(BitVec.ofInt 32 (x:Int)).toNat=x:=by
 simp [BitVec.toNat_ofInt];omega
theorem YnK{x y:Nat}(hx:x<4294967296)(hy:y<4294967296):IntKind.u32.wrap ((BitVec.ofInt 32 (x:Int) ||| BitVec.ofInt 32 (y:Int)).toNat:Int)=((x||| y:Nat):Int):=by
 rw[BitVec.toNat_or,Ybb hx,Ybb hy]
 exact Rw (Nat.or_lt_two_pow (n:=32) hx hy)
theorem H7{x:Nat}(h:x<18446744073709551616):(BitVec.ofInt 64 (x:Int)).toNat=x:=by
 simp [BitVec.toNat_ofInt];omega
theorem Yh2{x:Nat}(h:x<18446744073709551616):IntKind.u64.wrap ((BitVec.ofInt 64 (x:Int)&&&BitVec.ofInt 64 4294967295).toNat:Int)=((x%4294967296:Nat):Int):=by
 have h2:(BitVec.ofInt 64 4294967295).toNat=2^32-1:=by decide
 rw[BitVec.toNat_and,H7 h,h2,Nat.and_two_pow_sub_one_eq_mod]
 exact Xe (by omega)
theorem Ybr{x y:Nat}(hx:x<18446744073709551616)(hy:y<18446744073709551616):IntKind.u64.wrap ((BitVec.ofInt 64 (x:Int) ||| BitVec.ofInt 64 (y:Int)).toNat:Int)=((x||| y:Nat):Int):=by
 rw[BitVec.toNat_or,H7 hx,H7 hy]
 exact Xe (Nat.or_lt_two_pow (n:=64) hx hy)
theorem Fu{x s:Nat}(hs:s<=64):(x:Int).fdiv (2^min s 64)=((x/2^s:Nat):Int):=by
 rw[Nat.min_eq_left hs,Int.fdiv_eq_ediv_of_nonneg _ (Int.le_of_lt (Int.pow_pos (by decide)))]
 simp
theorem P9{x s:Nat}(hs:s<=64)(h:x*2^s<18446744073709551616):IntKind.u64.wrap ((x:Int)*2^min s 64)=((x*2^s:Nat):Int):=by
 rw[Nat.min_eq_left hs]
 have:(x:Int)*2^s=((x*2^s:Nat):Int):=by simp
 rw[this];exact Xe h
theorem Ce(x:Int):IntKind.u64.wrap x=x%18446744073709551616:=by
 rw[IntKind.wrap_u64]
theorem YmT{x y:Nat}(hx:x<18446744073709551616)(hy:y<18446744073709551616):
 let x0:=x%4294967296;let x1:=x/4294967296;let y0:=y%4294967296;let y1:=y/4294967296
 let t:=x1*y0+x0*y0/4294967296
 let w1:=t%4294967296+x0*y1
 x1*y1+t/4294967296+w1/4294967296=x*y/18446744073709551616/\x0*y0<18446744073709551616/\x1*y0<18446744073709551616/\t<18446744073709551616/\x0*y1<18446744073709551616/\w1<18446744073709551616/\x1*y1<18446744073709551616/\x1*y1+t/4294967296<18446744073709551616/\x1*y1+t/4294967296+w1/4294967296<18446744073709551616:=by
 intro x0 x1 y0 y1 t w1
 have e1:x=4294967296*x1+x0:=(KO x _).symm
 have e2:y=4294967296*y1+y0:=(KO y _).symm
 have h0:x0<4294967296:=Kj _ (by decide)
 have h1:y0<4294967296:=Kj _ (by decide)
 have h2:x1<4294967296:=by omega
 have h3:y1<4294967296:=by omega
 have m:∀{a b:Nat},a<4294967296->b<4294967296->a*b<=4294967295*4294967295:=fun ha hb=>YP (by omega) (by omega)
 have p1:=m h0 h1
 have p2:=m h2 h1
 have p3:=m h0 h3
 have p4:=m h2 h3
 have e:x*y=18446744073709551616*(x1*y1)+4294967296*(x1*y0+x0*y1)+x0*y0:=by
  rw[e1,e2];grind
 have ht:t=x1*y0+x0*y0/4294967296:=rfl
 have hw:w1=t%4294967296+x0*y1:=rfl
 rw[e]
 generalize x0*y0=A at*
 generalize x1*y0=B at*
 generalize x0*y1=C at*
 generalize x1*y1=D at*
 omega
structure DigInv (y1 y0 a u q r:Nat):Prop where
 eq:q*y1+r=a
 ge:(a*4294967296+u)/(y1*4294967296+y0)<=q
 le:q<=4294967297
def Z5:VF:={ ntmps:=21,res:=[.tmp 2],body:=
 (ZR [u1 2 .mov [.cn .nil]]
 (.seq (.block 0 (.loop (.seq (ZR [Zm 3 0,
 Zl 4 3,
 Zq 5 .gtr 4 0,
 Zm 6 5,
 Zg 7 6 true 0,
 Zg 8 6 true 0,
 u2 9 6 true .len [.tm 8],
 u2 10 6 true (.ari .sub) [.tm 9,.cn (.int .i64 1)],
 u2 11 6 true (.idxAddr 1) [.tm 7,.tm 10],
 Zh 12 6 true 1 11,
 u2 13 6 true (.cmp .eql) [.tm 12,.cn (.int .u32 0)],
 u1 14 .and [.tm 6,.tm 13]]
 (ZC 14 .skip
  (.exit 0)))
 (.block 1 (.region [Zm 15 0,
 Zm 16 0,
 Zl 17 16,
 u1 18 (.ari .sub) [.tm 17,.cn (.int .i64 1)],
 u1 19 (.slice 1 false true) [.tm 15,.tm 18],
 Zm 0 19])))))
 (ZR [Zm 20 0,
 Zm 2 20]
 .ret)))}
theorem YdR:Yn Yb Tryz.f106=some Z5:=by kernel_rfl
def v72:VF:=⟨10,[.tmp 2],(ZR [u1 2 .mov [.cn .nil]] (ZR [Zm 3 0,u1 4 (.conv .u32) [.tm 3],Zm 5 0,u1 6 .shr [.tm 5,.cn (.int .u64 32)],u1 7 (.conv .u32) [.tm 6],u1 8 (.buildSlice 1 2 [(.int .u32 0)] [(0,1),(1,1)]) [.tm 4,.tm 7],Zc 9 106 8,Zm 2 9] .ret))⟩
theorem Yto:Yn Yb Tryz.f72=some v72:=by kernel_rfl
def v38:VF:=⟨5,[.tmp 2],(ZR [u1 2 .mov [.cn .nil]] (ZR [Zm 3 0,Zc 4 72 3,Zm 2 4] .ret))⟩
theorem YsQ:Yn Yb Tryz.f38=some v38:=by kernel_rfl
def v77:VF:=⟨43,[.tmp 4],(ZR [Zi 4 0] (.seq (.block 0 (ZR [Zm 7 0,Zl 8 7,Zm 9 1,Zl 10 9,Zr 11 .lss 8 10,Zm 6 11] (ZC 6 (ZR [Zi 4 (-1)] .ret) (ZR [Zm 13 0,Zl 14 13,Zm 15 1,Zl 16 15,Zr 17 .gtr 14 16,Zm 12 17] (ZC 12 (ZR [Zi 4 1] .ret) .skip))))) (.seq (ZR [Zm 18 0,Zl 19 18,u1 20 (.ari .sub) [.tm 19,.cn (.int .i64 1)],Zm 5 20] (.block 1 (.loop (.seq (ZR [Zm 21 5,Zq 22 .geq 21 0] (ZC 22 .skip (.exit 1))) (.seq (.block 2 (.seq (.draw [] [Zu 25 0,Zu 26 5,ZX 27 1 25 26,Zv 28 1 27,Zu 29 1,Zu 30 5,ZX 31 1 29 30,Zv 32 1 31,w1 33 (.cmp .neq) [.tm 28,.tm 32]]) (ZC 33 (.seq (.seq (.draw [] [Zu 34 0,Zu 35 5,ZX 36 1 34 35,Zv 37 1 36,Zu 38 1,Zu 39 5,ZX 40 1 38 39,Zv 41 1 40,w1 42 (.cmp .lss) [.tm 37,.tm 41]]) (ZC 42 (ZR [Zi 4 (-1)] .ret) .skip)) (ZR [Zi 4 1] .ret)) .skip))) (.region [Zm 23 5,u1 24 (.ari .sub) [.tm 23,.cn (.int .i64 1)],Zm 5 24])))))) (ZR [Zi 4 0] .ret))))⟩
theorem Ytt:Yn Yb Tryz.f77=some v77:=by kernel_rfl
def Yew:VF:={ ntmps:=59,res:=[.tmp 4],body:=
 (ZR [u1 4 .mov [.cn .nil]]
 (.seq (ZR [Zm 9 0,
 Zl 10 9,
 Zm 11 1,
 Zl 12 11,
 Zr 13 .lss 10 12]
 (ZC 13 (.region [Zm 14 1,
 Zm 15 0,
 Zm 0 14,
 Zm 1 15])
  .skip))
 (ZR [Zm 16 0,
 Zl 17 16,
 Zp 18 17 1,
 u1 19 (.make 1 4 [(.int .u32 0)]) [.tm 18,.tm 18],
 Zm 5 19]
 (ZR [u1 6 .mov [.cn (.int .u64 0)]]
 (.seq (ZR [Zm 20 0,
 Zl 21 20,
 Zi 22 0]
 (.block 0 (.loop (ZR [Zr 23 .lss 22 21]
 (.seq (ZC 23 .skip
  (.exit 0))
 (.seq (.block 1 (ZR [Zm 24 22,
 Zm 7 24]
 (ZR [Zm 25 0,
 Zm 26 7,
 Zx 27 1 25 26,
 Zf 28 1 27,
 u1 29 (.conv .u64) [.tm 28],
 Zm 30 6,
 Zo 31 .add 29 30,
 Zm 8 31]
 (.seq (ZR [Zm 32 7,
 Zm 33 1,
 Zl 34 33,
 Zr 35 .lss 32 34]
 (ZC 35 (.region [Zm 36 8,
 Zm 37 1,
 Zm 38 7,
 Zx 39 1 37 38,
 Zf 40 1 39,
 u1 41 (.conv .u64) [.tm 40],
 Zo 42 .add 36 41,
 Zm 8 42])
  .skip))
 (.region [Zm 43 5,
 Zm 44 7,
 Zm 45 8,
 u1 46 (.conv .u32) [.tm 45],
 Zm 47 8,
 u1 48 .shr [.tm 47,.cn (.int .u64 32)],
 Zx 49 1 43 44,
 Zs 1 49 46,
 Zm 6 48])))))
 (.region [Zp 50 22 1,
 Zm 22 50])))))))
 (ZR [Zm 51 5,
 Zm 52 0,
 Zl 53 52,
 Zm 54 6,
 u1 55 (.conv .u32) [.tm 54],
 Zx 56 1 51 53,
 Zs 1 56 55]
 (ZR [Zm 57 5,
 Zc 58 106 57,
 Zm 4 58]
 .ret)))))))}
theorem Yst:Yn Yb Tryz.f156=some Yew:=by kernel_rfl
def WD0:Env:={ ct:=fun _=>none,fn:=fun n=>match n with|106=>some Z5|_=>none,meth:=fun _ _=>none}
theorem Yhv:WD0.ct 106=none:=rfl
theorem Yhw:WD0.fn 106=some Z5:=rfl
theorem Yhx:YE Yb WD0:=by
 refine⟨fun f c h=>?_,fun f vf h=>?_,(fun _ _ _ h=>by cases h),by kernel_rfl,(fun _ h=>by cases h)⟩
 ·cases h
 ·simp only[WD0]at h
  split at h
  ·cases h;exact⟨_,Tryz.func106,YdR,_,Tryz.func106,rfl,rfl⟩
  ·cases h
theorem AV(z:Nat):(z:Int).fdiv (2^min (Xi 32) 64)=((z/4294967296:Nat):Int):=Fu (s:=32) (by decide)
theorem Hn(z:Nat):IntKind.u32.wrap (z:Int)=((z%4294967296:Nat):Int):=by rw[IntKind.wrap_u32];omega
theorem YeO:ofC.ok Yb 72:=by
 refine Yv Tryz.func72 Yto Yhx 200 ofC fun args k h=>?_
 simp only[ofC]at h
 split at h
 ·rename_i n
  obtain⟨⟨h0,h1⟩,h⟩:=h
  obtain⟨X,rfl⟩:=Vl h0
  obtain⟨N,hN⟩:∃N,N=2:=⟨_,rfl⟩
  have hXN:X<4294967296^N:=by rw[hN];omega
  refine⟨[.int .u64 X],by simp [leL,le],?_⟩
  dsimp only[v72,Yhv,Yhw,Z5,go_sem,reduceIte,Ya]
  simp only[Yd,Ya,Ye,reduceCtorEq,Yc]
  refine⟨by decide,by decide,?_⟩
  refine Loop.keep [0] Nat (fun j=>[(0,.own 0 0 j 1)]) (fun _=>[(0,.own false 1 N (fun k=>[.int .u32 (dig X k)]))]) [] (fun j=>j<=N/\X<4294967296^j) (fun j=>j) ?_ ?_
  ·refine⟨N,⟨Yr _,hXN⟩,?_⟩
   dsimp only[go_sem,reduceIte,Ya]
   simp only[Yf]
   refine⟨⟨hN.symm,by decide⟩,by decide,hN.symm,fun k hk=>?_⟩
   rw[show(2:Int)^min (Xi 32) 64=4294967296 by decide,Int.fdiv_eq_ediv_of_nonneg _ (by decide)]
   have e0:dig X 0=X%4294967296:=EU X
   have e1:dig X 1=X/4294967296:=by rw[Iz,EU];omega
   match k,hk with
   |0,_=>rw[e0];exact⟨⟨rfl,by rw[IntKind.wrap_u32];omega⟩,trivial⟩
   |1,_=>rw[e1];exact⟨⟨rfl,by rw[IntKind.wrap_u32];omega⟩,trivial⟩
  ·rintro j ⟨hj,haj⟩
   dsimp only[Yh,go_sem,reduceIte,Ya]
   simp only[Yd,Ya,Ye,reduceCtorEq,Yc]
   refine⟨fun hlt=>?_,fun hlt=>?_,fun hb=>?_,fun hb=>?_⟩
   ·rw[Y2 (by omega) (by omega)];omega
   ·rw[Y2 (by omega) (by omega)];omega
   ·rw[YS,decide_eq_true_eq,decide_eq_true_eq]at hb
    obtain⟨h1,h2⟩:=hb
    rw[Y2 (by omega) (by omega),Yh]at h2
    refine⟨by rw[Y2 (by omega) (by omega)];omega,j-1,⟨by omega,?_⟩,by omega,?_⟩
    ·obtain⟨m,rfl⟩:∃m,j=m+1:=⟨j-1,by omega⟩
     exact W9 haj (by simp at h2;exact_mod_cast h2)
    ·rw[Y2 (by omega) (by omega)]
     simp only[Yf] <;> simp [leL,le]
   ·have e:nl X=j:=by
     refine WJ haj ?_
     rw[Vk,decide_eq_false_iff_not,decide_eq_false_iff_not]at hb
     rcases KU j with h0|h0
     ·exact .inl h0
     ·refine .inr fun hh=>hb.elim (fun h=>h (by omega)) fun h=>h ?_
      rw[Y2 h0 (by omega),Yh,hh];rfl
    subst e
    exact Ww h rfl rfl rfl fun j hj=>rfl
 ·exact h.1.elim
def WD1:Env:={ ct:=fun n=>match n with|72=>some ofC|_=>none,fn:=fun n=>match n with|106=>some Z5|_=>none,meth:=fun _ _=>none}
theorem Yhy:WD1.ct 72=some ofC:=rfl
theorem UK:WD1.ct 106=none:=rfl
theorem UL:WD1.fn 106=some Z5:=rfl
theorem Hx:YE Yb WD1:=by
 refine⟨fun f c h=>?_,fun f vf h=>?_,(fun _ _ _ h=>by cases h),by kernel_rfl,(fun _ h=>by cases h)⟩
 ·simp only[WD1]at h
  split at h
  ·cases h;exact⟨YeO,_,Tryz.func72,rfl,rfl⟩
  ·cases h
 ·simp only[WD1]at h
  split at h
  ·cases h;exact⟨_,Tryz.func106,YdR,_,Tryz.func106,rfl,rfl⟩
  ·cases h
theorem RJ:ofC.ok Yb 38:=by
 refine Yv Tryz.func38 YsQ Hx 200 ofC fun args k h=>?_
 simp only[ofC]at h
 split at h
 ·rename_i n
  obtain⟨⟨h0,h1⟩,h⟩:=h
  refine⟨[.int .u64 n],by simp [leL,le],?_⟩
  dsimp only[v38,Yhy,ofC,Ym,go_sem,reduceIte,Ya]
  simp only[Yd,Ya,Ye,reduceCtorEq,Yc]
  exact⟨⟨h0,h1⟩,UN (t:=true) h⟩
 ·exact h.1.elim
def wcmpC:Ctr:={ alias:=false,of:=fun l=>match l with
 | [.vs _ _ n sz get,.vs _ _ m sz' get']=> .ex Nat fun a=> .ex Nat fun b=> .pre (K6 a n sz get/\K6 b m sz' get'/\n=nl a/\m=nl b) (.fin (.int .i64 (KS a b)) [])
 |_=>noC}
theorem YnM{a b:Nat}(h:nl a<nl b):KS a b= -1:=by
 have:a<b:=Nat.lt_of_not_le fun hh=>by have:=G9 hh;omega
 rw[KS,if_pos this]
theorem YnL{a b:Nat}(h:nl b<nl a):KS a b=1:=by
 have:b<a:=Nat.lt_of_not_le fun hh=>by have:=G9 hh;omega
 rw[KS,if_neg (by omega),if_pos this]
theorem Yt6:wcmpC.ok Yb 77:=by
 refine Yv Tryz.func77 Ytt Hx 200 wcmpC fun args k h=>?_
 simp only[wcmpC]at h
 split at h
 ·rename_i t1 z1 n sz get t2 z2 m sz' get'
  obtain⟨a,b,⟨⟨rfl,hn,ha,hg⟩,⟨rfl,hm,hb,hg'⟩,hna,hmb⟩,h⟩:=h
  refine⟨[.vs t1 z1 n 1 (fun k=>[.int .u32 (dig a k)]),.vs t2 z2 m 1 (fun k=>[.int .u32 (dig b k)])],⟨by simpa [le]using hg,by simpa [le]using hg',trivial⟩,?_⟩
  dsimp only[v77,go_sem,reduceIte,Ya]
  simp only[Yd,Ya,Ye,reduceCtorEq,Yc]
  refine⟨fun c1=>YX ?_,fun c1=>⟨fun c2=>YX ?_,fun c2=>?_⟩⟩
  ·rw[YnM (by omega)]at h;exact h
  ·rw[YnL (by omega)]at h;exact h
  refine Loop.keep [0,0,3] Nat (fun j=>[(5,.int .i64 ((j:Int)-1))]) (fun _=>[]) [] (fun j=>j<=n/\∀i,j<=i->dig a i=dig b i) (fun j=>j) ?_ ?_
  ·refine⟨n,⟨Yr _,fun i hi=>by rw[X6 ha (by omega),X6 hb (by omega)]⟩,?_⟩
   dsimp only[go_sem,reduceIte,Ya]
   simp only[Yf]
   rw[Yg _ (by omega)]
   try simp
  ·rintro j ⟨hj,haj⟩
   dsimp only[Yh,go_sem,reduceIte,Ya]
   simp only[Yd,Ya,Ye,reduceCtorEq,Yc]
   refine⟨fun hlt=>?_,fun hge=>?_⟩
   ·obtain⟨i,rfl⟩:∃i,j=i+1:=⟨j-1,by omega⟩
    have e:((i+1:Nat):Int)-1=i:=by omega
    have gt:∀t,i<t->dig a t=dig b t:=fun t ht=>haj t (by omega)
    rw[e]
    simp only[Yh]
    refine⟨⟨by omega,by omega⟩,⟨by omega,by omega⟩,fun hd=>⟨⟨by omega,by omega⟩,⟨by omega,by omega⟩,fun hc=>YX ?_,fun hc=>YX ?_⟩,fun hd=>⟨i,⟨by omega,fun t ht=>?_⟩,by omega,?_⟩⟩
    ·have:=Mi gt (by omega:dig a i<dig b i)
     rw[KS,if_pos this]at h;exact h
    ·have:=Mi (fun t ht=>(gt t ht).symm) (by omega:dig b i<dig a i)
     rw[KS,if_neg (by omega),if_pos this]at h;exact h
    ·rcases Nat.eq_or_lt_of_le ht with rfl|ht
     ·omega
     ·exact gt t ht
    ·simp only[Yf]
     rw[Yg _ (by omega)]
     try simp
   ·obtain rfl:j=0:=by omega
    have:a=b:=Mh fun i=>haj i (JP _)
    rw[KS,if_neg (by omega),if_neg (by omega)]at h
    exact YX h
 ·exact h.1.elim
theorem Yud:plusC.ok Yb 156:=by
 refine Yv Tryz.func156 Yst Hx 300 plusC fun args k h=>?_
 simp only[plusC]at h
 split at h
 ·rename_i t1 z1 n sz get t2 z2 m sz' get'
  obtain⟨a,b,⟨⟨rfl,hn,ha,hg⟩,⟨rfl,hm,hb,hg'⟩,hn9,hm9⟩,h⟩:=h
  refine⟨[.vs t1 z1 n 1 (fun k=>[.int .u32 (dig a k)]),.vs t2 z2 m 1 (fun k=>[.int .u32 (dig b k)])],⟨by simpa [le]using hg,by simpa [le]using hg',trivial⟩,?_⟩
  dsimp only[Yew,UK,UL,Z5,go_sem,reduceIte,Ya]
  simp only[Yd,Ya,Ye,reduceCtorEq,Yc]
  refine⟨fun hlt=>?_,fun hge=>?_⟩
  all_goals first
   | (obtain⟨q,rfl⟩:∃q,q=n:=⟨_,rfl⟩
      obtain⟨n,rfl⟩:∃q,q=m:=⟨_,rfl⟩
      obtain⟨m,rfl⟩:∃m,m=q:=⟨_,rfl⟩
      obtain⟨q,rfl⟩:∃q,q=a:=⟨_,rfl⟩
      obtain⟨a,rfl⟩:∃a,a=b:=⟨_,rfl⟩
      obtain⟨b,rfl⟩:∃b,b=q:=⟨_,rfl⟩
      rw[Nat.add_comm]at h
      obtain⟨N,hNn⟩:∃N,N=n+1:=⟨_,rfl⟩
      obtain⟨X,hX⟩:∃X,X=a+b:=⟨_,rfl⟩
      have hmn:m<=n:=by omega)
   | (obtain⟨N,hNn⟩:∃N,N=n+1:=⟨_,rfl⟩
      obtain⟨X,hX⟩:∃X,X=a+b:=⟨_,rfl⟩
      have hmn:m<=n:=by omega)
  all_goals
   have ha1:a<4294967296^n:=by assumption
   have hb1:b<4294967296^m:=by assumption
   have eN:IntKind.i64.wrap ((n:Int)+1)=((N:Nat):Int):=by rw[hNn,Yg _ (by omega)];omega
   rw[eN]
   simp only[Yh]
   refine⟨⟨by decide,by omega,by omega,by unfold Ka;omega⟩,?_⟩
   refine Loop.keep [0,0,3,14,0] Nat (fun i=>[(6,.int .u64 (cy a b i)),(22,.int .i64 i)]) (fun i=>[(0,.own false 1 N (fun k=>[.int .u32 (dig (X%4294967296^i) k)]))]) [] (fun i=>i<=n) (fun i=>n-i) ?_ ?_
   ·refine⟨0,by omega,?_⟩
    dsimp only[go_sem,reduceIte,Ya]
    simp only[Yf]
    simp [Ir,Nat.mod_one,Mk,leL,le]
   ·rintro i hi
    dsimp only[UK,UL,Z5,Yh,go_sem,reduceIte,Ya]
    simp only[Yd,Ya,Ye,reduceCtorEq,Yc]
    refine⟨fun hlt=>⟨⟨by omega,by omega⟩,fun hc=>⟨⟨by omega,by omega⟩,by decide,⟨by omega,by omega⟩,by omega,i+1,by omega,by omega,?_⟩,fun hc=>⟨by decide,⟨by omega,by omega⟩,by omega,i+1,by omega,by omega,?_⟩⟩,fun hge=>?_⟩
    ·have hd1:=Qk a i
     have hd2:=Qk b i
     have hcy:=DJ a b i
     have e1:=Dk a b i
     have e2:=Ea a b i
     rw[show dig a i+dig b i+cy a b i=dig a i+cy a b i+dig b i by omega]at e1 e2
     rw[Xe (by omega:dig a i<18446744073709551616),Xe (by omega:dig b i<18446744073709551616),UC (by omega),UC (by omega),AV,Hn,e1,e2,Yg ((i:Int)+1) (by omega)]
     simp only[Yf]
     refine⟨by simp,fun j hj=>?_⟩
     rw[UX,UX,hX]
     by_cases hji:j=i
     ·rw[if_pos hji,if_pos (by omega),hji];simp only[leL,le,and_self]
     ·rw[if_neg hji];simp only[show(j<i+1)↔(j<i)from by omega];simp only[leL,le,and_self]
    ·have hd1:=Qk a i
     have hd2:dig b i=0:=X6 hb1 (by omega)
     have hcy:=DJ a b i
     have e1:=Dk a b i
     have e2:=Ea a b i
     rw[hd2,Kw]at e1 e2
     rw[Xe (by omega:dig a i<18446744073709551616),UC (by omega),AV,Hn,e1,e2,Yg ((i:Int)+1) (by omega)]
     simp only[Yf]
     refine⟨by simp,fun j hj=>?_⟩
     rw[UX,UX,hX]
     by_cases hji:j=i
     ·rw[if_pos hji,if_pos (by omega),hji];simp only[leL,le,and_self]
     ·rw[if_neg hji];simp only[show(j<i+1)↔(j<i)from by omega];simp only[leL,le,and_self]
    ·obtain rfl:i=n:=by omega
     refine⟨⟨by omega,by omega⟩,by omega,?_⟩
     have hXN:X<4294967296^N:=by
      have h2:b<4294967296^i:=Qf hb1 (Kl (by decide) hmn)
      rw[hX,hNn,Jb];omega
     have htop:IntKind.u32.wrap ((cy a b i:Nat):Int)=((dig X i:Nat):Int):=by
      have e1:=Dk a b i
      have hcy:=DJ a b i
      rw[X6 ha1 (Yr _),X6 hb1 hmn]at e1
      rw[Hn,hX,<-e1]
      omega
     rw[htop]
     rw[<-hX]at h
     refine Loop.keep [0] Nat (fun j=>[(0,.own 0 0 j 1)]) (fun _=>[(0,.own false 1 N (fun k=>[.int .u32 (dig X k)]))]) [] (fun j=>j<=N/\X<4294967296^j) (fun j=>j) ?_ ?_
     ·refine⟨N,⟨Yr _,hXN⟩,?_⟩
      dsimp only[go_sem,reduceIte,Ya]
      simp only[Yf]
      refine⟨by decide,by decide,fun j hj=>?_⟩
      split
      ·rename_i e;rw[e];exact⟨⟨rfl,rfl⟩,trivial⟩
      ·rw[VB (by omega)];exact⟨⟨rfl,rfl⟩,trivial⟩
     ·rintro j ⟨hj,haj⟩
      dsimp only[Yh,go_sem,reduceIte,Ya]
      simp only[Yd,Ya,Ye,reduceCtorEq,Yc]
      refine⟨fun hlt=>?_,fun hlt=>?_,fun hb=>?_,fun hb=>?_⟩
      ·rw[Y2 (by omega) (by omega)];omega
      ·rw[Y2 (by omega) (by omega)];omega
      ·rw[YS,decide_eq_true_eq,decide_eq_true_eq]at hb
       obtain⟨h1,h2⟩:=hb
       rw[Y2 (by omega) (by omega),Yh]at h2
       refine⟨by rw[Y2 (by omega) (by omega)];omega,j-1,⟨by omega,?_⟩,by omega,?_⟩
       ·obtain⟨m,rfl⟩:∃m,j=m+1:=⟨j-1,by omega⟩
        exact W9 haj (by simp at h2;exact_mod_cast h2)
       ·rw[Y2 (by omega) (by omega)]
        simp only[Yf] <;> simp [leL,le]
      ·have e:nl X=j:=by
        refine WJ haj ?_
        rw[Vk,decide_eq_false_iff_not,decide_eq_false_iff_not]at hb
        rcases KU j with h0|h0
        ·exact .inl h0
        ·refine .inr fun hh=>hb.elim (fun h=>h (by omega)) fun h=>h ?_
         rw[Y2 h0 (by omega),Yh,hh];rfl
       subst e
       exact Ww h rfl rfl rfl fun j hj=>rfl
 ·exact h.1.elim
def v75:VF:=⟨68,[.tmp 4],(ZR [u1 4 .mov [.cn .nil]] (ZR [Zm 12 0,Zl 13 12,Zm 14 1,Zl 15 14,Zo 16 .add 13 15,u1 17 (.make 1 4 [(.int .u32 0)]) [.tm 16,.tm 16],Zm 5 17] (.seq (ZR [Zm 18 0,Zl 19 18,Zi 20 0] (.block 0 (.loop (ZR [Zr 21 .lss 20 19] (.seq (ZC 21 .skip (.exit 0)) (.seq (.block 1 (ZR [Zm 22 20,Zx 23 1 18 20,Zf 24 1 23,Zm 6 22,Zm 7 24] (ZR [u1 8 .mov [.cn (.int .u64 0)]] (.seq (ZR [Zm 25 1,Zl 26 25,Zi 27 0] (.block 2 (.loop (ZR [Zr 28 .lss 27 26] (.seq (ZC 28 .skip (.exit 2)) (.seq (.block 3 (ZR [Zm 29 27,Zx 30 1 25 27,Zf 31 1 30,Zm 9 29,Zm 10 31] (ZR [Zm 32 5,Zm 33 6,Zm 34 9,Zo 35 .add 33 34,Zx 36 1 32 35,Zf 37 1 36,u1 38 (.conv .u64) [.tm 37],Zm 39 7,u1 40 (.conv .u64) [.tm 39],Zm 41 10,u1 42 (.conv .u64) [.tm 41],Zo 43 .mul 40 42,Zo 44 .add 38 43,Zm 45 8,Zo 46 .add 44 45,Zm 11 46] (.region [Zm 47 5,Zm 48 6,Zm 49 9,Zo 50 .add 48 49,Zm 51 11,u1 52 (.conv .u32) [.tm 51],Zm 53 11,u1 54 .shr [.tm 53,.cn (.int .u64 32)],Zx 55 1 47 50,Zs 1 55 52,Zm 8 54])))) (.region [Zp 56 27 1,Zm 27 56]))))))) (.region [Zm 57 5,Zm 58 6,Zm 59 1,Zl 60 59,Zo 61 .add 58 60,Zm 62 8,u1 63 (.conv .u32) [.tm 62],Zx 64 1 57 61,Zs 1 64 63]))))) (.region [Zp 65 20 1,Zm 20 65]))))))) (ZR [Zm 66 5,Zc 67 106 66,Zm 4 67] .ret))))⟩
theorem Ytr:Yn Yb Tryz.f75=some v75:=by kernel_rfl
def Yey:VF:={ ntmps:=58,res:=[.tmp 4],body:=
 (ZR [u1 4 .mov [.cn .nil]]
 (.seq (ZR [Zm 11 0,
 Zl 12 11,
 Zq 13 .eql 12 0]
 (ZC 13 (ZR [u1 4 .mov [.cn .nil]]
 .ret)
  .skip))
 (ZR [Zm 14 1,
 u1 15 .quo [.tm 14,.cn (.int .i64 32)],
 Zm 16 1,
 u1 17 .rem [.tm 16,.cn (.int .i64 32)],
 u1 18 (.conv .u64) [.tm 17],
 Zm 5 15,
 Zm 6 18]
 (ZR [Zm 19 0,
 Zl 20 19,
 Zm 21 5,
 Zo 22 .add 20 21,
 Zp 23 22 1,
 u1 24 (.make 1 4 [(.int .u32 0)]) [.tm 23,.tm 23],
 Zm 7 24]
 (.seq (ZR [Zm 25 0,
 Zl 26 25,
 Zi 27 0]
 (.block 0 (.loop (ZR [Zr 28 .lss 27 26]
 (.seq (ZC 28 .skip
  (.exit 0))
 (.seq (.block 1 (ZR [Zm 29 27,
 Zx 30 1 25 27,
 Zf 31 1 30,
 Zm 8 29,
 Zm 9 31]
 (ZR [Zm 32 9,
 u1 33 (.conv .u64) [.tm 32],
 Zm 34 6,
 u1 35 .shl [.tm 33,.tm 34],
 Zm 10 35]
 (ZR [Zm 36 7,
 Zm 37 8,
 Zm 38 5,
 Zo 39 .add 37 38,
 Zx 40 1 36 39,
 Zf 41 1 40,
 Zm 42 10,
 u1 43 (.conv .u32) [.tm 42],
 u1 44 (.bit .or) [.tm 41,.tm 43],
 Zx 45 1 36 39,
 Zs 1 45 44]
 (.region [Zm 46 7,
 Zm 47 8,
 Zm 48 5,
 Zo 49 .add 47 48,
 Zp 50 49 1,
 Zm 51 10,
 u1 52 .shr [.tm 51,.cn (.int .u64 32)],
 u1 53 (.conv .u32) [.tm 52],
 Zx 54 1 46 50,
 Zs 1 54 53])))))
 (.region [Zp 55 27 1,
 Zm 27 55])))))))
 (ZR [Zm 56 7,
 Zc 57 106 56,
 Zm 4 57]
 .ret))))))}
theorem Ysv:Yn Yb Tryz.f158=some Yey:=by kernel_rfl
def Yex:VF:={ ntmps:=64,res:=[.tmp 4],body:=
 (ZR [u1 4 .mov [.cn .nil]]
 (ZR [Zm 10 1,
 u1 11 .quo [.tm 10,.cn (.int .i64 32)],
 Zm 12 1,
 u1 13 .rem [.tm 12,.cn (.int .i64 32)],
 u1 14 (.conv .u64) [.tm 13],
 Zm 5 11,
 Zm 6 14]
 (.seq (ZR [Zm 15 5,
 Zm 16 0,
 Zl 17 16,
 Zr 18 .geq 15 17]
 (ZC 18 (ZR [u1 4 .mov [.cn .nil]]
 .ret)
  .skip))
 (ZR [Zm 19 0,
 Zl 20 19,
 Zm 21 5,
 Zo 22 .sub 20 21,
 u1 23 (.make 1 4 [(.int .u32 0)]) [.tm 22,.tm 22],
 Zm 7 23]
 (.seq (ZR [Zm 24 7,
 Zl 25 24,
 Zi 26 0]
 (.block 0 (.loop (ZR [Zr 27 .lss 26 25]
 (.seq (ZC 27 .skip
  (.exit 0))
 (.seq (.block 1 (ZR [Zm 28 26,
 Zm 8 28]
 (ZR [Zm 29 0,
 Zm 30 8,
 Zm 31 5,
 Zo 32 .add 30 31,
 Zx 33 1 29 32,
 Zf 34 1 33,
 u1 35 (.conv .u64) [.tm 34],
 Zm 9 35]
 (.seq (ZR [Zm 36 8,
 Zm 37 5,
 Zo 38 .add 36 37,
 Zp 39 38 1,
 Zm 40 0,
 Zl 41 40,
 Zr 42 .lss 39 41]
 (ZC 42 (.region [Zm 43 9,
 Zm 44 0,
 Zm 45 8,
 Zm 46 5,
 Zo 47 .add 45 46,
 Zp 48 47 1,
 Zx 49 1 44 48,
 Zf 50 1 49,
 u1 51 (.conv .u64) [.tm 50],
 u1 52 .shl [.tm 51,.cn (.int .u64 32)],
 u1 53 (.bit .or) [.tm 43,.tm 52],
 Zm 9 53])
  .skip))
 (.region [Zm 54 7,
 Zm 55 8,
 Zm 56 9,
 Zm 57 6,
 u1 58 .shr [.tm 56,.tm 57],
 u1 59 (.conv .u32) [.tm 58],
 Zx 60 1 54 55,
 Zs 1 60 59])))))
 (.region [Zp 61 26 1,
 Zm 26 61])))))))
 (ZR [Zm 62 7,
 Zc 63 106 62,
 Zm 4 63]
 .ret))))))}
theorem Ysu:Yn Yb Tryz.f157=some Yex:=by kernel_rfl
theorem YcU{V j x:Nat}(hV:V<4294967296^j):J5 V j x=V+x*4294967296^j:=by
 have:=Ny V j x
 rw[X6 hV (Yr _)]at this
 omega
def wtimC:Ctr:={ alias:=false,of:=fun l=>match l with
 | [.vs _ _ n sz get,.vs _ _ m sz' get']=> .ex Nat fun a=> .ex Nat fun b=> .pre (K6 a n sz get/\K6 b m sz' get'/\n+m<=99999) (.fin (Ym false (a*b)) [])
 |_=>noC}
theorem YeU:wtimC.ok Yb 75:=by
 refine Yv Tryz.func75 Ytr Hx 300 wtimC fun args k h=>?_
 simp only[wtimC]at h
 split at h
 ·rename_i t1 z1 n sz get t2 z2 m sz' get'
  obtain⟨a,b,⟨⟨rfl,hn,ha,hg⟩,⟨rfl,hm,hb,hg'⟩,hnm⟩,h⟩:=h
  refine⟨[.vs t1 z1 n 1 (fun k=>[.int .u32 (dig a k)]),.vs t2 z2 m 1 (fun k=>[.int .u32 (dig b k)])],⟨by simpa [le]using hg,by simpa [le]using hg',trivial⟩,?_⟩
  dsimp only[v75,UK,UL,Z5,go_sem,reduceIte,Ya]
  simp only[Yd,Ya,Ye,reduceCtorEq,Yc]
  obtain⟨N,hNn⟩:∃N,N=n+m:=⟨_,rfl⟩
  obtain⟨X,hX⟩:∃X,X=a*b:=⟨_,rfl⟩
  have en:IntKind.i64.wrap ((n:Int)+(m:Int))=(N:Int):=by rw[hNn,Yg _ (by omega)];omega
  rw[en]
  simp only[Yh]
  refine⟨⟨by decide,by omega,by omega,by unfold Ka;omega⟩,?_⟩
  refine Loop.keep [0,0,3,12,0] Nat (fun i=>[(20,.int .i64 i)]) (fun i=>[(0,.own false 1 N (fun k=>[.int .u32 (dig ((a%4294967296^i)*b) k)]))]) [] (fun i=>i<=n) (fun i=>n-i) ?_ ?_
  ·refine⟨0,by omega,?_⟩
   dsimp only[go_sem,reduceIte,Ya]
   simp only[Yf]
   simp [Nat.mod_one,Mk,leL,le]
  ·rintro i hi
   dsimp only[UK,UL,Z5,Yh,go_sem,reduceIte,Ya]
   simp only[Yd,Ya,Ye,reduceCtorEq,Yc]
   have hrow:∀i,(a%4294967296^i)*b<4294967296^(i+m):=fun i=>by
    rw[Yo]
    exact Nat.mul_lt_mul_of_lt_of_le (Kj _ (Ke i)) (JN hb) (Ke m)
   refine⟨fun hlt=>?_,fun hge=>?_⟩
   ·refine⟨⟨by omega,by omega⟩,?_⟩
    refine Loop.keep [0,0,3,0,0,10,0,0,4,0] (Nat×Nat×Nat) (fun x=>[(8,.int .u64 x.2.2),(27,.int .i64 x.1)]) (fun x=>[(0,.own false 1 N (fun k=>[.int .u32 (dig x.2.1 k)]))]) [] (fun x=>x.1<=m/\x.2.2<4294967296/\x.2.1<4294967296^(i+m)/\x.2.1+x.2.2*4294967296^(i+x.1)=(a%4294967296^i)*b+dig a i*(b%4294967296^x.1)*4294967296^i) (fun x=>m-x.1) ?_ ?_
    ·refine⟨(0,(a%4294967296^i)*b,0),⟨by simp only;omega,by simp only;omega,hrow i,by simp [Nat.mod_one]⟩,?_⟩
     dsimp only[go_sem,reduceIte,Ya]
     simp only[Yf]
     try simp [leL,le]
    ·rintro⟨t,V,c⟩ ⟨ht,hc,hV,he⟩
     dsimp only at ht hc hV he
     dsimp only[Yh,go_sem,reduceIte,Ya]
     simp only[Yd,Ya,Ye,reduceCtorEq,Yc]
     refine⟨fun hlt2=>?_,fun hge2=>?_⟩
     ·have w1:IntKind.i64.wrap ((i:Int)+(t:Int))=((i+t:Nat):Int):=by rw[Yg _ (by omega)];simp
      rw[w1]
      simp only[Yh]
      have hd0:=Qk V (i+t)
      have hd1:=Qk a i
      have hd2:=Qk b t
      obtain⟨hb1,hb2⟩:=YmS hd0 (Qk a i) (Qk b t) hc
      have hs:=YaR he
      refine⟨⟨by omega,by omega⟩,⟨by omega,by omega⟩,by omega,by decide,⟨by omega,by omega⟩,by omega,
       (t+1,J5 V (i+t) ((dig V (i+t)+dig a i*dig b t+c)%4294967296),(dig V (i+t)+dig a i*dig b t+c)/4294967296),⟨by simp only;omega,hb2,P6 hV (Kj _ (by decide)) (by omega),hs⟩,by simp only;omega,?_⟩
      rw[Xe (by omega:dig V (i+t)<18446744073709551616),Xe (by omega:dig a i<18446744073709551616),Xe (by omega:dig b t<18446744073709551616),NE (by omega),UC (by omega),UC (by omega),Hn,AV,Yg ((t:Int)+1) (by omega)]
      simp only[Yf]
      refine⟨by simp,fun j hj=>?_⟩
      rw[Mj (Kj _ (by decide))]
      split <;> simp only[leL,le,and_self]
     ·obtain rfl:t=m:=by omega
      have w1:IntKind.i64.wrap ((i:Int)+(t:Int))=((i+t:Nat):Int):=by rw[Yg _ (by omega)];simp
      rw[w1]
      simp only[Yh]
      rw[Qg hb]at he
      have hrow2:(a%4294967296^(i+1))*b=J5 V (i+t) c:=by
       rw[YcU hV,he,Xm,YN,Yx,Yk (4294967296^i)]
      refine⟨⟨by omega,by omega⟩,by omega,i+1,by omega,by omega,?_⟩
      rw[Rw hc,hrow2,Yg ((i:Int)+1) (by omega)]
      simp only[Yf]
      refine⟨by simp,fun j hj=>?_⟩
      rw[Mj hc]
      split <;> simp only[leL,le,and_self]
   ·obtain rfl:i=n:=by omega
    have hmi:a%4294967296^i=a:=Qg ha
    have hXN:X<4294967296^N:=by
     have:=hrow i
     rw[hmi]at this
     rw[hX,hNn];exact this
    rw[hmi,<-hX]
    rw[<-hX]at h
    refine Loop.keep [0] Nat (fun j=>[(0,.own 0 0 j 1)]) (fun _=>[(0,.own false 1 N (fun k=>[.int .u32 (dig X k)]))]) [] (fun j=>j<=N/\X<4294967296^j) (fun j=>j) ?_ ?_
    ·refine⟨N,⟨Yr _,hXN⟩,?_⟩
     dsimp only[go_sem,reduceIte,Ya]
     simp only[Yf]
     simp [leL,le]
    ·rintro j ⟨hj,haj⟩
     dsimp only[Yh,go_sem,reduceIte,Ya]
     simp only[Yd,Ya,Ye,reduceCtorEq,Yc]
     refine⟨fun hlt=>?_,fun hlt=>?_,fun hb=>?_,fun hb=>?_⟩
     ·rw[Y2 (by omega) (by omega)];omega
     ·rw[Y2 (by omega) (by omega)];omega
     ·rw[YS,decide_eq_true_eq,decide_eq_true_eq]at hb
      obtain⟨h1,h2⟩:=hb
      rw[Y2 (by omega) (by omega),Yh]at h2
      refine⟨by rw[Y2 (by omega) (by omega)];omega,j-1,⟨by omega,?_⟩,by omega,?_⟩
      ·obtain⟨m,rfl⟩:∃m,j=m+1:=⟨j-1,by omega⟩
       exact W9 haj (by simp at h2;exact_mod_cast h2)
      ·rw[Y2 (by omega) (by omega)]
       simp only[Yf] <;> simp [leL,le]
     ·have e:nl X=j:=by
       refine WJ haj ?_
       rw[Vk,decide_eq_false_iff_not,decide_eq_false_iff_not]at hb
       rcases KU j with h0|h0
       ·exact .inl h0
       ·refine .inr fun hh=>hb.elim (fun h=>h (by omega)) fun h=>h ?_
        rw[Y2 h0 (by omega),Yh,hh];rfl
      subst e
      exact Ww h rfl rfl rfl fun j hj=>rfl
 ·exact h.1.elim
def wupC:Ctr:={ alias:=false,of:=fun l=>match l with
 | [.vs _ _ n sz get,.int .i64 s]=> .ex Nat fun a=> .ex Nat fun d=> .pre (K6 a n sz get/\n=nl a/\n<=9999/\s=d/\d<=20000) (.all Bool fun z=> .fin (Ym (z&&decide (a*2^d=0)) (a*2^d)) [])
 |_=>noC}
def wdownC:Ctr:={ alias:=false,of:=fun l=>match l with
 | [.vs _ _ n sz get,.int .i64 s]=> .ex Nat fun a=> .ex Nat fun d=> .pre (K6 a n sz get/\n<=9999/\s=d/\d<=20000) (.all Bool fun z=> .fin (Ym (z&&decide (a/2^d=0)) (a/2^d)) [])
 |_=>noC}
theorem Tq{k:SV->List HO->Prop}{al:Bool}{hp:List HO}(h:k (Ym true 0) []):Jv al k .nil hp:=
 Ky h (by show le 0 0 (Qr true hp (viewN true hp 2) .nil) _;unfold Qr;simp [Ym,XL,le]) (fun _=>by simp [Ym,Y0,Y4])
theorem YnJ{x y:Nat}(hx:x<4294967296)(hy:y<4294967296):Jw .or .u64 (x:Int) (IntKind.u64.wrap ((y:Int)*2^min (Xi 32) 64))=((x+y*4294967296:Nat):Int):=by
 have e:IntKind.u64.wrap ((y:Int)*2^min (Xi 32) 64)=((y*4294967296:Nat):Int):=P9 (s:=32) (by decide) (by omega)
 rw[e,show Jw .or .u64 (x:Int) ((y*4294967296:Nat):Int)=((x||| y*4294967296:Nat):Int)from Ybr (by omega) (by omega)]
 have:=Nat.two_pow_add_eq_or_of_lt (i:=32) hx y
 rw[Nat.or_comm,Yk,show(4294967296:Nat)=2^32 from rfl,<-this,Nat.add_comm]
theorem YmN{y r:Nat}(h:r<32):y%(4294967296*4294967296)/2^r%4294967296=y/2^r%4294967296:=by
 have e:(4294967296*4294967296:Nat)=2^r*(4294967296*2^(32-r)):=by
  rw[show(4294967296:Nat)=2^32 from rfl,<-Yo,<-Yo,<-Yo];congr 1;omega
 rw[e,Nat.mod_mul_right_div_self,Nat.mod_mul_right_mod]
theorem IG{a d w r:Nat}(hw:w=d/32)(hr:r=d%32)(i:Nat):dig (a/2^d) i=(dig a (i+w)+dig a (i+w+1)*4294967296)/2^r%4294967296:=by
 have e:dig a (i+w)+dig a (i+w+1)*4294967296=a/4294967296^(i+w)%(4294967296*4294967296):=by
  unfold dig
  rw[Jb,<-KY]
  generalize a/4294967296^(i+w)=y
  omega
 rw[e,YmN (by omega)]
 unfold dig
 have e2:2^d*4294967296^i=4294967296^(i+w)*2^r:=by
  rw[Wr,Wr,<-Yo,<-Yo];congr 1;omega
 rw[KY,KY,e2]
theorem Yjq{a d w n N:Nat}(hw:w=d/32)(hN:N=n-w)(hwn:w<n)(ha:a<4294967296^n):a/2^d<4294967296^N:=by
 rw[ZJ (Ja d)]
 refine Qf ha ?_
 rw[Wr,Wr,<-Yo]
 exact Kl (by decide) (by omega)
theorem Rv{d w r:Nat}(hw:w=d/32)(hr:r=d%32):2^d=2^r*4294967296^w:=by
 rw[Wr,<-Yo];congr 1;omega
theorem Ymx(x:Nat){r:Nat}(hr:r<32):x*2^r%4294967296=2^r*(x%2^(32-r)):=by
 have e:(4294967296:Nat)=2^r*2^(32-r):=by
  rw[<-Yo,show r+(32-r)=32 by omega]
 rw[Yk x,e,Nat.mul_mod_mul_left]
theorem Yry{a d w r:Nat}(hw:w=d/32)(hr:r=d%32)(i:Nat):
 (dig ((a%4294967296^i)*2^d) (i+w) ||| dig a i*2^r%4294967296)<4294967296/\(a%4294967296^(i+1))*2^d=J5 (J5 ((a%4294967296^i)*2^d) (i+w) (dig ((a%4294967296^i)*2^d) (i+w) ||| dig a i*2^r%4294967296)) (i+w+1) (dig a i*2^r/4294967296):=by
 have hr32:r<32:=by omega
 have hb:(dig ((a%4294967296^i)*2^d) (i+w) ||| dig a i*2^r%4294967296)<4294967296:=Nat.or_lt_two_pow (n:=32) (Qk _ _) (Kj _ (by decide))
 refine⟨hb,?_⟩
 have hY:(a%4294967296^i)*2^d<4294967296^(i+w)*2^r:=by
  rw[Rv hw hr,<-Yx,WW,Yo]
  exact ZL (ZL (Kj _ (Ke i)) (Ke w)) (Ja r)
 have h2r:2^r<4294967296:=Nat.pow_lt_pow_right (a:=2) (n:=32) (by decide) hr32
 have hYl:(a%4294967296^i)*2^d<4294967296^(i+w+1):=by
  rw[Jb]
  exact Qf hY (Yz _ (JN h2r))
 have hd0:dig ((a%4294967296^i)*2^d) (i+w)<2^r:=by
  unfold dig
  refine Jn (Nat.mod_le _ _) ?_
  rw[ZJ (Ke _),Yk (2^r)]
  exact hY
 have hor:(dig ((a%4294967296^i)*2^d) (i+w) ||| dig a i*2^r%4294967296)=dig ((a%4294967296^i)*2^d) (i+w)+dig a i*2^r%4294967296:=by
  rw[Ymx _ hr32,Nat.or_comm,<-Nat.two_pow_add_eq_or_of_lt hd0,Nat.add_comm]
 rw[YcU (P6 hYl hb (by omega))]
 have e1:=Ny ((a%4294967296^i)*2^d) (i+w) (dig ((a%4294967296^i)*2^d) (i+w) ||| dig a i*2^r%4294967296)
 rw[hor,YN]at e1
 rw[hor]
 have e2:(a%4294967296^(i+1))*2^d=(a%4294967296^i)*2^d+dig a i*2^r*4294967296^(i+w):=by
  rw[Xm,YN,Yo,Rv hw hr]
  congr 1
  simp only[Yx,Jd,Yk]
 have e3:dig a i*2^r*4294967296^(i+w)=dig a i*2^r%4294967296*4294967296^(i+w)+dig a i*2^r/4294967296*4294967296^(i+w+1):=by
  rw[Jb,Yk (4294967296^(i+w)) 4294967296,<-Yx,<-YN]
  congr 1
  omega
 rw[e2,e3]
 omega
theorem YqL{x:Nat}(hx:x<4294967296){r:Nat}(h:r<32):IntKind.u64.wrap ((x:Int)*2^min (Xi (IntKind.u64.wrap (r:Int))) 64)=((x*2^r:Nat):Int):=by
 have h2r:2^r<4294967296:=Nat.pow_lt_pow_right (a:=2) (n:=32) (by decide) h
 have:x*2^r<=4294967295*4294967295:=YP (by omega) (by omega)
 rw[Xe (by omega),Yh];exact P9 (by omega) (by omega)
theorem Yim{x y:Nat}(hx:x<4294967296)(hy:y<4294967296):Jw .or .u32 (x:Int) (y:Int)=((x||| y:Nat):Int):=YnK hx hy
theorem Yc6(x:Nat){r:Nat}(h:r<32):(x:Int).fdiv (2^min (Xi (IntKind.u64.wrap (r:Int))) 64)=((x/2^r:Nat):Int):=by
 rw[Xe (by omega),Yh];exact Fu (by omega)
theorem Yt7:wdownC.ok Yb 157:=by
 refine Yv Tryz.func157 Ysu Hx 300 wdownC fun args k h=>?_
 simp only[wdownC]at h
 split at h
 ·rename_i t1 z1 n sz get s
  obtain⟨a,d,⟨⟨rfl,hn,ha,hg⟩,hn9,rfl,hd⟩,h⟩:=h
  refine⟨[.vs t1 z1 n 1 (fun k=>[.int .u32 (dig a k)]),.int .i64 d],⟨by simpa [le]using hg,⟨rfl,rfl⟩,trivial⟩,?_⟩
  dsimp only[Yex,UK,UL,Z5,go_sem,reduceIte,Ya]
  simp only[Yd,Ya,Ye,reduceCtorEq,Yc]
  obtain⟨w,hw⟩:∃w,w=d/32:=⟨_,rfl⟩
  obtain⟨r,hr⟩:∃r,r=d%32:=⟨_,rfl⟩
  have hr32:r<32:=by rw[hr];exact Kj _ (by decide)
  have ew:IntKind.i64.wrap ((d:Int).tdiv 32)=(w:Int):=by
   have:(d:Int).tdiv 32=((d/32:Nat):Int):=Wt (y:=32) rfl rfl
   rw[this,hw,Yg _ (by omega)]
  have er:(d:Int).tmod 32=(r:Int):=by rw[hr];exact Vm (y:=32) rfl rfl
  obtain⟨X,hX⟩:∃X,X=a/2^d:=⟨_,rfl⟩
  rw[ew,er]
  refine⟨by decide,by decide,fun hc=>?_,fun hc=>?_⟩
  ·have:a/2^d=0:=by
    rw[Qu]
    refine Qf ha ?_
    rw[Wr]
    exact Kl (by decide) (by omega)
   rw[this]at h
   exact Tq (show k _ []from h true)
  ·obtain⟨N,hNn⟩:∃N,N=n-w:=⟨_,rfl⟩
   have en:IntKind.i64.wrap ((n:Int)-(w:Int))=(N:Int):=by rw[hNn,Yg _ (by omega)];omega
   rw[en]
   simp only[Yh]
   have hXN:X<4294967296^N:=by rw[hX];exact Yjq hw hNn (by omega) ha
   refine⟨⟨by decide,by omega,by omega,by unfold Ka;omega⟩,?_⟩
   refine Loop.keep [0,4,0,0,16,0] Nat (fun i=>[(26,.int .i64 i)]) (fun i=>[(0,.own false 1 N (fun k=>[.int .u32 (dig (X%4294967296^i) k)]))]) [] (fun i=>i<=N) (fun i=>N-i) ?_ ?_
   ·refine⟨0,by omega,?_⟩
    dsimp only[go_sem,reduceIte,Ya]
    simp only[Yf]
    simp [Nat.mod_one,Mk,leL,le]
   ·rintro i hi
    dsimp only[UK,UL,Z5,Yh,go_sem,reduceIte,Ya]
    simp only[Yd,Ya,Ye,reduceCtorEq,Yc]
    refine⟨fun hlt=>?_,fun hge=>?_⟩
    ·have w1:IntKind.i64.wrap ((i:Int)+(w:Int))=((i+w:Nat):Int):=by rw[Yg _ (by omega)];simp
     have w2:IntKind.i64.wrap (((i+w:Nat):Int)+1)=((i+w+1:Nat):Int):=by rw[Yg _ (by omega)];simp
     rw[w1,w2]
     simp only[Yh]
     have hd1:=Qk a (i+w)
     have hd2:=Qk a (i+w+1)
     refine⟨⟨by omega,by omega⟩,fun hc2=>⟨⟨by omega,by omega⟩,by decide,by rw[Xe (by omega)];omega,⟨by omega,by omega⟩,by omega,i+1,by omega,by omega,?_⟩,fun hc2=>⟨by rw[Xe (by omega)];omega,⟨by omega,by omega⟩,by omega,i+1,by omega,by omega,?_⟩⟩
     ·rw[Xe (by omega:dig a (i+w)<18446744073709551616),Xe (by omega:dig a (i+w+1)<18446744073709551616),YnJ hd1 hd2,Yc6 _ hr32,Hn,<-IG hw hr,Yg ((i:Int)+1) (by omega)]
      simp only[Yf]
      refine⟨by simp,fun j hj=>?_⟩
      rw[UX,UX,hX]
      by_cases hji:j=i
      ·rw[if_pos hji,if_pos (by omega),hji];simp only[leL,le,and_self]
      ·rw[if_neg hji];simp only[show(j<i+1)↔(j<i)from by omega];simp only[leL,le,and_self]
     ·have hz:dig a (i+w+1)=0:=X6 ha (by omega)
      have hdd:= @IG a d w r hw hr i
      rw[hz,JX,Kw]at hdd
      rw[Xe (by omega:dig a (i+w)<18446744073709551616),Yc6 _ hr32,Hn,<-hdd,Yg ((i:Int)+1) (by omega)]
      simp only[Yf]
      refine⟨by simp,fun j hj=>?_⟩
      rw[UX,UX,hX]
      by_cases hji:j=i
      ·rw[if_pos hji,if_pos (by omega),hji];simp only[leL,le,and_self]
      ·rw[if_neg hji];simp only[show(j<i+1)↔(j<i)from by omega];simp only[leL,le,and_self]
    ·obtain rfl:i=N:=by omega
     rw[Qg hXN]
     have h:k (Ym false X) []:=by rw[hX];exact h false
     obtain⟨N,rfl⟩:∃N,N=i:=⟨_,rfl⟩
     refine Loop.keep [0] Nat (fun j=>[(0,.own 0 0 j 1)]) (fun _=>[(0,.own false 1 N (fun k=>[.int .u32 (dig X k)]))]) [] (fun j=>j<=N/\X<4294967296^j) (fun j=>j) ?_ ?_
     ·refine⟨N,⟨Yr _,hXN⟩,?_⟩
      dsimp only[go_sem,reduceIte,Ya]
      simp only[Yf]
      simp [leL,le]
     ·rintro j ⟨hj,haj⟩
      dsimp only[Yh,go_sem,reduceIte,Ya]
      simp only[Yd,Ya,Ye,reduceCtorEq,Yc]
      refine⟨fun hlt=>?_,fun hlt=>?_,fun hb=>?_,fun hb=>?_⟩
      ·rw[Y2 (by omega) (by omega)];omega
      ·rw[Y2 (by omega) (by omega)];omega
      ·rw[YS,decide_eq_true_eq,decide_eq_true_eq]at hb
       obtain⟨h1,h2⟩:=hb
       rw[Y2 (by omega) (by omega),Yh]at h2
       refine⟨by rw[Y2 (by omega) (by omega)];omega,j-1,⟨by omega,?_⟩,by omega,?_⟩
       ·obtain⟨m,rfl⟩:∃m,j=m+1:=⟨j-1,by omega⟩
        exact W9 haj (by simp at h2;exact_mod_cast h2)
       ·rw[Y2 (by omega) (by omega)]
        simp only[Yf] <;> simp [leL,le]
      ·have e:nl X=j:=by
        refine WJ haj ?_
        rw[Vk,decide_eq_false_iff_not,decide_eq_false_iff_not]at hb
        rcases KU j with h0|h0
        ·exact .inl h0
        ·refine .inr fun hh=>hb.elim (fun h=>h (by omega)) fun h=>h ?_
         rw[Y2 h0 (by omega),Yh,hh];rfl
       subst e
       exact Ww h rfl rfl rfl fun j hj=>rfl
 ·exact h.1.elim
theorem Yug:wupC.ok Yb 158:=by
 refine Yv Tryz.func158 Ysv Hx 300 wupC fun args k h=>?_
 simp only[wupC]at h
 split at h
 ·rename_i t1 z1 n sz get s
  obtain⟨a,d,⟨⟨rfl,hn,ha,hg⟩,hna,hn9,rfl,hd⟩,h⟩:=h
  refine⟨[.vs t1 z1 n 1 (fun k=>[.int .u32 (dig a k)]),.int .i64 d],⟨by simpa [le]using hg,⟨rfl,rfl⟩,trivial⟩,?_⟩
  dsimp only[Yey,UK,UL,Z5,go_sem,reduceIte,Ya]
  simp only[Yd,Ya,Ye,reduceCtorEq,Yc]
  obtain⟨w,hw⟩:∃w,w=d/32:=⟨_,rfl⟩
  obtain⟨r,hr⟩:∃r,r=d%32:=⟨_,rfl⟩
  have hr32:r<32:=by rw[hr];exact Kj _ (by decide)
  have ew:IntKind.i64.wrap ((d:Int).tdiv 32)=(w:Int):=by
   have:(d:Int).tdiv 32=((d/32:Nat):Int):=Wt (y:=32) rfl rfl
   rw[this,hw,Yg _ (by omega)]
  have er:(d:Int).tmod 32=(r:Int):=by rw[hr];exact Vm (y:=32) rfl rfl
  obtain⟨X,hX⟩:∃X,X=a*2^d:=⟨_,rfl⟩
  rw[ew,er]
  refine⟨fun hc=>?_,fun hc=>⟨by decide,by decide,?_⟩⟩
  ·obtain rfl:n=0:=by omega
   have:a=0:=by simpa using ha
   rw[this,JX]at h
   exact Tq (show k _ []from h true)
  ·obtain⟨N,hNn⟩:∃N,N=n+w+1:=⟨_,rfl⟩
   have en:IntKind.i64.wrap (IntKind.i64.wrap ((n:Int)+(w:Int))+1)=(N:Int):=by rw[hNn,Yg ((n:Int)+w) (by omega),Yg _ (by omega)];omega
   rw[en]
   simp only[Yh]
   refine⟨⟨by decide,by omega,by omega,by unfold Ka;omega⟩,?_⟩
   refine Loop.keep [0,4,0,0,17,0] Nat (fun i=>[(27,.int .i64 i)]) (fun i=>[(0,.own false 1 N (fun k=>[.int .u32 (dig ((a%4294967296^i)*2^d) k)]))]) [] (fun i=>i<=n) (fun i=>n-i) ?_ ?_
   ·refine⟨0,by omega,?_⟩
    dsimp only[go_sem,reduceIte,Ya]
    simp only[Yf]
    simp [Nat.mod_one,Mk,leL,le]
   ·rintro i hi
    dsimp only[UK,UL,Z5,Yh,go_sem,reduceIte,Ya]
    simp only[Yd,Ya,Ye,reduceCtorEq,Yc]
    refine⟨fun hlt=>?_,fun hge=>?_⟩
    ·have w1:IntKind.i64.wrap ((i:Int)+(w:Int))=((i+w:Nat):Int):=by rw[Yg _ (by omega)];simp
     have w2:IntKind.i64.wrap (((i+w:Nat):Int)+1)=((i+w+1:Nat):Int):=by rw[Yg _ (by omega)];simp
     rw[w1,w2]
     simp only[Yh]
     have hd1:=Qk a i
     obtain⟨s1,s2⟩:= @Yry a d w r hw hr i
     refine⟨⟨by omega,by omega⟩,by rw[Xe (by omega)];omega,⟨by omega,by omega⟩,by omega,⟨by omega,by omega⟩,by omega,by decide,⟨by omega,by omega⟩,by omega,i+1,by omega,by omega,?_⟩
     rw[Xe (by omega:dig a i<18446744073709551616),YqL hd1 hr32,Hn,AV,Yim (Qk _ _) (Kj _ (by decide)),Rw (by
      have h2r:2^r<4294967296:=Nat.pow_lt_pow_right (a:=2) (n:=32) (by decide) hr32
      have:dig a i*2^r<=4294967295*4294967295:=YP (by omega) (by omega)
      omega),Yg ((i:Int)+1) (by omega)]
     simp only[Yf]
     refine⟨by simp,fun j hj=>?_⟩
     have hhi:dig a i*2^r/4294967296<4294967296:=by
      have h2r:2^r<4294967296:=Nat.pow_lt_pow_right (a:=2) (n:=32) (by decide) hr32
      have:dig a i*2^r<=4294967295*4294967295:=YP (by omega) (by omega)
      omega
     rw[s2,Mj hhi,Mj s1]
     by_cases hj1:j=i+w+1
     ·rw[if_pos hj1,if_pos hj1,if_neg (by omega)]
      simp [JT,leL,le]
     ·rw[if_neg hj1,if_neg hj1]
      split <;> simp only[leL,le,and_self]
    ·obtain rfl:i=n:=by omega
     rw[Qg ha,<-hX]
     have h:k (Ym false X) []:=by rw[hX];exact h false
     have hXN:X<4294967296^N:=by
      have h2r:2^r<4294967296:=Nat.pow_lt_pow_right (a:=2) (n:=32) (by decide) hr32
      rw[hX,Rv hw hr,hNn,Jb,Yo,Yx,Yk _ (4294967296^w)]
      exact Nat.mul_lt_mul_of_lt_of_le ha (Yz _ (JN h2r)) (Y3 (Ke w) (by decide))
     refine Loop.keep [0] Nat (fun j=>[(0,.own 0 0 j 1)]) (fun _=>[(0,.own false 1 N (fun k=>[.int .u32 (dig X k)]))]) [] (fun j=>j<=N/\X<4294967296^j) (fun j=>j) ?_ ?_
     ·refine⟨N,⟨Yr _,hXN⟩,?_⟩
      dsimp only[go_sem,reduceIte,Ya]
      simp only[Yf]
      simp [leL,le]
     ·rintro j ⟨hj,haj⟩
      dsimp only[Yh,go_sem,reduceIte,Ya]
      simp only[Yd,Ya,Ye,reduceCtorEq,Yc]
      refine⟨fun hlt=>?_,fun hlt=>?_,fun hb=>?_,fun hb=>?_⟩
      ·rw[Y2 (by omega) (by omega)];omega
      ·rw[Y2 (by omega) (by omega)];omega
      ·rw[YS,decide_eq_true_eq,decide_eq_true_eq]at hb
       obtain⟨h1,h2⟩:=hb
       rw[Y2 (by omega) (by omega),Yh]at h2
       refine⟨by rw[Y2 (by omega) (by omega)];omega,j-1,⟨by omega,?_⟩,by omega,?_⟩
       ·obtain⟨m,rfl⟩:∃m,j=m+1:=⟨j-1,by omega⟩
        exact W9 haj (by simp at h2;exact_mod_cast h2)
       ·rw[Y2 (by omega) (by omega)]
        simp only[Yf] <;> simp [leL,le]
      ·have e:nl X=j:=by
        refine WJ haj ?_
        rw[Vk,decide_eq_false_iff_not,decide_eq_false_iff_not]at hb
        rcases KU j with h0|h0
        ·exact .inl h0
        ·refine .inr fun hh=>hb.elim (fun h=>h (by omega)) fun h=>h ?_
         rw[Y2 h0 (by omega),Yh,hh];rfl
       subst e
       exact Ww h rfl rfl rfl fun j hj=>rfl
 ·exact h.1.elim
def v73:VF:=⟨7,[.tmp 2],(ZR [Zi 2 0] (.seq (ZR [Zm 3 0,u1 4 (.call 107) [.tm 3,.cn (.fn (.func 108) [] [])]] (ZC 4 (ZR [Zi 2 3] .ret) .skip)) (.seq (ZR [Zm 5 0,u1 6 (.call 107) [.tm 5,.cn (.fn (.func 109) [] [])]] (ZC 6 (ZR [Zi 2 2] .ret) .skip)) (ZR [Zi 2 0] .ret))))⟩
theorem Ytp:Yn Yb Tryz.f73=some v73:=by kernel_rfl
def Cg:VF:={ ntmps:=6,res:=[.tmp 2],body:=
 (ZR [u1 2 .mov [.cn (.bool false)]]
 (ZR [Zm 3 0,
 Zl 4 3,
 Zq 5 .gtr 4 512,
 Zm 2 5]
 .ret))}
theorem YrH:Yn Yb Tryz.f108=some Cg:=by kernel_rfl
def Ch:VF:={ ntmps:=6,res:=[.tmp 2],body:=
 (ZR [u1 2 .mov [.cn (.bool false)]]
 (ZR [Zm 3 0,
 Zc 4 110 3,
 u1 5 .not [.tm 4],
 Zm 2 5]
 .ret))}
theorem YrI:Yn Yb Tryz.f109=some Ch:=by kernel_rfl
def YdS:VF:={ ntmps:=20,res:=[.tmp 2],body:=
 (ZR [u1 2 .mov [.cn (.bool false)]]
 (ZR [Zm 3 0,
 Zl 4 3,
 Zq 5 .leq 4 512,
 Zm 6 5,
 Zg 7 6 true 0,
 u2 8 6 true .len [.tm 7],
 u2 9 6 true (.cmp .eql) [.tm 8,.cn (.int .i64 0)],
 Zg 10 6 true 9,
 Zg 11 10 false 0,
 Zg 12 10 false 0,
 u2 13 10 false .len [.tm 12],
 u2 14 10 false (.ari .sub) [.tm 13,.cn (.int .i64 1)],
 u2 15 10 false (.idxAddr 1) [.tm 11,.tm 14],
 Zh 16 10 false 1 15,
 u2 17 10 false (.cmp .neq) [.tm 16,.cn (.int .u32 0)],
 u2 18 6 true .or [.tm 10,.tm 17],
 u1 19 .and [.tm 6,.tm 18],
 Zm 2 19]
 .ret))}
theorem YrK:Yn Yb Tryz.f110=some YdS:=by kernel_rfl
def v76:VF:=⟨9,[.tmp 2,.tmp 3],(ZR [u1 2 .mov [.cn .nil],Zi 3 0] (.seq (ZR [Zm 4 0,Zl 5 4,Zq 6 .gtr 5 512] (ZC 6 (ZR [u1 2 .mov [.cn .nil],Zi 3 3] .ret) .skip)) (ZR [Zm 7 0,Zc 8 113 7,Zm 2 8,Zi 3 0] .ret)))⟩
theorem Yts:Yn Yb Tryz.f76=some v76:=by kernel_rfl
def v43:VF:=⟨17,[.tmp 4,.tmp 5],(ZR [Zi 4 0,Zi 5 0] (.seq (ZR [Zm 7 0,Zm 8 1,u1 9 (.buildSlice 1 2 [.nil] [(0,1),(1,1)]) [.tm 7,.tm 8],Zc 10 73 9,Zm 6 10] (ZR [Zm 11 6,Zq 12 .neq 11 0] (ZC 12 (ZR [Zm 13 6,Zi 4 0,Zm 5 13] .ret) .skip))) (ZR [Zm 14 0,Zm 15 1,Zd 16 77 14 15,Zm 4 16,Zi 5 0] .ret)))⟩
theorem YsV:Yn Yb Tryz.f43=some v43:=by kernel_rfl
def Yev:VF:={ ntmps:=37,res:=[.tmp 4,.tmp 5],body:=
 (ZR [u1 4 .mov [.cn .nil],
 Zi 5 0]
 (ZR [Zm 7 0,
 u1 8 (.buildSlice 1 1 [.nil] [(0,1)]) [.tm 7],
 Zc 9 73 8,
 Zm 6 9]
 (.seq (.block 0 (ZR [Zm 11 6,
 Zq 12 .neq 11 0,
 Zm 10 12]
 (ZC 10 (ZR [Zm 13 6,
 u1 4 .mov [.cn .nil],
 Zm 5 13]
 .ret)
  (ZR [Zm 15 1,
 Zq 16 .lss 15 (-20000),
 Zm 17 16,
 Zg 18 17 false 1,
 u2 19 17 false (.cmp .gtr) [.tm 18,.cn (.int .i64 20000)],
 u1 20 .or [.tm 17,.tm 19],
 Zm 14 20]
 (ZC 14 (ZR [u1 4 .mov [.cn .nil],
 Zi 5 2]
 .ret)
  (ZR [Zm 22 1,
 Zq 23 .lss 22 0,
 Zm 21 23]
 (ZC 21 (ZR [Zm 24 0,
 Zm 25 1,
 u1 26 .neg [.tm 25],
 Zd 27 157 24 26,
 Zc 28 76 27,
 Ze 29 0 28,
 Ze 30 1 28,
 Zm 4 29,
 Zm 5 30]
 .ret)
  .skip)))))))
 (ZR [Zm 31 0,
 Zm 32 1,
 Zd 33 158 31 32,
 Zc 34 76 33,
 Ze 35 0 34,
 Ze 36 1 34,
 Zm 4 35,
 Zm 5 36]
 .ret))))}
theorem Yss:Yn Yb Tryz.f155=some Yev:=by kernel_rfl
def Yes:VF:={ ntmps:=20,res:=[.tmp 4,.tmp 5],body:=
 (ZR [u1 4 .mov [.cn .nil],
 Zi 5 0]
 (.seq (ZR [Zm 7 0,
 Zm 8 1,
 u1 9 (.buildSlice 1 2 [.nil] [(0,1),(1,1)]) [.tm 7,.tm 8],
 Zc 10 73 9,
 Zm 6 10]
 (ZR [Zm 11 6,
 Zq 12 .neq 11 0]
 (ZC 12 (ZR [Zm 13 6,
 u1 4 .mov [.cn .nil],
 Zm 5 13]
 .ret)
  .skip)))
 (ZR [Zm 14 0,
 Zm 15 1,
 Zd 16 156 14 15,
 Zc 17 76 16,
 Ze 18 0 17,
 Ze 19 1 17,
 Zm 4 18,
 Zm 5 19]
 .ret)))}
theorem Ysp:Yn Yb Tryz.f152=some Yes:=by kernel_rfl
def v40:VF:=⟨20,[.tmp 4,.tmp 5],(ZR [u1 4 .mov [.cn .nil],Zi 5 0] (.seq (ZR [Zm 7 0,Zm 8 1,u1 9 (.buildSlice 1 2 [.nil] [(0,1),(1,1)]) [.tm 7,.tm 8],Zc 10 73 9,Zm 6 10] (ZR [Zm 11 6,Zq 12 .neq 11 0] (ZC 12 (ZR [Zm 13 6,u1 4 .mov [.cn .nil],Zm 5 13] .ret) .skip))) (ZR [Zm 14 0,Zm 15 1,Zd 16 75 14 15,Zc 17 76 16,Ze 18 0 17,Ze 19 1 17,Zm 4 18,Zm 5 19] .ret)))⟩
theorem YsS:Yn Yb Tryz.f40=some v40:=by kernel_rfl
def NJ:VF:={ ntmps:=9,res:=[.tmp 4],body:=
 (ZR [u1 4 .mov [.cn (.bool false)]]
 (ZR [Zm 5 0,
 Zm 6 1,
 Zd 7 135 5 6,
 Zq 8 .geq 7 0,
 Zm 4 8]
 .ret))}
theorem YrG:Yn Yb Tryz.f107=some NJ:=by kernel_rfl
def NL:VF:={ ntmps:=19,res:=[.tmp 4],body:=
 (ZR [Zi 4 0]
 (.seq (ZR [Zm 6 0,
 Zl 7 6,
 Zi 8 0]
 (.block 0 (.loop (ZR [Zr 9 .lss 8 7]
 (.seq (ZC 9 .skip
  (.exit 0))
 (.seq (.block 1 (ZR [Zm 10 8,
 Zm 5 10]
 (ZR [Zm 11 1,
 Zm 12 0,
 Zm 13 5,
 Zx 14 1 12 13,
 Zf 15 1 14,
 u1 16 .callv [.tm 11,.tm 15]]
 (ZC 16 (ZR [Zm 17 5,
 Zm 4 17]
 .ret)
  .skip))))
 (.region [Zp 18 8 1,
 Zm 8 18])))))))
 (ZR [Zi 4 (-1)]
 .ret)))}
theorem Yr9:Yn Yb Tryz.f135=some NL:=by kernel_rfl
def Ci:VF:={ ntmps:=8,res:=[.tmp 2],body:=
 (ZR [u1 2 .mov [.cn .nil]]
 (.seq (ZR [Zm 3 0,
 u1 4 (.isNil false) [.tm 3,.cn .nil]]
 (ZC 4 (ZR [u1 2 .mov [.cn .nil]]
 .ret)
  .skip))
 (ZR [u1 5 (.buildSlice 1 0 [(.int .u32 0)] []) [],
 Zm 6 0,
 u1 7 (.append 1 4 [(.int .u32 0)]) [.tm 5,.tm 6],
 Zm 2 7]
 .ret)))}
theorem YrN:Yn Yb Tryz.f113=some Ci:=by kernel_rfl
def wvalC:Ctr:={ alias:=false,of:=fun l=>match l with
 | [.vs _ _ n sz get]=> .ex Nat fun a=> .pre (K6 a n sz get/\n=nl a/\n<=512) (.fin (.bool true) [])
 |_=>noC}
def Jx(a:Nat):Nat:=if nl a<=512 then a else 0
def ZP(a:Nat):Int:=if nl a<=512 then 0 else 3
def resC:Ctr:={ alias:=false,of:=fun l=>match l with
 | [.vs _ z n sz get]=> .ex Nat fun a=> .pre (K6 a n sz get/\n=nl a/\(z=true->n=0)) (.all Bool fun y=> .fin (.tup [Ym y (Jx a),.int .i64 (ZP a)]) [])
 |_=>noC}
def H5(z:Bool)(a:Nat):SV:= .vs false z (nl a) 1 (fun k=>[.int .u32 (dig a k)])
def wchkC:Ctr:={ alias:=false,of:=fun l=>match l with
 | [.vs _ _ n sz get]=> .ex (List (Bool×Nat)) fun l=> .pre (lsP 1 (fun x=>[H5 x.1 x.2]) n sz get l/\(∀x,x∈l->nl x.2<=512)/\n<=100) (.fin (.int .i64 0) [])
 |_=>noC}
def WD3:Env:={ ct:=fun _=>none,fn:=fun _=>none,meth:=fun _ _=>none}
theorem Yhz:YE Yb WD3:=by
 refine⟨fun f c h=>?_,fun f vf h=>?_,(fun _ _ _ h=>by cases h),by kernel_rfl,(fun _ h=>by cases h)⟩
 ·cases h
 ·cases h
theorem Yuh:wvalC.ok Yb 110:=by
 refine Yv Tryz.func110 YrK Yhz 200 wvalC fun args k h=>?_
 simp only[wvalC]at h
 split at h
 ·rename_i tt z n sz get
  obtain⟨a,⟨⟨rfl,hn,ha,hg⟩,hna,hn5⟩,h⟩:=h
  refine⟨[.vs tt z n 1 (fun k=>[.int .u32 (dig a k)])],by simpa [leL,le]using hg,?_⟩
  dsimp only[YdS,go_sem,reduceIte,Ya]
  simp only[Yd,Ya,Ye,reduceCtorEq,Yc]
  refine⟨fun hb=>?_,fun c1 c2=>by rw[decide_eq_true c1,decide_eq_false c2];rfl,?_⟩
  ·rw[YS,decide_eq_true_eq]at hb
   have h0:¬((n:Int)=0):=fun e=>by rw[decide_eq_true e]at hb;simp at hb
   rw[Y2 (by omega) (by omega)]
   omega
  ·rw[decide_eq_true (by omega:(n:Int)<=512),Bool.true_and]
   have:(decide ((n:Int)=0) || !decide (((dig a (IntKind.i64.wrap ((n:Int)-1)).toNat:Nat):Int)=0))=true:=by
    rcases KU n with h0|h0
    ·simp [h0]
    ·have ht:=Pc (a:=a) (fun e=>by rw[e,XL]at hna;omega)
     rw[Y2 h0 (by omega),Yh,hna,decide_eq_false (by omega:¬(((dig a (nl a-1):Nat):Int)=0))]
     simp
   rw[this]
   exact Qi h
 ·exact h.1.elim
def WD4:Env:={ ct:=fun _=>none,fn:=fun n=>match n with|113=>some Ci|_=>none,meth:=fun _ _=>none}
theorem YhA:WD4.ct 113=none:=rfl
theorem YhB:WD4.fn 113=some Ci:=rfl
theorem YhC:YE Yb WD4:=by
 refine⟨fun f c h=>?_,fun f vf h=>?_,(fun _ _ _ h=>by cases h),by kernel_rfl,(fun _ h=>by cases h)⟩
 ·cases h
 ·simp only[WD4]at h
  split at h
  ·cases h;exact⟨_,Tryz.func113,YrN,_,Tryz.func113,rfl,rfl⟩
  ·cases h
theorem Tr{k:SV->List HO->Prop}{al:Bool}{hp:List HO}{e:Int}(h:k (.tup [Ym true 0,.int .i64 e]) []):Jv al k (.tup [.nil,.int .i64 e]) hp:=
 Ky (show k _ []from h) (by simp [Ym,XL,QE,Qr,Qs,le,leL]) (fun _=>by simp [Ym,Y0,Y4])
theorem Yuf:resC.ok Yb 76:=by
 refine Yv Tryz.func76 Yts YhC 200 resC fun args k h=>?_
 simp only[resC]at h
 split at h
 ·rename_i tt z n sz get
  obtain⟨a,⟨⟨rfl,hn,ha,hg⟩,hna,hz0⟩,h⟩:=h
  refine⟨[.vs tt z n 1 (fun k=>[.int .u32 (dig a k)])],by simpa [leL,le]using hg,?_⟩
  dsimp only[v76,YhA,YhB,Ci,go_sem,reduceIte,Ya]
  simp only[Yd,Ya,Ye,reduceCtorEq,Yc]
  refine⟨fun hc=>?_,fun hc=>⟨fun hz=>?_,fun hz=>⟨by decide,by unfold Ka;omega,?_⟩⟩⟩
  ·have h:k (.tup [Ym true (Jx a),.int .i64 (ZP a)]) []:=h true
   rw[Jx,ZP,if_neg (by omega),if_neg (by omega)]at h
   exact Tr h
  ·have h:k (.tup [Ym true (Jx a),.int .i64 (ZP a)]) []:=h true
   have:a=0:=nl_eq0.1 (by have:=hz0 hz;omega)
   rw[this]at h
   exact Tr h
  ·have h:k (.tup [Ym (false&&decide (n=0)) (Jx a),.int .i64 (ZP a)]) []:=h _
   rw[Jx,ZP,if_pos (by omega),if_pos (by omega)]at h
   refine Ky h ?_ (fun _=>by simp [Ym,Y0,Y4])
   have e:QE [HO.own (false&&decide (n=0)) 1 (0+n) fun k=>if k<0 then YZ 0 (YR 1 (YK (k*1) []))else [SV.int IntKind.u32 ((dig a (k-0):Nat):Int)]] (SV.tup [SV.own 0 0 (0+n) 1,SV.int IntKind.i64 0])= .tup [.vs true (false&&decide (n=0)) (0+n) 1 (fun k=>[.int .u32 (dig a k)]),.int .i64 0]:=by
    simp [QE,Qr,Qs,viewN,Yq,C8]
   rw[e,KL,hna]
   exact Jq _ ⟨trivial,trivial,trivial⟩
 ·exact h.1.elim
def WD5:Env:={ ct:=fun n=>match n with|110=>some wvalC|_=>none,fn:=fun n=>match n with|107=>some NJ|135=>some NL|108=>some Cg|109=>some Ch|_=>none,meth:=fun _ _=>none}
theorem S6:WD5.ct 110=some wvalC:=rfl
theorem S5:WD5.ct 107=none:=rfl
theorem S8:WD5.fn 107=some NJ:=rfl
theorem S7:WD5.ct 135=none:=rfl
theorem S9:WD5.fn 135=some NL:=rfl
theorem YhD:WD5.ct 108=none:=rfl
theorem YhF:WD5.fn 108=some Cg:=rfl
theorem YhE:WD5.ct 109=none:=rfl
theorem YhG:WD5.fn 109=some Ch:=rfl
theorem YhH:YE Yb WD5:=by
 refine⟨fun f c h=>?_,fun f vf h=>?_,(fun _ _ _ h=>by cases h),by kernel_rfl,(fun _ h=>by cases h)⟩
 ·simp only[WD5]at h
  split at h
  ·cases h;exact⟨Yuh,_,Tryz.func110,rfl,rfl⟩
  ·cases h
 ·simp only[WD5]at h
  split at h
  ·cases h;exact⟨_,Tryz.func107,YrG,_,Tryz.func107,rfl,rfl⟩
  ·cases h;exact⟨_,Tryz.func135,Yr9,_,Tryz.func135,rfl,rfl⟩
  ·cases h;exact⟨_,Tryz.func108,YrH,_,Tryz.func108,rfl,rfl⟩
  ·cases h;exact⟨_,Tryz.func109,YrI,_,Tryz.func109,rfl,rfl⟩
  ·cases h
theorem YeL:wchkC.ok Yb 73:=by
 refine Yv Tryz.func73 Ytp YhH 400 wchkC fun args k h=>?_
 simp only[wchkC]at h
 split at h
 ·rename_i tt z n sz get
  obtain⟨l,⟨⟨rfl,rfl,hg⟩,hl,hn⟩,h⟩:=h
  refine⟨[.vs tt z l.length 1 (fun k=>[H5 (l.getD k default).1 (l.getD k default).2])],by simpa [leL,le]using hg,?_⟩
  dsimp only[v73,S5,S8,NJ,S7,S9,NL,go_sem,reduceIte,Ya]
  simp only[Yd,Ya,Ye,reduceCtorEq,Yc]
  refine Loop.keep [0,0,2,1,0] Nat (fun i=>[(8,.int .i64 i)]) (fun _=>[]) [] (fun i=>i<=l.length) (fun i=>l.length-i) ?_ ?_
  ·refine⟨0,by omega,?_⟩
   dsimp only[go_sem,reduceIte,Ya]
   simp only[Yf]
   try simp
  ·rintro i hi
   dsimp only[YhD,YhF,Cg,S6,wvalC,H5,Yh,go_sem,reduceIte,Ya]
   simp only[Yd,Ya,Ye,reduceCtorEq,Yc]
   have h5:∀i,i<l.length->nl (l.getD i default).2<=512:=fun i hi=>hl _ (KK hi)
   refine⟨fun hlt=>⟨⟨by omega,by omega⟩,fun hc=>?_,fun hc=>⟨i+1,by omega,by omega,?_⟩⟩,fun hge=>?_⟩
   ·have:=h5 i (by omega);omega
   ·rw[Yg ((i:Int)+1) (by omega)]
    simp only[Yf]
    simp
   ·dsimp only[S5,S8,NJ,S7,S9,NL,go_sem,reduceIte,Ya]
    simp only[Yd,Ya,Ye,reduceCtorEq,Yc]
    refine⟨fun hh=>absurd hh (by decide),fun _=>?_⟩
    refine Loop.keep [0,0,2,1,0] Nat (fun i=>[(8,.int .i64 i)]) (fun _=>[]) [] (fun i=>i<=l.length) (fun i=>l.length-i) ?_ ?_
    ·refine⟨0,by omega,?_⟩
     dsimp only[go_sem,reduceIte,Ya]
     simp only[Yf]
     try simp
    ·rintro i hi
     dsimp only[YhE,YhG,Ch,S6,wvalC,H5,Yh,go_sem,reduceIte,Ya]
     simp only[Yd,Ya,Ye,reduceCtorEq,Yc]
     have h5:∀i,i<l.length->nl (l.getD i default).2<=512:=fun i hi=>hl _ (KK hi)
     refine⟨fun hlt=>?_,fun hge=>⟨fun hneg=>absurd hneg (by decide),fun _=>YX h⟩⟩
     ·have:=h5 i (by omega)
      refine⟨⟨by omega,by omega⟩,_,⟨YJ (by omega),rfl,this⟩,i+1,by omega,by omega,?_⟩
      rw[Yg ((i:Int)+1) (by omega)]
      simp only[Yf]
      try simp
 ·exact h.1.elim
def okW(a n sz:Nat)(get:Nat->List SV):Prop:=K6 a n sz get/\n=nl a/\n<=512
def wCmpC:Ctr:={ alias:=false,of:=fun l=>match l with
 | [.vs _ z n sz get,.vs _ z' m sz' get']=> .ex Nat fun a=> .ex Nat fun b=> .pre (okW a n sz get/\okW b m sz' get') (.fin (.tup [.int .i64 (KS a b),.int .i64 0]) [])
 |_=>noC}
def wAddC:Ctr:={ alias:=false,of:=fun l=>match l with
 | [.vs _ z n sz get,.vs _ z' m sz' get']=> .ex Nat fun a=> .ex Nat fun b=> .pre (okW a n sz get/\okW b m sz' get') (.all Bool fun y=> .fin (.tup [Ym y (Jx (a+b)),.int .i64 (ZP (a+b))]) [])
 |_=>noC}
def wMulC:Ctr:={ alias:=false,of:=fun l=>match l with
 | [.vs _ z n sz get,.vs _ z' m sz' get']=> .ex Nat fun a=> .ex Nat fun b=> .pre (okW a n sz get/\okW b m sz' get') (.all Bool fun y=> .fin (.tup [Ym y (Jx (a*b)),.int .i64 (ZP (a*b))]) [])
 |_=>noC}
def shF(a:Nat)(d:Int):Nat:=if d<0 then a/2^(-d).toNat else a*2^d.toNat
def wShiftC:Ctr:={ alias:=false,of:=fun l=>match l with
 | [.vs _ z n sz get,.int .i64 d]=> .ex Nat fun a=> .pre (okW a n sz get/\ -20000<=d/\d<=20000) (.all Bool fun y=> .fin (.tup [Ym y (Jx (shF a d)),.int .i64 (ZP (shF a d))]) [])
 |_=>noC}
def WD6:Env:={ ct:=fun n=>match n with|73=>some wchkC|76=>some resC|77=>some wcmpC|156=>some plusC|75=>some wtimC|158=>some wupC|157=>some wdownC|_=>none,fn:=fun _=>none,meth:=fun _ _=>none}
theorem Dh:WD6.ct 73=some wchkC:=rfl
theorem C5:WD6.ct 76=some resC:=rfl
theorem YhM:WD6.ct 77=some wcmpC:=rfl
theorem YhI:WD6.ct 156=some plusC:=rfl
theorem YhL:WD6.ct 75=some wtimC:=rfl
theorem YhK:WD6.ct 158=some wupC:=rfl
theorem YhJ:WD6.ct 157=some wdownC:=rfl
theorem Di:YE Yb WD6:=by
 refine⟨fun f c h=>?_,fun f vf h=>?_,(fun _ _ _ h=>by cases h),by kernel_rfl,(fun _ h=>by cases h)⟩
 ·simp only[WD6]at h
  split at h
  ·cases h;exact⟨YeL,_,Tryz.func73,rfl,rfl⟩
  ·cases h;exact⟨Yuf,_,Tryz.func76,rfl,rfl⟩
  ·cases h;exact⟨Yt6,_,Tryz.func77,rfl,rfl⟩
  ·cases h;exact⟨Yud,_,Tryz.func156,rfl,rfl⟩
  ·cases h;exact⟨YeU,_,Tryz.func75,rfl,rfl⟩
  ·cases h;exact⟨Yug,_,Tryz.func158,rfl,rfl⟩
  ·cases h;exact⟨Yt7,_,Tryz.func157,rfl,rfl⟩
  ·cases h
 ·cases h
theorem UO{k:SV->List HO->Prop}{al:Bool}{hp:List HO}{κ κ':IntKind}{x y:Int}(h:k (.tup [.int κ x,.int κ' y]) []):Jv al k (.tup [.int κ x,.int κ' y]) hp:=
 Ky (show k _ []from h) (Jq (.tup [.int κ x,.int κ' y]) ⟨trivial,trivial,trivial⟩) (fun _=>by simp [Y0,Y4])
theorem Rs{t1 z1 t2 z2:Bool}{a b:Nat}{hp:List HO}{r:List SV->List SV}:lsP 1 (fun x:Bool×Nat=>[H5 x.1 x.2]) 2 1 (fun k=>Qs false hp r (YR 1 (YK (k*1) [SV.vs t1 z1 (nl a) 1 fun k=>[SV.int IntKind.u32 (dig a k)],SV.vs t2 z2 (nl b) 1 fun k=>[SV.int IntKind.u32 (dig b k)]]))) [(z1,a),(z2,b)]:=
 ⟨rfl,rfl,fun k hk=>match k,hk with
   |0,_=>by refine⟨?_,trivial⟩;exact⟨fun h=>(by cases h),rfl,rfl,rfl,fun j _=>Y1 _⟩
   |1,_=>by refine⟨?_,trivial⟩;exact⟨fun h=>(by cases h),rfl,rfl,rfl,fun j _=>Y1 _⟩⟩
theorem Ybm{t1 z1:Bool}{a:Nat}{hp:List HO}{r:List SV->List SV}:lsP 1 (fun x:Bool×Nat=>[H5 x.1 x.2]) 1 1 (fun k=>Qs false hp r (YR 1 (YK (k*1) [SV.vs t1 z1 (nl a) 1 fun k=>[SV.int IntKind.u32 (dig a k)]]))) [(z1,a)]:=
 ⟨rfl,rfl,fun k hk=>match k,hk with
   |0,_=>by refine⟨?_,trivial⟩;exact⟨fun h=>(by cases h),rfl,rfl,rfl,fun j _=>Y1 _⟩⟩
theorem Rr{z1 z2:Bool}{a b:Nat}(h1:nl a<=512)(h2:nl b<=512):∀x:Bool×Nat,x∈ [(z1,a),(z2,b)]->nl x.2<=512:=by simp [h1,h2]
theorem Ybk{z1:Bool}{a:Nat}(h1:nl a<=512):∀x:Bool×Nat,x∈ [(z1,a)]->nl x.2<=512:=by simp [h1]
theorem F0{k:SV->List HO->Prop}{al:Bool}{hp:List HO}{z:Bool}{a:Nat}{e:Int}(h:k (.tup [Ym z a,.int .i64 e]) []):Jv al k (.tup [Ym z a,.int .i64 e]) hp:=
 Ky (show k _ []from h) (Jq _ ⟨trivial,trivial,trivial⟩) (fun _=>by simp [Ym,Y0,Y4])
theorem YeD:wCmpC.ok Yb 43:=by
 refine Yv Tryz.func43 YsV Di 200 wCmpC fun args k h=>?_
 simp only[wCmpC]at h
 split at h
 ·rename_i t1 z1 n sz get t2 z2 m sz' get'
  obtain⟨a,b,⟨⟨⟨rfl,hn,ha,hg⟩,hna,hn5⟩,⟨rfl,hm,hb,hg'⟩,hmb,hm5⟩,h⟩:=h
  refine⟨[.vs t1 z1 n 1 (fun k=>[.int .u32 (dig a k)]),.vs t2 z2 m 1 (fun k=>[.int .u32 (dig b k)])],⟨by simpa [le]using hg,by simpa [le]using hg',trivial⟩,?_⟩
  dsimp only[v43,Dh,YhM,wchkC,wcmpC,go_sem,reduceIte,Ya]
  simp only[Yd,Ya,Ye,reduceCtorEq,Yc]
  subst hna hmb
  refine⟨by decide,_,⟨Rs,Rr hn5 hm5⟩,fun hh=>absurd trivial hh,a,b,⟨YJ hn,YJ hm,rfl,rfl⟩,UO h⟩
 ·exact h.1.elim
theorem Ynf{a b n:Nat}(h1:nl a<=n)(h2:nl b<=n):nl (a+b)<=n+1:=by
 have h1:=nl_le.1 h1
 have h2:=nl_le.1 h2
 rw[nl_le,Jb]
 generalize(4294967296:Nat)^n=P at*
 omega
theorem Ya1{a b n m:Nat}(h1:nl a<=n)(h2:nl b<=m):nl (a*b)<=n+m:=by
 have h1:=nl_le.1 h1
 have h2:=nl_le.1 h2
 rw[nl_le,Yo]
 exact Nat.mul_lt_mul_of_lt_of_le h1 (JN h2) (Ke _)
theorem Ynh{a e n m k:Nat}(h1:nl a<=n)(he:e<=32*m)(hk:n+m<=k):nl (a*2^e)<=k:=by
 have h1:=nl_le.1 h1
 refine nl_le.2 ?_
 have h2:(2:Nat)^e<=4294967296^m:=by rw[Wr];exact Kl (by decide) he
 refine Qf (Nat.mul_lt_mul_of_lt_of_le h1 h2 (Ke _)) ?_
 rw[<-Yo]
 exact Kl (by decide) hk
theorem YtZ:wAddC.ok Yb 152:=by
 refine Yv Tryz.func152 Ysp Di 200 wAddC fun args k h=>?_
 simp only[wAddC]at h
 split at h
 ·rename_i t1 z1 n sz get t2 z2 m sz' get'
  obtain⟨a,b,⟨⟨⟨rfl,hn,ha,hg⟩,hna,hn5⟩,⟨rfl,hm,hb,hg'⟩,hmb,hm5⟩,h⟩:=h
  refine⟨[.vs t1 z1 n 1 (fun k=>[.int .u32 (dig a k)]),.vs t2 z2 m 1 (fun k=>[.int .u32 (dig b k)])],⟨by simpa [le]using hg,by simpa [le]using hg',trivial⟩,?_⟩
  dsimp only[Yes,Dh,YhI,C5,wchkC,plusC,resC,Ym,go_sem,reduceIte,Ya]
  simp only[Yd,Ya,Ye,reduceCtorEq,Yc]
  subst hna hmb
  have hs:nl (a+b)<=513:=Ynf hn5 hm5
  refine⟨by decide,_,⟨Rs,Rr hn5 hm5⟩,fun hh=>absurd trivial hh,a,b,⟨YJ hn,YJ hm,by omega,by omega⟩,a+b,⟨YJ (by omega),rfl⟩,fun y=>?_⟩
  refine⟨by decide,by decide,?_⟩
  exact F0 (show k (.tup [Ym y (Jx (a+b)),.int .i64 (ZP (a+b))]) []from h y)
 ·exact h.1.elim
theorem RI:wMulC.ok Yb 40:=by
 refine Yv Tryz.func40 YsS Di 200 wMulC fun args k h=>?_
 simp only[wMulC]at h
 split at h
 ·rename_i t1 z1 n sz get t2 z2 m sz' get'
  obtain⟨a,b,⟨⟨⟨rfl,hn,ha,hg⟩,hna,hn5⟩,⟨rfl,hm,hb,hg'⟩,hmb,hm5⟩,h⟩:=h
  refine⟨[.vs t1 z1 n 1 (fun k=>[.int .u32 (dig a k)]),.vs t2 z2 m 1 (fun k=>[.int .u32 (dig b k)])],⟨by simpa [le]using hg,by simpa [le]using hg',trivial⟩,?_⟩
  dsimp only[v40,Dh,YhL,C5,wchkC,wtimC,resC,Ym,go_sem,reduceIte,Ya]
  simp only[Yd,Ya,Ye,reduceCtorEq,Yc]
  subst hna hmb
  have hs:nl (a*b)<=1024:=Ya1 (n:=512) (m:=512) hn5 hm5
  refine⟨by decide,_,⟨Rs,Rr hn5 hm5⟩,fun hh=>absurd trivial hh,a,b,⟨YJ hn,YJ hm,by omega⟩,a*b,⟨YJ (by omega),rfl⟩,fun y=>?_⟩
  refine⟨by decide,by decide,?_⟩
  exact F0 (show k (.tup [Ym y (Jx (a*b)),.int .i64 (ZP (a*b))]) []from h y)
 ·exact h.1.elim
theorem YeJ:wShiftC.ok Yb 155:=by
 refine Yv Tryz.func155 Yss Di 200 wShiftC fun args k h=>?_
 simp only[wShiftC]at h
 split at h
 ·rename_i t1 z1 n sz get d
  obtain⟨a,⟨⟨⟨rfl,hn,ha,hg⟩,hna,hn5⟩,hd0,hd1⟩,h⟩:=h
  refine⟨[.vs t1 z1 n 1 (fun k=>[.int .u32 (dig a k)]),.int .i64 d],⟨by simpa [le]using hg,⟨rfl,rfl⟩,trivial⟩,?_⟩
  dsimp only[Yev,Dh,YhK,YhJ,C5,wchkC,wupC,wdownC,resC,Ym,go_sem,reduceIte,Ya]
  simp only[Yd,Ya,Ye,reduceCtorEq,Yc]
  subst hna
  refine⟨by decide,_,⟨Ybm,Ybk hn5⟩,fun hh=>absurd trivial hh,fun hb=>?_,fun _=>⟨fun hneg=>?_,fun hpos=>?_⟩⟩
  ·rw[Qt,decide_eq_true_eq,decide_eq_true_eq]at hb
   omega
  ·obtain⟨e,he⟩:∃e:Nat,e=(-d).toNat:=⟨_,rfl⟩
   have e1:IntKind.i64.wrap (0-d)=(e:Int):=by rw[he,Yg _ (by omega)];omega
   rw[e1]
   have hdl:nl (a/2^e)<=512:=Yj (G9 (QP _ _)) hn5
   refine⟨a,e,⟨YJ hn,by omega,rfl,by omega⟩,fun z=>⟨a/2^e,⟨YJ (by omega),rfl,fun hz=>?_⟩,fun y=>⟨by decide,by decide,?_⟩⟩⟩
   ·rw[YS,decide_eq_true_eq]at hz
    rw[hz.2,XL]
   ·have h:k (.tup [Ym y (Jx (shF a d)),.int .i64 (ZP (shF a d))]) []:=h y
    rw[shF,if_pos hneg,<-he]at h
    exact F0 h
  ·obtain⟨e,he⟩:∃e:Nat,e=d.toNat:=⟨_,rfl⟩
   have hde:d=(e:Int):=by omega
   have hdl:nl (a*2^e)<=2000:=Ynh (n:=512) (m:=626) hn5 (by omega) (by decide)
   refine⟨a,e,⟨YJ hn,rfl,by omega,hde,by omega⟩,fun z=>⟨a*2^e,⟨YJ (by omega),rfl,fun hz=>?_⟩,fun y=>⟨by decide,by decide,?_⟩⟩⟩
   ·rw[YS,decide_eq_true_eq]at hz
    rw[hz.2,XL]
   ·have h:k (.tup [Ym y (Jx (shF a d)),.int .i64 (ZP (shF a d))]) []:=h y
    rw[shF,if_neg hpos,<-he]at h
    exact F0 h
 ·exact h.1.elim
abbrev Fr:=Int×Nat
theorem Yh4{k:SV->List HO->Prop}{al:Bool}{hp:List HO}{κ κ':IntKind}{x y:Int}(h:k (.tup [.int κ x,.int κ' y]) []):Jv al k (.tup [.int κ x,.int κ' y]) hp:=
 Ky (show k _ []from h) (Jq (.tup [.int κ x,.int κ' y]) ⟨trivial,trivial,trivial⟩) (fun _=>by simp [Y0,Y4])
theorem ord_ge{a b:Nat}:0<=KS a b↔b<=a:=by unfold KS;split <;> (try split) <;> omega
theorem TL:∀(f x:Nat),x<2^f->Lib.bitLenAux f x=Yw x
 |0,x,h=>by
  have:x=0:=by simpa using h
  subst this;rfl
 |f+1,x,h=>by
  rw[Lib.bitLenAux]
  split
  ·rename_i h0;subst h0;rfl
  ·rename_i h0
   rw[YF]at h
   rw[TL f (x/2) (by omega),Dt (a:=x) (by omega)];omega
theorem Yir{x:Nat}(h:x<18446744073709551616):Lib.bitLen x=Yw x:=TL 64 x h
def len64C:Ctr:={ alias:=false,of:=fun l=>match l with
 | [.int .u64 x]=> .pre (0<=x/\x<=18446744073709551615) (.fin (.int .i64 (Yw x.toNat)) [])
 |_=>noC}
theorem LQ:len64C.ok Yb 138:=by
 intro args vs z k hsat hx hc
 simp only[len64C]at hc
 split at hc
 ·rename_i x
  obtain⟨⟨h0,h1⟩,hc⟩:=hc
  cases hx with|cons _ v _ l g1 hx=>
  cases hx
  cases g1
  refine(len64_calls x z.toWorld h0 h1).mono ?_
  rintro e w' ⟨rfl,rfl⟩
  rw[Yir (by omega)]
  exact⟨_,[],_,[],z.I,Ql z,hc,rfl,.x _ _ (.int _ _),hp0 (hJ:=Ql z) hsat.1,BelowI.refl _ _,fun _=>⟨trivial,trivial⟩⟩
 ·exact hc.1.elim
def Yeq:VF:={ ntmps:=51,res:=[.tmp 4,.tmp 5],body:=
 (ZR [u1 4 .mov [.cn (.int .u64 0)],
 u1 5 .mov [.cn (.int .u64 0)]]
 (ZR [Zm 14 0,
 u1 15 (.bit .and) [.tm 14,.cn (.int .u64 4294967295)],
 Zm 6 15]
 (ZR [Zm 16 0,
 u1 17 .shr [.tm 16,.cn (.int .u64 32)],
 Zm 7 17]
 (ZR [Zm 18 1,
 u1 19 (.bit .and) [.tm 18,.cn (.int .u64 4294967295)],
 Zm 8 19]
 (ZR [Zm 20 1,
 u1 21 .shr [.tm 20,.cn (.int .u64 32)],
 Zm 9 21]
 (ZR [Zm 22 6,
 Zm 23 8,
 Zo 24 .mul 22 23,
 Zm 10 24]
 (ZR [Zm 25 7,
 Zm 26 8,
 Zo 27 .mul 25 26,
 Zm 28 10,
 u1 29 .shr [.tm 28,.cn (.int .u64 32)],
 Zo 30 .add 27 29,
 Zm 11 30]
 (ZR [Zm 31 11,
 u1 32 (.bit .and) [.tm 31,.cn (.int .u64 4294967295)],
 Zm 12 32]
 (ZR [Zm 33 11,
 u1 34 .shr [.tm 33,.cn (.int .u64 32)],
 Zm 13 34]
 (ZR [Zm 35 12,
 Zm 36 6,
 Zm 37 9,
 Zo 38 .mul 36 37,
 Zo 39 .add 35 38,
 Zm 12 39]
 (ZR [Zm 40 7,
 Zm 41 9,
 Zo 42 .mul 40 41,
 Zm 43 13,
 Zo 44 .add 42 43,
 Zm 45 12,
 u1 46 .shr [.tm 45,.cn (.int .u64 32)],
 Zo 47 .add 44 46,
 Zm 4 47]
 (ZR [Zm 48 0,
 Zm 49 1,
 Zo 50 .mul 48 49,
 Zm 5 50]
 .ret))))))))))))}
theorem Ysm:Yn Yb Tryz.f149=some Yeq:=by kernel_rfl
def mul64C:Ctr:={ alias:=false,of:=fun l=>match l with
 | [.int .u64 x,.int .u64 y]=> .pre ((0<=x/\x<=18446744073709551615)/\0<=y/\y<=18446744073709551615) (.fin (.tup [.int .u64 (x*y/18446744073709551616),.int .u64 (x*y%18446744073709551616)]) [])
 |_=>noC}
def B0:Env:={ ct:=fun n=>match n with|138=>some len64C|_=>none,fn:=fun _=>none,meth:=fun _ _=>none}
theorem Ye0:YE Yb B0:=by
 refine⟨fun f c h=>?_,fun f vf h=>?_,(fun _ _ _ h=>by cases h),by kernel_rfl,(fun _ h=>by cases h)⟩
 ·simp only[B0]at h
  split at h
  ·cases h;exact⟨LQ,_,Tryz.func138,rfl,rfl⟩
  ·cases h
 ·cases h
theorem Er{x:Nat}(h:x<18446744073709551616):Jw .and .u64 (x:Int) 4294967295=((x%4294967296:Nat):Int):=Yh2 h
theorem TA{x y:Nat}(hx:x<18446744073709551616)(hy:y<18446744073709551616):Jw .or .u64 (x:Int) (y:Int)=((x||| y:Nat):Int):=Ybr hx hy
theorem YaP:mul64C.ok Yb 149:=by
 refine Yv Tryz.func149 Ysm Ye0 200 mul64C fun args k h=>?_
 simp only[mul64C]at h
 split at h
 ·rename_i x y
  obtain⟨⟨⟨h0,h1⟩,h2,h3⟩,h⟩:=h
  obtain⟨x,rfl⟩:=Vl h0
  obtain⟨y,rfl⟩:=Vl h2
  refine⟨[.int .u64 x,.int .u64 y],by simp [leL,le],?_⟩
  (try dsimp only[Yeq,go_sem,reduceIte,Ya])
  (try simp only[Yd,Ya,Ye,reduceCtorEq,Yc])
  have hx:x<18446744073709551616:=by omega
  have hy:y<18446744073709551616:=by omega
  obtain⟨e,b1,b2,b3,b4,b5,b6,b7,b8⟩:=YmT hx hy
  have s32:∀z:Nat,(z:Int).fdiv (2^min (Xi 32) IntKind.u64.bits)=((z/4294967296:Nat):Int):=fun z=>Fu (s:=32) (by decide)
  have hm:∀z:Nat,z%4294967296<18446744073709551616:=fun z=>by omega
  try rw[show IntKind.u64.bits=64 from rfl]at*
  rw[Er hx,Er hy,s32 x,s32 y,NE b1,s32 (x%4294967296*(y%4294967296)),NE b2,UC b3,s32 (x/4294967296*(y%4294967296)+x%4294967296*(y%4294967296)/4294967296),Er b3,NE b4,UC b5,s32,NE b6,UC b7,UC b8,e,Ce]
  refine⟨by decide,by decide,by decide,by decide,by decide,?_⟩
  have h:k (.tup [.int .u64 ((x:Int)*y/18446744073709551616),.int .u64 ((x:Int)*y%18446744073709551616)]) []:=h
  have e2:((x*y/18446744073709551616:Nat):Int)=(x:Int)*y/18446744073709551616:=by
   rw[<-JV];generalize x*y=z;omega
  rw[e2]
  exact Yh4 h
 ·exact h.1.elim
def B2:Env:={ ct:=fun _=>none,fn:=fun _=>none,meth:=fun _ _=>none}
def Yd9:VF:={ ntmps:=6,res:=[.tmp 2],body:=
 (ZR [u1 2 .mov [.cn .nil]]
 (ZR [Zm 3 0,
 u1 4 (.conv .u64) [.tm 3],
 Zc 5 38 4,
 Zm 2 5]
 .ret))}
theorem Yr3:Yn Yb Tryz.f129=some Yd9:=by kernel_rfl
def Yd7:VF:={ ntmps:=14,res:=[.tmp 4],body:=
 (ZR [u1 4 .mov [.cn .nil]]
 (ZR [Zm 8 0,
 Zm 9 1,
 Zd 10 152 8 9,
 Zm 7 10,
 Ze 11 0 7,
 Ze 12 1 7,
 Zm 5 11,
 Zm 6 12]
 (ZR [Zm 13 5,
 Zm 4 13]
 .ret)))}
theorem Yr1:Yn Yb Tryz.f127=some Yd7:=by kernel_rfl
def Yd8:VF:={ ntmps:=14,res:=[.tmp 4],body:=
 (ZR [u1 4 .mov [.cn .nil]]
 (ZR [Zm 8 0,
 Zm 9 1,
 Zd 10 40 8 9,
 Zm 7 10,
 Ze 11 0 7,
 Ze 12 1 7,
 Zm 5 11,
 Zm 6 12]
 (ZR [Zm 13 5,
 Zm 4 13]
 .ret)))}
theorem Yr2:Yn Yb Tryz.f128=some Yd8:=by kernel_rfl
def v89:VF:=⟨15,[.tmp 4],(ZR [u1 4 .mov [.cn (.bool false)]] (ZR [Zm 8 0,Zm 9 1,Zd 10 43 8 9,Zm 7 10,Ze 11 0 7,Ze 12 1 7,Zm 5 11,Zm 6 12] (ZR [Zm 13 5,Zq 14 .gtr 13 0,Zm 4 14] .ret)))⟩
theorem YtE:Yn Yb Tryz.f89=some v89:=by kernel_rfl
def Yer:VF:={ ntmps:=34,res:=[.tmp 6],body:=
 (ZR [u1 6 .mov [.cn .nil]]
 (ZR [Zm 12 0,
 Zm 13 1,
 Zd 14 155 12 13,
 Zm 11 14,
 Ze 15 0 11,
 Ze 16 1 11,
 Zm 7 15,
 Zm 8 16]
 (.seq (ZR [Zm 18 7,
 Zm 19 1,
 u1 20 .neg [.tm 19],
 Zd 21 155 18 20,
 Zm 17 21,
 Ze 22 0 17,
 Ze 23 1 17,
 Zm 9 22,
 Zm 10 23]
 (ZR [Zm 24 2,
 Zm 25 24,
 Zg 26 25 true 0,
 Zg 27 25 true 9,
 u2 28 25 true (.call 89) [.tm 26,.tm 27],
 u1 29 .and [.tm 25,.tm 28]]
 (ZC 29 (.region [Zm 30 7,
 u1 31 (.call 129) [.cn (.int .i64 1)],
 Zd 32 127 30 31,
 Zm 7 32])
  .skip)))
 (ZR [Zm 33 7,
 Zm 6 33]
 .ret))))}
theorem Yso:Yn Yb Tryz.f151=some Yer:=by kernel_rfl
def Yd6:VF:={ ntmps:=97,res:=[.tmp 4,.tmp 5],body:=
 (ZR [u1 4 .mov [.cn .nil],
 u1 5 .mov [.cn .nil]]
 (ZR [Zm 15 0,
 u1 16 (.conv .u64) [.tm 15],
 Zc 17 138 16,
 u1 18 (.ari .sub) [.tm 17,.cn (.int .i64 1)],
 Zm 6 18]
 (ZR [Zm 19 6,
 Zc 20 129 19,
 Zm 21 1,
 u1 22 (.call 151) [.tm 20,.tm 21,.cn (.bool false)],
 Zm 7 22]
 (.seq (ZR [Zm 23 0,
 Zm 24 0,
 u1 25 (.ari .sub) [.tm 24,.cn (.int .i64 1)],
 u1 26 (.bit .and) [.tm 23,.tm 25],
 Zq 27 .eql 26 0]
 (ZC 27 (ZR [Zm 28 7,
 Zm 29 7,
 Zm 4 28,
 Zm 5 29]
 .ret)
  .skip))
 (ZR [Zm 30 1,
 u1 31 (.ari .mul) [.cn (.int .i64 2),.tm 30],
 Zp 32 31 64,
 Zm 8 32]
 (ZR [Zm 33 0,
 Zc 34 129 33,
 Zm 35 8,
 Zm 36 6,
 Zo 37 .sub 35 36,
 u1 38 (.call 151) [.tm 34,.tm 37,.cn (.bool false)],
 Zm 9 38]
 (ZR [Zm 39 9,
 Zm 10 39]
 (ZR [u1 40 (.call 129) [.cn (.int .i64 2)],
 Zm 41 8,
 u1 42 (.call 151) [.tm 40,.tm 41,.cn (.bool false)],
 Zm 11 42]
 (ZR [Zm 43 6,
 Zc 44 129 43,
 Zm 12 44,
 Zi 13 0]
 (.seq (.block 0 (.loop (.seq (ZR [Zm 45 13,
 Zm 46 1,
 Zr 47 .lss 45 46]
 (ZC 47 .skip
  (.exit 0)))
 (.seq (.block 1 (ZR [Zm 50 9,
 Zm 51 9,
 Zd 52 128 50 51,
 Zm 53 8,
 u1 54 .neg [.tm 53],
 u1 55 (.call 151) [.tm 52,.tm 54,.cn (.bool false)],
 Zm 56 10,
 Zm 57 10,
 Zd 58 128 56 57,
 Zm 59 8,
 u1 60 .neg [.tm 59],
 u1 61 (.call 151) [.tm 58,.tm 60,.cn (.bool true)],
 Zm 9 55,
 Zm 10 61]
 (ZR [Zi 14 0]
 (.seq (.block 2 (ZR [Zm 63 11,
 Zm 64 9,
 Zd 65 89 63 64,
 u1 66 .not [.tm 65],
 Zm 62 66]
 (ZC 62 (.region [Zm 67 9,
 u1 68 (.call 151) [.tm 67,.cn (.int .i64 (-1)),.cn (.bool false)],
 Zm 69 10,
 u1 70 (.call 151) [.tm 69,.cn (.int .i64 (-1)),.cn (.bool true)],
 Zm 9 68,
 Zm 10 70,
 Zi 14 1])
  (ZR [Zm 72 11,
 Zm 73 10,
 Zd 74 89 72 73,
 u1 75 .not [.tm 74],
 Zm 71 75]
 (ZC 71 (ZR [Zm 76 12,
 Zm 77 1,
 Zm 78 13,
 Zo 79 .sub 77 78,
 u1 80 (.call 151) [.tm 76,.tm 79,.cn (.bool false)],
 Zm 81 12,
 u1 82 (.call 129) [.cn (.int .i64 1)],
 Zd 83 127 81 82,
 Zm 84 1,
 Zm 85 13,
 Zo 86 .sub 84 85,
 u1 87 (.call 151) [.tm 83,.tm 86,.cn (.bool false)],
 Zm 4 80,
 Zm 5 87]
 .ret)
  .skip)))))
 (.region [Zm 88 12,
 u1 89 (.call 151) [.tm 88,.cn (.int .i64 1),.cn (.bool false)],
 Zm 90 14,
 Zc 91 129 90,
 Zd 92 127 89 91,
 Zm 12 92])))))
 (.region [Zm 48 13,
 Zp 49 48 1,
 Zm 13 49])))))
 (ZR [Zm 93 12,
 Zm 94 12,
 u1 95 (.call 129) [.cn (.int .i64 1)],
 Zd 96 127 94 95,
 Zm 4 93,
 Zm 5 96]
 .ret)))))))))))}
theorem Yr0:Yn Yb Tryz.f126=some Yd6:=by kernel_rfl
theorem HG(a:Nat):nl (Jx a)<=512:=by
 unfold Jx
 split
 ·assumption
 ·rw[XL];omega
def Xj(a b:Nat):Nat:=Jx (a+b)
def QZ(a b:Nat):Nat:=Jx (a*b)
def Kd(a:Nat)(d:Int)(up:Bool):Nat:=
 if(up&&decide (Jx (shF (Jx (shF a d)) (-d))<a))=true then Xj (Jx (shF a d)) 1 else Jx (shF a d)
theorem Vt(a b:Nat):nl (Xj a b)<=512:=HG _
theorem H3(a b:Nat):nl (QZ a b)<=512:=HG _
theorem WI(a:Nat)(d:Int)(up:Bool):nl (Kd a d up)<=512:=by
 unfold Kd
 split <;> exact HG _
theorem Y7{a:Nat}(h:nl a<=512):okW a (nl a) 1 (fun k=>[.int .u32 (dig a k)]):=⟨YJ (by omega),rfl,h⟩
theorem Gl{a:Nat}(h:a<18446744073709551616):nl a<=2:=nl_le.2 (by omega)
def numWC:Ctr:={ alias:=false,of:=fun l=>match l with
 | [.int .i64 n]=> .pre (0<=n/\n<=9223372036854775807) (.fin (Ym false n.toNat) [])
 |_=>noC}
def addWC:Ctr:={ alias:=false,of:=fun l=>match l with
 | [.vs _ z n sz get,.vs _ z' m sz' get']=> .ex Nat fun a=> .ex Nat fun b=> .pre (okW a n sz get/\okW b m sz' get') (.all Bool fun y=> .fin (Ym y (Xj a b)) [])
 |_=>noC}
def timesWC:Ctr:={ alias:=false,of:=fun l=>match l with
 | [.vs _ z n sz get,.vs _ z' m sz' get']=> .ex Nat fun a=> .ex Nat fun b=> .pre (okW a n sz get/\okW b m sz' get') (.all Bool fun y=> .fin (Ym y (QZ a b)) [])
 |_=>noC}
def aboveC:Ctr:={ alias:=false,of:=fun l=>match l with
 | [.vs _ z n sz get,.vs _ z' m sz' get']=> .ex Nat fun a=> .ex Nat fun b=> .pre (okW a n sz get/\okW b m sz' get') (.fin (.bool (decide (b<a))) [])
 |_=>noC}
def movC:Ctr:={ alias:=false,of:=fun l=>match l with
 | [.vs _ z n sz get,.int .i64 d,.bool up]=> .ex Nat fun a=> .pre (okW a n sz get/\ -20000<=d/\d<=20000) (.all Bool fun y=> .fin (Ym y (Kd a d up)) [])
 |_=>noC}
def RA0:Env:={ ct:=fun n=>match n with|38=>some ofC|152=>some wAddC|40=>some wMulC|43=>some wCmpC|155=>some wShiftC|_=>none,fn:=fun _=>none,meth:=fun _ _=>none}
theorem YfI:RA0.ct 38=some ofC:=rfl
theorem YfH:RA0.ct 152=some wAddC:=rfl
theorem YfJ:RA0.ct 40=some wMulC:=rfl
theorem YfK:RA0.ct 43=some wCmpC:=rfl
theorem N0:YE Yb RA0:=by
 refine⟨fun f c h=>?_,fun f vf h=>?_,(fun _ _ _ h=>by cases h),by kernel_rfl,(fun _ h=>by cases h)⟩
 ·simp only[RA0]at h
  split at h
  ·cases h;exact⟨RJ,_,Tryz.func38,rfl,rfl⟩
  ·cases h;exact⟨YtZ,_,Tryz.func152,rfl,rfl⟩
  ·cases h;exact⟨RI,_,Tryz.func40,rfl,rfl⟩
  ·cases h;exact⟨YeD,_,Tryz.func43,rfl,rfl⟩
  ·cases h;exact⟨YeJ,_,Tryz.func155,rfl,rfl⟩
  ·cases h
 ·cases h
theorem Pg:numWC.ok Yb 129:=by
 refine Yv Tryz.func129 Yr3 N0 200 numWC fun args k h=>?_
 simp only[numWC]at h
 split at h
 ·rename_i n
  obtain⟨⟨h0,h1⟩,h⟩:=h
  refine⟨[.int .i64 n],by simp [leL,le],?_⟩
  dsimp only[Yd9,YfI,ofC,Ym,go_sem,reduceIte,Ya]
  simp only[Yd,Ya,Ye,reduceCtorEq,Yc]
  rw[Z8 _ (by omega)]
  exact⟨⟨h0,by omega⟩,UN (t:=true) h⟩
 ·exact h.1.elim
theorem C9:addWC.ok Yb 127:=by
 refine Yv Tryz.func127 Yr1 N0 200 addWC fun args k h=>?_
 simp only[addWC]at h
 split at h
 ·rename_i t1 z1 n sz get t2 z2 m sz' get'
  obtain⟨a,b,⟨⟨⟨rfl,hn,ha,hg⟩,hna,hn5⟩,⟨rfl,hm,hb,hg'⟩,hmb,hm5⟩,h⟩:=h
  refine⟨[.vs t1 z1 n 1 (fun k=>[.int .u32 (dig a k)]),.vs t2 z2 m 1 (fun k=>[.int .u32 (dig b k)])],⟨by simpa [le]using hg,by simpa [le]using hg',trivial⟩,?_⟩
  dsimp only[Yd7,YfH,wAddC,Ym,go_sem,reduceIte,Ya]
  simp only[Yd,Ya,Ye,reduceCtorEq,Yc]
  subst hna hmb
  exact⟨a,b,⟨Y7 hn5,Y7 hm5⟩,fun y=>⟨by decide,by decide,UN (t:=true) (h y)⟩⟩
 ·exact h.1.elim
theorem YaQ:timesWC.ok Yb 128:=by
 refine Yv Tryz.func128 Yr2 N0 200 timesWC fun args k h=>?_
 simp only[timesWC]at h
 split at h
 ·rename_i t1 z1 n sz get t2 z2 m sz' get'
  obtain⟨a,b,⟨⟨⟨rfl,hn,ha,hg⟩,hna,hn5⟩,⟨rfl,hm,hb,hg'⟩,hmb,hm5⟩,h⟩:=h
  refine⟨[.vs t1 z1 n 1 (fun k=>[.int .u32 (dig a k)]),.vs t2 z2 m 1 (fun k=>[.int .u32 (dig b k)])],⟨by simpa [le]using hg,by simpa [le]using hg',trivial⟩,?_⟩
  dsimp only[Yd8,YfJ,wMulC,Ym,go_sem,reduceIte,Ya]
  simp only[Yd,Ya,Ye,reduceCtorEq,Yc]
  subst hna hmb
  exact⟨a,b,⟨Y7 hn5,Y7 hm5⟩,fun y=>⟨by decide,by decide,UN (t:=true) (h y)⟩⟩
 ·exact h.1.elim
theorem C7:aboveC.ok Yb 89:=by
 refine Yv Tryz.func89 YtE N0 200 aboveC fun args k h=>?_
 simp only[aboveC]at h
 split at h
 ·rename_i t1 z1 n sz get t2 z2 m sz' get'
  obtain⟨a,b,⟨⟨⟨rfl,hn,ha,hg⟩,hna,hn5⟩,⟨rfl,hm,hb,hg'⟩,hmb,hm5⟩,h⟩:=h
  refine⟨[.vs t1 z1 n 1 (fun k=>[.int .u32 (dig a k)]),.vs t2 z2 m 1 (fun k=>[.int .u32 (dig b k)])],⟨by simpa [le]using hg,by simpa [le]using hg',trivial⟩,?_⟩
  dsimp only[v89,YfK,wCmpC,Ym,go_sem,reduceIte,Ya]
  simp only[Yd,Ya,Ye,reduceCtorEq,Yc]
  subst hna hmb
  have e:decide (0<KS a b)=decide (b<a):=by
   unfold KS
   by_cases h1:a<b
   ·rw[if_pos h1,decide_eq_false (by omega:¬b<a)];rfl
   ·rw[if_neg h1]
    by_cases h2:b<a
    ·rw[if_pos h2,decide_eq_true h2];rfl
    ·rw[if_neg h2,decide_eq_false h2];rfl
  refine⟨a,b,⟨Y7 hn5,Y7 hm5⟩,by decide,by decide,?_⟩
  rw[e]
  exact Qi h
 ·exact h.1.elim
def RA1:Env:={ ct:=fun n=>match n with|155=>some wShiftC|89=>some aboveC|127=>some addWC|129=>some numWC|_=>none,fn:=fun _=>none,meth:=fun _ _=>none}
theorem YfN:RA1.ct 155=some wShiftC:=rfl
theorem YfO:RA1.ct 89=some aboveC:=rfl
theorem YfL:RA1.ct 127=some addWC:=rfl
theorem YfM:RA1.ct 129=some numWC:=rfl
theorem YfP:YE Yb RA1:=by
 refine⟨fun f c h=>?_,fun f vf h=>?_,(fun _ _ _ h=>by cases h),by kernel_rfl,(fun _ h=>by cases h)⟩
 ·simp only[RA1]at h
  split at h
  ·cases h;exact⟨YeJ,_,Tryz.func155,rfl,rfl⟩
  ·cases h;exact⟨C7,_,Tryz.func89,rfl,rfl⟩
  ·cases h;exact⟨C9,_,Tryz.func127,rfl,rfl⟩
  ·cases h;exact⟨Pg,_,Tryz.func129,rfl,rfl⟩
  ·cases h
 ·cases h
theorem YmP:movC.ok Yb 151:=by
 refine Yv Tryz.func151 Yso YfP 300 movC fun args k h=>?_
 simp only[movC]at h
 split at h
 ·rename_i t1 z1 n sz get d up
  obtain⟨a,⟨⟨⟨rfl,hn,ha,hg⟩,hna,hn5⟩,hd0,hd1⟩,h⟩:=h
  refine⟨[.vs t1 z1 n 1 (fun k=>[.int .u32 (dig a k)]),.int .i64 d,.bool up],⟨by simpa [le]using hg,⟨rfl,rfl⟩,rfl,trivial⟩,?_⟩
  dsimp only[Yer,YfN,YfO,YfL,YfM,wShiftC,aboveC,addWC,numWC,Ym,go_sem,reduceIte,Ya]
  simp only[Yd,Ya,Ye,reduceCtorEq,Yc]
  subst hna
  have hneg:IntKind.i64.wrap (0-d)= -d:=by rw[Yg _ (by omega)];omega
  rw[hneg]
  have h1:nl 1<=512:=by have:= @Gl 1 (by decide);omega
  refine⟨a,⟨Y7 hn5,hd0,hd1⟩,fun y=>⟨by decide,by decide,Jx (shF a d),⟨Y7 (HG _),by omega,by omega⟩,by decide,by decide,a,Jx (shF (Jx (shF a d)) (-d)),fun _=>⟨Y7 hn5,Y7 (HG _)⟩,fun hc=>⟨by decide,Jx (shF a d),1,⟨Y7 (HG _),Y7 h1⟩,fun z=>?_⟩,fun hc=>?_⟩⟩
  ·have h:k (Ym z (Kd a d up)) []:=h z
   rw[Kd,if_pos hc]at h
   exact UN (t:=true) h
  ·have h:k (Ym y (Kd a d up)) []:=h y
   rw[Kd,if_neg (by rw[hc];decide)]at h
   exact UN (t:=true) h
 ·exact h.1.elim
def JZ(n:Int):Bool:=decide (Jw .and .i64 n (IntKind.i64.wrap (n-1))=0)
def QY(two:Nat)(deep:Int):Nat->Nat->Nat->Nat->Nat×Nat
 |0,_,_,sum=>(sum,Xj sum 1)
 |f+1,a,b,sum=>
  let a1:=Kd (QZ a a) (-deep) false
  let b1:=Kd (QZ b b) (-deep) true
  if a1<two then
   if b1<two then QY two deep f a1 b1 (Xj (Kd sum 1 false) 0)
   else(Kd sum ((f+1:Nat):Int) false,Kd (Xj sum 1) ((f+1:Nat):Int) false)
  else QY two deep f (Kd a1 (-1) false) (Kd b1 (-1) true) (Xj (Kd sum 1 false) 1)
def JL(n:Int)(p:Nat):Nat×Nat:=
 let k:=Yw n.toNat-1
 if JZ n=true then(Kd k p false,Kd k p false)
 else
  let deep:Int:=((2*p+64:Nat):Int)
  let a:=Kd n.toNat (deep-k) false
  QY (Kd 2 deep false) deep p a a k
theorem L0{two:Nat}{deep:Int}:∀(f a b sum:Nat),nl sum<=512->nl (QY two deep f a b sum).1<=512/\nl (QY two deep f a b sum).2<=512
 |0,_,_,sum,h=>⟨h,Vt _ _⟩
 |f+1,a,b,sum,h=>by
  rw[QY]
  split
  ·split
   ·exact L0 f _ _ _ (Vt _ _)
   ·exact⟨WI sum _ false,WI (Xj sum 1) _ false⟩
  ·exact L0 f _ _ _ (Vt _ _)
theorem Yms(n:Int)(p:Nat)(hn:n<=9223372036854775807):nl (JL n p).1<=512/\nl (JL n p).2<=512:=by
 rw[JL]
 by_cases hb:JZ n=true
 ·rw[if_pos hb];exact⟨WI (Yw n.toNat-1) p false,WI (Yw n.toNat-1) p false⟩
 ·rw[if_neg hb]
  refine L0 _ _ _ _ ?_
  have h1:Yw n.toNat<=64:=bitsN_le.2 (by have:(2:Nat)^64=18446744073709551616:=rfl;omega)
  have:= @Gl (Yw n.toNat-1) (by omega)
  omega
structure LSt where
 i:Nat
 a:Nat
 b:Nat
 s:Nat
 za:Bool
 zb:Bool
 zs:Bool
theorem Ed{k:SV->List HO->Prop}{al:Bool}{hp:List HO}{y z:Bool}{a b:Nat}(h:k (.tup [Ym y a,Ym z b]) []):Jv al k (.tup [Ym y a,Ym z b]) hp:=
 Ky (show k _ []from h) (Jq _ ⟨trivial,trivial,trivial⟩) (fun _=>by simp [Ym,Y0,Y4])
def logC:Ctr:={ alias:=false,of:=fun l=>match l with
 | [.int .i64 n,.int .i64 p]=> .ex Nat fun q=> .pre (1<=n/\n<=9223372036854775807/\p=q/\q<=2048) (.all Bool fun y=> .all Bool fun z=> .fin (.tup [Ym y (JL n q).1,Ym z (JL n q).2]) [])
 |_=>noC}
def RA2:Env:={ ct:=fun n=>match n with|138=>some len64C|89=>some aboveC|127=>some addWC|128=>some timesWC|129=>some numWC|151=>some movC|_=>none,fn:=fun _=>none,meth:=fun _ _=>none}
theorem Sd:RA2.ct 138=some len64C:=rfl
theorem Sf:RA2.ct 89=some aboveC:=rfl
theorem Sa:RA2.ct 127=some addWC:=rfl
theorem Sb:RA2.ct 128=some timesWC:=rfl
theorem Sc:RA2.ct 129=some numWC:=rfl
theorem Se:RA2.ct 151=some movC:=rfl
theorem YfQ:YE Yb RA2:=by
 refine⟨fun f c h=>?_,fun f vf h=>?_,(fun _ _ _ h=>by cases h),by kernel_rfl,(fun _ h=>by cases h)⟩
 ·simp only[RA2]at h
  split at h
  ·cases h;exact⟨LQ,_,Tryz.func138,rfl,rfl⟩
  ·cases h;exact⟨C7,_,Tryz.func89,rfl,rfl⟩
  ·cases h;exact⟨C9,_,Tryz.func127,rfl,rfl⟩
  ·cases h;exact⟨YaQ,_,Tryz.func128,rfl,rfl⟩
  ·cases h;exact⟨Pg,_,Tryz.func129,rfl,rfl⟩
  ·cases h;exact⟨YmP,_,Tryz.func151,rfl,rfl⟩
  ·cases h
 ·cases h
theorem Ymu:logC.ok Yb 126:=by
 refine Yv Tryz.func126 Yr0 YfQ 600 logC fun args k h=>?_
 simp only[logC]at h
 split at h
 ·rename_i n p'
  obtain⟨p,⟨hn0,hn1,rfl,hp⟩,h⟩:=h
  refine⟨[.int .i64 n,.int .i64 p],by simp [leL,le],?_⟩
  dsimp only[Yd6,Sd,Sf,Sa,Sc,Se,Sb,len64C,aboveC,addWC,numWC,timesWC,movC,Ym,go_sem,reduceIte,Ya]
  simp only[Yd,Ya,Ye,reduceCtorEq,Yc]
  have hb1:Yw n.toNat<=64:=bitsN_le.2 (by have:(2:Nat)^64=18446744073709551616:=rfl;omega)
  have hb0:Yw n.toNat≠0:=fun e=>by have:=bitsN_eq0.1 e;omega
  obtain⟨K,hK⟩:∃K,K=Yw n.toNat-1:=⟨_,rfl⟩
  have eu:IntKind.u64.wrap n=n:=Z8 _ (by omega)
  have ek:IntKind.i64.wrap ((Yw n.toNat:Int)-1)=(K:Int):=by rw[hK,Yg _ (by omega)];omega
  have ed:IntKind.i64.wrap (IntKind.i64.wrap (2*(p:Int))+64)=((2*p+64:Nat):Int):=by rw[Yg (2*(p:Int)) (by omega),Yg _ (by omega)];omega
  obtain⟨D,hD⟩:∃D:Int,D=((2*p+64:Nat):Int):=⟨_,rfl⟩
  have edk:IntKind.i64.wrap (D-(K:Int))=D-(K:Int):=Yg _ (by omega)
  rw[eu,ek,ed,<-hD,edk,Yh]
  have hKw:nl K<=512:=by have:= @Gl K (by omega);omega
  have hnw:nl n.toNat<=512:=by have:= @Gl n.toNat (by omega);omega
  have h2w:nl 2<=512:=by have:= @Gl 2 (by decide);omega
  refine⟨by omega,by omega,K,⟨Y7 hKw,by omega,by omega⟩,fun y=>⟨fun hc=>?_,fun hc=>⟨by omega,n.toNat,⟨Y7 hnw,by omega,by omega⟩,fun z=>⟨by decide,2,⟨Y7 h2w,by omega,by omega⟩,fun z2=>⟨by omega,?_⟩⟩⟩⟩⟩
  ·have h:k (.tup [Ym y (JL n p).1,Ym y (JL n p).2]) []:=h y y
   have e:JL n p=(Kd K p false,Kd K p false):=by rw[JL,if_pos (show JZ n=true from decide_eq_true hc),hK]
   rw[e]at h
   exact Ed h
  ·have e:JL n p=QY (Kd 2 D false) D p (Kd n.toNat (D-K) false) (Kd n.toNat (D-K) false) K:=by rw[JL,if_neg (show¬JZ n=true from fun hh=>hc (of_decide_eq_true hh)),hK,hD]
   rw[e]at h
   generalize hA:Kd n.toNat (D-(K:Int)) false=A at h⊢
   have hA5:nl A<=512:=by rw[<-hA];exact WI _ _ _
   generalize hT:Kd 2 D false=T at h⊢
   have hT5:nl T<=512:=by rw[<-hT];exact WI _ _ _
   refine Loop.keep [1,6,2] LSt (fun x=>[(9,Ym x.za x.a),(10,Ym x.zb x.b),(12,Ym x.zs x.s),(13,.int .i64 x.i)]) (fun _=>[]) [] (fun x=>x.i<=p/\QY T D p A A K=QY T D (p-x.i) x.a x.b x.s/\nl x.a<=512/\nl x.b<=512/\nl x.s<=512) (fun x=>p-x.i) ?_ ?_
   ·refine⟨⟨0,A,A,K,z,z,false⟩,⟨by simp only;omega,rfl,hA5,hA5,hKw⟩,?_⟩
    dsimp only[Ym,go_sem,reduceIte,Ya]
    simp only[Yf]
    try simp
   ·rintro⟨i,a,b,S,za,zb,zs⟩ ⟨hi,he,ha5,hb5,hs5⟩
    dsimp only at hi he ha5 hb5 hs5
    dsimp only[Sd,Sf,Sa,Sc,Se,Sb,len64C,aboveC,addWC,numWC,timesWC,movC,Ym,go_sem,reduceIte,Ya]
    simp only[Yd,Ya,Ye,reduceCtorEq,Yc]
    have eD:IntKind.i64.wrap (0-D)= -D:=by rw[Yg _ (by omega)];omega
    have ei:IntKind.i64.wrap ((p:Int)-(i:Int))=((p-i:Nat):Int):=by rw[Yg _ (by omega)];omega
    have h1w:nl 1<=512:=by have:= @Gl 1 (by decide);omega
    have h0w:nl 0<=512:=by rw[XL];omega
    rw[eD,ei]
    refine⟨fun hlt=>?_,fun hge=>⟨by decide,S,1,⟨Y7 hs5,Y7 h1w⟩,fun y=>?_⟩⟩
    ·obtain⟨q,hq⟩:∃q,p-i=q+1:=⟨p-i-1,by omega⟩
     rw[hq,QY]at he
     obtain⟨a1,ha1⟩:∃a1,a1=Kd (QZ a a) (-D) false:=⟨_,rfl⟩
     obtain⟨b1,hb1⟩:∃b1,b1=Kd (QZ b b) (-D) true:=⟨_,rfl⟩
     have ha15:nl a1<=512:=by rw[ha1];exact WI _ _ _
     have hb15:nl b1<=512:=by rw[hb1];exact WI _ _ _
     rw[<-ha1,<-hb1]at he
     refine⟨a,a,⟨Y7 ha5,Y7 ha5⟩,fun _=>⟨QZ a a,⟨Y7 (H3 _ _),by omega,by omega⟩,fun y1=>⟨b,b,⟨Y7 hb5,Y7 hb5⟩,fun _=>⟨QZ b b,⟨Y7 (H3 _ _),by omega,by omega⟩,fun y2=>?_⟩⟩⟩⟩
     rw[<-ha1,<-hb1]
     refine⟨T,a1,⟨Y7 hT5,Y7 ha15⟩,fun hc=>?_,fun hc=>⟨T,b1,⟨Y7 hT5,Y7 hb15⟩,fun hd=>?_,fun hd=>?_⟩⟩
     ·rw[if_neg hc]at he
      refine⟨a1,⟨Y7 ha15,by decide,by decide⟩,fun y3=>⟨b1,⟨Y7 hb15,by decide,by decide⟩,fun y4=>⟨S,⟨Y7 hs5,by decide,by decide⟩,fun _=>⟨by decide,Kd S 1 false,1,⟨Y7 (WI _ _ _),Y7 h1w⟩,fun y5=>?_⟩⟩⟩⟩
      refine⟨⟨i+1,Kd a1 (-1) false,Kd b1 (-1) true,Xj (Kd S 1 false) 1,y3,y4,y5⟩,⟨by simp only;omega,?_,WI a1 (-1) false,WI b1 (-1) true,Vt (Kd S 1 false) 1⟩,by simp only;omega,?_⟩
      ·rw[show p-(i+1)=q by omega];exact he
      ·rw[Yg ((i:Int)+1) (by omega)]
       simp only[Yf]
       simp
     ·rw[if_pos hc,if_neg hd]at he
      refine⟨S,⟨Y7 hs5,by omega,by omega⟩,fun y3=>⟨by decide,S,1,⟨Y7 hs5,Y7 h1w⟩,Xj S 1,⟨Y7 (Vt _ _),by omega,by omega⟩,fun y4=>?_⟩⟩
      have h:k (.tup [Ym y3 (QY T D p A A K).1,Ym y4 (QY T D p A A K).2]) []:=h y3 y4
      rw[he]at h
      rw[hq]
      exact Ed h
     ·rw[if_pos hc,if_pos hd]at he
      refine⟨S,⟨Y7 hs5,by decide,by decide⟩,fun _=>⟨by decide,Kd S 1 false,0,⟨Y7 (WI _ _ _),Y7 h0w⟩,fun y5=>?_⟩⟩
      refine⟨⟨i+1,a1,b1,Xj (Kd S 1 false) 0,y1,y2,y5⟩,⟨by simp only;omega,?_,ha15,hb15,Vt (Kd S 1 false) 0⟩,by simp only;omega,?_⟩
      ·rw[show p-(i+1)=q by omega];exact he
      ·rw[Yg ((i:Int)+1) (by omega)]
       simp only[Yf]
       simp
    ·have h:k (.tup [Ym zs (QY T D p A A K).1,Ym y (QY T D p A A K).2]) []:=h zs y
     rw[he,show p-i=0 by omega,QY]at h
     exact Ed h
 ·exact h.1.elim
def Yea:VF:={ ntmps:=12,res:=[.tmp 4],body:=
 (ZR [Zi 4 0]
 (.seq (.block 0 (.loop (.seq (ZR [Zm 5 1,
 Zq 6 .neq 5 0]
 (ZC 6 .skip
  (.exit 0)))
 (.block 1 (.draw [] [Zu 7 1,
 Zu 8 0,
 Zu 9 1,
 w1 10 .rem [.tm 8,.tm 9],
 Zu 0 7,
 Zu 1 10])))))
 (ZR [Zm 11 0,
 Zm 4 11]
 .ret)))}
theorem Yr5:Yn Yb Tryz.f130=some Yea:=by kernel_rfl
def v88:VF:=⟨58,[.cell 4 true 2,.cell 5 true 2],(ZR [u1 4 (.alloc [.nil,.nil]) [],u1 5 (.alloc [.nil,.nil]) []] (.seq (ZR [Zm 12 0,Zl 13 12,Zi 14 0] (.block 0 (.loop (ZR [Zr 15 .lss 14 13] (.seq (ZC 15 .skip (.exit 0)) (.seq (.block 1 (ZR [Zx 16 2 12 14,Zt 17 2 16,Zn 7,Zs 2 7 17] (ZR [Za 19 0 7,Zf 20 1 19,Zm 21 1,Zd 22 126 20 21,Zm 18 22,Ze 23 0 18,Ze 24 1 18,Zm 8 23,Zm 9 24] (.seq (.draw [] [Zy 25 1 7,Zv 26 1 25,Zu 10 4,Zu 11 26]) (.seq (ZR [Zm 27 11,Zq 28 .lss 27 0] (ZC 28 (.region [Zm 29 11,u1 30 .neg [.tm 29],Zm 10 5,Zm 11 30]) .skip)) (.draw [] [Zu 31 10,Zu 32 10,Zu 33 10,w1 34 .nilCheck [.tm 33],Zy 35 0 34,Zv 36 1 35,Zu 37 8,Zu 38 11,Zu 42 10,w1 43 .nilCheck [.tm 42],Zy 44 1 43,Zv 45 1 44,Zu 46 9,Zu 47 11,w1 39 (.call 129) [.tm 38],Zz 40 128 37 39,Zz 41 127 36 40,w1 48 (.call 129) [.tm 47],Zz 49 128 46 48,Zz 50 127 45 49,w1 51 .nilCheck [.tm 31],Zy 52 0 51,ZS 1 52 41,w1 53 .nilCheck [.tm 32],Zy 54 1 53,ZS 1 54 50])))))) (.region [Zp 55 14 1,Zm 14 55]))))))) (ZR [Zt 56 2 4,Zt 57 2 5,Zs 2 4 56,Zs 2 5 57] .ret)))⟩
theorem YtD:Yn Yb Tryz.f88=some v88:=by kernel_rfl
def gcdC:Ctr:={ alias:=false,of:=fun l=>match l with
 | [.int .i64 a,.int .i64 b]=> .ex Nat fun x=> .ex Nat fun y=> .pre (a=x/\b=y/\x<=9223372036854775807/\y<=9223372036854775807) (.fin (.int .i64 (YG x y)) [])
 |_=>noC}
def RA3:Env:={ ct:=fun _=>none,fn:=fun _=>none,meth:=fun _ _=>none}
theorem YfR:YE Yb RA3:=by
 refine⟨fun f c h=>?_,fun f vf h=>?_,(fun _ _ _ h=>by cases h),by kernel_rfl,(fun _ h=>by cases h)⟩
 ·cases h
 ·cases h
theorem gcd_c:gcdC.ok Yb 130:=by
 refine Yv Tryz.func130 Yr5 YfR 100 gcdC fun args k h=>?_
 simp only[gcdC]at h
 split at h
 ·rename_i a b
  obtain⟨x,y,⟨rfl,rfl,hx,hy⟩,h⟩:=h
  refine⟨[.int .i64 x,.int .i64 y],by simp [leL,le],?_⟩
  dsimp only[Yea,go_sem,reduceIte,Ya]
  simp only[Yd,Ya,Ye,reduceCtorEq,Yc]
  refine Loop.keep [] (Nat×Nat) (fun s=>[(0,.int .i64 s.1),(1,.int .i64 s.2)]) (fun _=>[]) [] (fun s=>YG s.1 s.2=YG x y/\s.1<=9223372036854775807/\s.2<=9223372036854775807) (fun s=>s.2) ?_ ?_
  ·refine⟨(x,y),⟨rfl,hx,hy⟩,?_⟩
   dsimp only[go_sem,reduceIte,Ya]
   simp only[Yf]
  ·rintro⟨p,q⟩ ⟨he,hp,hq⟩
   dsimp only at he hp hq
   dsimp only[go_sem,reduceIte,Ya]
   simp only[Yd,Ya,Ye,reduceCtorEq,Yc]
   refine⟨fun hc=>⟨hc,(q,p%q),⟨?_,by simp only;omega,?_⟩,?_,?_⟩,fun hc=>YX ?_⟩
   ·rw[<-he,Nat.gcd_comm p q]
    show YG q (p%q)=YG q p
    rw[Nat.gcd_comm q (p%q),<-Nat.gcd_rec]
   ·have:=Kj p (by omega:0<q)
    simp only;omega
   ·exact Kj p (by omega:0<q)
   ·have e:(p:Int).tmod q=((p%q:Nat):Int):=Vm rfl rfl
    rw[e]
    simp only[Yf]
   ·obtain rfl:q=0:=by omega
    rw[Nat.gcd_zero_right]at he
    rw[he];exact h
 ·exact h.1.elim
structure Bnd where
 ul:Nat
 uh:Nat
 dl:Nat
 dh:Nat
def XC(p:Nat)(s:Bnd)(x:Int×Int):Bnd:=
 if x.2<0 then { s with dl:=Xj s.dl (QZ (JL x.1 p).1 (-x.2).toNat),dh:=Xj s.dh (QZ (JL x.1 p).2 (-x.2).toNat)}
 else { s with ul:=Xj s.ul (QZ (JL x.1 p).1 x.2.toNat),uh:=Xj s.uh (QZ (JL x.1 p).2 x.2.toNat)}
def QK(l:List (Int×Int))(p:Nat):Bnd:=l.foldl (XC p) ⟨0,0,0,0⟩
def okT(x:Int×Int):Prop:=1<=x.1/\x.1<=1000000000001/\ -9000000000000000000<=x.2/\x.2<=9000000000000000000
def Bnd.ok(s:Bnd):Prop:=nl s.ul<=512/\nl s.uh<=512/\nl s.dl<=512/\nl s.dh<=512
theorem Rh(p:Nat)(s:Bnd)(x:Int×Int)(h:s.ok):(XC p s x).ok:=by
 obtain⟨h1,h2,h3,h4⟩:=h
 unfold XC
 split
 ·exact⟨h1,h2,Vt _ _,Vt _ _⟩
 ·exact⟨Vt _ _,Vt _ _,h3,h4⟩
def sumsC:Ctr:={ alias:=false,of:=fun l=>match l with
 | [.vs _ _ n sz get,.int .i64 p]=> .ex (List (Int×Int)) fun l=> .ex Nat fun q=> .pre (lsP 2 YA n sz get l/\(∀x,x∈l->okT x)/\n<=100/\p=q/\q<=2048)
     (.all Bool fun y1=> .all Bool fun y2=> .all Bool fun y3=> .all Bool fun y4=> .fin (.tup [.agg [Ym y1 (QK l q).ul,Ym y2 (QK l q).uh],.agg [Ym y3 (QK l q).dl,Ym y4 (QK l q).dh]]) [])
 |_=>noC}
def RA4:Env:={ ct:=fun n=>match n with|127=>some addWC|128=>some timesWC|129=>some numWC|126=>some logC|_=>none,fn:=fun _=>none,meth:=fun _ _=>none}
theorem YfT:RA4.ct 127=some addWC:=rfl
theorem YfU:RA4.ct 128=some timesWC:=rfl
theorem YfV:RA4.ct 129=some numWC:=rfl
theorem YfS:RA4.ct 126=some logC:=rfl
theorem YfW:YE Yb RA4:=by
 refine⟨fun f c h=>?_,fun f vf h=>?_,(fun _ _ _ h=>by cases h),by kernel_rfl,(fun _ h=>by cases h)⟩
 ·simp only[RA4]at h
  split at h
  ·cases h;exact⟨C9,_,Tryz.func127,rfl,rfl⟩
  ·cases h;exact⟨YaQ,_,Tryz.func128,rfl,rfl⟩
  ·cases h;exact⟨Pg,_,Tryz.func129,rfl,rfl⟩
  ·cases h;exact⟨Ymu,_,Tryz.func126,rfl,rfl⟩
  ·cases h
 ·cases h
structure SSt where
 i:Nat
 b:Bnd
 y1:Bool
 y2:Bool
 y3:Bool
 y4:Bool
theorem Yrk:sumsC.ok Yb 88:=by
 refine Yv Tryz.func88 YtD YfW 500 sumsC fun args k h=>?_
 simp only[sumsC]at h
 split at h
 ·rename_i tt z n sz get p'
  obtain⟨l,p,⟨⟨rfl,rfl,hg⟩,hl,hn,rfl,hp⟩,h⟩:=h
  refine⟨[.vs tt z l.length 2 (fun k=>YA (l.getD k default)),.int .i64 p],⟨⟨id,rfl,rfl,rfl,hg⟩,⟨rfl,rfl⟩,trivial⟩,?_⟩
  dsimp only[v88,YA,go_sem,reduceIte,Ya]
  simp only[Yd,Ya,Ye,reduceCtorEq,Yc]
  refine Loop.keep [0,0,2,0,6,0] SSt (fun s=>[(14,.int .i64 s.i)]) (fun s=>[(0,.box [Ym s.y1 s.b.ul,Ym s.y2 s.b.uh]),(1,.box [Ym s.y3 s.b.dl,Ym s.y4 s.b.dh])]) [] (fun s=>s.i<=l.length/\s.b=(l.take s.i).foldl (XC p) ⟨0,0,0,0⟩/\s.b.ok) (fun s=>l.length-s.i) ?_ ?_
  ·refine⟨⟨0,⟨0,0,0,0⟩,true,true,true,true⟩,⟨by simp only;omega,rfl,by simp [Bnd.ok,XL]⟩,?_⟩
   dsimp only[Ym,go_sem,reduceIte,Ya]
   simp only[Yf]
   simp [XL]
  ·rintro⟨i,B,y1,y2,y3,y4⟩ ⟨hi,hB,hok⟩
   dsimp only at hi hB hok
   dsimp only[YfS,YfT,YfV,YfU,logC,addWC,numWC,timesWC,Ym,YA,Yh,go_sem,reduceIte,Ya]
   simp only[Yd,Ya,Ye,reduceCtorEq,Yc]
   refine⟨fun hlt=>?_,fun hge=>?_⟩
   ·have hx:=hl _ (KK (by omega:i<l.length))
    generalize hxe:l.getD i default=x at hx⊢
    obtain⟨q0,q1,q2,q3⟩:=hx
    have hstep:(l.take (i+1)).foldl (XC p) ⟨0,0,0,0⟩=XC p B x:=by
     rw[W5 (by omega),<-hB,hxe]
    obtain⟨g1,g2⟩:=Yms x.1 p (by omega)
    obtain⟨o1,o2,o3,o4⟩:=hok
    refine⟨⟨by omega,by omega⟩,p,⟨q0,by omega,rfl,hp⟩,fun z1 z2=>⟨by decide,by decide,fun hc=>?_,fun hc=>?_⟩⟩
    ·have en:IntKind.i64.wrap (0-x.2)= -x.2:=by rw[Yg _ (by omega)];omega
     rw[en]
     have hnw:nl (-x.2).toNat<=512:=by have:= @Gl (-x.2).toNat (by omega);omega
     refine⟨⟨by omega,by omega⟩,(JL x.1 p).1,(-x.2).toNat,⟨Y7 g1,Y7 hnw⟩,fun _=>⟨B.dl,QZ (JL x.1 p).1 (-x.2).toNat,⟨Y7 o3,Y7 (H3 _ _)⟩,fun z3=>⟨⟨by omega,by omega⟩,(JL x.1 p).2,(-x.2).toNat,⟨Y7 g2,Y7 hnw⟩,fun _=>⟨B.dh,QZ (JL x.1 p).2 (-x.2).toNat,⟨Y7 o4,Y7 (H3 _ _)⟩,fun z4=>?_⟩⟩⟩⟩
     refine⟨⟨i+1,XC p B x,y1,y2,z3,z4⟩,⟨by simp only;omega,hstep.symm,Rh p B x ⟨o1,o2,o3,o4⟩⟩,by simp only;omega,?_⟩
     simp only[XC,if_pos hc]
     rw[Yg ((i:Int)+1) (by omega)]
     simp only[Yf]
     exact⟨by decide,by decide,by simp⟩
    ·have hnw:nl x.2.toNat<=512:=by have:= @Gl x.2.toNat (by omega);omega
     refine⟨⟨by omega,by omega⟩,(JL x.1 p).1,x.2.toNat,⟨Y7 g1,Y7 hnw⟩,fun _=>⟨B.ul,QZ (JL x.1 p).1 x.2.toNat,⟨Y7 o1,Y7 (H3 _ _)⟩,fun z3=>⟨⟨by omega,by omega⟩,(JL x.1 p).2,x.2.toNat,⟨Y7 g2,Y7 hnw⟩,fun _=>⟨B.uh,QZ (JL x.1 p).2 x.2.toNat,⟨Y7 o2,Y7 (H3 _ _)⟩,fun z4=>?_⟩⟩⟩⟩
     refine⟨⟨i+1,XC p B x,z3,z4,y3,y4⟩,⟨by simp only;omega,hstep.symm,Rh p B x ⟨o1,o2,o3,o4⟩⟩,by simp only;omega,?_⟩
     simp only[XC,if_neg hc]
     rw[Yg ((i:Int)+1) (by omega)]
     simp only[Yf]
     exact⟨by decide,by decide,by simp⟩
   ·obtain rfl:i=l.length:=by omega
    rw[QB]at hB
    have h:k (.tup [.agg [Ym y1 (QK l p).ul,Ym y2 (QK l p).uh],.agg [Ym y3 (QK l p).dl,Ym y4 (QK l p).dh]]) []:=h y1 y2 y3 y4
    rw[QK,<-hB]at h
    exact Ky h (Jq _ ⟨⟨trivial,trivial,trivial⟩,⟨trivial,trivial,trivial⟩,trivial⟩) (fun _=>by simp [Ym,Y0,Y4])
 ·exact h.1.elim
def Yd4:VF:={ ntmps:=31,res:=[.cell 6 true 2],body:=
 (ZR [u1 3 .box [.tm 0],
 u1 6 (.alloc [(.int .u64 0),(.int .u64 0)]) []]
 (ZR [Zm 11 1,
 Zm 12 2,
 Zd 13 149 11 12,
 Zm 10 13,
 Ze 14 0 10,
 Ze 15 1 10,
 Zm 7 14,
 Zm 8 15]
 (ZR [Za 17 1 3,
 Zf 18 1 17,
 Zm 19 8,
 u1 20 .addc [.tm 18,.tm 19,.cn (.int .u64 0)],
 Zm 16 20,
 Ze 21 0 16,
 Ze 22 1 16,
 Zm 8 21,
 Zm 9 22]
 (ZR [Za 23 0 3,
 Zf 24 1 23,
 Zm 25 7,
 Zo 26 .add 24 25,
 Zm 27 9,
 Zo 28 .add 26 27,
 Zm 29 8,
 u1 30 (.build [(.int .u64 0),(.int .u64 0)] [(0,1),(1,1)]) [.tm 28,.tm 29],
 Zs 2 6 30]
 .ret))))}
theorem YrY:Yn Yb Tryz.f124=some Yd4:=by kernel_rfl
def Yd5:VF:={ ntmps:=24,res:=[.tmp 4],body:=
 (ZR [u1 2 .box [.tm 0],
 u1 3 .box [.tm 1],
 u1 4 .mov [.cn (.bool false)]]
 (ZR [Za 5 0 2,
 Zf 6 1 5,
 Za 7 0 3,
 Zf 8 1 7,
 Zr 9 .gtr 6 8,
 Zm 10 9,
 Zj 11 10 false 0 2,
 Zh 12 10 false 1 11,
 Zj 13 10 false 0 3,
 Zh 14 10 false 1 13,
 u2 15 10 false (.cmp .eql) [.tm 12,.tm 14],
 Zg 16 10 false 15,
 Zj 17 16 true 1 2,
 Zh 18 16 true 1 17,
 Zj 19 16 true 1 3,
 Zh 20 16 true 1 19,
 u2 21 16 true (.cmp .gtr) [.tm 18,.tm 20],
 u2 22 10 false .and [.tm 16,.tm 21],
 u1 23 .or [.tm 10,.tm 22],
 Zm 4 23]
 .ret))}
theorem YrZ:Yn Yb Tryz.f125=some Yd5:=by kernel_rfl
def Yd3:VF:={ ntmps:=100,res:=[.tmp 2,.tmp 3],body:=
 (ZR [u1 2 .mov [.cn (.int .u64 0)],
 u1 3 .mov [.cn (.int .u64 0)]]
 (ZR [Zm 15 0,
 u1 16 (.conv .u64) [.tm 15],
 Zc 17 138 16,
 u1 18 (.ari .sub) [.tm 17,.cn (.int .i64 1)],
 Zm 4 18]
 (ZR [Zm 19 4,
 u1 20 (.conv .u64) [.tm 19],
 Zm 5 20]
 (.seq (ZR [Zm 21 0,
 Zm 22 0,
 u1 23 (.ari .sub) [.tm 22,.cn (.int .i64 1)],
 u1 24 (.bit .and) [.tm 21,.tm 23],
 Zq 25 .eql 24 0]
 (ZC 25 (ZR [Zm 26 5,
 u1 27 .shl [.tm 26,.cn (.int .u64 28)],
 Zm 28 5,
 u1 29 .shl [.tm 28,.cn (.int .u64 28)],
 Zm 2 27,
 Zm 3 29]
 .ret)
  .skip))
 (ZR [Zm 30 0,
 u1 31 (.conv .u64) [.tm 30],
 Zm 32 4,
 u1 33 (.ari .sub) [.cn (.int .i64 63),.tm 32],
 u1 34 .shl [.tm 31,.tm 33],
 Zm 6 34]
 (ZR [Zm 35 6,
 Zm 7 35]
 (.seq (ZR [Zi 36 0]
 (.block 0 (.loop (ZR [Zq 37 .lss 36 28]
 (.seq (ZC 37 .skip
  (.exit 0))
 (.seq (.block 1 (ZR [Zm 38 36,
 Zm 8 38]
 (ZR [Zm 40 6,
 Zm 41 6,
 Zd 42 149 40 41,
 Zm 39 42,
 Ze 43 0 39,
 Ze 44 1 39,
 Zm 9 43,
 Zm 10 44]
 (ZR [Zm 46 7,
 Zm 47 7,
 Zd 48 149 46 47,
 Zm 45 48,
 Ze 49 0 45,
 Ze 50 1 45,
 Zm 11 49,
 Zm 12 50]
 (ZR [Zm 51 9,
 u1 52 .shr [.tm 51,.cn (.int .u64 63)],
 Zm 13 52]
 (ZR [Zm 53 13,
 Zm 54 11,
 u1 55 .shr [.tm 54,.cn (.int .u64 63)],
 Zr 56 .eql 53 55,
 Zm 14 56]
 (.seq (ZR [Zm 57 13,
 u1 58 (.cmp .eql) [.tm 57,.cn (.int .u64 0)]]
 (ZC 58 (.region [Zm 59 9,
 u1 60 .shl [.tm 59,.cn (.int .u64 1)],
 Zm 61 10,
 u1 62 .shr [.tm 61,.cn (.int .u64 63)],
 u1 63 (.bit .or) [.tm 60,.tm 62],
 Zm 64 11,
 u1 65 .shl [.tm 64,.cn (.int .u64 1)],
 Zm 66 12,
 u1 67 .shr [.tm 66,.cn (.int .u64 63)],
 u1 68 (.bit .or) [.tm 65,.tm 67],
 Zm 69 12,
 u1 70 .shl [.tm 69,.cn (.int .u64 1)],
 Zm 9 63,
 Zm 11 68,
 Zm 12 70])
  .skip))
 (.seq (ZR [Zm 71 12,
 u1 72 (.cmp .gtr) [.tm 71,.cn (.int .u64 0)]]
 (ZC 72 (.region [Zm 73 11,
 u1 74 (.ari .add) [.tm 73,.cn (.int .u64 1)],
 Zm 11 74])
  .skip))
 (.seq (ZR [Zm 75 14,
 u1 76 .not [.tm 75],
 Zm 77 76,
 Zg 78 77 false 11,
 u2 79 77 false (.cmp .eql) [.tm 78,.cn (.int .u64 0)],
 u1 80 .or [.tm 77,.tm 79]]
 (ZC 80 (.seq (.draw [] [Zu 81 5,
 Zu 82 8,
 w1 83 (.ari .sub) [.cn (.int .i64 28),.tm 82],
 w1 84 .shl [.tm 81,.tm 83],
 Zu 85 5,
 w1 86 (.ari .add) [.tm 85,.cn (.int .u64 1)],
 Zu 87 8,
 w1 88 (.ari .sub) [.cn (.int .i64 28),.tm 87],
 w1 89 .shl [.tm 86,.tm 88],
 Zu 2 84,
 Zu 3 89])
 .ret)
  .skip))
 (.region [Zm 90 9,
 Zm 91 11,
 Zm 92 5,
 u1 93 .shl [.tm 92,.cn (.int .u64 1)],
 Zm 94 13,
 u1 95 (.bit .or) [.tm 93,.tm 94],
 Zm 6 90,
 Zm 7 91,
 Zm 5 95]))))))))))
 (.region [Zp 96 36 1,
 Zm 36 96])))))))
 (ZR [Zm 97 5,
 Zm 98 5,
 u1 99 (.ari .add) [.tm 98,.cn (.int .u64 1)],
 Zm 2 97,
 Zm 3 99]
 .ret))))))))}
theorem YrX:Yn Yb Tryz.f123=some Yd3:=by kernel_rfl
def XN(a:Int×Int)(x y:Int):Int×Int:=
 (IntKind.u64.wrap (IntKind.u64.wrap (a.1+x*y/18446744073709551616)+(a.2+x*y%18446744073709551616)/18446744073709551616),(a.2+x*y%18446744073709551616)%18446744073709551616)
def VQ(a b:Int×Int):Bool:=decide (b.1<a.1) || (decide (a.1=b.1)&&decide (b.2<a.2))
def okL(a:Int×Int):Prop:=(0<=a.1/\a.1<=18446744073709551615)/\0<=a.2/\a.2<=18446744073709551615
def lpC:Ctr:={ alias:=false,of:=fun l=>match l with
 | [.agg [.int .u64 a,.int .u64 b],.int .u64 x,.int .u64 y]=> .pre (okL (a,b)/\(0<=x/\x<=18446744073709551615)/\0<=y/\y<=18446744073709551615) (.fin (.agg [.int .u64 (XN (a,b) x y).1,.int .u64 (XN (a,b) x y).2]) [])
 |_=>noC}
def loC:Ctr:={ alias:=false,of:=fun l=>match l with
 | [.agg [.int .u64 a,.int .u64 b],.agg [.int .u64 c,.int .u64 d]]=> .fin (.bool (VQ (a,b) (c,d))) []
 |_=>noC}
def RA5:Env:={ ct:=fun n=>match n with|149=>some mul64C|_=>none,fn:=fun _=>none,meth:=fun _ _=>none}
theorem YfX:RA5.ct 149=some mul64C:=rfl
theorem Sg:YE Yb RA5:=by
 refine⟨fun f c h=>?_,fun f vf h=>?_,(fun _ _ _ h=>by cases h),by kernel_rfl,(fun _ h=>by cases h)⟩
 ·simp only[RA5]at h
  split at h
  ·cases h;exact⟨YaP,_,Tryz.func149,rfl,rfl⟩
  ·cases h
 ·cases h
theorem lp_c:lpC.ok Yb 124:=by
 refine Yv Tryz.func124 YrY Sg 200 lpC fun args k h=>?_
 simp only[lpC]at h
 split at h
 ·rename_i a b x y
  obtain⟨⟨⟨⟨a0,a1⟩,b0,b1⟩,hx,hy⟩,h⟩:=h
  refine⟨[.agg [.int .u64 a,.int .u64 b],.int .u64 x,.int .u64 y],by simp [leL,le],?_⟩
  dsimp only[Yd4,YfX,mul64C,E1,go_sem,reduceIte,Ya]
  simp only[Yd,Ya,Ye,reduceCtorEq,Yc]
  refine⟨⟨hx,hy⟩,by decide,by decide,⟨b0,Int.emod_nonneg _ (by decide),by decide,by decide⟩,by decide,by decide,?_⟩
  rw[Z7]
  exact Ky (show k _ []from h) (Jq (.agg [.int .u64 (XN (a,b) x y).1,.int .u64 (XN (a,b) x y).2]) ⟨trivial,trivial,trivial⟩) (fun _=>by simp [Y0,Y4])
 ·exact h.1.elim
theorem lo_c:loC.ok Yb 125:=by
 refine Yv Tryz.func125 YrZ Sg 200 loC fun args k h=>?_
 simp only[loC]at h
 split at h
 ·rename_i a b c d
  refine⟨[.agg [.int .u64 a,.int .u64 b],.agg [.int .u64 c,.int .u64 d]],by simp [leL,le],?_⟩
  dsimp only[Yd5,go_sem,reduceIte,Ya]
  simp only[Yd,Ya,Ye,reduceCtorEq,Yc]
  exact⟨fun h1 h2=>by rw[decide_eq_false h1,decide_eq_true h2];rfl,Qi h⟩
 ·exact h.1.elim
def RA6:Env:={ ct:=fun n=>match n with|138=>some len64C|149=>some mul64C|_=>none,fn:=fun _=>none,meth:=fun _ _=>none}
theorem Si:RA6.ct 138=some len64C:=rfl
theorem Sj:RA6.ct 149=some mul64C:=rfl
theorem YfY:YE Yb RA6:=by
 refine⟨fun f c h=>?_,fun f vf h=>?_,(fun _ _ _ h=>by cases h),by kernel_rfl,(fun _ h=>by cases h)⟩
 ·simp only[RA6]at h
  split at h
  ·cases h;exact⟨LQ,_,Tryz.func138,rfl,rfl⟩
  ·cases h;exact⟨YaP,_,Tryz.func149,rfl,rfl⟩
  ·cases h
 ·cases h
abbrev hiW(a:Int):Int:=a*a/18446744073709551616
abbrev loW(a:Int):Int:=a*a%18446744073709551616
abbrev Qq(x:Int):Int:=x.fdiv (2^min (Xi 63) 64)
abbrev sl1(x:Int):Int:=IntKind.u64.wrap (x*2^min (Xi 1) 64)
abbrev Wj(x y:Int):Int:=Jw .or .u64 (sl1 x) (Qq y)
abbrev shW(S:Int)(f:Nat):Int:=IntKind.u64.wrap (S*2^min f 64)
def Xn:Nat->Int->Int->Int->Int×Int
 |0,S,_,_=>(S,IntKind.u64.wrap (S+1))
 |f+1,S,a,b=>
  if Qq (hiW a)=0 then
   if 0<sl1 (loW b)then
    if(!decide (Qq (hiW a)=Qq (hiW b)) || decide (IntKind.u64.wrap (Wj (hiW b) (loW b)+1)=0))=true then(shW S (f+1),shW (IntKind.u64.wrap (S+1)) (f+1))
    else Xn f (Jw .or .u64 (sl1 S) (Qq (hiW a))) (Wj (hiW a) (loW a)) (IntKind.u64.wrap (Wj (hiW b) (loW b)+1))
   else
    if(!decide (Qq (hiW a)=Qq (hiW b)) || decide (Wj (hiW b) (loW b)=0))=true then(shW S (f+1),shW (IntKind.u64.wrap (S+1)) (f+1))
    else Xn f (Jw .or .u64 (sl1 S) (Qq (hiW a))) (Wj (hiW a) (loW a)) (Wj (hiW b) (loW b))
  else
   if 0<loW b then
    if(!decide (Qq (hiW a)=Qq (hiW b)) || decide (IntKind.u64.wrap (hiW b+1)=0))=true then(shW S (f+1),shW (IntKind.u64.wrap (S+1)) (f+1))
    else Xn f (Jw .or .u64 (sl1 S) (Qq (hiW a))) (hiW a) (IntKind.u64.wrap (hiW b+1))
   else
    if(!decide (Qq (hiW a)=Qq (hiW b)) || decide (hiW b=0))=true then(shW S (f+1),shW (IntKind.u64.wrap (S+1)) (f+1))
    else Xn f (Jw .or .u64 (sl1 S) (Qq (hiW a))) (hiW a) (hiW b)
def XA(n:Int):Int×Int:=
 if JZ n=true then(IntKind.u64.wrap (((Yw n.toNat-1:Nat):Int)*2^min (Xi 28) 64),IntKind.u64.wrap (((Yw n.toNat-1:Nat):Int)*2^min (Xi 28) 64))
 else Xn 28 ((Yw n.toNat-1:Nat):Int) (shW n (63-(Yw n.toNat-1))) (shW n (63-(Yw n.toNat-1)))
theorem XU(x:Int):0<=IntKind.u64.wrap x/\IntKind.u64.wrap x<=18446744073709551615:=by rw[Ce];omega
theorem GT(x y:Int):0<=Jw .or .u64 x y/\Jw .or .u64 x y<=18446744073709551615:=XU _
theorem OS{a:Int}(h0:0<=a)(h1:a<=18446744073709551615):0<=hiW a/\hiW a<=18446744073709551615:=by
 have h2:a*a<=18446744073709551615*18446744073709551615:=YmU h1 h1 h0 (by decide)
 have h3:0<=a*a:=ZF h0 h0
 unfold hiW
 omega
def quickC:Ctr:={ alias:=false,of:=fun l=>match l with
 | [.int .i64 n]=> .pre (1<=n/\n<=4611686018427387904) (.fin (.tup [.int .u64 (XA n).1,.int .u64 (XA n).2]) [])
 |_=>noC}
theorem YoC:quickC.ok Yb 123:=by
 refine Yv Tryz.func123 YrX YfY 400 quickC fun args k h=>?_
 simp only[quickC]at h
 split at h
 ·rename_i n
  obtain⟨⟨n0,n1⟩,h⟩:=h
  refine⟨[.int .i64 n],by simp [leL,le],?_⟩
  dsimp only[Yd3,Si,Sj,len64C,mul64C,go_sem,reduceIte,Ya]
  simp only[Yd,Ya,Ye,reduceCtorEq,Yc]
  have hb1:Yw n.toNat<=63:=bitsN_le.2 (by have:(2:Nat)^63=9223372036854775808:=rfl;omega)
  have hb0:Yw n.toNat≠0:=fun e=>by have:=bitsN_eq0.1 e;omega
  obtain⟨K,hK⟩:∃K,K=Yw n.toNat-1:=⟨_,rfl⟩
  have eu:IntKind.u64.wrap n=n:=Z8 _ (by omega)
  have ek:IntKind.i64.wrap ((Yw n.toNat:Int)-1)=(K:Int):=by rw[hK,Yg _ (by omega)];omega
  have ek2:IntKind.i64.wrap (63-(K:Int))=((63-K:Nat):Int):=by rw[Yg _ (by omega)];omega
  have ek3:IntKind.u64.wrap (K:Int)=(K:Int):=Z8 _ (by omega)
  rw[eu,ek,ek2,ek3]
  refine⟨by omega,fun hc=>⟨by decide,by decide,?_⟩,fun hc=>⟨by omega,?_⟩⟩
  ·rw[XA,if_pos (show JZ n=true from decide_eq_true hc),<-hK]at h
   exact UO h
  ·have e:XA n=Xn 28 K (shW n (63-K)) (shW n (63-K)):=by rw[XA,if_neg (show¬JZ n=true from fun hh=>hc (of_decide_eq_true hh)),<-hK]
   rw[e]at h
   rw[Yh]
   obtain⟨A,hA⟩:∃A,A=shW n (63-K):=⟨_,rfl⟩
   rw[<-hA]at h
   obtain⟨R,hR⟩:∃R,R=Xn 28 K A A:=⟨_,rfl⟩
   rw[<-hR]at h
   rw[show IntKind.u64.wrap (n*2^min (63-K) 64)=A from hA.symm]
   have hAr:0<=A/\A<=18446744073709551615:=by rw[hA];exact XU _
   refine Loop.keep [] (Int×Int×Int×Nat) (fun s=>[(5,.int .u64 s.1),(6,.int .u64 s.2.1),(7,.int .u64 s.2.2.1),(36,.int .i64 s.2.2.2)]) (fun _=>[]) [] (fun s=>s.2.2.2<=28/\R=Xn (28-s.2.2.2) s.1 s.2.1 s.2.2.1/\(0<=s.2.1/\s.2.1<=18446744073709551615)/\0<=s.2.2.1/\s.2.2.1<=18446744073709551615) (fun s=>28-s.2.2.2) ?_ ?_
   ·refine⟨(K,A,A,0),⟨by simp only;omega,hR,hAr,hAr⟩,?_⟩
    dsimp only[go_sem,reduceIte,Ya]
    simp only[Yf]
    try simp
   ·rintro⟨S,a,b,i⟩ ⟨hi,he,ha,hb⟩
    dsimp only at hi he ha hb
    dsimp only[Si,Sj,len64C,mul64C,go_sem,reduceIte,Ya]
    simp only[Yd,Ya,Ye,reduceCtorEq,Yc]
    have ei:IntKind.i64.wrap (28-(i:Int))=((28-i:Nat):Int):=by rw[Yg _ (by omega)];omega
    rw[ei]
    have hA2:=OS ha.1 ha.2
    have hB2:=OS hb.1 hb.2
    refine⟨fun hlt=>?_,fun hge=>?_⟩
    ·obtain⟨f,hf⟩:∃f,28-i=f+1:=⟨28-i-1,by omega⟩
     rw[hf,Xn]at he
     rw[hf,Yh]
     refine⟨ha,by decide,by decide,hb,by decide,by decide,by decide,by decide,fun hc1=>⟨by decide,by decide,by decide,by decide,by decide,fun hc2=>⟨fun hc3=>?_,fun hc3=>?_⟩,fun hc2=>⟨fun hc3=>?_,fun hc3=>?_⟩⟩,fun hc1=>⟨fun hc2=>⟨fun hc3=>?_,fun hc3=>?_⟩,fun hc2=>⟨fun hc3=>?_,fun hc3=>?_⟩⟩⟩
     ·rw[if_pos hc1,if_pos hc2,if_pos hc3]at he
      rw[he]at h
      exact⟨by omega,by omega,UO h⟩
     ·rw[if_pos hc1,if_pos hc2,if_neg (by rw[hc3];decide)]at he
      refine⟨by decide,(Jw .or .u64 (sl1 S) (Qq (hiW a)),Wj (hiW a) (loW a),IntKind.u64.wrap (Wj (hiW b) (loW b)+1),i+1),⟨by simp only;omega,by rw[show 28-(i+1)=f by omega];exact he,GT _ _,XU _⟩,by simp only;omega,?_⟩
      rw[Yg ((i:Int)+1) (by omega)]
      simp only[Yf]
      simp
     ·rw[if_pos hc1,if_neg hc2,if_pos hc3]at he
      rw[he]at h
      exact⟨by omega,by omega,UO h⟩
     ·rw[if_pos hc1,if_neg hc2,if_neg (by rw[hc3];decide)]at he
      refine⟨by decide,(Jw .or .u64 (sl1 S) (Qq (hiW a)),Wj (hiW a) (loW a),Wj (hiW b) (loW b),i+1),⟨by simp only;omega,by rw[show 28-(i+1)=f by omega];exact he,GT _ _,GT _ _⟩,by simp only;omega,?_⟩
      rw[Yg ((i:Int)+1) (by omega)]
      simp only[Yf]
      simp
     ·rw[if_neg hc1,if_pos hc2,if_pos hc3]at he
      rw[he]at h
      exact⟨by omega,by omega,UO h⟩
     ·rw[if_neg hc1,if_pos hc2,if_neg (by rw[hc3];decide)]at he
      refine⟨by decide,(Jw .or .u64 (sl1 S) (Qq (hiW a)),hiW a,IntKind.u64.wrap (hiW b+1),i+1),⟨by simp only;omega,by rw[show 28-(i+1)=f by omega];exact he,hA2,XU _⟩,by simp only;omega,?_⟩
      rw[Yg ((i:Int)+1) (by omega)]
      simp only[Yf]
      simp
     ·rw[if_neg hc1,if_neg hc2,if_pos hc3]at he
      rw[he]at h
      exact⟨by omega,by omega,UO h⟩
     ·rw[if_neg hc1,if_neg hc2,if_neg (by rw[hc3];decide)]at he
      refine⟨by decide,(Jw .or .u64 (sl1 S) (Qq (hiW a)),hiW a,hiW b,i+1),⟨by simp only;omega,by rw[show 28-(i+1)=f by omega];exact he,hA2,hB2⟩,by simp only;omega,?_⟩
      rw[Yg ((i:Int)+1) (by omega)]
      simp only[Yf]
      simp
    ·rw[show 28-i=0 by omega,Xn]at he
     rw[he]at h
     exact UO h
 ·exact h.1.elim
def v87:VF:=⟨72,[.tmp 2,.tmp 3],(ZR [Zi 2 0,u1 3 .mov [.cn (.bool false)]] (ZR [u1 4 (.allocArr 2 2 [(.int .u64 0),(.int .u64 0),(.int .u64 0),(.int .u64 0)]) [],u1 5 (.allocArr 2 2 [(.int .u64 0),(.int .u64 0),(.int .u64 0),(.int .u64 0)]) []] (.seq (ZR [Zm 10 0,Zl 11 10,Zi 12 0] (.block 0 (.loop (ZR [Zr 13 .lss 12 11] (.seq (ZC 13 .skip (.exit 0)) (.seq (.block 1 (ZR [Zx 14 2 10 12,Zt 15 2 14,Zn 7,Zs 2 7 15] (ZR [Za 17 0 7,Zf 18 1 17,Zc 19 123 18,Zm 16 19,Ze 20 0 16,Ze 21 1 16,Zm 8 20,Zm 9 21] (ZR [Za 22 1 7,Zf 23 1 22,Zq 24 .geq 23 0] (ZC 24 (.draw [] [w1 25 (.idxArr 2 2) [.tm 4,.cn (.int .i64 0)],Zw 26 2 25,Zu 27 8,Zy 28 1 7,Zv 29 1 28,w1 30 (.conv .u64) [.tm 29],w1 32 (.idxArr 2 2) [.tm 4,.cn (.int .i64 1)],Zw 33 2 32,Zu 34 9,Zy 35 1 7,Zv 36 1 35,w1 37 (.conv .u64) [.tm 36],w1 31 (.call 124) [.tm 26,.tm 27,.tm 30],w1 39 (.idxArr 2 2) [.tm 4,.cn (.int .i64 0)],w1 38 (.call 124) [.tm 33,.tm 34,.tm 37],ZS 2 39 31,w1 40 (.idxArr 2 2) [.tm 4,.cn (.int .i64 1)],ZS 2 40 38]) (.draw [] [w1 41 (.idxArr 2 2) [.tm 5,.cn (.int .i64 0)],Zw 42 2 41,Zu 43 8,Zy 44 1 7,Zv 45 1 44,w1 46 .neg [.tm 45],w1 47 (.conv .u64) [.tm 46],w1 49 (.idxArr 2 2) [.tm 5,.cn (.int .i64 1)],Zw 50 2 49,Zu 51 9,Zy 52 1 7,Zv 53 1 52,w1 54 .neg [.tm 53],w1 55 (.conv .u64) [.tm 54],w1 48 (.call 124) [.tm 42,.tm 43,.tm 47],w1 57 (.idxArr 2 2) [.tm 5,.cn (.int .i64 0)],w1 56 (.call 124) [.tm 50,.tm 51,.tm 55],ZS 2 57 48,w1 58 (.idxArr 2 2) [.tm 5,.cn (.int .i64 1)],ZS 2 58 56])))))) (.region [Zp 59 12 1,Zm 12 59]))))))) (.seq (.block 2 (ZR [u1 61 (.idxArr 2 2) [.tm 4,.cn (.int .i64 0)],Zt 62 2 61,u1 63 (.idxArr 2 2) [.tm 5,.cn (.int .i64 1)],Zt 64 2 63,Zd 65 125 62 64,Zm 60 65] (ZC 60 (ZR [Zi 2 1,u1 3 .mov [.cn (.bool true)]] .ret) (ZR [u1 67 (.idxArr 2 2) [.tm 5,.cn (.int .i64 0)],Zt 68 2 67,u1 69 (.idxArr 2 2) [.tm 4,.cn (.int .i64 1)],Zt 70 2 69,Zd 71 125 68 70,Zm 66 71] (ZC 66 (ZR [Zi 2 (-1),u1 3 .mov [.cn (.bool true)]] .ret) .skip))))) (ZR [Zi 2 0,u1 3 .mov [.cn (.bool false)]] .ret)))))⟩
theorem YtC:Yn Yb Tryz.f87=some v87:=by kernel_rfl
structure Gss where
 u0:Int×Int
 u1:Int×Int
 d0:Int×Int
 d1:Int×Int
def Gss.ok(s:Gss):Prop:=okL s.u0/\okL s.u1/\okL s.d0/\okL s.d1
def JY(s:Gss)(x:Int×Int):Gss:=
 if 0<=x.2 then { s with u0:=XN s.u0 (XA x.1).1 x.2,u1:=XN s.u1 (XA x.1).2 x.2}
 else { s with d0:=XN s.d0 (XA x.1).1 (-x.2),d1:=XN s.d1 (XA x.1).2 (-x.2)}
def gss0:Gss:=⟨(0,0),(0,0),(0,0),(0,0)⟩
def G1(l:List (Int×Int)):Int×Bool:=
 let s:=l.foldl JY gss0
 if VQ s.u0 s.d1=true then(1,true)else if VQ s.d0 s.u1=true then(-1,true)else(0,false)
theorem Ag(a:Int×Int)(x y:Int)(h:okL a):okL (XN a x y):=by
 unfold XN
 exact⟨XU _,Int.emod_nonneg _ (by decide),by show _%_<=_;omega⟩
theorem OL(s:Gss)(x:Int×Int)(h:s.ok):(JY s x).ok:=by
 obtain⟨h1,h2,h3,h4⟩:=h
 unfold JY
 split
 ·exact⟨Ag _ _ _ h1,Ag _ _ _ h2,h3,h4⟩
 ·exact⟨h1,h2,Ag _ _ _ h3,Ag _ _ _ h4⟩
theorem Ns:∀(f:Nat)(S a b:Int),(0<=S/\S<=18446744073709551615)->(0<=(Xn f S a b).1/\(Xn f S a b).1<=18446744073709551615)/\0<=(Xn f S a b).2/\(Xn f S a b).2<=18446744073709551615
 |0,S,a,b,h=>⟨h,XU _⟩
 |f+1,S,a,b,h=>by
  rw[Xn]
  split
  ·split
   ·split
    ·exact⟨XU _,XU _⟩
    ·exact Ns f _ _ _ (GT _ _)
   ·split
    ·exact⟨XU _,XU _⟩
    ·exact Ns f _ _ _ (GT _ _)
  ·split
   ·split
    ·exact⟨XU _,XU _⟩
    ·exact Ns f _ _ _ (GT _ _)
   ·split
    ·exact⟨XU _,XU _⟩
    ·exact Ns f _ _ _ (GT _ _)
theorem YoA(n:Int)(hn:n<=4611686018427387904):(0<=(XA n).1/\(XA n).1<=18446744073709551615)/\0<=(XA n).2/\(XA n).2<=18446744073709551615:=by
 unfold XA
 split
 ·exact⟨XU _,XU _⟩
 ·have hb1:Yw n.toNat<=63:=bitsN_le.2 (by have:(2:Nat)^63=9223372036854775808:=rfl;omega)
  exact Ns _ _ _ _ ⟨by omega,by omega⟩
def guessC:Ctr:={ alias:=false,of:=fun l=>match l with
 | [.vs _ _ n sz get]=> .ex (List (Int×Int)) fun l=> .pre (lsP 2 YA n sz get l/\(∀x,x∈l->okT x)/\n<=100) (.fin (.tup [.int .i64 (G1 l).1,.bool (G1 l).2]) [])
 |_=>noC}
def RA7:Env:={ ct:=fun n=>match n with|123=>some quickC|124=>some lpC|125=>some loC|_=>none,fn:=fun _=>none,meth:=fun _ _=>none}
theorem YfZ:RA7.ct 123=some quickC:=rfl
theorem Yf0:RA7.ct 124=some lpC:=rfl
theorem Yf1:RA7.ct 125=some loC:=rfl
theorem Yf2:YE Yb RA7:=by
 refine⟨fun f c h=>?_,fun f vf h=>?_,(fun _ _ _ h=>by cases h),by kernel_rfl,(fun _ h=>by cases h)⟩
 ·simp only[RA7]at h
  split at h
  ·cases h;exact⟨YoC,_,Tryz.func123,rfl,rfl⟩
  ·cases h;exact⟨lp_c,_,Tryz.func124,rfl,rfl⟩
  ·cases h;exact⟨lo_c,_,Tryz.func125,rfl,rfl⟩
  ·cases h
 ·cases h
theorem Ec{k:SV->List HO->Prop}{al:Bool}{hp:List HO}{κ:IntKind}{x:Int}{b:Bool}(h:k (.tup [.int κ x,.bool b]) []):Jv al k (.tup [.int κ x,.bool b]) hp:=
 Ky (show k _ []from h) (Jq (.tup [.int κ x,.bool b]) ⟨trivial,trivial,trivial⟩) (fun _=>by simp [Y0,Y4])
theorem Ykv:guessC.ok Yb 87:=by
 refine Yv Tryz.func87 YtC Yf2 500 guessC fun args k h=>?_
 simp only[guessC]at h
 split at h
 ·rename_i tt z n sz get
  obtain⟨l,⟨⟨rfl,rfl,hg⟩,hl,hn⟩,h⟩:=h
  refine⟨[.vs tt z l.length 2 (fun k=>YA (l.getD k default))],⟨⟨id,rfl,rfl,rfl,hg⟩,trivial⟩,?_⟩
  dsimp only[v87,YA,go_sem,reduceIte,Ya]
  simp only[Yd,Ya,Ye,reduceCtorEq,Yc]
  refine Loop.keep [0,3,0,4,0] (Nat×Gss) (fun s=>[(12,.int .i64 s.1)]) (fun s=>[(0,.own false 2 2 (Jp 2 [.int .u64 s.2.u0.1,.int .u64 s.2.u0.2,.int .u64 s.2.u1.1,.int .u64 s.2.u1.2])),(1,.own false 2 2 (Jp 2 [.int .u64 s.2.d0.1,.int .u64 s.2.d0.2,.int .u64 s.2.d1.1,.int .u64 s.2.d1.2]))]) [] (fun s=>s.1<=l.length/\s.2=(l.take s.1).foldl JY gss0/\s.2.ok) (fun s=>l.length-s.1) ?_ ?_
  ·refine⟨(0,gss0),⟨by simp only;omega,rfl,by simp [Gss.ok,gss0,okL]⟩,?_⟩
   dsimp only[gss0,go_sem,reduceIte,Ya]
   simp only[Yf]
   exact⟨by decide,by decide,rfl⟩
  ·rintro⟨i,G⟩ ⟨hi,hG,hok⟩
   dsimp only at hi hG hok
   dsimp only[YfZ,Yf0,Yf1,quickC,lpC,loC,YA,Yh,Int.reduceToNat,Nat.reduceMul,Int.toNat_zero,Int.toNat_one,go_sem,reduceIte,Ya]
   simp only[Yd,Ya,Ye,reduceCtorEq,Yc]
   refine⟨fun hlt=>?_,fun hge=>?_⟩
   ·have hx:=hl _ (KK (by omega:i<l.length))
    generalize hxe:l.getD i default=x at hx⊢
    obtain⟨q0,q1,q2,q3⟩:=hx
    have hstep:(l.take (i+1)).foldl JY gss0=JY G x:=by
     rw[W5 (by omega),<-hG,hxe]
    obtain⟨g1,g2⟩:=YoA x.1 (by omega)
    have hok':=OL G x hok
    obtain⟨o1,o2,o3,o4⟩:=hok
    refine⟨⟨by omega,by omega⟩,⟨by omega,by omega⟩,by decide,by decide,fun hc=>?_,fun hc=>?_⟩
    ·have ew:IntKind.u64.wrap x.2=x.2:=Z8 _ (by omega)
     rw[ew]
     refine⟨by decide,by decide,by decide,by decide,⟨o1,g1,by omega,by omega⟩,by decide,⟨o2,g2,by omega,by omega⟩,by decide,by decide,by decide,(i+1,JY G x),⟨by simp only;omega,hstep.symm,hok'⟩,by simp only;omega,?_⟩
     rw[Yg ((i:Int)+1) (by omega)]
     simp only[JY,if_pos hc]
     simp only[Yf]
     refine⟨⟨by decide,by decide,by simp⟩,fun j hj=>?_⟩
     match j,hj with
     |0,_=>exact⟨⟨rfl,rfl⟩,⟨rfl,rfl⟩,trivial⟩
     |1,_=>exact⟨⟨rfl,rfl⟩,⟨rfl,rfl⟩,trivial⟩
    ·have en:IntKind.i64.wrap (0-x.2)= -x.2:=by rw[Yg _ (by omega)];omega
     rw[en]
     have ew:IntKind.u64.wrap (-x.2)= -x.2:=Z8 _ (by omega)
     rw[ew]
     refine⟨by decide,by decide,by decide,by decide,⟨o3,g1,by omega,by omega⟩,by decide,⟨o4,g2,by omega,by omega⟩,by decide,by decide,by decide,(i+1,JY G x),⟨by simp only;omega,hstep.symm,hok'⟩,by simp only;omega,?_⟩
     rw[Yg ((i:Int)+1) (by omega)]
     simp only[JY,if_neg hc]
     simp only[Yf]
     refine⟨⟨by decide,by decide,by simp⟩,fun j hj=>?_⟩
     match j,hj with
     |0,_=>exact⟨⟨rfl,rfl⟩,⟨rfl,rfl⟩,trivial⟩
     |1,_=>exact⟨⟨rfl,rfl⟩,⟨rfl,rfl⟩,trivial⟩
   ·obtain rfl:i=l.length:=by omega
    rw[QB]at hG
    rw[G1,<-hG]at h
    refine⟨by decide,by decide,by decide,by decide,fun hc=>?_,fun hc=>⟨by decide,by decide,by decide,by decide,fun hd=>?_,fun hd=>?_⟩⟩
    ·rw[show VQ G.u0 G.d1=true from hc]at h
     exact Ec h
    ·rw[show VQ G.u0 G.d1=false from hc,show VQ G.d0 G.u1=true from hd]at h
     exact Ec h
    ·rw[show VQ G.u0 G.d1=false from hc,show VQ G.d0 G.u1=false from hd]at h
     exact Ec h
 ·exact h.1.elim
def JJ(x:Nat):List SV:=[.int .i64 x]
def X9(out:List Nat)(n:Nat):Nat:=Wn (fun i=>decide (1<YG (out.getD i 0) n)) out.length 0
def QT:Nat->List Nat->List Nat->List Nat
 |0,_,out=>out
 |f+1,wait,out=>
  if wait.length=0 then out
  else if wait.getD (wait.length-1) 0=1 then QT f (wait.take (wait.length-1)) out
  else if X9 out (wait.getD (wait.length-1) 0)<out.length then
   QT f (wait.take (wait.length-1)++[YG (out.getD (X9 out (wait.getD (wait.length-1) 0)) 0) (wait.getD (wait.length-1) 0),out.getD (X9 out (wait.getD (wait.length-1) 0)) 0/YG (out.getD (X9 out (wait.getD (wait.length-1) 0)) 0) (wait.getD (wait.length-1) 0),wait.getD (wait.length-1) 0/YG (out.getD (X9 out (wait.getD (wait.length-1) 0)) 0) (wait.getD (wait.length-1) 0)])
    (out.take (X9 out (wait.getD (wait.length-1) 0))++out.drop (X9 out (wait.getD (wait.length-1) 0)+1))
  else QT f (wait.take (wait.length-1)) (out++[wait.getD (wait.length-1) 0])
def XK(out:List Nat)(x:Int×Int):List Nat:=QT 3000 [x.1.toNat] out
def Ud(l:List (Int×Int)):List Nat:=l.foldl XK []
def YI:List Nat->Nat
 | []=>1
 |x::l=>x*YI l
theorem VS:∀(a b:List Nat),YI (a++b)=YI a*YI b
 | [],b=>by simp [YI]
 |x::a,b=>by rw[ZH,YI,YI,VS a b,Yx]
theorem Am:∀{l:List Nat},(∀x,x∈l->1<=x)->1<=YI l
 | [],_=>by decide
 |x::l,h=>by
  have h1:=Am (l:=l) fun y hy=>h y (KH _ hy)
  have h2:=h x (KF ..)
  rw[YI]
  exact Y3 h2 h1
theorem A2{w:List Nat}(h:w.length≠0):w=w.take (w.length-1)++[w.getD (w.length-1) 0]:=by
 have:=Hk (l:=w) (i:=w.length-1) (by omega)
 rw[show w.length-1+1=w.length by omega,QB]at this
 exact this
theorem Ydi{w:List Nat}{i:Nat}(h:i<w.length):w=w.take i++w.getD i 0::w.drop (i+1):=by
 have h1:=List.take_append_drop i w
 have h2:w.drop i=w.getD i 0::w.drop (i+1):=by
  rw[List.drop_eq_getElem_cons h,Kp,Wu h];rfl
 rw[h2]at h1
 exact h1.symm
structure DrOk (B f:Nat) (wait out:List Nat):Prop where
 wp:∀x,x∈wait->1<=x/\x<=1099511627776
 op:∀x,x∈out->2<=x/\x<=1099511627776
 pb:Yw (YI out*YI wait)<=B
 mu:3*Yw (YI out*YI wait)+wait.length<=f
theorem DrOk.pop{B f:Nat}{wait out:List Nat}(h:DrOk B f wait out)(hw:wait.length≠0)(h1:wait.getD (wait.length-1) 0=1):∃g,f=g+1/\DrOk B g (wait.take (wait.length-1)) out:=by
 have hm:=h.mu
 have hpb:=h.pb
 refine⟨f-1,by omega,?_⟩
 have e:=A2 hw
 have e2:YI wait=YI (wait.take (wait.length-1)):=by
  conv=>lhs;rw[e]
  rw[VS,h1];simp [YI]
 refine⟨fun x hx=>h.wp x (List.mem_of_mem_take hx),h.op,by rw[<-e2];exact hpb,?_⟩
 rw[<-e2,J8]
 omega
theorem DrOk.push{B f:Nat}{wait out:List Nat}(h:DrOk B f wait out)(hw:wait.length≠0)(h1:wait.getD (wait.length-1) 0≠1):∃g,f=g+1/\DrOk B g (wait.take (wait.length-1)) (out++[wait.getD (wait.length-1) 0]):=by
 have hm:=h.mu
 have hn:=h.wp _ (KK (l:=wait) (i:=wait.length-1) (by omega))
 have hn':1<=wait.getD (wait.length-1) 0/\wait.getD (wait.length-1) 0<=1099511627776:=hn
 have hpb:=h.pb
 have e:=A2 hw
 have e2:YI out*YI wait=YI (out++[wait.getD (wait.length-1) 0])*YI (wait.take (wait.length-1)):=by
  conv=>lhs;rw[e]
  rw[VS,VS]
  simp only[YI,Kb]
  rw[Yk (YI (wait.take _)),Yx]
 refine⟨f-1,by omega,⟨fun x hx=>h.wp x (List.mem_of_mem_take hx),fun x hx=>?_,by rw[<-e2];exact hpb,?_⟩⟩
 ·rcases KE.1 hx with hx|hx
  ·exact h.op x hx
  ·rw[JD]at hx
   subst hx
   omega
 rw[<-e2,J8]
 omega
theorem TO{a b:Nat}(h:a<=b):Yw a<=Yw b:=bitsN_le.2 (Jn h (US b))
theorem DrOk.hit{B f:Nat}{wait out:List Nat}(h:DrOk B f wait out)(hw:wait.length≠0){i:Nat}(hi:i<out.length)(hg:1<YG (out.getD i 0) (wait.getD (wait.length-1) 0)):
 ∃g,f=g+1/\DrOk B g (wait.take (wait.length-1)++[YG (out.getD i 0) (wait.getD (wait.length-1) 0),out.getD i 0/YG (out.getD i 0) (wait.getD (wait.length-1) 0),wait.getD (wait.length-1) 0/YG (out.getD i 0) (wait.getD (wait.length-1) 0)]) (out.take i++out.drop (i+1)):=by
 have hm:=h.mu
 have hn:1<=wait.getD (wait.length-1) 0/\wait.getD (wait.length-1) 0<=1099511627776:=h.wp _ (KK (l:=wait) (i:=wait.length-1) (by omega))
 have hb:2<=out.getD i 0/\out.getD i 0<=1099511627776:=h.op _ (KK (l:=out) (i:=i) hi)
 have e:=A2 hw
 have e':=Ydi hi
 generalize wait.getD (wait.length-1) 0=n at*
 generalize out.getD i 0=b at*
 have d1:=Wv b n
 have d2:=Nat.gcd_dvd_right b n
 generalize YG b n=g at*
 obtain⟨b1,rfl⟩:=d1
 obtain⟨n1,rfl⟩:=d2
 rw[Nat.mul_div_cancel_left _ (by omega),Nat.mul_div_cancel_left _ (by omega)]
 have hb1:1<=b1:=Nat.pos_of_ne_zero fun hh=>by rw[hh,Wf]at hb;omega
 have hn1:1<=n1:=Nat.pos_of_ne_zero fun hh=>by rw[hh,Wf]at hn;omega
 have gb:g<=g*b1:=Nat.le_mul_of_pos_right _ hb1
 have bb:b1<=g*b1:=V6 _ (by omega)
 have nb:n1<=g*n1:=V6 _ (by omega)
 have hpt:1<=YI (out.take i++out.drop (i+1))*YI (wait.take (wait.length-1)):=by
  refine Y3 (Am fun x hx=>?_) (Am fun x hx=>(h.wp x (List.mem_of_mem_take hx)).1)
  rcases KE.1 hx with hx|hx
  ·have:=(h.op x (List.mem_of_mem_take hx)).1;omega
  ·have:=(h.op x (List.mem_of_mem_drop hx)).1;omega
 have eP:YI out*YI wait=g*(YI (out.take i++out.drop (i+1))*YI (wait.take (wait.length-1)++[g,b1,n1])):=by
  conv=>lhs;rw[e,e']
  simp only[VS,YI,Kb]
  generalize YI (out.take i)=A
  generalize YI (out.drop (i+1))=B
  generalize YI (wait.take (wait.length-1))=C
  simp only[Yx,Jd,Yk]
 have hp1:1<=YI (out.take i++out.drop (i+1))*YI (wait.take (wait.length-1)++[g,b1,n1]):=by
  rw[VS (wait.take _),<-Yx]
  refine Y3 hpt ?_
  simp only[YI,Kb]
  exact Y3 (by omega) (Y3 hb1 hn1)
 have hP:Yw (YI (out.take i++out.drop (i+1))*YI (wait.take (wait.length-1)++[g,b1,n1]))+1<=Yw (YI out*YI wait):=by
  generalize hQ:YI (out.take i++out.drop (i+1))*YI (wait.take (wait.length-1)++[g,b1,n1])=Q at*
  rw[eP]
  have h2:2*Q<=g*Q:=Yu _ (by omega)
  have h3:=Dt (a:=g*Q) (by omega)
  have h4:Yw Q<=Yw (g*Q/2):=TO (by omega)
  omega
 have hpb:=h.pb
 refine⟨f-1,by omega,⟨fun x hx=>?_,fun x hx=>?_,by omega,?_⟩⟩
 ·rcases KE.1 hx with hx|hx
  ·exact h.wp x (List.mem_of_mem_take hx)
  ·simp only[K4,List.not_mem_nil,or_false]at hx
   rcases hx with rfl|rfl|rfl <;> omega
 ·rcases KE.1 hx with hx|hx
  ·exact h.op x (List.mem_of_mem_take hx)
  ·exact h.op x (List.mem_of_mem_drop hx)
 ·rw[JI,J8]
  simp only[Xr,ZI]
  omega
theorem TP(a b:Nat):Yw (a*b)<=Yw a+Yw b:=by
 rw[bitsN_le,Yo]
 exact Nat.mul_lt_mul_of_lt_of_le (US a) (JN (US b)) (Ja _)
theorem DrOk.start{i N:Nat}{out:List Nat}(hN0:1<=N)(hN1:N<=1000000000001)(ho:∀x,x∈out->2<=x/\x<=1099511627776)(hb:Yw (YI out)<=40*i+1)(hi:i<20):DrOk (40*(i+1)+1) 3000 [N] out:=by
 have h1:Yw N<=40:=bitsN_le.2 (by omega)
 have h2:Yw (YI out*YI [N])<=40*(i+1)+1:=by
  have:=TP (YI out) (YI [N])
  have e:YI [N]=N:=by simp [YI]
  rw[e]at this⊢
  omega
 refine⟨fun x hx=>?_,ho,h2,?_⟩
 ·rw[JD]at hx
  subst hx
  omega
 ·simp only[Xr,ZI]
  omega
end Go.Proofs.YtlhmikjnholpnaaGreatDoor
