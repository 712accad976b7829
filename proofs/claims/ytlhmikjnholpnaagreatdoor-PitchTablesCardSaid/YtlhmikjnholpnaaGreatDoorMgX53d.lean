/- Data that came in, as the executor's values: by shapes of types. -/
import Derived.Test.YtlhmikjnholpnaaGreatDoorMgX53c
import Derived.ProofKit
import Derived.Deep.Slices
import Derived.IntWalk
import Derived.Test.YtlhmikjnholpnaaGreatDoorProg
import Derived.Lib.BitFns
open And renaming intro->YC
open Array renaming replicate->Ve
open Bool renaming and_eq_false_iff->Wn,and_eq_true->YS,false_eq_true->XQ,not_eq_true'->ZY,or_eq_true->Qj
open Int renaming eq_ofNat_of_zero_le->Un,mul_le_mul_of_nonneg_right->XC,natCast_mul->Qr,toNat->Xs,toNat_natCast->Yj
open Go.IntWalk renaming i64_in->Yg,u64_in->Wp,up_tdiv->Wq,up_tmod->VI
open List renaming append_nil->Wr,cons_append->Ws,getD_eq_getElem?_getD->Kh,getElem?_cons_zero->VK,getElem?_eq_getElem->VL,getElem?_eq_some_iff->UY,map_cons->KH,map_nil->Vf,mem_cons->Kz,mem_cons_of_mem->KX,mem_cons_self->KR,nil_append->VP
open Nat renaming add_assoc->Zk,add_mul->YM,add_zero->KO,beq->YJ,ble->Y7,div_add_mod->KP,div_div_eq_div_mul->K8,div_eq_of_lt->QN,div_le_self->XD,div_lt_iff_lt_mul->WH,div_mul_le_self->XE,eq_of_beq_eq_true->Jy,eq_zero_or_pos->Jc,le_div_iff_mul_le->Wv,le_of_ble_eq_true->KC,le_of_lt->JZ,le_of_mul_le_mul_right->Ki,le_of_not_lt->XF,le_refl->Yt,le_trans->Yh,lt_irrefl->ZA,lt_of_le_of_lt->JC,lt_of_lt_of_le->Qt,lt_of_not_le->WJ,lt_or_ge->YY,lt_trichotomy->Ww,mod_eq_of_lt->QB,mod_lt->Kj,mul_add->Ka,mul_assoc->YA,mul_comm->Yl,mul_le_mul->YX,mul_le_mul_left->Yz,mul_le_mul_right->Yp,mul_left_comm->Jd,mul_lt_mul_of_pos_right->ZB,mul_pos->Y1,mul_right_comm->Vh,mul_zero->ZD,not_lt_zero->J8,one_mul->Y2,pow_add->Yo,pow_le_pow_left->YG,pow_le_pow_right->Kp,pow_mul->Ym,pow_pos->YB,pow_succ->YH,reduceAdd->Ya,reduceBEq->Yk,reduceEqDiff->Yc,reduceLeDiff->Ye,succ_mul->XT,zero_add->KJ,zero_le->JJ,zero_mul->JP
open Option renaming bind_eq_some_iff->YE,map_eq_some_iff->YQ
open Go.Proofs.Tryz renaming prog->Yb
set_option linter.all false
namespace Go.Vx
open Go.RowKit Go.WideShapes Go.ChangeShapes
inductive Sh where
 |int (k:IntKind)
 |bool
 |str
 |slice (l:List Sh)
def Qc:List Sh->Nat
 | []=>0
 |_::l=>Qc l+1
mutual
def okS:Sh->SV->Prop
 | .int k,v=> ∃n,v= .int k n/\(Lit.int k n).wf=true
 | .bool,v=> ∃b,v= .bool b
 | .str,v=> ∃s:ByteArray,v= .val (.string s)/\s.size<=maxLen
 | .slice l,v=> ∃z n get,v= .vs false z n (Qc l) get/\n<=maxLen/\∀k,k<n->QS l (get k)
def QS:List Sh->List SV->Prop
 | [],[]=>True
 |s::l,v::r=>okS s v/\QS l r
 |_,_=>False
end
def My(P:Program)(fl:TypeId->Option (List Sh)):Nat->List Field->Option (List Sh)
 |_,[]=>some []
 |off,f::fs=>bif YJ f.offset off then(fl f.type).bind fun l=>bif YJ (Qc l) (P.cellsOf f.type)then(My P fl (off+P.cellsOf f.type) fs).map (l++·)else none else none
def Po:Nat->List Sh->List Sh
 |0,_=>[]
 |n+1,l=>l++Po n l
def Gg(P:Program):Nat->TypeId->Option (List Sh)
 |0,_=>none
 |n+1,t=>match P.underlying t with
  |some (.int k)=>some [.int k]
  |some .bool=>some [.bool]
  |some .string=>some [.str]
  |some (.slice e)=>(Gg P n e).bind fun l=>bif YJ (Qc l) (P.cellsOf e)then(bif Y7 1 (Qc l)then some [.slice l]else none)else none
  |some (.struct fs)=>(My P (Gg P n) 0 fs.toList).bind fun l=>bif YJ (Qc l) (P.cellsOf t)then some l else none
  |some (.array m e)=>(Gg P n e).bind fun l=>bif YJ (Qc l) (P.cellsOf e)then(bif YJ (m*P.cellsOf e) (P.cellsOf t)then some (Po m l)else none)else none
  |_=>none
theorem Od:∀(a b:List Sh),Qc (a++b)=Qc a+Qc b
 | [],b=>by simp [Qc]
 |_::a,b=>by simp [Qc,Od a b];omega
theorem LR:∀{a b:List Sh}{x y:List SV},QS a x->QS b y->QS (a++b) (x++y)
 | [],_,[],_,_,h=>h
 | [],_,_::_,_,h,_=>h.elim
 |_::_,_,[],_,h,_=>h.elim
 |_::_,_,_::_,_,h,h'=>⟨h.1,LR h.2 h'⟩
def bd0(n:Nat):Bd:=⟨n,fun _=>True,fun _=>none,fun _ _ _=>trivial,fun _ _=>rfl⟩
def cx0(w:World):Cx0:={ toWorld:=w,F:=fun _=>True,I:=fun _=>none,up:=fun _ _ _=>trivial,ex:=fun _ _=>rfl}
section
variable {H:Type} {enc:TypeId×Value->H} {P:Program} {w:World} {B:Nat} {base:Nat} {spare:Nat->Bool} {held:Bool}
theorem XRepL.append:∀{l r:List SV}{vs us:List Value},XRepL w [] (bd0 B) l vs->XRepL w [] (bd0 B) r us->XRepL w [] (bd0 B) (l++r) (vs++us)
 |_,_,_,_,.nil,h=>h
 |_,_,_,_,.cons x v l vs h h',hr=> .cons _ _ _ _ h (XRepL.append h' hr)
theorem TV{fl:TypeId->Option (List Sh)}{fuel:Nat}{cs:List Value}
 (ih:∀(t:TypeId) (cs:List Value) (x:DataW H×List MemPlace) (l:List Sh),fl t=some l->DataW.trod enc P w base spare held fuel t cs=some x->∃svs,XRepL w [] (bd0 B) svs cs/\QS l svs):
 ∀(fs:List Field)(off:Nat)(l:List Sh),My P fl off fs=some l->(∀f∈fs,∃x,DataW.trod enc P w base spare held fuel f.type ((cs.drop f.offset).take (P.cellsOf f.type))=some x)->off+Qc l=cs.length->
  ∃svs,XRepL w [] (bd0 B) svs (cs.drop off)/\QS l svs
 | [],off,l,h,_,hl=>by
   simp only[My,Option.some.injEq]at h
   subst h
   simp only[Qc,KO]at hl
   refine⟨[],?_,trivial⟩
   rw[List.drop_of_length_le (by omega)];exact .nil
 |f::fs,off,l,h,hall,hl=>by
  unfold My at h
  cases hb:YJ f.offset off with
  |false=>rw[hb]at h;cases h
  |true=>
   rw[hb]at h
   have ho:=Jy hb
   obtain⟨l1,h1,h⟩:=YE.1 h
   cases hb2:YJ (Qc l1) (P.cellsOf f.type)with
   |false=>rw[hb2]at h;cases h
   |true=>
    rw[hb2]at h
    have hsz:=Jy hb2
    obtain⟨l2,h2,rfl⟩:=YQ.1 h
    obtain⟨x,hx⟩:=hall f KR
    obtain⟨s1,r1,o1⟩:=ih _ _ _ _ h1 hx
    obtain⟨s2,r2,o2⟩:=TV ih fs _ _ h2 (fun g hg=>hall g (KX _ hg)) (by rw[Od]at hl;omega)
    refine⟨s1++s2,?_,LR o1 o2⟩
    have:=r1.append r2
    rw[ho]at this
    have e:(cs.drop off).take (P.cellsOf f.type)++cs.drop (off+P.cellsOf f.type)=cs.drop off:=by
     rw[<-List.drop_drop];exact List.take_append_drop _ _
    rwa [e]at this
theorem TS{fuel:Nat}{cs:List Value}{e:TypeId}{l:List Sh}(hs:Qc l=P.cellsOf e)
 (ih:∀(cs:List Value) (x:DataW H×List MemPlace),DataW.trod enc P w base spare held fuel e cs=some x->∃svs,XRepL w [] (bd0 B) svs cs/\QS l svs):
 ∀(k j:Nat),(∀i,j<=i->i<j+k->∃x,DataW.trod enc P w base spare held fuel e ((cs.drop (i*P.cellsOf e)).take (P.cellsOf e))=some x)->j*P.cellsOf e+k*P.cellsOf e=cs.length->
  ∃svs,XRepL w [] (bd0 B) svs (cs.drop (j*P.cellsOf e))/\QS (Po k l) svs
 |0,j,_,hl=>by
  refine⟨[],?_,trivial⟩
  rw[List.drop_of_length_le (by omega)];exact .nil
 |k+1,j,hall,hl=>by
  obtain⟨x,hx⟩:=hall j (Yt _) (by omega)
  obtain⟨s1,r1,o1⟩:=ih _ _ hx
  obtain⟨s2,r2,o2⟩:=TS hs ih k (j+1) (fun i h1 h2=>hall i (by omega) (by omega)) (by rw[XT]at hl⊢;omega)
  refine⟨s1++s2,?_,LR o1 o2⟩
  have:=r1.append r2
  have e:(cs.drop (j*P.cellsOf e)).take (P.cellsOf e)++cs.drop ((j+1)*P.cellsOf e)=cs.drop (j*P.cellsOf e):=by
   rw[XT,<-List.drop_drop];exact List.take_append_drop _ _
  rwa [e]at this
theorem Lz{α β:Type}{g:α->Option β}:∀{l:List α}{r:List β},l.mapM g=some r->∀x∈l,∃y,g x=some y
 | [],_,_,x,hx=>by cases hx
 |a::l,r,h,x,hx=>by
  rw[List.mapM_cons]at h
  cases ha:g a with
  |none=>rw[ha]at h;cases h
  |some y=>
   rw[ha]at h
   cases hl:l.mapM g with
   |none=>rw[hl]at h;cases h
   |some ys=>
    rcases Kz.1 hx with rfl|hx
    ·exact⟨y,ha⟩
    ·exact Lz hl x hx
theorem SN{a:Addr}{n:Nat}{cs:List Value}(h:w.cells? base a n=some cs):cs.length=n/\∀j v,cs[j]? =some v->w.cell? (a.add j)=some v:=by
 unfold World.cells? at h
 split at h
 ·have key:∀(l:List Nat)(r:List Value),l.mapM (fun i=>w.cell? (a.add i))=some r->r.length=l.length/\∀(j:Nat)(v:Value),r[j]? =some v->∃i,l[j]? =some i/\w.cell? (a.add i)=some v:=by
   intro l
   induction l with
   |nil=>intro r h;simp at h;subst h;exact⟨rfl,fun j v h=>by simp at h⟩
   |cons i l ih=>
    intro r h
    rw[List.mapM_cons]at h
    cases hi:w.cell? (a.add i)with
    |none=>rw[hi]at h;cases h
    |some v0=>
     rw[hi]at h
     cases hl:l.mapM (fun i=>w.cell? (a.add i))with
     |none=>rw[hl]at h;cases h
     |some r'=>
      rw[hl]at h
      cases h
      obtain⟨h1,h2⟩:=ih r' hl
      refine⟨by simp [h1],fun j v hj=>?_⟩
      cases j with
      |zero=>simp only[VK,Option.some.injEq]at hj;subst hj;exact⟨i,rfl,hi⟩
      |succ j=>obtain⟨i',k1,k2⟩:=h2 j v (by simpa using hj);exact⟨i',by simpa using k1,k2⟩
  obtain⟨h1,h2⟩:=key _ _ h
  refine⟨by simpa using h1,fun j v hj=>?_⟩
  obtain⟨i,k1,k2⟩:=h2 j v hj
  have:j<n:=by
   have:=(UY.1 hj).1
   simp at h1;omega
  rw[List.getElem?_range this]at k1
  cases k1;exact k2
 ·cases h
theorem C5{a:Addr}{v:Value}(h:w.cell? a=some v):a.spot=none/\∃cs T fz,w.heap[a.block]? =some (.cells cs T fz)/\cs[a.off]? =some v:=by
 unfold World.cell? at h
 split at h
 ·split at h
  ·cases h
  ·rename_i hs
   exact⟨by cases hq:a.spot with|none=>rfl|some _=>rw[hq]at hs;simp at hs,_,_,_,‹_›,h⟩
 ·cases h
theorem YoE:∀(n fuel:Nat)(t:TypeId)(cs:List Value)(x:DataW H×List MemPlace)(l:List Sh),Gg P n t=some l->DataW.trod enc P w base spare held fuel t cs=some x->∃svs,XRepL w [] (bd0 B) svs cs/\QS l svs:=by
 intro n
 induction n with
 |zero=>intro fuel t cs x l h;cases h
 |succ n ih=>
  intro fuel t cs x l h hx
  unfold Gg at h
  split at h
  ·rename_i k hu
   cases h
   obtain⟨m,rfl,_,hw⟩:=DataW.trod_int hu hx
   exact⟨[.int k m],.cons _ _ _ _ (.int _ _) .nil,⟨m,rfl,hw⟩,trivial⟩
  ·rename_i hu
   cases h
   obtain⟨b,rfl,_⟩:=DataW.trod_bool hu hx
   exact⟨[.bool b],.cons _ _ _ _ (.bool _) .nil,⟨b,rfl⟩,trivial⟩
  ·rename_i hu
   cases h
   obtain⟨s,rfl,_,hs⟩:=DataW.trod_string hu hx
   exact⟨[.val (.string s)],.cons _ _ _ _ (.val _) .nil,⟨s,rfl,hs⟩,trivial⟩
  ·rename_i e hu
   obtain⟨le,he,h⟩:=YE.1 h
   cases hb:YJ (Qc le) (P.cellsOf e)with
   |false=>rw[hb]at h;cases h
   |true=>
   rw[hb]at h
   have hsz:=Jy hb
   cases hb1:Y7 1 (Qc le)with
   |false=>rw[hb1]at h;cases h
   |true=>
   rw[hb1]at h
   have hpos:=KC hb1
   cases h
   rcases Deep.open_slice hu hx with⟨rfl,_⟩ | ⟨a,len,cap,m,fu,D,Pl,rfl,hba,hlc,hcm,hm,_,hel⟩
   ·exact⟨[.vs false true 0 (Qc le) fun _=>[]],.cons _ _ _ _ (.vs _ _ _ _ _ none 0 (fun _=>[]) rfl (Yt _) (fun _=>⟨rfl,rfl⟩) (fun k hk=>by omega) (fun k hk=>by omega)) .nil,
     ⟨true,0,_,rfl,JJ _,fun k hk=>by omega⟩,trivial⟩
   ·have hlm:len<=m:=by rw[hm];split <;> omega
    have hel':∀k,∃vals svs,k<len->w.cells? base (a.add (k*P.cellsOf e)) (P.cellsOf e)=some vals/\XRepL w [] (bd0 B) svs vals/\QS le svs:=by
     intro k
     by_cases hk:k<len
     ·obtain⟨cs',h1,h2⟩:=hel k (by omega)
      obtain⟨svs,h3,h4⟩:=ih fu e cs' _ _ he h2
      exact⟨cs',svs,fun _=>⟨h1,h3,h4⟩⟩
     ·exact⟨[],[],fun h=>absurd h hk⟩
    obtain⟨vals,hv⟩:=Classical.axiomOfChoice hel'
    obtain⟨get,hg⟩:=Classical.axiomOfChoice hv
    refine⟨[.vs false false len (Qc le) get],.cons _ _ _ _ (.vs _ _ _ _ _ (some a) cap vals rfl hlc (fun h=>by cases h) (fun k hk=>?_) (fun k hk=>(hg k hk).2.1)) .nil,⟨false,len,get,rfl,by omega,fun k hk=>(hg k hk).2.2⟩,trivial⟩
    have h0:=(hg 0 (by omega)).1
    obtain⟨l0,c0⟩:=SN h0
    have hsp:a.spot=none:=by
     cases hv0:vals 0 with
     |nil=>rw[hv0]at l0;simp at l0;omega
     |cons v r=>
      have:=(C5 (c0 0 v (by rw[hv0];rfl))).1
      simpa [Addr.add]using this
    obtain⟨lk,ck⟩:=SN (hg k hk).1
    refine⟨a,rfl,hsp,⟨V4,trivial⟩,(fun h=>by cases h),by rw[lk,hsz],?_⟩
    cases hvk:vals k with
    |nil=>rw[hvk]at lk;simp at lk;omega
    |cons v r=>
     rw[hvk]at ck
     have e1:∀j,(a.add (k*P.cellsOf e)).add j=⟨a.block,a.off+k*P.cellsOf e+j,none⟩:=by
      intro j
      obtain⟨ab,ao,asp⟩:=a
      simp only at hsp
      subst hsp
      unfold Addr.add
      split <;> split <;> simp_all <;> omega
     obtain⟨_,cs2,T,fz,hb,hc⟩:=C5 (ck 0 v rfl)
     rw[e1]at hb
     refine⟨cs2,T,fz,hb,fun j u hj=>?_⟩
     obtain⟨_,cs3,T3,fz3,hb3,hc3⟩:=C5 (ck j u hj)
     rw[e1]at hb3 hc3
     simp only at hb hb3 hc3
     rw[hb]at hb3;cases hb3
     rw[hsz]
     exact hc3
  ·rename_i fs hu
   obtain⟨l0,hf,h⟩:=YE.1 h
   cases hb:YJ (Qc l0) (P.cellsOf t)with
   |false=>rw[hb]at h;cases h
   |true=>
    rw[hb]at h
    cases h
    have hsz:=Jy hb
    cases fuel with
    |zero=>simp [DataW.trod]at hx
    |succ fuel=>
     unfold DataW.trod at hx
     rw[hu]at hx
     simp only at hx
     split at hx
     ·rename_i hlen
      obtain⟨xs,hxs,_⟩:=YQ.1 hx
      have:=TV (cs:=cs) (B:=B) (fun t cs x l h h'=>ih fuel t cs x l h h') fs.toList 0 l hf (fun f hf=>Lz hxs f hf) (by omega)
      simpa using this
     ·cases hx
  ·rename_i m e hu
   obtain⟨l0,hf,h⟩:=YE.1 h
   cases hb:YJ (Qc l0) (P.cellsOf e)with
   |false=>rw[hb]at h;cases h
   |true=>
    rw[hb]at h
    have hsz:=Jy hb
    cases hb2:YJ (m*P.cellsOf e) (P.cellsOf t)with
    |false=>rw[hb2]at h;cases h
    |true=>
     rw[hb2]at h
     cases h
     have hsz2:=Jy hb2
     cases fuel with
     |zero=>simp [DataW.trod]at hx
     |succ fuel=>
      unfold DataW.trod at hx
      rw[hu]at hx
      simp only at hx
      split at hx
      ·rename_i hlen
       obtain⟨xs,hxs,_⟩:=YQ.1 hx
       have:=TS (cs:=cs) (B:=B) hsz (fun cs x h'=>ih fuel e cs x l0 hf h') m 0 (fun i _ hi=>Lz hxs i (List.mem_range.2 (by omega))) (by omega)
       simpa using this
      ·cases hx
  ·cases h
structure PSh where
 agg:Bool
 l:List Sh
def okP(p:PSh)(v:SV):Prop:=
 match p.agg with
 |true=> ∃cs,v= .agg cs/\QS p.l cs
 |false=>QS p.l [v]
def Fl:List PSh->List SV->Prop
 | [],[]=>True
 |p::l,v::r=>okP p v/\Fl l r
 |_,_=>False
def L6(P:Program)(t:TypeId):Option PSh:=
 (Gg P 16 t).bind fun l=>match P.underlying t with
   |some (.struct _)=>some ⟨true,l⟩
   |some (.array _ _)=>some ⟨true,l⟩
   |some (.int _) |some .bool|some .string|some (.slice _)=>some ⟨false,l⟩
   |_=>none
def M5(P:Program):List TypeId->Option (List PSh)
 | []=>some []
 |t::l=>(L6 P t).bind fun p=>(M5 P l).map (p::·)
theorem Bn{n:Nat}{t:TypeId}{l:List Sh}(h:Gg P n t=some l)(hu:(∃k,P.underlying t=some (.int k))\/P.underlying t=some .bool\/P.underlying t=some .string\/∃e,P.underlying t=some (.slice e)):∃s,l=[s]:=by
 cases n with
 |zero=>cases h
 |succ n=>
  unfold Gg at h
  rcases hu with⟨k,hu⟩ |hu|hu| ⟨e,hu⟩ <;> rw[hu]at h <;> simp only at h
  ·cases h;exact⟨_,rfl⟩
  ·cases h;exact⟨_,rfl⟩
  ·cases h;exact⟨_,rfl⟩
  ·obtain⟨le,_,h⟩:=YE.1 h
   cases hb:YJ (Qc le) (P.cellsOf e)with
   |false=>rw[hb]at h;cases h
   |true=>
    rw[hb]at h
    cases hb1:Y7 1 (Qc le)with
    |false=>rw[hb1]at h;cases h
    |true=>rw[hb1]at h;cases h;exact⟨_,rfl⟩
theorem YkR{r:Reach}{b0:Nat}{t:TypeId}{v:Value}{d:DataW H}{ps:List MemPlace}{p:PSh}(hp:L6 P t=some p)(hval:Value.okWide P w r b0 t v)(hd:DataW.Trod enc P w base spare held t v d ps):∃sv,XRep w [] (bd0 B) sv v/\okP p sv:=by
 obtain⟨fuel,hf⟩:=id hd
 unfold L6 at hp
 obtain⟨l,hl,hp⟩:=YE.1 hp
 obtain⟨svs,h1,h2⟩:=YoE (B:=B) 16 fuel t _ _ l hl hf
 have one:∀(c:Value),v.cells.toList=[c]->v=c->(∃s,l=[s])->∃sv,XRep w [] (bd0 B) sv v/\okP ⟨false,l⟩ sv:=by
  rintro c hc rfl ⟨s,rfl⟩
  rw[hc]at h1
  cases h1 with
  |cons sv _ svs' _ k1 k2=>
   cases k2
   exact⟨sv,k1,h2⟩
 split at hp
 ·rename_i fs hu
  cases hp
  unfold Value.okWide at hval
  rw[hu]at hval
  simp only at hval
  obtain⟨cs,rfl,_⟩:=hval
  refine⟨.agg svs,?_,svs,rfl,h2⟩
  have:=XRep.agg (w:=w) (bs:=[]) (B:=bd0 B) svs cs.toList h1
  simpa using this
 ·rename_i m e hu
  cases hp
  unfold Value.okWide at hval
  rw[hu]at hval
  simp only at hval
  obtain⟨cs,rfl,_⟩:=hval
  refine⟨.agg svs,?_,svs,rfl,h2⟩
  have:=XRep.agg (w:=w) (bs:=[]) (B:=bd0 B) svs cs.toList h1
  simpa using this
 ·rename_i k hu
  cases hp
  obtain⟨n,rfl⟩:=okWide_int hu hval
  exact one _ rfl rfl (Bn hl (.inl ⟨_,hu⟩))
 ·rename_i hu
  cases hp
  obtain⟨n,rfl⟩:=okWide_bool hu hval
  exact one _ rfl rfl (Bn hl (.inr (.inl hu)))
 ·rename_i hu
  cases hp
  obtain⟨n,rfl⟩:=okWide_string hu hval
  exact one _ rfl rfl (Bn hl (.inr (.inr (.inl hu))))
 ·rename_i e hu
  cases hp
  obtain⟨a,len,cap,rfl⟩:=okWide_slice hu hval
  exact one _ rfl rfl (Bn hl (.inr (.inr (.inr ⟨_,hu⟩))))
 ·cases hp
theorem Yah{r:Reach}{b0:Nat}:∀{ts:List TypeId}{vs:List Value}{ds:List (DataW H)}{ps:List MemPlace}{shs:List PSh},M5 P ts=some shs->(∀(j:Nat) t v,ts[j]? =some t->vs[j]? =some v->Value.okWide P w r b0 t v)->
 DataW.TrodAll enc P w base spare held ts vs ds ps->∃svs,XRepL w [] (bd0 B) svs vs/\Fl shs svs
 | [],vs,ds,ps,shs,h,_,hd=>by
   simp only[M5,Option.some.injEq]at h
   subst h
   obtain⟨rfl,_,_⟩:=trodAll_nil hd
   exact⟨[],.nil,trivial⟩
 |t::ts,vs,ds,ps,shs,h,hv,hd=>by
  unfold M5 at h
  obtain⟨p,hp,h⟩:=YE.1 h
  obtain⟨shs',hs,rfl⟩:=YQ.1 h
  obtain⟨v,vs',d,ds',p1,q1,rfl,rfl,rfl,h1,h2⟩:=trodAll_cons hd
  obtain⟨sv,k1,k2⟩:=YkR (B:=B) hp (hv 0 t v rfl rfl) h1
  obtain⟨svs,k3,k4⟩:=Yah hs (fun j t' v' ht hv'=>hv (j+1) t' v' (by simpa using ht) (by simpa using hv')) h2
  exact⟨sv::svs,.cons _ _ _ _ k1 k3,k2,k4⟩
end
def Pm(P:Program)(ts:List TypeId):Bool:=ts.all fun t=>P.readableRec t&&Nat.blt t P.types.size
theorem Yag{H:Type}{enc:TypeId×Value->H}{P:Program}(hl:laidOutB P=true){W W':World}(hb:Below W.heap.size W W'):
 ∀{ts:List TypeId}{vs:List Value}{ds:List (DataW H)}{ps:List MemPlace},Pm P ts=true->DataW.TrodAll enc P W 0 (fun _=>true) true ts vs ds ps->DataW.TrodAll enc P W' 0 (fun b=>decide (b<W.heap.size)) true ts vs ds ps
 | [],vs,ds,ps,_,h=>by
   obtain⟨rfl,rfl,rfl⟩:=trodAll_nil h
   rfl
 |t::ts,vs,ds,ps,hr,h=>by
  obtain⟨v,vs',d,ds',p1,q1,rfl,rfl,rfl,h1,h2⟩:=trodAll_cons h
  simp only[Pm,List.all_cons,YS]at hr
  have hlt:∀x∈p1,x.block<W.heap.size:=by obtain⟨m,hm⟩:=h1;exact DataW.trod_lt m _ _ _ hm
  refine⟨_,_,Below.trod hl hr.1.1 ?_ h1 hb hlt,Yag hl hb hr.2 h2,rfl⟩
  have:=hr.1.2
  simpa using this
theorem Ycu{H:Type}{enc:TypeId×Value->H}{P:Program}{W:World}{base:Nat}{spare:Nat->Bool}{held:Bool}:
 ∀{ts:List TypeId}{vs:List Value}{ds:List (DataW H)}{ps:List MemPlace},DataW.TrodAll enc P W base spare held ts vs ds ps->ds.length=ts.length
 | [],vs,ds,ps,h=>by obtain⟨_,rfl,_⟩:=trodAll_nil h;rfl
 |t::ts,vs,ds,ps,h=>by
  obtain⟨v,vs',d,ds',p1,q1,rfl,rfl,rfl,h1,h2⟩:=trodAll_cons h
  simp [Ycu h2]
theorem LU{s:Sh}{l:List Sh}{c:List SV}(h:QS (s::l) c):∃x r,c=x::r/\okS s x/\QS l r:=by
 cases c with
 |nil=>exact h.elim
 |cons x r=>exact⟨x,r,rfl,h.1,h.2⟩
theorem O6{c:List SV}(h:QS [] c):c=[]:=by
 cases c with
 |nil=>rfl
 |cons x r=>exact h.elim
theorem O7{k:IntKind}{v:SV}(h:okS (.int k) v):∃n,v= .int k n/\(Lit.int k n).wf=true:=h
theorem LQ{p:PSh}{l:List PSh}{c:List SV}(h:Fl (p::l) c):∃x r,c=x::r/\okP p x/\Fl l r:=by
 cases c with
 |nil=>exact h.elim
 |cons x r=>exact⟨x,r,rfl,h.1,h.2⟩
theorem Ykz{c:List SV}(h:Fl [] c):c=[]:=by
 cases c with
 |nil=>rfl
 |cons x r=>exact h.elim
theorem O4{l:List Sh}{v:SV}(h:okP ⟨true,l⟩ v):∃cs,v= .agg cs/\QS l cs:=h
theorem YkA{s:Sh}{v:SV}(h:okP ⟨false,[s]⟩ v):okS s v:=h.1
def Ld(shs:List PSh):Ctr:={ alias:=false,of:=fun l=> .pre (Fl shs l) (.fin (.bool true) [])}
end Go.Vx
namespace Go.Vx
def IC(ho:HO)(n size j:Nat)(i:Int):Option Ef:=
 match ho with
 | .own _ sz m _=>Kc (0<=i/\i<n/\sz=size/\m=n) (.elem j i.toNat 0 size)
 | .box _=>Kc (0<=i/\i<n) (.ptr j (Kw i size))
 |_=>none
theorem Yll{hp:List HO}{n size j:Nat}{k:IntKind}{i:Int}:Vk hp n size [.ptr j 0,.int k i]=IC (Ys hp j) n size j i:=rfl
def BE(ho:HO)(n size j o:Nat)(i:Int):Option Ef:=
 match ho with
 | .box _=>Kc (0<=i/\i<n) (.ptr j (o+Kw i size))
 |_=>none
theorem Ylm{hp:List HO}{n size j:Nat}{k:IntKind}{i:Int}:Vk hp n size [.ptr j 1,.int k i]=BE (Ys hp j) n size j 1 i:=rfl
theorem Yln{hp:List HO}{n size j:Nat}{k:IntKind}{i:Int}:Vk hp n size [.ptr j 2,.int k i]=BE (Ys hp j) n size j 2 i:=rfl
theorem YhI:Kw 0 1=0:=rfl
theorem YhJ:Kw 0 2=0:=rfl
theorem YhK:Kw 0 3=0:=rfl
theorem YhL:Kw 0 4=0:=rfl
theorem YhN:Kw 1 2=2:=rfl
theorem YhR:Kw 2 2=4:=rfl
theorem YhO:Kw 1 3=3:=rfl
theorem YhP:Kw 1 4=4:=rfl
def PO(ho:HO)(size i off:Nat)(vals:List SV):Option Ef:=
 match ho with
 | .box cs=>some { pre:=off+size<=YK cs,val:= .junk,upd:= .set i (.box (J6 cs off vals))}
 | .own z sz n _=>match off with
   |0=>some { pre:=size=n*sz/\0<sz,val:= .junk,upd:= .set i (.own z sz n (Jt sz vals))}
   |_=>none
 | .smap _=>none
 | .gone=>none
def Ycf(ho:HO)(size i k off sz:Nat)(vals:List SV):Option Ef:=
 match ho with
 | .own z size' n get=>some { pre:=k<n/\sz=size'/\off+size<=sz,val:= .junk,upd:= .set i (.own z size' n fun j=>if j=k then J6 (get k) off vals else get j)}
 |_=>none
theorem Ylv{hp:List HO}{size i off:Nat}{vals:List SV}:storeAt hp size vals (.ptr i off)=PO (Ys hp i) size i off vals:=rfl
theorem Yls{size i off:Nat}{cs vals:List SV}:PO (.box cs) size i off vals=some { pre:=off+size<=YK cs,val:= .junk,upd:= .set i (.box (J6 cs off vals))}:=rfl
theorem Ylu{z:Bool}{sz n size i:Nat}{g:Nat->List SV}{vals:List SV}:PO (.own z sz n g) size i 0 vals=some { pre:=size=n*sz/\0<sz,val:= .junk,upd:= .set i (.own z sz n (Jt sz vals))}:=rfl
theorem Ylt{hp:List HO}{size i k off sz:Nat}{vals:List SV}:storeAt hp size vals (.elem i k off sz)=Ycf (Ys hp i) size i k off sz vals:=rfl
def R9(nx size bytes:Nat)(r:Option (Nat×(Nat->List SV))):Option Ef:=
 r.bind fun(m,gx)=>Xe (.own (decide (m=0)) size m gx) (.own (nx) 0 m size) (Y8 m bytes/\∀k,k<m->YK (gx k)=size/\Jg (gx k))
def Sa(ho:HO)(i n sz size bytes:Nat)(r:Option (Nat×(Nat->List SV))):Option Ef:=
 match ho with
 | .own z s' _ get=>r.map fun(m,gx)=>
     {pre:=sz=size/\s'=size/\Y8 (n+m) bytes/\∀k,k<m->YK (gx k)=size/\Jg (gx k),val:= .own i 0 (n+m) size,
      upd:= .app i (.own (z&&decide (m=0)) size (n+m) fun k=>if k<n then YU i (get k)else YU i (gx (k-n)))}
 |_=>none
theorem Yk8{nx:Nat}{hp:List HO}{size bytes:Nat}{x:SV}:Vj nx hp size bytes [.nil,x]=R9 nx size bytes (XA hp x):=rfl
theorem Yk9{nx:Nat}{hp:List HO}{size bytes i n sz:Nat}{x:SV}:Vj nx hp size bytes [.own i 0 n sz,x]=Sa (Ys hp i) i n sz size bytes (XA hp x):=rfl
def R8(nx size bytes:Nat)(ry r:Option (Nat×(Nat->List SV))):Option Ef:=
 ry.bind fun(n,gy)=>r.bind fun(m,gx)=>Xe (.own false size (n+m) fun k=>if k<n then gy k else gx (k-n)) (.own (nx) 0 (n+m) size)
  (0<m/\Y8 (n+m) bytes/\(∀k,k<n->YK (gy k)=size/\Jg (gy k))/\∀k,k<m->YK (gx k)=size/\Jg (gx k))
theorem Yk7{nx:Nat}{hp:List HO}{size bytes:Nat}{y x:SV}:Vj nx hp size bytes [.cut y,x]=R8 nx size bytes (XA hp y) (XA hp x):=rfl
def Yb6(ho:HO)(n size j:Nat):Option Ef:=
 match ho with
 | .own _ sz m _=>Kc (sz=size/\m=n) (.own j 0 n size)
 |_=>none
theorem Ylr{hp:List HO}{n size j:Nat}:Hf hp n size false false [.ptr j 0]=Yb6 (Ys hp j) n size j:=rfl
theorem Ylq{n:Nat}{get:Nat->List SV}:L2 0 n get=some (True,WA n 0 get):=rfl
theorem Ylf{get:Nat->List SV}:WA 1 0 get=get 0++[]:=rfl
theorem Ylh{get:Nat->List SV}:WA 2 0 get=get 0++(get 1++[]):=rfl
theorem Yli{get:Nat->List SV}:WA 3 0 get=get 0++(get 1++(get 2++[])):=rfl
theorem Ylj{get:Nat->List SV}:WA 4 0 get=get 0++(get 1++(get 2++(get 3++[]))):=rfl
theorem Yla{cs:List SV}:Jt 1 cs 0=YP 1 cs:=rfl
theorem Ylb{cs:List SV}:Jt 1 cs 1=YP 1 (YF 1 cs):=rfl
theorem Ylc{cs:List SV}:Jt 1 cs 2=YP 1 (YF 2 cs):=rfl
theorem Yld{cs:List SV}:Jt 1 cs 3=YP 1 (YF 3 cs):=rfl
theorem q_fo(b:Bool):(false|| b)=b:=rfl
theorem q_to(b:Bool):(true|| b)=true:=rfl
def MH(s:S)(i:Nat)(keep:List Nat)(ghosts:List HO)(KA:List (Nat×SV))(blocks:List (Nat×HO)):S:=
 {fr:=Nn (keepG keep s.fr) KA,saved:=Nm i s.saved,hp:=No (s.hp++ghosts) blocks}
theorem Loop.keepP{r:List It->S->Prop}{body:VC}{K:List It}{s:S}(i:Nat)(keep:List Nat)(σ:Type)(KA:σ->List (Nat×SV))(blocks:σ->List (Nat×HO))(ghosts:List HO)(inv:σ->Prop)(μ:σ->Nat)
 (h0:∃x,inv x/\leS s (MH s i keep ghosts (KA x) (blocks x)))
 (h:∀x,inv x->r (.code body:: .inLoop (fun s'=> ∃y,inv y/\μ y<μ x/\leS s' (MH s i keep ghosts (KA y) (blocks y)))::K) (MH s i keep ghosts (KA x) (blocks x))):Loop r body K s leP:=
 ⟨σ,fun x=>MH s i keep ghosts (KA x) (blocks x),inv,μ,leS,fun _ _ h=>⟨[],trivial,[],trivial,h⟩,h0,h⟩
theorem Loop.keepF{r:List It->S->Prop}{body:VC}{K:List It}{s:S}(keep:List Nat)(σ:Type)(KA:σ->List (Nat×SV))(blocks:σ->List (Nat×HO))(ghosts:List HO)(inv:σ->Prop)(μ:σ->Nat)
 (h0:∃x,inv x/\leF s (WB s keep ghosts (KA x) (blocks x)))
 (h:∀x,inv x->r (.code body:: .inLoop (fun s'=> ∃y,inv y/\μ y<μ x/\leF s' (WB s keep ghosts (KA y) (blocks y)))::K) (WB s keep ghosts (KA x) (blocks x))):Loop r body K s leP:=
 ⟨σ,fun x=>WB s keep ghosts (KA x) (blocks x),inv,μ,leF,fun _ _ h=>⟨[],trivial,h⟩,h0,h⟩
theorem Loop.keepG{r:List It->S->Prop}{body:VC}{K:List It}{s:S}(keep:List Nat)(σ:Type)(KA:σ->List (Nat×SV))(blocks:σ->List (Nat×HO))(ghosts:List HO)(inv:σ->Prop)(μ:σ->Nat)
 (h0:∃x,inv x/\leP s (WB s keep ghosts (KA x) (blocks x)))
 (h:∀x,inv x->r (.code body:: .inLoop (fun s'=> ∃y,inv y/\μ y<μ x/\leP s' (WB s keep ghosts (KA y) (blocks y)))::K) (WB s keep ghosts (KA x) (blocks x))):Loop r body K s leP:=
 ⟨σ,fun x=>WB s keep ghosts (KA x) (blocks x),inv,μ,leP,fun _ _ h=>h,h0,h⟩
open Go.RowKit in
theorem S1{P:Program}{E:Env}{f:FuncId}{fn:Func}{vf:VF}(hf:P.funcs[f]? =some fn)(hvf:Yn P fn=some vf)(hE:YD P E)(n:Nat)(c:Ctr)
 (h:∀(args:List SV) (k:SV->List HO->Prop),CSat (c.of args) k->∃args',leL 0 0 args args'/\run E (fun r hp=>k r hp/\Y3 r/\Xf hp) vf.res n [.code vf.body] { fr:=X1 vf.ntmps args',saved:=[],hp:=[]}):c.ok P f:=by
 intro args vs z k hsat hx hc
 obtain⟨args',hle,hrun⟩:=h args k hc
 have hk0:ZG z.toWorld [] z.bd z.toWorld [] (z.wI z.I (Xw z)).bd:=⟨rfl,fun _ _ h=>h,fun b hf cs T fz ho=>⟨ho,V4,hf.2,z.ex b hf.2⟩⟩
 have hx2:RepL z.toWorld [] (z.wI z.I (Xw z)).bd args' vs:=V8 Dx _ _ hle (XRepL.keepG hk0 hx).rep
 obtain⟨body,hbody,hcode,hres,hnt⟩:=FO hvf
 refine F9 (n:=0) (Fa (b:=vf.body) hf hbody ?_)
 refine Py (w0:=z) (fn0:=fn) (R0:=fun e w'=> ∃r hs v bs,∃J,∃hJ:Ext z J,k r hs/\e= .returned v/\Rep w' bs (z.wI J hJ).bd r v/\Hp w' bs (z.wI J hJ).bd hs/\BelowI z.bd z.toWorld w'/\(c.alias=false->Y3 r/\Xf hs)) hE hsat.2 hres (by
  rintro r hp v w' bs D hD ⟨hk,hfr⟩ hr hH hb
  exact⟨r,hp,v,bs,D,hD,hk,rfl,hr,hH,hb,fun ha=>hfr⟩) n _ _ hrun [] [] none _
  {tmps:=vs.toArray++Ve (fn.ntmps-vs.toArray.size) undef,defers:=[]} z.toWorld (.code body vf.body [] [] [] none _ hcode .nil) (D:=z.I) (hD:=Xw z) ?_
 refine⟨[],?_,.nil,hp0 (hJ:=Xw z) hsat.1,BelowI.refl _ _,⟨fun _ h=>(by cases h),.nil,[[]],rfl,by simp,fun _ h=>(by simp at h)⟩⟩
 have:=Hr (n:=fn.ntmps) hx2
 rw[hnt]
 simpa using this
@[reducible] def Zm (d a:Nat):VOp:=u1 d .mov [.tm a]
@[reducible] def Zi (d:Nat) (k:Int):VOp:=u1 d .mov [.cn (.int .i64 k)]
@[reducible] def Ze (d i a:Nat):VOp:=u1 d (.ext i) [.tm a]
@[reducible] def Zt (d s a:Nat):VOp:=u1 d (.load true s) [.tm a]
@[reducible] def Zf (d s a:Nat):VOp:=u1 d (.load false s) [.tm a]
@[reducible] def Zs (s a b:Nat):VOp:=u0 (.store s) [.tm a,.tm b]
@[reducible] def Za (d f a:Nat):VOp:=u1 d (.fieldAddr f) [.tm a]
@[reducible] def Zc (d f a:Nat):VOp:=u1 d (.call f) [.tm a]
@[reducible] def Zd (d f a b:Nat):VOp:=u1 d (.call f) [.tm a,.tm b]
@[reducible] def Zx (d s a b:Nat):VOp:=u1 d (.idxAddr s) [.tm a,.tm b]
@[reducible] def Zp (d a:Nat) (k:Int):VOp:=u1 d (.ari .add) [.tm a,.cn (.int .i64 k)]
@[reducible] def Zq (d:Nat) (c:Cmp) (a:Nat) (k:Int):VOp:=u1 d (.cmp c) [.tm a,.cn (.int .i64 k)]
@[reducible] def Zr (d:Nat) (c:Cmp) (a b:Nat):VOp:=u1 d (.cmp c) [.tm a,.tm b]
@[reducible] def Zl (d a:Nat):VOp:=u1 d .len [.tm a]
@[reducible] def Zn (d:Nat):VOp:=u1 d (.alloc [.int .i64 0,.int .i64 0]) []
@[reducible] def Zo (d:Nat) (o:Ari) (a b:Nat):VOp:=u1 d (.ari o) [.tm a,.tm b]
@[reducible] def Zg (d g:Nat) (t:Bool) (a:Nat):VOp:=u2 d g t .mov [.tm a]
@[reducible] def Zh (d g:Nat) (t:Bool) (s a:Nat):VOp:=u2 d g t (.load false s) [.tm a]
@[reducible] def Zj (d g:Nat) (t:Bool) (f a:Nat):VOp:=u2 d g t (.fieldAddr f) [.tm a]
@[reducible] def Zu (d a:Nat):DOp:=w1 d .mov [.tm a]
@[reducible] def Zv (d s a:Nat):DOp:=w1 d (.load false s) [.tm a]
@[reducible] def Zw (d s a:Nat):DOp:=w1 d (.load true s) [.tm a]
@[reducible] def Zy (d f a:Nat):DOp:=w1 d (.fieldAddr f) [.tm a]
@[reducible] def Zz (d f a b:Nat):DOp:=w1 d (.call f) [.tm a,.tm b]
@[reducible] def ZX (d s a b:Nat):DOp:=w1 d (.idxAddr s) [.tm a,.tm b]
@[reducible] def ZS (s a b:Nat):DOp:=w0 (.store s) [.tm a,.tm b]
@[reducible] def ZE (d i a:Nat):DOp:=w1 d (.ext i) [.tm a]
@[reducible] def ZR (l:List VOp) (c:VC):VC:= .seq (.region l) c
@[reducible] def ZC (a:Nat) (c d:VC):VC:= .cond (.tm a) c d
attribute [go_sem] Zm Zi Ze Zt Zf Zs Za Zc Zd Zx Zp Zq Zr Zl Zn Zo Zg Zh Zj Zu Zv Zw Zy Zz ZX ZS ZE ZR ZC
attribute [go_sem] Va Wh Am W9 Nk Al Pe Ao An Ymx Ymy Ymz YmA Yma psd D8 DW DO Ba D4 UH Ymp YmI VO.bad u0 u1 u2 w0 w1 C2 ctM ctI WT Wc Bp WS MA EG Br Bq DX Ya9 Ymf Yms Ybc Ybd YmH Ymt YmP YmQ r_y YmD Ybf YmF Ybh YmG Ybe YmC YmB Yl6 Yl7 YmN YmO YmM YnF YnG VO.isAppend U9 Mb MY LC P2 Yl0 Yl1 Yl2 Yl4 Yl3 r_dq Yl5 YlR YlQ YlT YlS YlY YlZ YlV YlX YlW YlU Ymu Yl8 Yl9 YlL YlM Ymq r_g r_gq r_gc Ymb Ymc Ymd Yme YlN YlO Ymj Ymv Ymm YlJ r_ex Ymk Ymw Ymg Ymn Ymo Ybb Yml YmK YmL YmE YmJ Ya8 YlP YlK Yba Ymh Ymi Ybg Ymr YnD YnE s_xt s_xc X1 F4 callee C1 eff Wy Kr Kq S.put S.upd GS HC Qh A9 I2 XK EL D6 D9 D7 DM DR D3 DZ D5 DP DQ Qu He Vs Mq DL DJ ari DK Ms eSh Mu H6 H5 kEq Kc Dv VO.quiet ZV AB GR Qn Qo cond Xe Mr Z5 Yi Qg DU DS V2 ZL Ys KL YF YP W4 YK BS shift X6 Js viewN Jw JX G6 MP DV YhH YhM YhQ YhS DY H1 J6 Jg one Bb F6 Yor CA Yoq YeX Mt XA Fy Z8 Jt YU Nm Xl Wi Ku Vy Ck Cj NT NS wrC junkAt Nn No MG WB keepG Xh Mc HM CG blk FI Ug AL.ho yld GJ Fd ZO UJ Fc MO E6 IC BE Ylm Yln Yll YhI YhJ YhK YhL YhN YhR YhO YhP Ycf Ylv Yls Ylu Ylt R9 Sa Yk8 Yk9 R8 Yk7 Bc Yb6 Ylr noOwn QR Ylq Ylf Ylh Yli Ylj Yla Ylb Ylc Yld MH q_fo q_to
theorem IP(α:Prop):(α->True)=True:=implies_true α
theorem IQ(α:Type):(α->True)=True:=implies_true α
theorem fc_t{b:Prop}(α:Type)[Nonempty α]:(α->b)↔b:=forall_const α
theorem fc_p{b:Prop}(α:Prop)[Nonempty α]:(α->b)↔b:=forall_const α
theorem ne_t{α:Type}(a b:α):(a≠b)=¬(a=b):=rfl
def Yf:=YC @imp_self (YC @true_and (YC @and_true (YC @IP (YC @IQ (YC @YiO (YC @BL (YC @BM (YC @YiW (YC @BN (YC @YiS (YC @YiX (YC @YiM (YC @YiL (YC @Lf (YC @YiK (YC @YiF (YC @YiH (YC @YiG (YC @Li (YC @I6 (YC @Yi7 (YC @Yi2 (YC @Yi1 (YC @Lj (YC @YiU (YC @Yi0 (YC @Yi8 (YC @YiT (YC @YiY (YC @YiZ (YC @YiJ (YC @YiN (YC @YiP (YC @YfB (YC @Yfw (YC @YfL (YC @YfD (YC @YfC (YC @YfM (YC @YfN (YC @Yfv (YC @YfK (YC @YfG (YC @YfF (YC @Yfx (YC @Yfy (YC @Yfz (YC @YfE (YC @YfI (YC @YfH (YC @YfA (YC @YfJ (YC @Yi5 (YC @Yi4 (YC @YiV (YC @Yi6 (YC @YiI (YC @Yfu (YC @Yft (YC @Yja (@Yjb)))))))))))))))))))))))))))))))))))))))))))))))))))))))))))))
def Yd:=YC @true_imp_iff (YC @fc_p (YC @IP (YC @IQ (YC @fc_t (YC @ne_t (YC @true_and (YC @and_true (YC @imp_self (YC @decide_eq_true_eq (YC @decide_eq_false_iff_not (YC @Bool.not_not (YC @false_imp_iff (YC @ZY (YC @Bool.not_eq_false' (YC @XQ (YC @and_self (@not_false_eq_true)))))))))))))))))
attribute [go_sem] Option.bind Option.map Wr YJ Ws VP List.append_eq KH Vf ite_self
universe u
def lkE{α:Type u}:List (Nat×α)->Nat->Option α
 | [],_=>none
 |x::l,n=>bif x.1==n then some x.2 else lkE l n
def mkE(c:List (Nat×Ctr))(f:List (Nat×VF)):Env:={ ct:=lkE c,fn:=lkE f,meth:=fun _ _=>none}
theorem YjK(c:List (Nat×Ctr))(f:List (Nat×VF))(n:Nat):(mkE c f).ct n=lkE c n:=rfl
theorem YjL(c:List (Nat×Ctr))(f:List (Nat×VF))(n:Nat):(mkE c f).fn n=lkE f n:=rfl
theorem Yjj{α:Type u}(n:Nat):lkE ([]:List (Nat×α)) n=none:=rfl
theorem Lt{α:Type u}(m:Nat)(a:α)(l:List (Nat×α))(n:Nat):lkE ((m,a)::l) n=bif m==n then some a else lkE l n:=rfl
attribute [go_sem] YjK YjL Yjj Lt cond_true cond_false
def LO(P:Program):List (Nat×Ctr)->Prop
 | []=>True
 |x::l=>(x.2.ok P x.1/\Ur P x.1)/\LO P l
def LP(P:Program):List (Nat×VF)->Prop
 | []=>True
 |x::l=>(∃fn,P.funcs[x.1]? =some fn/\Yn P fn=some x.2/\Ur P x.1)/\LP P l
theorem O2{P:Program}:∀{l:List (Nat×Ctr)},LO P l->∀f c,lkE l f=some c->c.ok P f/\Ur P f
 | [],_,_,_,h=>by cases h
 | (m,a)::l,⟨h1,h2⟩,f,c,h=>by
   rw[Lt]at h
   cases hb:m==f with
   |true=>
    rw[hb]at h
    cases h
    rw[<-eq_of_beq hb];exact h1
   |false=>
    rw[hb]at h
    exact O2 h2 f c h
theorem O3{P:Program}:∀{l:List (Nat×VF)},LP P l->∀f v,lkE l f=some v->∃fn,P.funcs[f]? =some fn/\Yn P fn=some v/\Ur P f
 | [],_,_,_,h=>by cases h
 | (m,a)::l,⟨h1,h2⟩,f,c,h=>by
   rw[Lt]at h
   cases hb:m==f with
   |true=>
    rw[hb]at h
    cases h
    rw[<-eq_of_beq hb];exact h1
   |false=>
    rw[hb]at h
    exact O3 h2 f c h
theorem eo{P:Program}{c:List (Nat×Ctr)}{f:List (Nat×VF)}(hm:P.follows .mixedOrders=true)(h1:LO P c)(h2:LP P f):YD P (mkE c f):=
 ⟨O2 h1,O3 h2,(fun _ _ _ h=>by cases h),hm,(fun _ h=>by cases h)⟩
@[reducible] def Z2:List SV:=[.int .i64 0,.int .i64 0]
@[reducible] def Z7:List SV:=[.int .i64 0,.int .i64 0,.int .i64 0,.int .i64 0,.int .i64 0,.int .i64 0,.int .i64 0]
@[reducible] def Z27:List SV:=[.val (.string ⟨#[]⟩),.bool false,.int .i64 0,.int .i64 0,.int .i64 0,.int .i64 0,.int .i64 0,.int .i64 0,.int .i64 0,.int .i64 0,.int .i64 0,.int .i64 0,.int .i64 0,.int .i64 0,.int .i64 0,.int .i64 0,.int .i64 0,.int .i64 0,.int .i64 0,.int .i64 0,.int .i64 0,.int .i64 0,.int .i64 0,.int .i64 0,.int .i64 0,.int .i64 0,.int .i64 0]
@[reducible] def Z84:List SV:=[.int .i64 0,.int .i64 0,.int .i64 0,.int .i64 0,.int .i64 0,.int .i64 0,.int .i64 0,.int .i64 0,.int .i64 0,.int .i64 0,.int .i64 0,.int .i64 0,.int .i64 0,.int .i64 0,.int .i64 0,.int .i64 0,.int .i64 0,.int .i64 0,.int .i64 0,.int .i64 0,.int .i64 0,.int .i64 0,.int .i64 0,.int .i64 0,.int .i64 0,.int .i64 0,.int .i64 0,.int .i64 0,.int .i64 0,.int .i64 0,.int .i64 0,.int .i64 0,.int .i64 0,.int .i64 0,.int .i64 0,.int .i64 0,.int .i64 0,.int .i64 0,.int .i64 0,.int .i64 0,.int .i64 0,.int .i64 0,.int .i64 0,.int .i64 0,.int .i64 0,.int .i64 0,.int .i64 0,.int .i64 0,.int .i64 0,.int .i64 0,.int .i64 0,.int .i64 0,.int .i64 0,.int .i64 0,.int .i64 0,.int .i64 0,.int .i64 0,.int .i64 0,.int .i64 0,.int .i64 0,.int .i64 0,.int .i64 0,.int .i64 0,.int .i64 0,.int .i64 0,.int .i64 0,.int .i64 0,.int .i64 0,.int .i64 0,.int .i64 0,.int .i64 0,.int .i64 0,.int .i64 0,.int .i64 0,.int .i64 0,.int .i64 0,.int .i64 0,.int .i64 0,.int .i64 0,.int .i64 0,.int .i64 0,.int .i64 0,.int .i64 0,.int .i64 0]
attribute [go_sem] Z2 Z7 Z27 Z84
end Go.Vx
namespace Go.Proofs.YtlhmikjnholpnaaGreatDoor
open Go Go.Vx
theorem FR{i n:Nat}(h:i<n)(hn:n<=9223372036854775807):IntKind.i64.wrap ((i:Int)+1)=((i+1:Nat):Int):=by
 rw[Yg _ (by omega)];simp
theorem KZ{α:Type}[Inhabited α]{l:List α}{i:Nat}(h:i<l.length):l.getD i default∈l:=by
 rw[Kh,VL h];exact List.getElem_mem h
theorem Ov{α:Type}[Inhabited α]{l:List α}{x:α}(h:x∈l):∃i,i<l.length/\l.getD i default=x:=by
 obtain⟨j,hj,rfl⟩:=List.getElem_of_mem h
 exact⟨j,hj,by rw[Kh,VL hj];rfl⟩
theorem Ycm{α:Type}[Inhabited α]{l:List α}{f:α->Bool}{i:Nat}(h:i<l.length):(l.take (i+1)).all f=((l.take i).all f&&f (l.getD i default)):=by
 rw[List.take_add_one,List.all_append,Kh,VL h]
 simp
theorem Ycn{α:Type}[Inhabited α]{l:List α}{f:α->Bool}{i:Nat}(h:i<l.length):(l.take (i+1)).any f=((l.take i).any f|| f (l.getD i default)):=by
 rw[List.take_add_one,List.any_append,Kh,VL h]
 simp
theorem Hy{α:Type}[Inhabited α]{l:List α}{i:Nat}(h:i<l.length):l.take (i+1)=l.take i++[l.getD i default]:=by
 rw[List.take_add_one,Kh,VL h];rfl
theorem Vm{α β:Type}[Inhabited α]{l:List α}{f:β->α->β}{b:β}{i:Nat}(h:i<l.length):(l.take (i+1)).foldl f b=f ((l.take i).foldl f b) (l.getD i default):=by
 rw[Hy h,List.foldl_append]
 rfl
def WD(f:Nat->Bool):Nat->Nat->Nat
 |0,k=>k
 |n+1,k=>if f k then k else WD f n (k+1)
theorem BP{f:Nat->Bool}:∀(n k:Nat),k<=WD f n k/\WD f n k<=n+k/\(∀j,k<=j->j<WD f n k->f j=false)/\(WD f n k<n+k->f (WD f n k)=true)
 |0,k=>⟨Yt _,by simp [WD],fun j h1 h2=>by simp [WD]at h2;omega,fun h=>by simp [WD]at h⟩
 |n+1,k=>by
  unfold WD
  split
  ·rename_i h;exact⟨Yt _,by omega,fun j h1 h2=>by omega,fun _=>h⟩
  ·rename_i h
   obtain⟨h1,h2,h3,h4⟩:=BP (f:=f) n (k+1)
   refine⟨by omega,by omega,fun j a b=>?_,fun hlt=>h4 (by omega)⟩
   rcases YY k j with h'|h'
   ·exact h3 j h' b
   ·obtain rfl:j=k:=by omega
    simpa using h
theorem I9{f:Nat->Bool}{n m:Nat}(h1:∀j,j<m->f j=false)(h2:m<=n)(h3:m<n->f m=true):WD f n 0=m:=by
 obtain⟨a,b,c,d⟩:=BP (f:=f) n 0
 rcases Ww (WD f n 0) m with h|h|h
 ·have:=h1 _ h
  rw[d (by omega)]at this;cases this
 ·exact h
 ·have:=c m (JJ _) h
  rw[h3 (by omega)]at this;cases this
theorem YjW{a b c d:Int}(h1:a<=c)(h2:b<=d)(ha:0<=a)(hd:0<=d):a*b<=c*d:=
 Int.le_trans (Int.mul_le_mul_of_nonneg_left h2 ha) (XC h1 hd)
def noC:CRes:= .pre False (.fin .junk [])
def trueC:Ctr:={ alias:=false,of:=fun a=>match a with
 | []=> .fin (.bool true) []
 |_=>noC}
def lsP{α:Type}[Inhabited α](size:Nat)(e:α->List SV)(n sz:Nat)(get:Nat->List SV)(l:List α):Prop:=sz=size/\n=l.length/\∀k,k<n->QK (get k) (e (l.getD k default))
def UC(x:Int):List SV:=[.int .i64 x]
def Yw(x:Int×Int):List SV:=[.int .i64 x.1,.int .i64 x.2]
end Go.Proofs.YtlhmikjnholpnaaGreatDoor
namespace Go.Proofs.YtlhmikjnholpnaaGreatDoor.Q
open Go Go.Vx
def dig(a i:Nat):Nat:=a/32768^i%32768
theorem Kk(i:Nat):0<32768^i:=YB (by decide)
theorem Jr(i:Nat):32768^(i+1)=32768^i*32768:=YH ..
theorem QH(a i:Nat):dig a i<32768:=Kj _ (by decide)
theorem Xx(a i:Nat):a%32768^(i+1)=a%32768^i+32768^i*dig a i:=Nat.mod_pow_succ
theorem El(a:Nat):dig a 0=a%32768:=by simp [dig]
theorem Ml(i:Nat):dig 0 i=0:=by simp [dig]
theorem Te(a i:Nat):dig a (i+1)=dig (a/32768) i:=by
 unfold dig
 rw[K8,Jr,Yl]
theorem ZM{a n i:Nat}(h:a<32768^n)(hi:n<=i):dig a i=0:=by
 unfold dig
 rw[QN]
 exact Qt h (Kp (by decide) hi)
theorem MW{a b:Nat}:∀{n:Nat},(∀i,i<n->dig a i=dig b i)->a%32768^n=b%32768^n
 |0,_=>by simp [Nat.mod_one]
 |n+1,h=>by rw[Xx,Xx,MW fun i hi=>h i (by omega),h n (by omega)]
theorem Em{a b n:Nat}(ha:a<32768^n)(hb:b<32768^n)(h:∀i,i<n->dig a i=dig b i):a=b:=by
 have:=MW h
 rwa [QB ha,QB hb]at this
theorem VZ{a j k:Nat}(h:k<j):dig (a%32768^j) k=dig a k:=by
 unfold dig
 obtain⟨m,rfl⟩:∃m,j=k+(m+1):=⟨j-k-1,by omega⟩
 rw[Yo,Nat.mod_mul_right_div_self,YH,Yl,Nat.mod_mul_right_mod]
def nlF:Nat->Nat->Nat
 |0,_=>0
 |f+1,a=>if a=0 then 0 else nlF f (a/32768)+1
def nl(a:Nat):Nat:=nlF a a
theorem M1:∀(f a n:Nat),a<=f->(nlF f a<=n↔a<32768^n)
 |0,a,n,h=>by
  have:=Kk n
  simp only[nlF];omega
 |f+1,a,n,h=>by
  simp only[nlF]
  split
  ·rename_i h0;have:=Kk n;subst h0;simp;omega
  ·cases n with
   |zero=>simp;omega
   |succ n=>
    have:=M1 f (a/32768) n (by omega)
    rw[Jr,<-WH (by decide),<-this]
    omega
theorem nl_le{a n:Nat}:nl a<=n↔a<32768^n:=M1 a a n (Yt _)
theorem Xy(a:Nat):a<32768^nl a:=nl_le.1 (Yt _)
theorem WF:nl 0=0:=rfl
theorem nl_pos{a:Nat}:0<nl a↔0<a:=by
 have:= @nl_le a 0
 simp at this;omega
theorem nl_eq0{a:Nat}:nl a=0↔a=0:=by
 have:= @nl_le a 0
 simp at this;omega
theorem LH{a:Nat}(h:a≠0):dig a (nl a-1)≠0:=by
 obtain⟨n,hn⟩:∃n,nl a=n+1:=⟨nl a-1,by have:=nl_eq0 (a:=a);omega⟩
 rw[hn,Nat.add_sub_cancel]
 have h1:=Xy a
 have h2:¬a<32768^n:=fun hh=>by have:=nl_le.2 hh;omega
 rw[hn,Jr]at h1
 unfold dig
 have h3:a/32768^n<32768:=by rw[WH (Kk n),Yl];exact h1
 rw[QB h3]
 have:=Nat.div_pos (XF h2) (Kk n)
 omega
theorem Fj{a b:Nat}(h:a<=b):nl a<=nl b:=nl_le.2 (JC h (Xy b))
theorem W6{a n:Nat}(h:a<32768^n)(ht:n=0\/dig a (n-1)≠0):nl a=n:=by
 have h1:=nl_le.2 h
 rcases ht with rfl|ht
 ·omega
 ·rcases YY (nl a) n with h2|h2
  ·exact absurd (ZM (Xy a) (by omega:nl a<=n-1)) ht
  ·omega
theorem Vq{a n:Nat}(h:a<32768^(n+1))(h0:dig a n=0):a<32768^n:=by
 have:=Xx a n
 rw[h0,QB h]at this
 rw[this]
 simpa using Kj a (Kk n)
def cy(a b i:Nat):Nat:=(a%32768^i+b%32768^i)/32768^i
theorem S7(a b:Nat):cy a b 0=0:=by simp [cy,Nat.mod_one]
theorem Dy(a b i:Nat):cy a b i<=1:=by
 unfold cy
 have h1:=Kj a (Kk i)
 have h2:=Kj b (Kk i)
 have:(a%32768^i+b%32768^i)/32768^i<2:=by
  rw[WH (Kk i)];omega
 omega
theorem Eo(a b i:Nat):(a+b)/32768^i=a/32768^i+b/32768^i+cy a b i:=by
 unfold cy
 have h1:=KP a (32768^i)
 have h2:=KP b (32768^i)
 generalize hP:32768^i=P at*
 have hp:0<P:=hP▸Kk i
 have e:a+b=P*(a/P+b/P)+(a%P+b%P):=by rw[Ka];omega
 conv=>lhs;rw[e]
 rw[Nat.mul_add_div hp]
theorem N9(a b i:Nat):(dig a i+dig b i+cy a b i)%32768=dig (a+b) i:=by
 unfold dig
 rw[Eo]
 omega
theorem CC(a b i:Nat):(dig a i+dig b i+cy a b i)/32768=cy a b (i+1):=by
 have e:cy a b (i+1)=(a%32768^(i+1)+b%32768^(i+1))/32768^(i+1):=rfl
 rw[e,Xx,Xx,Jr,<-K8]
 unfold cy
 generalize hP:32768^i=P at*
 have hp:0<P:=hP▸Kk i
 have e:a%P+P*dig a i+(b%P+P*dig b i)=P*(dig a i+dig b i)+(a%P+b%P):=by rw[Ka];omega
 rw[e,Nat.mul_add_div hp]
def Qe(V j x:Nat):Nat:=V-dig V j*32768^j+x*32768^j
theorem US(V j:Nat):V=32768^j*(32768*(V/32768^(j+1))+dig V j)+V%32768^j:=by
 have h1:=KP V (32768^j)
 have h2:=KP (V/32768^j) 32768
 rw[K8,<-Jr]at h2
 unfold dig
 rw[h2,h1]
theorem UO(V j x:Nat):Qe V j x=32768^j*(32768*(V/32768^(j+1))+x)+V%32768^j:=by
 have:=US V j
 unfold Qe
 generalize dig V j=d at*
 generalize V/32768^(j+1)=h at*
 generalize V%32768^j=l at*
 generalize 32768^j=P at*
 rw[Ka]at this⊢
 rw[Yl d,Yl x]
 omega
theorem ND(V j x:Nat):Qe V j x+dig V j*32768^j=V+x*32768^j:=by
 have:=US V j
 rw[UO]
 generalize dig V j=d at*
 generalize V/32768^(j+1)=h at*
 generalize V%32768^j=l at*
 generalize 32768^j=P at*
 rw[Ka]at this⊢
 rw[Yl d,Yl x]
 omega
theorem NE{V j x:Nat}(hx:x<32768):Qe V j x/32768^(j+1)=V/32768^(j+1):=by
 have hl:=Kj V (Kk j)
 have e:∀Y:Nat,Y/32768^(j+1)=Y/32768^j/32768:=fun Y=>by rw[Jr,K8]
 rw[UO,e (32768^j*(32768*(V/32768^(j+1))+x)+V%32768^j),Nat.mul_add_div (Kk j),QN hl]
 generalize V/32768^(j+1)=h
 omega
theorem Mk{V j x:Nat}(hx:x<32768)(k:Nat):dig (Qe V j x) k=if k=j then x else dig V k:=by
 have hl:=Kj V (Kk j)
 rcases Ww k j with h|h|h
 ·rw[if_neg (by omega),<-VZ h,<-VZ (a:=V) h,UO,Nat.mul_add_mod,Nat.mod_mod]
 ·subst h
  rw[if_pos rfl,UO]
  unfold dig
  rw[Nat.mul_add_div (Kk k),QN hl]
  omega
 ·rw[if_neg (by omega)]
  obtain⟨m,rfl⟩:∃m,k=(j+1)+m:=⟨k-(j+1),by omega⟩
  unfold dig
  have e:Qe V j x/32768^(j+1)=V/32768^(j+1):=by
   exact NE hx
  rw[Yo,<-K8,<-K8,e]
theorem PD{V j x n:Nat}(hV:V<32768^n)(hx:x<32768)(hj:j<n):Qe V j x<32768^n:=by
 obtain⟨m,rfl⟩:∃m,n=m+(j+1):=⟨n-(j+1),by omega⟩
 rw[Yo,<-WH (Kk _)]at hV⊢
 rw[NE hx]
 exact hV
theorem OE{a b i k V c:Nat}(h:V+c*32768^(i+k)=(a%32768^i)*b+dig a i*(b%32768^k)*32768^i):
 Qe V (i+k) ((dig V (i+k)+dig a i*dig b k+c)%32768)+((dig V (i+k)+dig a i*dig b k+c)/32768)*32768^(i+(k+1))=(a%32768^i)*b+dig a i*(b%32768^(k+1))*32768^i:=by
 have e1:=ND V (i+k) ((dig V (i+k)+dig a i*dig b k+c)%32768)
 have e2:=KP (dig V (i+k)+dig a i*dig b k+c) 32768
 rw[Xx,show i+(k+1)=(i+k)+1 by omega,Jr]
 rw[Yo]at*
 generalize Qe V (i+k) ((dig V (i+k)+dig a i*dig b k+c)%32768)=V' at*
 generalize(dig V (i+k)+dig a i*dig b k+c)%32768=r at*
 generalize(dig V (i+k)+dig a i*dig b k+c)/32768=q at*
 generalize dig V (i+k)=d at*
 generalize dig a i=x at*
 generalize dig b k=y at*
 generalize b%32768^k=bm at*
 generalize a%32768^i=am at*
 generalize 32768^i=P at*
 generalize 32768^k=R at*
 grind
theorem Gb(a m k:Nat):dig (a/32768^m) k=dig a (m+k):=by
 unfold dig
 rw[Yo,K8]
theorem LF(a b:Nat):∃n,a<32768^n/\b<32768^n:=
 ⟨nl a+nl b,Qt (Xy a) (Kp (by decide) (by omega)),Qt (Xy b) (Kp (by decide) (by omega))⟩
theorem Mi{a b:Nat}(h:∀i,dig a i=dig b i):a=b:=by
 obtain⟨n,h1,h2⟩:=LF a b
 exact Em h1 h2 fun i _=>h i
theorem En{a b m:Nat}(h:∀i,m<=i->dig a i=dig b i):a/32768^m=b/32768^m:=
 Mi fun i=>by rw[Gb,Gb];exact h _ (by omega)
theorem Mj{a b j:Nat}(h:∀i,j<i->dig a i=dig b i)(hd:dig a j<dig b j):a<b:=by
 have h1:=US a j
 have h2:=US b j
 rw[En (m:=j+1) fun i hi=>h i hi]at h1
 have h3:=Kj a (Kk j)
 generalize b/32768^(j+1)=q at*
 generalize 32768^j=P at*
 generalize a%P=x at*
 generalize b%P=y at*
 generalize dig a j=d at*
 generalize dig b j=e at*
 have:P*(32768*q+d)+P<=P*(32768*q+e):=by
  rw[<-Nat.mul_succ];exact Yz _ (by omega)
 omega
def JM(a b:Nat):Int:=if a<b then -1 else if b<a then 1 else 0
def pre(r:Nat->Nat):Nat->Nat
 |0=>0
 |i+1=>pre r i+r i*32768^i
theorem Yaz(r:Nat->Nat)(i:Nat):pre r (i+1)/32768^i=r i+pre r i/32768^i:=by
 show(pre r i+r i*32768^i)/32768^i=_
 rw[Nat.add_mul_div_right _ _ (Kk i),Nat.add_comm]
theorem Yax(r:Nat->Nat)(i:Nat):(r i+pre r i/32768^i)/32768=pre r (i+1)/32768^(i+1):=by
 rw[<-Yaz,K8,<-Jr]
theorem YaB(r:Nat->Nat):∀(i d:Nat),pre r (i+d)%32768^i=pre r i%32768^i
 |_,0=>rfl
 |i,d+1=>by
  rw[<-YaB r i d]
  show(pre r (i+d)+r (i+d)*32768^(i+d))%32768^i=_
  rw[Yo,Yl (32768^i),<-YA,Nat.add_mul_mod_self_right]
theorem Yay(r:Nat->Nat){i n:Nat}(h:i<n):(r i+pre r i/32768^i)%32768=dig (pre r n) i:=by
 obtain⟨d,rfl⟩:∃d,n=i+1+d:=⟨n-i-1,by omega⟩
 rw[<-Yaz,<-VZ (Nat.lt_succ_self i),YaB,VZ (Nat.lt_succ_self i)]
 rfl
theorem Yaw(f g:Nat->Nat):∀n,pre (fun i=>f i+g i) n=pre f n+pre g n
 |0=>rfl
 |n+1=>by show pre (fun i=>f i+g i) n+(f n+g n)*32768^n=(pre f n+f n*32768^n)+(pre g n+g n*32768^n);rw[Yaw f g n,YM];omega
theorem Pa(a:Nat):∀n,pre (fun i=>dig a i) n=a%32768^n
 |0=>by simp [pre,Nat.mod_one]
 |n+1=>by show pre (fun i=>dig a i) n+dig a n*32768^n=_;rw[Pa a n,Xx,Yl]
theorem YaC(r:Nat->Nat)(j x:Nat):∀n,j<n->pre (fun i=>if i=j then r i+x else r i) n=pre r n+x*32768^j
 |0,h=>absurd h (J8 _)
 |n+1,h=>by
  show pre (fun i=>if i=j then r i+x else r i) n+(if n=j then r n+x else r n)*32768^n=(pre r n+r n*32768^n)+x*32768^j
  have same:∀m,m<=j->pre (fun i=>if i=j then r i+x else r i) m=pre r m:=by
   intro m
   induction m with
   |zero=>intro _;rfl
   |succ m ih=>
    intro hm
    show pre (fun i=>if i=j then r i+x else r i) m+(if m=j then r m+x else r m)*32768^m=pre r m+r m*32768^m
    rw[ih (by omega),if_neg (by omega)]
  rcases YY j n with h'|h'
  ·rw[YaC r j x n h',if_neg (by omega)];omega
  ·obtain rfl:n=j:=by omega
   rw[same n (Yt _),if_pos rfl,YM];omega
theorem Pb(r:Nat->Nat)(q:Nat):∀n,(∀i,i<n->r i<=32767*q)->pre r n<=q*32768^n
 |0,_=>by simp [pre]
 |n+1,h=>by
  have h1:=Pb r q n fun i hi=>h i (by omega)
  have h2:=Yp (32768^n) (h n (by omega))
  show pre r n+r n*32768^n<=_
  rw[Jr]
  have e:q*(32768^n*32768)=q*32768^n+32767*q*32768^n:=by
   generalize 32768^n=P;grind
  omega
theorem Af(r:Nat->Nat)(q n:Nat)(h:∀i,i<n->r i<=32767*q):pre r n/32768^n<=q:=
 Yh (Nat.div_le_div_right (Pb r q n h)) (by rw[Nat.mul_div_cancel _ (Kk n)];exact Yt _)
theorem YaA(r:Nat->Nat)(q n:Nat)(hq:q<32768^4)(h:∀i,i<n->r i<=32767*q):pre r n<32768^(n+4):=by
 refine JC (Pb r q n h) ?_
 rw[Yo,Yl]
 exact Nat.mul_lt_mul_of_pos_left hq (Kk n)
end Go.Proofs.YtlhmikjnholpnaaGreatDoor.Q
namespace Go.Proofs.YtlhmikjnholpnaaGreatDoor
open Go Go.Vx
def dig(a i:Nat):Nat:=a/4294967296^i%4294967296
theorem Kk(i:Nat):0<4294967296^i:=YB (by decide)
theorem Jr(i:Nat):4294967296^(i+1)=4294967296^i*4294967296:=YH ..
theorem QH(a i:Nat):dig a i<4294967296:=Kj _ (by decide)
theorem Xx(a i:Nat):a%4294967296^(i+1)=a%4294967296^i+4294967296^i*dig a i:=Nat.mod_pow_succ
theorem El(a:Nat):dig a 0=a%4294967296:=by simp [dig]
theorem Ml(i:Nat):dig 0 i=0:=by simp [dig]
theorem Te(a i:Nat):dig a (i+1)=dig (a/4294967296) i:=by
 unfold dig
 rw[K8,Jr,Yl]
theorem ZM{a n i:Nat}(h:a<4294967296^n)(hi:n<=i):dig a i=0:=by
 unfold dig
 rw[QN]
 exact Qt h (Kp (by decide) hi)
theorem MW{a b:Nat}:∀{n:Nat},(∀i,i<n->dig a i=dig b i)->a%4294967296^n=b%4294967296^n
 |0,_=>by simp [Nat.mod_one]
 |n+1,h=>by rw[Xx,Xx,MW fun i hi=>h i (by omega),h n (by omega)]
theorem Em{a b n:Nat}(ha:a<4294967296^n)(hb:b<4294967296^n)(h:∀i,i<n->dig a i=dig b i):a=b:=by
 have:=MW h
 rwa [QB ha,QB hb]at this
theorem VZ{a j k:Nat}(h:k<j):dig (a%4294967296^j) k=dig a k:=by
 unfold dig
 obtain⟨m,rfl⟩:∃m,j=k+(m+1):=⟨j-k-1,by omega⟩
 rw[Yo,Nat.mod_mul_right_div_self,YH,Yl,Nat.mod_mul_right_mod]
def nlF:Nat->Nat->Nat
 |0,_=>0
 |f+1,a=>if a=0 then 0 else nlF f (a/4294967296)+1
def nl(a:Nat):Nat:=nlF a a
theorem M1:∀(f a n:Nat),a<=f->(nlF f a<=n↔a<4294967296^n)
 |0,a,n,h=>by
  have:=Kk n
  simp only[nlF];omega
 |f+1,a,n,h=>by
  simp only[nlF]
  split
  ·rename_i h0;have:=Kk n;subst h0;simp;omega
  ·cases n with
   |zero=>simp;omega
   |succ n=>
    have:=M1 f (a/4294967296) n (by omega)
    rw[Jr,<-WH (by decide),<-this]
    omega
theorem nl_le{a n:Nat}:nl a<=n↔a<4294967296^n:=M1 a a n (Yt _)
theorem Xy(a:Nat):a<4294967296^nl a:=nl_le.1 (Yt _)
theorem WF:nl 0=0:=rfl
theorem nl_pos{a:Nat}:0<nl a↔0<a:=by
 have:= @nl_le a 0
 simp at this;omega
theorem nl_eq0{a:Nat}:nl a=0↔a=0:=by
 have:= @nl_le a 0
 simp at this;omega
theorem LH{a:Nat}(h:a≠0):dig a (nl a-1)≠0:=by
 obtain⟨n,hn⟩:∃n,nl a=n+1:=⟨nl a-1,by have:=nl_eq0 (a:=a);omega⟩
 rw[hn,Nat.add_sub_cancel]
 have h1:=Xy a
 have h2:¬a<4294967296^n:=fun hh=>by have:=nl_le.2 hh;omega
 rw[hn,Jr]at h1
 unfold dig
 have h3:a/4294967296^n<4294967296:=by rw[WH (Kk n),Yl];exact h1
 rw[QB h3]
 have:=Nat.div_pos (XF h2) (Kk n)
 omega
theorem Fj{a b:Nat}(h:a<=b):nl a<=nl b:=nl_le.2 (JC h (Xy b))
theorem W6{a n:Nat}(h:a<4294967296^n)(ht:n=0\/dig a (n-1)≠0):nl a=n:=by
 have h1:=nl_le.2 h
 rcases ht with rfl|ht
 ·omega
 ·rcases YY (nl a) n with h2|h2
  ·exact absurd (ZM (Xy a) (by omega:nl a<=n-1)) ht
  ·omega
theorem Vq{a n:Nat}(h:a<4294967296^(n+1))(h0:dig a n=0):a<4294967296^n:=by
 have:=Xx a n
 rw[h0,QB h]at this
 rw[this]
 simpa using Kj a (Kk n)
def cy(a b i:Nat):Nat:=(a%4294967296^i+b%4294967296^i)/4294967296^i
theorem S7(a b:Nat):cy a b 0=0:=by simp [cy,Nat.mod_one]
theorem Dy(a b i:Nat):cy a b i<=1:=by
 unfold cy
 have h1:=Kj a (Kk i)
 have h2:=Kj b (Kk i)
 have:(a%4294967296^i+b%4294967296^i)/4294967296^i<2:=by
  rw[WH (Kk i)];omega
 omega
theorem Eo(a b i:Nat):(a+b)/4294967296^i=a/4294967296^i+b/4294967296^i+cy a b i:=by
 unfold cy
 have h1:=KP a (4294967296^i)
 have h2:=KP b (4294967296^i)
 generalize hP:4294967296^i=P at*
 have hp:0<P:=hP▸Kk i
 have e:a+b=P*(a/P+b/P)+(a%P+b%P):=by rw[Ka];omega
 conv=>lhs;rw[e]
 rw[Nat.mul_add_div hp]
theorem N9(a b i:Nat):(dig a i+dig b i+cy a b i)%4294967296=dig (a+b) i:=by
 unfold dig
 rw[Eo]
 omega
theorem CC(a b i:Nat):(dig a i+dig b i+cy a b i)/4294967296=cy a b (i+1):=by
 have e:cy a b (i+1)=(a%4294967296^(i+1)+b%4294967296^(i+1))/4294967296^(i+1):=rfl
 rw[e,Xx,Xx,Jr,<-K8]
 unfold cy
 generalize hP:4294967296^i=P at*
 have hp:0<P:=hP▸Kk i
 have e:a%P+P*dig a i+(b%P+P*dig b i)=P*(dig a i+dig b i)+(a%P+b%P):=by rw[Ka];omega
 rw[e,Nat.mul_add_div hp]
def Qe(V j x:Nat):Nat:=V-dig V j*4294967296^j+x*4294967296^j
theorem US(V j:Nat):V=4294967296^j*(4294967296*(V/4294967296^(j+1))+dig V j)+V%4294967296^j:=by
 have h1:=KP V (4294967296^j)
 have h2:=KP (V/4294967296^j) 4294967296
 rw[K8,<-Jr]at h2
 unfold dig
 rw[h2,h1]
theorem UO(V j x:Nat):Qe V j x=4294967296^j*(4294967296*(V/4294967296^(j+1))+x)+V%4294967296^j:=by
 have:=US V j
 unfold Qe
 generalize dig V j=d at*
 generalize V/4294967296^(j+1)=h at*
 generalize V%4294967296^j=l at*
 generalize 4294967296^j=P at*
 rw[Ka]at this⊢
 rw[Yl d,Yl x]
 omega
theorem ND(V j x:Nat):Qe V j x+dig V j*4294967296^j=V+x*4294967296^j:=by
 have:=US V j
 rw[UO]
 generalize dig V j=d at*
 generalize V/4294967296^(j+1)=h at*
 generalize V%4294967296^j=l at*
 generalize 4294967296^j=P at*
 rw[Ka]at this⊢
 rw[Yl d,Yl x]
 omega
theorem NE{V j x:Nat}(hx:x<4294967296):Qe V j x/4294967296^(j+1)=V/4294967296^(j+1):=by
 have hl:=Kj V (Kk j)
 have e:∀Y:Nat,Y/4294967296^(j+1)=Y/4294967296^j/4294967296:=fun Y=>by rw[Jr,K8]
 rw[UO,e (4294967296^j*(4294967296*(V/4294967296^(j+1))+x)+V%4294967296^j),Nat.mul_add_div (Kk j),QN hl]
 generalize V/4294967296^(j+1)=h
 omega
theorem Mk{V j x:Nat}(hx:x<4294967296)(k:Nat):dig (Qe V j x) k=if k=j then x else dig V k:=by
 have hl:=Kj V (Kk j)
 rcases Ww k j with h|h|h
 ·rw[if_neg (by omega),<-VZ h,<-VZ (a:=V) h,UO,Nat.mul_add_mod,Nat.mod_mod]
 ·subst h
  rw[if_pos rfl,UO]
  unfold dig
  rw[Nat.mul_add_div (Kk k),QN hl]
  omega
 ·rw[if_neg (by omega)]
  obtain⟨m,rfl⟩:∃m,k=(j+1)+m:=⟨k-(j+1),by omega⟩
  unfold dig
  have e:Qe V j x/4294967296^(j+1)=V/4294967296^(j+1):=by
   exact NE hx
  rw[Yo,<-K8,<-K8,e]
theorem PD{V j x n:Nat}(hV:V<4294967296^n)(hx:x<4294967296)(hj:j<n):Qe V j x<4294967296^n:=by
 obtain⟨m,rfl⟩:∃m,n=m+(j+1):=⟨n-(j+1),by omega⟩
 rw[Yo,<-WH (Kk _)]at hV⊢
 rw[NE hx]
 exact hV
theorem OE{a b i k V c:Nat}(h:V+c*4294967296^(i+k)=(a%4294967296^i)*b+dig a i*(b%4294967296^k)*4294967296^i):
 Qe V (i+k) ((dig V (i+k)+dig a i*dig b k+c)%4294967296)+((dig V (i+k)+dig a i*dig b k+c)/4294967296)*4294967296^(i+(k+1))=(a%4294967296^i)*b+dig a i*(b%4294967296^(k+1))*4294967296^i:=by
 have e1:=ND V (i+k) ((dig V (i+k)+dig a i*dig b k+c)%4294967296)
 have e2:=KP (dig V (i+k)+dig a i*dig b k+c) 4294967296
 rw[Xx,show i+(k+1)=(i+k)+1 by omega,Jr]
 rw[Yo]at*
 generalize Qe V (i+k) ((dig V (i+k)+dig a i*dig b k+c)%4294967296)=V' at*
 generalize(dig V (i+k)+dig a i*dig b k+c)%4294967296=r at*
 generalize(dig V (i+k)+dig a i*dig b k+c)/4294967296=q at*
 generalize dig V (i+k)=d at*
 generalize dig a i=x at*
 generalize dig b k=y at*
 generalize b%4294967296^k=bm at*
 generalize a%4294967296^i=am at*
 generalize 4294967296^i=P at*
 generalize 4294967296^k=R at*
 grind
theorem YjU{d x y c:Nat}(hd:d<4294967296)(hx:x<4294967296)(hy:y<4294967296)(hc:c<4294967296):d+x*y+c<18446744073709551616/\(d+x*y+c)/4294967296<4294967296:=by
 have:x*y<=4294967295*4294967295:=YX (by omega) (by omega)
 omega
theorem Gb(a m k:Nat):dig (a/4294967296^m) k=dig a (m+k):=by
 unfold dig
 rw[Yo,K8]
theorem LF(a b:Nat):∃n,a<4294967296^n/\b<4294967296^n:=
 ⟨nl a+nl b,Qt (Xy a) (Kp (by decide) (by omega)),Qt (Xy b) (Kp (by decide) (by omega))⟩
theorem Mi{a b:Nat}(h:∀i,dig a i=dig b i):a=b:=by
 obtain⟨n,h1,h2⟩:=LF a b
 exact Em h1 h2 fun i _=>h i
theorem En{a b m:Nat}(h:∀i,m<=i->dig a i=dig b i):a/4294967296^m=b/4294967296^m:=
 Mi fun i=>by rw[Gb,Gb];exact h _ (by omega)
theorem Mj{a b j:Nat}(h:∀i,j<i->dig a i=dig b i)(hd:dig a j<dig b j):a<b:=by
 have h1:=US a j
 have h2:=US b j
 rw[En (m:=j+1) fun i hi=>h i hi]at h1
 have h3:=Kj a (Kk j)
 generalize b/4294967296^(j+1)=q at*
 generalize 4294967296^j=P at*
 generalize a%P=x at*
 generalize b%P=y at*
 generalize dig a j=d at*
 generalize dig b j=e at*
 have:P*(4294967296*q+d)+P<=P*(4294967296*q+e):=by
  rw[<-Nat.mul_succ];exact Yz _ (by omega)
 omega
def JM(a b:Nat):Int:=if a<b then -1 else if b<a then 1 else 0
theorem Y9{j:Nat}(h:0<j)(hj:j<=9223372036854775807):IntKind.i64.wrap ((j:Int)-1)=((j-1:Nat):Int):=by
 rw[Yg _ (by omega)];omega
theorem Xo{x:Nat}(h:x<18446744073709551616):IntKind.u64.wrap (x:Int)=x:=Wp _ (by omega)
theorem P8{x:Nat}(h:x<4294967296):IntKind.u32.wrap (x:Int)=x:=IntWalk.u32_in _ (by omega)
theorem UU{x y:Nat}(h:x+y<18446744073709551616):IntKind.u64.wrap ((x:Int)+(y:Int))=((x+y:Nat):Int):=by rw[Wp _ (by omega)];simp
theorem NL{x y:Nat}(h:x*y<18446744073709551616):IntKind.u64.wrap ((x:Int)*(y:Int))=((x*y:Nat):Int):=by
 rw[<-Qr];exact Xo h
end Go.Proofs.YtlhmikjnholpnaaGreatDoor
namespace Go.Proofs.YtlhmikjnholpnaaGreatDoor.Q
open Go Go.Vx
set_option maxRecDepth 100000
set_option maxHeartbeats 4000000
def v95:VF:=⟨41,[.tmp 4],(ZR [Zi 4 0] (.seq (ZR [Zm 6 0,Zl 7 6,Zm 8 1,Zl 9 8,Zr 10 .neq 7 9] (ZC 10 (.seq (ZR [Zm 11 0,Zl 12 11,Zm 13 1,Zl 14 13,Zr 15 .lss 12 14] (ZC 15 (ZR [Zi 4 (-1)] .ret) .skip)) (ZR [Zi 4 1] .ret)) .skip)) (.seq (ZR [Zm 16 0,Zl 17 16,u1 18 (.ari .sub) [.tm 17,.cn (.int .i64 1)],Zm 5 18] (.block 0 (.loop (.seq (ZR [Zm 19 5,Zq 20 .geq 19 0] (ZC 20 .skip (.exit 0))) (.seq (.block 1 (.seq (.seq (.draw [] [Zu 23 0,Zu 24 5,ZX 25 1 23 24,Zv 26 1 25,Zu 27 1,Zu 28 5,ZX 29 1 27 28,Zv 30 1 29,w1 31 (.cmp .lss) [.tm 26,.tm 30]]) (ZC 31 (ZR [Zi 4 (-1)] .ret) .skip)) (.seq (.draw [] [Zu 32 0,Zu 33 5,ZX 34 1 32 33,Zv 35 1 34,Zu 36 1,Zu 37 5,ZX 38 1 36 37,Zv 39 1 38,w1 40 (.cmp .gtr) [.tm 35,.tm 39]]) (ZC 40 (ZR [Zi 4 1] .ret) .skip)))) (.region [Zm 21 5,u1 22 (.ari .sub) [.tm 21,.cn (.int .i64 1)],Zm 5 22])))))) (ZR [Zi 4 0] .ret))))⟩
theorem YqP:Yn Yb Tryz.f95=some v95:=by kernel_rfl
def v93:VF:=⟨14,[.tmp 2],(ZR [u1 2 .mov [.cn .nil]] (ZR [u1 3 .mov [.cn .nil]] (.seq (.block 0 (.loop (.seq (ZR [Zm 4 0,Zq 5 .gtr 4 0] (ZC 5 .skip (.exit 0))) (.block 1 (ZR [Zm 6 3,Zm 7 0,u1 8 .rem [.tm 7,.cn (.int .i64 32768)],u1 9 (.buildSlice 1 1 [(.int .i64 0)] [(0,1)]) [.tm 8],u1 10 (.append 1 8 [(.int .i64 0)]) [.tm 6,.tm 9],Zm 3 10] (.region [Zm 11 0,u1 12 .quo [.tm 11,.cn (.int .i64 32768)],Zm 0 12])))))) (ZR [Zm 13 3,Zm 2 13] .ret))))⟩
theorem YqN:Yn Yb Tryz.f93=some v93:=by kernel_rfl
def K9(a n sz:Nat)(get:Nat->List SV):Prop:=sz=1/\n<=100000/\a<32768^n/\∀k,k<n->QK (get k) [.int .i64 (dig a k)]
theorem Hs{a n:Nat}(hn:n<=100000)(ha:a<32768^n):K9 a n 1 (fun k=>[.int .i64 (dig a k)]):=⟨rfl,hn,ha,fun k _=>YW _⟩
theorem YO{a:Nat}(hn:nl a<=100000):K9 a (nl a) 1 (fun k=>[.int .i64 (dig a k)]):=Hs hn (Xy a)
def Yv(z:Bool)(a:Nat):SV:= .vs true z (nl a) 1 (fun k=>[.int .i64 (dig a k)])
theorem L3{hp:List HO}{i n m:Nat}{z zz:Bool}{get:Nat->List SV}{a:Nat}(hn:n=nl a)(hz:z=zz)(hi:Ys hp i= .own z 1 m get)(hg:∀j,j<n->get j=[.int .i64 (dig a j)]):
 le 0 0 (JT hp (.own i 0 n 1)) (Yv zz a):=by
 have e:JT hp (.own i 0 n 1)= .vs true z n 1 (fun k=>viewN true hp 2 (get (QE 0 k))):=by
  show JX true hp (viewN true hp 2) (.own i 0 n 1)=_
  unfold JX
  rw[hi];rfl
 rw[e]
 unfold Yv
 rw[Li]
 refine⟨id,hz,hn,rfl,fun j hj=>?_⟩
 show QK (viewN true hp 2 (get j)) _
 rw[hg j hj]
 exact YW _
theorem WK{k:SV->List HO->Prop}{al:Bool}{hp:List HO}{i n m:Nat}{z zz:Bool}{get:Nat->List SV}{a:Nat}(h:k (Yv zz a) [])(hn:n=nl a)(hz:z=zz)(hi:Ys hp i= .own z 1 m get)(hg:∀j,j<n->get j=[.int .i64 (dig a j)]):
 Jz al k (.own i 0 n 1) hp:=Kv h (L3 hn hz hi hg) (fun _=>by simp [Yv,Y3,Y5])
theorem U4{k:SV->List HO->Prop}{al:Bool}{hp:List HO}{t z:Bool}{a:Nat}(h:k (Yv z a) []):Jz al k (.vs true z (nl a) 1 (fun k=>[.int .i64 (dig a k)])) hp:=
 Kv h (JG _ trivial) (fun _=>by simp [Yv,Y3,Y5])
theorem MN(x:Nat):((x:Int)).tmod 32768=((x%32768:Nat):Int):=VI rfl rfl
theorem MM{x:Nat}(h:x<=9223372036854775807):IntKind.i64.wrap (((x:Int)).tdiv 32768)=((x/32768:Nat):Int):=by
 have e:((x:Int)).tdiv 32768=((x/32768:Nat):Int):=Wq (y:=32768) rfl rfl
 rw[e,Yg _ (by omega)]
def limbsC:Ctr:={ alias:=false,of:=fun l=>match l with
 | [.int .i64 n]=> .pre (0<=n/\n<=9223372036854775807) (.fin (Yv (decide (nl n.toNat=0)) n.toNat) [])
 |_=>noC}
def cmpC:Ctr:={ alias:=false,of:=fun l=>match l with
 | [.vs _ _ n sz get,.vs _ _ m sz' get']=> .ex Nat fun a=> .ex Nat fun b=> .pre (K9 a n sz get/\K9 b m sz' get'/\n=nl a/\m=nl b) (.fin (.int .i64 (JM a b)) [])
 |_=>noC}
def Q0:Env:=mkE [] []
theorem RB:YD Yb Q0:=eo (by kernel_rfl) trivial trivial
theorem Aw:limbsC.ok Yb 93:=by
 refine Yy Tryz.func93 YqN RB 200 limbsC fun args k h=>?_
 simp only[limbsC]at h
 split at h
 ·rename_i n
  obtain⟨⟨h0,h1⟩,h⟩:=h
  obtain⟨n,rfl⟩:=Un h0
  rw[Yj]at h
  refine⟨[.int .i64 n],by simp [leL,le],?_⟩
  (try dsimp only[v93,go_sem,reduceIte,Ya])
  (try simp only[Yd,Ya,Ye,reduceCtorEq,Yc])
  have hn5:nl n<=5:=nl_le.2 (by omega)
  refine Loop.keep [0,2] Nat (fun i=>[(0,.int .i64 ((n/32768^i:Nat):Int)),(3,.own 0 0 i 1)]) (fun i=>[(0,.own (decide (i=0)) 1 i (fun k=>[.int .i64 (dig n k)]))]) [.gone] (fun i=>i<=nl n) (fun i=>nl n-i) ?_ ?_
  ·refine⟨0,by omega,?_⟩
   (try dsimp only[go_sem,reduceIte,Ya])
   simp only[Yf]
   simp
  ·rintro i hi
   (try dsimp only[Yj,go_sem,reduceIte,Ya])
   (try simp only[Yd,Ya,Ye,reduceCtorEq,Yc])
   have hle:n/32768^i<=n:=XD _ _
   refine⟨fun hlt=>?_,fun hge=>?_⟩
   ·have hin:i<nl n:=by
     rcases YY i (nl n)with h'|h'
     ·exact h'
     ·rw[QN (nl_le.1 h')]at hlt;exact absurd hlt (by decide)
    rw[MN,MM (by omega),K8,<-Jr]
    (try dsimp only[go_sem,reduceIte,Ya])
    (try simp only[Yd,Ya,Ye,reduceCtorEq,Yc])
    refine⟨by decide,by decide,⟨by unfold Y8;omega,fun j hj=>?_⟩,by decide,i+1,by omega,by omega,?_⟩
    ·match j,hj with
     |0,_=>exact⟨rfl,trivial,trivial⟩
    ·simp only[Yf]
     refine⟨by simp,by simp,fun j hj=>?_⟩
     rcases YY j i with h'|h'
     ·rw[if_pos h'];simp only[leL,le,and_self]
     ·obtain rfl:j=i:=by omega
      rw[if_neg (ZA _),Nat.sub_self]
      simp only[YU,YP,YF,leL,JP,Wi,Ku,cond,le,dig,and_self]
   ·have hin:i=nl n:=by
     have:n<32768^i:=by
      rcases YY n (32768^i)with h'|h'
      ·exact h'
      ·have:=Nat.div_pos h' (Kk i);omega
     have:=nl_le.2 this;omega
    subst hin
    exact WK h rfl rfl rfl fun j hj=>rfl
 ·exact h.1.elim
theorem YaZ:cmpC.ok Yb 95:=by
 refine Yy Tryz.func95 YqP RB 200 cmpC fun args k h=>?_
 simp only[cmpC]at h
 split at h
 ·rename_i t1 z1 n sz get t2 z2 m sz' get'
  obtain⟨a,b,⟨⟨rfl,hn,ha,hg⟩,⟨rfl,hm,hb,hg'⟩,rfl,rfl⟩,h⟩:=h
  refine⟨[.vs t1 z1 (nl a) 1 (fun k=>[.int .i64 (dig a k)]),.vs t2 z2 (nl b) 1 (fun k=>[.int .i64 (dig b k)])],⟨by simpa [le]using hg,by simpa [le]using hg',trivial⟩,?_⟩
  (try dsimp only[v95,go_sem,reduceIte,Ya])
  (try simp only[Yd,Ya,Ye,reduceCtorEq,Yc])
  refine⟨fun hne=>⟨fun hlt=>Kb ?_,fun hge=>Kb ?_⟩,fun heq=>?_⟩
  ·have:a<b:=by
    rcases YY a b with h'|h'
    ·exact h'
    ·have:=Fj h';omega
   rw[JM,if_pos this]at h;exact h
  ·have:b<a:=by
    rcases YY b a with h'|h'
    ·exact h'
    ·have:=Fj h';omega
   rw[JM,if_neg (by omega),if_pos this]at h;exact h
  ·refine Loop.keep [0,0,3] Nat (fun j=>[(5,.int .i64 ((j:Int)-1))]) (fun _=>[]) [] (fun j=>j<=nl a/\∀i,j<=i->dig a i=dig b i) (fun j=>j) ?_ ?_
   ·refine⟨nl a,⟨by omega,fun i hi=>by rw[ZM ha (by omega),ZM hb (by omega)]⟩,?_⟩
    (try dsimp only[go_sem,reduceIte,Ya])
    simp only[Yf]
    rw[Yg _ (by omega)]
   ·rintro j ⟨hj,haj⟩
    (try dsimp only[Yj,go_sem,reduceIte,Ya])
    (try simp only[Yd,Ya,Ye,reduceCtorEq,Yc])
    refine⟨fun hlt=>?_,fun hge=>?_⟩
    ·obtain⟨i,rfl⟩:∃i,j=i+1:=⟨j-1,by omega⟩
     have e:((i+1:Nat):Int)-1=i:=by omega
     have gt:∀t,i<t->dig a t=dig b t:=fun t ht=>haj t (by omega)
     rw[e]
     simp only[Yj]
     refine⟨⟨by omega,by omega⟩,⟨by omega,by omega⟩,fun hc=>Kb ?_,fun hc=>⟨⟨by omega,by omega⟩,⟨by omega,by omega⟩,fun hd=>Kb ?_,fun hd=>?_⟩⟩
     ·have:=Mj gt (by omega:dig a i<dig b i)
      rw[JM,if_pos this]at h;exact h
     ·have:=Mj (fun t ht=>(gt t ht).symm) (by omega:dig b i<dig a i)
      rw[JM,if_neg (by omega),if_pos this]at h;exact h
     ·refine⟨i,⟨by omega,fun t ht=>?_⟩,by omega,?_⟩
      ·rcases Nat.eq_or_lt_of_le ht with rfl|ht
       ·omega
       ·exact gt t ht
      ·simp only[Yf]
       rw[Yg _ (by omega)]
    ·obtain rfl:j=0:=by omega
     have:a=b:=Mi fun i=>haj i (JJ _)
     subst this
     rw[JM,if_neg (ZA _),if_neg (ZA _)]at h
     exact Kb h
 ·exact h.1.elim
def GT:VF:={ ntmps:=21,res:=[.tmp 2],body:=
 (ZR [u1 2 .mov [.cn .nil]]
 (.seq (.block 0 (.loop (.seq (ZR [Zm 3 0,
 Zl 4 3,
 Zq 5 .gtr 4 0,
 Zm 6 5,
 Zg 7 6 true 0,
 Zg 8 6 true 0,
 u2 9 6 true .len [.tm 8],
 u2 10 6 true (.ari .sub) [.tm 9,.cn (.int .i64 1)],
 u2 11 6 true (.idxAddr 1) [.tm 7,.tm 10],
 Zh 12 6 true 1 11,
 u2 13 6 true (.cmp .eql) [.tm 12,.cn (.int .i64 0)],
 u1 14 .and [.tm 6,.tm 13]]
 (ZC 14 .skip
  (.exit 0)))
 (.block 1 (.region [Zm 15 0,
 Zm 16 0,
 Zl 17 16,
 u1 18 (.ari .sub) [.tm 17,.cn (.int .i64 1)],
 u1 19 (.slice 1 false true) [.tm 15,.tm 18],
 Zm 0 19])))))
 (ZR [Zm 20 0,
 Zm 2 20]
 .ret)))}
theorem Yc1:Yn Yb Tryz.f134=some GT:=by kernel_rfl
def Cc:VF:={ ntmps:=35,res:=[.tmp 2],body:=
 (ZR [u1 2 .mov [.cn .nil]]
 (ZR [Zi 3 0]
 (.seq (ZR [Zi 4 0]
 (.block 0 (.loop (.seq (ZR [Zm 5 4,
 Zm 6 0,
 Zl 7 6,
 Zr 8 .lss 5 7]
 (ZC 8 .skip
  (.exit 0)))
 (.seq (.block 1 (ZR [Zm 11 3,
 Zm 12 0,
 Zm 13 4,
 Zx 14 1 12 13,
 Zf 15 1 14,
 Zo 16 .add 11 15,
 Zm 3 16]
 (ZR [Zm 17 0,
 Zm 18 4,
 Zm 19 3,
 u1 20 .rem [.tm 19,.cn (.int .i64 32768)],
 Zx 21 1 17 18,
 Zs 1 21 20]
 (.region [Zm 22 3,
 u1 23 .quo [.tm 22,.cn (.int .i64 32768)],
 Zm 3 23]))))
 (.region [Zm 9 4,
 Zp 10 9 1,
 Zm 4 10]))))))
 (.seq (.block 2 (.loop (.seq (ZR [Zm 24 3,
 Zq 25 .gtr 24 0]
 (ZC 25 .skip
  (.exit 2)))
 (.block 3 (ZR [Zm 26 0,
 Zm 27 3,
 u1 28 .rem [.tm 27,.cn (.int .i64 32768)],
 u1 29 (.buildSlice 1 1 [(.int .i64 0)] [(0,1)]) [.tm 28],
 u1 30 (.append 1 8 [(.int .i64 0)]) [.tm 26,.tm 29],
 Zm 0 30]
 (.region [Zm 31 3,
 u1 32 .quo [.tm 31,.cn (.int .i64 32768)],
 Zm 3 32]))))))
 (ZR [Zm 33 0,
 Zc 34 134 33,
 Zm 2 34]
 .ret)))))}
theorem Yo6:Yn Yb Tryz.f122=some Cc:=by kernel_rfl
def v86:VF:=⟨47,[.tmp 4],(ZR [u1 4 .mov [.cn .nil]] (ZR [Zm 8 0,Zl 9 8,Zm 10 1,Zl 11 10,u1 12 .max [.tm 9,.tm 11],u1 13 (.make 1 8 [(.int .i64 0)]) [.tm 12,.tm 12],Zm 5 13] (.seq (ZR [Zi 6 0] (.block 0 (.loop (.seq (ZR [Zm 14 6,Zm 15 0,Zl 16 15,Zr 17 .lss 14 16] (ZC 17 .skip (.exit 0))) (.seq (.block 1 (.region [Zm 20 5,Zm 21 6,Zm 22 0,Zm 23 6,Zx 24 1 22 23,Zf 25 1 24,Zx 26 1 20 21,Zs 1 26 25])) (.region [Zm 18 6,Zp 19 18 1,Zm 6 19])))))) (.seq (ZR [Zi 7 0] (.block 2 (.loop (.seq (ZR [Zm 27 7,Zm 28 1,Zl 29 28,Zr 30 .lss 27 29] (ZC 30 .skip (.exit 2))) (.seq (.block 3 (.draw [] [Zu 33 5,Zu 34 7,Zu 35 5,Zu 36 7,ZX 37 1 35 36,Zv 38 1 37,Zu 39 1,Zu 40 7,ZX 41 1 39 40,Zv 42 1 41,w1 43 (.ari .add) [.tm 38,.tm 42],ZX 44 1 33 34,ZS 1 44 43])) (.region [Zm 31 7,Zp 32 31 1,Zm 7 32])))))) (ZR [Zm 45 5,Zc 46 122 45,Zm 4 46] .ret)))))⟩
theorem YqF:Yn Yb Tryz.f86=some v86:=by kernel_rfl
def v94:VF:=⟨49,[.tmp 4],(ZR [u1 4 .mov [.cn .nil]] (ZR [Zm 8 0,Zl 9 8,Zm 10 1,Zl 11 10,Zo 12 .add 9 11,u1 13 (.make 1 8 [(.int .i64 0)]) [.tm 12,.tm 12],Zm 5 13] (.seq (ZR [Zi 6 0] (.block 0 (.loop (.seq (ZR [Zm 14 6,Zm 15 0,Zl 16 15,Zr 17 .lss 14 16] (ZC 17 .skip (.exit 0))) (.seq (.block 1 (ZR [Zi 7 0] (.block 2 (.loop (.seq (ZR [Zm 20 7,Zm 21 1,Zl 22 21,Zr 23 .lss 20 22] (ZC 23 .skip (.exit 2))) (.seq (.block 3 (.draw [] [Zu 26 5,Zu 27 6,Zu 28 7,w1 29 (.ari .add) [.tm 27,.tm 28],Zu 30 5,Zu 31 6,Zu 32 7,w1 33 (.ari .add) [.tm 31,.tm 32],ZX 34 1 30 33,Zv 35 1 34,Zu 36 0,Zu 37 6,ZX 38 1 36 37,Zv 39 1 38,Zu 40 1,Zu 41 7,ZX 42 1 40 41,Zv 43 1 42,w1 44 (.ari .mul) [.tm 39,.tm 43],w1 45 (.ari .add) [.tm 35,.tm 44],ZX 46 1 26 29,ZS 1 46 45])) (.region [Zm 24 7,Zp 25 24 1,Zm 7 25]))))))) (.region [Zm 18 6,Zp 19 18 1,Zm 6 19])))))) (ZR [Zm 47 5,Zc 48 122 47,Zm 4 48] .ret))))⟩
theorem YqO:Yn Yb Tryz.f94=some v94:=by kernel_rfl
def addC:Ctr:={ alias:=false,of:=fun l=>match l with
 | [.vs _ _ n sz get,.vs _ _ m sz' get']=> .ex Nat fun a=> .ex Nat fun b=> .pre (K9 a n sz get/\K9 b m sz' get'/\n<=90000/\m<=90000) (.fin (Yv false (a+b)) [])
 |_=>noC}
def Q1:Env:=mkE [] [(134,GT),(122,Cc)]
theorem RC:YD Yb Q1:=eo (by kernel_rfl) trivial ⟨⟨_,Tryz.func134,Yc1,_,Tryz.func134,rfl,rfl⟩,⟨_,Tryz.func122,Yo6,_,Tryz.func122,rfl,rfl⟩,trivial⟩
theorem Nt:addC.ok Yb 86:=by
 refine Yy Tryz.func86 YqF RC 300 addC fun args k h=>?_
 simp only[addC]at h
 split at h
 ·rename_i t1 z1 n sz get t2 z2 m sz' get'
  obtain⟨a,b,⟨⟨rfl,hn,ha,hg⟩,⟨rfl,hm,hb,hg'⟩,hn9,hm9⟩,h⟩:=h
  refine⟨[.vs t1 z1 n 1 (fun k=>[.int .i64 (dig a k)]),.vs t2 z2 m 1 (fun k=>[.int .i64 (dig b k)])],⟨by simpa [le]using hg,by simpa [le]using hg',trivial⟩,?_⟩
  (try dsimp only[v86,go_sem,reduceIte,Ya])
  (try simp only[Yd,Ya,Ye,reduceCtorEq,Yc])
  have en:max (n:Int) (m:Int)=((max n m:Nat):Int):=by omega
  rw[en]
  simp only[Yj]
  refine⟨⟨by decide,by omega,by unfold Y8;omega⟩,?_⟩
  refine Loop.keep [0,0,3] Nat (fun i=>[(6,.int .i64 i)]) (fun i=>[(0,.own false 1 (max n m) (fun k=>[.int .i64 ((if k<i then dig a k else 0:Nat):Int)]))]) [] (fun i=>i<=n) (fun i=>n-i) ?_ ?_
  ·refine⟨0,by omega,?_⟩
   (try dsimp only[go_sem,reduceIte,Ya])
   simp only[Yf]
   simp [leL,le]
  ·rintro i hi
   (try dsimp only[Yj,go_sem,reduceIte,Ya])
   (try simp only[Yd,Ya,Ye,reduceCtorEq,Yc])
   refine⟨fun hlt=>?_,fun hge=>?_⟩
   ·refine⟨⟨by omega,by omega⟩,⟨by omega,by omega⟩,by omega,i+1,by omega,by omega,?_⟩
    rw[Yg ((i:Int)+1) (by omega)]
    simp only[Yf]
    refine⟨by simp,fun j hj=>?_⟩
    rcases Ww j i with h'|h'|h'
    ·rw[if_neg (by omega),if_pos h',if_pos (by omega)];simp only[leL,le,and_self]
    ·subst h';rw[if_pos rfl,if_pos (by omega)];simp only[leL,le,and_self]
    ·rw[if_neg (by omega),if_neg (by omega),if_neg (by omega)];simp only[leL,le,and_self]
   ·obtain rfl:i=n:=by omega
    refine Loop.keep [0,0,3] Nat (fun j=>[(7,.int .i64 j)]) (fun j=>[(0,.own false 1 (max i m) (fun k=>[.int .i64 ((dig a k+(if k<j then dig b k else 0):Nat):Int)]))]) [] (fun j=>j<=m) (fun j=>m-j) ?_ ?_
    ·refine⟨0,by omega,?_⟩
     (try dsimp only[go_sem,reduceIte,Ya])
     simp only[Yf]
     refine⟨by simp,fun j hj=>?_⟩
     rcases YY j i with h'|h'
     ·rw[if_pos h',if_neg (J8 _),KO];try simp only[leL,le,and_self]
     ·rw[if_neg (by omega),if_neg (J8 _),ZM ha h',KO];try simp only[leL,le,and_self]
    ·rintro j hj
     (try dsimp only[Yj,go_sem,reduceIte,Ya])
     (try simp only[Yd,Ya,Ye,reduceCtorEq,Yc])
     refine⟨fun hlt=>?_,fun hge=>?_⟩
     ·refine⟨⟨by omega,by omega⟩,by omega,⟨by omega,by omega⟩,⟨by omega,by omega⟩,by omega,j+1,by omega,by omega,?_⟩
      have h1:=QH a j
      have h2:=QH b j
      have e:IntKind.i64.wrap (((dig a j+if j<j then dig b j else 0:Nat):Int)+(dig b j:Int))=((dig a j+dig b j:Nat):Int):=by
       rw[if_neg (ZA _),Yg _ (by omega)];omega
      rw[Yg ((j:Int)+1) (by omega),e]
      simp only[Yf]
      refine⟨by simp,fun q hq=>?_⟩
      rcases Ww q j with h'|h'|h'
      ·rw[if_neg (by omega),if_pos h',if_pos (by omega)];simp only[leL,le,and_self]
      ·subst h';rw[if_pos rfl,if_pos (by omega)];simp only[leL,le,and_self]
      ·rw[if_neg (by omega),if_neg (by omega),if_neg (by omega)];simp only[leL,le,and_self]
     ·obtain rfl:j=m:=by omega
      have eR:(fun k=>[SV.int .i64 ((dig a k+(if k<j then dig b k else 0):Nat):Int)])=fun k=>[SV.int .i64 (((fun i=>dig a i+dig b i) k:Nat):Int)]:=by
       funext k
       split
       ·rfl
       ·rename_i hk;show _=[SV.int .i64 ((dig a k+dig b k:Nat):Int)];rw[ZM hb (by omega)]
      rw[eR]
      have hX:pre (fun i=>dig a i+dig b i) (max i j)=a+b:=by
       rw[Yaw,Pa,Pa,QB (Qt ha (Kp (by decide) (by omega))),QB (Qt hb (Kp (by decide) (by omega)))]
      have hQ:∀q,q<max i j->(fun i=>dig a i+dig b i) q<=32767*35184372088832:=fun q _=>by
       have h1:=QH a q
       have h2:=QH b q
       show dig a q+dig b q<=_
       omega
      have hN:max i j<=90000:=by omega
      generalize hR:(fun i=>dig a i+dig b i)=R at hX hQ⊢
      generalize max i j=N at hX hQ hN⊢
      generalize a+b=X at hX h
      have hXN:X<32768^(N+4):=hX▸YaA R 35184372088832 N (by decide) hQ
      (try dsimp only[Q1,Yk,Cc,Yj,go_sem,reduceIte,Ya])
      (try simp only[Yd,Ya,Ye,reduceCtorEq,Yc])
      refine Loop.keep [0,2,0] Nat (fun i=>[(3,.int .i64 ((pre R i/32768^i:Nat):Int)),(4,.int .i64 i)]) (fun i=>[(0,.own false 1 N (fun k=>[.int .i64 ((if k<i then dig X k else R k:Nat):Int)]))]) [] (fun i=>i<=N) (fun i=>N-i) ?_ ?_
      ·refine⟨0,by omega,?_⟩
       (try dsimp only[go_sem,reduceIte,Ya])
       simp only[Yf]
       simp [pre]
      ·rintro i hi
       (try dsimp only[Yj,go_sem,reduceIte,Ya])
       (try simp only[Yd,Ya,Ye,reduceCtorEq,Yc])
       refine⟨fun hlt=>?_,fun hge=>?_⟩
       ·have hin:i<N:=by omega
        refine⟨⟨by omega,by omega⟩,hin,by decide,⟨by omega,by omega⟩,hin,by decide,i+1,by omega,by omega,?_⟩
        have hc:=Af R 35184372088832 i fun q hq=>hQ q (by omega)
        have hr:=hQ i hin
        have e:IntKind.i64.wrap (((pre R i/32768^i:Nat):Int)+((if i<i then dig X i else R i:Nat):Int))=((R i+pre R i/32768^i:Nat):Int):=by
         rw[if_neg (ZA _)]
         generalize pre R i/32768^i=c at hc
         generalize R i=r at hr
         rw[Yg _ (by omega)];omega
        have hx:R i+pre R i/32768^i<=9223372036854775807:=by
         generalize pre R i/32768^i=c at hc
         omega
        rw[e,Yg ((i:Int)+1) (by omega),MN,MM hx,Yay R hin,Yax,hX]
        simp only[Yf]
        refine⟨⟨by omega,by simp⟩,⟨by omega,by omega⟩,fun q hq=>?_⟩
        rcases Ww q i with h'|h'|h'
        ·rw[if_neg (by omega),if_pos h',if_pos (by omega)];simp only[leL,le,and_self]
        ·subst h';rw[if_pos rfl,if_pos (by omega)];simp only[leL,le,and_self]
        ·rw[if_neg (by omega),if_neg (by omega),if_neg (by omega)];simp only[leL,le,and_self]
       ·obtain rfl:i=N:=by omega
        rw[hX]
        refine Loop.keepP 0 [0,2] Nat (fun t=>[(0,.own 0 0 (i+t) 1),(3,.int .i64 ((X/32768^(i+t):Nat):Int))]) (fun t=>[(0,.own false 1 (i+t) (fun k=>[.int .i64 (dig X k)]))]) [] (fun t=>t<=4) (fun t=>4-t) ?_ ?_
        ·refine⟨0,by omega,?_⟩
         (try dsimp only[go_sem,reduceIte,Ya])
         simp only[Yf]
         refine⟨⟨⟨by omega,by omega⟩,by simp⟩,by omega,fun q hq=>by rw[if_pos hq]⟩
        ·rintro t ht
         (try dsimp only[Yj,go_sem,reduceIte,Ya])
         (try simp only[Yd,Ya,Ye,reduceCtorEq,Yc])
         refine⟨fun hlt=>?_,fun hge=>?_⟩
         ·have ht4:t<4:=by
           rcases YY t 4 with h'|h'
           ·exact h'
           ·obtain rfl:t=4:=by omega
            rw[QN hXN]at hlt;exact absurd hlt (by decide)
          have hc:=Af R 35184372088832 i hQ
          rw[hX]at hc
          generalize hc0:X/32768^i=c0 at hc
          have hc2:X/32768^(i+t)<=c0:=by
           rw[<-hc0];rw[Yo,<-K8];exact XD _ _
          have hx:X/32768^(i+t)<=9223372036854775807:=Yh hc2 (by omega)
          rw[MN,MM hx,K8,<-Jr]
          (try dsimp only[go_sem,reduceIte,Ya])
          (try simp only[Yd,Ya,Ye,reduceCtorEq,Yc])
          refine⟨by decide,by decide,⟨by unfold Y8;omega,fun j hj=>?_⟩,by decide,t+1,by omega,by omega,?_⟩
          ·match j,hj with
           |0,_=>exact⟨rfl,trivial,trivial⟩
          ·simp only[Yf]
           refine⟨⟨⟨by omega,by omega⟩,by rw[Zk]⟩,rfl,by omega,fun q hq=>?_⟩
           rcases YY q (i+t)with h'|h'
           ·rw[if_pos h'];simp only[leL,le,and_self]
           ·obtain rfl:q=i+t:=by omega
            rw[if_neg (ZA _),Nat.sub_self]
            simp only[YU,YP,YF,leL,JP,Wi,Ku,cond,le,dig,and_self]
         ·have hXT:X<32768^(i+t):=by
           rcases YY X (32768^(i+t))with h'|h'
           ·exact h'
           ·have:=Nat.div_pos h' (Kk (i+t))
            generalize X/32768^(i+t)=c at*
            omega
          have hT:i+t<=90004:=by omega
          generalize i+t=M at hXT hT⊢
          (try dsimp only[Q1,Yk,GT,Yj,go_sem,reduceIte,Ya])
          (try simp only[Yd,Ya,Ye,reduceCtorEq,Yc])
          refine Loop.keep [0] Nat (fun j=>[(0,.own 0 0 j 1)]) (fun _=>[(0,.own false 1 M (fun k=>[.int .i64 (dig X k)]))]) [] (fun j=>j<=M/\X<32768^j) (fun j=>j) ?_ ?_
          ·refine⟨M,⟨Yt _,hXT⟩,?_⟩
           (try dsimp only[go_sem,reduceIte,Ya])
           simp only[Yf]
           exact⟨by omega,by omega,by omega⟩
          ·rintro j ⟨hj,haj⟩
           (try dsimp only[Yj,go_sem,reduceIte,Ya])
           (try simp only[Yd,Ya,Ye,reduceCtorEq,Yc])
           refine⟨fun hlt=>?_,fun hlt=>?_,fun hb=>?_,fun hb=>?_⟩
           ·rw[Y9 (by omega) (by omega)];omega
           ·rw[Y9 (by omega) (by omega)];omega
           ·rw[YS,decide_eq_true_eq,decide_eq_true_eq]at hb
            obtain⟨h1,h2⟩:=hb
            rw[Y9 (by omega) (by omega),Yj]at h2
            refine⟨by rw[Y9 (by omega) (by omega)];omega,j-1,⟨by omega,?_⟩,by omega,?_⟩
            ·obtain⟨m,rfl⟩:∃m,j=m+1:=⟨j-1,by omega⟩
             exact Vq haj (by simp at h2;exact_mod_cast h2)
            ·rw[Y9 (by omega) (by omega)]
             simp only[Yf] <;> simp [leL,le]
           ·have e:nl X=j:=by
             refine W6 haj ?_
             rw[Wn,decide_eq_false_iff_not,decide_eq_false_iff_not]at hb
             rcases Jc j with h0|h0
             ·exact .inl h0
             ·refine .inr fun hh=>hb.elim (fun h=>h (by omega)) fun h=>h ?_
              rw[Y9 h0 (by omega),Yj,hh];rfl
            subst e
            exact WK h rfl rfl rfl fun j hj=>rfl
 ·exact h.1.elim
def mulC:Ctr:={ alias:=false,of:=fun l=>match l with
 | [.vs _ _ n sz get,.vs _ _ m sz' get']=> .ex Nat fun a=> .ex Nat fun b=> .pre (K9 a n sz get/\K9 b m sz' get'/\n<=40000/\m<=40000) (.fin (Yv false (a*b)) [])
 |_=>noC}
theorem YjY{a b i k V:Nat}(h:V=(a%32768^i)*b+dig a i*(b%32768^k)*32768^i):
 V+dig a i*dig b k*32768^(i+k)=(a%32768^i)*b+dig a i*(b%32768^(k+1))*32768^i:=by
 rw[h,Xx b k,Yo]
 generalize 32768^i=P
 generalize 32768^k=Q
 grind
theorem YjZ{a b i m:Nat}(hb:b<32768^m):(a%32768^i)*b+dig a i*(b%32768^m)*32768^i=(a%32768^(i+1))*b:=by
 rw[Xx a i,QB hb]
 generalize 32768^i=P
 grind
theorem Ygi(a b:Nat):∃W,W<1073741824/\∀i k,dig a i*dig b k<=W:=by
 obtain⟨U,hU⟩:∃U,U=32767:=⟨_,rfl⟩
 refine⟨U*U,by subst hU;decide,fun i k=>YX ?_ ?_⟩
 ·have:=QH a i;omega
 ·have:=QH b k;omega
theorem Ya0:mulC.ok Yb 94:=by
 refine Yy Tryz.func94 YqO RC 300 mulC fun args k h=>?_
 simp only[mulC]at h
 split at h
 ·rename_i t1 z1 n sz get t2 z2 m sz' get'
  obtain⟨a,b,⟨⟨rfl,hn,ha,hg⟩,⟨rfl,hm,hb,hg'⟩,hn9,hm9⟩,h⟩:=h
  refine⟨[.vs t1 z1 n 1 (fun k=>[.int .i64 (dig a k)]),.vs t2 z2 m 1 (fun k=>[.int .i64 (dig b k)])],⟨by simpa [le]using hg,by simpa [le]using hg',trivial⟩,?_⟩
  (try dsimp only[v94,go_sem,reduceIte,Ya])
  (try simp only[Yd,Ya,Ye,reduceCtorEq,Yc])
  obtain⟨W,hW,hWl⟩:=Ygi a b
  have en:IntKind.i64.wrap ((n:Int)+(m:Int))=((n+m:Nat):Int):=by rw[Yg _ (by omega)];omega
  rw[en]
  simp only[Yj]
  refine⟨⟨by decide,by omega,by unfold Y8;omega⟩,?_⟩
  refine Loop.keep [0,0,3] (Nat×(Nat->Nat)) (fun x=>[(6,.int .i64 x.1)]) (fun x=>[(0,.own false 1 (n+m) (fun k=>[.int .i64 (x.2 k)]))]) [] (fun x=>x.1<=n/\pre x.2 (n+m)=(a%32768^x.1)*b/\∀q,x.2 q<=x.1*W) (fun x=>n-x.1) ?_ ?_
  ·refine⟨(0,fun _=>0),⟨JJ _,?_,fun q=>JJ _⟩,?_⟩
   ·have:∀N,pre (fun _=>0) N=0:=fun N=>by
     induction N with
     |zero=>rfl
     |succ N ih=>show pre (fun _=>0) N+0*32768^N=0;rw[ih,JP]
    rw[this];simp [Nat.mod_one]
   ·(try dsimp only[go_sem,reduceIte,Ya])
    simp only[Yf]
    simp [leL,le]
  ·rintro⟨i,R⟩ ⟨hi,hR,hRb⟩
   dsimp only at hi hR hRb
   (try dsimp only[Yj,go_sem,reduceIte,Ya])
   (try simp only[Yd,Ya,Ye,reduceCtorEq,Yc])
   refine⟨fun hlt=>?_,fun hge=>?_⟩
   ·refine Loop.keep [0,0,3,0] (Nat×(Nat->Nat)) (fun x=>[(7,.int .i64 x.1)]) (fun x=>[(0,.own false 1 (n+m) (fun k=>[.int .i64 (x.2 k)]))]) [] (fun x=>x.1<=m/\pre x.2 (n+m)=(a%32768^i)*b+dig a i*(b%32768^x.1)*32768^i/\∀q,x.2 q<=(if q<i+x.1 then i+1 else i)*W) (fun x=>m-x.1) ?_ ?_
    ·refine⟨(0,R),⟨JJ _,by simp [hR,Nat.mod_one],fun q=>?_⟩,?_⟩
     ·have:=hRb q
      dsimp only
      split
      ·exact Yh this (Yp _ (Nat.le_succ _))
      ·exact this
     ·(try dsimp only[go_sem,reduceIte,Ya])
      simp only[Yf]
      simp [leL,le]
    ·rintro⟨j,S⟩ ⟨hj,hS,hSb⟩
     dsimp only at hj hS hSb
     (try dsimp only[Yj,go_sem,reduceIte,Ya])
     (try simp only[Yd,Ya,Ye,reduceCtorEq,Yc])
     refine⟨fun hlt2=>?_,fun hge2=>?_⟩
     ·have w:IntKind.i64.wrap ((i:Int)+(j:Int))=((i+j:Nat):Int):=by rw[Yg _ (by omega)];omega
      have hp:=hWl i j
      have hiW:i*W<=40000*1073741824:=YX (by omega) (by omega)
      have hs:=hSb (i+j)
      rw[if_neg (ZA _)]at hs
      have e:IntKind.i64.wrap ((S (i+j):Int)+IntKind.i64.wrap ((dig a i:Int)*(dig b j:Int)))=((S (i+j)+dig a i*dig b j:Nat):Int):=by
       rw[<-Qr]
       generalize dig a i*dig b j=p at hp⊢
       generalize i*W=v at hs hiW
       rw[Yg (p:Int) (by omega),Yg _ (by omega)];omega
      rw[w]
      simp only[Yj]
      refine⟨⟨by omega,by omega⟩,by omega,⟨by omega,by omega⟩,⟨by omega,by omega⟩,⟨by omega,by omega⟩,by omega,(j+1,fun q=>if q=i+j then S q+dig a i*dig b j else S q),⟨by dsimp only;omega,?_,fun q=>?_⟩,by dsimp only;omega,?_⟩
      ·dsimp only
       rw[YaC S (i+j) (dig a i*dig b j) (n+m) (by omega)]
       exact YjY hS
      ·dsimp only
       have hq:=hSb q
       rcases Ww q (i+j)with h'|h'|h'
       ·rw[if_pos h']at hq
        rw[if_neg (by omega),if_pos (by omega)];exact hq
       ·subst h'
        rw[if_pos rfl,if_pos (by omega),XT]
        exact Nat.add_le_add hs hp
       ·rw[if_neg (by omega)]at hq
        rw[if_neg (by omega),if_neg (by omega)];exact hq
      ·rw[e,Yg ((j:Int)+1) (by omega)]
       simp only[Yf]
       refine⟨⟨by omega,by omega⟩,fun q hq=>?_⟩
       rcases Ww q (i+j)with h'|h'|h'
       ·rw[if_neg (by omega),if_neg (by omega)];simp only[leL,le,and_self]
       ·subst h';rw[if_pos rfl,if_pos rfl];simp only[leL,le,and_self]
       ·rw[if_neg (by omega),if_neg (by omega)];simp only[leL,le,and_self]
     ·obtain rfl:j=m:=by omega
      refine⟨(i+1,S),⟨by dsimp only;omega,?_,fun q=>?_⟩,by dsimp only;omega,?_⟩
      ·dsimp only
       rw[hS];exact YjZ hb
      ·have:=hSb q
       dsimp only
       split at this
       ·exact this
       ·exact Yh this (Yp _ (Nat.le_succ _))
      ·rw[Yg ((i:Int)+1) (by omega)]
       simp only[Yf]
       exact⟨by omega,by omega⟩
   ·obtain rfl:i=n:=by omega
    have hX:pre R (i+m)=a*b:=by rw[hR,QB ha]
    have hQ:∀q,q<i+m->R q<=32767*35184372088832:=fun q _=>by
     have:=hRb q
     have hiW:i*W<=40000*1073741824:=YX (by omega) (by omega)
     omega
    have hN:i+m<=90000:=by omega
    generalize i+m=N at hX hQ hN⊢
    generalize a*b=X at hX h
    have hXN:X<32768^(N+4):=hX▸YaA R 35184372088832 N (by decide) hQ
    (try dsimp only[Q1,Yk,Cc,Yj,go_sem,reduceIte,Ya])
    (try simp only[Yd,Ya,Ye,reduceCtorEq,Yc])
    refine Loop.keep [0,2,0] Nat (fun i=>[(3,.int .i64 ((pre R i/32768^i:Nat):Int)),(4,.int .i64 i)]) (fun i=>[(0,.own false 1 N (fun k=>[.int .i64 ((if k<i then dig X k else R k:Nat):Int)]))]) [] (fun i=>i<=N) (fun i=>N-i) ?_ ?_
    ·refine⟨0,by omega,?_⟩
     (try dsimp only[go_sem,reduceIte,Ya])
     simp only[Yf]
     simp [pre]
    ·rintro i hi
     (try dsimp only[Yj,go_sem,reduceIte,Ya])
     (try simp only[Yd,Ya,Ye,reduceCtorEq,Yc])
     refine⟨fun hlt=>?_,fun hge=>?_⟩
     ·have hin:i<N:=by omega
      refine⟨⟨by omega,by omega⟩,hin,by decide,⟨by omega,by omega⟩,hin,by decide,i+1,by omega,by omega,?_⟩
      have hc:=Af R 35184372088832 i fun q hq=>hQ q (by omega)
      have hr:=hQ i hin
      have e:IntKind.i64.wrap (((pre R i/32768^i:Nat):Int)+((if i<i then dig X i else R i:Nat):Int))=((R i+pre R i/32768^i:Nat):Int):=by
       rw[if_neg (ZA _)]
       generalize pre R i/32768^i=c at hc
       generalize R i=r at hr
       rw[Yg _ (by omega)];omega
      have hx:R i+pre R i/32768^i<=9223372036854775807:=by
       generalize pre R i/32768^i=c at hc
       omega
      rw[e,Yg ((i:Int)+1) (by omega),MN,MM hx,Yay R hin,Yax,hX]
      simp only[Yf]
      refine⟨⟨by omega,by simp⟩,⟨by omega,by omega⟩,fun q hq=>?_⟩
      rcases Ww q i with h'|h'|h'
      ·rw[if_neg (by omega),if_pos h',if_pos (by omega)];simp only[leL,le,and_self]
      ·subst h';rw[if_pos rfl,if_pos (by omega)];simp only[leL,le,and_self]
      ·rw[if_neg (by omega),if_neg (by omega),if_neg (by omega)];simp only[leL,le,and_self]
     ·obtain rfl:i=N:=by omega
      rw[hX]
      refine Loop.keepP 0 [0,2] Nat (fun t=>[(0,.own 0 0 (i+t) 1),(3,.int .i64 ((X/32768^(i+t):Nat):Int))]) (fun t=>[(0,.own false 1 (i+t) (fun k=>[.int .i64 (dig X k)]))]) [] (fun t=>t<=4) (fun t=>4-t) ?_ ?_
      ·refine⟨0,by omega,?_⟩
       (try dsimp only[go_sem,reduceIte,Ya])
       simp only[Yf]
       refine⟨⟨⟨by omega,by omega⟩,by simp⟩,by omega,fun q hq=>by rw[if_pos hq]⟩
      ·rintro t ht
       (try dsimp only[Yj,go_sem,reduceIte,Ya])
       (try simp only[Yd,Ya,Ye,reduceCtorEq,Yc])
       refine⟨fun hlt=>?_,fun hge=>?_⟩
       ·have ht4:t<4:=by
         rcases YY t 4 with h'|h'
         ·exact h'
         ·obtain rfl:t=4:=by omega
          rw[QN hXN]at hlt;exact absurd hlt (by decide)
        have hc:=Af R 35184372088832 i hQ
        rw[hX]at hc
        generalize hc0:X/32768^i=c0 at hc
        have hc2:X/32768^(i+t)<=c0:=by
         rw[<-hc0];rw[Yo,<-K8];exact XD _ _
        have hx:X/32768^(i+t)<=9223372036854775807:=Yh hc2 (by omega)
        rw[MN,MM hx,K8,<-Jr]
        (try dsimp only[go_sem,reduceIte,Ya])
        (try simp only[Yd,Ya,Ye,reduceCtorEq,Yc])
        refine⟨by decide,by decide,⟨by unfold Y8;omega,fun j hj=>?_⟩,by decide,t+1,by omega,by omega,?_⟩
        ·match j,hj with
         |0,_=>exact⟨rfl,trivial,trivial⟩
        ·simp only[Yf]
         refine⟨⟨⟨by omega,by omega⟩,by rw[Zk]⟩,rfl,by omega,fun q hq=>?_⟩
         rcases YY q (i+t)with h'|h'
         ·rw[if_pos h'];simp only[leL,le,and_self]
         ·obtain rfl:q=i+t:=by omega
          rw[if_neg (ZA _),Nat.sub_self]
          simp only[YU,YP,YF,leL,JP,Wi,Ku,cond,le,dig,and_self]
       ·have hXT:X<32768^(i+t):=by
         rcases YY X (32768^(i+t))with h'|h'
         ·exact h'
         ·have:=Nat.div_pos h' (Kk (i+t))
          generalize X/32768^(i+t)=c at*
          omega
        have hT:i+t<=90004:=by omega
        generalize i+t=M at hXT hT⊢
        (try dsimp only[Q1,Yk,GT,Yj,go_sem,reduceIte,Ya])
        (try simp only[Yd,Ya,Ye,reduceCtorEq,Yc])
        refine Loop.keep [0] Nat (fun j=>[(0,.own 0 0 j 1)]) (fun _=>[(0,.own false 1 M (fun k=>[.int .i64 (dig X k)]))]) [] (fun j=>j<=M/\X<32768^j) (fun j=>j) ?_ ?_
        ·refine⟨M,⟨Yt _,hXT⟩,?_⟩
         (try dsimp only[go_sem,reduceIte,Ya])
         simp only[Yf]
         exact⟨by omega,by omega,by omega⟩
        ·rintro j ⟨hj,haj⟩
         (try dsimp only[Yj,go_sem,reduceIte,Ya])
         (try simp only[Yd,Ya,Ye,reduceCtorEq,Yc])
         refine⟨fun hlt=>?_,fun hlt=>?_,fun hb=>?_,fun hb=>?_⟩
         ·rw[Y9 (by omega) (by omega)];omega
         ·rw[Y9 (by omega) (by omega)];omega
         ·rw[YS,decide_eq_true_eq,decide_eq_true_eq]at hb
          obtain⟨h1,h2⟩:=hb
          rw[Y9 (by omega) (by omega),Yj]at h2
          refine⟨by rw[Y9 (by omega) (by omega)];omega,j-1,⟨by omega,?_⟩,by omega,?_⟩
          ·obtain⟨m,rfl⟩:∃m,j=m+1:=⟨j-1,by omega⟩
           exact Vq haj (by simp at h2;exact_mod_cast h2)
          ·rw[Y9 (by omega) (by omega)]
           simp only[Yf] <;> simp [leL,le]
         ·have e:nl X=j:=by
           refine W6 haj ?_
           rw[Wn,decide_eq_false_iff_not,decide_eq_false_iff_not]at hb
           rcases Jc j with h0|h0
           ·exact .inl h0
           ·refine .inr fun hh=>hb.elim (fun h=>h (by omega)) fun h=>h ?_
            rw[Y9 h0 (by omega),Yj,hh];rfl
          subst e
          exact WK h rfl rfl rfl fun j hj=>rfl
 ·exact h.1.elim
def v96:VF:=⟨19,[.tmp 4],(ZR [u1 4 .mov [.cn .nil]] (ZR [Zm 6 1,u1 7 .quo [.tm 6,.cn (.int .i64 15)],u1 8 (.make 1 8 [(.int .i64 0)]) [.tm 7,.tm 7],Zm 5 8] (ZR [Zm 9 5,Zm 10 0,Zm 11 1,u1 12 .rem [.tm 11,.cn (.int .i64 15)],u1 13 (.conv .u64) [.tm 12],u1 14 .shl [.cn (.int .i64 1),.tm 13],Zc 15 93 14,Zd 16 94 10 15,u1 17 (.append 1 8 [(.int .i64 0)]) [.tm 9,.tm 16],Zc 18 134 17,Zm 4 18] .ret)))⟩
theorem YqQ:Yn Yb Tryz.f96=some v96:=by kernel_rfl
def YcZ:VF:={ ntmps:=40,res:=[.tmp 6],body:=
 (ZR [u1 6 .mov [.cn .nil]]
 (ZR [Zm 11 0,
 Zm 12 0,
 Zd 13 94 11 12,
 Zm 7 13]
 (ZR [Zm 14 1,
 u1 15 .quo [.tm 14,.cn (.int .i64 15)],
 Zm 16 7,
 Zl 17 16,
 u1 18 .min [.tm 15,.tm 17],
 Zm 8 18]
 (ZR [u1 19 (.buildSlice 1 0 [(.int .i64 0)] []) [],
 Zm 20 7,
 Zm 21 8,
 u1 22 (.slice 1 false true) [.tm 20,.tm 21],
 u1 23 (.append 1 8 [(.int .i64 0)]) [.tm 19,.tm 22],
 Zc 24 134 23,
 Zm 9 24]
 (ZR [u1 25 (.buildSlice 1 0 [(.int .i64 0)] []) [],
 Zm 26 7,
 Zm 27 8,
 u1 28 (.slice 1 true false) [.tm 26,.tm 27],
 u1 29 (.append 1 8 [(.int .i64 0)]) [.tm 25,.tm 28],
 Zm 10 29]
 (.seq (ZR [Zm 30 2,
 Zm 31 30,
 Zg 32 31 true 9,
 u2 33 31 true .len [.tm 32],
 u2 34 31 true (.cmp .gtr) [.tm 33,.cn (.int .i64 0)],
 u1 35 .and [.tm 31,.tm 34]]
 (ZC 35 (.region [Zm 36 10,
 u1 37 (.call 93) [.cn (.int .i64 1)],
 Zd 38 86 36 37,
 Zm 10 38])
  .skip))
 (ZR [Zm 39 10,
 Zm 6 39]
 .ret)))))))}
theorem Ypg:Yn Yb Tryz.f132=some YcZ:=by kernel_rfl
def Yc0:VF:={ ntmps:=38,res:=[.tmp 4],body:=
 (ZR [u1 4 .mov [.cn .nil]]
 (.seq (ZR [Zm 8 1]
 (ZC 8 (.region [Zm 9 0,
 u1 10 (.call 93) [.cn (.int .i64 1)],
 Zd 11 86 9 10,
 Zm 0 11])
  .skip))
 (ZR [Zm 12 0,
 Zl 13 12,
 u1 14 (.make 1 8 [(.int .i64 0)]) [.tm 13,.tm 13],
 Zm 5 14]
 (ZR [Zi 6 0]
 (.seq (ZR [Zm 15 0,
 Zl 16 15,
 u1 17 (.ari .sub) [.tm 16,.cn (.int .i64 1)],
 Zm 7 17]
 (.block 0 (.loop (.seq (ZR [Zm 18 7,
 Zq 19 .geq 18 0]
 (ZC 19 .skip
  (.exit 0)))
 (.seq (.block 1 (ZR [Zm 22 6,
 u1 23 (.ari .mul) [.cn (.int .i64 32768),.tm 22],
 Zm 24 0,
 Zm 25 7,
 Zx 26 1 24 25,
 Zf 27 1 26,
 Zo 28 .add 23 27,
 Zm 6 28]
 (ZR [Zm 29 5,
 Zm 30 7,
 Zm 31 6,
 u1 32 .quo [.tm 31,.cn (.int .i64 2)],
 Zx 33 1 29 30,
 Zs 1 33 32]
 (.region [Zm 34 6,
 u1 35 .rem [.tm 34,.cn (.int .i64 2)],
 Zm 6 35]))))
 (.region [Zm 20 7,
 u1 21 (.ari .sub) [.tm 20,.cn (.int .i64 1)],
 Zm 7 21]))))))
 (ZR [Zm 36 5,
 Zc 37 134 36,
 Zm 4 37]
 .ret))))))}
theorem Yph:Yn Yb Tryz.f133=some Yc0:=by kernel_rfl
theorem Ygk(y s k:Nat):dig (y*32768^s) k=if k<s then 0 else dig y (k-s):=by
 unfold dig
 split
 ·rename_i h
  obtain⟨d,rfl⟩:∃d,s=k+(d+1):=⟨s-k-1,by omega⟩
  rw[Yo,<-YA,Vh,Nat.mul_div_cancel _ (Kk k),Jr,<-YA,Nat.mul_mod_left]
 ·rename_i h
  obtain⟨d,rfl⟩:∃d,k=s+d:=⟨k-s,by omega⟩
  rw[Yo,<-K8,Nat.mul_div_cancel _ (Kk s),Nat.add_sub_cancel_left]
theorem YbY(a n:Nat):a*2^(n%15)*32768^(n/15)=a*2^n:=by
 have:(32768:Nat)=2^15:=by decide
 rw[this,<-Ym,YA,<-Yo,Nat.mod_add_div]
def shiftC:Ctr:={ alias:=false,of:=fun l=>match l with
 | [.vs _ _ n sz get,.int .i64 q]=> .ex Nat fun a=> .pre (K9 a n sz get/\n<=30000/\0<=q/\q<=300000) (.fin (Yv false (a*2^q.toNat)) [])
 |_=>noC}
def Q2:Env:=mkE [(93,limbsC),(94,mulC),(86,addC)] [(134,GT)]
theorem Ct:YD Yb Q2:=eo (by kernel_rfl) ⟨⟨Aw,_,Tryz.func93,rfl,rfl⟩,⟨Ya0,_,Tryz.func94,rfl,rfl⟩,⟨Nt,_,Tryz.func86,rfl,rfl⟩,trivial⟩ ⟨⟨_,Tryz.func134,Yc1,_,Tryz.func134,rfl,rfl⟩,trivial⟩
theorem Ya1:shiftC.ok Yb 96:=by
 refine Yy Tryz.func96 YqQ Ct 300 shiftC fun args k h=>?_
 simp only[shiftC]at h
 split at h
 ·rename_i t1 z1 n sz get q
  obtain⟨a,⟨⟨rfl,hn,ha,hg⟩,hn9,h0,h1⟩,h⟩:=h
  obtain⟨q,rfl⟩:=Un h0
  rw[Yj]at h
  refine⟨[.vs t1 z1 n 1 (fun k=>[.int .i64 (dig a k)]),.int .i64 q],⟨by simpa [le]using hg,⟨rfl,rfl⟩,trivial⟩,?_⟩
  (try dsimp only[v96,Q2,Yk,limbsC,mulC,Yv,Yj,go_sem,reduceIte,Ya])
  (try simp only[Yd,Ya,Ye,reduceCtorEq,Yc])
  have w1:IntKind.i64.wrap ((q:Int).tdiv 15)=((q/15:Nat):Int):=by
   have:(q:Int).tdiv 15=((q/15:Nat):Int):=Wq (y:=15) rfl rfl
   rw[this,Yg _ (by omega)]
  have w2:IntKind.u64.wrap ((q:Int).tmod 15)=((q%15:Nat):Int):=by
   have:(q:Int).tmod 15=((q%15:Nat):Int):=VI (y:=15) rfl rfl
   rw[this,Wp _ (by omega)]
  have hp:2^(q%15)<32768:=Qt (Nat.pow_lt_pow_right (by decide) (Kj _ (by decide)):2^(q%15)<2^15) (by decide)
  have w3:IntKind.i64.wrap (1*2^min (q%15) 64)=((2^(q%15):Nat):Int):=by
   have e4:min (q%15) 64=q%15:=by omega
   have e5:(1:Int)*2^(q%15)=((2^(q%15):Nat):Int):=by simp
   rw[e4,e5]
   generalize 2^(q%15)=P at hp⊢
   exact Yg _ (by omega)
  have hp2:(0:Int)<=((2^(q%15):Nat):Int)/\((2^(q%15):Nat):Int)<=9223372036854775807:=by
   generalize 2^(q%15)=P at hp⊢
   omega
  rw[w1,w2]
  simp only[Yj]
  simp only[w3,Yj]
  have hl1:nl (2^(q%15))<=1:=nl_le.2 (by simpa using hp)
  have hX:a*2^(q%15)<32768^(n+1):=by
   rw[Jr];exact Nat.mul_lt_mul'' ha hp
  have hl2:=nl_le.2 hX
  refine⟨by decide,⟨by decide,by omega,by omega,by unfold Y8;omega⟩,by decide,by omega,hp2,a,2^(q%15),⟨Hs hn ha,YO (by omega),by omega,by omega⟩,by unfold Y8;omega,?_⟩
  have eR:(fun k=>if k<q/15 then [SV.int .i64 0]else [SV.int .i64 ((dig (a*2^(q%15)) (k-q/15):Nat):Int)])=fun k=>[SV.int .i64 ((dig (a*2^q) k:Nat):Int)]:=by
   funext k
   rw[<-YbY a q,Ygk]
   split
   ·rfl
   ·rfl
  rw[eR,Bool.false_and]
  have hT:q/15+nl (a*2^(q%15))<=90004:=by omega
  have hXT:a*2^q<32768^(q/15+nl (a*2^(q%15))):=by
   rw[<-YbY a q,Nat.add_comm,Yo]
   exact ZB (Xy _) (Kk _)
  generalize q/15+nl (a*2^(q%15))=M at hXT hT⊢
  generalize a*2^q=X at hXT h⊢
  (try dsimp only[Q2,Yk,GT,Yj,go_sem,reduceIte,Ya])
  (try simp only[Yd,Ya,Ye,reduceCtorEq,Yc])
  refine Loop.keep [0] Nat (fun j=>[(0,.own 0 0 j 1)]) (fun _=>[(0,.own false 1 M (fun k=>[.int .i64 (dig X k)]))]) [] (fun j=>j<=M/\X<32768^j) (fun j=>j) ?_ ?_
  ·refine⟨M,⟨Yt _,hXT⟩,?_⟩
   (try dsimp only[go_sem,reduceIte,Ya])
   simp only[Yf]
   omega
  ·rintro j ⟨hj,haj⟩
   (try dsimp only[Yj,go_sem,reduceIte,Ya])
   (try simp only[Yd,Ya,Ye,reduceCtorEq,Yc])
   refine⟨fun hlt=>?_,fun hlt=>?_,fun hb=>?_,fun hb=>?_⟩
   ·rw[Y9 (by omega) (by omega)];omega
   ·rw[Y9 (by omega) (by omega)];omega
   ·rw[YS,decide_eq_true_eq,decide_eq_true_eq]at hb
    obtain⟨h1,h2⟩:=hb
    rw[Y9 (by omega) (by omega),Yj]at h2
    refine⟨by rw[Y9 (by omega) (by omega)];omega,j-1,⟨by omega,?_⟩,by omega,?_⟩
    ·obtain⟨m,rfl⟩:∃m,j=m+1:=⟨j-1,by omega⟩
     exact Vq haj (by simp at h2;exact_mod_cast h2)
    ·rw[Y9 (by omega) (by omega)]
     simp only[Yf] <;> simp [leL,le]
   ·have e:nl X=j:=by
     refine W6 haj ?_
     rw[Wn,decide_eq_false_iff_not,decide_eq_false_iff_not]at hb
     rcases Jc j with h0|h0
     ·exact .inl h0
     ·refine .inr fun hh=>hb.elim (fun h=>h (by omega)) fun h=>h ?_
      rw[Y9 h0 (by omega),Yj,hh];rfl
    subst e
    exact WK h rfl rfl rfl fun j hj=>rfl
 ·exact h.1.elim
def halveC:Ctr:={ alias:=false,of:=fun l=>match l with
 | [.vs _ _ n sz get,.bool up]=> .ex Nat fun a=> .pre (K9 a n sz get/\n<=40000) (.fin (Yv false ((a+(if up then 1 else 0))/2)) [])
 |_=>noC}
theorem Yhy(a i:Nat):(32768*(a/32768^(i+1)%2)+dig a i)%2=a/32768^i%2:=by
 unfold dig;rw[Jr,<-K8]
 generalize a/32768^i=y
 omega
theorem Yhz(a i:Nat):(32768*(a/32768^(i+1)%2)+dig a i)/2=dig (a/2) i:=by
 unfold dig;rw[Jr,<-K8,K8 a 2,Yl 2,<-K8 a]
 generalize a/32768^i=y
 omega
theorem YlD:halveC.ok Yb 133:=by
 refine Yy Tryz.func133 Yph Ct 300 halveC fun args k h=>?_
 simp only[halveC]at h
 split at h
 ·rename_i t1 z1 n sz get up
  obtain⟨a,⟨⟨rfl,hn,ha,hg⟩,hn9⟩,h⟩:=h
  refine⟨[.vs t1 z1 n 1 (fun k=>[.int .i64 (dig a k)]),.bool up],⟨by simpa [le]using hg,rfl,trivial⟩,?_⟩
  (try dsimp only[Yc0,Q2,Yk,limbsC,addC,Yv,Yj,go_sem,reduceIte,Ya])
  (try simp only[Yd,Ya,Ye,reduceCtorEq,Yc])
  refine⟨fun hup=>⟨⟨by decide,by decide⟩,a,1,⟨Hs hn ha,YO (by decide),by omega,by decide⟩,?_⟩,fun hup=>⟨?_,?_⟩⟩
  all_goals subst hup
  all_goals first
   |exact⟨by decide,by omega,by omega,by unfold Y8;omega⟩
   | (have hl:nl (a+1)<=n+1:=nl_le.2 (by rw[Jr];omega)
      refine⟨⟨by decide,by omega,by omega,by unfold Y8;omega⟩,?_⟩
      have hY:=Xy (a+1)
      have hL:nl (a+1)<=40001:=by omega
      have h:CSat (CRes.fin (Yv false ((a+1)/2)) []) k:=h
      generalize nl (a+1)=L at hY hL⊢
      generalize a+1=Y at hY h⊢)
   | (have hY:=ha
      have hL:n<=40001:=by omega
      have h:CSat (CRes.fin (Yv false (a/2)) []) k:=h
      generalize n=L at hY hL⊢
      generalize a=Y at hY h⊢)
  all_goals
   refine Loop.keep [0,4] Nat (fun j=>[(6,.int .i64 ((Y/32768^j%2:Nat):Int)),(7,.int .i64 ((j:Int)-1))]) (fun j=>[(0,.own false 1 L (fun k=>[.int .i64 ((if j<=k then dig (Y/2) k else 0:Nat):Int)]))]) [] (fun j=>j<=L) (fun j=>j) ?_ ?_
   ·refine⟨L,Yt _,?_⟩
    (try dsimp only[go_sem,reduceIte,Ya])
    simp only[Yf]
    rw[QN hY,Yg _ (by omega)]
    refine⟨⟨by omega,by simp,rfl⟩,fun q hq=>?_⟩
    rw[if_neg (by omega)];rfl
   ·rintro j hj
    (try dsimp only[Yj,go_sem,reduceIte,Ya])
    (try simp only[Yd,Ya,Ye,reduceCtorEq,Yc])
    refine⟨fun hlt=>?_,fun hge=>?_⟩
    ·obtain⟨i,rfl⟩:∃i,j=i+1:=⟨j-1,by omega⟩
     have e0:((i+1:Nat):Int)-1=i:=by omega
     rw[e0]
     simp only[Yj]
     refine⟨⟨by omega,by omega⟩,by decide,⟨by omega,by omega⟩,by omega,by decide,i,by omega,by omega,?_⟩
     have h1:=Yhy Y i
     have h2:=Yhz Y i
     have h3:=QH Y i
     have h4:Y/32768^(i+1)%2<2:=Kj _ (by decide)
     generalize Y/32768^(i+1)%2=c at h1 h2 h4⊢
     have e1:IntKind.i64.wrap (IntKind.i64.wrap (32768*(c:Int))+((dig Y i:Nat):Int))=((32768*c+dig Y i:Nat):Int):=by
      rw[Yg (32768*(c:Int)) (by omega),Yg _ (by omega)];omega
     have e2:((32768*c+dig Y i:Nat):Int).tmod 2=((Y/32768^i%2:Nat):Int):=by
      rw[<-h1];exact VI (y:=2) rfl rfl
     have e3:IntKind.i64.wrap (((32768*c+dig Y i:Nat):Int).tdiv 2)=((dig (Y/2) i:Nat):Int):=by
      rw[<-h2]
      have:((32768*c+dig Y i:Nat):Int).tdiv 2=(((32768*c+dig Y i)/2:Nat):Int):=Wq (y:=2) rfl rfl
      rw[this,Yg _ (by omega)]
     rw[e1,e2,e3,Yg ((i:Int)-1) (by omega)]
     simp only[Yf]
     refine⟨by omega,fun q hq=>?_⟩
     rcases Ww q i with h'|h'|h'
     ·rw[if_neg (by omega),if_neg (by omega),if_neg (by omega)];simp only[leL,le,and_self]
     ·subst h';rw[if_pos rfl,if_pos (by omega)];simp only[leL,le,and_self]
     ·rw[if_neg (by omega),if_pos (by omega),if_pos (by omega)];simp only[leL,le,and_self]
    ·obtain rfl:j=0:=by omega
     have eR:(fun k=>[SV.int .i64 ((if 0<=k then dig (Y/2) k else 0:Nat):Int)])=fun k=>[SV.int .i64 ((dig (Y/2) k:Nat):Int)]:=by
      funext k;rw[if_pos (JJ _)]
     rw[eR]
     have hXT:Y/2<32768^L:=JC (XD _ _) hY
     have hT:L<=90004:=by omega
     generalize Y/2=X at hXT h⊢
     generalize L=M at hXT hT⊢
     (try dsimp only[Q2,Yk,GT,Yj,go_sem,reduceIte,Ya])
     (try simp only[Yd,Ya,Ye,reduceCtorEq,Yc])
     refine Loop.keep [0] Nat (fun j=>[(0,.own 0 0 j 1)]) (fun _=>[(0,.own false 1 M (fun k=>[.int .i64 (dig X k)]))]) [] (fun j=>j<=M/\X<32768^j) (fun j=>j) ?_ ?_
     ·refine⟨M,⟨Yt _,hXT⟩,?_⟩
      (try dsimp only[go_sem,reduceIte,Ya])
      simp only[Yf]
      omega
     ·rintro j ⟨hj,haj⟩
      (try dsimp only[Yj,go_sem,reduceIte,Ya])
      (try simp only[Yd,Ya,Ye,reduceCtorEq,Yc])
      refine⟨fun hlt=>?_,fun hlt=>?_,fun hb=>?_,fun hb=>?_⟩
      ·rw[Y9 (by omega) (by omega)];omega
      ·rw[Y9 (by omega) (by omega)];omega
      ·rw[YS,decide_eq_true_eq,decide_eq_true_eq]at hb
       obtain⟨h1,h2⟩:=hb
       rw[Y9 (by omega) (by omega),Yj]at h2
       refine⟨by rw[Y9 (by omega) (by omega)];omega,j-1,⟨by omega,?_⟩,by omega,?_⟩
       ·obtain⟨m,rfl⟩:∃m,j=m+1:=⟨j-1,by omega⟩
        exact Vq haj (by simp at h2;exact_mod_cast h2)
       ·rw[Y9 (by omega) (by omega)]
        simp only[Yf] <;> simp [leL,le]
      ·have e:nl X=j:=by
        refine W6 haj ?_
        rw[Wn,decide_eq_false_iff_not,decide_eq_false_iff_not]at hb
        rcases Jc j with h0|h0
        ·exact .inl h0
        ·refine .inr fun hh=>hb.elim (fun h=>h (by omega)) fun h=>h ?_
         rw[Y9 h0 (by omega),Yj,hh];rfl
       subst e
       exact WK h rfl rfl rfl fun j hj=>rfl
 ·exact h.1.elim
def sqN(a s:Nat)(up:Bool):Nat:=if up/\a*a%32768^s≠0 then a*a/32768^s+1 else a*a/32768^s
def squareC:Ctr:={ alias:=false,of:=fun l=>match l with
 | [.vs _ _ n sz get,.int .i64 q,.bool up]=> .ex Nat fun a=> .pre (K9 a n sz get/\n<=20000/\0<=q/\q<=300000) (.all Bool fun z=> .fin (Yv z (sqN a (q.toNat/15) up)) [])
 |_=>noC}
theorem Yoc{x s M:Nat}(hM:min s (nl x)=M):x/32768^s=x/32768^M/\x%32768^s=x%32768^M/\nl (x/32768^M)=nl x-M:=by
 have hnl:nl (x/32768^M)=nl x-M:=by
  rcases Jc x with h0|h0
  ·subst h0;rw[Nat.zero_div,WF,Nat.zero_sub]
  ·have hMl:M<=nl x:=by omega
   have h1:x/32768^M<32768^(nl x-M):=by
    rw[WH (Kk M),<-Yo,Nat.sub_add_cancel hMl];exact Xy x
   refine W6 h1 ?_
   rcases Nat.eq_or_lt_of_le hMl with h|h
   ·exact .inl (by omega)
   ·refine .inr ?_
    rw[Gb,show M+(nl x-M-1)=nl x-1 by omega]
    exact LH (by omega)
 rcases YY s (nl x)with h|h
 ·obtain rfl:M=s:=by omega
  exact⟨rfl,rfl,hnl⟩
 ·obtain rfl:M=nl x:=by omega
  have h1:=Xy x
  have h2:=nl_le.1 h
  exact⟨by rw[QN h1,QN h2],by rw[QB h1,QB h2],hnl⟩
theorem YlH:squareC.ok Yb 132:=by
 refine Yy Tryz.func132 Ypg Ct 300 squareC fun args k h=>?_
 simp only[squareC]at h
 split at h
 ·rename_i t1 z1 n sz get q up
  obtain⟨a,⟨⟨rfl,hn,ha,hg⟩,hn9,h0,h1⟩,h⟩:=h
  obtain⟨q,rfl⟩:=Un h0
  rw[Yj]at h
  refine⟨[.vs t1 z1 n 1 (fun k=>[.int .i64 (dig a k)]),.int .i64 q,.bool up],⟨by simpa [le]using hg,⟨rfl,rfl⟩,rfl,trivial⟩,?_⟩
  (try dsimp only[YcZ,Q2,Yk,addC,limbsC,mulC,Yv,Yj,go_sem,reduceIte,Ya])
  (try simp only[Yd,Ya,Ye,reduceCtorEq,Yc])
  have w1:IntKind.i64.wrap ((q:Int).tdiv 15)=((q/15:Nat):Int):=by
   have:(q:Int).tdiv 15=((q/15:Nat):Int):=Wq (y:=15) rfl rfl
   rw[this,Yg _ (by omega)]
  have hX:a*a<32768^(n+n):=by rw[Yo];exact Nat.mul_lt_mul'' ha ha
  have hl:=nl_le.2 hX
  rw[w1]
  refine⟨a,a,⟨Hs hn ha,Hs hn ha,by omega⟩,by decide,by decide,?_⟩
  have e1:min ((q/15:Nat):Int) ((nl (a*a):Nat):Int)=((min (q/15) (nl (a*a)):Nat):Int):=by omega
  simp only[e1,Yj,KJ]
  refine⟨⟨by omega,by omega⟩,by unfold Y8;omega,?_⟩
  generalize hM:min (q/15) (nl (a*a))=M
  generalize hXX:a*a%32768^M=X
  have hXT:X<32768^M:=hXX▸Kj _ (Kk M)
  have hT:M<=90004:=by omega
  (try dsimp only[Q2,Yk,GT,Yj,go_sem,reduceIte,Ya])
  (try simp only[Yd,Ya,Ye,reduceCtorEq,Yc])
  refine Loop.keep [0] Nat (fun j=>[(0,.own 0 0 j 1)]) (fun _=>[(0,.own false 1 M (fun k=>[.int .i64 (dig X k)]))]) [] (fun j=>j<=M/\X<32768^j) (fun j=>j) ?_ ?_
  ·refine⟨M,⟨Yt _,hXT⟩,?_⟩
   (try dsimp only[go_sem,reduceIte,Ya])
   simp only[Yf]
   refine⟨by omega,by omega,by simp,fun k' hk=>?_⟩
   rw[if_neg (J8 _),<-hXX,VZ hk]
   simp only[leL,le,Nat.sub_zero,and_self]
  ·rintro j ⟨hj,haj⟩
   (try dsimp only[Yj,go_sem,reduceIte,Ya])
   (try simp only[Yd,Ya,Ye,reduceCtorEq,Yc])
   refine⟨fun hlt=>?_,fun hlt=>?_,fun hb=>?_,fun hb=>?_⟩
   ·rw[Y9 (by omega) (by omega)];omega
   ·rw[Y9 (by omega) (by omega)];omega
   ·rw[YS,decide_eq_true_eq,decide_eq_true_eq]at hb
    obtain⟨h1,h2⟩:=hb
    rw[Y9 (by omega) (by omega),Yj]at h2
    refine⟨by rw[Y9 (by omega) (by omega)];omega,j-1,⟨by omega,?_⟩,by omega,?_⟩
    ·obtain⟨m,rfl⟩:∃m,j=m+1:=⟨j-1,by omega⟩
     exact Vq haj (by simp at h2;exact_mod_cast h2)
    ·rw[Y9 (by omega) (by omega)]
     simp only[Yf] <;> simp [leL,le]
   ·have e:nl X=j:=by
     refine W6 haj ?_
     rw[Wn,decide_eq_false_iff_not,decide_eq_false_iff_not]at hb
     rcases Jc j with h0|h0
     ·exact .inl h0
     ·refine .inr fun hh=>hb.elim (fun h=>h (by omega)) fun h=>h ?_
      rw[Y9 h0 (by omega),Yj,hh];rfl
    subst e
    (try dsimp only[go_sem,reduceIte,Ya])
    (try simp only[Yd,Ya,Ye,reduceCtorEq,Yc])
    obtain⟨c1,c2,c3⟩:=Yoc hM
    have hle:VE (nl (a*a)) M=nl (a*a)-M:=by unfold VE;split <;> omega
    have hadd:∀k,QE M k=M+k:=fun k=>by unfold QE;split <;> omega
    refine⟨by decide,⟨by omega,by omega⟩,by unfold Y8;rw[hle];omega,fun hup=>?_,fun hup=>?_⟩
    ·(try dsimp only[Q2,Yk,limbsC,addC,Yv,Yj,go_sem,reduceIte,Ya])
     (try simp only[Yd,Ya,Ye,reduceCtorEq,Yc])
     rw[YS,decide_eq_true_eq]at hup
     obtain⟨rfl,hup⟩:=hup
     have hX0:X≠0:=fun h0=>by subst h0;rw[WF]at hup;omega
     have e:sqN a (q/15) true=a*a/32768^M+1:=by
      unfold sqN;rw[c2,hXX,c1,if_pos ⟨rfl,hX0⟩]
     rw[e]at h
     refine⟨⟨by decide,by decide⟩,a*a/32768^M,1,⟨⟨rfl,by rw[hle];omega,?_,fun k' hk=>?_⟩,YO (by decide),by rw[hle];omega,by decide⟩,U4 (t:=true) (h false)⟩
     ·rw[hle,KJ,<-c3];exact Xy _
     ·dsimp only
      rw[if_neg (J8 _),Gb,hadd,Nat.sub_zero]
      exact YW _
    ·have hX0:¬(up=true/\a*a%32768^(q/15)≠0):=fun hh=>by
      rw[c2,hXX]at hh
      have:=nl_pos.2 (Nat.pos_of_ne_zero hh.2)
      rw[hh.1,Bool.true_and,decide_eq_false_iff_not]at hup
      omega
     have e:sqN a (q/15) up=a*a/32768^M:=by
      unfold sqN;rw[if_neg hX0,c1]
     rw[e]at h
     refine WK (h false) (by rw[hle,c3,KJ]) (Bool.false_and _) rfl fun k' hk=>?_
     rw[if_neg (J8 _),Gb,hadd,Nat.sub_zero]
 ·exact h.1.elim
end Go.Proofs.YtlhmikjnholpnaaGreatDoor.Q
namespace Go.Proofs.YtlhmikjnholpnaaGreatDoor
open Go Go.Vx
def YV(x d:Nat):Nat:=if x/d*d<x then x/d+1 else x/d
theorem Ux(x d:Nat)(hd:0<d):x<=YV x d*d:=by
 have h:=KP x d
 have h2:=Kj x hd
 rw[Yl]at h
 unfold YV
 split
 ·rw[YM,Y2];omega
 ·omega
theorem ZK{x d k:Nat}(h:x<=k*d):YV x d<=k:=by
 unfold YV
 rcases Jc d with h0|h0
 ·subst h0
  simp only[ZD,Nat.div_zero]at*
  split <;> omega
 split
 ·rename_i h1
  rw[Nat.lt_iff_add_one_le]at*
  refine Nat.lt_of_mul_lt_mul_right (a:=d) ?_
  omega
 ·exact Nat.div_le_of_le_mul (by rw[Yl];exact h)
theorem I7(x d:Nat):x/d<=YV x d:=by
 unfold YV
 split <;> omega
theorem HY{x y d:Nat}(h:x<=y):x/d<=YV y d:=Yh (Nat.div_le_div_right h) (I7 y d)
theorem YfZ{x d:Nat}(hd:0<d):YV (YV x d) 2=YV x (d*2):=by
 refine Nat.le_antisymm (ZK (ZK ?_)) (ZK ?_)
 ·have:=Ux x (d*2) (by omega)
  rw[YA,Yl 2 d];exact this
 ·have h1:=Ux x d hd
  have h2:=Yp d (Ux (YV x d) 2 (by decide))
  rw[Yl d 2,<-YA];omega
def gl(M:Nat)(t:Bool):Nat->Nat->Nat->Nat->Nat×Nat
 |0,_,_,S=>(S,S+1)
 |f+1,A,B,S=>
  if A*A/M<2*M then
   if YV (B*B) M<2*M then gl M t f (A*A/M) (YV (B*B) M) (2*S)
   else(S*2^(f+1),(S+1)*2^(f+1))
  else
   if(t&&decide (2*M<=YV (YV (B*B) M) 2))=true then(S*2^(f+1),(S+1)*2^(f+1))
   else gl M t f (A*A/M/2) (YV (YV (B*B) M) 2) (2*S+1)
theorem Gj(M:Nat)(t:Bool):∀(f A B S:Nat),S*2^f<=(gl M t f A B S).1/\(gl M t f A B S).2<=(S+1)*2^f
 |0,A,B,S=>by simp [gl]
 |f+1,A,B,S=>by
  have e1:∀x,x*2^(f+1)=x*2*2^f:=fun x=>by rw[YH,YA,Yl 2 (2^f)]
  have m:∀x y,x<=y->x*2^f<=y*2^f:=fun x y h=>Yp _ h
  rw[gl]
  split
  ·split
   ·obtain⟨h1,h2⟩:=Gj M t f (A*A/M) (YV (B*B) M) (2*S)
    rw[e1,e1]
    exact⟨Yh (m _ _ (by omega)) h1,Yh h2 (m _ _ (by omega))⟩
   ·exact⟨Yt _,Yt _⟩
  ·split
   ·exact⟨Yt _,Yt _⟩
   ·obtain⟨h1,h2⟩:=Gj M t f (A*A/M/2) (YV (YV (B*B) M) 2) (2*S+1)
    rw[e1,e1]
    exact⟨Yh (m _ _ (by omega)) h1,Yh h2 (m _ _ (by omega))⟩
theorem Ycd{P A N M A1:Nat}(hM:0<M)(h:P*A<=N*M)(h1:A1*M<=A*A):P*P*A1<=N*N*M:=by
 refine Ki (c:=M) ?_ hM
 have k1:P*P*(A1*M)<=P*P*(A*A):=Yz _ h1
 have k2:(P*A)*(P*A)<=(N*M)*(N*M):=YX h h
 have e1:P*P*A1*M=P*P*(A1*M):=YA ..
 have e2:P*P*(A*A)=(P*A)*(P*A):=by simp only[YA,Jd]
 have e3:(N*M)*(N*M)=N*N*M*M:=by simp only[YA,Jd]
 omega
theorem Ycb{P B N M B1:Nat}(hM:0<M)(h:N*M<=P*B)(h1:B*B<=B1*M):N*N*M<=P*P*B1:=by
 refine Ki (c:=M) ?_ hM
 have k1:P*P*(B*B)<=P*P*(B1*M):=Yz _ h1
 have k2:(N*M)*(N*M)<=(P*B)*(P*B):=YX h h
 have e1:P*P*B1*M=P*P*(B1*M):=YA ..
 have e2:P*P*(B*B)=(P*B)*(P*B):=by simp only[YA,Jd]
 have e3:(N*M)*(N*M)=N*N*M*M:=by simp only[YA,Jd]
 omega
theorem GG(S:Nat):2^(2*S)=2^S*2^S:=by rw[<-Yo];congr 1;omega
theorem L9(N f:Nat):N^(2^(f+1))=(N*N)^(2^f):=by
 rw[YH,Yl (2^f) 2,Ym,Nat.pow_two]
theorem Bz(M:Nat)(t:Bool)(hM:0<M):∀(f A B S N:Nat),2^S*A<=N*M->N*M<=2^S*B->M<=A->B<=2*M->2^(gl M t f A B S).1<=N^(2^f)/\N^(2^f)<=2^(gl M t f A B S).2:=by
 have stop:∀(f A B S N:Nat),2^S*A<=N*M->N*M<=2^S*B->M<=A->B<=2*M->2^S<=N/\N<=2^(S+1):=by
  intro f A B S N h1 h2 ha hb
  constructor
  ·refine Ki (c:=M) ?_ hM
   have:=Yz (2^S) ha
   omega
  ·refine Ki (c:=M) ?_ hM
   have:=Yz (2^S) hb
   rw[YH,YA]
   omega
 have stop2:∀(f S N:Nat),2^S<=N/\N<=2^(S+1)->2^(S*2^f)<=N^(2^f)/\N^(2^f)<=2^((S+1)*2^f):=fun f S N h=>by
  rw[Ym,Ym]
  exact⟨YG h.1 _,YG h.2 _⟩
 intro f
 induction f with
 |zero=>
  intro A B S N h1 h2 ha hb
  have:=stop 0 A B S N h1 h2 ha hb
  simpa [gl]using this
 |succ f ih=>
  intro A B S N h1 h2 ha hb
  have hs:=stop2 (f+1) S N (stop f A B S N h1 h2 ha hb)
  have hA:A*A/M*M<=A*A:=XE _ _
  have hB:B*B<=YV (B*B) M*M:=Ux _ _ hM
  have k1:=Ycd hM h1 hA
  have k2:=Ycb hM h2 hB
  have hA1:M<=A*A/M:=(Wv hM).2 (YX ha ha)
  have hB1:YV (B*B) M<=4*M:=ZK (by
   have:=YX hb hb
   have e:4*M*M=2*M*(2*M):=by rw[Nat.mul_mul_mul_comm,YA]
   omega)
  rw[gl,L9]
  rw[L9]at hs
  split
  ·split
   ·refine ih _ _ _ _ ?_ ?_ hA1 (by omega)
    ·rw[GG];exact k1
    ·rw[GG];exact k2
   ·exact hs
  ·rename_i hge
   split
   ·exact hs
   ·have hB2:YV (B*B) M<=YV (YV (B*B) M) 2*2:=Ux _ _ (by decide)
    have hA2:A*A/M/2*2<=A*A/M:=XE _ _
    have e3:∀x,2^(2*S+1)*x=2^S*2^S*(x*2):=fun x=>by rw[YH,GG,YA,Yl 2 x]
    refine ih _ _ _ _ ?_ ?_ (by omega) (ZK (by omega))
    ·rw[e3]
     exact Yh (Yz _ hA2) k1
    ·rw[e3]
     exact Yh k2 (Yz _ hB2)
theorem EU(M E:Nat)(t:Bool)(hM:0<M)(hE:0<E)(g:Nat):∀(f A B S A' B':Nat),E*A<=A'->A'<=B'->B'<=E*B->
 (gl M t f A B S).1*2^g<=(gl (M*E) false (f+g) A' B' S).1/\(gl (M*E) false (f+g) A' B' S).2<=(gl M t f A B S).2*2^g:=by
 intro f
 induction f with
 |zero=>
  intro A B S A' B' _ _ _
  have:=Gj (M*E) false (0+g) A' B' S
  simpa [gl]using this
 |succ f ih=>
  intro A B S A' B' ha hab hb
  have stop:S*2^(f+1)*2^g<=(gl (M*E) false (f+1+g) A' B' S).1/\(gl (M*E) false (f+1+g) A' B' S).2<=(S+1)*2^(f+1)*2^g:=by
   have:=Gj (M*E) false (f+1+g) A' B' S
   rw[YA,YA,<-Yo]
   exact this
  have hME:0<M*E:=Y1 hM hE
  have q1:E*(A*A/M)<=A'*A'/(M*E):=by
   rw[Wv hME]
   have h1:A*A/M*M<=A*A:=XE _ _
   have h2:=Yz (E*E) h1
   have h3:=YX ha ha
   have e1:E*(A*A/M)*(M*E)=E*E*(A*A/M*M):=by simp only[YA,Jd,Yl]
   have e2:E*A*(E*A)=E*E*(A*A):=by simp only[YA,Jd,Yl]
   omega
  have q2:YV (B'*B') (M*E)<=E*YV (B*B) M:=ZK (by
   have h1:B*B<=YV (B*B) M*M:=Ux _ _ hM
   have h2:=Yz (E*E) h1
   have h3:=YX hb hb
   have e1:E*YV (B*B) M*(M*E)=E*E*(YV (B*B) M*M):=by simp only[YA,Jd,Yl]
   have e2:E*B*(E*B)=E*E*(B*B):=by simp only[YA,Jd,Yl]
   omega)
  have q3:A'*A'/(M*E)<=YV (B'*B') (M*E):=HY (YX hab hab)
  have e2M:2*(M*E)=E*(2*M):=by rw[<-YA,Yl]
  by_cases c1:A*A/M<2*M
  ·by_cases c2:YV (B*B) M<2*M
   ·have d2:YV (B'*B') (M*E)<2*(M*E):=by
     rw[e2M]
     exact JC q2 (Nat.mul_lt_mul_of_pos_left c2 hE)
    have d1:A'*A'/(M*E)<2*(M*E):=by omega
    rw[show f+1+g=(f+g)+1 by omega,gl,if_pos c1,if_pos c2,gl,if_pos d1,if_pos d2]
    exact ih _ _ _ _ _ q1 q3 q2
   ·rw[gl.eq_def M t (f+1)]
    simp only
    rw[if_pos c1,if_neg c2]
    exact stop
  ·have d1:¬A'*A'/(M*E)<2*(M*E):=by
    have:E*(2*M)<=E*(A*A/M):=Yz _ (by omega)
    omega
   by_cases c2:(t&&decide (2*M<=YV (YV (B*B) M) 2))=true
   ·rw[gl.eq_def M t (f+1)]
    simp only
    rw[if_neg c1,if_pos c2]
    exact stop
   ·rw[show f+1+g=(f+g)+1 by omega,gl,if_neg c1,if_neg c2,gl,if_neg d1,if_neg (by simp)]
    refine ih _ _ _ _ _ ?_ (HY q3) (ZK ?_)
    ·rw[Wv (by decide)]
     have h1:A*A/M/2*2<=A*A/M:=XE _ _
     have h2:=Yz E h1
     rw[YA];omega
    ·have h1:YV (B*B) M<=YV (YV (B*B) M) 2*2:=Ux _ _ (by decide)
     have h2:=Yz E h1
     rw[YA];omega
set_option maxRecDepth 100000
set_option maxHeartbeats 4000000
def K9(a n sz:Nat)(get:Nat->List SV):Prop:=sz=1/\n<=100000/\a<4294967296^n/\∀k,k<n->QK (get k) [.int .u32 (dig a k)]
theorem Hs{a n:Nat}(hn:n<=100000)(ha:a<4294967296^n):K9 a n 1 (fun k=>[.int .u32 (dig a k)]):=⟨rfl,hn,ha,fun k _=>YW _⟩
theorem YO{a:Nat}(hn:nl a<=100000):K9 a (nl a) 1 (fun k=>[.int .u32 (dig a k)]):=Hs hn (Xy a)
def Yv(z:Bool)(a:Nat):SV:= .vs true z (nl a) 1 (fun k=>[.int .u32 (dig a k)])
theorem L3{hp:List HO}{i n m:Nat}{z zz:Bool}{get:Nat->List SV}{a:Nat}(hn:n=nl a)(hz:z=zz)(hi:Ys hp i= .own z 1 m get)(hg:∀j,j<n->get j=[.int .u32 (dig a j)]):
 le 0 0 (JT hp (.own i 0 n 1)) (Yv zz a):=by
 have e:JT hp (.own i 0 n 1)= .vs true z n 1 (fun k=>viewN true hp 2 (get (QE 0 k))):=by
  show JX true hp (viewN true hp 2) (.own i 0 n 1)=_
  unfold JX
  rw[hi];rfl
 rw[e]
 unfold Yv
 rw[Li]
 refine⟨id,hz,hn,rfl,fun j hj=>?_⟩
 show QK (viewN true hp 2 (get j)) _
 rw[hg j hj]
 exact YW _
theorem WK{k:SV->List HO->Prop}{al:Bool}{hp:List HO}{i n m:Nat}{z zz:Bool}{get:Nat->List SV}{a:Nat}(h:k (Yv zz a) [])(hn:n=nl a)(hz:z=zz)(hi:Ys hp i= .own z 1 m get)(hg:∀j,j<n->get j=[.int .u32 (dig a j)]):
 Jz al k (.own i 0 n 1) hp:=Kv h (L3 hn hz hi hg) (fun _=>by simp [Yv,Y3,Y5])
theorem U4{k:SV->List HO->Prop}{al:Bool}{hp:List HO}{t z:Bool}{a:Nat}(h:k (Yv z a) []):Jz al k (.vs true z (nl a) 1 (fun k=>[.int .u32 (dig a k)])) hp:=
 Kv h (JG _ trivial) (fun _=>by simp [Yv,Y3,Y5])
def R0:Env:=mkE [] []
def ofC:Ctr:={ alias:=false,of:=fun l=>match l with
 | [.int .u64 n]=> .pre (0<=n/\n<18446744073709551616) (.fin (Yv false n.toNat) [])
 |_=>noC}
def orderC:Ctr:={ alias:=false,of:=fun l=>match l with
 | [.vs _ _ n sz get,.vs _ _ m sz' get']=> .ex Nat fun a=> .ex Nat fun b=> .pre (K9 a n sz get/\K9 b m sz' get') (.fin (.int .i64 (JM a b)) [])
 |_=>noC}
def plusC:Ctr:={ alias:=false,of:=fun l=>match l with
 | [.vs _ _ n sz get,.vs _ _ m sz' get']=> .ex Nat fun a=> .ex Nat fun b=> .pre (K9 a n sz get/\K9 b m sz' get'/\n<=99999/\m<=99999) (.fin (Yv false (a+b)) [])
 |_=>noC}
def R1:Env:=mkE [] []
def F2:Nat->Nat->Nat
 |0,_=>0
 |f+1,a=>if a=0 then 0 else F2 f (a/2)+1
def Y6(a:Nat):Nat:=F2 a a
theorem Jh(i:Nat):0<2^i:=YB (by decide)
theorem Ss:∀(f a n:Nat),a<=f->(F2 f a<=n↔a<2^n)
 |0,a,n,h=>by
  have:=Jh n
  simp only[F2];omega
 |f+1,a,n,h=>by
  simp only[F2]
  split
  ·rename_i h0;have:=Jh n;subst h0;simp;omega
  ·cases n with
   |zero=>simp;omega
   |succ n=>
    have:=Ss f (a/2) n (by omega)
    rw[YH,<-WH (by decide),<-this]
    omega
theorem bitsN_le{a n:Nat}:Y6 a<=n↔a<2^n:=Ss a a n (Yt _)
theorem F3(a:Nat):a<2^Y6 a:=bitsN_le.1 (Yt _)
theorem Su{a:Nat}(h:0<a):Y6 a=Y6 (a/2)+1:=by
 have h1:∀n,Y6 a<=n↔Y6 (a/2)+1<=n:=fun n=>by
  cases n with
  |zero=>have:= @bitsN_le a 0;simp at this;omega
  |succ n=>rw[bitsN_le,YH,<-WH (by decide),<-bitsN_le];omega
 have a1:=(h1 (Y6 (a/2)+1)).2 (Yt _)
 have a2:=(h1 (Y6 a)).1 (Yt _)
 omega
theorem bitsN_eq0{a:Nat}:Y6 a=0↔a=0:=by
 have:= @bitsN_le a 0
 simp at this;omega
theorem GL(m:Nat):4294967296^m=2^(32*m):=by
 rw[Ym]
theorem Gc(a j k:Nat):dig (a%4294967296^j) k=if k<j then dig a k else 0:=by
 split
 ·exact VZ ‹_›
 ·exact ZM (Kj _ (Kk j)) (by omega)
theorem OX{x:Nat}(h:x<4294967296):(BitVec.ofInt 32 (x:Int)).toNat=x:=by
 simp [BitVec.toNat_ofInt];omega
theorem YkL{x y:Nat}(hx:x<4294967296)(hy:y<4294967296):IntKind.u32.wrap ((BitVec.ofInt 32 (x:Int) ||| BitVec.ofInt 32 (y:Int)).toNat:Int)=((x||| y:Nat):Int):=by
 rw[BitVec.toNat_or,OX hx,OX hy]
 exact P8 (Nat.or_lt_two_pow (n:=32) hx hy)
theorem M3{x:Nat}(h:x<18446744073709551616):(BitVec.ofInt 64 (x:Int)).toNat=x:=by
 simp [BitVec.toNat_ofInt];omega
theorem Ye3{x:Nat}(h:x<18446744073709551616):IntKind.u64.wrap ((BitVec.ofInt 64 (x:Int)&&&BitVec.ofInt 64 4294967295).toNat:Int)=((x%4294967296:Nat):Int):=by
 have h2:(BitVec.ofInt 64 4294967295).toNat=2^32-1:=by decide
 rw[BitVec.toNat_and,M3 h,h2,Nat.and_two_pow_sub_one_eq_mod]
 exact Xo (by omega)
theorem Yae{x y:Nat}(hx:x<18446744073709551616)(hy:y<18446744073709551616):IntKind.u64.wrap ((BitVec.ofInt 64 (x:Int) ||| BitVec.ofInt 64 (y:Int)).toNat:Int)=((x||| y:Nat):Int):=by
 rw[BitVec.toNat_or,M3 hx,M3 hy]
 exact Xo (Nat.or_lt_two_pow (n:=64) hx hy)
theorem NH{x s:Nat}(hs:s<=64):(x:Int).fdiv (2^min s 64)=((x/2^s:Nat):Int):=by
 rw[Nat.min_eq_left hs,Int.fdiv_eq_ediv_of_nonneg _ (Int.le_of_lt (Int.pow_pos (by decide)))]
 simp
theorem PF{x s:Nat}(hs:s<=64)(h:x*2^s<18446744073709551616):IntKind.u64.wrap ((x:Int)*2^min s 64)=((x*2^s:Nat):Int):=by
 rw[Nat.min_eq_left hs]
 have:(x:Int)*2^s=((x*2^s:Nat):Int):=by simp
 rw[this];exact Xo h
theorem A8(x:Int):IntKind.u64.wrap x=x%18446744073709551616:=by
 rw[IntKind.wrap_u64]
theorem YjV{x y:Nat}(hx:x<18446744073709551616)(hy:y<18446744073709551616):
 let x0:=x%4294967296;let x1:=x/4294967296;let y0:=y%4294967296;let y1:=y/4294967296
 let t:=x1*y0+x0*y0/4294967296
 let w1:=t%4294967296+x0*y1
 x1*y1+t/4294967296+w1/4294967296=x*y/18446744073709551616/\x0*y0<18446744073709551616/\x1*y0<18446744073709551616/\t<18446744073709551616/\x0*y1<18446744073709551616/\w1<18446744073709551616/\x1*y1<18446744073709551616/\x1*y1+t/4294967296<18446744073709551616/\x1*y1+t/4294967296+w1/4294967296<18446744073709551616:=by
 intro x0 x1 y0 y1 t w1
 have e1:x=4294967296*x1+x0:=(KP x _).symm
 have e2:y=4294967296*y1+y0:=(KP y _).symm
 have h0:x0<4294967296:=Kj _ (by decide)
 have h1:y0<4294967296:=Kj _ (by decide)
 have h2:x1<4294967296:=by omega
 have h3:y1<4294967296:=by omega
 have m:∀{a b:Nat},a<4294967296->b<4294967296->a*b<=4294967295*4294967295:=fun ha hb=>YX (by omega) (by omega)
 have p1:=m h0 h1
 have p2:=m h2 h1
 have p3:=m h0 h3
 have p4:=m h2 h3
 have e:x*y=18446744073709551616*(x1*y1)+4294967296*(x1*y0+x0*y1)+x0*y0:=by
  rw[e1,e2];grind
 have ht:t=x1*y0+x0*y0/4294967296:=rfl
 have hw:w1=t%4294967296+x0*y1:=rfl
 rw[e]
 generalize x0*y0=A at*
 generalize x1*y0=B at*
 generalize x0*y1=C at*
 generalize x1*y1=D at*
 omega
structure DigInv (y1 y0 a u q r:Nat):Prop where
 eq:q*y1+r=a
 ge:(a*4294967296+u)/(y1*4294967296+y0)<=q
 le:q<=4294967297
def Vc:VF:={ ntmps:=21,res:=[.tmp 2],body:=
 (ZR [u1 2 .mov [.cn .nil]]
 (.seq (.block 0 (.loop (.seq (ZR [Zm 3 0,
 Zl 4 3,
 Zq 5 .gtr 4 0,
 Zm 6 5,
 Zg 7 6 true 0,
 Zg 8 6 true 0,
 u2 9 6 true .len [.tm 8],
 u2 10 6 true (.ari .sub) [.tm 9,.cn (.int .i64 1)],
 u2 11 6 true (.idxAddr 1) [.tm 7,.tm 10],
 Zh 12 6 true 1 11,
 u2 13 6 true (.cmp .eql) [.tm 12,.cn (.int .u32 0)],
 u1 14 .and [.tm 6,.tm 13]]
 (ZC 14 .skip
  (.exit 0)))
 (.block 1 (.region [Zm 15 0,
 Zm 16 0,
 Zl 17 16,
 u1 18 (.ari .sub) [.tm 17,.cn (.int .i64 1)],
 u1 19 (.slice 1 false true) [.tm 15,.tm 18],
 Zm 0 19])))))
 (ZR [Zm 20 0,
 Zm 2 20]
 .ret)))}
theorem YcF:Yn Yb Tryz.f106=some Vc:=by kernel_rfl
def v72:VF:=⟨10,[.tmp 2],(ZR [u1 2 .mov [.cn .nil]] (ZR [Zm 3 0,u1 4 (.conv .u32) [.tm 3],Zm 5 0,u1 6 .shr [.tm 5,.cn (.int .u64 32)],u1 7 (.conv .u32) [.tm 6],u1 8 (.buildSlice 1 2 [(.int .u32 0)] [(0,1),(1,1)]) [.tm 4,.tm 7],Zc 9 106 8,Zm 2 9] .ret))⟩
theorem Yqr:Yn Yb Tryz.f72=some v72:=by kernel_rfl
def v38:VF:=⟨5,[.tmp 2],(ZR [u1 2 .mov [.cn .nil]] (ZR [Zm 3 0,Zc 4 72 3,Zm 2 4] .ret))⟩
theorem YpS:Yn Yb Tryz.f38=some v38:=by kernel_rfl
def v77:VF:=⟨43,[.tmp 4],(ZR [Zi 4 0] (.seq (.block 0 (ZR [Zm 7 0,Zl 8 7,Zm 9 1,Zl 10 9,Zr 11 .lss 8 10,Zm 6 11] (ZC 6 (ZR [Zi 4 (-1)] .ret) (ZR [Zm 13 0,Zl 14 13,Zm 15 1,Zl 16 15,Zr 17 .gtr 14 16,Zm 12 17] (ZC 12 (ZR [Zi 4 1] .ret) .skip))))) (.seq (ZR [Zm 18 0,Zl 19 18,u1 20 (.ari .sub) [.tm 19,.cn (.int .i64 1)],Zm 5 20] (.block 1 (.loop (.seq (ZR [Zm 21 5,Zq 22 .geq 21 0] (ZC 22 .skip (.exit 1))) (.seq (.block 2 (.seq (.draw [] [Zu 25 0,Zu 26 5,ZX 27 1 25 26,Zv 28 1 27,Zu 29 1,Zu 30 5,ZX 31 1 29 30,Zv 32 1 31,w1 33 (.cmp .neq) [.tm 28,.tm 32]]) (ZC 33 (.seq (.seq (.draw [] [Zu 34 0,Zu 35 5,ZX 36 1 34 35,Zv 37 1 36,Zu 38 1,Zu 39 5,ZX 40 1 38 39,Zv 41 1 40,w1 42 (.cmp .lss) [.tm 37,.tm 41]]) (ZC 42 (ZR [Zi 4 (-1)] .ret) .skip)) (ZR [Zi 4 1] .ret)) .skip))) (.region [Zm 23 5,u1 24 (.ari .sub) [.tm 23,.cn (.int .i64 1)],Zm 5 24])))))) (ZR [Zi 4 0] .ret))))⟩
theorem Yqv:Yn Yb Tryz.f77=some v77:=by kernel_rfl
def Ydi:VF:={ ntmps:=59,res:=[.tmp 4],body:=
 (ZR [u1 4 .mov [.cn .nil]]
 (.seq (ZR [Zm 9 0,
 Zl 10 9,
 Zm 11 1,
 Zl 12 11,
 Zr 13 .lss 10 12]
 (ZC 13 (.region [Zm 14 1,
 Zm 15 0,
 Zm 0 14,
 Zm 1 15])
  .skip))
 (ZR [Zm 16 0,
 Zl 17 16,
 Zp 18 17 1,
 u1 19 (.make 1 4 [(.int .u32 0)]) [.tm 18,.tm 18],
 Zm 5 19]
 (ZR [u1 6 .mov [.cn (.int .u64 0)]]
 (.seq (ZR [Zm 20 0,
 Zl 21 20,
 Zi 22 0]
 (.block 0 (.loop (ZR [Zr 23 .lss 22 21]
 (.seq (ZC 23 .skip
  (.exit 0))
 (.seq (.block 1 (ZR [Zm 24 22,
 Zm 7 24]
 (ZR [Zm 25 0,
 Zm 26 7,
 Zx 27 1 25 26,
 Zf 28 1 27,
 u1 29 (.conv .u64) [.tm 28],
 Zm 30 6,
 Zo 31 .add 29 30,
 Zm 8 31]
 (.seq (ZR [Zm 32 7,
 Zm 33 1,
 Zl 34 33,
 Zr 35 .lss 32 34]
 (ZC 35 (.region [Zm 36 8,
 Zm 37 1,
 Zm 38 7,
 Zx 39 1 37 38,
 Zf 40 1 39,
 u1 41 (.conv .u64) [.tm 40],
 Zo 42 .add 36 41,
 Zm 8 42])
  .skip))
 (.region [Zm 43 5,
 Zm 44 7,
 Zm 45 8,
 u1 46 (.conv .u32) [.tm 45],
 Zm 47 8,
 u1 48 .shr [.tm 47,.cn (.int .u64 32)],
 Zx 49 1 43 44,
 Zs 1 49 46,
 Zm 6 48])))))
 (.region [Zp 50 22 1,
 Zm 22 50])))))))
 (ZR [Zm 51 5,
 Zm 52 0,
 Zl 53 52,
 Zm 54 6,
 u1 55 (.conv .u32) [.tm 54],
 Zx 56 1 51 53,
 Zs 1 56 55]
 (ZR [Zm 57 5,
 Zc 58 106 57,
 Zm 4 58]
 .ret)))))))}
theorem YpA:Yn Yb Tryz.f156=some Ydi:=by kernel_rfl
def WD0:Env:=mkE [] [(106,Vc)]
theorem YeS:YD Yb WD0:=eo (by kernel_rfl) trivial ⟨⟨_,Tryz.func106,YcF,_,Tryz.func106,rfl,rfl⟩,trivial⟩
theorem AS(z:Nat):(z:Int).fdiv (2^min (Xs 32) 64)=((z/4294967296:Nat):Int):=NH (s:=32) (by decide)
theorem HB(z:Nat):IntKind.u32.wrap (z:Int)=((z%4294967296:Nat):Int):=by rw[IntKind.wrap_u32];omega
theorem Yrg:ofC.ok Yb 72:=by
 refine Yy Tryz.func72 Yqr YeS 200 ofC fun args k h=>?_
 simp only[ofC]at h
 split at h
 ·rename_i n
  obtain⟨⟨h0,h1⟩,h⟩:=h
  obtain⟨X,rfl⟩:=Un h0
  obtain⟨N,hN⟩:∃N,N=2:=⟨_,rfl⟩
  have hXN:X<4294967296^N:=by rw[hN];omega
  refine⟨[.int .u64 X],by simp [leL,le],?_⟩
  dsimp only[v72,WD0,Yk,Vc,go_sem,reduceIte,Ya]
  simp only[Yd,Ya,Ye,reduceCtorEq,Yc]
  refine⟨by decide,by decide,?_⟩
  refine Loop.keep [0] Nat (fun j=>[(0,.own 0 0 j 1)]) (fun _=>[(0,.own false 1 N (fun k=>[.int .u32 (dig X k)]))]) [] (fun j=>j<=N/\X<4294967296^j) (fun j=>j) ?_ ?_
  ·refine⟨N,⟨Yt _,hXN⟩,?_⟩
   dsimp only[go_sem,reduceIte,Ya]
   simp only[Yf]
   refine⟨⟨hN.symm,by decide⟩,by decide,hN.symm,fun k hk=>?_⟩
   rw[show(2:Int)^min (Xs 32) 64=4294967296 by decide,Int.fdiv_eq_ediv_of_nonneg _ (by decide)]
   have e0:dig X 0=X%4294967296:=El X
   have e1:dig X 1=X/4294967296:=by rw[Te,El];omega
   match k,hk with
   |0,_=>rw[e0];exact⟨⟨rfl,by rw[IntKind.wrap_u32];omega⟩,trivial⟩
   |1,_=>rw[e1];exact⟨⟨rfl,by rw[IntKind.wrap_u32];omega⟩,trivial⟩
  ·rintro j ⟨hj,haj⟩
   dsimp only[Yj,go_sem,reduceIte,Ya]
   simp only[Yd,Ya,Ye,reduceCtorEq,Yc]
   refine⟨fun hlt=>?_,fun hlt=>?_,fun hb=>?_,fun hb=>?_⟩
   ·rw[Y9 (by omega) (by omega)];omega
   ·rw[Y9 (by omega) (by omega)];omega
   ·rw[YS,decide_eq_true_eq,decide_eq_true_eq]at hb
    obtain⟨h1,h2⟩:=hb
    rw[Y9 (by omega) (by omega),Yj]at h2
    refine⟨by rw[Y9 (by omega) (by omega)];omega,j-1,⟨by omega,?_⟩,by omega,?_⟩
    ·obtain⟨m,rfl⟩:∃m,j=m+1:=⟨j-1,by omega⟩
     exact Vq haj (by simp at h2;exact_mod_cast h2)
    ·rw[Y9 (by omega) (by omega)]
     simp only[Yf] <;> simp [leL,le]
   ·have e:nl X=j:=by
     refine W6 haj ?_
     rw[Wn,decide_eq_false_iff_not,decide_eq_false_iff_not]at hb
     rcases Jc j with h0|h0
     ·exact .inl h0
     ·refine .inr fun hh=>hb.elim (fun h=>h (by omega)) fun h=>h ?_
      rw[Y9 h0 (by omega),Yj,hh];rfl
    subst e
    exact WK h rfl rfl rfl fun j hj=>rfl
 ·exact h.1.elim
def WD1:Env:=mkE [(72,ofC)] [(106,Vc)]
theorem HH:YD Yb WD1:=eo (by kernel_rfl) ⟨⟨Yrg,_,Tryz.func72,rfl,rfl⟩,trivial⟩ ⟨⟨_,Tryz.func106,YcF,_,Tryz.func106,rfl,rfl⟩,trivial⟩
theorem Yq8:ofC.ok Yb 38:=by
 refine Yy Tryz.func38 YpS HH 200 ofC fun args k h=>?_
 simp only[ofC]at h
 split at h
 ·rename_i n
  obtain⟨⟨h0,h1⟩,h⟩:=h
  refine⟨[.int .u64 n],by simp [leL,le],?_⟩
  dsimp only[v38,WD1,Yk,ofC,Yv,go_sem,reduceIte,Ya]
  simp only[Yd,Ya,Ye,reduceCtorEq,Yc]
  exact⟨⟨h0,h1⟩,U4 (t:=true) h⟩
 ·exact h.1.elim
def wcmpC:Ctr:={ alias:=false,of:=fun l=>match l with
 | [.vs _ _ n sz get,.vs _ _ m sz' get']=> .ex Nat fun a=> .ex Nat fun b=> .pre (K9 a n sz get/\K9 b m sz' get'/\n=nl a/\m=nl b) (.fin (.int .i64 (JM a b)) [])
 |_=>noC}
theorem YkN{a b:Nat}(h:nl a<nl b):JM a b= -1:=by
 have:a<b:=WJ fun hh=>by have:=Fj hh;omega
 rw[JM,if_pos this]
theorem YkM{a b:Nat}(h:nl b<nl a):JM a b=1:=by
 have:b<a:=WJ fun hh=>by have:=Fj hh;omega
 rw[JM,if_neg (by omega),if_pos this]
theorem Yre:wcmpC.ok Yb 77:=by
 refine Yy Tryz.func77 Yqv HH 200 wcmpC fun args k h=>?_
 simp only[wcmpC]at h
 split at h
 ·rename_i t1 z1 n sz get t2 z2 m sz' get'
  obtain⟨a,b,⟨⟨rfl,hn,ha,hg⟩,⟨rfl,hm,hb,hg'⟩,hna,hmb⟩,h⟩:=h
  refine⟨[.vs t1 z1 n 1 (fun k=>[.int .u32 (dig a k)]),.vs t2 z2 m 1 (fun k=>[.int .u32 (dig b k)])],⟨by simpa [le]using hg,by simpa [le]using hg',trivial⟩,?_⟩
  dsimp only[v77,go_sem,reduceIte,Ya]
  simp only[Yd,Ya,Ye,reduceCtorEq,Yc]
  refine⟨fun c1=>Kb ?_,fun c1=>⟨fun c2=>Kb ?_,fun c2=>?_⟩⟩
  ·rw[YkN (by omega)]at h;exact h
  ·rw[YkM (by omega)]at h;exact h
  refine Loop.keep [0,0,3] Nat (fun j=>[(5,.int .i64 ((j:Int)-1))]) (fun _=>[]) [] (fun j=>j<=n/\∀i,j<=i->dig a i=dig b i) (fun j=>j) ?_ ?_
  ·refine⟨n,⟨Yt _,fun i hi=>by rw[ZM ha (by omega),ZM hb (by omega)]⟩,?_⟩
   dsimp only[go_sem,reduceIte,Ya]
   simp only[Yf]
   rw[Yg _ (by omega)]
   try simp
  ·rintro j ⟨hj,haj⟩
   dsimp only[Yj,go_sem,reduceIte,Ya]
   simp only[Yd,Ya,Ye,reduceCtorEq,Yc]
   refine⟨fun hlt=>?_,fun hge=>?_⟩
   ·obtain⟨i,rfl⟩:∃i,j=i+1:=⟨j-1,by omega⟩
    have e:((i+1:Nat):Int)-1=i:=by omega
    have gt:∀t,i<t->dig a t=dig b t:=fun t ht=>haj t (by omega)
    rw[e]
    simp only[Yj]
    refine⟨⟨by omega,by omega⟩,⟨by omega,by omega⟩,fun hd=>⟨⟨by omega,by omega⟩,⟨by omega,by omega⟩,fun hc=>Kb ?_,fun hc=>Kb ?_⟩,fun hd=>⟨i,⟨by omega,fun t ht=>?_⟩,by omega,?_⟩⟩
    ·have:=Mj gt (by omega:dig a i<dig b i)
     rw[JM,if_pos this]at h;exact h
    ·have:=Mj (fun t ht=>(gt t ht).symm) (by omega:dig b i<dig a i)
     rw[JM,if_neg (by omega),if_pos this]at h;exact h
    ·rcases Nat.eq_or_lt_of_le ht with rfl|ht
     ·omega
     ·exact gt t ht
    ·simp only[Yf]
     rw[Yg _ (by omega)]
     try simp
   ·obtain rfl:j=0:=by omega
    have:a=b:=Mi fun i=>haj i (JJ _)
    rw[JM,if_neg (by omega),if_neg (by omega)]at h
    exact Kb h
 ·exact h.1.elim
theorem Yri:plusC.ok Yb 156:=by
 refine Yy Tryz.func156 YpA HH 300 plusC fun args k h=>?_
 simp only[plusC]at h
 split at h
 ·rename_i t1 z1 n sz get t2 z2 m sz' get'
  obtain⟨a,b,⟨⟨rfl,hn,ha,hg⟩,⟨rfl,hm,hb,hg'⟩,hn9,hm9⟩,h⟩:=h
  refine⟨[.vs t1 z1 n 1 (fun k=>[.int .u32 (dig a k)]),.vs t2 z2 m 1 (fun k=>[.int .u32 (dig b k)])],⟨by simpa [le]using hg,by simpa [le]using hg',trivial⟩,?_⟩
  dsimp only[Ydi,WD1,Yk,Vc,go_sem,reduceIte,Ya]
  simp only[Yd,Ya,Ye,reduceCtorEq,Yc]
  refine⟨fun hlt=>?_,fun hge=>?_⟩
  all_goals first
   | (obtain⟨q,rfl⟩:∃q,q=n:=⟨_,rfl⟩
      obtain⟨n,rfl⟩:∃q,q=m:=⟨_,rfl⟩
      obtain⟨m,rfl⟩:∃m,m=q:=⟨_,rfl⟩
      obtain⟨q,rfl⟩:∃q,q=a:=⟨_,rfl⟩
      obtain⟨a,rfl⟩:∃a,a=b:=⟨_,rfl⟩
      obtain⟨b,rfl⟩:∃b,b=q:=⟨_,rfl⟩
      rw[Nat.add_comm]at h
      obtain⟨N,hNn⟩:∃N,N=n+1:=⟨_,rfl⟩
      obtain⟨X,hX⟩:∃X,X=a+b:=⟨_,rfl⟩
      have hmn:m<=n:=by omega)
   | (obtain⟨N,hNn⟩:∃N,N=n+1:=⟨_,rfl⟩
      obtain⟨X,hX⟩:∃X,X=a+b:=⟨_,rfl⟩
      have hmn:m<=n:=by omega)
  all_goals
   have ha1:a<4294967296^n:=by assumption
   have hb1:b<4294967296^m:=by assumption
   have eN:IntKind.i64.wrap ((n:Int)+1)=((N:Nat):Int):=by rw[hNn,Yg _ (by omega)];omega
   rw[eN]
   simp only[Yj]
   refine⟨⟨by decide,by omega,by omega,by unfold Y8;omega⟩,?_⟩
   refine Loop.keep [0,0,3,14,0] Nat (fun i=>[(6,.int .u64 (cy a b i)),(22,.int .i64 i)]) (fun i=>[(0,.own false 1 N (fun k=>[.int .u32 (dig (X%4294967296^i) k)]))]) [] (fun i=>i<=n) (fun i=>n-i) ?_ ?_
   ·refine⟨0,by omega,?_⟩
    dsimp only[go_sem,reduceIte,Ya]
    simp only[Yf]
    simp [S7,Nat.mod_one,Ml,leL,le]
   ·rintro i hi
    dsimp only[WD1,Yk,Vc,Yj,go_sem,reduceIte,Ya]
    simp only[Yd,Ya,Ye,reduceCtorEq,Yc]
    refine⟨fun hlt=>⟨⟨by omega,by omega⟩,fun hc=>⟨⟨by omega,by omega⟩,by decide,⟨by omega,by omega⟩,by omega,i+1,by omega,by omega,?_⟩,fun hc=>⟨by decide,⟨by omega,by omega⟩,by omega,i+1,by omega,by omega,?_⟩⟩,fun hge=>?_⟩
    ·have hd1:=QH a i
     have hd2:=QH b i
     have hcy:=Dy a b i
     have e1:=N9 a b i
     have e2:=CC a b i
     rw[show dig a i+dig b i+cy a b i=dig a i+cy a b i+dig b i by omega]at e1 e2
     rw[Xo (by omega:dig a i<18446744073709551616),Xo (by omega:dig b i<18446744073709551616),UU (by omega),UU (by omega),AS,HB,e1,e2,Yg ((i:Int)+1) (by omega)]
     simp only[Yf]
     refine⟨by simp,fun j hj=>?_⟩
     rw[Gc,Gc,hX]
     by_cases hji:j=i
     ·rw[if_pos hji,if_pos (by omega),hji];simp only[leL,le,and_self]
     ·rw[if_neg hji];simp only[show(j<i+1)↔(j<i)from by omega];simp only[leL,le,and_self]
    ·have hd1:=QH a i
     have hd2:dig b i=0:=ZM hb1 (by omega)
     have hcy:=Dy a b i
     have e1:=N9 a b i
     have e2:=CC a b i
     rw[hd2,KO]at e1 e2
     rw[Xo (by omega:dig a i<18446744073709551616),UU (by omega),AS,HB,e1,e2,Yg ((i:Int)+1) (by omega)]
     simp only[Yf]
     refine⟨by simp,fun j hj=>?_⟩
     rw[Gc,Gc,hX]
     by_cases hji:j=i
     ·rw[if_pos hji,if_pos (by omega),hji];simp only[leL,le,and_self]
     ·rw[if_neg hji];simp only[show(j<i+1)↔(j<i)from by omega];simp only[leL,le,and_self]
    ·obtain rfl:i=n:=by omega
     refine⟨⟨by omega,by omega⟩,by omega,?_⟩
     have hXN:X<4294967296^N:=by
      have h2:b<4294967296^i:=Qt hb1 (Kp (by decide) hmn)
      rw[hX,hNn,Jr];omega
     have htop:IntKind.u32.wrap ((cy a b i:Nat):Int)=((dig X i:Nat):Int):=by
      have e1:=N9 a b i
      have hcy:=Dy a b i
      rw[ZM ha1 (Yt _),ZM hb1 hmn]at e1
      rw[HB,hX,<-e1]
      omega
     rw[htop]
     rw[<-hX]at h
     refine Loop.keep [0] Nat (fun j=>[(0,.own 0 0 j 1)]) (fun _=>[(0,.own false 1 N (fun k=>[.int .u32 (dig X k)]))]) [] (fun j=>j<=N/\X<4294967296^j) (fun j=>j) ?_ ?_
     ·refine⟨N,⟨Yt _,hXN⟩,?_⟩
      dsimp only[go_sem,reduceIte,Ya]
      simp only[Yf]
      refine⟨by decide,by decide,fun j hj=>?_⟩
      split
      ·rename_i e;rw[e];exact⟨⟨rfl,rfl⟩,trivial⟩
      ·rw[VZ (by omega)];exact⟨⟨rfl,rfl⟩,trivial⟩
     ·rintro j ⟨hj,haj⟩
      dsimp only[Yj,go_sem,reduceIte,Ya]
      simp only[Yd,Ya,Ye,reduceCtorEq,Yc]
      refine⟨fun hlt=>?_,fun hlt=>?_,fun hb=>?_,fun hb=>?_⟩
      ·rw[Y9 (by omega) (by omega)];omega
      ·rw[Y9 (by omega) (by omega)];omega
      ·rw[YS,decide_eq_true_eq,decide_eq_true_eq]at hb
       obtain⟨h1,h2⟩:=hb
       rw[Y9 (by omega) (by omega),Yj]at h2
       refine⟨by rw[Y9 (by omega) (by omega)];omega,j-1,⟨by omega,?_⟩,by omega,?_⟩
       ·obtain⟨m,rfl⟩:∃m,j=m+1:=⟨j-1,by omega⟩
        exact Vq haj (by simp at h2;exact_mod_cast h2)
       ·rw[Y9 (by omega) (by omega)]
        simp only[Yf] <;> simp [leL,le]
      ·have e:nl X=j:=by
        refine W6 haj ?_
        rw[Wn,decide_eq_false_iff_not,decide_eq_false_iff_not]at hb
        rcases Jc j with h0|h0
        ·exact .inl h0
        ·refine .inr fun hh=>hb.elim (fun h=>h (by omega)) fun h=>h ?_
         rw[Y9 h0 (by omega),Yj,hh];rfl
       subst e
       exact WK h rfl rfl rfl fun j hj=>rfl
 ·exact h.1.elim
def v75:VF:=⟨68,[.tmp 4],(ZR [u1 4 .mov [.cn .nil]] (ZR [Zm 12 0,Zl 13 12,Zm 14 1,Zl 15 14,Zo 16 .add 13 15,u1 17 (.make 1 4 [(.int .u32 0)]) [.tm 16,.tm 16],Zm 5 17] (.seq (ZR [Zm 18 0,Zl 19 18,Zi 20 0] (.block 0 (.loop (ZR [Zr 21 .lss 20 19] (.seq (ZC 21 .skip (.exit 0)) (.seq (.block 1 (ZR [Zm 22 20,Zx 23 1 18 20,Zf 24 1 23,Zm 6 22,Zm 7 24] (ZR [u1 8 .mov [.cn (.int .u64 0)]] (.seq (ZR [Zm 25 1,Zl 26 25,Zi 27 0] (.block 2 (.loop (ZR [Zr 28 .lss 27 26] (.seq (ZC 28 .skip (.exit 2)) (.seq (.block 3 (ZR [Zm 29 27,Zx 30 1 25 27,Zf 31 1 30,Zm 9 29,Zm 10 31] (ZR [Zm 32 5,Zm 33 6,Zm 34 9,Zo 35 .add 33 34,Zx 36 1 32 35,Zf 37 1 36,u1 38 (.conv .u64) [.tm 37],Zm 39 7,u1 40 (.conv .u64) [.tm 39],Zm 41 10,u1 42 (.conv .u64) [.tm 41],Zo 43 .mul 40 42,Zo 44 .add 38 43,Zm 45 8,Zo 46 .add 44 45,Zm 11 46] (.region [Zm 47 5,Zm 48 6,Zm 49 9,Zo 50 .add 48 49,Zm 51 11,u1 52 (.conv .u32) [.tm 51],Zm 53 11,u1 54 .shr [.tm 53,.cn (.int .u64 32)],Zx 55 1 47 50,Zs 1 55 52,Zm 8 54])))) (.region [Zp 56 27 1,Zm 27 56]))))))) (.region [Zm 57 5,Zm 58 6,Zm 59 1,Zl 60 59,Zo 61 .add 58 60,Zm 62 8,u1 63 (.conv .u32) [.tm 62],Zx 64 1 57 61,Zs 1 64 63]))))) (.region [Zp 65 20 1,Zm 20 65]))))))) (ZR [Zm 66 5,Zc 67 106 66,Zm 4 67] .ret))))⟩
theorem Yqt:Yn Yb Tryz.f75=some v75:=by kernel_rfl
def Ydk:VF:={ ntmps:=58,res:=[.tmp 4],body:=
 (ZR [u1 4 .mov [.cn .nil]]
 (.seq (ZR [Zm 11 0,
 Zl 12 11,
 Zq 13 .eql 12 0]
 (ZC 13 (ZR [u1 4 .mov [.cn .nil]]
 .ret)
  .skip))
 (ZR [Zm 14 1,
 u1 15 .quo [.tm 14,.cn (.int .i64 32)],
 Zm 16 1,
 u1 17 .rem [.tm 16,.cn (.int .i64 32)],
 u1 18 (.conv .u64) [.tm 17],
 Zm 5 15,
 Zm 6 18]
 (ZR [Zm 19 0,
 Zl 20 19,
 Zm 21 5,
 Zo 22 .add 20 21,
 Zp 23 22 1,
 u1 24 (.make 1 4 [(.int .u32 0)]) [.tm 23,.tm 23],
 Zm 7 24]
 (.seq (ZR [Zm 25 0,
 Zl 26 25,
 Zi 27 0]
 (.block 0 (.loop (ZR [Zr 28 .lss 27 26]
 (.seq (ZC 28 .skip
  (.exit 0))
 (.seq (.block 1 (ZR [Zm 29 27,
 Zx 30 1 25 27,
 Zf 31 1 30,
 Zm 8 29,
 Zm 9 31]
 (ZR [Zm 32 9,
 u1 33 (.conv .u64) [.tm 32],
 Zm 34 6,
 u1 35 .shl [.tm 33,.tm 34],
 Zm 10 35]
 (ZR [Zm 36 7,
 Zm 37 8,
 Zm 38 5,
 Zo 39 .add 37 38,
 Zx 40 1 36 39,
 Zf 41 1 40,
 Zm 42 10,
 u1 43 (.conv .u32) [.tm 42],
 u1 44 (.bit .or) [.tm 41,.tm 43],
 Zx 45 1 36 39,
 Zs 1 45 44]
 (.region [Zm 46 7,
 Zm 47 8,
 Zm 48 5,
 Zo 49 .add 47 48,
 Zp 50 49 1,
 Zm 51 10,
 u1 52 .shr [.tm 51,.cn (.int .u64 32)],
 u1 53 (.conv .u32) [.tm 52],
 Zx 54 1 46 50,
 Zs 1 54 53])))))
 (.region [Zp 55 27 1,
 Zm 27 55])))))))
 (ZR [Zm 56 7,
 Zc 57 106 56,
 Zm 4 57]
 .ret))))))}
theorem YpC:Yn Yb Tryz.f158=some Ydk:=by kernel_rfl
def Ydj:VF:={ ntmps:=64,res:=[.tmp 4],body:=
 (ZR [u1 4 .mov [.cn .nil]]
 (ZR [Zm 10 1,
 u1 11 .quo [.tm 10,.cn (.int .i64 32)],
 Zm 12 1,
 u1 13 .rem [.tm 12,.cn (.int .i64 32)],
 u1 14 (.conv .u64) [.tm 13],
 Zm 5 11,
 Zm 6 14]
 (.seq (ZR [Zm 15 5,
 Zm 16 0,
 Zl 17 16,
 Zr 18 .geq 15 17]
 (ZC 18 (ZR [u1 4 .mov [.cn .nil]]
 .ret)
  .skip))
 (ZR [Zm 19 0,
 Zl 20 19,
 Zm 21 5,
 Zo 22 .sub 20 21,
 u1 23 (.make 1 4 [(.int .u32 0)]) [.tm 22,.tm 22],
 Zm 7 23]
 (.seq (ZR [Zm 24 7,
 Zl 25 24,
 Zi 26 0]
 (.block 0 (.loop (ZR [Zr 27 .lss 26 25]
 (.seq (ZC 27 .skip
  (.exit 0))
 (.seq (.block 1 (ZR [Zm 28 26,
 Zm 8 28]
 (ZR [Zm 29 0,
 Zm 30 8,
 Zm 31 5,
 Zo 32 .add 30 31,
 Zx 33 1 29 32,
 Zf 34 1 33,
 u1 35 (.conv .u64) [.tm 34],
 Zm 9 35]
 (.seq (ZR [Zm 36 8,
 Zm 37 5,
 Zo 38 .add 36 37,
 Zp 39 38 1,
 Zm 40 0,
 Zl 41 40,
 Zr 42 .lss 39 41]
 (ZC 42 (.region [Zm 43 9,
 Zm 44 0,
 Zm 45 8,
 Zm 46 5,
 Zo 47 .add 45 46,
 Zp 48 47 1,
 Zx 49 1 44 48,
 Zf 50 1 49,
 u1 51 (.conv .u64) [.tm 50],
 u1 52 .shl [.tm 51,.cn (.int .u64 32)],
 u1 53 (.bit .or) [.tm 43,.tm 52],
 Zm 9 53])
  .skip))
 (.region [Zm 54 7,
 Zm 55 8,
 Zm 56 9,
 Zm 57 6,
 u1 58 .shr [.tm 56,.tm 57],
 u1 59 (.conv .u32) [.tm 58],
 Zx 60 1 54 55,
 Zs 1 60 59])))))
 (.region [Zp 61 26 1,
 Zm 26 61])))))))
 (ZR [Zm 62 7,
 Zc 63 106 62,
 Zm 4 63]
 .ret))))))}
theorem YpB:Yn Yb Tryz.f157=some Ydj:=by kernel_rfl
theorem YbN{V j x:Nat}(hV:V<4294967296^j):Qe V j x=V+x*4294967296^j:=by
 have:=ND V j x
 rw[ZM hV (Yt _)]at this
 omega
def wtimC:Ctr:={ alias:=false,of:=fun l=>match l with
 | [.vs _ _ n sz get,.vs _ _ m sz' get']=> .ex Nat fun a=> .ex Nat fun b=> .pre (K9 a n sz get/\K9 b m sz' get'/\n+m<=99999) (.fin (Yv false (a*b)) [])
 |_=>noC}
theorem Yrk:wtimC.ok Yb 75:=by
 refine Yy Tryz.func75 Yqt HH 300 wtimC fun args k h=>?_
 simp only[wtimC]at h
 split at h
 ·rename_i t1 z1 n sz get t2 z2 m sz' get'
  obtain⟨a,b,⟨⟨rfl,hn,ha,hg⟩,⟨rfl,hm,hb,hg'⟩,hnm⟩,h⟩:=h
  refine⟨[.vs t1 z1 n 1 (fun k=>[.int .u32 (dig a k)]),.vs t2 z2 m 1 (fun k=>[.int .u32 (dig b k)])],⟨by simpa [le]using hg,by simpa [le]using hg',trivial⟩,?_⟩
  dsimp only[v75,WD1,Yk,Vc,go_sem,reduceIte,Ya]
  simp only[Yd,Ya,Ye,reduceCtorEq,Yc]
  obtain⟨N,hNn⟩:∃N,N=n+m:=⟨_,rfl⟩
  obtain⟨X,hX⟩:∃X,X=a*b:=⟨_,rfl⟩
  have en:IntKind.i64.wrap ((n:Int)+(m:Int))=(N:Int):=by rw[hNn,Yg _ (by omega)];omega
  rw[en]
  simp only[Yj]
  refine⟨⟨by decide,by omega,by omega,by unfold Y8;omega⟩,?_⟩
  refine Loop.keep [0,0,3,12,0] Nat (fun i=>[(20,.int .i64 i)]) (fun i=>[(0,.own false 1 N (fun k=>[.int .u32 (dig ((a%4294967296^i)*b) k)]))]) [] (fun i=>i<=n) (fun i=>n-i) ?_ ?_
  ·refine⟨0,by omega,?_⟩
   dsimp only[go_sem,reduceIte,Ya]
   simp only[Yf]
   simp [Nat.mod_one,Ml,leL,le]
  ·rintro i hi
   dsimp only[WD1,Yk,Vc,Yj,go_sem,reduceIte,Ya]
   simp only[Yd,Ya,Ye,reduceCtorEq,Yc]
   have hrow:∀i,(a%4294967296^i)*b<4294967296^(i+m):=fun i=>by
    rw[Yo]
    exact Nat.mul_lt_mul_of_lt_of_le (Kj _ (Kk i)) (JZ hb) (Kk m)
   refine⟨fun hlt=>?_,fun hge=>?_⟩
   ·refine⟨⟨by omega,by omega⟩,?_⟩
    refine Loop.keep [0,0,3,0,0,10,0,0,4,0] (Nat×Nat×Nat) (fun x=>[(8,.int .u64 x.2.2),(27,.int .i64 x.1)]) (fun x=>[(0,.own false 1 N (fun k=>[.int .u32 (dig x.2.1 k)]))]) [] (fun x=>x.1<=m/\x.2.2<4294967296/\x.2.1<4294967296^(i+m)/\x.2.1+x.2.2*4294967296^(i+x.1)=(a%4294967296^i)*b+dig a i*(b%4294967296^x.1)*4294967296^i) (fun x=>m-x.1) ?_ ?_
    ·refine⟨(0,(a%4294967296^i)*b,0),⟨by simp only;omega,by simp only;omega,hrow i,by simp [Nat.mod_one]⟩,?_⟩
     dsimp only[go_sem,reduceIte,Ya]
     simp only[Yf]
     try simp [leL,le]
    ·rintro⟨t,V,c⟩ ⟨ht,hc,hV,he⟩
     dsimp only at ht hc hV he
     dsimp only[Yj,go_sem,reduceIte,Ya]
     simp only[Yd,Ya,Ye,reduceCtorEq,Yc]
     refine⟨fun hlt2=>?_,fun hge2=>?_⟩
     ·have w1:IntKind.i64.wrap ((i:Int)+(t:Int))=((i+t:Nat):Int):=by rw[Yg _ (by omega)];simp
      rw[w1]
      simp only[Yj]
      have hd0:=QH V (i+t)
      have hd1:=QH a i
      have hd2:=QH b t
      obtain⟨hb1,hb2⟩:=YjU hd0 (QH a i) (QH b t) hc
      have hs:=OE he
      refine⟨⟨by omega,by omega⟩,⟨by omega,by omega⟩,by omega,by decide,⟨by omega,by omega⟩,by omega,
       (t+1,Qe V (i+t) ((dig V (i+t)+dig a i*dig b t+c)%4294967296),(dig V (i+t)+dig a i*dig b t+c)/4294967296),⟨by simp only;omega,hb2,PD hV (Kj _ (by decide)) (by omega),hs⟩,by simp only;omega,?_⟩
      rw[Xo (by omega:dig V (i+t)<18446744073709551616),Xo (by omega:dig a i<18446744073709551616),Xo (by omega:dig b t<18446744073709551616),NL (by omega),UU (by omega),UU (by omega),HB,AS,Yg ((t:Int)+1) (by omega)]
      simp only[Yf]
      refine⟨by simp,fun j hj=>?_⟩
      rw[Mk (Kj _ (by decide))]
      split <;> simp only[leL,le,and_self]
     ·obtain rfl:t=m:=by omega
      have w1:IntKind.i64.wrap ((i:Int)+(t:Int))=((i+t:Nat):Int):=by rw[Yg _ (by omega)];simp
      rw[w1]
      simp only[Yj]
      rw[QB hb]at he
      have hrow2:(a%4294967296^(i+1))*b=Qe V (i+t) c:=by
       rw[YbN hV,he,Xx,YM,YA,Yl (4294967296^i)]
      refine⟨⟨by omega,by omega⟩,by omega,i+1,by omega,by omega,?_⟩
      rw[P8 hc,hrow2,Yg ((i:Int)+1) (by omega)]
      simp only[Yf]
      refine⟨by simp,fun j hj=>?_⟩
      rw[Mk hc]
      split <;> simp only[leL,le,and_self]
   ·obtain rfl:i=n:=by omega
    have hmi:a%4294967296^i=a:=QB ha
    have hXN:X<4294967296^N:=by
     have:=hrow i
     rw[hmi]at this
     rw[hX,hNn];exact this
    rw[hmi,<-hX]
    rw[<-hX]at h
    refine Loop.keep [0] Nat (fun j=>[(0,.own 0 0 j 1)]) (fun _=>[(0,.own false 1 N (fun k=>[.int .u32 (dig X k)]))]) [] (fun j=>j<=N/\X<4294967296^j) (fun j=>j) ?_ ?_
    ·refine⟨N,⟨Yt _,hXN⟩,?_⟩
     dsimp only[go_sem,reduceIte,Ya]
     simp only[Yf]
     simp [leL,le]
    ·rintro j ⟨hj,haj⟩
     dsimp only[Yj,go_sem,reduceIte,Ya]
     simp only[Yd,Ya,Ye,reduceCtorEq,Yc]
     refine⟨fun hlt=>?_,fun hlt=>?_,fun hb=>?_,fun hb=>?_⟩
     ·rw[Y9 (by omega) (by omega)];omega
     ·rw[Y9 (by omega) (by omega)];omega
     ·rw[YS,decide_eq_true_eq,decide_eq_true_eq]at hb
      obtain⟨h1,h2⟩:=hb
      rw[Y9 (by omega) (by omega),Yj]at h2
      refine⟨by rw[Y9 (by omega) (by omega)];omega,j-1,⟨by omega,?_⟩,by omega,?_⟩
      ·obtain⟨m,rfl⟩:∃m,j=m+1:=⟨j-1,by omega⟩
       exact Vq haj (by simp at h2;exact_mod_cast h2)
      ·rw[Y9 (by omega) (by omega)]
       simp only[Yf] <;> simp [leL,le]
     ·have e:nl X=j:=by
       refine W6 haj ?_
       rw[Wn,decide_eq_false_iff_not,decide_eq_false_iff_not]at hb
       rcases Jc j with h0|h0
       ·exact .inl h0
       ·refine .inr fun hh=>hb.elim (fun h=>h (by omega)) fun h=>h ?_
        rw[Y9 h0 (by omega),Yj,hh];rfl
      subst e
      exact WK h rfl rfl rfl fun j hj=>rfl
 ·exact h.1.elim
def wupC:Ctr:={ alias:=false,of:=fun l=>match l with
 | [.vs _ _ n sz get,.int .i64 s]=> .ex Nat fun a=> .ex Nat fun d=> .pre (K9 a n sz get/\n=nl a/\n<=9999/\s=d/\d<=20000) (.all Bool fun z=> .fin (Yv (z&&decide (a*2^d=0)) (a*2^d)) [])
 |_=>noC}
def wdownC:Ctr:={ alias:=false,of:=fun l=>match l with
 | [.vs _ _ n sz get,.int .i64 s]=> .ex Nat fun a=> .ex Nat fun d=> .pre (K9 a n sz get/\n<=9999/\s=d/\d<=20000) (.all Bool fun z=> .fin (Yv (z&&decide (a/2^d=0)) (a/2^d)) [])
 |_=>noC}
theorem R4{k:SV->List HO->Prop}{al:Bool}{hp:List HO}(h:k (Yv true 0) []):Jz al k .nil hp:=
 Kv h (by show le 0 0 (JX true hp (viewN true hp 2) .nil) _;unfold JX;simp [Yv,WF,le]) (fun _=>by simp [Yv,Y3,Y5])
theorem YkK{x y:Nat}(hx:x<4294967296)(hy:y<4294967296):JR .or .u64 (x:Int) (IntKind.u64.wrap ((y:Int)*2^min (Xs 32) 64))=((x+y*4294967296:Nat):Int):=by
 have e:IntKind.u64.wrap ((y:Int)*2^min (Xs 32) 64)=((y*4294967296:Nat):Int):=PF (s:=32) (by decide) (by omega)
 rw[e,show JR .or .u64 (x:Int) ((y*4294967296:Nat):Int)=((x||| y*4294967296:Nat):Int)from Yae (by omega) (by omega)]
 have:=Nat.two_pow_add_eq_or_of_lt (i:=32) hx y
 rw[Nat.or_comm,Yl,show(4294967296:Nat)=2^32 from rfl,<-this,Nat.add_comm]
theorem YjP{y r:Nat}(h:r<32):y%(4294967296*4294967296)/2^r%4294967296=y/2^r%4294967296:=by
 have e:(4294967296*4294967296:Nat)=2^r*(4294967296*2^(32-r)):=by
  rw[show(4294967296:Nat)=2^32 from rfl,<-Yo,<-Yo,<-Yo];congr 1;omega
 rw[e,Nat.mod_mul_right_div_self,Nat.mod_mul_right_mod]
theorem Tl{a d w r:Nat}(hw:w=d/32)(hr:r=d%32)(i:Nat):dig (a/2^d) i=(dig a (i+w)+dig a (i+w+1)*4294967296)/2^r%4294967296:=by
 have e:dig a (i+w)+dig a (i+w+1)*4294967296=a/4294967296^(i+w)%(4294967296*4294967296):=by
  unfold dig
  rw[Jr,<-K8]
  generalize a/4294967296^(i+w)=y
  omega
 rw[e,YjP (by omega)]
 unfold dig
 have e2:2^d*4294967296^i=4294967296^(i+w)*2^r:=by
  rw[GL,GL,<-Yo,<-Yo];congr 1;omega
 rw[K8,K8,e2]
theorem Ygt{a d w n N:Nat}(hw:w=d/32)(hN:N=n-w)(hwn:w<n)(ha:a<4294967296^n):a/2^d<4294967296^N:=by
 rw[WH (Jh d)]
 refine Qt ha ?_
 rw[GL,GL,<-Yo]
 exact Kp (by decide) (by omega)
theorem P7{d w r:Nat}(hw:w=d/32)(hr:r=d%32):2^d=2^r*4294967296^w:=by
 rw[GL,<-Yo];congr 1;omega
theorem Yjw(x:Nat){r:Nat}(hr:r<32):x*2^r%4294967296=2^r*(x%2^(32-r)):=by
 have e:(4294967296:Nat)=2^r*2^(32-r):=by
  rw[<-Yo,show r+(32-r)=32 by omega]
 rw[Yl x,e,Nat.mul_mod_mul_left]
theorem YoK{a d w r:Nat}(hw:w=d/32)(hr:r=d%32)(i:Nat):
 (dig ((a%4294967296^i)*2^d) (i+w) ||| dig a i*2^r%4294967296)<4294967296/\(a%4294967296^(i+1))*2^d=Qe (Qe ((a%4294967296^i)*2^d) (i+w) (dig ((a%4294967296^i)*2^d) (i+w) ||| dig a i*2^r%4294967296)) (i+w+1) (dig a i*2^r/4294967296):=by
 have hr32:r<32:=by omega
 have hb:(dig ((a%4294967296^i)*2^d) (i+w) ||| dig a i*2^r%4294967296)<4294967296:=Nat.or_lt_two_pow (n:=32) (QH _ _) (Kj _ (by decide))
 refine⟨hb,?_⟩
 have hY:(a%4294967296^i)*2^d<4294967296^(i+w)*2^r:=by
  rw[P7 hw hr,<-YA,Vh,Yo]
  exact ZB (ZB (Kj _ (Kk i)) (Kk w)) (Jh r)
 have h2r:2^r<4294967296:=Nat.pow_lt_pow_right (a:=2) (n:=32) (by decide) hr32
 have hYl:(a%4294967296^i)*2^d<4294967296^(i+w+1):=by
  rw[Jr]
  exact Qt hY (Yz _ (JZ h2r))
 have hd0:dig ((a%4294967296^i)*2^d) (i+w)<2^r:=by
  unfold dig
  refine JC (Nat.mod_le _ _) ?_
  rw[WH (Kk _),Yl (2^r)]
  exact hY
 have hor:(dig ((a%4294967296^i)*2^d) (i+w) ||| dig a i*2^r%4294967296)=dig ((a%4294967296^i)*2^d) (i+w)+dig a i*2^r%4294967296:=by
  rw[Yjw _ hr32,Nat.or_comm,<-Nat.two_pow_add_eq_or_of_lt hd0,Nat.add_comm]
 rw[YbN (PD hYl hb (by omega))]
 have e1:=ND ((a%4294967296^i)*2^d) (i+w) (dig ((a%4294967296^i)*2^d) (i+w) ||| dig a i*2^r%4294967296)
 rw[hor,YM]at e1
 rw[hor]
 have e2:(a%4294967296^(i+1))*2^d=(a%4294967296^i)*2^d+dig a i*2^r*4294967296^(i+w):=by
  rw[Xx,YM,Yo,P7 hw hr]
  congr 1
  simp only[YA,Jd,Yl]
 have e3:dig a i*2^r*4294967296^(i+w)=dig a i*2^r%4294967296*4294967296^(i+w)+dig a i*2^r/4294967296*4294967296^(i+w+1):=by
  rw[Jr,Yl (4294967296^(i+w)) 4294967296,<-YA,<-YM]
  congr 1
  omega
 rw[e2,e3]
 omega
theorem YnS{x:Nat}(hx:x<4294967296){r:Nat}(h:r<32):IntKind.u64.wrap ((x:Int)*2^min (Xs (IntKind.u64.wrap (r:Int))) 64)=((x*2^r:Nat):Int):=by
 have h2r:2^r<4294967296:=Nat.pow_lt_pow_right (a:=2) (n:=32) (by decide) h
 have:x*2^r<=4294967295*4294967295:=YX (by omega) (by omega)
 rw[Xo (by omega),Yj];exact PF (by omega) (by omega)
theorem Yfm{x y:Nat}(hx:x<4294967296)(hy:y<4294967296):JR .or .u32 (x:Int) (y:Int)=((x||| y:Nat):Int):=YkL hx hy
theorem YbZ(x:Nat){r:Nat}(h:r<32):(x:Int).fdiv (2^min (Xs (IntKind.u64.wrap (r:Int))) 64)=((x/2^r:Nat):Int):=by
 rw[Xo (by omega),Yj];exact NH (by omega)
theorem Yrf:wdownC.ok Yb 157:=by
 refine Yy Tryz.func157 YpB HH 300 wdownC fun args k h=>?_
 simp only[wdownC]at h
 split at h
 ·rename_i t1 z1 n sz get s
  obtain⟨a,d,⟨⟨rfl,hn,ha,hg⟩,hn9,rfl,hd⟩,h⟩:=h
  refine⟨[.vs t1 z1 n 1 (fun k=>[.int .u32 (dig a k)]),.int .i64 d],⟨by simpa [le]using hg,⟨rfl,rfl⟩,trivial⟩,?_⟩
  dsimp only[Ydj,WD1,Yk,Vc,go_sem,reduceIte,Ya]
  simp only[Yd,Ya,Ye,reduceCtorEq,Yc]
  obtain⟨w,hw⟩:∃w,w=d/32:=⟨_,rfl⟩
  obtain⟨r,hr⟩:∃r,r=d%32:=⟨_,rfl⟩
  have hr32:r<32:=by rw[hr];exact Kj _ (by decide)
  have ew:IntKind.i64.wrap ((d:Int).tdiv 32)=(w:Int):=by
   have:(d:Int).tdiv 32=((d/32:Nat):Int):=Wq (y:=32) rfl rfl
   rw[this,hw,Yg _ (by omega)]
  have er:(d:Int).tmod 32=(r:Int):=by rw[hr];exact VI (y:=32) rfl rfl
  obtain⟨X,hX⟩:∃X,X=a/2^d:=⟨_,rfl⟩
  rw[ew,er]
  refine⟨by decide,by decide,fun hc=>?_,fun hc=>?_⟩
  ·have:a/2^d=0:=by
    rw[QN]
    refine Qt ha ?_
    rw[GL]
    exact Kp (by decide) (by omega)
   rw[this]at h
   exact R4 (show k _ []from h true)
  ·obtain⟨N,hNn⟩:∃N,N=n-w:=⟨_,rfl⟩
   have en:IntKind.i64.wrap ((n:Int)-(w:Int))=(N:Int):=by rw[hNn,Yg _ (by omega)];omega
   rw[en]
   simp only[Yj]
   have hXN:X<4294967296^N:=by rw[hX];exact Ygt hw hNn (by omega) ha
   refine⟨⟨by decide,by omega,by omega,by unfold Y8;omega⟩,?_⟩
   refine Loop.keep [0,4,0,0,16,0] Nat (fun i=>[(26,.int .i64 i)]) (fun i=>[(0,.own false 1 N (fun k=>[.int .u32 (dig (X%4294967296^i) k)]))]) [] (fun i=>i<=N) (fun i=>N-i) ?_ ?_
   ·refine⟨0,by omega,?_⟩
    dsimp only[go_sem,reduceIte,Ya]
    simp only[Yf]
    simp [Nat.mod_one,Ml,leL,le]
   ·rintro i hi
    dsimp only[WD1,Yk,Vc,Yj,go_sem,reduceIte,Ya]
    simp only[Yd,Ya,Ye,reduceCtorEq,Yc]
    refine⟨fun hlt=>?_,fun hge=>?_⟩
    ·have w1:IntKind.i64.wrap ((i:Int)+(w:Int))=((i+w:Nat):Int):=by rw[Yg _ (by omega)];simp
     have w2:IntKind.i64.wrap (((i+w:Nat):Int)+1)=((i+w+1:Nat):Int):=by rw[Yg _ (by omega)];simp
     rw[w1,w2]
     simp only[Yj]
     have hd1:=QH a (i+w)
     have hd2:=QH a (i+w+1)
     refine⟨⟨by omega,by omega⟩,fun hc2=>⟨⟨by omega,by omega⟩,by decide,by rw[Xo (by omega)];omega,⟨by omega,by omega⟩,by omega,i+1,by omega,by omega,?_⟩,fun hc2=>⟨by rw[Xo (by omega)];omega,⟨by omega,by omega⟩,by omega,i+1,by omega,by omega,?_⟩⟩
     ·rw[Xo (by omega:dig a (i+w)<18446744073709551616),Xo (by omega:dig a (i+w+1)<18446744073709551616),YkK hd1 hd2,YbZ _ hr32,HB,<-Tl hw hr,Yg ((i:Int)+1) (by omega)]
      simp only[Yf]
      refine⟨by simp,fun j hj=>?_⟩
      rw[Gc,Gc,hX]
      by_cases hji:j=i
      ·rw[if_pos hji,if_pos (by omega),hji];simp only[leL,le,and_self]
      ·rw[if_neg hji];simp only[show(j<i+1)↔(j<i)from by omega];simp only[leL,le,and_self]
     ·have hz:dig a (i+w+1)=0:=ZM ha (by omega)
      have hdd:= @Tl a d w r hw hr i
      rw[hz,JP,KO]at hdd
      rw[Xo (by omega:dig a (i+w)<18446744073709551616),YbZ _ hr32,HB,<-hdd,Yg ((i:Int)+1) (by omega)]
      simp only[Yf]
      refine⟨by simp,fun j hj=>?_⟩
      rw[Gc,Gc,hX]
      by_cases hji:j=i
      ·rw[if_pos hji,if_pos (by omega),hji];simp only[leL,le,and_self]
      ·rw[if_neg hji];simp only[show(j<i+1)↔(j<i)from by omega];simp only[leL,le,and_self]
    ·obtain rfl:i=N:=by omega
     rw[QB hXN]
     have h:k (Yv false X) []:=by rw[hX];exact h false
     obtain⟨N,rfl⟩:∃N,N=i:=⟨_,rfl⟩
     refine Loop.keep [0] Nat (fun j=>[(0,.own 0 0 j 1)]) (fun _=>[(0,.own false 1 N (fun k=>[.int .u32 (dig X k)]))]) [] (fun j=>j<=N/\X<4294967296^j) (fun j=>j) ?_ ?_
     ·refine⟨N,⟨Yt _,hXN⟩,?_⟩
      dsimp only[go_sem,reduceIte,Ya]
      simp only[Yf]
      simp [leL,le]
     ·rintro j ⟨hj,haj⟩
      dsimp only[Yj,go_sem,reduceIte,Ya]
      simp only[Yd,Ya,Ye,reduceCtorEq,Yc]
      refine⟨fun hlt=>?_,fun hlt=>?_,fun hb=>?_,fun hb=>?_⟩
      ·rw[Y9 (by omega) (by omega)];omega
      ·rw[Y9 (by omega) (by omega)];omega
      ·rw[YS,decide_eq_true_eq,decide_eq_true_eq]at hb
       obtain⟨h1,h2⟩:=hb
       rw[Y9 (by omega) (by omega),Yj]at h2
       refine⟨by rw[Y9 (by omega) (by omega)];omega,j-1,⟨by omega,?_⟩,by omega,?_⟩
       ·obtain⟨m,rfl⟩:∃m,j=m+1:=⟨j-1,by omega⟩
        exact Vq haj (by simp at h2;exact_mod_cast h2)
       ·rw[Y9 (by omega) (by omega)]
        simp only[Yf] <;> simp [leL,le]
      ·have e:nl X=j:=by
        refine W6 haj ?_
        rw[Wn,decide_eq_false_iff_not,decide_eq_false_iff_not]at hb
        rcases Jc j with h0|h0
        ·exact .inl h0
        ·refine .inr fun hh=>hb.elim (fun h=>h (by omega)) fun h=>h ?_
         rw[Y9 h0 (by omega),Yj,hh];rfl
       subst e
       exact WK h rfl rfl rfl fun j hj=>rfl
 ·exact h.1.elim
theorem Yrl:wupC.ok Yb 158:=by
 refine Yy Tryz.func158 YpC HH 300 wupC fun args k h=>?_
 simp only[wupC]at h
 split at h
 ·rename_i t1 z1 n sz get s
  obtain⟨a,d,⟨⟨rfl,hn,ha,hg⟩,hna,hn9,rfl,hd⟩,h⟩:=h
  refine⟨[.vs t1 z1 n 1 (fun k=>[.int .u32 (dig a k)]),.int .i64 d],⟨by simpa [le]using hg,⟨rfl,rfl⟩,trivial⟩,?_⟩
  dsimp only[Ydk,WD1,Yk,Vc,go_sem,reduceIte,Ya]
  simp only[Yd,Ya,Ye,reduceCtorEq,Yc]
  obtain⟨w,hw⟩:∃w,w=d/32:=⟨_,rfl⟩
  obtain⟨r,hr⟩:∃r,r=d%32:=⟨_,rfl⟩
  have hr32:r<32:=by rw[hr];exact Kj _ (by decide)
  have ew:IntKind.i64.wrap ((d:Int).tdiv 32)=(w:Int):=by
   have:(d:Int).tdiv 32=((d/32:Nat):Int):=Wq (y:=32) rfl rfl
   rw[this,hw,Yg _ (by omega)]
  have er:(d:Int).tmod 32=(r:Int):=by rw[hr];exact VI (y:=32) rfl rfl
  obtain⟨X,hX⟩:∃X,X=a*2^d:=⟨_,rfl⟩
  rw[ew,er]
  refine⟨fun hc=>?_,fun hc=>⟨by decide,by decide,?_⟩⟩
  ·obtain rfl:n=0:=by omega
   have:a=0:=by simpa using ha
   rw[this,JP]at h
   exact R4 (show k _ []from h true)
  ·obtain⟨N,hNn⟩:∃N,N=n+w+1:=⟨_,rfl⟩
   have en:IntKind.i64.wrap (IntKind.i64.wrap ((n:Int)+(w:Int))+1)=(N:Int):=by rw[hNn,Yg ((n:Int)+w) (by omega),Yg _ (by omega)];omega
   rw[en]
   simp only[Yj]
   refine⟨⟨by decide,by omega,by omega,by unfold Y8;omega⟩,?_⟩
   refine Loop.keep [0,4,0,0,17,0] Nat (fun i=>[(27,.int .i64 i)]) (fun i=>[(0,.own false 1 N (fun k=>[.int .u32 (dig ((a%4294967296^i)*2^d) k)]))]) [] (fun i=>i<=n) (fun i=>n-i) ?_ ?_
   ·refine⟨0,by omega,?_⟩
    dsimp only[go_sem,reduceIte,Ya]
    simp only[Yf]
    simp [Nat.mod_one,Ml,leL,le]
   ·rintro i hi
    dsimp only[WD1,Yk,Vc,Yj,go_sem,reduceIte,Ya]
    simp only[Yd,Ya,Ye,reduceCtorEq,Yc]
    refine⟨fun hlt=>?_,fun hge=>?_⟩
    ·have w1:IntKind.i64.wrap ((i:Int)+(w:Int))=((i+w:Nat):Int):=by rw[Yg _ (by omega)];simp
     have w2:IntKind.i64.wrap (((i+w:Nat):Int)+1)=((i+w+1:Nat):Int):=by rw[Yg _ (by omega)];simp
     rw[w1,w2]
     simp only[Yj]
     have hd1:=QH a i
     obtain⟨s1,s2⟩:= @YoK a d w r hw hr i
     refine⟨⟨by omega,by omega⟩,by rw[Xo (by omega)];omega,⟨by omega,by omega⟩,by omega,⟨by omega,by omega⟩,by omega,by decide,⟨by omega,by omega⟩,by omega,i+1,by omega,by omega,?_⟩
     rw[Xo (by omega:dig a i<18446744073709551616),YnS hd1 hr32,HB,AS,Yfm (QH _ _) (Kj _ (by decide)),P8 (by
      have h2r:2^r<4294967296:=Nat.pow_lt_pow_right (a:=2) (n:=32) (by decide) hr32
      have:dig a i*2^r<=4294967295*4294967295:=YX (by omega) (by omega)
      omega),Yg ((i:Int)+1) (by omega)]
     simp only[Yf]
     refine⟨by simp,fun j hj=>?_⟩
     have hhi:dig a i*2^r/4294967296<4294967296:=by
      have h2r:2^r<4294967296:=Nat.pow_lt_pow_right (a:=2) (n:=32) (by decide) hr32
      have:dig a i*2^r<=4294967295*4294967295:=YX (by omega) (by omega)
      omega
     rw[s2,Mk hhi,Mk s1]
     by_cases hj1:j=i+w+1
     ·rw[if_pos hj1,if_pos hj1,if_neg (by omega)]
      simp [J6,leL,le]
     ·rw[if_neg hj1,if_neg hj1]
      split <;> simp only[leL,le,and_self]
    ·obtain rfl:i=n:=by omega
     rw[QB ha,<-hX]
     have h:k (Yv false X) []:=by rw[hX];exact h false
     have hXN:X<4294967296^N:=by
      have h2r:2^r<4294967296:=Nat.pow_lt_pow_right (a:=2) (n:=32) (by decide) hr32
      rw[hX,P7 hw hr,hNn,Jr,Yo,YA,Yl _ (4294967296^w)]
      exact Nat.mul_lt_mul_of_lt_of_le ha (Yz _ (JZ h2r)) (Y1 (Kk w) (by decide))
     refine Loop.keep [0] Nat (fun j=>[(0,.own 0 0 j 1)]) (fun _=>[(0,.own false 1 N (fun k=>[.int .u32 (dig X k)]))]) [] (fun j=>j<=N/\X<4294967296^j) (fun j=>j) ?_ ?_
     ·refine⟨N,⟨Yt _,hXN⟩,?_⟩
      dsimp only[go_sem,reduceIte,Ya]
      simp only[Yf]
      simp [leL,le]
     ·rintro j ⟨hj,haj⟩
      dsimp only[Yj,go_sem,reduceIte,Ya]
      simp only[Yd,Ya,Ye,reduceCtorEq,Yc]
      refine⟨fun hlt=>?_,fun hlt=>?_,fun hb=>?_,fun hb=>?_⟩
      ·rw[Y9 (by omega) (by omega)];omega
      ·rw[Y9 (by omega) (by omega)];omega
      ·rw[YS,decide_eq_true_eq,decide_eq_true_eq]at hb
       obtain⟨h1,h2⟩:=hb
       rw[Y9 (by omega) (by omega),Yj]at h2
       refine⟨by rw[Y9 (by omega) (by omega)];omega,j-1,⟨by omega,?_⟩,by omega,?_⟩
       ·obtain⟨m,rfl⟩:∃m,j=m+1:=⟨j-1,by omega⟩
        exact Vq haj (by simp at h2;exact_mod_cast h2)
       ·rw[Y9 (by omega) (by omega)]
        simp only[Yf] <;> simp [leL,le]
      ·have e:nl X=j:=by
        refine W6 haj ?_
        rw[Wn,decide_eq_false_iff_not,decide_eq_false_iff_not]at hb
        rcases Jc j with h0|h0
        ·exact .inl h0
        ·refine .inr fun hh=>hb.elim (fun h=>h (by omega)) fun h=>h ?_
         rw[Y9 h0 (by omega),Yj,hh];rfl
       subst e
       exact WK h rfl rfl rfl fun j hj=>rfl
 ·exact h.1.elim
def v73:VF:=⟨7,[.tmp 2],(ZR [Zi 2 0] (.seq (ZR [Zm 3 0,u1 4 (.call 107) [.tm 3,.cn (.fn (.func 108) [] [])]] (ZC 4 (ZR [Zi 2 3] .ret) .skip)) (.seq (ZR [Zm 5 0,u1 6 (.call 107) [.tm 5,.cn (.fn (.func 109) [] [])]] (ZC 6 (ZR [Zi 2 2] .ret) .skip)) (ZR [Zi 2 0] .ret))))⟩
theorem Yqs:Yn Yb Tryz.f73=some v73:=by kernel_rfl
def Re:VF:={ ntmps:=6,res:=[.tmp 2],body:=
 (ZR [u1 2 .mov [.cn (.bool false)]]
 (ZR [Zm 3 0,
 Zl 4 3,
 Zq 5 .gtr 4 512,
 Zm 2 5]
 .ret))}
theorem YoT:Yn Yb Tryz.f108=some Re:=by kernel_rfl
def Rf:VF:={ ntmps:=6,res:=[.tmp 2],body:=
 (ZR [u1 2 .mov [.cn (.bool false)]]
 (ZR [Zm 3 0,
 Zc 4 110 3,
 u1 5 .not [.tm 4],
 Zm 2 5]
 .ret))}
theorem YoU:Yn Yb Tryz.f109=some Rf:=by kernel_rfl
def YcH:VF:={ ntmps:=20,res:=[.tmp 2],body:=
 (ZR [u1 2 .mov [.cn (.bool false)]]
 (ZR [Zm 3 0,
 Zl 4 3,
 Zq 5 .leq 4 512,
 Zm 6 5,
 Zg 7 6 true 0,
 u2 8 6 true .len [.tm 7],
 u2 9 6 true (.cmp .eql) [.tm 8,.cn (.int .i64 0)],
 Zg 10 6 true 9,
 Zg 11 10 false 0,
 Zg 12 10 false 0,
 u2 13 10 false .len [.tm 12],
 u2 14 10 false (.ari .sub) [.tm 13,.cn (.int .i64 1)],
 u2 15 10 false (.idxAddr 1) [.tm 11,.tm 14],
 Zh 16 10 false 1 15,
 u2 17 10 false (.cmp .neq) [.tm 16,.cn (.int .u32 0)],
 u2 18 6 true .or [.tm 10,.tm 17],
 u1 19 .and [.tm 6,.tm 18],
 Zm 2 19]
 .ret))}
theorem YoV:Yn Yb Tryz.f110=some YcH:=by kernel_rfl
def v76:VF:=⟨9,[.tmp 2,.tmp 3],(ZR [u1 2 .mov [.cn .nil],Zi 3 0] (.seq (ZR [Zm 4 0,Zl 5 4,Zq 6 .gtr 5 512] (ZC 6 (ZR [u1 2 .mov [.cn .nil],Zi 3 3] .ret) .skip)) (ZR [Zm 7 0,Zc 8 113 7,Zm 2 8,Zi 3 0] .ret)))⟩
theorem Yqu:Yn Yb Tryz.f76=some v76:=by kernel_rfl
def v43:VF:=⟨17,[.tmp 4,.tmp 5],(ZR [Zi 4 0,Zi 5 0] (.seq (ZR [Zm 7 0,Zm 8 1,u1 9 (.buildSlice 1 2 [.nil] [(0,1),(1,1)]) [.tm 7,.tm 8],Zc 10 73 9,Zm 6 10] (ZR [Zm 11 6,Zq 12 .neq 11 0] (ZC 12 (ZR [Zm 13 6,Zi 4 0,Zm 5 13] .ret) .skip))) (ZR [Zm 14 0,Zm 15 1,Zd 16 77 14 15,Zm 4 16,Zi 5 0] .ret)))⟩
theorem YpX:Yn Yb Tryz.f43=some v43:=by kernel_rfl
def Ydh:VF:={ ntmps:=37,res:=[.tmp 4,.tmp 5],body:=
 (ZR [u1 4 .mov [.cn .nil],
 Zi 5 0]
 (ZR [Zm 7 0,
 u1 8 (.buildSlice 1 1 [.nil] [(0,1)]) [.tm 7],
 Zc 9 73 8,
 Zm 6 9]
 (.seq (.block 0 (ZR [Zm 11 6,
 Zq 12 .neq 11 0,
 Zm 10 12]
 (ZC 10 (ZR [Zm 13 6,
 u1 4 .mov [.cn .nil],
 Zm 5 13]
 .ret)
  (ZR [Zm 15 1,
 Zq 16 .lss 15 (-20000),
 Zm 17 16,
 Zg 18 17 false 1,
 u2 19 17 false (.cmp .gtr) [.tm 18,.cn (.int .i64 20000)],
 u1 20 .or [.tm 17,.tm 19],
 Zm 14 20]
 (ZC 14 (ZR [u1 4 .mov [.cn .nil],
 Zi 5 2]
 .ret)
  (ZR [Zm 22 1,
 Zq 23 .lss 22 0,
 Zm 21 23]
 (ZC 21 (ZR [Zm 24 0,
 Zm 25 1,
 u1 26 .neg [.tm 25],
 Zd 27 157 24 26,
 Zc 28 76 27,
 Ze 29 0 28,
 Ze 30 1 28,
 Zm 4 29,
 Zm 5 30]
 .ret)
  .skip)))))))
 (ZR [Zm 31 0,
 Zm 32 1,
 Zd 33 158 31 32,
 Zc 34 76 33,
 Ze 35 0 34,
 Ze 36 1 34,
 Zm 4 35,
 Zm 5 36]
 .ret))))}
theorem Ypz:Yn Yb Tryz.f155=some Ydh:=by kernel_rfl
def Yde:VF:={ ntmps:=20,res:=[.tmp 4,.tmp 5],body:=
 (ZR [u1 4 .mov [.cn .nil],
 Zi 5 0]
 (.seq (ZR [Zm 7 0,
 Zm 8 1,
 u1 9 (.buildSlice 1 2 [.nil] [(0,1),(1,1)]) [.tm 7,.tm 8],
 Zc 10 73 9,
 Zm 6 10]
 (ZR [Zm 11 6,
 Zq 12 .neq 11 0]
 (ZC 12 (ZR [Zm 13 6,
 u1 4 .mov [.cn .nil],
 Zm 5 13]
 .ret)
  .skip)))
 (ZR [Zm 14 0,
 Zm 15 1,
 Zd 16 156 14 15,
 Zc 17 76 16,
 Ze 18 0 17,
 Ze 19 1 17,
 Zm 4 18,
 Zm 5 19]
 .ret)))}
theorem Ypw:Yn Yb Tryz.f152=some Yde:=by kernel_rfl
def v40:VF:=⟨20,[.tmp 4,.tmp 5],(ZR [u1 4 .mov [.cn .nil],Zi 5 0] (.seq (ZR [Zm 7 0,Zm 8 1,u1 9 (.buildSlice 1 2 [.nil] [(0,1),(1,1)]) [.tm 7,.tm 8],Zc 10 73 9,Zm 6 10] (ZR [Zm 11 6,Zq 12 .neq 11 0] (ZC 12 (ZR [Zm 13 6,u1 4 .mov [.cn .nil],Zm 5 13] .ret) .skip))) (ZR [Zm 14 0,Zm 15 1,Zd 16 75 14 15,Zc 17 76 16,Ze 18 0 17,Ze 19 1 17,Zm 4 18,Zm 5 19] .ret)))⟩
theorem YpU:Yn Yb Tryz.f40=some v40:=by kernel_rfl
def Cb:VF:={ ntmps:=9,res:=[.tmp 4],body:=
 (ZR [u1 4 .mov [.cn (.bool false)]]
 (ZR [Zm 5 0,
 Zm 6 1,
 Zd 7 135 5 6,
 Zq 8 .geq 7 0,
 Zm 4 8]
 .ret))}
theorem YoS:Yn Yb Tryz.f107=some Cb:=by kernel_rfl
def Cd:VF:={ ntmps:=19,res:=[.tmp 4],body:=
 (ZR [Zi 4 0]
 (.seq (ZR [Zm 6 0,
 Zl 7 6,
 Zi 8 0]
 (.block 0 (.loop (ZR [Zr 9 .lss 8 7]
 (.seq (ZC 9 .skip
  (.exit 0))
 (.seq (.block 1 (ZR [Zm 10 8,
 Zm 5 10]
 (ZR [Zm 11 1,
 Zm 12 0,
 Zm 13 5,
 Zx 14 1 12 13,
 Zf 15 1 14,
 u1 16 .callv [.tm 11,.tm 15]]
 (ZC 16 (ZR [Zm 17 5,
 Zm 4 17]
 .ret)
  .skip))))
 (.region [Zp 18 8 1,
 Zm 8 18])))))))
 (ZR [Zi 4 (-1)]
 .ret)))}
theorem Ypi:Yn Yb Tryz.f135=some Cd:=by kernel_rfl
def Rg:VF:={ ntmps:=8,res:=[.tmp 2],body:=
 (ZR [u1 2 .mov [.cn .nil]]
 (.seq (ZR [Zm 3 0,
 u1 4 (.isNil false) [.tm 3,.cn .nil]]
 (ZC 4 (ZR [u1 2 .mov [.cn .nil]]
 .ret)
  .skip))
 (ZR [u1 5 (.buildSlice 1 0 [(.int .u32 0)] []) [],
 Zm 6 0,
 u1 7 (.append 1 4 [(.int .u32 0)]) [.tm 5,.tm 6],
 Zm 2 7]
 .ret)))}
theorem YoW:Yn Yb Tryz.f113=some Rg:=by kernel_rfl
def wvalC:Ctr:={ alias:=false,of:=fun l=>match l with
 | [.vs _ _ n sz get]=> .ex Nat fun a=> .pre (K9 a n sz get/\n=nl a/\n<=512) (.fin (.bool true) [])
 |_=>noC}
def JL(a:Nat):Nat:=if nl a<=512 then a else 0
def Wx(a:Nat):Int:=if nl a<=512 then 0 else 3
def resC:Ctr:={ alias:=false,of:=fun l=>match l with
 | [.vs _ z n sz get]=> .ex Nat fun a=> .pre (K9 a n sz get/\n=nl a/\(z=true->n=0)) (.all Bool fun y=> .fin (.tup [Yv y (JL a),.int .i64 (Wx a)]) [])
 |_=>noC}
def Fi(z:Bool)(a:Nat):SV:= .vs false z (nl a) 1 (fun k=>[.int .u32 (dig a k)])
def wchkC:Ctr:={ alias:=false,of:=fun l=>match l with
 | [.vs _ _ n sz get]=> .ex (List (Bool×Nat)) fun l=> .pre (lsP 1 (fun x=>[Fi x.1 x.2]) n sz get l/\(∀x,x∈l->nl x.2<=512)/\n<=100) (.fin (.int .i64 0) [])
 |_=>noC}
def WD3:Env:=mkE [] []
theorem YeT:YD Yb WD3:=eo (by kernel_rfl) trivial trivial
theorem Yrm:wvalC.ok Yb 110:=by
 refine Yy Tryz.func110 YoV YeT 200 wvalC fun args k h=>?_
 simp only[wvalC]at h
 split at h
 ·rename_i tt z n sz get
  obtain⟨a,⟨⟨rfl,hn,ha,hg⟩,hna,hn5⟩,h⟩:=h
  refine⟨[.vs tt z n 1 (fun k=>[.int .u32 (dig a k)])],by simpa [leL,le]using hg,?_⟩
  dsimp only[YcH,go_sem,reduceIte,Ya]
  simp only[Yd,Ya,Ye,reduceCtorEq,Yc]
  refine⟨fun hb=>?_,fun c1 c2=>by rw[decide_eq_true c1,decide_eq_false c2];rfl,?_⟩
  ·rw[YS,decide_eq_true_eq]at hb
   have h0:¬((n:Int)=0):=fun e=>by rw[decide_eq_true e]at hb;simp at hb
   rw[Y9 (by omega) (by omega)]
   omega
  ·rw[decide_eq_true (by omega:(n:Int)<=512),Bool.true_and]
   have:(decide ((n:Int)=0) || !decide (((dig a (IntKind.i64.wrap ((n:Int)-1)).toNat:Nat):Int)=0))=true:=by
    rcases Jc n with h0|h0
    ·simp [h0]
    ·have ht:=LH (a:=a) (fun e=>by rw[e,WF]at hna;omega)
     rw[Y9 h0 (by omega),Yj,hna,decide_eq_false (by omega:¬(((dig a (nl a-1):Nat):Int)=0))]
     simp
   rw[this]
   exact QF h
 ·exact h.1.elim
def WD4:Env:=mkE [] [(113,Rg)]
theorem YeU:YD Yb WD4:=eo (by kernel_rfl) trivial ⟨⟨_,Tryz.func113,YoW,_,Tryz.func113,rfl,rfl⟩,trivial⟩
theorem R5{k:SV->List HO->Prop}{al:Bool}{hp:List HO}{e:Int}(h:k (.tup [Yv true 0,.int .i64 e]) []):Jz al k (.tup [.nil,.int .i64 e]) hp:=
 Kv (show k _ []from h) (by simp [Yv,WF,JT,JX,Jw,le,leL]) (fun _=>by simp [Yv,Y3,Y5])
theorem Yrj:resC.ok Yb 76:=by
 refine Yy Tryz.func76 Yqu YeU 200 resC fun args k h=>?_
 simp only[resC]at h
 split at h
 ·rename_i tt z n sz get
  obtain⟨a,⟨⟨rfl,hn,ha,hg⟩,hna,hz0⟩,h⟩:=h
  refine⟨[.vs tt z n 1 (fun k=>[.int .u32 (dig a k)])],by simpa [leL,le]using hg,?_⟩
  dsimp only[v76,WD4,Yk,Rg,go_sem,reduceIte,Ya]
  simp only[Yd,Ya,Ye,reduceCtorEq,Yc]
  refine⟨fun hc=>?_,fun hc=>⟨fun hz=>?_,fun hz=>⟨by decide,by unfold Y8;omega,?_⟩⟩⟩
  ·have h:k (.tup [Yv true (JL a),.int .i64 (Wx a)]) []:=h true
   rw[JL,Wx,if_neg (by omega),if_neg (by omega)]at h
   exact R5 h
  ·have h:k (.tup [Yv true (JL a),.int .i64 (Wx a)]) []:=h true
   have:a=0:=nl_eq0.1 (by have:=hz0 hz;omega)
   rw[this]at h
   exact R5 h
  ·have h:k (.tup [Yv (false&&decide (n=0)) (JL a),.int .i64 (Wx a)]) []:=h _
   rw[JL,Wx,if_pos (by omega),if_pos (by omega)]at h
   refine Kv h ?_ (fun _=>by simp [Yv,Y3,Y5])
   have e:JT [HO.own (false&&decide (n=0)) 1 (0+n) fun k=>if k<0 then YU 0 (YP 1 (YF (k*1) []))else [SV.int IntKind.u32 ((dig a (k-0):Nat):Int)]] (SV.tup [SV.own 0 0 (0+n) 1,SV.int IntKind.i64 0])= .tup [.vs true (false&&decide (n=0)) (0+n) 1 (fun k=>[.int .u32 (dig a k)]),.int .i64 0]:=by
    simp [JT,JX,Jw,viewN,Ys,CA]
   rw[e,KJ,hna]
   exact JG _ ⟨trivial,trivial,trivial⟩
 ·exact h.1.elim
def WD5:Env:=mkE [(110,wvalC)] [(107,Cb),(135,Cd),(108,Re),(109,Rf)]
theorem YeV:YD Yb WD5:=eo (by kernel_rfl) ⟨⟨Yrm,_,Tryz.func110,rfl,rfl⟩,trivial⟩ ⟨⟨_,Tryz.func107,YoS,_,Tryz.func107,rfl,rfl⟩,⟨_,Tryz.func135,Ypi,_,Tryz.func135,rfl,rfl⟩,⟨_,Tryz.func108,YoT,_,Tryz.func108,rfl,rfl⟩,⟨_,Tryz.func109,YoU,_,Tryz.func109,rfl,rfl⟩,trivial⟩
theorem Yrd:wchkC.ok Yb 73:=by
 refine Yy Tryz.func73 Yqs YeV 400 wchkC fun args k h=>?_
 simp only[wchkC]at h
 split at h
 ·rename_i tt z n sz get
  obtain⟨l,⟨⟨rfl,rfl,hg⟩,hl,hn⟩,h⟩:=h
  refine⟨[.vs tt z l.length 1 (fun k=>[Fi (l.getD k default).1 (l.getD k default).2])],by simpa [leL,le]using hg,?_⟩
  dsimp only[v73,WD5,Yk,Cb,Cd,go_sem,reduceIte,Ya]
  simp only[Yd,Ya,Ye,reduceCtorEq,Yc]
  refine Loop.keep [0,0,2,1,0] Nat (fun i=>[(8,.int .i64 i)]) (fun _=>[]) [] (fun i=>i<=l.length) (fun i=>l.length-i) ?_ ?_
  ·refine⟨0,by omega,?_⟩
   dsimp only[go_sem,reduceIte,Ya]
   simp only[Yf]
   try simp
  ·rintro i hi
   dsimp only[WD5,Yk,Re,wvalC,Fi,Yj,go_sem,reduceIte,Ya]
   simp only[Yd,Ya,Ye,reduceCtorEq,Yc]
   have h5:∀i,i<l.length->nl (l.getD i default).2<=512:=fun i hi=>hl _ (KZ hi)
   refine⟨fun hlt=>⟨⟨by omega,by omega⟩,fun hc=>?_,fun hc=>⟨i+1,by omega,by omega,?_⟩⟩,fun hge=>?_⟩
   ·have:=h5 i (by omega);omega
   ·rw[Yg ((i:Int)+1) (by omega)]
    simp only[Yf]
    simp
   ·try dsimp only[WD5,Yk,Cb,Cd,go_sem,reduceIte,Ya]
    try simp only[Yd,Ya,Ye,reduceCtorEq,Yc]
    refine⟨fun hh=>absurd hh (by decide),fun _=>?_⟩
    refine Loop.keep [0,0,2,1,0] Nat (fun i=>[(8,.int .i64 i)]) (fun _=>[]) [] (fun i=>i<=l.length) (fun i=>l.length-i) ?_ ?_
    ·refine⟨0,by omega,?_⟩
     dsimp only[go_sem,reduceIte,Ya]
     simp only[Yf]
     try simp
    ·rintro i hi
     dsimp only[WD5,Yk,Rf,wvalC,Fi,Yj,go_sem,reduceIte,Ya]
     simp only[Yd,Ya,Ye,reduceCtorEq,Yc]
     have h5:∀i,i<l.length->nl (l.getD i default).2<=512:=fun i hi=>hl _ (KZ hi)
     refine⟨fun hlt=>?_,fun hge=>⟨fun hneg=>absurd hneg (by decide),fun _=>Kb h⟩⟩
     ·have:=h5 i (by omega)
      refine⟨⟨by omega,by omega⟩,_,⟨YO (by omega),rfl,this⟩,i+1,by omega,by omega,?_⟩
      rw[Yg ((i:Int)+1) (by omega)]
      simp only[Yf]
      try simp
 ·exact h.1.elim
def okW(a n sz:Nat)(get:Nat->List SV):Prop:=K9 a n sz get/\n=nl a/\n<=512
def wCmpC:Ctr:={ alias:=false,of:=fun l=>match l with
 | [.vs _ z n sz get,.vs _ z' m sz' get']=> .ex Nat fun a=> .ex Nat fun b=> .pre (okW a n sz get/\okW b m sz' get') (.fin (.tup [.int .i64 (JM a b),.int .i64 0]) [])
 |_=>noC}
def wAddC:Ctr:={ alias:=false,of:=fun l=>match l with
 | [.vs _ z n sz get,.vs _ z' m sz' get']=> .ex Nat fun a=> .ex Nat fun b=> .pre (okW a n sz get/\okW b m sz' get') (.all Bool fun y=> .fin (.tup [Yv y (JL (a+b)),.int .i64 (Wx (a+b))]) [])
 |_=>noC}
def wMulC:Ctr:={ alias:=false,of:=fun l=>match l with
 | [.vs _ z n sz get,.vs _ z' m sz' get']=> .ex Nat fun a=> .ex Nat fun b=> .pre (okW a n sz get/\okW b m sz' get') (.all Bool fun y=> .fin (.tup [Yv y (JL (a*b)),.int .i64 (Wx (a*b))]) [])
 |_=>noC}
def shF(a:Nat)(d:Int):Nat:=if d<0 then a/2^(-d).toNat else a*2^d.toNat
def wShiftC:Ctr:={ alias:=false,of:=fun l=>match l with
 | [.vs _ z n sz get,.int .i64 d]=> .ex Nat fun a=> .pre (okW a n sz get/\ -20000<=d/\d<=20000) (.all Bool fun y=> .fin (.tup [Yv y (JL (shF a d)),.int .i64 (Wx (shF a d))]) [])
 |_=>noC}
def WD6:Env:=mkE [(73,wchkC),(76,resC),(77,wcmpC),(156,plusC),(75,wtimC),(158,wupC),(157,wdownC)] []
theorem N7:YD Yb WD6:=eo (by kernel_rfl) ⟨⟨Yrd,_,Tryz.func73,rfl,rfl⟩,⟨Yrj,_,Tryz.func76,rfl,rfl⟩,⟨Yre,_,Tryz.func77,rfl,rfl⟩,⟨Yri,_,Tryz.func156,rfl,rfl⟩,⟨Yrk,_,Tryz.func75,rfl,rfl⟩,⟨Yrl,_,Tryz.func158,rfl,rfl⟩,⟨Yrf,_,Tryz.func157,rfl,rfl⟩,trivial⟩ trivial
theorem WL{k:SV->List HO->Prop}{al:Bool}{hp:List HO}{κ κ':IntKind}{x y:Int}(h:k (.tup [.int κ x,.int κ' y]) []):Jz al k (.tup [.int κ x,.int κ' y]) hp:=
 Kv (show k _ []from h) (JG (.tup [.int κ x,.int κ' y]) ⟨trivial,trivial,trivial⟩) (fun _=>by simp [Y3,Y5])
theorem P5{t1 z1 t2 z2:Bool}{a b:Nat}{hp:List HO}{r:List SV->List SV}:lsP 1 (fun x:Bool×Nat=>[Fi x.1 x.2]) 2 1 (fun k=>Jw false hp r (YP 1 (YF (k*1) [SV.vs t1 z1 (nl a) 1 fun k=>[SV.int IntKind.u32 (dig a k)],SV.vs t2 z2 (nl b) 1 fun k=>[SV.int IntKind.u32 (dig b k)]]))) [(z1,a),(z2,b)]:=
 ⟨rfl,rfl,fun k hk=>match k,hk with
   |0,_=>by refine⟨?_,trivial⟩;exact⟨fun h=>(by cases h),rfl,rfl,rfl,fun j _=>YW _⟩
   |1,_=>by refine⟨?_,trivial⟩;exact⟨fun h=>(by cases h),rfl,rfl,rfl,fun j _=>YW _⟩⟩
theorem YkC{t1 z1:Bool}{a:Nat}{hp:List HO}{r:List SV->List SV}:lsP 1 (fun x:Bool×Nat=>[Fi x.1 x.2]) 1 1 (fun k=>Jw false hp r (YP 1 (YF (k*1) [SV.vs t1 z1 (nl a) 1 fun k=>[SV.int IntKind.u32 (dig a k)]]))) [(z1,a)]:=
 ⟨rfl,rfl,fun k hk=>match k,hk with
   |0,_=>by refine⟨?_,trivial⟩;exact⟨fun h=>(by cases h),rfl,rfl,rfl,fun j _=>YW _⟩⟩
theorem P4{z1 z2:Bool}{a b:Nat}(h1:nl a<=512)(h2:nl b<=512):∀x:Bool×Nat,x∈ [(z1,a),(z2,b)]->nl x.2<=512:=by simp [h1,h2]
theorem YkB{z1:Bool}{a:Nat}(h1:nl a<=512):∀x:Bool×Nat,x∈ [(z1,a)]->nl x.2<=512:=by simp [h1]
theorem Db{k:SV->List HO->Prop}{al:Bool}{hp:List HO}{z:Bool}{a:Nat}{e:Int}(h:k (.tup [Yv z a,.int .i64 e]) []):Jz al k (.tup [Yv z a,.int .i64 e]) hp:=
 Kv (show k _ []from h) (JG _ ⟨trivial,trivial,trivial⟩) (fun _=>by simp [Yv,Y3,Y5])
theorem Yq6:wCmpC.ok Yb 43:=by
 refine Yy Tryz.func43 YpX N7 200 wCmpC fun args k h=>?_
 simp only[wCmpC]at h
 split at h
 ·rename_i t1 z1 n sz get t2 z2 m sz' get'
  obtain⟨a,b,⟨⟨⟨rfl,hn,ha,hg⟩,hna,hn5⟩,⟨rfl,hm,hb,hg'⟩,hmb,hm5⟩,h⟩:=h
  refine⟨[.vs t1 z1 n 1 (fun k=>[.int .u32 (dig a k)]),.vs t2 z2 m 1 (fun k=>[.int .u32 (dig b k)])],⟨by simpa [le]using hg,by simpa [le]using hg',trivial⟩,?_⟩
  dsimp only[v43,WD6,Yk,wchkC,wcmpC,go_sem,reduceIte,Ya]
  simp only[Yd,Ya,Ye,reduceCtorEq,Yc]
  subst hna hmb
  refine⟨by decide,_,⟨P5,P4 hn5 hm5⟩,fun hh=>absurd trivial hh,a,b,⟨YO hn,YO hm,rfl,rfl⟩,WL h⟩
 ·exact h.1.elim
theorem Ykg{a b n:Nat}(h1:nl a<=n)(h2:nl b<=n):nl (a+b)<=n+1:=by
 have h1:=nl_le.1 h1
 have h2:=nl_le.1 h2
 rw[nl_le,Jr]
 generalize(4294967296:Nat)^n=P at*
 omega
theorem Ykh{a b n m:Nat}(h1:nl a<=n)(h2:nl b<=m):nl (a*b)<=n+m:=by
 have h1:=nl_le.1 h1
 have h2:=nl_le.1 h2
 rw[nl_le,Yo]
 exact Nat.mul_lt_mul_of_lt_of_le h1 (JZ h2) (Kk _)
theorem Yki{a e n m k:Nat}(h1:nl a<=n)(he:e<=32*m)(hk:n+m<=k):nl (a*2^e)<=k:=by
 have h1:=nl_le.1 h1
 refine nl_le.2 ?_
 have h2:(2:Nat)^e<=4294967296^m:=by rw[GL];exact Kp (by decide) he
 refine Qt (Nat.mul_lt_mul_of_lt_of_le h1 h2 (Kk _)) ?_
 rw[<-Yo]
 exact Kp (by decide) hk
theorem Yq5:wAddC.ok Yb 152:=by
 refine Yy Tryz.func152 Ypw N7 200 wAddC fun args k h=>?_
 simp only[wAddC]at h
 split at h
 ·rename_i t1 z1 n sz get t2 z2 m sz' get'
  obtain⟨a,b,⟨⟨⟨rfl,hn,ha,hg⟩,hna,hn5⟩,⟨rfl,hm,hb,hg'⟩,hmb,hm5⟩,h⟩:=h
  refine⟨[.vs t1 z1 n 1 (fun k=>[.int .u32 (dig a k)]),.vs t2 z2 m 1 (fun k=>[.int .u32 (dig b k)])],⟨by simpa [le]using hg,by simpa [le]using hg',trivial⟩,?_⟩
  dsimp only[Yde,WD6,Yk,wchkC,plusC,resC,Yv,go_sem,reduceIte,Ya]
  simp only[Yd,Ya,Ye,reduceCtorEq,Yc]
  subst hna hmb
  have hs:nl (a+b)<=513:=Ykg hn5 hm5
  refine⟨by decide,_,⟨P5,P4 hn5 hm5⟩,fun hh=>absurd trivial hh,a,b,⟨YO hn,YO hm,by omega,by omega⟩,a+b,⟨YO (by omega),rfl⟩,fun y=>?_⟩
  refine⟨by decide,by decide,?_⟩
  exact Db (show k (.tup [Yv y (JL (a+b)),.int .i64 (Wx (a+b))]) []from h y)
 ·exact h.1.elim
theorem Yq7:wMulC.ok Yb 40:=by
 refine Yy Tryz.func40 YpU N7 200 wMulC fun args k h=>?_
 simp only[wMulC]at h
 split at h
 ·rename_i t1 z1 n sz get t2 z2 m sz' get'
  obtain⟨a,b,⟨⟨⟨rfl,hn,ha,hg⟩,hna,hn5⟩,⟨rfl,hm,hb,hg'⟩,hmb,hm5⟩,h⟩:=h
  refine⟨[.vs t1 z1 n 1 (fun k=>[.int .u32 (dig a k)]),.vs t2 z2 m 1 (fun k=>[.int .u32 (dig b k)])],⟨by simpa [le]using hg,by simpa [le]using hg',trivial⟩,?_⟩
  dsimp only[v40,WD6,Yk,wchkC,wtimC,resC,Yv,go_sem,reduceIte,Ya]
  simp only[Yd,Ya,Ye,reduceCtorEq,Yc]
  subst hna hmb
  have hs:nl (a*b)<=1024:=Ykh (n:=512) (m:=512) hn5 hm5
  refine⟨by decide,_,⟨P5,P4 hn5 hm5⟩,fun hh=>absurd trivial hh,a,b,⟨YO hn,YO hm,by omega⟩,a*b,⟨YO (by omega),rfl⟩,fun y=>?_⟩
  refine⟨by decide,by decide,?_⟩
  exact Db (show k (.tup [Yv y (JL (a*b)),.int .i64 (Wx (a*b))]) []from h y)
 ·exact h.1.elim
theorem Ydw:wShiftC.ok Yb 155:=by
 refine Yy Tryz.func155 Ypz N7 200 wShiftC fun args k h=>?_
 simp only[wShiftC]at h
 split at h
 ·rename_i t1 z1 n sz get d
  obtain⟨a,⟨⟨⟨rfl,hn,ha,hg⟩,hna,hn5⟩,hd0,hd1⟩,h⟩:=h
  refine⟨[.vs t1 z1 n 1 (fun k=>[.int .u32 (dig a k)]),.int .i64 d],⟨by simpa [le]using hg,⟨rfl,rfl⟩,trivial⟩,?_⟩
  dsimp only[Ydh,WD6,Yk,wchkC,wupC,wdownC,resC,Yv,go_sem,reduceIte,Ya]
  simp only[Yd,Ya,Ye,reduceCtorEq,Yc]
  subst hna
  refine⟨by decide,_,⟨YkC,YkB hn5⟩,fun hh=>absurd trivial hh,fun hb=>?_,fun _=>⟨fun hneg=>?_,fun hpos=>?_⟩⟩
  ·rw[Qj,decide_eq_true_eq,decide_eq_true_eq]at hb
   omega
  ·obtain⟨e,he⟩:∃e:Nat,e=(-d).toNat:=⟨_,rfl⟩
   have e1:IntKind.i64.wrap (0-d)=(e:Int):=by rw[he,Yg _ (by omega)];omega
   rw[e1]
   have hdl:nl (a/2^e)<=512:=Yh (Fj (XD _ _)) hn5
   refine⟨a,e,⟨YO hn,by omega,rfl,by omega⟩,fun z=>⟨a/2^e,⟨YO (by omega),rfl,fun hz=>?_⟩,fun y=>⟨by decide,by decide,?_⟩⟩⟩
   ·rw[YS,decide_eq_true_eq]at hz
    rw[hz.2,WF]
   ·have h:k (.tup [Yv y (JL (shF a d)),.int .i64 (Wx (shF a d))]) []:=h y
    rw[shF,if_pos hneg,<-he]at h
    exact Db h
  ·obtain⟨e,he⟩:∃e:Nat,e=d.toNat:=⟨_,rfl⟩
   have hde:d=(e:Int):=by omega
   have hdl:nl (a*2^e)<=2000:=Yki (n:=512) (m:=626) hn5 (by omega) (by decide)
   refine⟨a,e,⟨YO hn,rfl,by omega,hde,by omega⟩,fun z=>⟨a*2^e,⟨YO (by omega),rfl,fun hz=>?_⟩,fun y=>⟨by decide,by decide,?_⟩⟩⟩
   ·rw[YS,decide_eq_true_eq]at hz
    rw[hz.2,WF]
   ·have h:k (.tup [Yv y (JL (shF a d)),.int .i64 (Wx (shF a d))]) []:=h y
    rw[shF,if_neg hpos,<-he]at h
    exact Db h
 ·exact h.1.elim
abbrev Fr:=Int×Nat
theorem Ye5{k:SV->List HO->Prop}{al:Bool}{hp:List HO}{κ κ':IntKind}{x y:Int}(h:k (.tup [.int κ x,.int κ' y]) []):Jz al k (.tup [.int κ x,.int κ' y]) hp:=
 Kv (show k _ []from h) (JG (.tup [.int κ x,.int κ' y]) ⟨trivial,trivial,trivial⟩) (fun _=>by simp [Y3,Y5])
theorem ord_ge{a b:Nat}:0<=JM a b↔b<=a:=by unfold JM;split <;> (try split) <;> omega
end Go.Proofs.YtlhmikjnholpnaaGreatDoor
