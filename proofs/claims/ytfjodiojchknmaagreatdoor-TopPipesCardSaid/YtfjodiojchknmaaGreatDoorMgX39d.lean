/- Data that came in, as the executor's values: by shapes of types. -/
import Derived.Test.YtfjodiojchknmaaGreatDoorMgX39c
import Derived.ProofKit
import Derived.Deep.Slices
import Derived.IntWalk
import Derived.Test.YtfjodiojchknmaaGreatDoorProg
import Derived.Lib.BitFns
import Derived.Test.YtfjodiojchknmaaGreatDoorBL
open And renaming intro->YHd
open Bool renaming and_eq_true->YG2,false_eq_true->YHm,not_eq_false'->YHA,not_eq_true'->YHn,or_eq_true->YHB
open Int renaming eq_ofNat_of_zero_le->YHL,mul_le_mul_of_nonneg_left->YHb,mul_le_mul_of_nonneg_right->YHj,mul_nonneg->YG7,natCast_mul->YHZ,toNat_natCast->YG0
open Go.IntWalk renaming i64_in->YGZ,u64_in->YHt
open List renaming getD_eq_getElem?_getD->YG9,getElem?_append_left->YHP,map_cons->YHv,mem_cons->YHx,mem_cons_of_mem->YHg,mem_cons_self->YHh
open Nat renaming add_mul->YHr,beq->YHC,div_add_mod->YHH,div_div_eq_div_mul->YHK,div_lt_iff_lt_mul->YHD,div_mul_le_self->YHU,eq_of_beq_eq_true->YHk,eq_zero_or_pos->YHR,gcd->YH6,le_div_iff_mul_le->YHI,le_of_ble_eq_true->YHJ,le_refl->YG8,le_trans->YHc,lt_of_le_of_lt->YHG,lt_of_lt_of_le->YHM,lt_or_ge->YHE,mod_lt->YHT,mul_add->YH7,mul_assoc->YG6,mul_comm->YG4,mul_le_mul->YHi,mul_le_mul_left->YG5,mul_le_mul_right->YG3,mul_left_comm->YHw,mul_pos->YHX,pow_add->YHa,pow_le_pow_right->YHl,pow_mul->YHf,pow_pos->YHO,pow_succ->YHo,reduceAdd->YGU,reduceEqDiff->YGV,reduceLeDiff->YGW,zero_add->YH0
open Option renaming bind_eq_some_iff->YGX,map_eq_some_iff->YG1
open Go.Proofs.Tryz renaming prog->YGY
set_option linter.all false
namespace Go.Vx
open Go.RowKit Go.WideShapes Go.ChangeShapes
inductive Sh where
 |int (k:IntKind)
 |bool
 |str
 |slice (l:List Sh)
def YbA:List Sh->Nat
 | []=>0
 |_::l=>YbA l+1
mutual
def okS:Sh->SV->Prop
 | .int k,v=> ∃n,v= .int k n/\(Lit.int k n).wf=true
 | .bool,v=> ∃b,v= .bool b
 | .str,v=> ∃s:ByteArray,v= .val (.string s)/\s.size<=maxLen
 | .slice l,v=> ∃z n get,v= .vs false z n (YbA l) get/\n<=maxLen/\∀k,k<n->okSL l (get k)
def okSL:List Sh->List SV->Prop
 | [],[]=>True
 |s::l,v::r=>okS s v/\okSL l r
 |_,_=>False
end
def Ycz(P:Program)(fl:TypeId->Option (List Sh)):Nat->List Field->Option (List Sh)
 |_,[]=>some []
 |off,f::fs=>bif YHC f.offset off then(fl f.type).bind fun l=>bif YHC (YbA l) (P.cellsOf f.type)then(Ycz P fl (off+P.cellsOf f.type) fs).map (l++·)else none else none
def YAm:Nat->List Sh->List Sh
 |0,_=>[]
 |n+1,l=>l++YAm n l
def flat(P:Program):Nat->TypeId->Option (List Sh)
 |0,_=>none
 |n+1,t=>match P.underlying t with
   |some (.int k)=>some [.int k]
   |some .bool=>some [.bool]
   |some .string=>some [.str]
   |some (.slice e)=>(flat P n e).bind fun l=>bif YHC (YbA l) (P.cellsOf e)then(bif Nat.ble 1 (YbA l)then some [.slice l]else none)else none
   |some (.struct fs)=>(Ycz P (flat P n) 0 fs.toList).bind fun l=>bif YHC (YbA l) (P.cellsOf t)then some l else none
   |some (.array m e)=>(flat P n e).bind fun l=>bif YHC (YbA l) (P.cellsOf e)then(bif YHC (m*P.cellsOf e) (P.cellsOf t)then some (YAm m l)else none)else none
   |_=>none
theorem YlW:∀(a b:List Sh),YbA (a++b)=YbA a+YbA b
 | [],b=>by simp [YbA]
 |_::a,b=>by simp [YbA,YlW a b];omega
theorem Yex:∀{a b:List Sh}{x y:List SV},okSL a x->okSL b y->okSL (a++b) (x++y)
 | [],_,[],_,_,h=>h
 | [],_,_::_,_,h,_=>h.elim
 |_::_,_,[],_,h,_=>h.elim
 |_::_,_,_::_,_,h,h'=>⟨h.1,Yex h.2 h'⟩
def bd0(n:Nat):Bd:=⟨n,fun _=>True,fun _=>none,fun _ _ _=>trivial,fun _ _=>rfl⟩
def cx0(w:World):Cx0:={ toWorld:=w,F:=fun _=>True,I:=fun _=>none,up:=fun _ _ _=>trivial,ex:=fun _ _=>rfl}
section
variable {H:Type} {enc:TypeId×Value->H} {P:Program} {w:World} {B:Nat} {base:Nat} {spare:Nat->Bool} {held:Bool}
theorem XRepL.append:∀{l r:List SV}{vs us:List Value},XRepL w [] (bd0 B) l vs->XRepL w [] (bd0 B) r us->XRepL w [] (bd0 B) (l++r) (vs++us)
 |_,_,_,_,.nil,h=>h
 |_,_,_,_,.cons x v l vs h h',hr=> .cons _ _ _ _ h (XRepL.append h' hr)
theorem YeQ{fl:TypeId->Option (List Sh)}{fuel:Nat}{cs:List Value}
   (ih:∀(t:TypeId) (cs:List Value) (x:DataW H×List MemPlace) (l:List Sh),fl t=some l->DataW.trod enc P w base spare held fuel t cs=some x->∃svs,XRepL w [] (bd0 B) svs cs/\okSL l svs):
   ∀(fs:List Field)(off:Nat)(l:List Sh),Ycz P fl off fs=some l->(∀f∈fs,∃x,DataW.trod enc P w base spare held fuel f.type ((cs.drop f.offset).take (P.cellsOf f.type))=some x)->off+YbA l=cs.length->
     ∃svs,XRepL w [] (bd0 B) svs (cs.drop off)/\okSL l svs
 | [],off,l,h,_,hl=>by
   simp only[Ycz,Option.some.injEq]at h
   subst h
   simp only[YbA,Nat.add_zero]at hl
   refine⟨[],?_,trivial⟩
   rw[List.drop_of_length_le (by omega)];exact .nil
 |f::fs,off,l,h,hall,hl=>by
   unfold Ycz at h
   cases hb:YHC f.offset off with
   |false=>rw[hb]at h;cases h
   |true=>
     rw[hb]at h
     have ho:=YHk hb
     obtain⟨l1,h1,h⟩:=YGX.1 h
     cases hb2:YHC (YbA l1) (P.cellsOf f.type)with
     |false=>rw[hb2]at h;cases h
     |true=>
       rw[hb2]at h
       have hsz:=YHk hb2
       obtain⟨l2,h2,rfl⟩:=YG1.1 h
       obtain⟨x,hx⟩:=hall f YHh
       obtain⟨s1,r1,o1⟩:=ih _ _ _ _ h1 hx
       obtain⟨s2,r2,o2⟩:=YeQ ih fs _ _ h2 (fun g hg=>hall g (YHg _ hg)) (by rw[YlW]at hl;omega)
       refine⟨s1++s2,?_,Yex o1 o2⟩
       have:=r1.append r2
       rw[ho]at this
       have e:(cs.drop off).take (P.cellsOf f.type)++cs.drop (off+P.cellsOf f.type)=cs.drop off:=by
         rw[<-List.drop_drop];exact List.take_append_drop _ _
       rwa [e]at this
theorem Yhz{fuel:Nat}{cs:List Value}{e:TypeId}{l:List Sh}(hs:YbA l=P.cellsOf e)
   (ih:∀(cs:List Value) (x:DataW H×List MemPlace),DataW.trod enc P w base spare held fuel e cs=some x->∃svs,XRepL w [] (bd0 B) svs cs/\okSL l svs):
   ∀(k j:Nat),(∀i,j<=i->i<j+k->∃x,DataW.trod enc P w base spare held fuel e ((cs.drop (i*P.cellsOf e)).take (P.cellsOf e))=some x)->j*P.cellsOf e+k*P.cellsOf e=cs.length->
     ∃svs,XRepL w [] (bd0 B) svs (cs.drop (j*P.cellsOf e))/\okSL (YAm k l) svs
 |0,j,_,hl=>by
   refine⟨[],?_,trivial⟩
   rw[List.drop_of_length_le (by omega)];exact .nil
 |k+1,j,hall,hl=>by
   obtain⟨x,hx⟩:=hall j (YG8 _) (by omega)
   obtain⟨s1,r1,o1⟩:=ih _ _ hx
   obtain⟨s2,r2,o2⟩:=Yhz hs ih k (j+1) (fun i h1 h2=>hall i (by omega) (by omega)) (by rw[Nat.succ_mul]at hl⊢;omega)
   refine⟨s1++s2,?_,Yex o1 o2⟩
   have:=r1.append r2
   have e:(cs.drop (j*P.cellsOf e)).take (P.cellsOf e)++cs.drop ((j+1)*P.cellsOf e)=cs.drop (j*P.cellsOf e):=by
     rw[Nat.succ_mul,<-List.drop_drop];exact List.take_append_drop _ _
   rwa [e]at this
theorem YhL{α β:Type}{g:α->Option β}:∀{l:List α}{r:List β},l.mapM g=some r->∀x∈l,∃y,g x=some y
 | [],_,_,x,hx=>by cases hx
 |a::l,r,h,x,hx=>by
   rw[List.mapM_cons]at h
   cases ha:g a with
   |none=>rw[ha]at h;cases h
   |some y=>
     rw[ha]at h
     cases hl:l.mapM g with
     |none=>rw[hl]at h;cases h
     |some ys=>
       rcases YHx.1 hx with rfl|hx
       . exact⟨y,ha⟩
       . exact YhL hl x hx
theorem Ylu{a:Addr}{n:Nat}{cs:List Value}(h:w.cells? base a n=some cs):cs.length=n/\∀j v,cs[j]? =some v->w.cell? (a.add j)=some v:=by
 unfold World.cells? at h
 split at h
 . have key:∀(l:List Nat)(r:List Value),l.mapM (fun i=>w.cell? (a.add i))=some r->r.length=l.length/\∀(j:Nat)(v:Value),r[j]? =some v->∃i,l[j]? =some i/\w.cell? (a.add i)=some v:=by
     intro l
     induction l with
     |nil=>intro r h;simp at h;subst h;exact⟨rfl,fun j v h=>by simp at h⟩
     |cons i l ih=>
       intro r h
       rw[List.mapM_cons]at h
       cases hi:w.cell? (a.add i)with
       |none=>rw[hi]at h;cases h
       |some v0=>
         rw[hi]at h
         cases hl:l.mapM (fun i=>w.cell? (a.add i))with
         |none=>rw[hl]at h;cases h
         |some r'=>
           rw[hl]at h
           cases h
           obtain⟨h1,h2⟩:=ih r' hl
           refine⟨by simp [h1],fun j v hj=>?_⟩
           cases j with
           |zero=>simp only[List.getElem?_cons_zero,Option.some.injEq]at hj;subst hj;exact⟨i,rfl,hi⟩
           |succ j=>obtain⟨i',k1,k2⟩:=h2 j v (by simpa using hj);exact⟨i',by simpa using k1,k2⟩
   obtain⟨h1,h2⟩:=key _ _ h
   refine⟨by simpa using h1,fun j v hj=>?_⟩
   obtain⟨i,k1,k2⟩:=h2 j v hj
   have:j<n:=by
     have:=(List.getElem?_eq_some_iff.1 hj).1
     simp at h1;omega
   rw[List.getElem?_range this]at k1
   cases k1;exact k2
 . cases h
theorem YfZ{a:Addr}{v:Value}(h:w.cell? a=some v):a.spot=none/\∃cs T fz,w.heap[a.block]? =some (.cells cs T fz)/\cs[a.off]? =some v:=by
 unfold World.cell? at h
 split at h
 . split at h
   . cases h
   . rename_i hs
     exact⟨by cases hq:a.spot with|none=>rfl|some _=>rw[hq]at hs;simp at hs,_,_,_,‹_›,h⟩
 . cases h
theorem Ywr:∀(n fuel:Nat)(t:TypeId)(cs:List Value)(x:DataW H×List MemPlace)(l:List Sh),flat P n t=some l->DataW.trod enc P w base spare held fuel t cs=some x->∃svs,XRepL w [] (bd0 B) svs cs/\okSL l svs:=by
 intro n
 induction n with
 |zero=>intro fuel t cs x l h;cases h
 |succ n ih=>
   intro fuel t cs x l h hx
   unfold flat at h
   split at h
   . rename_i k hu
     cases h
     obtain⟨m,rfl,_,hw⟩:=DataW.trod_int hu hx
     exact⟨[.int k m],.cons _ _ _ _ (.int _ _) .nil,⟨m,rfl,hw⟩,trivial⟩
   . rename_i hu
     cases h
     obtain⟨b,rfl,_⟩:=DataW.trod_bool hu hx
     exact⟨[.bool b],.cons _ _ _ _ (.bool _) .nil,⟨b,rfl⟩,trivial⟩
   . rename_i hu
     cases h
     obtain⟨s,rfl,_,hs⟩:=DataW.trod_string hu hx
     exact⟨[.val (.string s)],.cons _ _ _ _ (.val _) .nil,⟨s,rfl,hs⟩,trivial⟩
   . rename_i e hu
     obtain⟨le,he,h⟩:=YGX.1 h
     cases hb:YHC (YbA le) (P.cellsOf e)with
     |false=>rw[hb]at h;cases h
     |true=>
     rw[hb]at h
     have hsz:=YHk hb
     cases hb1:Nat.ble 1 (YbA le)with
     |false=>rw[hb1]at h;cases h
     |true=>
     rw[hb1]at h
     have hpos:=YHJ hb1
     cases h
     rcases Deep.open_slice hu hx with⟨rfl,_⟩ | ⟨a,len,cap,m,fu,D,Pl,rfl,hba,hlc,hcm,hm,_,hel⟩
     . exact⟨[.vs false true 0 (YbA le) fun _=>[]],.cons _ _ _ _ (.vs _ _ _ _ _ none 0 (fun _=>[]) rfl (YG8 _) (fun _=>⟨rfl,rfl⟩) (fun k hk=>by omega) (fun k hk=>by omega)) .nil,
         ⟨true,0,_,rfl,Nat.zero_le _,fun k hk=>by omega⟩,trivial⟩
     . have hlm:len<=m:=by rw[hm];split <;> omega
       have hel':∀k,∃vals svs,k<len->w.cells? base (a.add (k*P.cellsOf e)) (P.cellsOf e)=some vals/\XRepL w [] (bd0 B) svs vals/\okSL le svs:=by
         intro k
         by_cases hk:k<len
         . obtain⟨cs',h1,h2⟩:=hel k (by omega)
           obtain⟨svs,h3,h4⟩:=ih fu e cs' _ _ he h2
           exact⟨cs',svs,fun _=>⟨h1,h3,h4⟩⟩
         . exact⟨[],[],fun h=>absurd h hk⟩
       obtain⟨vals,hv⟩:=Classical.axiomOfChoice hel'
       obtain⟨get,hg⟩:=Classical.axiomOfChoice hv
       refine⟨[.vs false false len (YbA le) get],.cons _ _ _ _ (.vs _ _ _ _ _ (some a) cap vals rfl hlc (fun h=>by cases h) (fun k hk=>?_) (fun k hk=>(hg k hk).2.1)) .nil,⟨false,len,get,rfl,by omega,fun k hk=>(hg k hk).2.2⟩,trivial⟩
       have h0:=(hg 0 (by omega)).1
       obtain⟨l0,c0⟩:=Ylu h0
       have hsp:a.spot=none:=by
         cases hv0:vals 0 with
         |nil=>rw[hv0]at l0;simp at l0;omega
         |cons v r=>
           have:=(YfZ (c0 0 v (by rw[hv0];rfl))).1
           simpa [Addr.add]using this
       obtain⟨lk,ck⟩:=Ylu (hg k hk).1
       refine⟨a,rfl,hsp,⟨YbJ,trivial⟩,(fun h=>by cases h),by rw[lk,hsz],?_⟩
       cases hvk:vals k with
       |nil=>rw[hvk]at lk;simp at lk;omega
       |cons v r=>
         rw[hvk]at ck
         have e1:∀j,(a.add (k*P.cellsOf e)).add j=⟨a.block,a.off+k*P.cellsOf e+j,none⟩:=by
           intro j
           obtain⟨ab,ao,asp⟩:=a
           simp only at hsp
           subst hsp
           unfold Addr.add
           split <;> split <;> simp_all <;> omega
         obtain⟨_,cs2,T,fz,hb,hc⟩:=YfZ (ck 0 v rfl)
         rw[e1]at hb
         refine⟨cs2,T,fz,hb,fun j u hj=>?_⟩
         obtain⟨_,cs3,T3,fz3,hb3,hc3⟩:=YfZ (ck j u hj)
         rw[e1]at hb3 hc3
         simp only at hb hb3 hc3
         rw[hb]at hb3;cases hb3
         rw[hsz]
         exact hc3
   . rename_i fs hu
     obtain⟨l0,hf,h⟩:=YGX.1 h
     cases hb:YHC (YbA l0) (P.cellsOf t)with
     |false=>rw[hb]at h;cases h
     |true=>
       rw[hb]at h
       cases h
       have hsz:=YHk hb
       cases fuel with
       |zero=>simp [DataW.trod]at hx
       |succ fuel=>
         unfold DataW.trod at hx
         rw[hu]at hx
         simp only at hx
         split at hx
         . rename_i hlen
           obtain⟨xs,hxs,_⟩:=YG1.1 hx
           have:=YeQ (cs:=cs) (B:=B) (fun t cs x l h h'=>ih fuel t cs x l h h') fs.toList 0 l hf (fun f hf=>YhL hxs f hf) (by omega)
           simpa using this
         . cases hx
   . rename_i m e hu
     obtain⟨l0,hf,h⟩:=YGX.1 h
     cases hb:YHC (YbA l0) (P.cellsOf e)with
     |false=>rw[hb]at h;cases h
     |true=>
       rw[hb]at h
       have hsz:=YHk hb
       cases hb2:YHC (m*P.cellsOf e) (P.cellsOf t)with
       |false=>rw[hb2]at h;cases h
       |true=>
         rw[hb2]at h
         cases h
         have hsz2:=YHk hb2
         cases fuel with
         |zero=>simp [DataW.trod]at hx
         |succ fuel=>
           unfold DataW.trod at hx
           rw[hu]at hx
           simp only at hx
           split at hx
           . rename_i hlen
             obtain⟨xs,hxs,_⟩:=YG1.1 hx
             have:=Yhz (cs:=cs) (B:=B) hsz (fun cs x h'=>ih fuel e cs x l0 hf h') m 0 (fun i _ hi=>YhL hxs i (List.mem_range.2 (by omega))) (by omega)
             simpa using this
           . cases hx
   . cases h
structure PSh where
 agg:Bool
 l:List Sh
def okP(p:PSh)(v:SV):Prop:=
 match p.agg with
 |true=> ∃cs,v= .agg cs/\okSL p.l cs
 |false=>okSL p.l [v]
def okPL:List PSh->List SV->Prop
 | [],[]=>True
 |p::l,v::r=>okP p v/\okPL l r
 |_,_=>False
def YzU(P:Program)(t:TypeId):Option PSh:=
 (flat P 16 t).bind fun l=>match P.underlying t with
   |some (.struct _)=>some ⟨true,l⟩
   |some (.array _ _)=>some ⟨true,l⟩
   |some (.int _) |some .bool|some .string|some (.slice _)=>some ⟨false,l⟩
   |_=>none
def Yme(P:Program):List TypeId->Option (List PSh)
 | []=>some []
 |t::l=>(YzU P t).bind fun p=>(Yme P l).map (p::·)
theorem YgQ{n:Nat}{t:TypeId}{l:List Sh}(h:flat P n t=some l)(hu:(∃k,P.underlying t=some (.int k))\/P.underlying t=some .bool\/P.underlying t=some .string\/∃e,P.underlying t=some (.slice e)):∃s,l=[s]:=by
 cases n with
 |zero=>cases h
 |succ n=>
   unfold flat at h
   rcases hu with⟨k,hu⟩ |hu|hu| ⟨e,hu⟩ <;> rw[hu]at h <;> simp only at h
   . cases h;exact⟨_,rfl⟩
   . cases h;exact⟨_,rfl⟩
   . cases h;exact⟨_,rfl⟩
   . obtain⟨le,_,h⟩:=YGX.1 h
     cases hb:YHC (YbA le) (P.cellsOf e)with
     |false=>rw[hb]at h;cases h
     |true=>
       rw[hb]at h
       cases hb1:Nat.ble 1 (YbA le)with
       |false=>rw[hb1]at h;cases h
       |true=>rw[hb1]at h;cases h;exact⟨_,rfl⟩
theorem Ys7{r:Reach}{b0:Nat}{t:TypeId}{v:Value}{d:DataW H}{ps:List MemPlace}{p:PSh}(hp:YzU P t=some p)(hval:Value.okWide P w r b0 t v)(hd:DataW.Trod enc P w base spare held t v d ps):∃sv,XRep w [] (bd0 B) sv v/\okP p sv:=by
 obtain⟨fuel,hf⟩:=id hd
 unfold YzU at hp
 obtain⟨l,hl,hp⟩:=YGX.1 hp
 obtain⟨svs,h1,h2⟩:=Ywr (B:=B) 16 fuel t _ _ l hl hf
 have one:∀(c:Value),v.cells.toList=[c]->v=c->(∃s,l=[s])->∃sv,XRep w [] (bd0 B) sv v/\okP ⟨false,l⟩ sv:=by
   rintro c hc rfl ⟨s,rfl⟩
   rw[hc]at h1
   cases h1 with
   |cons sv _ svs' _ k1 k2=>
     cases k2
     exact⟨sv,k1,h2⟩
 split at hp
 . rename_i fs hu
   cases hp
   unfold Value.okWide at hval
   rw[hu]at hval
   simp only at hval
   obtain⟨cs,rfl,_⟩:=hval
   refine⟨.agg svs,?_,svs,rfl,h2⟩
   have:=XRep.agg (w:=w) (bs:=[]) (B:=bd0 B) svs cs.toList h1
   simpa using this
 . rename_i m e hu
   cases hp
   unfold Value.okWide at hval
   rw[hu]at hval
   simp only at hval
   obtain⟨cs,rfl,_⟩:=hval
   refine⟨.agg svs,?_,svs,rfl,h2⟩
   have:=XRep.agg (w:=w) (bs:=[]) (B:=bd0 B) svs cs.toList h1
   simpa using this
 . rename_i k hu
   cases hp
   obtain⟨n,rfl⟩:=okWide_int hu hval
   exact one _ rfl rfl (YgQ hl (.inl ⟨_,hu⟩))
 . rename_i hu
   cases hp
   obtain⟨n,rfl⟩:=okWide_bool hu hval
   exact one _ rfl rfl (YgQ hl (.inr (.inl hu)))
 . rename_i hu
   cases hp
   obtain⟨n,rfl⟩:=okWide_string hu hval
   exact one _ rfl rfl (YgQ hl (.inr (.inr (.inl hu))))
 . rename_i e hu
   cases hp
   obtain⟨a,len,cap,rfl⟩:=okWide_slice hu hval
   exact one _ rfl rfl (YgQ hl (.inr (.inr (.inr ⟨_,hu⟩))))
 . cases hp
theorem Yi0{r:Reach}{b0:Nat}:∀{ts:List TypeId}{vs:List Value}{ds:List (DataW H)}{ps:List MemPlace}{shs:List PSh},Yme P ts=some shs->(∀(j:Nat) t v,ts[j]? =some t->vs[j]? =some v->Value.okWide P w r b0 t v)->
   DataW.TrodAll enc P w base spare held ts vs ds ps->∃svs,XRepL w [] (bd0 B) svs vs/\okPL shs svs
 | [],vs,ds,ps,shs,h,_,hd=>by
   simp only[Yme,Option.some.injEq]at h
   subst h
   obtain⟨rfl,_,_⟩:=trodAll_nil hd
   exact⟨[],.nil,trivial⟩
 |t::ts,vs,ds,ps,shs,h,hv,hd=>by
   unfold Yme at h
   obtain⟨p,hp,h⟩:=YGX.1 h
   obtain⟨shs',hs,rfl⟩:=YG1.1 h
   obtain⟨v,vs',d,ds',p1,q1,rfl,rfl,rfl,h1,h2⟩:=trodAll_cons hd
   obtain⟨sv,k1,k2⟩:=Ys7 (B:=B) hp (hv 0 t v rfl rfl) h1
   obtain⟨svs,k3,k4⟩:=Yi0 hs (fun j t' v' ht hv'=>hv (j+1) t' v' (by simpa using ht) (by simpa using hv')) h2
   exact⟨sv::svs,.cons _ _ _ _ k1 k3,k2,k4⟩
end
def YAl(P:Program)(ts:List TypeId):Bool:=ts.all fun t=>P.readableRec t&&Nat.blt t P.types.size
theorem Ygr{H:Type}{enc:TypeId×Value->H}{P:Program}(hl:laidOutB P=true){W W':World}(hb:Below W.heap.size W W'):
   ∀{ts:List TypeId}{vs:List Value}{ds:List (DataW H)}{ps:List MemPlace},YAl P ts=true->DataW.TrodAll enc P W 0 (fun _=>true) true ts vs ds ps->DataW.TrodAll enc P W' 0 (fun b=>decide (b<W.heap.size)) true ts vs ds ps
 | [],vs,ds,ps,_,h=>by
   obtain⟨rfl,rfl,rfl⟩:=trodAll_nil h
   rfl
 |t::ts,vs,ds,ps,hr,h=>by
   obtain⟨v,vs',d,ds',p1,q1,rfl,rfl,rfl,h1,h2⟩:=trodAll_cons h
   simp only[YAl,List.all_cons,YG2]at hr
   have hlt:∀x∈p1,x.block<W.heap.size:=by obtain⟨m,hm⟩:=h1;exact DataW.trod_lt m _ _ _ hm
   refine⟨_,_,Below.trod hl hr.1.1 ?_ h1 hb hlt,Ygr hl hb hr.2 h2,rfl⟩
   have:=hr.1.2
   simpa using this
theorem Yh8{H:Type}{enc:TypeId×Value->H}{P:Program}{W:World}{base:Nat}{spare:Nat->Bool}{held:Bool}:
   ∀{ts:List TypeId}{vs:List Value}{ds:List (DataW H)}{ps:List MemPlace},DataW.TrodAll enc P W base spare held ts vs ds ps->ds.length=ts.length
 | [],vs,ds,ps,h=>by obtain⟨_,rfl,_⟩:=trodAll_nil h;rfl
 |t::ts,vs,ds,ps,h=>by
   obtain⟨v,vs',d,ds',p1,q1,rfl,rfl,rfl,h1,h2⟩:=trodAll_cons h
   simp [Yh8 h2]
theorem Yt{s:Sh}{l:List Sh}{c:List SV}(h:okSL (s::l) c):∃x r,c=x::r/\okS s x/\okSL l r:=by
 cases c with
 |nil=>exact h.elim
 |cons x r=>exact⟨x,r,rfl,h.1,h.2⟩
theorem Yd2{c:List SV}(h:okSL [] c):c=[]:=by
 cases c with
 |nil=>rfl
 |cons x r=>exact h.elim
theorem Ynb{k:IntKind}{v:SV}(h:okS (.int k) v):∃n,v= .int k n/\(Lit.int k n).wf=true:=h
theorem Ykr{p:PSh}{l:List PSh}{c:List SV}(h:okPL (p::l) c):∃x r,c=x::r/\okP p x/\okPL l r:=by
 cases c with
 |nil=>exact h.elim
 |cons x r=>exact⟨x,r,rfl,h.1,h.2⟩
theorem Yl8{c:List SV}(h:okPL [] c):c=[]:=by
 cases c with
 |nil=>rfl
 |cons x r=>exact h.elim
theorem Yna{l:List Sh}{v:SV}(h:okP ⟨true,l⟩ v):∃cs,v= .agg cs/\okSL l cs:=h
theorem Yzt{α:Type}[Inhabited α]{n:Nat}{P:Nat->α->Prop}(h:∀k,k<n->∃x,P k x):∃l:List α,l.length=n/\∀k,k<n->P k (l.getD k default):=by
 induction n with
 |zero=>exact⟨[],rfl,fun k hk=>absurd hk (Nat.not_lt_zero _)⟩
 |succ n ih=>
   obtain⟨l,h1,h2⟩:=ih fun k hk=>h k (by omega)
   obtain⟨x,hx⟩:=h n (by omega)
   refine⟨l++[x],by simp [h1],fun k hk=>?_⟩
   rcases YHE k n with h'|h'
   . have:=h2 k h'
     rw[YG9]at this⊢
     rwa [YHP (by omega)]
   . obtain rfl:k=n:=by omega
     rw[YG9,List.getElem?_append_right (by omega),h1,Nat.sub_self]
     exact hx
def lawC(shs:List PSh):Ctr:={ alias:=false,of:=fun l=> .pre (okPL shs l) (.fin (.bool true) [])}
end Go.Vx
namespace Go.Vx
def idxK(ho:HO)(n size j:Nat)(i:Int):Option Ef:=
 match ho with
 | .own _ sz m _=>YB (0<=i/\i<n/\sz=size/\m=n) (.elem j i.toNat 0 size)
 | .box _=>YB (0<=i/\i<n) (.ptr j (idxN i size))
 |_=>none
theorem q_idx{hp:List HO}{n size j:Nat}{k:IntKind}{i:Int}:Yb4 hp n size [.ptr j 0,.int k i]=idxK (getH hp j) n size j i:=rfl
def Yvw(ho:HO)(n size j o:Nat)(i:Int):Option Ef:=
 match ho with
 | .box _=>YB (0<=i/\i<n) (.ptr j (o+idxN i size))
 |_=>none
theorem YEI{hp:List HO}{n size j:Nat}{k:IntKind}{i:Int}:Yb4 hp n size [.ptr j 1,.int k i]=Yvw (getH hp j) n size j 1 i:=rfl
theorem YEJ{hp:List HO}{n size j:Nat}{k:IntKind}{i:Int}:Yb4 hp n size [.ptr j 2,.int k i]=Yvw (getH hp j) n size j 2 i:=rfl
theorem Yy5:idxN 0 1=0:=rfl
theorem Yy6:idxN 0 2=0:=rfl
theorem Yy7:idxN 0 3=0:=rfl
theorem Yy8:idxN 0 4=0:=rfl
theorem Yy9:idxN 1 2=2:=rfl
theorem Yzc:idxN 2 2=4:=rfl
theorem Yza:idxN 1 3=3:=rfl
theorem Yzb:idxN 1 4=4:=rfl
def stoK(ho:HO)(size i off:Nat)(vals:List SV):Option Ef:=
 match ho with
 | .box cs=>some { pre:=off+size<=lenL cs,val:= .junk,upd:= .set i (.box (YZ cs off vals))}
 | .own z sz n _=>match off with
   |0=>some { pre:=size=n*sz/\0<sz,val:= .junk,upd:= .set i (.own z sz n (YaW sz vals))}
   |_=>none
 | .smap _=>none
 | .gone=>none
def stoE(ho:HO)(size i k off sz:Nat)(vals:List SV):Option Ef:=
 match ho with
 | .own z size' n get=>some { pre:=k<n/\sz=size'/\off+size<=sz,val:= .junk,upd:= .set i (.own z size' n fun j=>if j=k then YZ (get k) off vals else get j)}
 |_=>none
theorem YEQ{hp:List HO}{size i off:Nat}{vals:List SV}:storeAt hp size vals (.ptr i off)=stoK (getH hp i) size i off vals:=rfl
theorem YEN{size i off:Nat}{cs vals:List SV}:stoK (.box cs) size i off vals=some { pre:=off+size<=lenL cs,val:= .junk,upd:= .set i (.box (YZ cs off vals))}:=rfl
theorem YEP{z:Bool}{sz n size i:Nat}{g:Nat->List SV}{vals:List SV}:stoK (.own z sz n g) size i 0 vals=some { pre:=size=n*sz/\0<sz,val:= .junk,upd:= .set i (.own z sz n (YaW sz vals))}:=rfl
theorem YEO{hp:List HO}{size i k off sz:Nat}{vals:List SV}:storeAt hp size vals (.elem i k off sz)=stoE (getH hp i) size i k off sz vals:=rfl
def appN(nx size bytes:Nat)(r:Option (Nat×(Nat->List SV))):Option Ef:=
 r.bind fun(m,gx)=>eNew (.own (decide (m=0)) size m gx) (.own (nx) 0 m size) (Yah m bytes/\∀k,k<m->lenL (gx k)=size/\ones (gx k))
def appO(ho:HO)(i n sz size bytes:Nat)(r:Option (Nat×(Nat->List SV))):Option Ef:=
 match ho with
 | .own z s' _ get=>r.map fun(m,gx)=>
       { pre:=sz=size/\s'=size/\Yah (n+m) bytes/\∀k,k<m->lenL (gx k)=size/\ones (gx k),val:= .own i 0 (n+m) size,
         upd:= .app i (.own (z&&decide (m=0)) size (n+m) fun k=>if k<n then Ym i (get k)else Ym i (gx (k-n)))}
 |_=>none
theorem YEC{nx:Nat}{hp:List HO}{size bytes:Nat}{x:SV}:Yb3 nx hp size bytes [.nil,x]=appN nx size bytes (Ydz hp x):=rfl
theorem YED{nx:Nat}{hp:List HO}{size bytes i n sz:Nat}{x:SV}:Yb3 nx hp size bytes [.own i 0 n sz,x]=appO (getH hp i) i n sz size bytes (Ydz hp x):=rfl
def appC(nx size bytes:Nat)(ry r:Option (Nat×(Nat->List SV))):Option Ef:=
 ry.bind fun(n,gy)=>r.bind fun(m,gx)=>eNew (.own false size (n+m) fun k=>if k<n then gy k else gx (k-n)) (.own (nx) 0 (n+m) size)
       (0<m/\Yah (n+m) bytes/\(∀k,k<n->lenL (gy k)=size/\ones (gy k))/\∀k,k<m->lenL (gx k)=size/\ones (gx k))
theorem YEB{nx:Nat}{hp:List HO}{size bytes:Nat}{y x:SV}:Yb3 nx hp size bytes [.cut y,x]=appC nx size bytes (Ydz hp y) (Ydz hp x):=rfl
def sliK(ho:HO)(n size j:Nat):Option Ef:=
 match ho with
 | .own _ sz m _=>YB (sz=size/\m=n) (.own j 0 n size)
 |_=>none
theorem q_sli{hp:List HO}{n size j:Nat}:Yb5 hp n size false false [.ptr j 0]=sliK (getH hp j) n size j:=rfl
theorem YEM{n:Nat}{get:Nat->List SV}:Ykt 0 n get=some (True,Yf0 n 0 get):=rfl
theorem q_fl1{get:Nat->List SV}:Yf0 1 0 get=get 0++[]:=rfl
theorem q_fl2{get:Nat->List SV}:Yf0 2 0 get=get 0++(get 1++[]):=rfl
theorem q_fl3{get:Nat->List SV}:Yf0 3 0 get=get 0++(get 1++(get 2++[])):=rfl
theorem q_fl4{get:Nat->List SV}:Yf0 4 0 get=get 0++(get 1++(get 2++(get 3++[]))):=rfl
theorem q_ch1{cs:List SV}:YaW 1 cs 0=YC 1 cs:=rfl
theorem YEE{cs:List SV}:YaW 1 cs 1=YC 1 (Yu 1 cs):=rfl
theorem YEF{cs:List SV}:YaW 1 cs 2=YC 1 (Yu 2 cs):=rfl
theorem YEG{cs:List SV}:YaW 1 cs 3=YC 1 (Yu 3 cs):=rfl
theorem q_fo(b:Bool):(false|| b)=b:=rfl
theorem q_to(b:Bool):(true|| b)=true:=rfl
def YDy(s:S)(i:Nat)(keep:List Nat)(ghosts:List HO)(Yar:List (Nat×SV))(blocks:List (Nat×HO)):S:=
 { fr:=Ymj (keepG keep s.fr) Yar,saved:=YhW i s.saved,hp:=Yth (s.hp++ghosts) blocks}
theorem Loop.keepG{r:List It->S->Prop}{body:VC}{K:List It}{s:S}(keep:List Nat)(σ:Type)(Yar:σ->List (Nat×SV))(blocks:σ->List (Nat×HO))(ghosts:List HO)(inv:σ->Prop)(μ:σ->Nat)
   (h0:∃x,inv x/\leP s (Yj8 s keep ghosts (Yar x) (blocks x)))
   (h:∀x,inv x->r (.code body:: .inLoop (fun s'=> ∃y,inv y/\μ y<μ x/\leP s' (Yj8 s keep ghosts (Yar y) (blocks y)))::K) (Yj8 s keep ghosts (Yar x) (blocks x))):Loop r body K s leP:=
 ⟨σ,fun x=>Yj8 s keep ghosts (Yar x) (blocks x),inv,μ,leP,fun _ _ h=>h,h0,h⟩
open Go.RowKit in
theorem YdI{P:Program}{E:Env}{f:FuncId}{fn:Func}{vf:VF}(hf:P.funcs[f]? =some fn)(hvf:Yf P fn=some vf)(hE:Yl P E)(n:Nat)(c:Ctr)
   (h:∀(args:List SV) (k:SV->List HO->Prop),CSat (c.of args) k->∃args',leL 0 0 args args'/\run E (fun r hp=>k r hp/\Yj r/\YaR hp) vf.res n [.code vf.body] { fr:=padL vf.ntmps args',saved:=[],hp:=[]}):c.ok P f:=by
 intro args vs z k hsat hx hc
 obtain⟨args',hle,hrun⟩:=h args k hc
 have hk0:Ycg z.toWorld [] z.bd z.toWorld [] (z.wI z.I (Yag z)).bd:=⟨rfl,fun _ _ h=>h,fun b hf cs T fz ho=>⟨ho,YbJ,hf.2,z.ex b hf.2⟩⟩
 have hx2:RepL z.toWorld [] (z.wI z.I (Yag z)).bd args' vs:=YfA YmU _ _ hle (XRepL.keepG hk0 hx).rep
 obtain⟨body,hbody,hcode,hres,hnt⟩:=Yej hvf
 refine Yc8 (n:=0) (Yfx (b:=vf.body) hf hbody ?_)
 refine Ymo (w0:=z) (fn0:=fn) (R0:=fun e w'=> ∃r hs v bs,∃J,∃hJ:Ext z J,k r hs/\e= .returned v/\Rep w' bs (z.wI J hJ).bd r v/\Hp w' bs (z.wI J hJ).bd hs/\BelowI z.bd z.toWorld w'/\(c.alias=false->Yj r/\YaR hs)) hE hsat.2 hres (by
   rintro r hp v w' bs D hD ⟨hk,hfr⟩ hr hH hb
   exact⟨r,hp,v,bs,D,hD,hk,rfl,hr,hH,hb,fun ha=>hfr⟩) n _ _ hrun [] [] none _
   { tmps:=vs.toArray++Array.replicate (fn.ntmps-vs.toArray.size) undef,defers:=[]} z.toWorld (.code body vf.body [] [] [] none _ hcode .nil) (D:=z.I) (hD:=Yag z) ?_
 refine⟨[],?_,.nil,hp0 (hJ:=Yag z) hsat.1,BelowI.refl _ _,⟨fun _ h=>(by cases h),.nil,[[]],rfl,by simp,fun _ h=>(by simp at h)⟩⟩
 have:=Yf9 (n:=fn.ntmps) hx2
 rw[hnt]
 simpa using this
theorem Ybk{r:List It->S->Prop}{body:VC}{d:Option Nat}{res:List VR}{s1:S}{K:List It}(s2:S)(h1:r (.code body:: .frame d res:: .inLoop (fun s'=>s'=s2)::Ygv K) s1)(h2:r K s2):YrN r body d res s1 K:=
 ⟨fun s'=>s'=s2,h1,fun s' hs=>by rw[hs];exact h2⟩
@[reducible] def Zm (d a:Nat):VOp:=u1 d .mov [.tm a]
@[reducible] def Zi (d:Nat) (k:Int):VOp:=u1 d .mov [.cn (.int .i64 k)]
@[reducible] def Ze (d i a:Nat):VOp:=u1 d (.ext i) [.tm a]
@[reducible] def Zt (d s a:Nat):VOp:=u1 d (.load true s) [.tm a]
@[reducible] def Zf (d s a:Nat):VOp:=u1 d (.load false s) [.tm a]
@[reducible] def Zs (s a b:Nat):VOp:=u0 (.store s) [.tm a,.tm b]
@[reducible] def Za (d f a:Nat):VOp:=u1 d (.fieldAddr f) [.tm a]
@[reducible] def Zc (d f a:Nat):VOp:=u1 d (.call f) [.tm a]
@[reducible] def Zd (d f a b:Nat):VOp:=u1 d (.call f) [.tm a,.tm b]
@[reducible] def Zx (d s a b:Nat):VOp:=u1 d (.idxAddr s) [.tm a,.tm b]
@[reducible] def Zp (d a:Nat) (k:Int):VOp:=u1 d (.ari .add) [.tm a,.cn (.int .i64 k)]
@[reducible] def Zq (d:Nat) (c:Cmp) (a:Nat) (k:Int):VOp:=u1 d (.cmp c) [.tm a,.cn (.int .i64 k)]
@[reducible] def Zr (d:Nat) (c:Cmp) (a b:Nat):VOp:=u1 d (.cmp c) [.tm a,.tm b]
@[reducible] def Zl (d a:Nat):VOp:=u1 d .len [.tm a]
@[reducible] def Zn (d:Nat):VOp:=u1 d (.alloc [.int .i64 0,.int .i64 0]) []
@[reducible] def Zo (d:Nat) (o:Ari) (a b:Nat):VOp:=u1 d (.ari o) [.tm a,.tm b]
@[reducible] def Zg (d g:Nat) (t:Bool) (a:Nat):VOp:=u2 d g t .mov [.tm a]
@[reducible] def Zh (d g:Nat) (t:Bool) (s a:Nat):VOp:=u2 d g t (.load false s) [.tm a]
@[reducible] def Zj (d g:Nat) (t:Bool) (f a:Nat):VOp:=u2 d g t (.fieldAddr f) [.tm a]
@[reducible] def Zu (d a:Nat):DOp:=w1 d .mov [.tm a]
@[reducible] def Zv (d s a:Nat):DOp:=w1 d (.load false s) [.tm a]
@[reducible] def Zw (d s a:Nat):DOp:=w1 d (.load true s) [.tm a]
@[reducible] def Zy (d f a:Nat):DOp:=w1 d (.fieldAddr f) [.tm a]
@[reducible] def Zz (d f a b:Nat):DOp:=w1 d (.call f) [.tm a,.tm b]
@[reducible] def ZX (d s a b:Nat):DOp:=w1 d (.idxAddr s) [.tm a,.tm b]
@[reducible] def ZS (s a b:Nat):DOp:=w0 (.store s) [.tm a,.tm b]
@[reducible] def ZE (d i a:Nat):DOp:=w1 d (.ext i) [.tm a]
@[reducible] def ZR (l:List VOp) (c:VC):VC:= .seq (.region l) c
@[reducible] def ZC (a:Nat) (c d:VC):VC:= .cond (.tm a) c d
attribute [go_sem] Zm Zi Ze Zt Zf Zs Za Zc Zd Zx Zp Zq Zr Zl Zn Zo Zg Zh Zj Zu Zv Zw Zy Zz ZX ZS ZE ZR ZC
attribute [go_sem] pubV pubL Yv3 YgE pub1 pubC Yz0 pubS pubP YFg YFh YAd YAe YE7 psd Yfr YjU Yoj YjY YjW Ykd Ytn YAi VO.bad u0 u1 u2 w0 w1 YmQ ctM ctI frzV frzL Yvs YgA frz1 YyY frzS frzP Yol YFa YFb r_nil r_op YFe YAh r_op0 YFm YFn r_y YFi Yxj YAf Yxk YAg Yto Yv8 Yv7 YE5 Yz8 YAk YFl r_tbr YFq YFr VO.isAppend chkG chkA napP napB YAG YE1 r_dop YE2 YE4 YE3 r_dq r_dq0 YEU YET YEW YEV YE0 Yz7 r_dgd YEZ YEY YEX r_op1 r_eff YE6 YES Yz4 r_inl r_g r_gq r_gc YE8 Yz9 YE9 YAa Yz5 Yv4 r_fin r_pre r_imp r_all r_ex YFc YFf r_exg Ytm Yv6 Ytl Yv5 YFk YAj Yv9 r_seq Yxh Yz6 Yz3 Yxi YAb YAc YFj YFd YAs YAt s_xt s_xc padL Ylh callee YjK eff ctOf getL setL S.put S.upd Ygx Ynq Y1 YkQ YDK Yai Yy0 eMov eNot eNeg Yvc eExt YjV eLen YjX eEqb eEqv Ycf eNil YhO YlA eCmp eAri ari eBit eDiv eSh Yhy Yf2 Yf1 kEq YB cmpB VO.quiet Yay YoV Ygw Yak Yb8 cond eNew eBox YaE lenH YbR Yeq Yok Yii Yaw getH setH Yu YC YgC lenL lenS shift Ycl Y2 viewN Ydv view andT Ysh YgP YDC YDD YDE YDF Yom YiM YZ ones one Yon Ylk YAF YmH YtL YqS YrL Ydz repL YX YaW Ym YhW YaJ YhV refs Yh0 Ywy wrAl Yt5 YmC wrC junkAt Ymj Yth YlL Yj8 keepG Ydg chkP Yix Yq2 blk YpT Yin AL.ho yld Ymk lenN YeZ YbO Ypx YlR Yze idxK Yvw YEI YEJ q_idx Yy5 Yy6 Yy7 Yy8 Yy9 Yzc Yza Yzb stoE YEQ YEN YEP YEO appN appO YEC YED appC YEB YjZ sliK q_sli noOwn YaC YEM q_fl1 q_fl2 q_fl3 q_fl4 q_ch1 YEE YEF YEG YDy q_fo q_to
theorem it_p(α:Prop):(α->True)=True:=implies_true α
theorem it_t(α:Type):(α->True)=True:=implies_true α
theorem fc_t{b:Prop}(α:Type)[Nonempty α]:(α->b)↔b:=forall_const α
theorem fc_p{b:Prop}(α:Prop)[Nonempty α]:(α->b)↔b:=forall_const α
theorem ne_t{α:Type}(a b:α):(a≠b)=¬(a=b):=rfl
def Ya:=YHd @imp_self (YHd @true_and (YHd @and_true (YHd @it_p (YHd @it_t (YHd @YDM (YHd @Ykg (YHd @Ym2 (YHd @Yzn (YHd @Ysu (YHd @Yzk (YHd @YDR (YHd @YvF (YHd @Ysq (YHd @Ykf (YHd @Yzi (YHd @YvD (YHd @YvE (YHd @Ysn (YHd @YD0 (YHd @YDQ (YHd @YDY (YHd @YDV (YHd @YDU (YHd @Yzp (YHd @le_fn (YHd @YDT (YHd @YDZ (YHd @Yzl (YHd @Ypz (YHd @Ysv (YHd @Ysp (YHd @Yss (YHd @Yzj (YHd @Yym (YHd @Yu1 (YHd @Yyu (YHd @Yyn (YHd @Yu4 (YHd @YC4 (YHd @YC5 (YHd @Yyl (YHd @Yyt (YHd @Yyq (YHd @Yyp (YHd @Yu2 (YHd @YC3 (YHd @Yrg (YHd @Yyo (YHd @Yyr (YHd @Yrh (YHd @Yu3 (YHd @Yys (YHd @YDW (YHd @YvH (YHd @Yzm (YHd @YDX (YHd @Yso (YHd @Yu0 (YHd @Yrf (YHd @Ysy (@YvI)))))))))))))))))))))))))))))))))))))))))))))))))))))))))))))
def Yc:=YHd @true_imp_iff (YHd @fc_p (YHd @it_p (YHd @it_t (YHd @fc_t (YHd @ne_t (YHd @true_and (YHd @and_true (YHd @imp_self (YHd @decide_eq_true_eq (YHd @decide_eq_false_iff_not (YHd @Bool.not_not (YHd @false_imp_iff (YHd @YHn (YHd @YHA (YHd @YHm (YHd @and_self (@not_false_eq_true)))))))))))))))))
attribute [go_sem] Option.bind Option.map List.append_nil YHC List.cons_append List.nil_append List.append_eq YHv List.map_nil ite_self
end Go.Vx
namespace Go.Proofs.YtfjodiojchknmaaGreatDoor
open Go Go.Vx
theorem Yif{i n:Nat}(h:i<n)(hn:n<=9223372036854775807):IntKind.i64.wrap ((i:Int)+1)=((i+1:Nat):Int):=by
 rw[YGZ _ (by omega)];simp
theorem YI{α:Type}[Inhabited α]{l:List α}{i:Nat}(h:i<l.length):l.getD i default∈l:=by
 rw[YG9,List.getElem?_eq_getElem h];exact List.getElem_mem h
theorem YgU{α:Type}[Inhabited α]{l:List α}{x:α}(h:x∈l):∃i,i<l.length/\l.getD i default=x:=by
 obtain⟨j,hj,rfl⟩:=List.getElem_of_mem h
 exact⟨j,hj,by rw[YG9,List.getElem?_eq_getElem hj];rfl⟩
theorem YkL{α:Type}[Inhabited α]{l:List α}{f:α->Bool}{i:Nat}(h:i<l.length):(l.take (i+1)).all f=((l.take i).all f&&f (l.getD i default)):=by
 rw[List.take_add_one,List.all_append,YG9,List.getElem?_eq_getElem h]
 simp
theorem YkM{α:Type}[Inhabited α]{l:List α}{f:α->Bool}{i:Nat}(h:i<l.length):(l.take (i+1)).any f=((l.take i).any f|| f (l.getD i default)):=by
 rw[List.take_add_one,List.any_append,YG9,List.getElem?_eq_getElem h]
 simp
theorem Yei{α:Type}[Inhabited α]{l:List α}{i:Nat}(h:i<l.length):l.take (i+1)=l.take i++[l.getD i default]:=by
 rw[List.take_add_one,YG9,List.getElem?_eq_getElem h];rfl
theorem YE{α β:Type}[Inhabited α]{l:List α}{f:β->α->β}{b:β}{i:Nat}(h:i<l.length):(l.take (i+1)).foldl f b=f ((l.take i).foldl f b) (l.getD i default):=by
 rw[Yei h,List.foldl_append]
 rfl
def Ycj(f:Nat->Bool):Nat->Nat->Nat
 |0,k=>k
 |n+1,k=>if f k then k else Ycj f n (k+1)
theorem Ydi{f:Nat->Bool}:∀(n k:Nat),k<=Ycj f n k/\Ycj f n k<=n+k/\(∀j,k<=j->j<Ycj f n k->f j=false)/\(Ycj f n k<n+k->f (Ycj f n k)=true)
 |0,k=>⟨YG8 _,by simp [Ycj],fun j h1 h2=>by simp [Ycj]at h2;omega,fun h=>by simp [Ycj]at h⟩
 |n+1,k=>by
   unfold Ycj
   split
   . rename_i h;exact⟨YG8 _,by omega,fun j h1 h2=>by omega,fun _=>h⟩
   . rename_i h
     obtain⟨h1,h2,h3,h4⟩:=Ydi (f:=f) n (k+1)
     refine⟨by omega,by omega,fun j a b=>?_,fun hlt=>h4 (by omega)⟩
     rcases YHE k j with h'|h'
     . exact h3 j h' b
     . obtain rfl:j=k:=by omega
       simpa using h
theorem YhI{f:Nat->Bool}{n m:Nat}(h1:∀j,j<m->f j=false)(h2:m<=n)(h3:m<n->f m=true):Ycj f n 0=m:=by
 obtain⟨a,b,c,d⟩:=Ydi (f:=f) n 0
 rcases Nat.lt_trichotomy (Ycj f n 0) m with h|h|h
 . have:=h1 _ h
   rw[d (by omega)]at this;cases this
 . exact h
 . have:=c m (Nat.zero_le _) h
   rw[h3 (by omega)]at this;cases this
theorem YaG{a b c d:Int}(h1:a<=c)(h2:b<=d)(ha:0<=a)(hd:0<=d):a*b<=c*d:=
 Int.le_trans (YHb h2 ha) (YHj h1 hd)
def noC:CRes:= .pre False (.fin .junk [])
def trueC:Ctr:={ alias:=false,of:=fun a=>match a with
 | []=> .fin (.bool true) []
 |_=>noC}
def lsP{α:Type}[Inhabited α](size:Nat)(e:α->List SV)(n sz:Nat)(get:Nat->List SV)(l:List α):Prop:=sz=size/\n=l.length/\∀k,k<n->leXL (get k) (e (l.getD k default))
def enc1(x:Int):List SV:=[.int .i64 x]
def enc2(x:Int×Int):List SV:=[.int .i64 x.1,.int .i64 x.2]
theorem YsO:maxLen=9223372036854775807:=by decide
def Yyk:List Sh:=[.int .i64,.int .i64]
theorem iv_of{c:List SV}(h:okSL Yyk c):∃p:Int×Int,c=enc2 p:=by
 obtain⟨_,_,rfl,⟨n1,rfl,_⟩,e1⟩:=Yt h
 obtain⟨_,_,rfl,⟨n2,rfl,_⟩,e2⟩:=Yt e1
 cases Yd2 e2
 exact⟨(n1,n2),rfl⟩
theorem Ywg{α:Type}[Inhabited α]{sh:List Sh}{e:α->List SV}(hof:∀c,okSL sh c->∃a,leXL c (e a)){v:SV}(h:okS (.slice sh) v):∃(z:Bool) (l:List α),l.length<=maxLen/\leX v (.vs false z l.length (YbA sh) (fun k=>e (l.getD k default))):=by
 obtain⟨z,n,get,rfl,hn,hg⟩:=h
 obtain⟨l,hl,hp⟩:=Yzt (P:=fun k a=>leXL (get k) (e a)) fun k hk=>hof _ (hg k hk)
 exact⟨z,l,by rw[hl];exact hn,fun h=>h,rfl,hl.symm,rfl,hp⟩
theorem YDG{v:SV}(h:okS (.slice Yyk) v):∃(z:Bool) (l:List (Int×Int)),l.length<=maxLen/\leX v (.vs false z l.length 2 (fun k=>enc2 (l.getD k default))):=
 Ywg (fun c hc=>let⟨p,h⟩:=iv_of hc;⟨p,by rw[h];exact Yd _⟩) h
def dig(a i:Nat):Nat:=a/4294967296^i%4294967296
theorem Yad(i:Nat):0<4294967296^i:=YHO (by decide)
theorem Ya2(i:Nat):4294967296^(i+1)=4294967296^i*4294967296:=YHo ..
theorem Yct(a i:Nat):dig a i<4294967296:=YHT _ (by decide)
theorem Ygp(a i:Nat):a%4294967296^(i+1)=a%4294967296^i+4294967296^i*dig a i:=Nat.mod_pow_succ
theorem YDh(a:Nat):dig a 0=a%4294967296:=by simp [dig]
theorem YgO(i:Nat):dig 0 i=0:=by simp [dig]
theorem Yva(a i:Nat):dig a (i+1)=dig (a/4294967296) i:=by
 unfold dig
 rw[YHK,Ya2,YG4]
theorem Yc9{a n i:Nat}(h:a<4294967296^n)(hi:n<=i):dig a i=0:=by
 unfold dig
 rw[Nat.div_eq_of_lt]
 exact YHM h (YHl (by decide) hi)
theorem YsP{a b:Nat}:∀{n:Nat},(∀i,i<n->dig a i=dig b i)->a%4294967296^n=b%4294967296^n
 |0,_=>by simp [Nat.mod_one]
 |n+1,h=>by rw[Ygp,Ygp,YsP fun i hi=>h i (by omega),h n (by omega)]
theorem YyI{a b n:Nat}(ha:a<4294967296^n)(hb:b<4294967296^n)(h:∀i,i<n->dig a i=dig b i):a=b:=by
 have:=YsP h
 rwa [Nat.mod_eq_of_lt ha,Nat.mod_eq_of_lt hb]at this
theorem YjO{a j k:Nat}(h:k<j):dig (a%4294967296^j) k=dig a k:=by
 unfold dig
 obtain⟨m,rfl⟩:∃m,j=k+(m+1):=⟨j-k-1,by omega⟩
 rw[YHa,Nat.mod_mul_right_div_self,YHo,YG4,Nat.mod_mul_right_mod]
def nlF:Nat->Nat->Nat
 |0,_=>0
 |f+1,a=>if a=0 then 0 else nlF f (a/4294967296)+1
def nl(a:Nat):Nat:=nlF a a
theorem Yw8:∀(f a n:Nat),a<=f->(nlF f a<=n↔a<4294967296^n)
 |0,a,n,h=>by
   have:=Yad n
   simp only[nlF];omega
 |f+1,a,n,h=>by
   simp only[nlF]
   split
   . rename_i h0;have:=Yad n;subst h0;simp;omega
   . cases n with
     |zero=>simp;omega
     |succ n=>
       have:=Yw8 f (a/4294967296) n (by omega)
       rw[Ya2,<-YHD (by decide),<-this]
       omega
theorem nl_le{a n:Nat}:nl a<=n↔a<4294967296^n:=Yw8 a a n (YG8 _)
theorem YpC(a:Nat):a<4294967296^nl a:=nl_le.1 (YG8 _)
theorem nl_0:nl 0=0:=rfl
theorem nl_eq0{a:Nat}:nl a=0↔a=0:=by
 have:= @nl_le a 0
 simp at this;omega
theorem YEh{a:Nat}(h:a≠0):dig a (nl a-1)≠0:=by
 obtain⟨n,hn⟩:∃n,nl a=n+1:=⟨nl a-1,by have:=nl_eq0 (a:=a);omega⟩
 rw[hn,Nat.add_sub_cancel]
 have h1:=YpC a
 have h2:¬a<4294967296^n:=fun hh=>by have:=nl_le.2 hh;omega
 rw[hn,Ya2]at h1
 unfold dig
 have h3:a/4294967296^n<4294967296:=by rw[YHD (Yad n),YG4];exact h1
 rw[Nat.mod_eq_of_lt h3]
 have:=Nat.div_pos (Nat.le_of_not_lt h2) (Yad n)
 omega
theorem Ym7{a b:Nat}(h:a<=b):nl a<=nl b:=nl_le.2 (YHG h (YpC b))
theorem YhQ{a n:Nat}(h:a<4294967296^n)(ht:n=0\/dig a (n-1)≠0):nl a=n:=by
 have h1:=nl_le.2 h
 rcases ht with rfl|ht
 . omega
 . rcases YHE (nl a) n with h2|h2
   . exact absurd (Yc9 (YpC a) (by omega:nl a<=n-1)) ht
   . omega
theorem YhK{a n:Nat}(h:a<4294967296^(n+1))(h0:dig a n=0):a<4294967296^n:=by
 have:=Ygp a n
 rw[h0,Nat.mod_eq_of_lt h]at this
 rw[this]
 simpa using YHT a (Yad n)
def cy(a b i:Nat):Nat:=(a%4294967296^i+b%4294967296^i)/4294967296^i
theorem cy_0(a b:Nat):cy a b 0=0:=by simp [cy,Nat.mod_one]
theorem YyE(a b i:Nat):cy a b i<=1:=by
 unfold cy
 have h1:=YHT a (Yad i)
 have h2:=YHT b (Yad i)
 have:(a%4294967296^i+b%4294967296^i)/4294967296^i<2:=by
   rw[YHD (Yad i)];omega
 omega
theorem YDk(a b i:Nat):(a+b)/4294967296^i=a/4294967296^i+b/4294967296^i+cy a b i:=by
 unfold cy
 have h1:=YHH a (4294967296^i)
 have h2:=YHH b (4294967296^i)
 generalize hP:4294967296^i=P at*
 have hp:0<P:=hP▸Yad i
 have e:a+b=P*(a/P+b/P)+(a%P+b%P):=by rw[YH7];omega
 conv=>lhs;rw[e]
 rw[Nat.mul_add_div hp]
theorem YmI(a b i:Nat):(dig a i+dig b i+cy a b i)%4294967296=dig (a+b) i:=by
 unfold dig
 rw[YDk]
 omega
theorem YwG(a b i:Nat):(dig a i+dig b i+cy a b i)/4294967296=cy a b (i+1):=by
 have e:cy a b (i+1)=(a%4294967296^(i+1)+b%4294967296^(i+1))/4294967296^(i+1):=rfl
 rw[e,Ygp,Ygp,Ya2,<-YHK]
 unfold cy
 generalize hP:4294967296^i=P at*
 have hp:0<P:=hP▸Yad i
 have e:a%P+P*dig a i+(b%P+P*dig b i)=P*(dig a i+dig b i)+(a%P+b%P):=by rw[YH7];omega
 rw[e,Nat.mul_add_div hp]
def setD(V j x:Nat):Nat:=V-dig V j*4294967296^j+x*4294967296^j
theorem YfS(V j:Nat):V=4294967296^j*(4294967296*(V/4294967296^(j+1))+dig V j)+V%4294967296^j:=by
 have h1:=YHH V (4294967296^j)
 have h2:=YHH (V/4294967296^j) 4294967296
 rw[YHK,<-Ya2]at h2
 unfold dig
 rw[h2,h1]
theorem YkC(V j x:Nat):setD V j x=4294967296^j*(4294967296*(V/4294967296^(j+1))+x)+V%4294967296^j:=by
 have:=YfS V j
 unfold setD
 generalize dig V j=d at*
 generalize V/4294967296^(j+1)=h at*
 generalize V%4294967296^j=l at*
 generalize 4294967296^j=P at*
 rw[YH7]at this⊢
 rw[YG4 d,YG4 x]
 omega
theorem YkB(V j x:Nat):setD V j x+dig V j*4294967296^j=V+x*4294967296^j:=by
 have:=YfS V j
 rw[YkC]
 generalize dig V j=d at*
 generalize V/4294967296^(j+1)=h at*
 generalize V%4294967296^j=l at*
 generalize 4294967296^j=P at*
 rw[YH7]at this⊢
 rw[YG4 d,YG4 x]
 omega
theorem Yo1{V j x:Nat}(hx:x<4294967296):setD V j x/4294967296^(j+1)=V/4294967296^(j+1):=by
 have hl:=YHT V (Yad j)
 have e:∀Y:Nat,Y/4294967296^(j+1)=Y/4294967296^j/4294967296:=fun Y=>by rw[Ya2,YHK]
 rw[YkC,e (4294967296^j*(4294967296*(V/4294967296^(j+1))+x)+V%4294967296^j),Nat.mul_add_div (Yad j),Nat.div_eq_of_lt hl]
 generalize V/4294967296^(j+1)=h
 omega
theorem YgN{V j x:Nat}(hx:x<4294967296)(k:Nat):dig (setD V j x) k=if k=j then x else dig V k:=by
 have hl:=YHT V (Yad j)
 rcases Nat.lt_trichotomy k j with h|h|h
 . rw[if_neg (by omega),<-YjO h,<-YjO (a:=V) h,YkC,Nat.mul_add_mod,Nat.mod_mod]
 . subst h
   rw[if_pos rfl,YkC]
   unfold dig
   rw[Nat.mul_add_div (Yad k),Nat.div_eq_of_lt hl]
   omega
 . rw[if_neg (by omega)]
   obtain⟨m,rfl⟩:∃m,k=(j+1)+m:=⟨k-(j+1),by omega⟩
   unfold dig
   have e:setD V j x/4294967296^(j+1)=V/4294967296^(j+1):=by
     exact Yo1 hx
   rw[YHa,<-YHK,<-YHK,e]
theorem Ytx{V j x n:Nat}(hV:V<4294967296^n)(hx:x<4294967296)(hj:j<n):setD V j x<4294967296^n:=by
 obtain⟨m,rfl⟩:∃m,n=m+(j+1):=⟨n-(j+1),by omega⟩
 rw[YHa,<-YHD (Yad _)]at hV⊢
 rw[Yo1 hx]
 exact hV
theorem YvT{a b i k V c:Nat}(h:V+c*4294967296^(i+k)=(a%4294967296^i)*b+dig a i*(b%4294967296^k)*4294967296^i):
   setD V (i+k) ((dig V (i+k)+dig a i*dig b k+c)%4294967296)+((dig V (i+k)+dig a i*dig b k+c)/4294967296)*4294967296^(i+(k+1))=(a%4294967296^i)*b+dig a i*(b%4294967296^(k+1))*4294967296^i:=by
 have e1:=YkB V (i+k) ((dig V (i+k)+dig a i*dig b k+c)%4294967296)
 have e2:=YHH (dig V (i+k)+dig a i*dig b k+c) 4294967296
 rw[Ygp,show i+(k+1)=(i+k)+1 by omega,Ya2]
 rw[YHa]at*
 generalize setD V (i+k) ((dig V (i+k)+dig a i*dig b k+c)%4294967296)=V' at*
 generalize(dig V (i+k)+dig a i*dig b k+c)%4294967296=r at*
 generalize(dig V (i+k)+dig a i*dig b k+c)/4294967296=q at*
 generalize dig V (i+k)=d at*
 generalize dig a i=x at*
 generalize dig b k=y at*
 generalize b%4294967296^k=bm at*
 generalize a%4294967296^i=am at*
 generalize 4294967296^i=P at*
 generalize 4294967296^k=R at*
 grind
theorem YsS{d x y c:Nat}(hd:d<4294967296)(hx:x<4294967296)(hy:y<4294967296)(hc:c<4294967296):d+x*y+c<18446744073709551616/\(d+x*y+c)/4294967296<4294967296:=by
 have:x*y<=4294967295*4294967295:=YHi (by omega) (by omega)
 omega
theorem YrE(a m k:Nat):dig (a/4294967296^m) k=dig a (m+k):=by
 unfold dig
 rw[YHa,YHK]
theorem YzG(a b:Nat):∃n,a<4294967296^n/\b<4294967296^n:=
 ⟨nl a+nl b,YHM (YpC a) (YHl (by decide) (by omega)),YHM (YpC b) (YHl (by decide) (by omega))⟩
theorem YrC{a b:Nat}(h:∀i,dig a i=dig b i):a=b:=by
 obtain⟨n,h1,h2⟩:=YzG a b
 exact YyI h1 h2 fun i _=>h i
theorem YDj{a b m:Nat}(h:∀i,m<=i->dig a i=dig b i):a/4294967296^m=b/4294967296^m:=
 YrC fun i=>by rw[YrE,YrE];exact h _ (by omega)
theorem YrD{a b j:Nat}(h:∀i,j<i->dig a i=dig b i)(hd:dig a j<dig b j):a<b:=by
 have h1:=YfS a j
 have h2:=YfS b j
 rw[YDj (m:=j+1) fun i hi=>h i hi]at h1
 have h3:=YHT a (Yad j)
 generalize b/4294967296^(j+1)=q at*
 generalize 4294967296^j=P at*
 generalize a%P=x at*
 generalize b%P=y at*
 generalize dig a j=d at*
 generalize dig b j=e at*
 have:P*(4294967296*q+d)+P<=P*(4294967296*q+e):=by
   rw[<-Nat.mul_succ];exact YG5 _ (by omega)
 omega
def ordN(a b:Nat):Int:=if a<b then -1 else if b<a then 1 else 0
theorem Y0{j:Nat}(h:0<j)(hj:j<=9223372036854775807):IntKind.i64.wrap ((j:Int)-1)=((j-1:Nat):Int):=by
 rw[YGZ _ (by omega)];omega
theorem Yce{x:Nat}(h:x<18446744073709551616):IntKind.u64.wrap (x:Int)=x:=YHt _ (by omega)
theorem YtT{x:Nat}(h:x<4294967296):IntKind.u32.wrap (x:Int)=x:=IntWalk.u32_in _ (by omega)
theorem YgG{x y:Nat}(h:x+y<18446744073709551616):IntKind.u64.wrap ((x:Int)+(y:Int))=((x+y:Nat):Int):=by rw[YHt _ (by omega)];simp
theorem Ynp{x y:Nat}(h:x*y<18446744073709551616):IntKind.u64.wrap ((x:Int)*(y:Int))=((x*y:Nat):Int):=by
 rw[<-YHZ];exact Yce h
theorem YAH{x y:Nat}(h:y<=x)(hx:x<18446744073709551616):IntKind.u64.wrap ((x:Int)-(y:Int))=((x-y:Nat):Int):=by
 rw[YHt _ (by omega)];omega
set_option maxRecDepth 100000
set_option maxHeartbeats 4000000
def padP(a n sz:Nat)(get:Nat->List SV):Prop:=sz=1/\n<=100000/\a<4294967296^n/\∀k,k<n->leXL (get k) [.int .u32 (dig a k)]
theorem Ys6{a n:Nat}(hn:n<=100000)(ha:a<4294967296^n):padP a n 1 (fun k=>[.int .u32 (dig a k)]):=⟨rfl,hn,ha,fun k _=>Yd _⟩
theorem YaH{a:Nat}(hn:nl a<=100000):padP a (nl a) 1 (fun k=>[.int .u32 (dig a k)]):=Ys6 hn (YpC a)
def natS(z:Bool)(a:Nat):SV:= .vs true z (nl a) 1 (fun k=>[.int .u32 (dig a k)])
theorem YzT{hp:List HO}{i n m:Nat}{z zz:Bool}{get:Nat->List SV}{a:Nat}(hn:n=nl a)(hz:z=zz)(hi:getH hp i= .own z 1 m get)(hg:∀j,j<n->get j=[.int .u32 (dig a j)]):
   le 0 0 (expo hp (.own i 0 n 1)) (natS zz a):=by
 have e:expo hp (.own i 0 n 1)= .vs true z n 1 (fun k=>viewN true hp 2 (get (Ydx 0 k))):=by
   show view true hp (viewN true hp 2) (.own i 0 n 1)=_
   unfold view
   rw[hi];rfl
 rw[e]
 unfold natS
 rw[YD0]
 refine⟨id,hz,hn,rfl,fun j hj=>?_⟩
 show leXL (viewN true hp 2 (get j)) _
 rw[hg j hj]
 exact Yd _
theorem Yhh{k:SV->List HO->Prop}{al:Bool}{hp:List HO}{i n m:Nat}{z zz:Bool}{get:Nat->List SV}{a:Nat}(h:k (natS zz a) [])(hn:n=nl a)(hz:z=zz)(hi:getH hp i= .own z 1 m get)(hg:∀j,j<n->get j=[.int .u32 (dig a j)]):
   Yy al k (.own i 0 n 1) hp:=YD h (YzT hn hz hi hg) (fun _=>by simp [natS,Yj,Yk])
theorem Yel{k:SV->List HO->Prop}{al:Bool}{hp:List HO}{t z:Bool}{a:Nat}(h:k (natS z a) []):Yy al k (.vs true z (nl a) 1 (fun k=>[.int .u32 (dig a k)])) hp:=
 YD h (Yw _ trivial) (fun _=>by simp [natS,Yj,Yk])
def R0:Env:={ ct:=fun _=>none,fn:=fun _=>none,meth:=fun _ _=>none}
def ofC:Ctr:={ alias:=false,of:=fun l=>match l with
 | [.int .u64 n]=> .pre (0<=n/\n<18446744073709551616) (.fin (natS false n.toNat) [])
 |_=>noC}
def plusC:Ctr:={ alias:=false,of:=fun l=>match l with
 | [.vs _ _ n sz get,.vs _ _ m sz' get']=> .ex Nat fun a=> .ex Nat fun b=> .pre (padP a n sz get/\padP b m sz' get'/\n<=99999/\m<=99999) (.fin (natS false (a+b)) [])
 |_=>noC}
def R1:Env:={ ct:=fun _=>none,fn:=fun _=>none,meth:=fun _ _=>none}
def Yrd:Nat->Nat->Nat
 |0,_=>0
 |f+1,a=>if a=0 then 0 else Yrd f (a/2)+1
def Yq(a:Nat):Nat:=Yrd a a
theorem YH(i:Nat):0<2^i:=YHO (by decide)
theorem Yn3:∀(f a n:Nat),a<=f->(Yrd f a<=n↔a<2^n)
 |0,a,n,h=>by
   have:=YH n
   simp only[Yrd];omega
 |f+1,a,n,h=>by
   simp only[Yrd]
   split
   . rename_i h0;have:=YH n;subst h0;simp;omega
   . cases n with
     |zero=>simp;omega
     |succ n=>
       have:=Yn3 f (a/2) n (by omega)
       rw[YHo,<-YHD (by decide),<-this]
       omega
theorem bitsN_le{a n:Nat}:Yq a<=n↔a<2^n:=Yn3 a a n (YG8 _)
theorem Yfm(a:Nat):a<2^Yq a:=bitsN_le.1 (YG8 _)
theorem YiC{a:Nat}(h:0<a):Yq a=Yq (a/2)+1:=by
 have h1:∀n,Yq a<=n↔Yq (a/2)+1<=n:=fun n=>by
   cases n with
   |zero=>have:= @bitsN_le a 0;simp at this;omega
   |succ n=>rw[bitsN_le,YHo,<-YHD (by decide),<-bitsN_le];omega
 have a1:=(h1 (Yq (a/2)+1)).2 (YG8 _)
 have a2:=(h1 (Yq a)).1 (YG8 _)
 omega
theorem bitsN_eq0{a:Nat}:Yq a=0↔a=0:=by
 have:= @bitsN_le a 0
 simp at this;omega
theorem Ygt(m:Nat):4294967296^m=2^(32*m):=by
 rw[YHf]
theorem YaA(a j k:Nat):dig (a%4294967296^j) k=if k<j then dig a k else 0:=by
 split
 . exact YjO ‹_›
 . exact Yc9 (YHT _ (Yad j)) (by omega)
theorem Yl7{x:Nat}(h:x<4294967296):(BitVec.ofInt 32 (x:Int)).toNat=x:=by
 simp [BitVec.toNat_ofInt];omega
theorem YEo{x y:Nat}(hx:x<4294967296)(hy:y<4294967296):IntKind.u32.wrap ((BitVec.ofInt 32 (x:Int) ||| BitVec.ofInt 32 (y:Int)).toNat:Int)=((x||| y:Nat):Int):=by
 rw[BitVec.toNat_or,Yl7 hx,Yl7 hy]
 exact YtT (Nat.or_lt_two_pow (n:=32) hx hy)
def nsg(neg:Bool)(a:Nat):Int:=if neg then -(a:Int)else a
theorem Ys3(neg:Bool)(a:Nat):(nsg neg a).natAbs=a:=by
 unfold nsg;split <;> omega
theorem YcE{x:Nat}(h:x<18446744073709551616):(BitVec.ofInt 64 (x:Int)).toNat=x:=by
 simp [BitVec.toNat_ofInt];omega
theorem YuT{x:Nat}(h:x<18446744073709551616):IntKind.u64.wrap ((BitVec.ofInt 64 (x:Int)&&&BitVec.ofInt 64 4294967295).toNat:Int)=((x%4294967296:Nat):Int):=by
 have h2:(BitVec.ofInt 64 4294967295).toNat=2^32-1:=by decide
 rw[BitVec.toNat_and,YcE h,h2,Nat.and_two_pow_sub_one_eq_mod]
 exact Yce (by omega)
theorem Ys5{x y:Nat}(hx:x<18446744073709551616)(hy:y<18446744073709551616):IntKind.u64.wrap ((BitVec.ofInt 64 (x:Int) ||| BitVec.ofInt 64 (y:Int)).toNat:Int)=((x||| y:Nat):Int):=by
 rw[BitVec.toNat_or,YcE hx,YcE hy]
 exact Yce (Nat.or_lt_two_pow (n:=64) hx hy)
theorem Ycr{x s:Nat}(hs:s<=64):(x:Int).fdiv (2^min s 64)=((x/2^s:Nat):Int):=by
 rw[Nat.min_eq_left hs,Int.fdiv_eq_ediv_of_nonneg _ (Int.le_of_lt (Int.pow_pos (by decide)))]
 simp
theorem Yge{x s:Nat}(hs:s<=64)(h:x*2^s<18446744073709551616):IntKind.u64.wrap ((x:Int)*2^min s 64)=((x*2^s:Nat):Int):=by
 rw[Nat.min_eq_left hs]
 have:(x:Int)*2^s=((x*2^s:Nat):Int):=by simp
 rw[this];exact Yce h
theorem Yno(x:Int):IntKind.u64.wrap x=x%18446744073709551616:=by
 rw[IntKind.wrap_u64]
theorem YFK(x:Nat):IntKind.u64.wrap (x:Int)=((x%18446744073709551616:Nat):Int):=by
 rw[Yno];simp
theorem YEb{x y:Nat}(hx:x<18446744073709551616)(hy:y<18446744073709551616):
   let x0:=x%4294967296;let x1:=x/4294967296;let y0:=y%4294967296;let y1:=y/4294967296
   let t:=x1*y0+x0*y0/4294967296
   let w1:=t%4294967296+x0*y1
   x1*y1+t/4294967296+w1/4294967296=x*y/18446744073709551616/\x0*y0<18446744073709551616/\x1*y0<18446744073709551616/\t<18446744073709551616/\x0*y1<18446744073709551616/\w1<18446744073709551616/\x1*y1<18446744073709551616/\x1*y1+t/4294967296<18446744073709551616/\x1*y1+t/4294967296+w1/4294967296<18446744073709551616:=by
 intro x0 x1 y0 y1 t w1
 have e1:x=4294967296*x1+x0:=(YHH x _).symm
 have e2:y=4294967296*y1+y0:=(YHH y _).symm
 have h0:x0<4294967296:=YHT _ (by decide)
 have h1:y0<4294967296:=YHT _ (by decide)
 have h2:x1<4294967296:=by omega
 have h3:y1<4294967296:=by omega
 have m:∀{a b:Nat},a<4294967296->b<4294967296->a*b<=4294967295*4294967295:=fun ha hb=>YHi (by omega) (by omega)
 have p1:=m h0 h1
 have p2:=m h2 h1
 have p3:=m h0 h3
 have p4:=m h2 h3
 have e:x*y=18446744073709551616*(x1*y1)+4294967296*(x1*y0+x0*y1)+x0*y0:=by
   rw[e1,e2];grind
 have ht:t=x1*y0+x0*y0/4294967296:=rfl
 have hw:w1=t%4294967296+x0*y1:=rfl
 rw[e]
 generalize x0*y0=A at*
 generalize x1*y0=B at*
 generalize x0*y1=C at*
 generalize x1*y1=D at*
 omega
structure Ygg (y1 y0 a u q r:Nat):Prop where
 eq:q*y1+r=a
 ge:(a*4294967296+u)/(y1*4294967296+y0)<=q
 le:q<=4294967297
theorem YrF{y1 y0 a u q r:Nat}(hy:0<y1)(h:q*y1+r=a):q*(y1*4294967296+y0)<=a*4294967296+u↔q*y0<=4294967296*r+u:=by
 have e:q*(y1*4294967296+y0)=q*y1*4294967296+q*y0:=by grind
 rw[e,<-h]
 generalize q*y1=A
 generalize q*y0=B
 omega
theorem YrG{y1 y0 a u:Nat}(h1:2147483648<=y1)(h0:y0<4294967296)(ha:a<y1*4294967296+y0)(hu:u<4294967296):Ygg y1 y0 a u (a/y1) (a-a/y1*y1)/\a-a/y1*y1<4294967296\/4294967296<=y1:=by
 rcases YHE y1 4294967296 with hy|hy
 . left
   have hp:0<y1:=by omega
   have e:=YHH a y1
   have hm:=YHT a hp
   rw[YG4]at e
   refine⟨⟨by omega,?_,?_⟩,by omega⟩
   . rw[<-Nat.lt_add_one_iff,YHD (by omega)]
     have:(a/y1+1)*(y1*4294967296+y0)=(a/y1*y1+y1)*4294967296+(a/y1+1)*y0:=by grind
     rw[this]
     have:(0:Nat)<=(a/y1+1)*y0:=Nat.zero_le _
     omega
   . rw[<-Nat.lt_add_one_iff,YHD hp]
     omega
 . exact .inr hy
theorem YjN{y1 y0 a u q r:Nat}(h:Ygg y1 y0 a u q r)(hy:0<y1)(hle:q*y0<=4294967296*r+u):q=(a*4294967296+u)/(y1*4294967296+y0):=by
 have h1:=(YrF (u:=u) (y0:=y0) hy h.eq).2 hle
 have h2:=(YHI (by omega)).2 h1
 have:=h.ge
 omega
theorem YjP{y1 y0 a u q r:Nat}(h:Ygg y1 y0 a u q r)(hy:0<y1)(ha:a<y1*4294967296+y0)(hu:u<4294967296)(hc:4294967296<=q\/4294967296*r+u<q*y0):0<q/\Ygg y1 y0 a u (q-1) (r+y1):=by
 have hlt:(a*4294967296+u)/(y1*4294967296+y0)<q:=by
   rcases hc with hc|hc
   . have:(a*4294967296+u)/(y1*4294967296+y0)<4294967296:=by
       rw[YHD (by omega)];omega
     exact YHM this hc
   . rw[YHD (by omega)]
     refine Nat.lt_of_not_le fun hh=>?_
     have:=(YrF (u:=u) (y0:=y0) hy h.eq).1 hh
     omega
 have h1:=h.eq
 have h2:=h.le
 have hq:0<q:=YHG (Nat.zero_le _) hlt
 refine⟨hq,⟨?_,by omega,by omega⟩⟩
 obtain⟨m,rfl⟩:∃m,q=m+1:=⟨q-1,by omega⟩
 rw[Nat.add_sub_cancel]
 rw[Nat.succ_mul]at h1
 omega
theorem Yhu{y1 y0 a u q r:Nat}(h:Ygg y1 y0 a u q r)(hy:0<y1)(h0:y0<4294967296)(hq:q<=4294967296)(hr:4294967296<=r):q=(a*4294967296+u)/(y1*4294967296+y0):=by
 refine YjN h hy ?_
 have:q*y0<=4294967296*4294967295:=YHi hq (by omega)
 omega
theorem Ynn{M y a u1 u0 q1 r1 q0 r0:Nat}(hy:0<y)(hq1:q1=(a*M+u1)/y)(hr1:r1=(a*M+u1)%y)(hq0:q0=(r1*M+u0)/y)(hr0:r0=(r1*M+u0)%y):
   q1*M+q0=(a*(M*M)+(u1*M+u0))/y/\r0=(a*(M*M)+(u1*M+u0))%y:=by
 have e1:=YHH (a*M+u1) y
 have e2:=YHH (r1*M+u0) y
 have hm:=YHT (r1*M+u0) hy
 rw[<-hq1,<-hr1]at e1
 rw[<-hq0,<-hr0]at e2
 rw[<-hr0]at hm
 have e3:a*(M*M)+(u1*M+u0)=y*(q1*M+q0)+r0:=by
   have:a*(M*M)+(u1*M+u0)=(a*M+u1)*M+u0:=by grind
   rw[this,<-e1]
   have:(y*q1+r1)*M+u0=y*q1*M+(r1*M+u0):=by grind
   rw[this,<-e2]
   grind
 rw[e3,Nat.mul_add_div hy,Nat.div_eq_of_lt hm,Nat.mul_add_mod,Nat.mod_eq_of_lt hm]
 exact⟨rfl,rfl⟩
theorem YeI{y a u1 u0 q1 q0 r1:Nat}(hy:0<y)(hq1:q1=(a*4294967296+u1)/y)(hr1:r1=(a*4294967296+u1)%y)(hq0:q0=(r1*4294967296+u0)/y):
   q1*4294967296+q0=(a*18446744073709551616+(u1*4294967296+u0))/y/\(r1*4294967296+u0)%y=(a*18446744073709551616+(u1*4294967296+u0))%y:=
 Ynn (M:=4294967296) hy hq1 hr1 hq0 rfl
theorem YpD{y:Nat}(hy:y<18446744073709551616)(h0:0<y):Yq y<=64/\9223372036854775808<=y*2^(64-Yq y)/\y*2^(64-Yq y)<18446744073709551616:=by
 have hb:Yq y<=64:=bitsN_le.2 hy
 have hpos:0<Yq y:=Nat.pos_of_ne_zero fun h=>by have:=bitsN_eq0.1 h;omega
 have h1:=Yfm y
 have h2:2^(Yq y-1)<=y:=by
   rcases YHE y (2^(Yq y-1))with h|h
   . have:=bitsN_le.2 h;omega
   . exact h
 refine⟨hb,?_,?_⟩
 . have:2^(Yq y-1)*2^(64-Yq y)<=y*2^(64-Yq y):=YG3 _ h2
   rw[<-YHa,show Yq y-1+(64-Yq y)=63 by omega]at this
   exact this
 . have:y*2^(64-Yq y)<2^Yq y*2^(64-Yq y):=Nat.mul_lt_mul_of_pos_right h1 (YH _)
   rw[<-YHa,show Yq y+(64-Yq y)=64 by omega]at this
   exact this
theorem Yvv{h x s:Nat}(hs:s<=64)(hx:x<18446744073709551616):(h*2^s||| x/2^(64-s))=h*2^s+x/2^(64-s)/\x/2^(64-s)<2^s/\(h*2^s+x/2^(64-s))*18446744073709551616+x*2^s%18446744073709551616=(h*18446744073709551616+x)*2^s:=by
 have e:(18446744073709551616:Nat)=2^(64-s)*2^s:=by rw[<-YHa,show 64-s+s=64 by omega]
 have hl:x/2^(64-s)<2^s:=by
   rw[YHD (YH _),YG4,<-e];exact hx
 refine⟨?_,hl,?_⟩
 . rw[YG4 h];exact(Nat.two_pow_add_eq_or_of_lt hl h).symm
 . have h1:=YHH x (2^(64-s))
   have e2:x*2^s%18446744073709551616=x%2^(64-s)*2^s:=by
     rw[e];exact Nat.mul_mod_mul_right _ _ _
   rw[e2,e]
   generalize 2^(64-s)=P at*
   generalize 2^s=R at*
   generalize x/P=a at*
   generalize x%P=b at*
   subst h1
   grind
def v159:VF:=⟨21,[.tmp 2],(ZR [u1 2 .mov [.cn .nil]] (.seq (.block 0 (.loop (.seq (ZR [Zm 3 0,Zl 4 3,Zq 5 .gtr 4 0,Zm 6 5,Zg 7 6 true 0,Zg 8 6 true 0,u2 9 6 true .len [.tm 8],u2 10 6 true (.ari .sub) [.tm 9,.cn (.int .i64 1)],u2 11 6 true (.idxAddr 1) [.tm 7,.tm 10],Zh 12 6 true 1 11,u2 13 6 true (.cmp .eql) [.tm 12,.cn (.int .u32 0)],u1 14 .and [.tm 6,.tm 13]] (ZC 14 .skip (.exit 0))) (.block 1 (.region [Zm 15 0,Zm 16 0,Zl 17 16,u1 18 (.ari .sub) [.tm 17,.cn (.int .i64 1)],u1 19 (.slice 1 false true) [.tm 15,.tm 18],Zm 0 19]))))) (ZR [Zm 20 0,Zm 2 20] .ret)))⟩
theorem YtX:Yf YGY Tryz.f159=some v159:=by kernel_rfl
def v152:VF:=⟨10,[.tmp 2],(ZR [u1 2 .mov [.cn .nil]] (ZR [Zm 3 0,u1 4 (.conv .u32) [.tm 3],Zm 5 0,u1 6 .shr [.tm 5,.cn (.int .u64 32)],u1 7 (.conv .u32) [.tm 6],u1 8 (.buildSlice 1 2 [(.int .u32 0)] [(0,1),(1,1)]) [.tm 4,.tm 7],Zc 9 159 8,Zm 2 9] .ret))⟩
theorem YBv:Yf YGY Tryz.f152=some v152:=by kernel_rfl
def v138:VF:=⟨5,[.tmp 2],(ZR [u1 2 .mov [.cn .nil]] (ZR [Zm 3 0,Zc 4 152 3,Zm 2 4] .ret))⟩
theorem YBh:Yf YGY Tryz.f138=some v138:=by kernel_rfl
def v140:VF:=⟨43,[.tmp 4],(ZR [Zi 4 0] (.seq (.block 0 (ZR [Zm 7 0,Zl 8 7,Zm 9 1,Zl 10 9,Zr 11 .lss 8 10,Zm 6 11] (ZC 6 (ZR [Zi 4 (-1)] .ret) (ZR [Zm 13 0,Zl 14 13,Zm 15 1,Zl 16 15,Zr 17 .gtr 14 16,Zm 12 17] (ZC 12 (ZR [Zi 4 1] .ret) .skip))))) (.seq (ZR [Zm 18 0,Zl 19 18,u1 20 (.ari .sub) [.tm 19,.cn (.int .i64 1)],Zm 5 20] (.block 1 (.loop (.seq (ZR [Zm 21 5,Zq 22 .geq 21 0] (ZC 22 .skip (.exit 1))) (.seq (.block 2 (.seq (.draw [] [Zu 25 0,Zu 26 5,ZX 27 1 25 26,Zv 28 1 27,Zu 29 1,Zu 30 5,ZX 31 1 29 30,Zv 32 1 31,w1 33 (.cmp .neq) [.tm 28,.tm 32]]) (ZC 33 (.seq (.seq (.draw [] [Zu 34 0,Zu 35 5,ZX 36 1 34 35,Zv 37 1 36,Zu 38 1,Zu 39 5,ZX 40 1 38 39,Zv 41 1 40,w1 42 (.cmp .lss) [.tm 37,.tm 41]]) (ZC 42 (ZR [Zi 4 (-1)] .ret) .skip)) (ZR [Zi 4 1] .ret)) .skip))) (.region [Zm 23 5,u1 24 (.ari .sub) [.tm 23,.cn (.int .i64 1)],Zm 5 24])))))) (ZR [Zi 4 0] .ret))))⟩
theorem YBj:Yf YGY Tryz.f140=some v140:=by kernel_rfl
def v149:VF:=⟨59,[.tmp 4],(ZR [u1 4 .mov [.cn .nil]] (.seq (ZR [Zm 9 0,Zl 10 9,Zm 11 1,Zl 12 11,Zr 13 .lss 10 12] (ZC 13 (.region [Zm 14 1,Zm 15 0,Zm 0 14,Zm 1 15]) .skip)) (ZR [Zm 16 0,Zl 17 16,Zp 18 17 1,u1 19 (.make 1 4 [(.int .u32 0)]) [.tm 18,.tm 18],Zm 5 19] (ZR [u1 6 .mov [.cn (.int .u64 0)]] (.seq (ZR [Zm 20 0,Zl 21 20,Zi 22 0] (.block 0 (.loop (ZR [Zr 23 .lss 22 21] (.seq (ZC 23 .skip (.exit 0)) (.seq (.block 1 (ZR [Zm 24 22,Zm 7 24] (ZR [Zm 25 0,Zm 26 7,Zx 27 1 25 26,Zf 28 1 27,u1 29 (.conv .u64) [.tm 28],Zm 30 6,Zo 31 .add 29 30,Zm 8 31] (.seq (ZR [Zm 32 7,Zm 33 1,Zl 34 33,Zr 35 .lss 32 34] (ZC 35 (.region [Zm 36 8,Zm 37 1,Zm 38 7,Zx 39 1 37 38,Zf 40 1 39,u1 41 (.conv .u64) [.tm 40],Zo 42 .add 36 41,Zm 8 42]) .skip)) (.region [Zm 43 5,Zm 44 7,Zm 45 8,u1 46 (.conv .u32) [.tm 45],Zm 47 8,u1 48 .shr [.tm 47,.cn (.int .u64 32)],Zx 49 1 43 44,Zs 1 49 46,Zm 6 48]))))) (.region [Zp 50 22 1,Zm 22 50]))))))) (ZR [Zm 51 5,Zm 52 0,Zl 53 52,Zm 54 6,u1 55 (.conv .u32) [.tm 54],Zx 56 1 51 53,Zs 1 56 55] (ZR [Zm 57 5,Zc 58 159 57,Zm 4 58] .ret)))))))⟩
theorem YBs:Yf YGY Tryz.f149=some v149:=by kernel_rfl
def WD0:Env:={ ct:=fun _=>none,fn:=fun n=>match n with|159=>some v159|_=>none,meth:=fun _ _=>none}
theorem YqD:WD0.ct 159=none:=rfl
theorem YqE:WD0.fn 159=some v159:=rfl
theorem YCG:Yl YGY WD0:=by
 refine⟨fun f c h=>?_,fun f vf h=>?_,(fun _ _ _ h=>by cases h),by kernel_rfl,(fun _ h=>by cases h)⟩
 . cases h
 . simp only[WD0]at h
   split at h
   . cases h;exact⟨Tryz.f159,Tryz.func159,YtX,Tryz.f159,Tryz.func159,by kernel_rfl,by kernel_rfl⟩
   . cases h
theorem sh32(z:Nat):(z:Int).fdiv (2^min (Int.toNat 32) 64)=((z/4294967296:Nat):Int):=Ycr (s:=32) (by decide)
theorem Yib(z:Nat):IntKind.u32.wrap (z:Int)=((z%4294967296:Nat):Int):=by rw[IntKind.wrap_u32];omega
theorem YGQ:ofC.ok YGY 152:=by
 refine Yb Tryz.func152 YBv YCG 200 ofC fun args k h=>?_
 simp only[ofC]at h
 split at h
 . rename_i n
   obtain⟨⟨h0,h1⟩,h⟩:=h
   obtain⟨X,rfl⟩:=YHL h0
   obtain⟨N,hN⟩:∃N,N=2:=⟨_,rfl⟩
   have hXN:X<4294967296^N:=by rw[hN];omega
   refine⟨[.int .u64 X],by simp [leL,le],?_⟩
   dsimp only[v152,YqD,YqE,v159,go_sem,reduceIte,YGU]
   simp only[Yc,YGU,YGW,reduceCtorEq,YGV]
   refine⟨by decide,by decide,?_⟩
   refine Loop.keep [0] Nat (fun j=>[(0,.own 0 0 j 1)]) (fun _=>[(0,.own false 1 N (fun k=>[.int .u32 (dig X k)]))]) [] (fun j=>j<=N/\X<4294967296^j) (fun j=>j) ?_ ?_
   . refine⟨N,⟨YG8 _,hXN⟩,?_⟩
     dsimp only[go_sem,reduceIte,YGU]
     simp only[Ya]
     refine⟨⟨hN.symm,by decide⟩,by decide,hN.symm,fun k hk=>?_⟩
     rw[show(2:Int)^min (Int.toNat 32) 64=4294967296 by decide,Int.fdiv_eq_ediv_of_nonneg _ (by decide)]
     have e0:dig X 0=X%4294967296:=YDh X
     have e1:dig X 1=X/4294967296:=by rw[Yva,YDh];omega
     match k,hk with
     |0,_=>rw[e0];exact⟨⟨rfl,by rw[IntKind.wrap_u32];omega⟩,trivial⟩
     |1,_=>rw[e1];exact⟨⟨rfl,by rw[IntKind.wrap_u32];omega⟩,trivial⟩
   . rintro j ⟨hj,haj⟩
     dsimp only[YG0,go_sem,reduceIte,YGU]
     simp only[Yc,YGU,YGW,reduceCtorEq,YGV]
     refine⟨fun hlt=>?_,fun hlt=>?_,fun hb=>?_,fun hb=>?_⟩
     . rw[Y0 (by omega) (by omega)];omega
     . rw[Y0 (by omega) (by omega)];omega
     . rw[YG2,decide_eq_true_eq,decide_eq_true_eq]at hb
       obtain⟨h1,h2⟩:=hb
       rw[Y0 (by omega) (by omega),YG0]at h2
       refine⟨by rw[Y0 (by omega) (by omega)];omega,j-1,⟨by omega,?_⟩,by omega,?_⟩
       . obtain⟨m,rfl⟩:∃m,j=m+1:=⟨j-1,by omega⟩
         exact YhK haj (by simp at h2;exact_mod_cast h2)
       . rw[Y0 (by omega) (by omega)]
         simp only[Ya] <;> simp [leL,le]
     . have e:nl X=j:=by
         refine YhQ haj ?_
         rw[Bool.and_eq_false_iff,decide_eq_false_iff_not,decide_eq_false_iff_not]at hb
         rcases YHR j with h0|h0
         . exact .inl h0
         . refine .inr fun hh=>hb.elim (fun h=>h (by omega)) fun h=>h ?_
           rw[Y0 h0 (by omega),YG0,hh];rfl
       subst e
       exact Yhh h rfl rfl rfl fun j hj=>rfl
 . exact h.1.elim
def WD1:Env:={ ct:=fun n=>match n with|152=>some ofC|_=>none,fn:=fun n=>match n with|159=>some v159|_=>none,meth:=fun _ _=>none}
theorem YqF:WD1.ct 152=some ofC:=rfl
theorem Ybn:WD1.ct 159=none:=rfl
theorem Ybo:WD1.fn 159=some v159:=rfl
theorem Yis:Yl YGY WD1:=by
 refine⟨fun f c h=>?_,fun f vf h=>?_,(fun _ _ _ h=>by cases h),by kernel_rfl,(fun _ h=>by cases h)⟩
 . simp only[WD1]at h
   split at h
   . cases h;exact⟨YGQ,Tryz.f152,Tryz.func152,by kernel_rfl,by kernel_rfl⟩
   . cases h
 . simp only[WD1]at h
   split at h
   . cases h;exact⟨Tryz.f159,Tryz.func159,YtX,Tryz.f159,Tryz.func159,by kernel_rfl,by kernel_rfl⟩
   . cases h
theorem YGN:ofC.ok YGY 138:=by
 refine Yb Tryz.func138 YBh Yis 200 ofC fun args k h=>?_
 simp only[ofC]at h
 split at h
 . rename_i n
   obtain⟨⟨h0,h1⟩,h⟩:=h
   refine⟨[.int .u64 n],by simp [leL,le],?_⟩
   dsimp only[v138,YqF,ofC,natS,go_sem,reduceIte,YGU]
   simp only[Yc,YGU,YGW,reduceCtorEq,YGV]
   exact⟨⟨h0,h1⟩,Yel (t:=true) h⟩
 . exact h.1.elim
def wcmpC:Ctr:={ alias:=false,of:=fun l=>match l with
 | [.vs _ _ n sz get,.vs _ _ m sz' get']=> .ex Nat fun a=> .ex Nat fun b=> .pre (padP a n sz get/\padP b m sz' get'/\n=nl a/\m=nl b) (.fin (.int .i64 (ordN a b)) [])
 |_=>noC}
theorem YzS{a b:Nat}(h:nl a<nl b):ordN a b= -1:=by
 have:a<b:=Nat.lt_of_not_le fun hh=>by have:=Ym7 hh;omega
 rw[ordN,if_pos this]
theorem YzR{a b:Nat}(h:nl b<nl a):ordN a b=1:=by
 have:b<a:=Nat.lt_of_not_le fun hh=>by have:=Ym7 hh;omega
 rw[ordN,if_neg (by omega),if_pos this]
theorem YBL:wcmpC.ok YGY 140:=by
 refine Yb Tryz.func140 YBj Yis 200 wcmpC fun args k h=>?_
 simp only[wcmpC]at h
 split at h
 . rename_i t1 z1 n sz get t2 z2 m sz' get'
   obtain⟨a,b,⟨⟨rfl,hn,ha,hg⟩,⟨rfl,hm,hb,hg'⟩,hna,hmb⟩,h⟩:=h
   refine⟨[.vs t1 z1 n 1 (fun k=>[.int .u32 (dig a k)]),.vs t2 z2 m 1 (fun k=>[.int .u32 (dig b k)])],⟨by simpa [le]using hg,by simpa [le]using hg',trivial⟩,?_⟩
   dsimp only[v140,go_sem,reduceIte,YGU]
   simp only[Yc,YGU,YGW,reduceCtorEq,YGV]
   refine⟨fun c1=>Yi ?_,fun c1=>⟨fun c2=>Yi ?_,fun c2=>?_⟩⟩
   . rw[YzS (by omega)]at h;exact h
   . rw[YzR (by omega)]at h;exact h
   refine Loop.keep [0,0,3] Nat (fun j=>[(5,.int .i64 ((j:Int)-1))]) (fun _=>[]) [] (fun j=>j<=n/\∀i,j<=i->dig a i=dig b i) (fun j=>j) ?_ ?_
   . refine⟨n,⟨YG8 _,fun i hi=>by rw[Yc9 ha (by omega),Yc9 hb (by omega)]⟩,?_⟩
     dsimp only[go_sem,reduceIte,YGU]
     simp only[Ya]
     rw[YGZ _ (by omega)]
     try simp
   . rintro j ⟨hj,haj⟩
     dsimp only[YG0,go_sem,reduceIte,YGU]
     simp only[Yc,YGU,YGW,reduceCtorEq,YGV]
     refine⟨fun hlt=>?_,fun hge=>?_⟩
     . obtain⟨i,rfl⟩:∃i,j=i+1:=⟨j-1,by omega⟩
       have e:((i+1:Nat):Int)-1=i:=by omega
       have gt:∀t,i<t->dig a t=dig b t:=fun t ht=>haj t (by omega)
       rw[e]
       simp only[YG0]
       refine⟨⟨by omega,by omega⟩,⟨by omega,by omega⟩,fun hd=>⟨⟨by omega,by omega⟩,⟨by omega,by omega⟩,fun hc=>Yi ?_,fun hc=>Yi ?_⟩,fun hd=>⟨i,⟨by omega,fun t ht=>?_⟩,by omega,?_⟩⟩
       . have:=YrD gt (by omega:dig a i<dig b i)
         rw[ordN,if_pos this]at h;exact h
       . have:=YrD (fun t ht=>(gt t ht).symm) (by omega:dig b i<dig a i)
         rw[ordN,if_neg (by omega),if_pos this]at h;exact h
       . rcases Nat.eq_or_lt_of_le ht with rfl|ht
         . omega
         . exact gt t ht
       . simp only[Ya]
         rw[YGZ _ (by omega)]
         try simp
     . obtain rfl:j=0:=by omega
       have:a=b:=YrC fun i=>haj i (Nat.zero_le _)
       rw[ordN,if_neg (by omega),if_neg (by omega)]at h
       exact Yi h
 . exact h.1.elim
theorem Ywx:plusC.ok YGY 149:=by
 refine Yb Tryz.func149 YBs Yis 300 plusC fun args k h=>?_
 simp only[plusC]at h
 split at h
 . rename_i t1 z1 n sz get t2 z2 m sz' get'
   obtain⟨a,b,⟨⟨rfl,hn,ha,hg⟩,⟨rfl,hm,hb,hg'⟩,hn9,hm9⟩,h⟩:=h
   refine⟨[.vs t1 z1 n 1 (fun k=>[.int .u32 (dig a k)]),.vs t2 z2 m 1 (fun k=>[.int .u32 (dig b k)])],⟨by simpa [le]using hg,by simpa [le]using hg',trivial⟩,?_⟩
   dsimp only[v149,Ybn,Ybo,v159,go_sem,reduceIte,YGU]
   simp only[Yc,YGU,YGW,reduceCtorEq,YGV]
   refine⟨fun hlt=>?_,fun hge=>?_⟩
   all_goals first
     | (obtain⟨q,rfl⟩:∃q,q=n:=⟨_,rfl⟩
        obtain⟨n,rfl⟩:∃q,q=m:=⟨_,rfl⟩
        obtain⟨m,rfl⟩:∃m,m=q:=⟨_,rfl⟩
        obtain⟨q,rfl⟩:∃q,q=a:=⟨_,rfl⟩
        obtain⟨a,rfl⟩:∃a,a=b:=⟨_,rfl⟩
        obtain⟨b,rfl⟩:∃b,b=q:=⟨_,rfl⟩
        rw[Nat.add_comm]at h
        obtain⟨N,hNn⟩:∃N,N=n+1:=⟨_,rfl⟩
        obtain⟨X,hX⟩:∃X,X=a+b:=⟨_,rfl⟩
        have hmn:m<=n:=by omega)
     | (obtain⟨N,hNn⟩:∃N,N=n+1:=⟨_,rfl⟩
        obtain⟨X,hX⟩:∃X,X=a+b:=⟨_,rfl⟩
        have hmn:m<=n:=by omega)
   all_goals
     have ha1:a<4294967296^n:=by assumption
     have hb1:b<4294967296^m:=by assumption
     have eN:IntKind.i64.wrap ((n:Int)+1)=((N:Nat):Int):=by rw[hNn,YGZ _ (by omega)];omega
     rw[eN]
     simp only[YG0]
     refine⟨⟨by decide,by omega,by omega,by unfold Yah;omega⟩,?_⟩
     refine Loop.keep [0,0,3,14,0] Nat (fun i=>[(6,.int .u64 (cy a b i)),(22,.int .i64 i)]) (fun i=>[(0,.own false 1 N (fun k=>[.int .u32 (dig (X%4294967296^i) k)]))]) [] (fun i=>i<=n) (fun i=>n-i) ?_ ?_
     . refine⟨0,by omega,?_⟩
       dsimp only[go_sem,reduceIte,YGU]
       simp only[Ya]
       simp [cy_0,Nat.mod_one,YgO,leL,le]
     . rintro i hi
       dsimp only[Ybn,Ybo,v159,YG0,go_sem,reduceIte,YGU]
       simp only[Yc,YGU,YGW,reduceCtorEq,YGV]
       refine⟨fun hlt=>⟨⟨by omega,by omega⟩,fun hc=>⟨⟨by omega,by omega⟩,by decide,⟨by omega,by omega⟩,by omega,i+1,by omega,by omega,?_⟩,fun hc=>⟨by decide,⟨by omega,by omega⟩,by omega,i+1,by omega,by omega,?_⟩⟩,fun hge=>?_⟩
       . have hd1:=Yct a i
         have hd2:=Yct b i
         have hcy:=YyE a b i
         have e1:=YmI a b i
         have e2:=YwG a b i
         rw[show dig a i+dig b i+cy a b i=dig a i+cy a b i+dig b i by omega]at e1 e2
         rw[Yce (by omega:dig a i<18446744073709551616),Yce (by omega:dig b i<18446744073709551616),YgG (by omega),YgG (by omega),sh32,Yib,e1,e2,YGZ ((i:Int)+1) (by omega)]
         simp only[Ya]
         refine⟨by simp,fun j hj=>?_⟩
         rw[YaA,YaA,hX]
         by_cases hji:j=i
         . rw[if_pos hji,if_pos (by omega),hji];simp only[leL,le,and_self]
         . rw[if_neg hji];simp only[show(j<i+1)↔(j<i)from by omega];simp only[leL,le,and_self]
       . have hd1:=Yct a i
         have hd2:dig b i=0:=Yc9 hb1 (by omega)
         have hcy:=YyE a b i
         have e1:=YmI a b i
         have e2:=YwG a b i
         rw[hd2,Nat.add_zero]at e1 e2
         rw[Yce (by omega:dig a i<18446744073709551616),YgG (by omega),sh32,Yib,e1,e2,YGZ ((i:Int)+1) (by omega)]
         simp only[Ya]
         refine⟨by simp,fun j hj=>?_⟩
         rw[YaA,YaA,hX]
         by_cases hji:j=i
         . rw[if_pos hji,if_pos (by omega),hji];simp only[leL,le,and_self]
         . rw[if_neg hji];simp only[show(j<i+1)↔(j<i)from by omega];simp only[leL,le,and_self]
       . obtain rfl:i=n:=by omega
         refine⟨⟨by omega,by omega⟩,by omega,?_⟩
         have hXN:X<4294967296^N:=by
           have h2:b<4294967296^i:=YHM hb1 (YHl (by decide) hmn)
           rw[hX,hNn,Ya2];omega
         have htop:IntKind.u32.wrap ((cy a b i:Nat):Int)=((dig X i:Nat):Int):=by
           have e1:=YmI a b i
           have hcy:=YyE a b i
           rw[Yc9 ha1 (YG8 _),Yc9 hb1 hmn]at e1
           rw[Yib,hX,<-e1]
           omega
         rw[htop]
         rw[<-hX]at h
         refine Loop.keep [0] Nat (fun j=>[(0,.own 0 0 j 1)]) (fun _=>[(0,.own false 1 N (fun k=>[.int .u32 (dig X k)]))]) [] (fun j=>j<=N/\X<4294967296^j) (fun j=>j) ?_ ?_
         . refine⟨N,⟨YG8 _,hXN⟩,?_⟩
           dsimp only[go_sem,reduceIte,YGU]
           simp only[Ya]
           refine⟨by decide,by decide,fun j hj=>?_⟩
           split
           . rename_i e;rw[e];exact⟨⟨rfl,rfl⟩,trivial⟩
           . rw[YjO (by omega)];exact⟨⟨rfl,rfl⟩,trivial⟩
         . rintro j ⟨hj,haj⟩
           dsimp only[YG0,go_sem,reduceIte,YGU]
           simp only[Yc,YGU,YGW,reduceCtorEq,YGV]
           refine⟨fun hlt=>?_,fun hlt=>?_,fun hb=>?_,fun hb=>?_⟩
           . rw[Y0 (by omega) (by omega)];omega
           . rw[Y0 (by omega) (by omega)];omega
           . rw[YG2,decide_eq_true_eq,decide_eq_true_eq]at hb
             obtain⟨h1,h2⟩:=hb
             rw[Y0 (by omega) (by omega),YG0]at h2
             refine⟨by rw[Y0 (by omega) (by omega)];omega,j-1,⟨by omega,?_⟩,by omega,?_⟩
             . obtain⟨m,rfl⟩:∃m,j=m+1:=⟨j-1,by omega⟩
               exact YhK haj (by simp at h2;exact_mod_cast h2)
             . rw[Y0 (by omega) (by omega)]
               simp only[Ya] <;> simp [leL,le]
           . have e:nl X=j:=by
               refine YhQ haj ?_
               rw[Bool.and_eq_false_iff,decide_eq_false_iff_not,decide_eq_false_iff_not]at hb
               rcases YHR j with h0|h0
               . exact .inl h0
               . refine .inr fun hh=>hb.elim (fun h=>h (by omega)) fun h=>h ?_
                 rw[Y0 h0 (by omega),YG0,hh];rfl
             subst e
             exact Yhh h rfl rfl rfl fun j hj=>rfl
 . exact h.1.elim
def v151:VF:=⟨68,[.tmp 4],(ZR [u1 4 .mov [.cn .nil]] (ZR [Zm 12 0,Zl 13 12,Zm 14 1,Zl 15 14,Zo 16 .add 13 15,u1 17 (.make 1 4 [(.int .u32 0)]) [.tm 16,.tm 16],Zm 5 17] (.seq (ZR [Zm 18 0,Zl 19 18,Zi 20 0] (.block 0 (.loop (ZR [Zr 21 .lss 20 19] (.seq (ZC 21 .skip (.exit 0)) (.seq (.block 1 (ZR [Zm 22 20,Zx 23 1 18 20,Zf 24 1 23,Zm 6 22,Zm 7 24] (ZR [u1 8 .mov [.cn (.int .u64 0)]] (.seq (ZR [Zm 25 1,Zl 26 25,Zi 27 0] (.block 2 (.loop (ZR [Zr 28 .lss 27 26] (.seq (ZC 28 .skip (.exit 2)) (.seq (.block 3 (ZR [Zm 29 27,Zx 30 1 25 27,Zf 31 1 30,Zm 9 29,Zm 10 31] (ZR [Zm 32 5,Zm 33 6,Zm 34 9,Zo 35 .add 33 34,Zx 36 1 32 35,Zf 37 1 36,u1 38 (.conv .u64) [.tm 37],Zm 39 7,u1 40 (.conv .u64) [.tm 39],Zm 41 10,u1 42 (.conv .u64) [.tm 41],Zo 43 .mul 40 42,Zo 44 .add 38 43,Zm 45 8,Zo 46 .add 44 45,Zm 11 46] (.region [Zm 47 5,Zm 48 6,Zm 49 9,Zo 50 .add 48 49,Zm 51 11,u1 52 (.conv .u32) [.tm 51],Zm 53 11,u1 54 .shr [.tm 53,.cn (.int .u64 32)],Zx 55 1 47 50,Zs 1 55 52,Zm 8 54])))) (.region [Zp 56 27 1,Zm 27 56]))))))) (.region [Zm 57 5,Zm 58 6,Zm 59 1,Zl 60 59,Zo 61 .add 58 60,Zm 62 8,u1 63 (.conv .u32) [.tm 62],Zx 64 1 57 61,Zs 1 64 63]))))) (.region [Zp 65 20 1,Zm 20 65]))))))) (ZR [Zm 66 5,Zc 67 159 66,Zm 4 67] .ret))))⟩
theorem YBu:Yf YGY Tryz.f151=some v151:=by kernel_rfl
def v158:VF:=⟨58,[.tmp 4],(ZR [u1 4 .mov [.cn .nil]] (.seq (ZR [Zm 11 0,Zl 12 11,Zq 13 .eql 12 0] (ZC 13 (ZR [u1 4 .mov [.cn .nil]] .ret) .skip)) (ZR [Zm 14 1,u1 15 .quo [.tm 14,.cn (.int .i64 32)],Zm 16 1,u1 17 .rem [.tm 16,.cn (.int .i64 32)],u1 18 (.conv .u64) [.tm 17],Zm 5 15,Zm 6 18] (ZR [Zm 19 0,Zl 20 19,Zm 21 5,Zo 22 .add 20 21,Zp 23 22 1,u1 24 (.make 1 4 [(.int .u32 0)]) [.tm 23,.tm 23],Zm 7 24] (.seq (ZR [Zm 25 0,Zl 26 25,Zi 27 0] (.block 0 (.loop (ZR [Zr 28 .lss 27 26] (.seq (ZC 28 .skip (.exit 0)) (.seq (.block 1 (ZR [Zm 29 27,Zx 30 1 25 27,Zf 31 1 30,Zm 8 29,Zm 9 31] (ZR [Zm 32 9,u1 33 (.conv .u64) [.tm 32],Zm 34 6,u1 35 .shl [.tm 33,.tm 34],Zm 10 35] (ZR [Zm 36 7,Zm 37 8,Zm 38 5,Zo 39 .add 37 38,Zx 40 1 36 39,Zf 41 1 40,Zm 42 10,u1 43 (.conv .u32) [.tm 42],u1 44 (.bit .or) [.tm 41,.tm 43],Zx 45 1 36 39,Zs 1 45 44] (.region [Zm 46 7,Zm 47 8,Zm 48 5,Zo 49 .add 47 48,Zp 50 49 1,Zm 51 10,u1 52 .shr [.tm 51,.cn (.int .u64 32)],u1 53 (.conv .u32) [.tm 52],Zx 54 1 46 50,Zs 1 54 53]))))) (.region [Zp 55 27 1,Zm 27 55]))))))) (ZR [Zm 56 7,Zc 57 159 56,Zm 4 57] .ret))))))⟩
theorem YBB:Yf YGY Tryz.f158=some v158:=by kernel_rfl
def v157:VF:=⟨64,[.tmp 4],(ZR [u1 4 .mov [.cn .nil]] (ZR [Zm 10 1,u1 11 .quo [.tm 10,.cn (.int .i64 32)],Zm 12 1,u1 13 .rem [.tm 12,.cn (.int .i64 32)],u1 14 (.conv .u64) [.tm 13],Zm 5 11,Zm 6 14] (.seq (ZR [Zm 15 5,Zm 16 0,Zl 17 16,Zr 18 .geq 15 17] (ZC 18 (ZR [u1 4 .mov [.cn .nil]] .ret) .skip)) (ZR [Zm 19 0,Zl 20 19,Zm 21 5,Zo 22 .sub 20 21,u1 23 (.make 1 4 [(.int .u32 0)]) [.tm 22,.tm 22],Zm 7 23] (.seq (ZR [Zm 24 7,Zl 25 24,Zi 26 0] (.block 0 (.loop (ZR [Zr 27 .lss 26 25] (.seq (ZC 27 .skip (.exit 0)) (.seq (.block 1 (ZR [Zm 28 26,Zm 8 28] (ZR [Zm 29 0,Zm 30 8,Zm 31 5,Zo 32 .add 30 31,Zx 33 1 29 32,Zf 34 1 33,u1 35 (.conv .u64) [.tm 34],Zm 9 35] (.seq (ZR [Zm 36 8,Zm 37 5,Zo 38 .add 36 37,Zp 39 38 1,Zm 40 0,Zl 41 40,Zr 42 .lss 39 41] (ZC 42 (.region [Zm 43 9,Zm 44 0,Zm 45 8,Zm 46 5,Zo 47 .add 45 46,Zp 48 47 1,Zx 49 1 44 48,Zf 50 1 49,u1 51 (.conv .u64) [.tm 50],u1 52 .shl [.tm 51,.cn (.int .u64 32)],u1 53 (.bit .or) [.tm 43,.tm 52],Zm 9 53]) .skip)) (.region [Zm 54 7,Zm 55 8,Zm 56 9,Zm 57 6,u1 58 .shr [.tm 56,.tm 57],u1 59 (.conv .u32) [.tm 58],Zx 60 1 54 55,Zs 1 60 59]))))) (.region [Zp 61 26 1,Zm 26 61]))))))) (ZR [Zm 62 7,Zc 63 159 62,Zm 4 63] .ret))))))⟩
theorem YBA:Yf YGY Tryz.f157=some v157:=by kernel_rfl
theorem Yo2{V j x:Nat}(hV:V<4294967296^j):setD V j x=V+x*4294967296^j:=by
 have:=YkB V j x
 rw[Yc9 hV (YG8 _)]at this
 omega
def wtimC:Ctr:={ alias:=false,of:=fun l=>match l with
 | [.vs _ _ n sz get,.vs _ _ m sz' get']=> .ex Nat fun a=> .ex Nat fun b=> .pre (padP a n sz get/\padP b m sz' get'/\n+m<=99999) (.fin (natS false (a*b)) [])
 |_=>noC}
theorem Yt6:wtimC.ok YGY 151:=by
 refine Yb Tryz.func151 YBu Yis 300 wtimC fun args k h=>?_
 simp only[wtimC]at h
 split at h
 . rename_i t1 z1 n sz get t2 z2 m sz' get'
   obtain⟨a,b,⟨⟨rfl,hn,ha,hg⟩,⟨rfl,hm,hb,hg'⟩,hnm⟩,h⟩:=h
   refine⟨[.vs t1 z1 n 1 (fun k=>[.int .u32 (dig a k)]),.vs t2 z2 m 1 (fun k=>[.int .u32 (dig b k)])],⟨by simpa [le]using hg,by simpa [le]using hg',trivial⟩,?_⟩
   dsimp only[v151,Ybn,Ybo,v159,go_sem,reduceIte,YGU]
   simp only[Yc,YGU,YGW,reduceCtorEq,YGV]
   obtain⟨N,hNn⟩:∃N,N=n+m:=⟨_,rfl⟩
   obtain⟨X,hX⟩:∃X,X=a*b:=⟨_,rfl⟩
   have en:IntKind.i64.wrap ((n:Int)+(m:Int))=(N:Int):=by rw[hNn,YGZ _ (by omega)];omega
   rw[en]
   simp only[YG0]
   refine⟨⟨by decide,by omega,by omega,by unfold Yah;omega⟩,?_⟩
   refine Loop.keep [0,0,3,12,0] Nat (fun i=>[(20,.int .i64 i)]) (fun i=>[(0,.own false 1 N (fun k=>[.int .u32 (dig ((a%4294967296^i)*b) k)]))]) [] (fun i=>i<=n) (fun i=>n-i) ?_ ?_
   . refine⟨0,by omega,?_⟩
     dsimp only[go_sem,reduceIte,YGU]
     simp only[Ya]
     simp [Nat.mod_one,YgO,leL,le]
   . rintro i hi
     dsimp only[Ybn,Ybo,v159,YG0,go_sem,reduceIte,YGU]
     simp only[Yc,YGU,YGW,reduceCtorEq,YGV]
     have hrow:∀i,(a%4294967296^i)*b<4294967296^(i+m):=fun i=>by
       rw[YHa]
       exact Nat.mul_lt_mul_of_lt_of_le (YHT _ (Yad i)) (Nat.le_of_lt hb) (Yad m)
     refine⟨fun hlt=>?_,fun hge=>?_⟩
     . refine⟨⟨by omega,by omega⟩,?_⟩
       refine Loop.keep [0,0,3,0,0,10,0,0,4,0] (Nat×Nat×Nat) (fun x=>[(8,.int .u64 x.2.2),(27,.int .i64 x.1)]) (fun x=>[(0,.own false 1 N (fun k=>[.int .u32 (dig x.2.1 k)]))]) [] (fun x=>x.1<=m/\x.2.2<4294967296/\x.2.1<4294967296^(i+m)/\x.2.1+x.2.2*4294967296^(i+x.1)=(a%4294967296^i)*b+dig a i*(b%4294967296^x.1)*4294967296^i) (fun x=>m-x.1) ?_ ?_
       . refine⟨(0,(a%4294967296^i)*b,0),⟨by simp only;omega,by simp only;omega,hrow i,by simp [Nat.mod_one]⟩,?_⟩
         dsimp only[go_sem,reduceIte,YGU]
         simp only[Ya]
         try simp [leL,le]
       . rintro⟨t,V,c⟩ ⟨ht,hc,hV,he⟩
         dsimp only at ht hc hV he
         dsimp only[YG0,go_sem,reduceIte,YGU]
         simp only[Yc,YGU,YGW,reduceCtorEq,YGV]
         refine⟨fun hlt2=>?_,fun hge2=>?_⟩
         . have w1:IntKind.i64.wrap ((i:Int)+(t:Int))=((i+t:Nat):Int):=by rw[YGZ _ (by omega)];simp
           rw[w1]
           simp only[YG0]
           have hd0:=Yct V (i+t)
           have hd1:=Yct a i
           have hd2:=Yct b t
           obtain⟨hb1,hb2⟩:=YsS hd0 (Yct a i) (Yct b t) hc
           have hs:=YvT he
           refine⟨⟨by omega,by omega⟩,⟨by omega,by omega⟩,by omega,by decide,⟨by omega,by omega⟩,by omega,
             (t+1,setD V (i+t) ((dig V (i+t)+dig a i*dig b t+c)%4294967296),(dig V (i+t)+dig a i*dig b t+c)/4294967296),⟨by simp only;omega,hb2,Ytx hV (YHT _ (by decide)) (by omega),hs⟩,by simp only;omega,?_⟩
           rw[Yce (by omega:dig V (i+t)<18446744073709551616),Yce (by omega:dig a i<18446744073709551616),Yce (by omega:dig b t<18446744073709551616),Ynp (by omega),YgG (by omega),YgG (by omega),Yib,sh32,YGZ ((t:Int)+1) (by omega)]
           simp only[Ya]
           refine⟨by simp,fun j hj=>?_⟩
           rw[YgN (YHT _ (by decide))]
           split <;> simp only[leL,le,and_self]
         . obtain rfl:t=m:=by omega
           have w1:IntKind.i64.wrap ((i:Int)+(t:Int))=((i+t:Nat):Int):=by rw[YGZ _ (by omega)];simp
           rw[w1]
           simp only[YG0]
           rw[Nat.mod_eq_of_lt hb]at he
           have hrow2:(a%4294967296^(i+1))*b=setD V (i+t) c:=by
             rw[Yo2 hV,he,Ygp,YHr,YG6,YG4 (4294967296^i)]
           refine⟨⟨by omega,by omega⟩,by omega,i+1,by omega,by omega,?_⟩
           rw[YtT hc,hrow2,YGZ ((i:Int)+1) (by omega)]
           simp only[Ya]
           refine⟨by simp,fun j hj=>?_⟩
           rw[YgN hc]
           split <;> simp only[leL,le,and_self]
     . obtain rfl:i=n:=by omega
       have hmi:a%4294967296^i=a:=Nat.mod_eq_of_lt ha
       have hXN:X<4294967296^N:=by
         have:=hrow i
         rw[hmi]at this
         rw[hX,hNn];exact this
       rw[hmi,<-hX]
       rw[<-hX]at h
       refine Loop.keep [0] Nat (fun j=>[(0,.own 0 0 j 1)]) (fun _=>[(0,.own false 1 N (fun k=>[.int .u32 (dig X k)]))]) [] (fun j=>j<=N/\X<4294967296^j) (fun j=>j) ?_ ?_
       . refine⟨N,⟨YG8 _,hXN⟩,?_⟩
         dsimp only[go_sem,reduceIte,YGU]
         simp only[Ya]
         simp [leL,le]
       . rintro j ⟨hj,haj⟩
         dsimp only[YG0,go_sem,reduceIte,YGU]
         simp only[Yc,YGU,YGW,reduceCtorEq,YGV]
         refine⟨fun hlt=>?_,fun hlt=>?_,fun hb=>?_,fun hb=>?_⟩
         . rw[Y0 (by omega) (by omega)];omega
         . rw[Y0 (by omega) (by omega)];omega
         . rw[YG2,decide_eq_true_eq,decide_eq_true_eq]at hb
           obtain⟨h1,h2⟩:=hb
           rw[Y0 (by omega) (by omega),YG0]at h2
           refine⟨by rw[Y0 (by omega) (by omega)];omega,j-1,⟨by omega,?_⟩,by omega,?_⟩
           . obtain⟨m,rfl⟩:∃m,j=m+1:=⟨j-1,by omega⟩
             exact YhK haj (by simp at h2;exact_mod_cast h2)
           . rw[Y0 (by omega) (by omega)]
             simp only[Ya] <;> simp [leL,le]
         . have e:nl X=j:=by
             refine YhQ haj ?_
             rw[Bool.and_eq_false_iff,decide_eq_false_iff_not,decide_eq_false_iff_not]at hb
             rcases YHR j with h0|h0
             . exact .inl h0
             . refine .inr fun hh=>hb.elim (fun h=>h (by omega)) fun h=>h ?_
               rw[Y0 h0 (by omega),YG0,hh];rfl
           subst e
           exact Yhh h rfl rfl rfl fun j hj=>rfl
 . exact h.1.elim
def wupC:Ctr:={ alias:=false,of:=fun l=>match l with
 | [.vs _ _ n sz get,.int .i64 s]=> .ex Nat fun a=> .ex Nat fun d=> .pre (padP a n sz get/\n=nl a/\n<=9999/\s=d/\d<=20000) (.all Bool fun z=> .fin (natS (z&&decide (a*2^d=0)) (a*2^d)) [])
 |_=>noC}
def wdownC:Ctr:={ alias:=false,of:=fun l=>match l with
 | [.vs _ _ n sz get,.int .i64 s]=> .ex Nat fun a=> .ex Nat fun d=> .pre (padP a n sz get/\n<=9999/\s=d/\d<=20000) (.all Bool fun z=> .fin (natS (z&&decide (a/2^d=0)) (a/2^d)) [])
 |_=>noC}
theorem YnR{k:SV->List HO->Prop}{al:Bool}{hp:List HO}(h:k (natS true 0) []):Yy al k .nil hp:=
 YD h (by show le 0 0 (view true hp (viewN true hp 2) .nil) _;unfold view;simp [natS,nl_0,le]) (fun _=>by simp [natS,Yj,Yk])
theorem or_hi{x y:Nat}(hx:x<4294967296)(hy:y<4294967296):bitI .or .u64 (x:Int) (IntKind.u64.wrap ((y:Int)*2^min (Int.toNat 32) 64))=((x+y*4294967296:Nat):Int):=by
 have e:IntKind.u64.wrap ((y:Int)*2^min (Int.toNat 32) 64)=((y*4294967296:Nat):Int):=Yge (s:=32) (by decide) (by omega)
 rw[e,show bitI .or .u64 (x:Int) ((y*4294967296:Nat):Int)=((x||| y*4294967296:Nat):Int)from Ys5 (by omega) (by omega)]
 have:=Nat.two_pow_add_eq_or_of_lt (i:=32) hx y
 rw[Nat.or_comm,YG4,show(4294967296:Nat)=2^32 from rfl,<-this,Nat.add_comm]
theorem Yl2{y r:Nat}(h:r<32):y%(4294967296*4294967296)/2^r%4294967296=y/2^r%4294967296:=by
 have e:(4294967296*4294967296:Nat)=2^r*(4294967296*2^(32-r)):=by
   rw[show(4294967296:Nat)=2^32 from rfl,<-YHa,<-YHa,<-YHa];congr 1;omega
 rw[e,Nat.mod_mul_right_div_self,Nat.mod_mul_right_mod]
theorem Yod{a d w r:Nat}(hw:w=d/32)(hr:r=d%32)(i:Nat):dig (a/2^d) i=(dig a (i+w)+dig a (i+w+1)*4294967296)/2^r%4294967296:=by
 have e:dig a (i+w)+dig a (i+w+1)*4294967296=a/4294967296^(i+w)%(4294967296*4294967296):=by
   unfold dig
   rw[Ya2,<-YHK]
   generalize a/4294967296^(i+w)=y
   omega
 rw[e,Yl2 (by omega)]
 unfold dig
 have e2:2^d*4294967296^i=4294967296^(i+w)*2^r:=by
   rw[Ygt,Ygt,<-YHa,<-YHa];congr 1;omega
 rw[YHK,YHK,e2]
theorem YyL{a d w n N:Nat}(hw:w=d/32)(hN:N=n-w)(hwn:w<n)(ha:a<4294967296^n):a/2^d<4294967296^N:=by
 rw[YHD (YH d)]
 refine YHM ha ?_
 rw[Ygt,Ygt,<-YHa]
 exact YHl (by decide) (by omega)
theorem Yia{d w r:Nat}(hw:w=d/32)(hr:r=d%32):2^d=2^r*4294967296^w:=by
 rw[Ygt,<-YHa];congr 1;omega
theorem Yzy(x:Nat){r:Nat}(hr:r<32):x*2^r%4294967296=2^r*(x%2^(32-r)):=by
 have e:(4294967296:Nat)=2^r*2^(32-r):=by
   rw[<-YHa,show r+(32-r)=32 by omega]
 rw[YG4 x,e,Nat.mul_mod_mul_left]
theorem Ynr{a d w r:Nat}(hw:w=d/32)(hr:r=d%32)(i:Nat):
   (dig ((a%4294967296^i)*2^d) (i+w) ||| dig a i*2^r%4294967296)<4294967296/\(a%4294967296^(i+1))*2^d=setD (setD ((a%4294967296^i)*2^d) (i+w) (dig ((a%4294967296^i)*2^d) (i+w) ||| dig a i*2^r%4294967296)) (i+w+1) (dig a i*2^r/4294967296):=by
 have hr32:r<32:=by omega
 have hb:(dig ((a%4294967296^i)*2^d) (i+w) ||| dig a i*2^r%4294967296)<4294967296:=Nat.or_lt_two_pow (n:=32) (Yct _ _) (YHT _ (by decide))
 refine⟨hb,?_⟩
 have hY:(a%4294967296^i)*2^d<4294967296^(i+w)*2^r:=by
   rw[Yia hw hr,<-YG6,Nat.mul_right_comm,YHa]
   exact Nat.mul_lt_mul_of_pos_right (Nat.mul_lt_mul_of_pos_right (YHT _ (Yad i)) (Yad w)) (YH r)
 have h2r:2^r<4294967296:=Nat.pow_lt_pow_right (a:=2) (n:=32) (by decide) hr32
 have hYl:(a%4294967296^i)*2^d<4294967296^(i+w+1):=by
   rw[Ya2]
   exact YHM hY (YG5 _ (Nat.le_of_lt h2r))
 have hd0:dig ((a%4294967296^i)*2^d) (i+w)<2^r:=by
   unfold dig
   refine YHG (Nat.mod_le _ _) ?_
   rw[YHD (Yad _),YG4 (2^r)]
   exact hY
 have hor:(dig ((a%4294967296^i)*2^d) (i+w) ||| dig a i*2^r%4294967296)=dig ((a%4294967296^i)*2^d) (i+w)+dig a i*2^r%4294967296:=by
   rw[Yzy _ hr32,Nat.or_comm,<-Nat.two_pow_add_eq_or_of_lt hd0,Nat.add_comm]
 rw[Yo2 (Ytx hYl hb (by omega))]
 have e1:=YkB ((a%4294967296^i)*2^d) (i+w) (dig ((a%4294967296^i)*2^d) (i+w) ||| dig a i*2^r%4294967296)
 rw[hor,YHr]at e1
 rw[hor]
 have e2:(a%4294967296^(i+1))*2^d=(a%4294967296^i)*2^d+dig a i*2^r*4294967296^(i+w):=by
   rw[Ygp,YHr,YHa,Yia hw hr]
   congr 1
   simp only[YG6,YHw,YG4]
 have e3:dig a i*2^r*4294967296^(i+w)=dig a i*2^r%4294967296*4294967296^(i+w)+dig a i*2^r/4294967296*4294967296^(i+w+1):=by
   rw[Ya2,YG4 (4294967296^(i+w)) 4294967296,<-YG6,<-YHr]
   congr 1
   omega
 rw[e2,e3]
 omega
theorem shl_r{x:Nat}(hx:x<4294967296){r:Nat}(h:r<32):IntKind.u64.wrap ((x:Int)*2^min (Int.toNat (IntKind.u64.wrap (r:Int))) 64)=((x*2^r:Nat):Int):=by
 have h2r:2^r<4294967296:=Nat.pow_lt_pow_right (a:=2) (n:=32) (by decide) h
 have:x*2^r<=4294967295*4294967295:=YHi (by omega) (by omega)
 rw[Yce (by omega),YG0];exact Yge (by omega) (by omega)
theorem YCQ{x y:Nat}(hx:x<4294967296)(hy:y<4294967296):bitI .or .u32 (x:Int) (y:Int)=((x||| y:Nat):Int):=YEo hx hy
theorem YFx(x:Nat){r:Nat}(h:r<32):(x:Int).fdiv (2^min (Int.toNat (IntKind.u64.wrap (r:Int))) 64)=((x/2^r:Nat):Int):=by
 rw[Yce (by omega),YG0];exact Ycr (by omega)
theorem Ywv:wdownC.ok YGY 157:=by
 refine Yb Tryz.func157 YBA Yis 300 wdownC fun args k h=>?_
 simp only[wdownC]at h
 split at h
 . rename_i t1 z1 n sz get s
   obtain⟨a,d,⟨⟨rfl,hn,ha,hg⟩,hn9,rfl,hd⟩,h⟩:=h
   refine⟨[.vs t1 z1 n 1 (fun k=>[.int .u32 (dig a k)]),.int .i64 d],⟨by simpa [le]using hg,⟨rfl,rfl⟩,trivial⟩,?_⟩
   dsimp only[v157,Ybn,Ybo,v159,go_sem,reduceIte,YGU]
   simp only[Yc,YGU,YGW,reduceCtorEq,YGV]
   obtain⟨w,hw⟩:∃w,w=d/32:=⟨_,rfl⟩
   obtain⟨r,hr⟩:∃r,r=d%32:=⟨_,rfl⟩
   have hr32:r<32:=by rw[hr];exact YHT _ (by decide)
   have ew:IntKind.i64.wrap ((d:Int).tdiv 32)=(w:Int):=by
     have:(d:Int).tdiv 32=((d/32:Nat):Int):=IntWalk.up_tdiv (y:=32) rfl rfl
     rw[this,hw,YGZ _ (by omega)]
   have er:(d:Int).tmod 32=(r:Int):=by rw[hr];exact IntWalk.up_tmod (y:=32) rfl rfl
   obtain⟨X,hX⟩:∃X,X=a/2^d:=⟨_,rfl⟩
   rw[ew,er]
   refine⟨by decide,by decide,fun hc=>?_,fun hc=>?_⟩
   . have:a/2^d=0:=by
       rw[Nat.div_eq_of_lt]
       refine YHM ha ?_
       rw[Ygt]
       exact YHl (by decide) (by omega)
     rw[this]at h
     exact YnR (show k _ []from h true)
   . obtain⟨N,hNn⟩:∃N,N=n-w:=⟨_,rfl⟩
     have en:IntKind.i64.wrap ((n:Int)-(w:Int))=(N:Int):=by rw[hNn,YGZ _ (by omega)];omega
     rw[en]
     simp only[YG0]
     have hXN:X<4294967296^N:=by rw[hX];exact YyL hw hNn (by omega) ha
     refine⟨⟨by decide,by omega,by omega,by unfold Yah;omega⟩,?_⟩
     refine Loop.keep [0,4,0,0,16,0] Nat (fun i=>[(26,.int .i64 i)]) (fun i=>[(0,.own false 1 N (fun k=>[.int .u32 (dig (X%4294967296^i) k)]))]) [] (fun i=>i<=N) (fun i=>N-i) ?_ ?_
     . refine⟨0,by omega,?_⟩
       dsimp only[go_sem,reduceIte,YGU]
       simp only[Ya]
       simp [Nat.mod_one,YgO,leL,le]
     . rintro i hi
       dsimp only[Ybn,Ybo,v159,YG0,go_sem,reduceIte,YGU]
       simp only[Yc,YGU,YGW,reduceCtorEq,YGV]
       refine⟨fun hlt=>?_,fun hge=>?_⟩
       . have w1:IntKind.i64.wrap ((i:Int)+(w:Int))=((i+w:Nat):Int):=by rw[YGZ _ (by omega)];simp
         have w2:IntKind.i64.wrap (((i+w:Nat):Int)+1)=((i+w+1:Nat):Int):=by rw[YGZ _ (by omega)];simp
         rw[w1,w2]
         simp only[YG0]
         have hd1:=Yct a (i+w)
         have hd2:=Yct a (i+w+1)
         refine⟨⟨by omega,by omega⟩,fun hc2=>⟨⟨by omega,by omega⟩,by decide,by rw[Yce (by omega)];omega,⟨by omega,by omega⟩,by omega,i+1,by omega,by omega,?_⟩,fun hc2=>⟨by rw[Yce (by omega)];omega,⟨by omega,by omega⟩,by omega,i+1,by omega,by omega,?_⟩⟩
         . rw[Yce (by omega:dig a (i+w)<18446744073709551616),Yce (by omega:dig a (i+w+1)<18446744073709551616),or_hi hd1 hd2,YFx _ hr32,Yib,<-Yod hw hr,YGZ ((i:Int)+1) (by omega)]
           simp only[Ya]
           refine⟨by simp,fun j hj=>?_⟩
           rw[YaA,YaA,hX]
           by_cases hji:j=i
           . rw[if_pos hji,if_pos (by omega),hji];simp only[leL,le,and_self]
           . rw[if_neg hji];simp only[show(j<i+1)↔(j<i)from by omega];simp only[leL,le,and_self]
         . have hz:dig a (i+w+1)=0:=Yc9 ha (by omega)
           have hdd:= @Yod a d w r hw hr i
           rw[hz,Nat.zero_mul,Nat.add_zero]at hdd
           rw[Yce (by omega:dig a (i+w)<18446744073709551616),YFx _ hr32,Yib,<-hdd,YGZ ((i:Int)+1) (by omega)]
           simp only[Ya]
           refine⟨by simp,fun j hj=>?_⟩
           rw[YaA,YaA,hX]
           by_cases hji:j=i
           . rw[if_pos hji,if_pos (by omega),hji];simp only[leL,le,and_self]
           . rw[if_neg hji];simp only[show(j<i+1)↔(j<i)from by omega];simp only[leL,le,and_self]
       . obtain rfl:i=N:=by omega
         rw[Nat.mod_eq_of_lt hXN]
         have h:k (natS false X) []:=by rw[hX];exact h false
         obtain⟨N,rfl⟩:∃N,N=i:=⟨_,rfl⟩
         refine Loop.keep [0] Nat (fun j=>[(0,.own 0 0 j 1)]) (fun _=>[(0,.own false 1 N (fun k=>[.int .u32 (dig X k)]))]) [] (fun j=>j<=N/\X<4294967296^j) (fun j=>j) ?_ ?_
         . refine⟨N,⟨YG8 _,hXN⟩,?_⟩
           dsimp only[go_sem,reduceIte,YGU]
           simp only[Ya]
           simp [leL,le]
         . rintro j ⟨hj,haj⟩
           dsimp only[YG0,go_sem,reduceIte,YGU]
           simp only[Yc,YGU,YGW,reduceCtorEq,YGV]
           refine⟨fun hlt=>?_,fun hlt=>?_,fun hb=>?_,fun hb=>?_⟩
           . rw[Y0 (by omega) (by omega)];omega
           . rw[Y0 (by omega) (by omega)];omega
           . rw[YG2,decide_eq_true_eq,decide_eq_true_eq]at hb
             obtain⟨h1,h2⟩:=hb
             rw[Y0 (by omega) (by omega),YG0]at h2
             refine⟨by rw[Y0 (by omega) (by omega)];omega,j-1,⟨by omega,?_⟩,by omega,?_⟩
             . obtain⟨m,rfl⟩:∃m,j=m+1:=⟨j-1,by omega⟩
               exact YhK haj (by simp at h2;exact_mod_cast h2)
             . rw[Y0 (by omega) (by omega)]
               simp only[Ya] <;> simp [leL,le]
           . have e:nl X=j:=by
               refine YhQ haj ?_
               rw[Bool.and_eq_false_iff,decide_eq_false_iff_not,decide_eq_false_iff_not]at hb
               rcases YHR j with h0|h0
               . exact .inl h0
               . refine .inr fun hh=>hb.elim (fun h=>h (by omega)) fun h=>h ?_
                 rw[Y0 h0 (by omega),YG0,hh];rfl
             subst e
             exact Yhh h rfl rfl rfl fun j hj=>rfl
 . exact h.1.elim
theorem YGR:wupC.ok YGY 158:=by
 refine Yb Tryz.func158 YBB Yis 300 wupC fun args k h=>?_
 simp only[wupC]at h
 split at h
 . rename_i t1 z1 n sz get s
   obtain⟨a,d,⟨⟨rfl,hn,ha,hg⟩,hna,hn9,rfl,hd⟩,h⟩:=h
   refine⟨[.vs t1 z1 n 1 (fun k=>[.int .u32 (dig a k)]),.int .i64 d],⟨by simpa [le]using hg,⟨rfl,rfl⟩,trivial⟩,?_⟩
   dsimp only[v158,Ybn,Ybo,v159,go_sem,reduceIte,YGU]
   simp only[Yc,YGU,YGW,reduceCtorEq,YGV]
   obtain⟨w,hw⟩:∃w,w=d/32:=⟨_,rfl⟩
   obtain⟨r,hr⟩:∃r,r=d%32:=⟨_,rfl⟩
   have hr32:r<32:=by rw[hr];exact YHT _ (by decide)
   have ew:IntKind.i64.wrap ((d:Int).tdiv 32)=(w:Int):=by
     have:(d:Int).tdiv 32=((d/32:Nat):Int):=IntWalk.up_tdiv (y:=32) rfl rfl
     rw[this,hw,YGZ _ (by omega)]
   have er:(d:Int).tmod 32=(r:Int):=by rw[hr];exact IntWalk.up_tmod (y:=32) rfl rfl
   obtain⟨X,hX⟩:∃X,X=a*2^d:=⟨_,rfl⟩
   rw[ew,er]
   refine⟨fun hc=>?_,fun hc=>⟨by decide,by decide,?_⟩⟩
   . obtain rfl:n=0:=by omega
     have:a=0:=by simpa using ha
     rw[this,Nat.zero_mul]at h
     exact YnR (show k _ []from h true)
   . obtain⟨N,hNn⟩:∃N,N=n+w+1:=⟨_,rfl⟩
     have en:IntKind.i64.wrap (IntKind.i64.wrap ((n:Int)+(w:Int))+1)=(N:Int):=by rw[hNn,YGZ ((n:Int)+w) (by omega),YGZ _ (by omega)];omega
     rw[en]
     simp only[YG0]
     refine⟨⟨by decide,by omega,by omega,by unfold Yah;omega⟩,?_⟩
     refine Loop.keep [0,4,0,0,17,0] Nat (fun i=>[(27,.int .i64 i)]) (fun i=>[(0,.own false 1 N (fun k=>[.int .u32 (dig ((a%4294967296^i)*2^d) k)]))]) [] (fun i=>i<=n) (fun i=>n-i) ?_ ?_
     . refine⟨0,by omega,?_⟩
       dsimp only[go_sem,reduceIte,YGU]
       simp only[Ya]
       simp [Nat.mod_one,YgO,leL,le]
     . rintro i hi
       dsimp only[Ybn,Ybo,v159,YG0,go_sem,reduceIte,YGU]
       simp only[Yc,YGU,YGW,reduceCtorEq,YGV]
       refine⟨fun hlt=>?_,fun hge=>?_⟩
       . have w1:IntKind.i64.wrap ((i:Int)+(w:Int))=((i+w:Nat):Int):=by rw[YGZ _ (by omega)];simp
         have w2:IntKind.i64.wrap (((i+w:Nat):Int)+1)=((i+w+1:Nat):Int):=by rw[YGZ _ (by omega)];simp
         rw[w1,w2]
         simp only[YG0]
         have hd1:=Yct a i
         obtain⟨s1,s2⟩:= @Ynr a d w r hw hr i
         refine⟨⟨by omega,by omega⟩,by rw[Yce (by omega)];omega,⟨by omega,by omega⟩,by omega,⟨by omega,by omega⟩,by omega,by decide,⟨by omega,by omega⟩,by omega,i+1,by omega,by omega,?_⟩
         rw[Yce (by omega:dig a i<18446744073709551616),shl_r hd1 hr32,Yib,sh32,YCQ (Yct _ _) (YHT _ (by decide)),YtT (by
           have h2r:2^r<4294967296:=Nat.pow_lt_pow_right (a:=2) (n:=32) (by decide) hr32
           have:dig a i*2^r<=4294967295*4294967295:=YHi (by omega) (by omega)
           omega),YGZ ((i:Int)+1) (by omega)]
         simp only[Ya]
         refine⟨by simp,fun j hj=>?_⟩
         have hhi:dig a i*2^r/4294967296<4294967296:=by
           have h2r:2^r<4294967296:=Nat.pow_lt_pow_right (a:=2) (n:=32) (by decide) hr32
           have:dig a i*2^r<=4294967295*4294967295:=YHi (by omega) (by omega)
           omega
         rw[s2,YgN hhi,YgN s1]
         by_cases hj1:j=i+w+1
         . rw[if_pos hj1,if_pos hj1,if_neg (by omega)]
           simp [YZ,leL,le]
         . rw[if_neg hj1,if_neg hj1]
           split <;> simp only[leL,le,and_self]
       . obtain rfl:i=n:=by omega
         rw[Nat.mod_eq_of_lt ha,<-hX]
         have h:k (natS false X) []:=by rw[hX];exact h false
         have hXN:X<4294967296^N:=by
           have h2r:2^r<4294967296:=Nat.pow_lt_pow_right (a:=2) (n:=32) (by decide) hr32
           rw[hX,Yia hw hr,hNn,Ya2,YHa,YG6,YG4 _ (4294967296^w)]
           exact Nat.mul_lt_mul_of_lt_of_le ha (YG5 _ (Nat.le_of_lt h2r)) (YHX (Yad w) (by decide))
         refine Loop.keep [0] Nat (fun j=>[(0,.own 0 0 j 1)]) (fun _=>[(0,.own false 1 N (fun k=>[.int .u32 (dig X k)]))]) [] (fun j=>j<=N/\X<4294967296^j) (fun j=>j) ?_ ?_
         . refine⟨N,⟨YG8 _,hXN⟩,?_⟩
           dsimp only[go_sem,reduceIte,YGU]
           simp only[Ya]
           simp [leL,le]
         . rintro j ⟨hj,haj⟩
           dsimp only[YG0,go_sem,reduceIte,YGU]
           simp only[Yc,YGU,YGW,reduceCtorEq,YGV]
           refine⟨fun hlt=>?_,fun hlt=>?_,fun hb=>?_,fun hb=>?_⟩
           . rw[Y0 (by omega) (by omega)];omega
           . rw[Y0 (by omega) (by omega)];omega
           . rw[YG2,decide_eq_true_eq,decide_eq_true_eq]at hb
             obtain⟨h1,h2⟩:=hb
             rw[Y0 (by omega) (by omega),YG0]at h2
             refine⟨by rw[Y0 (by omega) (by omega)];omega,j-1,⟨by omega,?_⟩,by omega,?_⟩
             . obtain⟨m,rfl⟩:∃m,j=m+1:=⟨j-1,by omega⟩
               exact YhK haj (by simp at h2;exact_mod_cast h2)
             . rw[Y0 (by omega) (by omega)]
               simp only[Ya] <;> simp [leL,le]
           . have e:nl X=j:=by
               refine YhQ haj ?_
               rw[Bool.and_eq_false_iff,decide_eq_false_iff_not,decide_eq_false_iff_not]at hb
               rcases YHR j with h0|h0
               . exact .inl h0
               . refine .inr fun hh=>hb.elim (fun h=>h (by omega)) fun h=>h ?_
                 rw[Y0 h0 (by omega),YG0,hh];rfl
             subst e
             exact Yhh h rfl rfl rfl fun j hj=>rfl
 . exact h.1.elim
def v139:VF:=⟨7,[.tmp 2],(ZR [Zi 2 0] (.seq (ZR [Zm 3 0,u1 4 (.call 153) [.tm 3,.cn (.fn (.func 154) [] [])]] (ZC 4 (ZR [Zi 2 3] .ret) .skip)) (.seq (ZR [Zm 5 0,u1 6 (.call 153) [.tm 5,.cn (.fn (.func 155) [] [])]] (ZC 6 (ZR [Zi 2 2] .ret) .skip)) (ZR [Zi 2 0] .ret))))⟩
theorem YBi:Yf YGY Tryz.f139=some v139:=by kernel_rfl
def v154:VF:=⟨6,[.tmp 2],(ZR [u1 2 .mov [.cn (.bool false)]] (ZR [Zm 3 0,Zl 4 3,Zq 5 .gtr 4 512,Zm 2 5] .ret))⟩
theorem YBx:Yf YGY Tryz.f154=some v154:=by kernel_rfl
def v155:VF:=⟨6,[.tmp 2],(ZR [u1 2 .mov [.cn (.bool false)]] (ZR [Zm 3 0,Zc 4 156 3,u1 5 .not [.tm 4],Zm 2 5] .ret))⟩
theorem YBy:Yf YGY Tryz.f155=some v155:=by kernel_rfl
def v156:VF:=⟨20,[.tmp 2],(ZR [u1 2 .mov [.cn (.bool false)]] (ZR [Zm 3 0,Zl 4 3,Zq 5 .leq 4 512,Zm 6 5,Zg 7 6 true 0,u2 8 6 true .len [.tm 7],u2 9 6 true (.cmp .eql) [.tm 8,.cn (.int .i64 0)],Zg 10 6 true 9,Zg 11 10 false 0,Zg 12 10 false 0,u2 13 10 false .len [.tm 12],u2 14 10 false (.ari .sub) [.tm 13,.cn (.int .i64 1)],u2 15 10 false (.idxAddr 1) [.tm 11,.tm 14],Zh 16 10 false 1 15,u2 17 10 false (.cmp .neq) [.tm 16,.cn (.int .u32 0)],u2 18 6 true .or [.tm 10,.tm 17],u1 19 .and [.tm 6,.tm 18],Zm 2 19] .ret))⟩
theorem YBz:Yf YGY Tryz.f156=some v156:=by kernel_rfl
def v150:VF:=⟨9,[.tmp 2,.tmp 3],(ZR [u1 2 .mov [.cn .nil],Zi 3 0] (.seq (ZR [Zm 4 0,Zl 5 4,Zq 6 .gtr 5 512] (ZC 6 (ZR [u1 2 .mov [.cn .nil],Zi 3 3] .ret) .skip)) (ZR [Zm 7 0,Zc 8 160 7,Zm 2 8,Zi 3 0] .ret)))⟩
theorem YBt:Yf YGY Tryz.f150=some v150:=by kernel_rfl
def v123:VF:=⟨17,[.tmp 4,.tmp 5],(ZR [Zi 4 0,Zi 5 0] (.seq (ZR [Zm 7 0,Zm 8 1,u1 9 (.buildSlice 1 2 [.nil] [(0,1),(1,1)]) [.tm 7,.tm 8],Zc 10 139 9,Zm 6 10] (ZR [Zm 11 6,Zq 12 .neq 11 0] (ZC 12 (ZR [Zm 13 6,Zi 4 0,Zm 5 13] .ret) .skip))) (ZR [Zm 14 0,Zm 15 1,Zd 16 140 14 15,Zm 4 16,Zi 5 0] .ret)))⟩
theorem YA4:Yf YGY Tryz.f123=some v123:=by kernel_rfl
def v148:VF:=⟨37,[.tmp 4,.tmp 5],(ZR [u1 4 .mov [.cn .nil],Zi 5 0] (ZR [Zm 7 0,u1 8 (.buildSlice 1 1 [.nil] [(0,1)]) [.tm 7],Zc 9 139 8,Zm 6 9] (.seq (.block 0 (ZR [Zm 11 6,Zq 12 .neq 11 0,Zm 10 12] (ZC 10 (ZR [Zm 13 6,u1 4 .mov [.cn .nil],Zm 5 13] .ret) (ZR [Zm 15 1,Zq 16 .lss 15 (-20000),Zm 17 16,Zg 18 17 false 1,u2 19 17 false (.cmp .gtr) [.tm 18,.cn (.int .i64 20000)],u1 20 .or [.tm 17,.tm 19],Zm 14 20] (ZC 14 (ZR [u1 4 .mov [.cn .nil],Zi 5 2] .ret) (ZR [Zm 22 1,Zq 23 .lss 22 0,Zm 21 23] (ZC 21 (ZR [Zm 24 0,Zm 25 1,u1 26 .neg [.tm 25],Zd 27 157 24 26,Zc 28 150 27,Ze 29 0 28,Ze 30 1 28,Zm 4 29,Zm 5 30] .ret) .skip))))))) (ZR [Zm 31 0,Zm 32 1,Zd 33 158 31 32,Zc 34 150 33,Ze 35 0 34,Ze 36 1 34,Zm 4 35,Zm 5 36] .ret))))⟩
theorem YBr:Yf YGY Tryz.f148=some v148:=by kernel_rfl
def v136:VF:=⟨20,[.tmp 4,.tmp 5],(ZR [u1 4 .mov [.cn .nil],Zi 5 0] (.seq (ZR [Zm 7 0,Zm 8 1,u1 9 (.buildSlice 1 2 [.nil] [(0,1),(1,1)]) [.tm 7,.tm 8],Zc 10 139 9,Zm 6 10] (ZR [Zm 11 6,Zq 12 .neq 11 0] (ZC 12 (ZR [Zm 13 6,u1 4 .mov [.cn .nil],Zm 5 13] .ret) .skip))) (ZR [Zm 14 0,Zm 15 1,Zd 16 149 14 15,Zc 17 150 16,Ze 18 0 17,Ze 19 1 17,Zm 4 18,Zm 5 19] .ret)))⟩
theorem YBf:Yf YGY Tryz.f136=some v136:=by kernel_rfl
def v137:VF:=⟨20,[.tmp 4,.tmp 5],(ZR [u1 4 .mov [.cn .nil],Zi 5 0] (.seq (ZR [Zm 7 0,Zm 8 1,u1 9 (.buildSlice 1 2 [.nil] [(0,1),(1,1)]) [.tm 7,.tm 8],Zc 10 139 9,Zm 6 10] (ZR [Zm 11 6,Zq 12 .neq 11 0] (ZC 12 (ZR [Zm 13 6,u1 4 .mov [.cn .nil],Zm 5 13] .ret) .skip))) (ZR [Zm 14 0,Zm 15 1,Zd 16 151 14 15,Zc 17 150 16,Ze 18 0 17,Ze 19 1 17,Zm 4 18,Zm 5 19] .ret)))⟩
theorem YBg:Yf YGY Tryz.f137=some v137:=by kernel_rfl
def v153:VF:=⟨9,[.tmp 4],(ZR [u1 4 .mov [.cn (.bool false)]] (ZR [Zm 5 0,Zm 6 1,Zd 7 161 5 6,Zq 8 .geq 7 0,Zm 4 8] .ret))⟩
theorem YBw:Yf YGY Tryz.f153=some v153:=by kernel_rfl
def v161:VF:=⟨19,[.tmp 4],(ZR [Zi 4 0] (.seq (ZR [Zm 6 0,Zl 7 6,Zi 8 0] (.block 0 (.loop (ZR [Zr 9 .lss 8 7] (.seq (ZC 9 .skip (.exit 0)) (.seq (.block 1 (ZR [Zm 10 8,Zm 5 10] (ZR [Zm 11 1,Zm 12 0,Zm 13 5,Zx 14 1 12 13,Zf 15 1 14,u1 16 .callv [.tm 11,.tm 15]] (ZC 16 (ZR [Zm 17 5,Zm 4 17] .ret) .skip)))) (.region [Zp 18 8 1,Zm 8 18]))))))) (ZR [Zi 4 (-1)] .ret)))⟩
theorem YBD:Yf YGY Tryz.f161=some v161:=by kernel_rfl
def v160:VF:=⟨8,[.tmp 2],(ZR [u1 2 .mov [.cn .nil]] (.seq (ZR [Zm 3 0,u1 4 (.isNil false) [.tm 3,.cn .nil]] (ZC 4 (ZR [u1 2 .mov [.cn .nil]] .ret) .skip)) (ZR [u1 5 (.buildSlice 1 0 [(.int .u32 0)] []) [],Zm 6 0,u1 7 (.append 1 4 [(.int .u32 0)]) [.tm 5,.tm 6],Zm 2 7] .ret)))⟩
theorem YBC:Yf YGY Tryz.f160=some v160:=by kernel_rfl
def wvalC:Ctr:={ alias:=false,of:=fun l=>match l with
 | [.vs _ _ n sz get]=> .ex Nat fun a=> .pre (padP a n sz get/\n=nl a/\n<=512) (.fin (.bool true) [])
 |_=>noC}
def capF(a:Nat):Nat:=if nl a<=512 then a else 0
def capE(a:Nat):Int:=if nl a<=512 then 0 else 3
def resC:Ctr:={ alias:=false,of:=fun l=>match l with
 | [.vs _ z n sz get]=> .ex Nat fun a=> .pre (padP a n sz get/\n=nl a/\(z=true->n=0)) (.all Bool fun y=> .fin (.tup [natS y (capF a),.int .i64 (capE a)]) [])
 |_=>noC}
def natI(z:Bool)(a:Nat):SV:= .vs false z (nl a) 1 (fun k=>[.int .u32 (dig a k)])
def wchkC:Ctr:={ alias:=false,of:=fun l=>match l with
 | [.vs _ _ n sz get]=> .ex (List (Bool×Nat)) fun l=> .pre (lsP 1 (fun x=>[natI x.1 x.2]) n sz get l/\(∀x,x∈l->nl x.2<=512)/\n<=100) (.fin (.int .i64 0) [])
 |_=>noC}
def WD3:Env:={ ct:=fun _=>none,fn:=fun _=>none,meth:=fun _ _=>none}
theorem YCH:Yl YGY WD3:=by
 refine⟨fun f c h=>?_,fun f vf h=>?_,(fun _ _ _ h=>by cases h),by kernel_rfl,(fun _ h=>by cases h)⟩
 . cases h
 . cases h
theorem Yt7:wvalC.ok YGY 156:=by
 refine Yb Tryz.func156 YBz YCH 200 wvalC fun args k h=>?_
 simp only[wvalC]at h
 split at h
 . rename_i tt z n sz get
   obtain⟨a,⟨⟨rfl,hn,ha,hg⟩,hna,hn5⟩,h⟩:=h
   refine⟨[.vs tt z n 1 (fun k=>[.int .u32 (dig a k)])],by simpa [leL,le]using hg,?_⟩
   dsimp only[v156,go_sem,reduceIte,YGU]
   simp only[Yc,YGU,YGW,reduceCtorEq,YGV]
   refine⟨fun hb=>?_,fun c1 c2=>by rw[decide_eq_true c1,decide_eq_false c2];rfl,?_⟩
   . rw[YG2,decide_eq_true_eq]at hb
     have h0:¬((n:Int)=0):=fun e=>by rw[decide_eq_true e]at hb;simp at hb
     rw[Y0 (by omega) (by omega)]
     omega
   . rw[decide_eq_true (by omega:(n:Int)<=512),Bool.true_and]
     have:(decide ((n:Int)=0) || !decide (((dig a (IntKind.i64.wrap ((n:Int)-1)).toNat:Nat):Int)=0))=true:=by
       rcases YHR n with h0|h0
       . simp [h0]
       . have ht:=YEh (a:=a) (fun e=>by rw[e,nl_0]at hna;omega)
         rw[Y0 h0 (by omega),YG0,hna,decide_eq_false (by omega:¬(((dig a (nl a-1):Nat):Int)=0))]
         simp
     rw[this]
     exact Yx h
 . exact h.1.elim
def WD4:Env:={ ct:=fun _=>none,fn:=fun n=>match n with|160=>some v160|_=>none,meth:=fun _ _=>none}
theorem YqG:WD4.ct 160=none:=rfl
theorem YqH:WD4.fn 160=some v160:=rfl
theorem YCI:Yl YGY WD4:=by
 refine⟨fun f c h=>?_,fun f vf h=>?_,(fun _ _ _ h=>by cases h),by kernel_rfl,(fun _ h=>by cases h)⟩
 . cases h
 . simp only[WD4]at h
   split at h
   . cases h;exact⟨Tryz.f160,Tryz.func160,YBC,Tryz.f160,Tryz.func160,by kernel_rfl,by kernel_rfl⟩
   . cases h
theorem YnS{k:SV->List HO->Prop}{al:Bool}{hp:List HO}{e:Int}(h:k (.tup [natS true 0,.int .i64 e]) []):Yy al k (.tup [.nil,.int .i64 e]) hp:=
 YD (show k _ []from h) (by simp [natS,nl_0,expo,view,Ydv,le,leL]) (fun _=>by simp [natS,Yj,Yk])
theorem YBM:resC.ok YGY 150:=by
 refine Yb Tryz.func150 YBt YCI 200 resC fun args k h=>?_
 simp only[resC]at h
 split at h
 . rename_i tt z n sz get
   obtain⟨a,⟨⟨rfl,hn,ha,hg⟩,hna,hz0⟩,h⟩:=h
   refine⟨[.vs tt z n 1 (fun k=>[.int .u32 (dig a k)])],by simpa [leL,le]using hg,?_⟩
   dsimp only[v150,YqG,YqH,v160,go_sem,reduceIte,YGU]
   simp only[Yc,YGU,YGW,reduceCtorEq,YGV]
   refine⟨fun hc=>?_,fun hc=>⟨fun hz=>?_,fun hz=>⟨by decide,by unfold Yah;omega,?_⟩⟩⟩
   . have h:k (.tup [natS true (capF a),.int .i64 (capE a)]) []:=h true
     rw[capF,capE,if_neg (by omega),if_neg (by omega)]at h
     exact YnS h
   . have h:k (.tup [natS true (capF a),.int .i64 (capE a)]) []:=h true
     have:a=0:=nl_eq0.1 (by have:=hz0 hz;omega)
     rw[this]at h
     exact YnS h
   . have h:k (.tup [natS (false&&decide (n=0)) (capF a),.int .i64 (capE a)]) []:=h _
     rw[capF,capE,if_pos (by omega),if_pos (by omega)]at h
     refine YD h ?_ (fun _=>by simp [natS,Yj,Yk])
     have e:expo [HO.own (false&&decide (n=0)) 1 (0+n) fun k=>if k<0 then Ym 0 (YC 1 (Yu (k*1) []))else [SV.int IntKind.u32 ((dig a (k-0):Nat):Int)]] (SV.tup [SV.own 0 0 (0+n) 1,SV.int IntKind.i64 0])= .tup [.vs true (false&&decide (n=0)) (0+n) 1 (fun k=>[.int .u32 (dig a k)]),.int .i64 0]:=by
       simp [expo,view,Ydv,viewN,getH,YmH]
     rw[e,YH0,hna]
     exact Yw _ ⟨trivial,trivial,trivial⟩
 . exact h.1.elim
def WD5:Env:={ ct:=fun n=>match n with|156=>some wvalC|_=>none,fn:=fun n=>match n with|153=>some v153|161=>some v161|154=>some v154|155=>some v155|_=>none,meth:=fun _ _=>none}
theorem Yla:WD5.ct 156=some wvalC:=rfl
theorem Yk9:WD5.ct 153=none:=rfl
theorem Ylc:WD5.fn 153=some v153:=rfl
theorem Ylb:WD5.ct 161=none:=rfl
theorem Yld:WD5.fn 161=some v161:=rfl
theorem YqI:WD5.ct 154=none:=rfl
theorem YqK:WD5.fn 154=some v154:=rfl
theorem YqJ:WD5.ct 155=none:=rfl
theorem YqL:WD5.fn 155=some v155:=rfl
theorem YCJ:Yl YGY WD5:=by
 refine⟨fun f c h=>?_,fun f vf h=>?_,(fun _ _ _ h=>by cases h),by kernel_rfl,(fun _ h=>by cases h)⟩
 . simp only[WD5]at h
   split at h
   . cases h;exact⟨Yt7,Tryz.f156,Tryz.func156,by kernel_rfl,by kernel_rfl⟩
   . cases h
 . simp only[WD5]at h
   split at h
   . cases h;exact⟨Tryz.f153,Tryz.func153,YBw,Tryz.f153,Tryz.func153,by kernel_rfl,by kernel_rfl⟩
   . cases h;exact⟨Tryz.f161,Tryz.func161,YBD,Tryz.f161,Tryz.func161,by kernel_rfl,by kernel_rfl⟩
   . cases h;exact⟨Tryz.f154,Tryz.func154,YBx,Tryz.f154,Tryz.func154,by kernel_rfl,by kernel_rfl⟩
   . cases h;exact⟨Tryz.f155,Tryz.func155,YBy,Tryz.f155,Tryz.func155,by kernel_rfl,by kernel_rfl⟩
   . cases h
theorem YBK:wchkC.ok YGY 139:=by
 refine Yb Tryz.func139 YBi YCJ 400 wchkC fun args k h=>?_
 simp only[wchkC]at h
 split at h
 . rename_i tt z n sz get
   obtain⟨l,⟨⟨rfl,rfl,hg⟩,hl,hn⟩,h⟩:=h
   refine⟨[.vs tt z l.length 1 (fun k=>[natI (l.getD k default).1 (l.getD k default).2])],by simpa [leL,le]using hg,?_⟩
   dsimp only[v139,Yk9,Ylc,v153,Ylb,Yld,v161,go_sem,reduceIte,YGU]
   simp only[Yc,YGU,YGW,reduceCtorEq,YGV]
   refine Loop.keep [0,0,2,1,0] Nat (fun i=>[(8,.int .i64 i)]) (fun _=>[]) [] (fun i=>i<=l.length) (fun i=>l.length-i) ?_ ?_
   . refine⟨0,by omega,?_⟩
     dsimp only[go_sem,reduceIte,YGU]
     simp only[Ya]
     try simp
   . rintro i hi
     dsimp only[YqI,YqK,v154,Yla,wvalC,natI,YG0,go_sem,reduceIte,YGU]
     simp only[Yc,YGU,YGW,reduceCtorEq,YGV]
     have h5:∀i,i<l.length->nl (l.getD i default).2<=512:=fun i hi=>hl _ (YI hi)
     refine⟨fun hlt=>⟨⟨by omega,by omega⟩,fun hc=>?_,fun hc=>⟨i+1,by omega,by omega,?_⟩⟩,fun hge=>?_⟩
     . have:=h5 i (by omega);omega
     . rw[YGZ ((i:Int)+1) (by omega)]
       simp only[Ya]
       simp
     . dsimp only[Yk9,Ylc,v153,Ylb,Yld,v161,go_sem,reduceIte,YGU]
       simp only[Yc,YGU,YGW,reduceCtorEq,YGV]
       refine⟨fun hh=>absurd hh (by decide),fun _=>?_⟩
       refine Loop.keep [0,0,2,1,0] Nat (fun i=>[(8,.int .i64 i)]) (fun _=>[]) [] (fun i=>i<=l.length) (fun i=>l.length-i) ?_ ?_
       . refine⟨0,by omega,?_⟩
         dsimp only[go_sem,reduceIte,YGU]
         simp only[Ya]
         try simp
       . rintro i hi
         dsimp only[YqJ,YqL,v155,Yla,wvalC,natI,YG0,go_sem,reduceIte,YGU]
         simp only[Yc,YGU,YGW,reduceCtorEq,YGV]
         have h5:∀i,i<l.length->nl (l.getD i default).2<=512:=fun i hi=>hl _ (YI hi)
         refine⟨fun hlt=>?_,fun hge=>⟨fun hneg=>absurd hneg (by decide),fun _=>Yi h⟩⟩
         . have:=h5 i (by omega)
           refine⟨⟨by omega,by omega⟩,_,⟨YaH (by omega),rfl,this⟩,i+1,by omega,by omega,?_⟩
           rw[YGZ ((i:Int)+1) (by omega)]
           simp only[Ya]
           try simp
 . exact h.1.elim
def okW(a n sz:Nat)(get:Nat->List SV):Prop:=padP a n sz get/\n=nl a/\n<=512
def wCmpC:Ctr:={ alias:=false,of:=fun l=>match l with
 | [.vs _ z n sz get,.vs _ z' m sz' get']=> .ex Nat fun a=> .ex Nat fun b=> .pre (okW a n sz get/\okW b m sz' get') (.fin (.tup [.int .i64 (ordN a b),.int .i64 0]) [])
 |_=>noC}
def wAddC:Ctr:={ alias:=false,of:=fun l=>match l with
 | [.vs _ z n sz get,.vs _ z' m sz' get']=> .ex Nat fun a=> .ex Nat fun b=> .pre (okW a n sz get/\okW b m sz' get') (.all Bool fun y=> .fin (.tup [natS y (capF (a+b)),.int .i64 (capE (a+b))]) [])
 |_=>noC}
def wMulC:Ctr:={ alias:=false,of:=fun l=>match l with
 | [.vs _ z n sz get,.vs _ z' m sz' get']=> .ex Nat fun a=> .ex Nat fun b=> .pre (okW a n sz get/\okW b m sz' get') (.all Bool fun y=> .fin (.tup [natS y (capF (a*b)),.int .i64 (capE (a*b))]) [])
 |_=>noC}
def shF(a:Nat)(d:Int):Nat:=if d<0 then a/2^(-d).toNat else a*2^d.toNat
def wShiftC:Ctr:={ alias:=false,of:=fun l=>match l with
 | [.vs _ z n sz get,.int .i64 d]=> .ex Nat fun a=> .pre (okW a n sz get/\ -20000<=d/\d<=20000) (.all Bool fun y=> .fin (.tup [natS y (capF (shF a d)),.int .i64 (capE (shF a d))]) [])
 |_=>noC}
def WD6:Env:={ ct:=fun n=>match n with|139=>some wchkC|150=>some resC|140=>some wcmpC|149=>some plusC|151=>some wtimC|158=>some wupC|157=>some wdownC|_=>none,fn:=fun _=>none,meth:=fun _ _=>none}
theorem Yfl:WD6.ct 139=some wchkC:=rfl
theorem Yhe:WD6.ct 150=some resC:=rfl
theorem YqM:WD6.ct 140=some wcmpC:=rfl
theorem YqN:WD6.ct 149=some plusC:=rfl
theorem YqO:WD6.ct 151=some wtimC:=rfl
theorem YqQ:WD6.ct 158=some wupC:=rfl
theorem YqP:WD6.ct 157=some wdownC:=rfl
theorem YnO:Yl YGY WD6:=by
 refine⟨fun f c h=>?_,fun f vf h=>?_,(fun _ _ _ h=>by cases h),by kernel_rfl,(fun _ h=>by cases h)⟩
 . simp only[WD6]at h
   split at h
   . cases h;exact⟨YBK,Tryz.f139,Tryz.func139,by kernel_rfl,by kernel_rfl⟩
   . cases h;exact⟨YBM,Tryz.f150,Tryz.func150,by kernel_rfl,by kernel_rfl⟩
   . cases h;exact⟨YBL,Tryz.f140,Tryz.func140,by kernel_rfl,by kernel_rfl⟩
   . cases h;exact⟨Ywx,Tryz.f149,Tryz.func149,by kernel_rfl,by kernel_rfl⟩
   . cases h;exact⟨Yt6,Tryz.f151,Tryz.func151,by kernel_rfl,by kernel_rfl⟩
   . cases h;exact⟨YGR,Tryz.f158,Tryz.func158,by kernel_rfl,by kernel_rfl⟩
   . cases h;exact⟨Ywv,Tryz.f157,Tryz.func157,by kernel_rfl,by kernel_rfl⟩
   . cases h
 . cases h
theorem Yhi{k:SV->List HO->Prop}{al:Bool}{hp:List HO}{κ κ':IntKind}{x y:Int}(h:k (.tup [.int κ x,.int κ' y]) []):Yy al k (.tup [.int κ x,.int κ' y]) hp:=
 YD (show k _ []from h) (Yw (.tup [.int κ x,.int κ' y]) ⟨trivial,trivial,trivial⟩) (fun _=>by simp [Yj,Yk])
theorem Ynm{t1 z1 t2 z2:Bool}{a b:Nat}{hp:List HO}{r:List SV->List SV}:lsP 1 (fun x:Bool×Nat=>[natI x.1 x.2]) 2 1 (fun k=>Ydv false hp r (YC 1 (Yu (k*1) [SV.vs t1 z1 (nl a) 1 fun k=>[SV.int IntKind.u32 (dig a k)],SV.vs t2 z2 (nl b) 1 fun k=>[SV.int IntKind.u32 (dig b k)]]))) [(z1,a),(z2,b)]:=
 ⟨rfl,rfl,fun k hk=>match k,hk with
   |0,_=>by refine⟨?_,trivial⟩;exact⟨fun h=>(by cases h),rfl,rfl,rfl,fun j _=>Yd _⟩
   |1,_=>by refine⟨?_,trivial⟩;exact⟨fun h=>(by cases h),rfl,rfl,rfl,fun j _=>Yd _⟩⟩
theorem YzO{t1 z1:Bool}{a:Nat}{hp:List HO}{r:List SV->List SV}:lsP 1 (fun x:Bool×Nat=>[natI x.1 x.2]) 1 1 (fun k=>Ydv false hp r (YC 1 (Yu (k*1) [SV.vs t1 z1 (nl a) 1 fun k=>[SV.int IntKind.u32 (dig a k)]]))) [(z1,a)]:=
 ⟨rfl,rfl,fun k hk=>match k,hk with
   |0,_=>by refine⟨?_,trivial⟩;exact⟨fun h=>(by cases h),rfl,rfl,rfl,fun j _=>Yd _⟩⟩
theorem Ynl{z1 z2:Bool}{a b:Nat}(h1:nl a<=512)(h2:nl b<=512):∀x:Bool×Nat,x∈ [(z1,a),(z2,b)]->nl x.2<=512:=by simp [h1,h2]
theorem YzL{z1:Bool}{a:Nat}(h1:nl a<=512):∀x:Bool×Nat,x∈ [(z1,a)]->nl x.2<=512:=by simp [h1]
theorem YnU{k:SV->List HO->Prop}{al:Bool}{hp:List HO}{z:Bool}{a:Nat}{e:Int}(h:k (.tup [natS z a,.int .i64 e]) []):Yy al k (.tup [natS z a,.int .i64 e]) hp:=
 YD (show k _ []from h) (Yw _ ⟨trivial,trivial,trivial⟩) (fun _=>by simp [natS,Yj,Yk])
theorem YBH:wCmpC.ok YGY 123:=by
 refine Yb Tryz.func123 YA4 YnO 200 wCmpC fun args k h=>?_
 simp only[wCmpC]at h
 split at h
 . rename_i t1 z1 n sz get t2 z2 m sz' get'
   obtain⟨a,b,⟨⟨⟨rfl,hn,ha,hg⟩,hna,hn5⟩,⟨rfl,hm,hb,hg'⟩,hmb,hm5⟩,h⟩:=h
   refine⟨[.vs t1 z1 n 1 (fun k=>[.int .u32 (dig a k)]),.vs t2 z2 m 1 (fun k=>[.int .u32 (dig b k)])],⟨by simpa [le]using hg,by simpa [le]using hg',trivial⟩,?_⟩
   dsimp only[v123,Yfl,YqM,wchkC,wcmpC,go_sem,reduceIte,YGU]
   simp only[Yc,YGU,YGW,reduceCtorEq,YGV]
   subst hna hmb
   refine⟨by decide,_,⟨Ynm,Ynl hn5 hm5⟩,fun hh=>absurd trivial hh,a,b,⟨YaH hn,YaH hm,rfl,rfl⟩,Yhi h⟩
 . exact h.1.elim
theorem YsY{a b n:Nat}(h1:nl a<=n)(h2:nl b<=n):nl (a+b)<=n+1:=by
 have h1:=nl_le.1 h1
 have h2:=nl_le.1 h2
 rw[nl_le,Ya2]
 generalize(4294967296:Nat)^n=P at*
 omega
theorem YsZ{a b n m:Nat}(h1:nl a<=n)(h2:nl b<=m):nl (a*b)<=n+m:=by
 have h1:=nl_le.1 h1
 have h2:=nl_le.1 h2
 rw[nl_le,YHa]
 exact Nat.mul_lt_mul_of_lt_of_le h1 (Nat.le_of_lt h2) (Yad _)
theorem Ys0{a e n m k:Nat}(h1:nl a<=n)(he:e<=32*m)(hk:n+m<=k):nl (a*2^e)<=k:=by
 have h1:=nl_le.1 h1
 refine nl_le.2 ?_
 have h2:(2:Nat)^e<=4294967296^m:=by rw[Ygt];exact YHl (by decide) he
 refine YHM (Nat.mul_lt_mul_of_lt_of_le h1 h2 (Yad _)) ?_
 rw[<-YHa]
 exact YHl (by decide) hk
theorem YBG:wAddC.ok YGY 136:=by
 refine Yb Tryz.func136 YBf YnO 200 wAddC fun args k h=>?_
 simp only[wAddC]at h
 split at h
 . rename_i t1 z1 n sz get t2 z2 m sz' get'
   obtain⟨a,b,⟨⟨⟨rfl,hn,ha,hg⟩,hna,hn5⟩,⟨rfl,hm,hb,hg'⟩,hmb,hm5⟩,h⟩:=h
   refine⟨[.vs t1 z1 n 1 (fun k=>[.int .u32 (dig a k)]),.vs t2 z2 m 1 (fun k=>[.int .u32 (dig b k)])],⟨by simpa [le]using hg,by simpa [le]using hg',trivial⟩,?_⟩
   dsimp only[v136,Yfl,YqN,Yhe,wchkC,plusC,resC,natS,go_sem,reduceIte,YGU]
   simp only[Yc,YGU,YGW,reduceCtorEq,YGV]
   subst hna hmb
   have hs:nl (a+b)<=513:=YsY hn5 hm5
   refine⟨by decide,_,⟨Ynm,Ynl hn5 hm5⟩,fun hh=>absurd trivial hh,a,b,⟨YaH hn,YaH hm,by omega,by omega⟩,a+b,⟨YaH (by omega),rfl⟩,fun y=>?_⟩
   refine⟨by decide,by decide,?_⟩
   exact YnU (show k (.tup [natS y (capF (a+b)),.int .i64 (capE (a+b))]) []from h y)
 . exact h.1.elim
theorem YBI:wMulC.ok YGY 137:=by
 refine Yb Tryz.func137 YBg YnO 200 wMulC fun args k h=>?_
 simp only[wMulC]at h
 split at h
 . rename_i t1 z1 n sz get t2 z2 m sz' get'
   obtain⟨a,b,⟨⟨⟨rfl,hn,ha,hg⟩,hna,hn5⟩,⟨rfl,hm,hb,hg'⟩,hmb,hm5⟩,h⟩:=h
   refine⟨[.vs t1 z1 n 1 (fun k=>[.int .u32 (dig a k)]),.vs t2 z2 m 1 (fun k=>[.int .u32 (dig b k)])],⟨by simpa [le]using hg,by simpa [le]using hg',trivial⟩,?_⟩
   dsimp only[v137,Yfl,YqO,Yhe,wchkC,wtimC,resC,natS,go_sem,reduceIte,YGU]
   simp only[Yc,YGU,YGW,reduceCtorEq,YGV]
   subst hna hmb
   have hs:nl (a*b)<=1024:=YsZ (n:=512) (m:=512) hn5 hm5
   refine⟨by decide,_,⟨Ynm,Ynl hn5 hm5⟩,fun hh=>absurd trivial hh,a,b,⟨YaH hn,YaH hm,by omega⟩,a*b,⟨YaH (by omega),rfl⟩,fun y=>?_⟩
   refine⟨by decide,by decide,?_⟩
   exact YnU (show k (.tup [natS y (capF (a*b)),.int .i64 (capE (a*b))]) []from h y)
 . exact h.1.elim
theorem YmB:wShiftC.ok YGY 148:=by
 refine Yb Tryz.func148 YBr YnO 200 wShiftC fun args k h=>?_
 simp only[wShiftC]at h
 split at h
 . rename_i t1 z1 n sz get d
   obtain⟨a,⟨⟨⟨rfl,hn,ha,hg⟩,hna,hn5⟩,hd0,hd1⟩,h⟩:=h
   refine⟨[.vs t1 z1 n 1 (fun k=>[.int .u32 (dig a k)]),.int .i64 d],⟨by simpa [le]using hg,⟨rfl,rfl⟩,trivial⟩,?_⟩
   dsimp only[v148,Yfl,YqQ,YqP,Yhe,wchkC,wupC,wdownC,resC,natS,go_sem,reduceIte,YGU]
   simp only[Yc,YGU,YGW,reduceCtorEq,YGV]
   subst hna
   refine⟨by decide,_,⟨YzO,YzL hn5⟩,fun hh=>absurd trivial hh,fun hb=>?_,fun _=>⟨fun hneg=>?_,fun hpos=>?_⟩⟩
   . rw[YHB,decide_eq_true_eq,decide_eq_true_eq]at hb
     omega
   . obtain⟨e,he⟩:∃e:Nat,e=(-d).toNat:=⟨_,rfl⟩
     have e1:IntKind.i64.wrap (0-d)=(e:Int):=by rw[he,YGZ _ (by omega)];omega
     rw[e1]
     have hdl:nl (a/2^e)<=512:=YHc (Ym7 (Nat.div_le_self _ _)) hn5
     refine⟨a,e,⟨YaH hn,by omega,rfl,by omega⟩,fun z=>⟨a/2^e,⟨YaH (by omega),rfl,fun hz=>?_⟩,fun y=>⟨by decide,by decide,?_⟩⟩⟩
     . rw[YG2,decide_eq_true_eq]at hz
       rw[hz.2,nl_0]
     . have h:k (.tup [natS y (capF (shF a d)),.int .i64 (capE (shF a d))]) []:=h y
       rw[shF,if_pos hneg,<-he]at h
       exact YnU h
   . obtain⟨e,he⟩:∃e:Nat,e=d.toNat:=⟨_,rfl⟩
     have hde:d=(e:Int):=by omega
     have hdl:nl (a*2^e)<=2000:=Ys0 (n:=512) (m:=626) hn5 (by omega) (by decide)
     refine⟨a,e,⟨YaH hn,rfl,by omega,hde,by omega⟩,fun z=>⟨a*2^e,⟨YaH (by omega),rfl,fun hz=>?_⟩,fun y=>⟨by decide,by decide,?_⟩⟩⟩
     . rw[YG2,decide_eq_true_eq]at hz
       rw[hz.2,nl_0]
     . have h:k (.tup [natS y (capF (shF a d)),.int .i64 (capE (shF a d))]) []:=h y
       rw[shF,if_neg hpos,<-he]at h
       exact YnU h
 . exact h.1.elim
abbrev Fr:=Int×Nat
theorem Yiv{k:SV->List HO->Prop}{al:Bool}{hp:List HO}{κ κ':IntKind}{x y:Int}(h:k (.tup [.int κ x,.int κ' y]) []):Yy al k (.tup [.int κ x,.int κ' y]) hp:=
 YD (show k _ []from h) (Yw (.tup [.int κ x,.int κ' y]) ⟨trivial,trivial,trivial⟩) (fun _=>by simp [Yj,Yk])
theorem Ygh:∀(f x:Nat),x<2^f->Lib.bitLenAux f x=Yq x
 |0,x,h=>by
   have:x=0:=by simpa using h
   subst this;rfl
 |f+1,x,h=>by
   rw[Lib.bitLenAux]
   split
   . rename_i h0;subst h0;rfl
   . rename_i h0
     rw[YHo]at h
     rw[Ygh f (x/2) (by omega),YiC (a:=x) (by omega)];omega
theorem Yrc{x:Nat}(h:x<18446744073709551616):Lib.bitLen x=Yq x:=Ygh 64 x h
def len64C:Ctr:={ alias:=false,of:=fun l=>match l with
 | [.int .u64 x]=> .pre (0<=x/\x<=18446744073709551615) (.fin (.int .i64 (Yq x.toNat)) [])
 |_=>noC}
theorem Yki:len64C.ok YGY 132:=by
 intro args vs z k hsat hx hc
 simp only[len64C]at hc
 split at hc
 . rename_i x
   obtain⟨⟨h0,h1⟩,hc⟩:=hc
   cases hx with|cons _ v _ l g1 hx=>
   cases hx
   cases g1
   refine(len64_calls x z.toWorld h0 h1).mono ?_
   rintro e w' ⟨rfl,rfl⟩
   rw[Yrc (by omega)]
   exact⟨_,[],_,[],z.I,Yag z,hc,rfl,.x _ _ (.int _ _),hp0 (hJ:=Yag z) hsat.1,BelowI.refl _ _,fun _=>⟨trivial,trivial⟩⟩
 . exact hc.1.elim
def v111:VF:=⟨6,[.tmp 2],(ZR [Zi 2 0] (ZR [Zm 3 0,Zc 4 132 3,u1 5 (.ari .sub) [.cn (.int .i64 64),.tm 4],Zm 2 5] .ret))⟩
theorem YAS:Yf YGY Tryz.f111=some v111:=by kernel_rfl
def v69:VF:=⟨51,[.tmp 4,.tmp 5],(ZR [u1 4 .mov [.cn (.int .u64 0)],u1 5 .mov [.cn (.int .u64 0)]] (ZR [Zm 14 0,u1 15 (.bit .and) [.tm 14,.cn (.int .u64 4294967295)],Zm 6 15] (ZR [Zm 16 0,u1 17 .shr [.tm 16,.cn (.int .u64 32)],Zm 7 17] (ZR [Zm 18 1,u1 19 (.bit .and) [.tm 18,.cn (.int .u64 4294967295)],Zm 8 19] (ZR [Zm 20 1,u1 21 .shr [.tm 20,.cn (.int .u64 32)],Zm 9 21] (ZR [Zm 22 6,Zm 23 8,Zo 24 .mul 22 23,Zm 10 24] (ZR [Zm 25 7,Zm 26 8,Zo 27 .mul 25 26,Zm 28 10,u1 29 .shr [.tm 28,.cn (.int .u64 32)],Zo 30 .add 27 29,Zm 11 30] (ZR [Zm 31 11,u1 32 (.bit .and) [.tm 31,.cn (.int .u64 4294967295)],Zm 12 32] (ZR [Zm 33 11,u1 34 .shr [.tm 33,.cn (.int .u64 32)],Zm 13 34] (ZR [Zm 35 12,Zm 36 6,Zm 37 9,Zo 38 .mul 36 37,Zo 39 .add 35 38,Zm 12 39] (ZR [Zm 40 7,Zm 41 9,Zo 42 .mul 40 41,Zm 43 13,Zo 44 .add 42 43,Zm 45 12,u1 46 .shr [.tm 45,.cn (.int .u64 32)],Zo 47 .add 44 46,Zm 4 47] (ZR [Zm 48 0,Zm 49 1,Zo 50 .mul 48 49,Zm 5 50] .ret))))))))))))⟩
theorem YGo:Yf YGY Tryz.f69=some v69:=by kernel_rfl
def v93:VF:=⟨135,[.tmp 6,.tmp 7],(ZR [u1 6 .mov [.cn (.int .u64 0)],u1 7 .mov [.cn (.int .u64 0)]] (.seq (ZR [Zm 19 2,u1 20 (.cmp .eql) [.tm 19,.cn (.int .u64 0)]] (ZC 20 .stuck .skip)) (.seq (ZR [Zm 22 2,Zm 23 0,Zr 24 .leq 22 23] (ZC 24 .stuck .skip)) (.seq (ZR [Zm 26 0,u1 27 (.cmp .eql) [.tm 26,.cn (.int .u64 0)]] (ZC 27 (.seq (.draw [] [Zu 28 1,Zu 29 2,w1 30 .quo [.tm 28,.tm 29],Zu 31 1,Zu 32 2,w1 33 .rem [.tm 31,.tm 32],Zu 6 30,Zu 7 33]) .ret) .skip)) (ZR [Zm 34 2,Zc 35 111 34,u1 36 (.conv .u64) [.tm 35],Zm 8 36] (ZR [Zm 37 2,Zm 38 8,u1 39 .shl [.tm 37,.tm 38],Zm 2 39] (ZR [Zm 40 2,u1 41 .shr [.tm 40,.cn (.int .u64 32)],Zm 9 41] (ZR [Zm 42 2,u1 43 (.bit .and) [.tm 42,.cn (.int .u64 4294967295)],Zm 10 43] (ZR [Zm 44 0,Zm 45 8,u1 46 .shl [.tm 44,.tm 45],Zm 47 1,Zm 48 8,u1 49 (.ari .sub) [.cn (.int .u64 64),.tm 48],u1 50 .shr [.tm 47,.tm 49],u1 51 (.bit .or) [.tm 46,.tm 50],Zm 11 51] (ZR [Zm 52 1,Zm 53 8,u1 54 .shl [.tm 52,.tm 53],Zm 12 54] (ZR [Zm 55 12,u1 56 .shr [.tm 55,.cn (.int .u64 32)],Zm 13 56] (ZR [Zm 57 12,u1 58 (.bit .and) [.tm 57,.cn (.int .u64 4294967295)],Zm 14 58] (ZR [Zm 59 11,Zm 60 9,u1 61 .quo [.tm 59,.tm 60],Zm 15 61] (ZR [Zm 62 11,Zm 63 15,Zm 64 9,Zo 65 .mul 63 64,Zo 66 .sub 62 65,Zm 16 66] (.seq (.block 0 (.loop (.seq (ZR [Zm 67 15,u1 68 (.cmp .geq) [.tm 67,.cn (.int .u64 4294967296)],Zm 69 68,Zg 70 69 false 15,Zg 71 69 false 10,u2 72 69 false (.ari .mul) [.tm 70,.tm 71],Zg 73 69 false 16,u2 74 69 false (.ari .mul) [.cn (.int .u64 4294967296),.tm 73],Zg 75 69 false 13,u2 76 69 false (.ari .add) [.tm 74,.tm 75],u2 77 69 false (.cmp .gtr) [.tm 72,.tm 76],u1 78 .or [.tm 69,.tm 77]] (ZC 78 .skip (.exit 0))) (.block 1 (ZR [Zm 79 15,u1 80 (.ari .sub) [.tm 79,.cn (.int .u64 1)],Zm 15 80] (ZR [Zm 81 16,Zm 82 9,Zo 83 .add 81 82,Zm 16 83] (ZR [Zm 84 16,u1 85 (.cmp .geq) [.tm 84,.cn (.int .u64 4294967296)]] (ZC 85 (.exit 0) .skip)))))))) (ZR [Zm 86 11,u1 87 (.ari .mul) [.tm 86,.cn (.int .u64 4294967296)],Zm 88 13,Zo 89 .add 87 88,Zm 90 15,Zm 91 2,Zo 92 .mul 90 91,Zo 93 .sub 89 92,Zm 17 93] (ZR [Zm 94 17,Zm 95 9,u1 96 .quo [.tm 94,.tm 95],Zm 18 96] (ZR [Zm 97 17,Zm 98 18,Zm 99 9,Zo 100 .mul 98 99,Zo 101 .sub 97 100,Zm 16 101] (.seq (.block 2 (.loop (.seq (ZR [Zm 102 18,u1 103 (.cmp .geq) [.tm 102,.cn (.int .u64 4294967296)],Zm 104 103,Zg 105 104 false 18,Zg 106 104 false 10,u2 107 104 false (.ari .mul) [.tm 105,.tm 106],Zg 108 104 false 16,u2 109 104 false (.ari .mul) [.cn (.int .u64 4294967296),.tm 108],Zg 110 104 false 14,u2 111 104 false (.ari .add) [.tm 109,.tm 110],u2 112 104 false (.cmp .gtr) [.tm 107,.tm 111],u1 113 .or [.tm 104,.tm 112]] (ZC 113 .skip (.exit 2))) (.block 3 (ZR [Zm 114 18,u1 115 (.ari .sub) [.tm 114,.cn (.int .u64 1)],Zm 18 115] (ZR [Zm 116 16,Zm 117 9,Zo 118 .add 116 117,Zm 16 118] (ZR [Zm 119 16,u1 120 (.cmp .geq) [.tm 119,.cn (.int .u64 4294967296)]] (ZC 120 (.exit 2) .skip)))))))) (ZR [Zm 121 15,u1 122 (.ari .mul) [.tm 121,.cn (.int .u64 4294967296)],Zm 123 18,Zo 124 .add 122 123,Zm 125 17,u1 126 (.ari .mul) [.tm 125,.cn (.int .u64 4294967296)],Zm 127 14,Zo 128 .add 126 127,Zm 129 18,Zm 130 2,Zo 131 .mul 129 130,Zo 132 .sub 128 131,Zm 133 8,u1 134 .shr [.tm 132,.tm 133],Zm 6 124,Zm 7 134] .ret))))))))))))))))))))⟩
theorem YGG:Yf YGY Tryz.f93=some v93:=by kernel_rfl
def lz64C:Ctr:={ alias:=false,of:=fun l=>match l with
 | [.int .u64 x]=> .pre (0<=x/\x<=18446744073709551615) (.fin (.int .i64 (64-(Yq x.toNat:Int))) [])
 |_=>noC}
def mul64C:Ctr:={ alias:=false,of:=fun l=>match l with
 | [.int .u64 x,.int .u64 y]=> .pre ((0<=x/\x<=18446744073709551615)/\0<=y/\y<=18446744073709551615) (.fin (.tup [.int .u64 (x*y/18446744073709551616),.int .u64 (x*y%18446744073709551616)]) [])
 |_=>noC}
def div64C:Ctr:={ alias:=false,of:=fun l=>match l with
 | [.int .u64 h,.int .u64 x,.int .u64 y]=> .pre ((0<=x/\x<=18446744073709551615)/\0<=h/\h<y/\y<=18446744073709551615) (.fin (.tup [.int .u64 ((h*18446744073709551616+x)/y),.int .u64 ((h*18446744073709551616+x)%y)]) [])
 |_=>noC}
def B0:Env:={ ct:=fun n=>match n with|132=>some len64C|_=>none,fn:=fun _=>none,meth:=fun _ _=>none}
theorem Yua:B0.ct 132=some len64C:=rfl
theorem YBN:Yl YGY B0:=by
 refine⟨fun f c h=>?_,fun f vf h=>?_,(fun _ _ _ h=>by cases h),by kernel_rfl,(fun _ h=>by cases h)⟩
 . simp only[B0]at h
   split at h
   . cases h;exact⟨Yki,Tryz.f132,Tryz.func132,by kernel_rfl,by kernel_rfl⟩
   . cases h
 . cases h
theorem YzA:lz64C.ok YGY 111:=by
 refine Yb Tryz.func111 YAS YBN 100 lz64C fun args k h=>?_
 simp only[lz64C]at h
 split at h
 . rename_i x
   obtain⟨⟨h0,h1⟩,h⟩:=h
   refine⟨[.int .u64 x],by simp [leL,le],?_⟩
   (try dsimp only[v111,Yua,len64C,go_sem,reduceIte,YGU])
   (try simp only[Yc,YGU,YGW,reduceCtorEq,YGV])
   refine⟨⟨h0,h1⟩,Yi ?_⟩
   have:Yq x.toNat<=64:=bitsN_le.2 (by have:(2:Nat)^64=18446744073709551616:=rfl;omega)
   rw[YGZ _ (by omega)]
   exact h
 . exact h.1.elim
theorem Ylf{x:Nat}(h:x<18446744073709551616):bitI .and .u64 (x:Int) 4294967295=((x%4294967296:Nat):Int):=YuT h
theorem YuY{x y:Nat}(hx:x<18446744073709551616)(hy:y<18446744073709551616):bitI .or .u64 (x:Int) (y:Int)=((x||| y:Nat):Int):=Ys5 hx hy
theorem YfE:mul64C.ok YGY 69:=by
 refine Yb Tryz.func69 YGo YBN 200 mul64C fun args k h=>?_
 simp only[mul64C]at h
 split at h
 . rename_i x y
   obtain⟨⟨⟨h0,h1⟩,h2,h3⟩,h⟩:=h
   obtain⟨x,rfl⟩:=YHL h0
   obtain⟨y,rfl⟩:=YHL h2
   refine⟨[.int .u64 x,.int .u64 y],by simp [leL,le],?_⟩
   (try dsimp only[v69,go_sem,reduceIte,YGU])
   (try simp only[Yc,YGU,YGW,reduceCtorEq,YGV])
   have hx:x<18446744073709551616:=by omega
   have hy:y<18446744073709551616:=by omega
   obtain⟨e,b1,b2,b3,b4,b5,b6,b7,b8⟩:=YEb hx hy
   have s32:∀z:Nat,(z:Int).fdiv (2^min (Int.toNat 32) IntKind.u64.bits)=((z/4294967296:Nat):Int):=fun z=>Ycr (s:=32) (by decide)
   have hm:∀z:Nat,z%4294967296<18446744073709551616:=fun z=>by omega
   try rw[show IntKind.u64.bits=64 from rfl]at*
   rw[Ylf hx,Ylf hy,s32 x,s32 y,Ynp b1,s32 (x%4294967296*(y%4294967296)),Ynp b2,YgG b3,s32 (x/4294967296*(y%4294967296)+x%4294967296*(y%4294967296)/4294967296),Ylf b3,Ynp b4,YgG b5,s32,Ynp b6,YgG b7,YgG b8,e,Yno]
   refine⟨by decide,by decide,by decide,by decide,by decide,?_⟩
   have h:k (.tup [.int .u64 ((x:Int)*y/18446744073709551616),.int .u64 ((x:Int)*y%18446744073709551616)]) []:=h
   have e2:((x*y/18446744073709551616:Nat):Int)=(x:Int)*y/18446744073709551616:=by
     rw[<-YHZ];generalize x*y=z;omega
   rw[e2]
   exact Yiv h
 . exact h.1.elim
def B2:Env:={ ct:=fun n=>match n with|111=>some lz64C|_=>none,fn:=fun _=>none,meth:=fun _ _=>none}
theorem Yub:B2.ct 111=some lz64C:=rfl
theorem B2_ok:Yl YGY B2:=by
 refine⟨fun f c h=>?_,fun f vf h=>?_,(fun _ _ _ h=>by cases h),by kernel_rfl,(fun _ h=>by cases h)⟩
 . simp only[B2]at h
   split at h
   . cases h;exact⟨YzA,Tryz.f111,Tryz.func111,by kernel_rfl,by kernel_rfl⟩
   . cases h
 . cases h
theorem YjQ:div64C.ok YGY 93:=by
 refine Yb Tryz.func93 YGG B2_ok 300 div64C fun args k h=>?_
 simp only[div64C]at h
 split at h
 . rename_i hh x y
   obtain⟨⟨⟨h0,h1⟩,h2,h3,h4⟩,h⟩:=h
   obtain⟨x,rfl⟩:=YHL h0
   obtain⟨hh,rfl⟩:=YHL h2
   obtain⟨y,rfl⟩:=YHL (by omega:0<=y)
   refine⟨[.int .u64 hh,.int .u64 x,.int .u64 y],by simp [leL,le],?_⟩
   (try dsimp only[v93,Yub,lz64C,go_sem,reduceIte,YGU])
   (try simp only[Yc,YGU,YGW,reduceCtorEq,YGV])
   have hx:x<18446744073709551616:=by omega
   have hy:y<18446744073709551616:=by omega
   have hlt:hh<y:=by omega
   try rw[show IntKind.u64.bits=64 from rfl]at*
   refine⟨fun hc=>by omega,fun _=>⟨fun hc=>by omega,fun _=>⟨fun hz=>?_,fun hz=>?_⟩⟩⟩
   . obtain rfl:hh=0:=by omega
     have e1:(x:Int).tdiv y=((x/y:Nat):Int):=IntWalk.up_tdiv rfl rfl
     have e2:(x:Int).tmod y=((x%y:Nat):Int):=IntWalk.up_tmod rfl rfl
     have h:k (.tup [.int .u64 ((((0:Nat):Int)*18446744073709551616+x)/y),.int .u64 ((((0:Nat):Int)*18446744073709551616+x)%y)]) []:=h
     have e3:((0:Nat):Int)*18446744073709551616+x=x:=by omega
     rw[e3]at h
     rw[e1,e2,Yce (YHG (Nat.div_le_self _ _) hx)]
     refine⟨by omega,by omega,?_⟩
     exact Yiv h
   . obtain⟨s,hs⟩:∃s,s=64-Yq y:=⟨_,rfl⟩
     obtain⟨f1,f2,f3⟩:=YpD hy (by omega)
     rw[<-hs]at f2 f3
     have hs64:s<=64:=by omega
     obtain⟨g1,g2,g3⟩:=Yvv (h:=hh) hs64 hx
     have hsh:hh*2^s<y*2^s:=Nat.mul_lt_mul_of_pos_right hlt (YH s)
     have es:IntKind.u64.wrap (64-(Yq ((y:Int)).toNat:Int))=(s:Int):=by
       rw[YG0,YHt _ (by omega)];omega
     have es2:IntKind.u64.wrap (64-(s:Int))=((64-s:Nat):Int):=by rw[YHt _ (by omega)];omega
     have sY:=Yge hs64 f3
     have sH:=Yge hs64 (Nat.lt_trans hsh f3)
     have sX1:=Ycr (x:=x) (s:=64-s) (by omega)
     have hxs:x/2^(64-s)<18446744073709551616:=YHG (Nat.div_le_self _ _) hx
     have sO:=YuY (Nat.lt_trans hsh f3) hxs
     rw[g1]at sO
     have sX:IntKind.u64.wrap ((x:Int)*2^min s 64)=((x*2^s%18446744073709551616:Nat):Int):=by
       rw[Nat.min_eq_left hs64]
       have:(x:Int)*2^s=((x*2^s:Nat):Int):=by simp
       rw[this,YFK]
     have s32:∀z:Nat,(z:Int).fdiv (2^min (Int.toNat 32) 64)=((z/4294967296:Nat):Int):=fun z=>Ycr (s:=32) (by decide)
     have mY:=Ylf f3
     have mX:=Ylf (YHT (x*2^s) (show 0<18446744073709551616 by omega))
     rw[es]
     simp only[YG0,es2,sY,sH,sX1,sO,sX,s32,mY,mX]
     have hN:=g3
     generalize hY:y*2^s=Y at f2 f3 hsh⊢
     generalize hX:x*2^s%18446744073709551616=X at hN⊢
     generalize hA:hh*2^s+x/2^(64-s)=A at hN⊢
     have hX6:X<18446744073709551616:=by rw[<-hX];exact YHT _ (show 0<18446744073709551616 by omega)
     have hAY:A<Y:=by
       have:hh*2^s+2^s<=y*2^s:=by rw[<-Nat.succ_mul];exact YG3 _ hlt
       omega
     clear mY mX sX sO sX1 sH sY es es2 g1 g2 g3
     have y1a:2147483648<=Y/4294967296:=by omega
     have y1b:Y/4294967296<4294967296:=by omega
     have y1p:0<Y/4294967296:=by omega
     have eY:Y/4294967296*4294967296+Y%4294967296=Y:=Nat.div_add_mod' Y 4294967296
     have y0b:Y%4294967296<4294967296:=by omega
     have u1b:X/4294967296<4294967296:=by omega
     have u0b:X%4294967296<4294967296:=by omega
     have hYp:0<Y:=by omega
     have start:=fun(a u:Nat) (ha:a<Y) (hu:u<4294967296)=>(YrG (u:=u) y1a y0b (by rw[eY];exact ha) hu).resolve_right (by omega)
     have eq0:∀a:Nat,a<Y->IntKind.u64.wrap ((a:Int).tdiv ((Y/4294967296:Nat):Int))=((a/(Y/4294967296):Nat):Int):=fun a ha=>by
       have:(a:Int).tdiv ((Y/4294967296:Nat):Int)=((a/(Y/4294967296):Nat):Int):=IntWalk.up_tdiv rfl rfl
       rw[this];exact Yce (YHG (Nat.div_le_self _ _) (Nat.lt_trans ha f3))
     have er0:∀a:Nat,a<Y->IntKind.u64.wrap ((a:Int)-IntKind.u64.wrap (((a/(Y/4294967296):Nat):Int)*((Y/4294967296:Nat):Int)))=((a-a/(Y/4294967296)*(Y/4294967296):Nat):Int):=fun a ha=>by
       have hle:a/(Y/4294967296)*(Y/4294967296)<=a:=YHU _ _
       have h6:=Nat.lt_trans ha f3
       rw[Ynp (YHG hle h6),YAH hle h6]
     --the word behind a digit
     have eR:∀a u q:Nat,u<4294967296->q=(a*4294967296+u)/Y->IntKind.u64.wrap (IntKind.u64.wrap (IntKind.u64.wrap ((a:Int)*4294967296)+(u:Int))-IntKind.u64.wrap ((q:Int)*(Y:Int)))=(((a*4294967296+u)%Y:Nat):Int):=fun a u q hu hq=>by
       have e:=YHH (a*4294967296+u) Y
       have hm:=YHT (a*4294967296+u) hYp
       rw[<-hq,YG4]at e
       have e2:((q*Y:Nat):Int)=(q:Int)*(Y:Int):=YHZ _ _
       generalize(a*4294967296+u)%Y=m at*
       simp only[Yno]
       rw[<-e2]
       generalize q*Y=t at*
       omega
     --the condition of a loop
     have cnd:∀(q r u:Nat),r<4294967296->u<4294967296->((decide (4294967296<=(q:Int)) || decide (IntKind.u64.wrap (IntKind.u64.wrap (4294967296*(r:Int))+(u:Int))<IntKind.u64.wrap ((q:Int)*((Y%4294967296:Nat):Int))))=true↔4294967296<=q\/4294967296*r+u<q*(Y%4294967296)):=fun q r u hr hu=>by
       rcases YHE q 4294967296 with hq|hq
       . have hm:q*(Y%4294967296)<=4294967295*4294967295:=YHi (by omega) (by omega)
         rw[Ynp (by omega),YHt (4294967296*(r:Int)) (by omega),YHt _ (by omega),YHB,decide_eq_true_eq,decide_eq_true_eq]
         generalize q*(Y%4294967296)=t
         omega
       . simp [hq];omega
     have sY1:∀r:Nat,r<4294967296->IntKind.u64.wrap ((r:Int)+((Y/4294967296:Nat):Int))=((r+Y/4294967296:Nat):Int):=fun r hr=>YgG (by omega)
     have dY:∀q:Nat,0<q->q<=4294967297->IntKind.u64.wrap ((q:Int)-1)=((q-1:Nat):Int):=fun q h1 h2=>by rw[YHt _ (by omega)];omega
     rw[eq0 A hAY,er0 A hAY]
     refine⟨⟨by omega,by omega⟩,by omega,by decide,by omega,by omega,by omega,by decide,by omega,?_⟩
     refine Loop.keep [2,5,0,0,0,1,0] (Nat×Nat) (fun x=>[(15,.int .u64 x.1),(16,.int .u64 x.2)]) (fun _=>[]) [] (fun x=>Ygg (Y/4294967296) (Y%4294967296) A (X/4294967296) x.1 x.2/\x.2<4294967296) (fun x=>x.1) ?_ ?_
     . refine⟨(A/(Y/4294967296),A-A/(Y/4294967296)*(Y/4294967296)),start A (X/4294967296) hAY u1b,?_⟩
       (try dsimp only[go_sem,reduceIte,YGU])
       simp only[Ya]
     . rintro⟨q,r⟩ ⟨hd,hr⟩
       dsimp only at hd hr
       (try dsimp only[go_sem,reduceIte,YGU])
       (try simp only[Yc,YGU,YGW,reduceCtorEq,YGV])
       rw[cnd q r _ hr u1b]
       have hql:=hd.le
       refine⟨fun hc=>?_,fun hc=>?_⟩
       . obtain⟨hq0,hn⟩:=YjP hd y1p (by rw[eY];exact hAY) u1b hc
         rw[dY q hq0 hql,sY1 r hr]
         refine⟨fun hb=>⟨by omega,?_⟩,fun hb=>⟨(q-1,r+Y/4294967296),⟨hn,by simp only;omega⟩,by simp only;omega,?_⟩⟩
         . have hQ1:=Yhu hn y1p y0b (by omega) (by omega)
           rw[eY]at hQ1
           generalize q-1=Q1 at hQ1⊢
           have hR1Y:(A*4294967296+X/4294967296)%Y<Y:=YHT _ hYp
           rw[eR A _ Q1 u1b hQ1]
           generalize hR1:(A*4294967296+X/4294967296)%Y=R1 at hR1Y⊢
           rw[eq0 R1 hR1Y,er0 R1 hR1Y]
           refine Loop.keep [2,5,0,0,3,0,1] (Nat×Nat) (fun x=>[(18,.int .u64 x.1),(16,.int .u64 x.2)]) (fun _=>[]) [] (fun x=>Ygg (Y/4294967296) (Y%4294967296) R1 (X%4294967296) x.1 x.2/\x.2<4294967296) (fun x=>x.1) ?_ ?_
           . refine⟨(R1/(Y/4294967296),R1-R1/(Y/4294967296)*(Y/4294967296)),start R1 (X%4294967296) hR1Y u0b,?_⟩
             (try dsimp only[go_sem,reduceIte,YGU])
             simp only[Ya]
           . rintro⟨q,r⟩ ⟨hd,hr⟩
             dsimp only at hd hr
             (try dsimp only[go_sem,reduceIte,YGU])
             (try simp only[Yc,YGU,YGW,reduceCtorEq,YGV])
             rw[cnd q r _ hr u0b]
             have hql:=hd.le
             refine⟨fun hc=>?_,fun hc=>?_⟩
             . obtain⟨hq0,hn⟩:=YjP hd y1p (by rw[eY];exact hR1Y) u0b hc
               rw[dY q hq0 hql,sY1 r hr]
               refine⟨fun hb=>?_,fun hb=>⟨(q-1,r+Y/4294967296),⟨hn,by simp only;omega⟩,by simp only;omega,?_⟩⟩
               . have hQ0:=Yhu hn y1p y0b (by omega) (by omega)
                 rw[eY]at hQ0
                 generalize q-1=Q0 at hQ0⊢
                 obtain⟨eT1,eT2⟩:=YeI hYp hQ1 hR1.symm hQ0
                 have eX:X/4294967296*4294967296+X%4294967296=X:=Nat.div_add_mod' X 4294967296
                 rw[eX,hN,<-hY,Nat.mul_div_mul_right _ _ (YH s)]at eT1
                 rw[eX,hN,<-hY,Nat.mul_mod_mul_right]at eT2
                 have hNy:(hh*18446744073709551616+x)/y<18446744073709551616:=by
                   rw[YHD (by omega)];omega
                 rw[YG0,eR R1 _ Q0 u0b hQ0,Ycr hs64,<-hY,eT2,Nat.mul_div_cancel _ (YH s),YHt ((Q1:Int)*4294967296) (by omega),YHt _ (by omega)]
                 refine⟨by omega,?_⟩
                 have h:k (.tup [.int .u64 (((hh:Int)*18446744073709551616+x)/y),.int .u64 (((hh:Int)*18446744073709551616+x)%y)]) []:=h
                 have e1:((hh:Int)*18446744073709551616+x)/y=(Q1:Int)*4294967296+Q0:=by
                   have:((hh:Int)*18446744073709551616+x)/y=(((hh*18446744073709551616+x)/y:Nat):Int):=by
                     rw[Int.natCast_ediv] <;> first|rfl| (congr 1;omega)
                   rw[this,<-eT1];omega
                 have e2:((hh:Int)*18446744073709551616+x)%y=(((hh*18446744073709551616+x)%y:Nat):Int):=by
                   rw[Int.natCast_emod] <;> first|rfl| (congr 1;omega)
                 rw[e1,e2]at h
                 exact Yiv h
               . simp only[Ya]
             . have hc:¬(4294967296<=q\/4294967296*r+X%4294967296<q*(Y%4294967296)):=fun hh=>by
                 have:=(cnd q r _ hr u0b).2 hh
                 rw[hc]at this;cases this
               have hQ0:=YjN hd y1p (by omega)
               rw[eY]at hQ0
               generalize q=Q0 at hQ0⊢
               obtain⟨eT1,eT2⟩:=YeI hYp hQ1 hR1.symm hQ0
               have eX:X/4294967296*4294967296+X%4294967296=X:=Nat.div_add_mod' X 4294967296
               rw[eX,hN,<-hY,Nat.mul_div_mul_right _ _ (YH s)]at eT1
               rw[eX,hN,<-hY,Nat.mul_mod_mul_right]at eT2
               have hNy:(hh*18446744073709551616+x)/y<18446744073709551616:=by
                 rw[YHD (by omega)];omega
               rw[YG0,eR R1 _ Q0 u0b hQ0,Ycr hs64,<-hY,eT2,Nat.mul_div_cancel _ (YH s),YHt ((Q1:Int)*4294967296) (by omega),YHt _ (by omega)]
               refine⟨by omega,?_⟩
               have h:k (.tup [.int .u64 (((hh:Int)*18446744073709551616+x)/y),.int .u64 (((hh:Int)*18446744073709551616+x)%y)]) []:=h
               have e1:((hh:Int)*18446744073709551616+x)/y=(Q1:Int)*4294967296+Q0:=by
                 have:((hh:Int)*18446744073709551616+x)/y=(((hh*18446744073709551616+x)/y:Nat):Int):=by
                   rw[Int.natCast_ediv] <;> first|rfl| (congr 1;omega)
                 rw[this,<-eT1];omega
               have e2:((hh:Int)*18446744073709551616+x)%y=(((hh*18446744073709551616+x)%y:Nat):Int):=by
                 rw[Int.natCast_emod] <;> first|rfl| (congr 1;omega)
               rw[e1,e2]at h
               exact Yiv h
         . simp only[Ya]
       . have hc:¬(4294967296<=q\/4294967296*r+X/4294967296<q*(Y%4294967296)):=fun hh=>by
           have:=(cnd q r _ hr u1b).2 hh
           rw[hc]at this;cases this
         have hQ1:=YjN hd y1p (by omega)
         rw[eY]at hQ1
         refine⟨by omega,?_⟩
         generalize q=Q1 at hQ1⊢
         have hR1Y:(A*4294967296+X/4294967296)%Y<Y:=YHT _ hYp
         rw[eR A _ Q1 u1b hQ1]
         generalize hR1:(A*4294967296+X/4294967296)%Y=R1 at hR1Y⊢
         rw[eq0 R1 hR1Y,er0 R1 hR1Y]
         refine Loop.keep [2,5,0,0,3,0,1] (Nat×Nat) (fun x=>[(18,.int .u64 x.1),(16,.int .u64 x.2)]) (fun _=>[]) [] (fun x=>Ygg (Y/4294967296) (Y%4294967296) R1 (X%4294967296) x.1 x.2/\x.2<4294967296) (fun x=>x.1) ?_ ?_
         . refine⟨(R1/(Y/4294967296),R1-R1/(Y/4294967296)*(Y/4294967296)),start R1 (X%4294967296) hR1Y u0b,?_⟩
           (try dsimp only[go_sem,reduceIte,YGU])
           simp only[Ya]
         . rintro⟨q,r⟩ ⟨hd,hr⟩
           dsimp only at hd hr
           (try dsimp only[go_sem,reduceIte,YGU])
           (try simp only[Yc,YGU,YGW,reduceCtorEq,YGV])
           rw[cnd q r _ hr u0b]
           have hql:=hd.le
           refine⟨fun hc=>?_,fun hc=>?_⟩
           . obtain⟨hq0,hn⟩:=YjP hd y1p (by rw[eY];exact hR1Y) u0b hc
             rw[dY q hq0 hql,sY1 r hr]
             refine⟨fun hb=>?_,fun hb=>⟨(q-1,r+Y/4294967296),⟨hn,by simp only;omega⟩,by simp only;omega,?_⟩⟩
             . have hQ0:=Yhu hn y1p y0b (by omega) (by omega)
               rw[eY]at hQ0
               generalize q-1=Q0 at hQ0⊢
               obtain⟨eT1,eT2⟩:=YeI hYp hQ1 hR1.symm hQ0
               have eX:X/4294967296*4294967296+X%4294967296=X:=Nat.div_add_mod' X 4294967296
               rw[eX,hN,<-hY,Nat.mul_div_mul_right _ _ (YH s)]at eT1
               rw[eX,hN,<-hY,Nat.mul_mod_mul_right]at eT2
               have hNy:(hh*18446744073709551616+x)/y<18446744073709551616:=by
                 rw[YHD (by omega)];omega
               rw[YG0,eR R1 _ Q0 u0b hQ0,Ycr hs64,<-hY,eT2,Nat.mul_div_cancel _ (YH s),YHt ((Q1:Int)*4294967296) (by omega),YHt _ (by omega)]
               refine⟨by omega,?_⟩
               have h:k (.tup [.int .u64 (((hh:Int)*18446744073709551616+x)/y),.int .u64 (((hh:Int)*18446744073709551616+x)%y)]) []:=h
               have e1:((hh:Int)*18446744073709551616+x)/y=(Q1:Int)*4294967296+Q0:=by
                 have:((hh:Int)*18446744073709551616+x)/y=(((hh*18446744073709551616+x)/y:Nat):Int):=by
                   rw[Int.natCast_ediv] <;> first|rfl| (congr 1;omega)
                 rw[this,<-eT1];omega
               have e2:((hh:Int)*18446744073709551616+x)%y=(((hh*18446744073709551616+x)%y:Nat):Int):=by
                 rw[Int.natCast_emod] <;> first|rfl| (congr 1;omega)
               rw[e1,e2]at h
               exact Yiv h
             . simp only[Ya]
           . have hc:¬(4294967296<=q\/4294967296*r+X%4294967296<q*(Y%4294967296)):=fun hh=>by
               have:=(cnd q r _ hr u0b).2 hh
               rw[hc]at this;cases this
             have hQ0:=YjN hd y1p (by omega)
             rw[eY]at hQ0
             generalize q=Q0 at hQ0⊢
             obtain⟨eT1,eT2⟩:=YeI hYp hQ1 hR1.symm hQ0
             have eX:X/4294967296*4294967296+X%4294967296=X:=Nat.div_add_mod' X 4294967296
             rw[eX,hN,<-hY,Nat.mul_div_mul_right _ _ (YH s)]at eT1
             rw[eX,hN,<-hY,Nat.mul_mod_mul_right]at eT2
             have hNy:(hh*18446744073709551616+x)/y<18446744073709551616:=by
               rw[YHD (by omega)];omega
             rw[YG0,eR R1 _ Q0 u0b hQ0,Ycr hs64,<-hY,eT2,Nat.mul_div_cancel _ (YH s),YHt ((Q1:Int)*4294967296) (by omega),YHt _ (by omega)]
             refine⟨by omega,?_⟩
             have h:k (.tup [.int .u64 (((hh:Int)*18446744073709551616+x)/y),.int .u64 (((hh:Int)*18446744073709551616+x)%y)]) []:=h
             have e1:((hh:Int)*18446744073709551616+x)/y=(Q1:Int)*4294967296+Q0:=by
               have:((hh:Int)*18446744073709551616+x)/y=(((hh*18446744073709551616+x)/y:Nat):Int):=by
                 rw[Int.natCast_ediv] <;> first|rfl| (congr 1;omega)
               rw[this,<-eT1];omega
             have e2:((hh:Int)*18446744073709551616+x)%y=(((hh*18446744073709551616+x)%y:Nat):Int):=by
               rw[Int.natCast_emod] <;> first|rfl| (congr 1;omega)
             rw[e1,e2]at h
             exact Yiv h
 . exact h.1.elim
def v122:VF:=⟨6,[.tmp 2],(ZR [u1 2 .mov [.cn .nil]] (ZR [Zm 3 0,u1 4 (.conv .u64) [.tm 3],Zc 5 138 4,Zm 2 5] .ret))⟩
theorem YA3:Yf YGY Tryz.f122=some v122:=by kernel_rfl
def v120:VF:=⟨14,[.tmp 4],(ZR [u1 4 .mov [.cn .nil]] (ZR [Zm 8 0,Zm 9 1,Zd 10 136 8 9,Zm 7 10,Ze 11 0 7,Ze 12 1 7,Zm 5 11,Zm 6 12] (ZR [Zm 13 5,Zm 4 13] .ret)))⟩
theorem YA1:Yf YGY Tryz.f120=some v120:=by kernel_rfl
def v121:VF:=⟨14,[.tmp 4],(ZR [u1 4 .mov [.cn .nil]] (ZR [Zm 8 0,Zm 9 1,Zd 10 137 8 9,Zm 7 10,Ze 11 0 7,Ze 12 1 7,Zm 5 11,Zm 6 12] (ZR [Zm 13 5,Zm 4 13] .ret)))⟩
theorem YA2:Yf YGY Tryz.f121=some v121:=by kernel_rfl
def v105:VF:=⟨15,[.tmp 4],(ZR [u1 4 .mov [.cn (.bool false)]] (ZR [Zm 8 0,Zm 9 1,Zd 10 123 8 9,Zm 7 10,Ze 11 0 7,Ze 12 1 7,Zm 5 11,Zm 6 12] (ZR [Zm 13 5,Zq 14 .gtr 13 0,Zm 4 14] .ret)))⟩
theorem YAM:Yf YGY Tryz.f105=some v105:=by kernel_rfl
def v135:VF:=⟨34,[.tmp 6],(ZR [u1 6 .mov [.cn .nil]] (ZR [Zm 12 0,Zm 13 1,Zd 14 148 12 13,Zm 11 14,Ze 15 0 11,Ze 16 1 11,Zm 7 15,Zm 8 16] (.seq (ZR [Zm 18 7,Zm 19 1,u1 20 .neg [.tm 19],Zd 21 148 18 20,Zm 17 21,Ze 22 0 17,Ze 23 1 17,Zm 9 22,Zm 10 23] (ZR [Zm 24 2,Zm 25 24,Zg 26 25 true 0,Zg 27 25 true 9,u2 28 25 true (.call 105) [.tm 26,.tm 27],u1 29 .and [.tm 25,.tm 28]] (ZC 29 (.region [Zm 30 7,u1 31 (.call 122) [.cn (.int .i64 1)],Zd 32 120 30 31,Zm 7 32]) .skip))) (ZR [Zm 33 7,Zm 6 33] .ret))))⟩
theorem YBe:Yf YGY Tryz.f135=some v135:=by kernel_rfl
def v119:VF:=⟨97,[.tmp 4,.tmp 5],(ZR [u1 4 .mov [.cn .nil],u1 5 .mov [.cn .nil]] (ZR [Zm 15 0,u1 16 (.conv .u64) [.tm 15],Zc 17 132 16,u1 18 (.ari .sub) [.tm 17,.cn (.int .i64 1)],Zm 6 18] (ZR [Zm 19 6,Zc 20 122 19,Zm 21 1,u1 22 (.call 135) [.tm 20,.tm 21,.cn (.bool false)],Zm 7 22] (.seq (ZR [Zm 23 0,Zm 24 0,u1 25 (.ari .sub) [.tm 24,.cn (.int .i64 1)],u1 26 (.bit .and) [.tm 23,.tm 25],Zq 27 .eql 26 0] (ZC 27 (ZR [Zm 28 7,Zm 29 7,Zm 4 28,Zm 5 29] .ret) .skip)) (ZR [Zm 30 1,u1 31 (.ari .mul) [.cn (.int .i64 2),.tm 30],Zp 32 31 64,Zm 8 32] (ZR [Zm 33 0,Zc 34 122 33,Zm 35 8,Zm 36 6,Zo 37 .sub 35 36,u1 38 (.call 135) [.tm 34,.tm 37,.cn (.bool false)],Zm 9 38] (ZR [Zm 39 9,Zm 10 39] (ZR [u1 40 (.call 122) [.cn (.int .i64 2)],Zm 41 8,u1 42 (.call 135) [.tm 40,.tm 41,.cn (.bool false)],Zm 11 42] (ZR [Zm 43 6,Zc 44 122 43,Zm 12 44,Zi 13 0] (.seq (.block 0 (.loop (.seq (ZR [Zm 45 13,Zm 46 1,Zr 47 .lss 45 46] (ZC 47 .skip (.exit 0))) (.seq (.block 1 (ZR [Zm 50 9,Zm 51 9,Zd 52 121 50 51,Zm 53 8,u1 54 .neg [.tm 53],u1 55 (.call 135) [.tm 52,.tm 54,.cn (.bool false)],Zm 56 10,Zm 57 10,Zd 58 121 56 57,Zm 59 8,u1 60 .neg [.tm 59],u1 61 (.call 135) [.tm 58,.tm 60,.cn (.bool true)],Zm 9 55,Zm 10 61] (ZR [Zi 14 0] (.seq (.block 2 (ZR [Zm 63 11,Zm 64 9,Zd 65 105 63 64,u1 66 .not [.tm 65],Zm 62 66] (ZC 62 (.region [Zm 67 9,u1 68 (.call 135) [.tm 67,.cn (.int .i64 (-1)),.cn (.bool false)],Zm 69 10,u1 70 (.call 135) [.tm 69,.cn (.int .i64 (-1)),.cn (.bool true)],Zm 9 68,Zm 10 70,Zi 14 1]) (ZR [Zm 72 11,Zm 73 10,Zd 74 105 72 73,u1 75 .not [.tm 74],Zm 71 75] (ZC 71 (ZR [Zm 76 12,Zm 77 1,Zm 78 13,Zo 79 .sub 77 78,u1 80 (.call 135) [.tm 76,.tm 79,.cn (.bool false)],Zm 81 12,u1 82 (.call 122) [.cn (.int .i64 1)],Zd 83 120 81 82,Zm 84 1,Zm 85 13,Zo 86 .sub 84 85,u1 87 (.call 135) [.tm 83,.tm 86,.cn (.bool false)],Zm 4 80,Zm 5 87] .ret) .skip))))) (.region [Zm 88 12,u1 89 (.call 135) [.tm 88,.cn (.int .i64 1),.cn (.bool false)],Zm 90 14,Zc 91 122 90,Zd 92 120 89 91,Zm 12 92]))))) (.region [Zm 48 13,Zp 49 48 1,Zm 13 49]))))) (ZR [Zm 93 12,Zm 94 12,u1 95 (.call 122) [.cn (.int .i64 1)],Zd 96 120 94 95,Zm 4 93,Zm 5 96] .ret)))))))))))⟩
theorem YA0:Yf YGY Tryz.f119=some v119:=by kernel_rfl
theorem YfY(a:Nat):nl (capF a)<=512:=by
 unfold capF
 split
 . assumption
 . rw[nl_0];omega
def addW(a b:Nat):Nat:=capF (a+b)
def mulW(a b:Nat):Nat:=capF (a*b)
def movW(a:Nat)(d:Int)(up:Bool):Nat:=
 if(up&&decide (capF (shF (capF (shF a d)) (-d))<a))=true then addW (capF (shF a d)) 1 else capF (shF a d)
theorem Ycn(a b:Nat):nl (addW a b)<=512:=YfY _
theorem Yf8(a b:Nat):nl (mulW a b)<=512:=YfY _
theorem YbB(a:Nat)(d:Int)(up:Bool):nl (movW a d up)<=512:=by
 unfold movW
 split <;> exact YfY _
theorem Yn{a:Nat}(h:nl a<=512):okW a (nl a) 1 (fun k=>[.int .u32 (dig a k)]):=⟨YaH (by omega),rfl,h⟩
theorem Yl5{a:Nat}(h:a<18446744073709551616):nl a<=2:=nl_le.2 (by omega)
def numWC:Ctr:={ alias:=false,of:=fun l=>match l with
 | [.int .i64 n]=> .pre (0<=n/\n<=9223372036854775807) (.fin (natS false n.toNat) [])
 |_=>noC}
def addWC:Ctr:={ alias:=false,of:=fun l=>match l with
 | [.vs _ z n sz get,.vs _ z' m sz' get']=> .ex Nat fun a=> .ex Nat fun b=> .pre (okW a n sz get/\okW b m sz' get') (.all Bool fun y=> .fin (natS y (addW a b)) [])
 |_=>noC}
def timesWC:Ctr:={ alias:=false,of:=fun l=>match l with
 | [.vs _ z n sz get,.vs _ z' m sz' get']=> .ex Nat fun a=> .ex Nat fun b=> .pre (okW a n sz get/\okW b m sz' get') (.all Bool fun y=> .fin (natS y (mulW a b)) [])
 |_=>noC}
def aboveC:Ctr:={ alias:=false,of:=fun l=>match l with
 | [.vs _ z n sz get,.vs _ z' m sz' get']=> .ex Nat fun a=> .ex Nat fun b=> .pre (okW a n sz get/\okW b m sz' get') (.fin (.bool (decide (b<a))) [])
 |_=>noC}
def movC:Ctr:={ alias:=false,of:=fun l=>match l with
 | [.vs _ z n sz get,.int .i64 d,.bool up]=> .ex Nat fun a=> .pre (okW a n sz get/\ -20000<=d/\d<=20000) (.all Bool fun y=> .fin (natS y (movW a d up)) [])
 |_=>noC}
def RA0:Env:={ ct:=fun n=>match n with|138=>some ofC|136=>some wAddC|137=>some wMulC|123=>some wCmpC|148=>some wShiftC|_=>none,fn:=fun _=>none,meth:=fun _ _=>none}
theorem Yp9:RA0.ct 138=some ofC:=rfl
theorem Yp7:RA0.ct 136=some wAddC:=rfl
theorem Yp8:RA0.ct 137=some wMulC:=rfl
theorem Yp6:RA0.ct 123=some wCmpC:=rfl
theorem Ynz:Yl YGY RA0:=by
 refine⟨fun f c h=>?_,fun f vf h=>?_,(fun _ _ _ h=>by cases h),by kernel_rfl,(fun _ h=>by cases h)⟩
 . simp only[RA0]at h
   split at h
   . cases h;exact⟨YGN,Tryz.f138,Tryz.func138,by kernel_rfl,by kernel_rfl⟩
   . cases h;exact⟨YBG,Tryz.f136,Tryz.func136,by kernel_rfl,by kernel_rfl⟩
   . cases h;exact⟨YBI,Tryz.f137,Tryz.func137,by kernel_rfl,by kernel_rfl⟩
   . cases h;exact⟨YBH,Tryz.f123,Tryz.func123,by kernel_rfl,by kernel_rfl⟩
   . cases h;exact⟨YmB,Tryz.f148,Tryz.func148,by kernel_rfl,by kernel_rfl⟩
   . cases h
 . cases h
theorem Ym9:numWC.ok YGY 122:=by
 refine Yb Tryz.func122 YA3 Ynz 200 numWC fun args k h=>?_
 simp only[numWC]at h
 split at h
 . rename_i n
   obtain⟨⟨h0,h1⟩,h⟩:=h
   refine⟨[.int .i64 n],by simp [leL,le],?_⟩
   dsimp only[v122,Yp9,ofC,natS,go_sem,reduceIte,YGU]
   simp only[Yc,YGU,YGW,reduceCtorEq,YGV]
   rw[YHt _ (by omega)]
   exact⟨⟨h0,by omega⟩,Yel (t:=true) h⟩
 . exact h.1.elim
theorem YqT:addWC.ok YGY 120:=by
 refine Yb Tryz.func120 YA1 Ynz 200 addWC fun args k h=>?_
 simp only[addWC]at h
 split at h
 . rename_i t1 z1 n sz get t2 z2 m sz' get'
   obtain⟨a,b,⟨⟨⟨rfl,hn,ha,hg⟩,hna,hn5⟩,⟨rfl,hm,hb,hg'⟩,hmb,hm5⟩,h⟩:=h
   refine⟨[.vs t1 z1 n 1 (fun k=>[.int .u32 (dig a k)]),.vs t2 z2 m 1 (fun k=>[.int .u32 (dig b k)])],⟨by simpa [le]using hg,by simpa [le]using hg',trivial⟩,?_⟩
   dsimp only[v120,Yp7,wAddC,natS,go_sem,reduceIte,YGU]
   simp only[Yc,YGU,YGW,reduceCtorEq,YGV]
   subst hna hmb
   exact⟨a,b,⟨Yn hn5,Yn hm5⟩,fun y=>⟨by decide,by decide,Yel (t:=true) (h y)⟩⟩
 . exact h.1.elim
theorem Yw6:timesWC.ok YGY 121:=by
 refine Yb Tryz.func121 YA2 Ynz 200 timesWC fun args k h=>?_
 simp only[timesWC]at h
 split at h
 . rename_i t1 z1 n sz get t2 z2 m sz' get'
   obtain⟨a,b,⟨⟨⟨rfl,hn,ha,hg⟩,hna,hn5⟩,⟨rfl,hm,hb,hg'⟩,hmb,hm5⟩,h⟩:=h
   refine⟨[.vs t1 z1 n 1 (fun k=>[.int .u32 (dig a k)]),.vs t2 z2 m 1 (fun k=>[.int .u32 (dig b k)])],⟨by simpa [le]using hg,by simpa [le]using hg',trivial⟩,?_⟩
   dsimp only[v121,Yp8,wMulC,natS,go_sem,reduceIte,YGU]
   simp only[Yc,YGU,YGW,reduceCtorEq,YGV]
   subst hna hmb
   exact⟨a,b,⟨Yn hn5,Yn hm5⟩,fun y=>⟨by decide,by decide,Yel (t:=true) (h y)⟩⟩
 . exact h.1.elim
theorem YmG:aboveC.ok YGY 105:=by
 refine Yb Tryz.func105 YAM Ynz 200 aboveC fun args k h=>?_
 simp only[aboveC]at h
 split at h
 . rename_i t1 z1 n sz get t2 z2 m sz' get'
   obtain⟨a,b,⟨⟨⟨rfl,hn,ha,hg⟩,hna,hn5⟩,⟨rfl,hm,hb,hg'⟩,hmb,hm5⟩,h⟩:=h
   refine⟨[.vs t1 z1 n 1 (fun k=>[.int .u32 (dig a k)]),.vs t2 z2 m 1 (fun k=>[.int .u32 (dig b k)])],⟨by simpa [le]using hg,by simpa [le]using hg',trivial⟩,?_⟩
   dsimp only[v105,Yp6,wCmpC,natS,go_sem,reduceIte,YGU]
   simp only[Yc,YGU,YGW,reduceCtorEq,YGV]
   subst hna hmb
   have e:decide (0<ordN a b)=decide (b<a):=by
     unfold ordN
     by_cases h1:a<b
     . rw[if_pos h1,decide_eq_false (by omega:¬b<a)];rfl
     . rw[if_neg h1]
       by_cases h2:b<a
       . rw[if_pos h2,decide_eq_true h2];rfl
       . rw[if_neg h2,decide_eq_false h2];rfl
   refine⟨a,b,⟨Yn hn5,Yn hm5⟩,by decide,by decide,?_⟩
   rw[e]
   exact Yx h
 . exact h.1.elim
def RA1:Env:={ ct:=fun n=>match n with|148=>some wShiftC|105=>some aboveC|120=>some addWC|122=>some numWC|_=>none,fn:=fun _=>none,meth:=fun _ _=>none}
theorem Yqd:RA1.ct 148=some wShiftC:=rfl
theorem Yqa:RA1.ct 105=some aboveC:=rfl
theorem Yqb:RA1.ct 120=some addWC:=rfl
theorem Yqc:RA1.ct 122=some numWC:=rfl
theorem YBS:Yl YGY RA1:=by
 refine⟨fun f c h=>?_,fun f vf h=>?_,(fun _ _ _ h=>by cases h),by kernel_rfl,(fun _ h=>by cases h)⟩
 . simp only[RA1]at h
   split at h
   . cases h;exact⟨YmB,Tryz.f148,Tryz.func148,by kernel_rfl,by kernel_rfl⟩
   . cases h;exact⟨YmG,Tryz.f105,Tryz.func105,by kernel_rfl,by kernel_rfl⟩
   . cases h;exact⟨YqT,Tryz.f120,Tryz.func120,by kernel_rfl,by kernel_rfl⟩
   . cases h;exact⟨Ym9,Tryz.f122,Tryz.func122,by kernel_rfl,by kernel_rfl⟩
   . cases h
 . cases h
theorem mov_c:movC.ok YGY 135:=by
 refine Yb Tryz.func135 YBe YBS 300 movC fun args k h=>?_
 simp only[movC]at h
 split at h
 . rename_i t1 z1 n sz get d up
   obtain⟨a,⟨⟨⟨rfl,hn,ha,hg⟩,hna,hn5⟩,hd0,hd1⟩,h⟩:=h
   refine⟨[.vs t1 z1 n 1 (fun k=>[.int .u32 (dig a k)]),.int .i64 d,.bool up],⟨by simpa [le]using hg,⟨rfl,rfl⟩,rfl,trivial⟩,?_⟩
   dsimp only[v135,Yqd,Yqa,Yqb,Yqc,wShiftC,aboveC,addWC,numWC,natS,go_sem,reduceIte,YGU]
   simp only[Yc,YGU,YGW,reduceCtorEq,YGV]
   subst hna
   have hneg:IntKind.i64.wrap (0-d)= -d:=by rw[YGZ _ (by omega)];omega
   rw[hneg]
   have h1:nl 1<=512:=by have:= @Yl5 1 (by decide);omega
   refine⟨a,⟨Yn hn5,hd0,hd1⟩,fun y=>⟨by decide,by decide,capF (shF a d),⟨Yn (YfY _),by omega,by omega⟩,by decide,by decide,a,capF (shF (capF (shF a d)) (-d)),fun _=>⟨Yn hn5,Yn (YfY _)⟩,fun hc=>⟨by decide,capF (shF a d),1,⟨Yn (YfY _),Yn h1⟩,fun z=>?_⟩,fun hc=>?_⟩⟩
   . have h:k (natS z (movW a d up)) []:=h z
     rw[movW,if_pos hc]at h
     exact Yel (t:=true) h
   . have h:k (natS y (movW a d up)) []:=h y
     rw[movW,if_neg (by rw[hc];decide)]at h
     exact Yel (t:=true) h
 . exact h.1.elim
def YaY(n:Int):Bool:=decide (bitI .and .i64 n (IntKind.i64.wrap (n-1))=0)
def logL(two:Nat)(deep:Int):Nat->Nat->Nat->Nat->Nat×Nat
 |0,_,_,sum=>(sum,addW sum 1)
 |f+1,a,b,sum=>
   let a1:=movW (mulW a a) (-deep) false
   let b1:=movW (mulW b b) (-deep) true
   if a1<two then
     if b1<two then logL two deep f a1 b1 (addW (movW sum 1 false) 0)
     else(movW sum ((f+1:Nat):Int) false,movW (addW sum 1) ((f+1:Nat):Int) false)
   else logL two deep f (movW a1 (-1) false) (movW b1 (-1) true) (addW (movW sum 1 false) 1)
def logF(n:Int)(p:Nat):Nat×Nat:=
 let k:=Yq n.toNat-1
 if YaY n=true then(movW k p false,movW k p false)
 else
   let deep:Int:=((2*p+64:Nat):Int)
   let a:=movW n.toNat (deep-k) false
   logL (movW 2 deep false) deep p a a k
theorem Ym4{two:Nat}{deep:Int}:∀(f a b sum:Nat),nl sum<=512->nl (logL two deep f a b sum).1<=512/\nl (logL two deep f a b sum).2<=512
 |0,_,_,sum,h=>⟨h,Ycn _ _⟩
 |f+1,a,b,sum,h=>by
   rw[logL]
   split
   . split
     . exact Ym4 f _ _ _ (Ycn _ _)
     . exact⟨YbB sum _ false,YbB (addW sum 1) _ false⟩
   . exact Ym4 f _ _ _ (Ycn _ _)
theorem Yzw(n:Int)(p:Nat)(hn:n<=9223372036854775807):nl (logF n p).1<=512/\nl (logF n p).2<=512:=by
 rw[logF]
 by_cases hb:YaY n=true
 . rw[if_pos hb];exact⟨YbB (Yq n.toNat-1) p false,YbB (Yq n.toNat-1) p false⟩
 . rw[if_neg hb]
   refine Ym4 _ _ _ _ ?_
   have h1:Yq n.toNat<=64:=bitsN_le.2 (by have:(2:Nat)^64=18446744073709551616:=rfl;omega)
   have:= @Yl5 (Yq n.toNat-1) (by omega)
   omega
structure LSt where
 i:Nat
 a:Nat
 b:Nat
 s:Nat
 za:Bool
 zb:Bool
 zs:Bool
theorem Yq1{k:SV->List HO->Prop}{al:Bool}{hp:List HO}{y z:Bool}{a b:Nat}(h:k (.tup [natS y a,natS z b]) []):Yy al k (.tup [natS y a,natS z b]) hp:=
 YD (show k _ []from h) (Yw _ ⟨trivial,trivial,trivial⟩) (fun _=>by simp [natS,Yj,Yk])
def logC:Ctr:={ alias:=false,of:=fun l=>match l with
 | [.int .i64 n,.int .i64 p]=> .ex Nat fun q=> .pre (1<=n/\n<=9223372036854775807/\p=q/\q<=2048) (.all Bool fun y=> .all Bool fun z=> .fin (.tup [natS y (logF n q).1,natS z (logF n q).2]) [])
 |_=>noC}
def RA2:Env:={ ct:=fun n=>match n with|132=>some len64C|105=>some aboveC|120=>some addWC|121=>some timesWC|122=>some numWC|135=>some movC|_=>none,fn:=fun _=>none,meth:=fun _ _=>none}
theorem YkW:RA2.ct 132=some len64C:=rfl
theorem YkS:RA2.ct 105=some aboveC:=rfl
theorem YkT:RA2.ct 120=some addWC:=rfl
theorem YkU:RA2.ct 121=some timesWC:=rfl
theorem YkV:RA2.ct 122=some numWC:=rfl
theorem YkX:RA2.ct 135=some movC:=rfl
theorem YBT:Yl YGY RA2:=by
 refine⟨fun f c h=>?_,fun f vf h=>?_,(fun _ _ _ h=>by cases h),by kernel_rfl,(fun _ h=>by cases h)⟩
 . simp only[RA2]at h
   split at h
   . cases h;exact⟨Yki,Tryz.f132,Tryz.func132,by kernel_rfl,by kernel_rfl⟩
   . cases h;exact⟨YmG,Tryz.f105,Tryz.func105,by kernel_rfl,by kernel_rfl⟩
   . cases h;exact⟨YqT,Tryz.f120,Tryz.func120,by kernel_rfl,by kernel_rfl⟩
   . cases h;exact⟨Yw6,Tryz.f121,Tryz.func121,by kernel_rfl,by kernel_rfl⟩
   . cases h;exact⟨Ym9,Tryz.f122,Tryz.func122,by kernel_rfl,by kernel_rfl⟩
   . cases h;exact⟨mov_c,Tryz.f135,Tryz.func135,by kernel_rfl,by kernel_rfl⟩
   . cases h
 . cases h
theorem log_c:logC.ok YGY 119:=by
 refine Yb Tryz.func119 YA0 YBT 600 logC fun args k h=>?_
 simp only[logC]at h
 split at h
 . rename_i n p'
   obtain⟨p,⟨hn0,hn1,rfl,hp⟩,h⟩:=h
   refine⟨[.int .i64 n,.int .i64 p],by simp [leL,le],?_⟩
   dsimp only[v119,YkW,YkS,YkT,YkV,YkX,YkU,len64C,aboveC,addWC,numWC,timesWC,movC,natS,go_sem,reduceIte,YGU]
   simp only[Yc,YGU,YGW,reduceCtorEq,YGV]
   have hb1:Yq n.toNat<=64:=bitsN_le.2 (by have:(2:Nat)^64=18446744073709551616:=rfl;omega)
   have hb0:Yq n.toNat≠0:=fun e=>by have:=bitsN_eq0.1 e;omega
   obtain⟨K,hK⟩:∃K,K=Yq n.toNat-1:=⟨_,rfl⟩
   have eu:IntKind.u64.wrap n=n:=YHt _ (by omega)
   have ek:IntKind.i64.wrap ((Yq n.toNat:Int)-1)=(K:Int):=by rw[hK,YGZ _ (by omega)];omega
   have ed:IntKind.i64.wrap (IntKind.i64.wrap (2*(p:Int))+64)=((2*p+64:Nat):Int):=by rw[YGZ (2*(p:Int)) (by omega),YGZ _ (by omega)];omega
   obtain⟨D,hD⟩:∃D:Int,D=((2*p+64:Nat):Int):=⟨_,rfl⟩
   have edk:IntKind.i64.wrap (D-(K:Int))=D-(K:Int):=YGZ _ (by omega)
   rw[eu,ek,ed,<-hD,edk,YG0]
   have hKw:nl K<=512:=by have:= @Yl5 K (by omega);omega
   have hnw:nl n.toNat<=512:=by have:= @Yl5 n.toNat (by omega);omega
   have h2w:nl 2<=512:=by have:= @Yl5 2 (by decide);omega
   refine⟨by omega,by omega,K,⟨Yn hKw,by omega,by omega⟩,fun y=>⟨fun hc=>?_,fun hc=>⟨by omega,n.toNat,⟨Yn hnw,by omega,by omega⟩,fun z=>⟨by decide,2,⟨Yn h2w,by omega,by omega⟩,fun z2=>⟨by omega,?_⟩⟩⟩⟩⟩
   . have h:k (.tup [natS y (logF n p).1,natS y (logF n p).2]) []:=h y y
     have e:logF n p=(movW K p false,movW K p false):=by rw[logF,if_pos (show YaY n=true from decide_eq_true hc),hK]
     rw[e]at h
     exact Yq1 h
   . have e:logF n p=logL (movW 2 D false) D p (movW n.toNat (D-K) false) (movW n.toNat (D-K) false) K:=by rw[logF,if_neg (show¬YaY n=true from fun hh=>hc (of_decide_eq_true hh)),hK,hD]
     rw[e]at h
     generalize hA:movW n.toNat (D-(K:Int)) false=A at h⊢
     have hA5:nl A<=512:=by rw[<-hA];exact YbB _ _ _
     generalize hT:movW 2 D false=T at h⊢
     have hT5:nl T<=512:=by rw[<-hT];exact YbB _ _ _
     refine Loop.keep [1,6,2] LSt (fun x=>[(9,natS x.za x.a),(10,natS x.zb x.b),(12,natS x.zs x.s),(13,.int .i64 x.i)]) (fun _=>[]) [] (fun x=>x.i<=p/\logL T D p A A K=logL T D (p-x.i) x.a x.b x.s/\nl x.a<=512/\nl x.b<=512/\nl x.s<=512) (fun x=>p-x.i) ?_ ?_
     . refine⟨⟨0,A,A,K,z,z,false⟩,⟨by simp only;omega,rfl,hA5,hA5,hKw⟩,?_⟩
       dsimp only[natS,go_sem,reduceIte,YGU]
       simp only[Ya]
       try simp
     . rintro⟨i,a,b,S,za,zb,zs⟩ ⟨hi,he,ha5,hb5,hs5⟩
       dsimp only at hi he ha5 hb5 hs5
       dsimp only[YkW,YkS,YkT,YkV,YkX,YkU,len64C,aboveC,addWC,numWC,timesWC,movC,natS,go_sem,reduceIte,YGU]
       simp only[Yc,YGU,YGW,reduceCtorEq,YGV]
       have eD:IntKind.i64.wrap (0-D)= -D:=by rw[YGZ _ (by omega)];omega
       have ei:IntKind.i64.wrap ((p:Int)-(i:Int))=((p-i:Nat):Int):=by rw[YGZ _ (by omega)];omega
       have h1w:nl 1<=512:=by have:= @Yl5 1 (by decide);omega
       have h0w:nl 0<=512:=by rw[nl_0];omega
       rw[eD,ei]
       refine⟨fun hlt=>?_,fun hge=>⟨by decide,S,1,⟨Yn hs5,Yn h1w⟩,fun y=>?_⟩⟩
       . obtain⟨q,hq⟩:∃q,p-i=q+1:=⟨p-i-1,by omega⟩
         rw[hq,logL]at he
         obtain⟨a1,ha1⟩:∃a1,a1=movW (mulW a a) (-D) false:=⟨_,rfl⟩
         obtain⟨b1,hb1⟩:∃b1,b1=movW (mulW b b) (-D) true:=⟨_,rfl⟩
         have ha15:nl a1<=512:=by rw[ha1];exact YbB _ _ _
         have hb15:nl b1<=512:=by rw[hb1];exact YbB _ _ _
         rw[<-ha1,<-hb1]at he
         refine⟨a,a,⟨Yn ha5,Yn ha5⟩,fun _=>⟨mulW a a,⟨Yn (Yf8 _ _),by omega,by omega⟩,fun y1=>⟨b,b,⟨Yn hb5,Yn hb5⟩,fun _=>⟨mulW b b,⟨Yn (Yf8 _ _),by omega,by omega⟩,fun y2=>?_⟩⟩⟩⟩
         rw[<-ha1,<-hb1]
         refine⟨T,a1,⟨Yn hT5,Yn ha15⟩,fun hc=>?_,fun hc=>⟨T,b1,⟨Yn hT5,Yn hb15⟩,fun hd=>?_,fun hd=>?_⟩⟩
         . rw[if_neg hc]at he
           refine⟨a1,⟨Yn ha15,by decide,by decide⟩,fun y3=>⟨b1,⟨Yn hb15,by decide,by decide⟩,fun y4=>⟨S,⟨Yn hs5,by decide,by decide⟩,fun _=>⟨by decide,movW S 1 false,1,⟨Yn (YbB _ _ _),Yn h1w⟩,fun y5=>?_⟩⟩⟩⟩
           refine⟨⟨i+1,movW a1 (-1) false,movW b1 (-1) true,addW (movW S 1 false) 1,y3,y4,y5⟩,⟨by simp only;omega,?_,YbB a1 (-1) false,YbB b1 (-1) true,Ycn (movW S 1 false) 1⟩,by simp only;omega,?_⟩
           . rw[show p-(i+1)=q by omega];exact he
           . rw[YGZ ((i:Int)+1) (by omega)]
             simp only[Ya]
             simp
         . rw[if_pos hc,if_neg hd]at he
           refine⟨S,⟨Yn hs5,by omega,by omega⟩,fun y3=>⟨by decide,S,1,⟨Yn hs5,Yn h1w⟩,addW S 1,⟨Yn (Ycn _ _),by omega,by omega⟩,fun y4=>?_⟩⟩
           have h:k (.tup [natS y3 (logL T D p A A K).1,natS y4 (logL T D p A A K).2]) []:=h y3 y4
           rw[he]at h
           rw[hq]
           exact Yq1 h
         . rw[if_pos hc,if_pos hd]at he
           refine⟨S,⟨Yn hs5,by decide,by decide⟩,fun _=>⟨by decide,movW S 1 false,0,⟨Yn (YbB _ _ _),Yn h0w⟩,fun y5=>?_⟩⟩
           refine⟨⟨i+1,a1,b1,addW (movW S 1 false) 0,y1,y2,y5⟩,⟨by simp only;omega,?_,ha15,hb15,Ycn (movW S 1 false) 0⟩,by simp only;omega,?_⟩
           . rw[show p-(i+1)=q by omega];exact he
           . rw[YGZ ((i:Int)+1) (by omega)]
             simp only[Ya]
             simp
       . have h:k (.tup [natS zs (logL T D p A A K).1,natS y (logL T D p A A K).2]) []:=h zs y
         rw[he,show p-i=0 by omega,logL]at h
         exact Yq1 h
 . exact h.1.elim
def v114:VF:=⟨12,[.tmp 4],(ZR [Zi 4 0] (.seq (.block 0 (.loop (.seq (ZR [Zm 5 1,Zq 6 .neq 5 0] (ZC 6 .skip (.exit 0))) (.block 1 (.draw [] [Zu 7 1,Zu 8 0,Zu 9 1,w1 10 .rem [.tm 8,.tm 9],Zu 0 7,Zu 1 10]))))) (ZR [Zm 11 0,Zm 4 11] .ret)))⟩
theorem YAV:Yf YGY Tryz.f114=some v114:=by kernel_rfl
def v104:VF:=⟨58,[.cell 4 true 2,.cell 5 true 2],(ZR [u1 4 (.alloc [.nil,.nil]) [],u1 5 (.alloc [.nil,.nil]) []] (.seq (ZR [Zm 12 0,Zl 13 12,Zi 14 0] (.block 0 (.loop (ZR [Zr 15 .lss 14 13] (.seq (ZC 15 .skip (.exit 0)) (.seq (.block 1 (ZR [Zx 16 2 12 14,Zt 17 2 16,Zn 7,Zs 2 7 17] (ZR [Za 19 0 7,Zf 20 1 19,Zm 21 1,Zd 22 119 20 21,Zm 18 22,Ze 23 0 18,Ze 24 1 18,Zm 8 23,Zm 9 24] (.seq (.draw [] [Zy 25 1 7,Zv 26 1 25,Zu 10 4,Zu 11 26]) (.seq (ZR [Zm 27 11,Zq 28 .lss 27 0] (ZC 28 (.region [Zm 29 11,u1 30 .neg [.tm 29],Zm 10 5,Zm 11 30]) .skip)) (.draw [] [Zu 31 10,Zu 32 10,Zu 33 10,w1 34 .nilCheck [.tm 33],Zy 35 0 34,Zv 36 1 35,Zu 37 8,Zu 38 11,Zu 42 10,w1 43 .nilCheck [.tm 42],Zy 44 1 43,Zv 45 1 44,Zu 46 9,Zu 47 11,w1 39 (.call 122) [.tm 38],Zz 40 121 37 39,Zz 41 120 36 40,w1 48 (.call 122) [.tm 47],Zz 49 121 46 48,Zz 50 120 45 49,w1 51 .nilCheck [.tm 31],Zy 52 0 51,ZS 1 52 41,w1 53 .nilCheck [.tm 32],Zy 54 1 53,ZS 1 54 50])))))) (.region [Zp 55 14 1,Zm 14 55]))))))) (ZR [Zt 56 2 4,Zt 57 2 5,Zs 2 4 56,Zs 2 5 57] .ret)))⟩
theorem YAL:Yf YGY Tryz.f104=some v104:=by kernel_rfl
def gcdC:Ctr:={ alias:=false,of:=fun l=>match l with
 | [.int .i64 a,.int .i64 b]=> .ex Nat fun x=> .ex Nat fun y=> .pre (a=x/\b=y/\x<=9223372036854775807/\y<=9223372036854775807) (.fin (.int .i64 (YH6 x y)) [])
 |_=>noC}
def RA3:Env:={ ct:=fun _=>none,fn:=fun _=>none,meth:=fun _ _=>none}
theorem YBU:Yl YGY RA3:=by
 refine⟨fun f c h=>?_,fun f vf h=>?_,(fun _ _ _ h=>by cases h),by kernel_rfl,(fun _ h=>by cases h)⟩
 . cases h
 . cases h
theorem Yy1:gcdC.ok YGY 114:=by
 refine Yb Tryz.func114 YAV YBU 100 gcdC fun args k h=>?_
 simp only[gcdC]at h
 split at h
 . rename_i a b
   obtain⟨x,y,⟨rfl,rfl,hx,hy⟩,h⟩:=h
   refine⟨[.int .i64 x,.int .i64 y],by simp [leL,le],?_⟩
   dsimp only[v114,go_sem,reduceIte,YGU]
   simp only[Yc,YGU,YGW,reduceCtorEq,YGV]
   refine Loop.keep [] (Nat×Nat) (fun s=>[(0,.int .i64 s.1),(1,.int .i64 s.2)]) (fun _=>[]) [] (fun s=>YH6 s.1 s.2=YH6 x y/\s.1<=9223372036854775807/\s.2<=9223372036854775807) (fun s=>s.2) ?_ ?_
   . refine⟨(x,y),⟨rfl,hx,hy⟩,?_⟩
     dsimp only[go_sem,reduceIte,YGU]
     simp only[Ya]
   . rintro⟨p,q⟩ ⟨he,hp,hq⟩
     dsimp only at he hp hq
     dsimp only[go_sem,reduceIte,YGU]
     simp only[Yc,YGU,YGW,reduceCtorEq,YGV]
     refine⟨fun hc=>⟨hc,(q,p%q),⟨?_,by simp only;omega,?_⟩,?_,?_⟩,fun hc=>Yi ?_⟩
     . rw[<-he,Nat.gcd_comm p q]
       show YH6 q (p%q)=YH6 q p
       rw[Nat.gcd_comm q (p%q),<-Nat.gcd_rec]
     . have:=YHT p (by omega:0<q)
       simp only;omega
     . exact YHT p (by omega:0<q)
     . have e:(p:Int).tmod q=((p%q:Nat):Int):=IntWalk.up_tmod rfl rfl
       rw[e]
       simp only[Ya]
     . obtain rfl:q=0:=by omega
       rw[Nat.gcd_zero_right]at he
       rw[he];exact h
 . exact h.1.elim
structure Bnd where
 ul:Nat
 uh:Nat
 dl:Nat
 dh:Nat
def Yeh(p:Nat)(s:Bnd)(x:Int×Int):Bnd:=
 if x.2<0 then { s with dl:=addW s.dl (mulW (logF x.1 p).1 (-x.2).toNat),dh:=addW s.dh (mulW (logF x.1 p).2 (-x.2).toNat)}
 else { s with ul:=addW s.ul (mulW (logF x.1 p).1 x.2.toNat),uh:=addW s.uh (mulW (logF x.1 p).2 x.2.toNat)}
def YcK(l:List (Int×Int))(p:Nat):Bnd:=l.foldl (Yeh p) ⟨0,0,0,0⟩
def okT(x:Int×Int):Prop:=1<=x.1/\x.1<=1000000000001/\ -9000000000000000000<=x.2/\x.2<=9000000000000000000
def Bnd.ok(s:Bnd):Prop:=nl s.ul<=512/\nl s.uh<=512/\nl s.dl<=512/\nl s.dh<=512
theorem YkK(p:Nat)(s:Bnd)(x:Int×Int)(h:s.ok):(Yeh p s x).ok:=by
 obtain⟨h1,h2,h3,h4⟩:=h
 unfold Yeh
 split
 . exact⟨h1,h2,Ycn _ _,Ycn _ _⟩
 . exact⟨Ycn _ _,Ycn _ _,h3,h4⟩
def sumsC:Ctr:={ alias:=false,of:=fun l=>match l with
 | [.vs _ _ n sz get,.int .i64 p]=> .ex (List (Int×Int)) fun l=> .ex Nat fun q=> .pre (lsP 2 enc2 n sz get l/\(∀x,x∈l->okT x)/\n<=100/\p=q/\q<=2048)
     (.all Bool fun y1=> .all Bool fun y2=> .all Bool fun y3=> .all Bool fun y4=> .fin (.tup [.agg [natS y1 (YcK l q).ul,natS y2 (YcK l q).uh],.agg [natS y3 (YcK l q).dl,natS y4 (YcK l q).dh]]) [])
 |_=>noC}
def RA4:Env:={ ct:=fun n=>match n with|120=>some addWC|121=>some timesWC|122=>some numWC|119=>some logC|_=>none,fn:=fun _=>none,meth:=fun _ _=>none}
theorem Yqf:RA4.ct 120=some addWC:=rfl
theorem Yqg:RA4.ct 121=some timesWC:=rfl
theorem Yqh:RA4.ct 122=some numWC:=rfl
theorem Yqe:RA4.ct 119=some logC:=rfl
theorem YBV:Yl YGY RA4:=by
 refine⟨fun f c h=>?_,fun f vf h=>?_,(fun _ _ _ h=>by cases h),by kernel_rfl,(fun _ h=>by cases h)⟩
 . simp only[RA4]at h
   split at h
   . cases h;exact⟨YqT,Tryz.f120,Tryz.func120,by kernel_rfl,by kernel_rfl⟩
   . cases h;exact⟨Yw6,Tryz.f121,Tryz.func121,by kernel_rfl,by kernel_rfl⟩
   . cases h;exact⟨Ym9,Tryz.f122,Tryz.func122,by kernel_rfl,by kernel_rfl⟩
   . cases h;exact⟨log_c,Tryz.f119,Tryz.func119,by kernel_rfl,by kernel_rfl⟩
   . cases h
 . cases h
structure SSt where
 i:Nat
 b:Bnd
 y1:Bool
 y2:Bool
 y3:Bool
 y4:Bool
theorem YFC:sumsC.ok YGY 104:=by
 refine Yb Tryz.func104 YAL YBV 500 sumsC fun args k h=>?_
 simp only[sumsC]at h
 split at h
 . rename_i tt z n sz get p'
   obtain⟨l,p,⟨⟨rfl,rfl,hg⟩,hl,hn,rfl,hp⟩,h⟩:=h
   refine⟨[.vs tt z l.length 2 (fun k=>enc2 (l.getD k default)),.int .i64 p],⟨⟨id,rfl,rfl,rfl,hg⟩,⟨rfl,rfl⟩,trivial⟩,?_⟩
   dsimp only[v104,enc2,go_sem,reduceIte,YGU]
   simp only[Yc,YGU,YGW,reduceCtorEq,YGV]
   refine Loop.keep [0,0,2,0,6,0] SSt (fun s=>[(14,.int .i64 s.i)]) (fun s=>[(0,.box [natS s.y1 s.b.ul,natS s.y2 s.b.uh]),(1,.box [natS s.y3 s.b.dl,natS s.y4 s.b.dh])]) [] (fun s=>s.i<=l.length/\s.b=(l.take s.i).foldl (Yeh p) ⟨0,0,0,0⟩/\s.b.ok) (fun s=>l.length-s.i) ?_ ?_
   . refine⟨⟨0,⟨0,0,0,0⟩,true,true,true,true⟩,⟨by simp only;omega,rfl,by simp [Bnd.ok,nl_0]⟩,?_⟩
     dsimp only[natS,go_sem,reduceIte,YGU]
     simp only[Ya]
     simp [nl_0]
   . rintro⟨i,B,y1,y2,y3,y4⟩ ⟨hi,hB,hok⟩
     dsimp only at hi hB hok
     dsimp only[Yqe,Yqf,Yqh,Yqg,logC,addWC,numWC,timesWC,natS,enc2,YG0,go_sem,reduceIte,YGU]
     simp only[Yc,YGU,YGW,reduceCtorEq,YGV]
     refine⟨fun hlt=>?_,fun hge=>?_⟩
     . have hx:=hl _ (YI (by omega:i<l.length))
       generalize hxe:l.getD i default=x at hx⊢
       obtain⟨q0,q1,q2,q3⟩:=hx
       have hstep:(l.take (i+1)).foldl (Yeh p) ⟨0,0,0,0⟩=Yeh p B x:=by
         rw[YE (by omega),<-hB,hxe]
       obtain⟨g1,g2⟩:=Yzw x.1 p (by omega)
       obtain⟨o1,o2,o3,o4⟩:=hok
       refine⟨⟨by omega,by omega⟩,p,⟨q0,by omega,rfl,hp⟩,fun z1 z2=>⟨by decide,by decide,fun hc=>?_,fun hc=>?_⟩⟩
       . have en:IntKind.i64.wrap (0-x.2)= -x.2:=by rw[YGZ _ (by omega)];omega
         rw[en]
         have hnw:nl (-x.2).toNat<=512:=by have:= @Yl5 (-x.2).toNat (by omega);omega
         refine⟨⟨by omega,by omega⟩,(logF x.1 p).1,(-x.2).toNat,⟨Yn g1,Yn hnw⟩,fun _=>⟨B.dl,mulW (logF x.1 p).1 (-x.2).toNat,⟨Yn o3,Yn (Yf8 _ _)⟩,fun z3=>⟨⟨by omega,by omega⟩,(logF x.1 p).2,(-x.2).toNat,⟨Yn g2,Yn hnw⟩,fun _=>⟨B.dh,mulW (logF x.1 p).2 (-x.2).toNat,⟨Yn o4,Yn (Yf8 _ _)⟩,fun z4=>?_⟩⟩⟩⟩
         refine⟨⟨i+1,Yeh p B x,y1,y2,z3,z4⟩,⟨by simp only;omega,hstep.symm,YkK p B x ⟨o1,o2,o3,o4⟩⟩,by simp only;omega,?_⟩
         simp only[Yeh,if_pos hc]
         rw[YGZ ((i:Int)+1) (by omega)]
         simp only[Ya]
         exact⟨by decide,by decide,by simp⟩
       . have hnw:nl x.2.toNat<=512:=by have:= @Yl5 x.2.toNat (by omega);omega
         refine⟨⟨by omega,by omega⟩,(logF x.1 p).1,x.2.toNat,⟨Yn g1,Yn hnw⟩,fun _=>⟨B.ul,mulW (logF x.1 p).1 x.2.toNat,⟨Yn o1,Yn (Yf8 _ _)⟩,fun z3=>⟨⟨by omega,by omega⟩,(logF x.1 p).2,x.2.toNat,⟨Yn g2,Yn hnw⟩,fun _=>⟨B.uh,mulW (logF x.1 p).2 x.2.toNat,⟨Yn o2,Yn (Yf8 _ _)⟩,fun z4=>?_⟩⟩⟩⟩
         refine⟨⟨i+1,Yeh p B x,z3,z4,y3,y4⟩,⟨by simp only;omega,hstep.symm,YkK p B x ⟨o1,o2,o3,o4⟩⟩,by simp only;omega,?_⟩
         simp only[Yeh,if_neg hc]
         rw[YGZ ((i:Int)+1) (by omega)]
         simp only[Ya]
         exact⟨by decide,by decide,by simp⟩
     . obtain rfl:i=l.length:=by omega
       rw[List.take_length]at hB
       have h:k (.tup [.agg [natS y1 (YcK l p).ul,natS y2 (YcK l p).uh],.agg [natS y3 (YcK l p).dl,natS y4 (YcK l p).dh]]) []:=h y1 y2 y3 y4
       rw[YcK,<-hB]at h
       exact YD h (Yw _ ⟨⟨trivial,trivial,trivial⟩,⟨trivial,trivial,trivial⟩,trivial⟩) (fun _=>by simp [natS,Yj,Yk])
 . exact h.1.elim
def v117:VF:=⟨31,[.cell 6 true 2],(ZR [u1 3 .box [.tm 0],u1 6 (.alloc [(.int .u64 0),(.int .u64 0)]) []] (ZR [Zm 11 1,Zm 12 2,Zd 13 69 11 12,Zm 10 13,Ze 14 0 10,Ze 15 1 10,Zm 7 14,Zm 8 15] (ZR [Za 17 1 3,Zf 18 1 17,Zm 19 8,u1 20 .addc [.tm 18,.tm 19,.cn (.int .u64 0)],Zm 16 20,Ze 21 0 16,Ze 22 1 16,Zm 8 21,Zm 9 22] (ZR [Za 23 0 3,Zf 24 1 23,Zm 25 7,Zo 26 .add 24 25,Zm 27 9,Zo 28 .add 26 27,Zm 29 8,u1 30 (.build [(.int .u64 0),(.int .u64 0)] [(0,1),(1,1)]) [.tm 28,.tm 29],Zs 2 6 30] .ret))))⟩
theorem YAY:Yf YGY Tryz.f117=some v117:=by kernel_rfl
def v118:VF:=⟨24,[.tmp 4],(ZR [u1 2 .box [.tm 0],u1 3 .box [.tm 1],u1 4 .mov [.cn (.bool false)]] (ZR [Za 5 0 2,Zf 6 1 5,Za 7 0 3,Zf 8 1 7,Zr 9 .gtr 6 8,Zm 10 9,Zj 11 10 false 0 2,Zh 12 10 false 1 11,Zj 13 10 false 0 3,Zh 14 10 false 1 13,u2 15 10 false (.cmp .eql) [.tm 12,.tm 14],Zg 16 10 false 15,Zj 17 16 true 1 2,Zh 18 16 true 1 17,Zj 19 16 true 1 3,Zh 20 16 true 1 19,u2 21 16 true (.cmp .gtr) [.tm 18,.tm 20],u2 22 10 false .and [.tm 16,.tm 21],u1 23 .or [.tm 10,.tm 22],Zm 4 23] .ret))⟩
theorem YAZ:Yf YGY Tryz.f118=some v118:=by kernel_rfl
def v116:VF:=⟨100,[.tmp 2,.tmp 3],(ZR [u1 2 .mov [.cn (.int .u64 0)],u1 3 .mov [.cn (.int .u64 0)]] (ZR [Zm 15 0,u1 16 (.conv .u64) [.tm 15],Zc 17 132 16,u1 18 (.ari .sub) [.tm 17,.cn (.int .i64 1)],Zm 4 18] (ZR [Zm 19 4,u1 20 (.conv .u64) [.tm 19],Zm 5 20] (.seq (ZR [Zm 21 0,Zm 22 0,u1 23 (.ari .sub) [.tm 22,.cn (.int .i64 1)],u1 24 (.bit .and) [.tm 21,.tm 23],Zq 25 .eql 24 0] (ZC 25 (ZR [Zm 26 5,u1 27 .shl [.tm 26,.cn (.int .u64 28)],Zm 28 5,u1 29 .shl [.tm 28,.cn (.int .u64 28)],Zm 2 27,Zm 3 29] .ret) .skip)) (ZR [Zm 30 0,u1 31 (.conv .u64) [.tm 30],Zm 32 4,u1 33 (.ari .sub) [.cn (.int .i64 63),.tm 32],u1 34 .shl [.tm 31,.tm 33],Zm 6 34] (ZR [Zm 35 6,Zm 7 35] (.seq (ZR [Zi 36 0] (.block 0 (.loop (ZR [Zq 37 .lss 36 28] (.seq (ZC 37 .skip (.exit 0)) (.seq (.block 1 (ZR [Zm 38 36,Zm 8 38] (ZR [Zm 40 6,Zm 41 6,Zd 42 69 40 41,Zm 39 42,Ze 43 0 39,Ze 44 1 39,Zm 9 43,Zm 10 44] (ZR [Zm 46 7,Zm 47 7,Zd 48 69 46 47,Zm 45 48,Ze 49 0 45,Ze 50 1 45,Zm 11 49,Zm 12 50] (ZR [Zm 51 9,u1 52 .shr [.tm 51,.cn (.int .u64 63)],Zm 13 52] (ZR [Zm 53 13,Zm 54 11,u1 55 .shr [.tm 54,.cn (.int .u64 63)],Zr 56 .eql 53 55,Zm 14 56] (.seq (ZR [Zm 57 13,u1 58 (.cmp .eql) [.tm 57,.cn (.int .u64 0)]] (ZC 58 (.region [Zm 59 9,u1 60 .shl [.tm 59,.cn (.int .u64 1)],Zm 61 10,u1 62 .shr [.tm 61,.cn (.int .u64 63)],u1 63 (.bit .or) [.tm 60,.tm 62],Zm 64 11,u1 65 .shl [.tm 64,.cn (.int .u64 1)],Zm 66 12,u1 67 .shr [.tm 66,.cn (.int .u64 63)],u1 68 (.bit .or) [.tm 65,.tm 67],Zm 69 12,u1 70 .shl [.tm 69,.cn (.int .u64 1)],Zm 9 63,Zm 11 68,Zm 12 70]) .skip)) (.seq (ZR [Zm 71 12,u1 72 (.cmp .gtr) [.tm 71,.cn (.int .u64 0)]] (ZC 72 (.region [Zm 73 11,u1 74 (.ari .add) [.tm 73,.cn (.int .u64 1)],Zm 11 74]) .skip)) (.seq (ZR [Zm 75 14,u1 76 .not [.tm 75],Zm 77 76,Zg 78 77 false 11,u2 79 77 false (.cmp .eql) [.tm 78,.cn (.int .u64 0)],u1 80 .or [.tm 77,.tm 79]] (ZC 80 (.seq (.draw [] [Zu 81 5,Zu 82 8,w1 83 (.ari .sub) [.cn (.int .i64 28),.tm 82],w1 84 .shl [.tm 81,.tm 83],Zu 85 5,w1 86 (.ari .add) [.tm 85,.cn (.int .u64 1)],Zu 87 8,w1 88 (.ari .sub) [.cn (.int .i64 28),.tm 87],w1 89 .shl [.tm 86,.tm 88],Zu 2 84,Zu 3 89]) .ret) .skip)) (.region [Zm 90 9,Zm 91 11,Zm 92 5,u1 93 .shl [.tm 92,.cn (.int .u64 1)],Zm 94 13,u1 95 (.bit .or) [.tm 93,.tm 94],Zm 6 90,Zm 7 91,Zm 5 95])))))))))) (.region [Zp 96 36 1,Zm 36 96]))))))) (ZR [Zm 97 5,Zm 98 5,u1 99 (.ari .add) [.tm 98,.cn (.int .u64 1)],Zm 2 97,Zm 3 99] .ret))))))))⟩
theorem YAX:Yf YGY Tryz.f116=some v116:=by kernel_rfl
def YeN(a:Int×Int)(x y:Int):Int×Int:=
 (IntKind.u64.wrap (IntKind.u64.wrap (a.1+x*y/18446744073709551616)+(a.2+x*y%18446744073709551616)/18446744073709551616),(a.2+x*y%18446744073709551616)%18446744073709551616)
def Yil(a b:Int×Int):Bool:=decide (b.1<a.1) || (decide (a.1=b.1)&&decide (b.2<a.2))
def okL(a:Int×Int):Prop:=(0<=a.1/\a.1<=18446744073709551615)/\0<=a.2/\a.2<=18446744073709551615
def lpC:Ctr:={ alias:=false,of:=fun l=>match l with
 | [.agg [.int .u64 a,.int .u64 b],.int .u64 x,.int .u64 y]=> .pre (okL (a,b)/\(0<=x/\x<=18446744073709551615)/\0<=y/\y<=18446744073709551615) (.fin (.agg [.int .u64 (YeN (a,b) x y).1,.int .u64 (YeN (a,b) x y).2]) [])
 |_=>noC}
def loC:Ctr:={ alias:=false,of:=fun l=>match l with
 | [.agg [.int .u64 a,.int .u64 b],.agg [.int .u64 c,.int .u64 d]]=> .fin (.bool (Yil (a,b) (c,d))) []
 |_=>noC}
def RA5:Env:={ ct:=fun n=>match n with|69=>some mul64C|_=>none,fn:=fun _=>none,meth:=fun _ _=>none}
theorem Yuf:RA5.ct 69=some mul64C:=rfl
theorem YwC:Yl YGY RA5:=by
 refine⟨fun f c h=>?_,fun f vf h=>?_,(fun _ _ _ h=>by cases h),by kernel_rfl,(fun _ h=>by cases h)⟩
 . simp only[RA5]at h
   split at h
   . cases h;exact⟨YfE,Tryz.f69,Tryz.func69,by kernel_rfl,by kernel_rfl⟩
   . cases h
 . cases h
theorem lp_c:lpC.ok YGY 117:=by
 refine Yb Tryz.func117 YAY YwC 200 lpC fun args k h=>?_
 simp only[lpC]at h
 split at h
 . rename_i a b x y
   obtain⟨⟨⟨⟨a0,a1⟩,b0,b1⟩,hx,hy⟩,h⟩:=h
   refine⟨[.agg [.int .u64 a,.int .u64 b],.int .u64 x,.int .u64 y],by simp [leL,le],?_⟩
   dsimp only[v117,Yuf,mul64C,YyM,go_sem,reduceIte,YGU]
   simp only[Yc,YGU,YGW,reduceCtorEq,YGV]
   refine⟨⟨hx,hy⟩,by decide,by decide,⟨b0,Int.emod_nonneg _ (by decide),by decide,by decide⟩,by decide,by decide,?_⟩
   rw[Int.add_zero]
   exact YD (show k _ []from h) (Yw (.agg [.int .u64 (YeN (a,b) x y).1,.int .u64 (YeN (a,b) x y).2]) ⟨trivial,trivial,trivial⟩) (fun _=>by simp [Yj,Yk])
 . exact h.1.elim
theorem lo_c:loC.ok YGY 118:=by
 refine Yb Tryz.func118 YAZ YwC 200 loC fun args k h=>?_
 simp only[loC]at h
 split at h
 . rename_i a b c d
   refine⟨[.agg [.int .u64 a,.int .u64 b],.agg [.int .u64 c,.int .u64 d]],by simp [leL,le],?_⟩
   dsimp only[v118,go_sem,reduceIte,YGU]
   simp only[Yc,YGU,YGW,reduceCtorEq,YGV]
   exact⟨fun h1 h2=>by rw[decide_eq_false h1,decide_eq_true h2];rfl,Yx h⟩
 . exact h.1.elim
def RA6:Env:={ ct:=fun n=>match n with|132=>some len64C|69=>some mul64C|_=>none,fn:=fun _=>none,meth:=fun _ _=>none}
theorem YkY:RA6.ct 132=some len64C:=rfl
theorem YnA:RA6.ct 69=some mul64C:=rfl
theorem YBW:Yl YGY RA6:=by
 refine⟨fun f c h=>?_,fun f vf h=>?_,(fun _ _ _ h=>by cases h),by kernel_rfl,(fun _ h=>by cases h)⟩
 . simp only[RA6]at h
   split at h
   . cases h;exact⟨Yki,Tryz.f132,Tryz.func132,by kernel_rfl,by kernel_rfl⟩
   . cases h;exact⟨YfE,Tryz.f69,Tryz.func69,by kernel_rfl,by kernel_rfl⟩
   . cases h
 . cases h
abbrev hiW(a:Int):Int:=a*a/18446744073709551616
abbrev loW(a:Int):Int:=a*a%18446744073709551616
abbrev sr63(x:Int):Int:=x.fdiv (2^min (Int.toNat 63) 64)
abbrev sl1(x:Int):Int:=IntKind.u64.wrap (x*2^min (Int.toNat 1) 64)
abbrev dblW(x y:Int):Int:=bitI .or .u64 (sl1 x) (sr63 y)
abbrev shW(S:Int)(f:Nat):Int:=IntKind.u64.wrap (S*2^min f 64)
def YaU:Nat->Int->Int->Int->Int×Int
 |0,S,_,_=>(S,IntKind.u64.wrap (S+1))
 |f+1,S,a,b=>
   if sr63 (hiW a)=0 then
     if 0<sl1 (loW b)then
       if(!decide (sr63 (hiW a)=sr63 (hiW b)) || decide (IntKind.u64.wrap (dblW (hiW b) (loW b)+1)=0))=true then(shW S (f+1),shW (IntKind.u64.wrap (S+1)) (f+1))
       else YaU f (bitI .or .u64 (sl1 S) (sr63 (hiW a))) (dblW (hiW a) (loW a)) (IntKind.u64.wrap (dblW (hiW b) (loW b)+1))
     else
       if(!decide (sr63 (hiW a)=sr63 (hiW b)) || decide (dblW (hiW b) (loW b)=0))=true then(shW S (f+1),shW (IntKind.u64.wrap (S+1)) (f+1))
       else YaU f (bitI .or .u64 (sl1 S) (sr63 (hiW a))) (dblW (hiW a) (loW a)) (dblW (hiW b) (loW b))
   else
     if 0<loW b then
       if(!decide (sr63 (hiW a)=sr63 (hiW b)) || decide (IntKind.u64.wrap (hiW b+1)=0))=true then(shW S (f+1),shW (IntKind.u64.wrap (S+1)) (f+1))
       else YaU f (bitI .or .u64 (sl1 S) (sr63 (hiW a))) (hiW a) (IntKind.u64.wrap (hiW b+1))
     else
       if(!decide (sr63 (hiW a)=sr63 (hiW b)) || decide (hiW b=0))=true then(shW S (f+1),shW (IntKind.u64.wrap (S+1)) (f+1))
       else YaU f (bitI .or .u64 (sl1 S) (sr63 (hiW a))) (hiW a) (hiW b)
def Ybt(n:Int):Int×Int:=
 if YaY n=true then(IntKind.u64.wrap (((Yq n.toNat-1:Nat):Int)*2^min (Int.toNat 28) 64),IntKind.u64.wrap (((Yq n.toNat-1:Nat):Int)*2^min (Int.toNat 28) 64))
 else YaU 28 ((Yq n.toNat-1:Nat):Int) (shW n (63-(Yq n.toNat-1))) (shW n (63-(Yq n.toNat-1)))
theorem Yas(x:Int):0<=IntKind.u64.wrap x/\IntKind.u64.wrap x<=18446744073709551615:=by rw[Yno];omega
theorem YeV(x y:Int):0<=bitI .or .u64 x y/\bitI .or .u64 x y<=18446744073709551615:=Yas _
theorem Yr8{a:Int}(h0:0<=a)(h1:a<=18446744073709551615):0<=hiW a/\hiW a<=18446744073709551615:=by
 have h2:a*a<=18446744073709551615*18446744073709551615:=YaG h1 h1 h0 (by decide)
 have h3:0<=a*a:=YG7 h0 h0
 unfold hiW
 omega
def quickC:Ctr:={ alias:=false,of:=fun l=>match l with
 | [.int .i64 n]=> .pre (1<=n/\n<=4611686018427387904) (.fin (.tup [.int .u64 (Ybt n).1,.int .u64 (Ybt n).2]) [])
 |_=>noC}
theorem Yz1:quickC.ok YGY 116:=by
 refine Yb Tryz.func116 YAX YBW 400 quickC fun args k h=>?_
 simp only[quickC]at h
 split at h
 . rename_i n
   obtain⟨⟨n0,n1⟩,h⟩:=h
   refine⟨[.int .i64 n],by simp [leL,le],?_⟩
   dsimp only[v116,YkY,YnA,len64C,mul64C,go_sem,reduceIte,YGU]
   simp only[Yc,YGU,YGW,reduceCtorEq,YGV]
   have hb1:Yq n.toNat<=63:=bitsN_le.2 (by have:(2:Nat)^63=9223372036854775808:=rfl;omega)
   have hb0:Yq n.toNat≠0:=fun e=>by have:=bitsN_eq0.1 e;omega
   obtain⟨K,hK⟩:∃K,K=Yq n.toNat-1:=⟨_,rfl⟩
   have eu:IntKind.u64.wrap n=n:=YHt _ (by omega)
   have ek:IntKind.i64.wrap ((Yq n.toNat:Int)-1)=(K:Int):=by rw[hK,YGZ _ (by omega)];omega
   have ek2:IntKind.i64.wrap (63-(K:Int))=((63-K:Nat):Int):=by rw[YGZ _ (by omega)];omega
   have ek3:IntKind.u64.wrap (K:Int)=(K:Int):=YHt _ (by omega)
   rw[eu,ek,ek2,ek3]
   refine⟨by omega,fun hc=>⟨by decide,by decide,?_⟩,fun hc=>⟨by omega,?_⟩⟩
   . rw[Ybt,if_pos (show YaY n=true from decide_eq_true hc),<-hK]at h
     exact Yhi h
   . have e:Ybt n=YaU 28 K (shW n (63-K)) (shW n (63-K)):=by rw[Ybt,if_neg (show¬YaY n=true from fun hh=>hc (of_decide_eq_true hh)),<-hK]
     rw[e]at h
     rw[YG0]
     obtain⟨A,hA⟩:∃A,A=shW n (63-K):=⟨_,rfl⟩
     rw[<-hA]at h
     obtain⟨R,hR⟩:∃R,R=YaU 28 K A A:=⟨_,rfl⟩
     rw[<-hR]at h
     rw[show IntKind.u64.wrap (n*2^min (63-K) 64)=A from hA.symm]
     have hAr:0<=A/\A<=18446744073709551615:=by rw[hA];exact Yas _
     refine Loop.keep [] (Int×Int×Int×Nat) (fun s=>[(5,.int .u64 s.1),(6,.int .u64 s.2.1),(7,.int .u64 s.2.2.1),(36,.int .i64 s.2.2.2)]) (fun _=>[]) [] (fun s=>s.2.2.2<=28/\R=YaU (28-s.2.2.2) s.1 s.2.1 s.2.2.1/\(0<=s.2.1/\s.2.1<=18446744073709551615)/\0<=s.2.2.1/\s.2.2.1<=18446744073709551615) (fun s=>28-s.2.2.2) ?_ ?_
     . refine⟨(K,A,A,0),⟨by simp only;omega,hR,hAr,hAr⟩,?_⟩
       dsimp only[go_sem,reduceIte,YGU]
       simp only[Ya]
       try simp
     . rintro⟨S,a,b,i⟩ ⟨hi,he,ha,hb⟩
       dsimp only at hi he ha hb
       dsimp only[YkY,YnA,len64C,mul64C,go_sem,reduceIte,YGU]
       simp only[Yc,YGU,YGW,reduceCtorEq,YGV]
       have ei:IntKind.i64.wrap (28-(i:Int))=((28-i:Nat):Int):=by rw[YGZ _ (by omega)];omega
       rw[ei]
       have hA2:=Yr8 ha.1 ha.2
       have hB2:=Yr8 hb.1 hb.2
       refine⟨fun hlt=>?_,fun hge=>?_⟩
       . obtain⟨f,hf⟩:∃f,28-i=f+1:=⟨28-i-1,by omega⟩
         rw[hf,YaU]at he
         rw[hf,YG0]
         refine⟨ha,by decide,by decide,hb,by decide,by decide,by decide,by decide,fun hc1=>⟨by decide,by decide,by decide,by decide,by decide,fun hc2=>⟨fun hc3=>?_,fun hc3=>?_⟩,fun hc2=>⟨fun hc3=>?_,fun hc3=>?_⟩⟩,fun hc1=>⟨fun hc2=>⟨fun hc3=>?_,fun hc3=>?_⟩,fun hc2=>⟨fun hc3=>?_,fun hc3=>?_⟩⟩⟩
         . rw[if_pos hc1,if_pos hc2,if_pos hc3]at he
           rw[he]at h
           exact⟨by omega,by omega,Yhi h⟩
         . rw[if_pos hc1,if_pos hc2,if_neg (by rw[hc3];decide)]at he
           refine⟨by decide,(bitI .or .u64 (sl1 S) (sr63 (hiW a)),dblW (hiW a) (loW a),IntKind.u64.wrap (dblW (hiW b) (loW b)+1),i+1),⟨by simp only;omega,by rw[show 28-(i+1)=f by omega];exact he,YeV _ _,Yas _⟩,by simp only;omega,?_⟩
           rw[YGZ ((i:Int)+1) (by omega)]
           simp only[Ya]
           simp
         . rw[if_pos hc1,if_neg hc2,if_pos hc3]at he
           rw[he]at h
           exact⟨by omega,by omega,Yhi h⟩
         . rw[if_pos hc1,if_neg hc2,if_neg (by rw[hc3];decide)]at he
           refine⟨by decide,(bitI .or .u64 (sl1 S) (sr63 (hiW a)),dblW (hiW a) (loW a),dblW (hiW b) (loW b),i+1),⟨by simp only;omega,by rw[show 28-(i+1)=f by omega];exact he,YeV _ _,YeV _ _⟩,by simp only;omega,?_⟩
           rw[YGZ ((i:Int)+1) (by omega)]
           simp only[Ya]
           simp
         . rw[if_neg hc1,if_pos hc2,if_pos hc3]at he
           rw[he]at h
           exact⟨by omega,by omega,Yhi h⟩
         . rw[if_neg hc1,if_pos hc2,if_neg (by rw[hc3];decide)]at he
           refine⟨by decide,(bitI .or .u64 (sl1 S) (sr63 (hiW a)),hiW a,IntKind.u64.wrap (hiW b+1),i+1),⟨by simp only;omega,by rw[show 28-(i+1)=f by omega];exact he,hA2,Yas _⟩,by simp only;omega,?_⟩
           rw[YGZ ((i:Int)+1) (by omega)]
           simp only[Ya]
           simp
         . rw[if_neg hc1,if_neg hc2,if_pos hc3]at he
           rw[he]at h
           exact⟨by omega,by omega,Yhi h⟩
         . rw[if_neg hc1,if_neg hc2,if_neg (by rw[hc3];decide)]at he
           refine⟨by decide,(bitI .or .u64 (sl1 S) (sr63 (hiW a)),hiW a,hiW b,i+1),⟨by simp only;omega,by rw[show 28-(i+1)=f by omega];exact he,hA2,hB2⟩,by simp only;omega,?_⟩
           rw[YGZ ((i:Int)+1) (by omega)]
           simp only[Ya]
           simp
       . rw[show 28-i=0 by omega,YaU]at he
         rw[he]at h
         exact Yhi h
 . exact h.1.elim
end Go.Proofs.YtfjodiojchknmaaGreatDoor
