/- Operations of a region that draws its order: what exchanges. -/
import Derived.Test.YtfjodiojchknmaaGreatDoorMgX39b
import Derived.MapKept
import Derived.WideKeyRuns
open Array renaming getElem?_eq_some_iff->YHu
open Bool renaming and_eq_true->YG2,false_eq_true->YHm,not_eq_true'->YHn,or_eq_false_iff->YHq,or_eq_true->YHB
open List renaming foldl_cons->YH5,getD_eq_getElem?_getD->YG9,getElem?_append->YHY,getElem?_append_left->YHP,length_cons->YH1,map_cons->YHv,mem_append->YHz,mem_cons->YHx,mem_cons_of_mem->YHg,mem_cons_self->YHh,mem_map->YIa,mem_singleton->YHF
open Nat renaming beq->YHC,eq_of_beq_eq_true->YHk,le_of_ble_eq_true->YHJ,le_of_eq->YH2,le_refl->YG8,lt_of_lt_of_le->YHM,lt_or_ge->YHE,pow_le_pow_right->YHl,zero_add->YH0
open Option renaming bind_eq_some_iff->YGX,map_eq_some_iff->YG1
set_option linter.all false
namespace Go.Vx
theorem Yb7:∀(l:List SV)(n m:Nat)(x:SV),n≠m->getL (setL l n x) m=getL l m
 | [],_,_,_,_=>rfl
 |_::_,0,0,_,h=>absurd rfl h
 |_::_,0,_+1,_,_=>rfl
 |_::_,_+1,0,_,_=>rfl
 |_::l,n+1,m+1,x,h=>Yb7 l n m x (fun e=>h (by rw[e]))
theorem YcI:∀(l:List SV)(n m:Nat)(x y:SV),n≠m->setL (setL l n x) m y=setL (setL l m y) n x
 | [],_,_,_,_,_=>rfl
 |_::_,0,0,_,_,h=>absurd rfl h
 |_::_,0,_+1,_,_,_=>rfl
 |_::_,_+1,0,_,_,_=>rfl
 |a::l,n+1,m+1,x,y,h=>congrArg (a::·) (YcI l n m x y (fun e=>h (by rw[e])))
section
variable {s:S} {d d':Option Nat} {v u:SV}
theorem YpY{x:X}(h:∀n,d=some n->n∉x.slot):(s.put d v).x x=s.x x:=by
 cases d with
 |none=>rfl
 |some n=>
   cases x with
   |cn _=>rfl
   |tm m=>exact Yb7 _ _ _ _ (fun e=>h n rfl (by simp [X.slot,e]))
theorem YjE:∀{xs:List X},(∀n,d=some n->n∉Yar xs)->(s.put d v).args xs=s.args xs
 | [],_=>rfl
 |x::l,h=>by
   simp only[S.args]
   rw[YpY (fun n e hm=>h n e (by simp [Yar,hm])),YjE (fun n e hm=>h n e (by simp [Yar,hm]))]
theorem YfK(h:∀n,d=some n->d'≠some n):(s.put d v).put d' u=(s.put d' u).put d v:=by
 cases d with
 |none=>cases d' <;> rfl
 |some n=>
   cases d' with
   |none=>rfl
   |some m=>simp only[S.put];rw[YcI _ _ _ _ _ (fun e=>h n rfl (by rw[e]))]
end
def Grow(hp hp':List HO):Prop:=∀i,getH hp i≠ .gone->getH hp' i=getH hp i
theorem Ylt{hp hp':List HO}(hg:Grow hp hp'){x:SV}{r:Prop×List SV}(h:Yaw hp x=some r):Yaw hp' x=some r:=by
 cases x <;> simp only[Yaw]at h⊢ <;> try exact h
 case ptr i off=>rw[hg i (by intro e;rw[e]at h;cases h)];exact h
 case elem i k off sz=>rw[hg i (by intro e;rw[e]at h;cases h)];exact h
theorem Yoo{hp hp':List HO}(hg:Grow hp hp'){n n':Nat}{o:VO}(hq:o.quiet=true){xs:List SV}{e:Ef}(h:eff hp n o xs=some e):eff hp' n' o xs=some e:=by
 cases o <;> simp only[VO.quiet,reduceCtorEq]at hq <;> try exact h
 case load agg size=>
   simp only[eff,Yii]at h⊢
   split at h
   . rename_i a
     obtain⟨r,hr,h⟩:=YGX.1 h
     simp only[Ylt hg hr,Option.bind_some]
     exact h
   . cases h
 case idxArr n size=>
   simp only[eff,Yb4]at h⊢
   split at h
   . rename_i j k i
     rw[hg j (by intro e;rw[e]at h;cases h)];exact h
   . rename_i j o k i
     rw[hg j (by intro e;rw[e]at h;cases h)];exact h
   . exact h
   . cases h
 case sliceArr n size lo hi=>
   simp only[eff]at h⊢
   unfold Yb5 at h⊢
   split at h
   . rename_i j
     rw[hg j (by intro e;rw[e]at h;cases h)];exact h
   . cases h
 case isNil neg=>
   simp only[eff]at h⊢
   unfold eNil at h⊢
   split at h
   . rename_i x
     split at h <;> try exact h
     rename_i i _ _ _
     rw[hg i (by intro e;rw[e]at h;cases h)];exact h
   . cases h
def fEff(v:VOp)(s:S):Option (Prop×SV):=
 match v.g with
 |none=>match eff s.hp (lenH s.hp) v.op (s.args v.xs)with
   |some ⟨p,x,.no⟩=>some (p,x)
   |_=>none
 |some (g,pol)=>match Yai (getL s.fr g) pol with
   |none=>none
   |some gb=>match eff s.hp (lenH s.hp) v.op (Y1 v.op gb (s.args v.xs)).2 with
     |some ⟨q,x,.no⟩=>some ((Y1 v.op gb (s.args v.xs)).1/\(gb=true->q),.opt gb x)
     |_=>none
def YhZ(o:Option (Prop×SV))(d:Option Nat)(A:S->Prop)(s:S):Prop:=
 match o with
 |some (p,x)=>p/\A (s.put d x)
 |none=>False
def ctW(d:Option Nat)(A:S->Prop)(s:S)(ys:List SV)(c:Option Ctr):Prop:=
 match c with
 |some c=>(c.alias=true->YaC ys=true)/\CSat (c.of (viewN false s.hp 3 ys)) fun r hs=>A (S.put { fr:=s.fr,saved:=s.saved,hp:=s.hp++Y2 (lenH s.hp) hs} d (shift (lenH s.hp) r))
 |none=>False
def effW(d:Option Nat)(A:S->Prop)(s:S)(e:Option Ef):Prop:=
 match e with
 |some e=>e.pre/\A ((s.upd e.upd).put d e.val)
 |none=>False
def badW(b:Bool)(p:Prop):Prop:=
 match b with
 |true=>False
 |false=>p
def psdW(v:VOp)(A:S->Prop)(s:S)(c:Option CRes):Prop:=
 match c with
 |some c=>CSat c fun r hs=>A (S.put { fr:=s.fr,saved:=s.saved,hp:=s.hp++Y2 (lenH s.hp) hs} v.dst (shift (lenH s.hp) r))
 |none=>badW v.op.bad (effW v.dst A s (eff s.hp (lenH s.hp) v.op (s.args v.xs)))
def YlM(E:Env)(v:VOp)(A:S->Prop)(s:S)(c:Option (FuncId×List SV)):Prop:=
 match c with
 |some (f,ys)=>ctW v.dst A s ys (E.ct f)
 |none=>psdW v A s (psd v.op (s.args v.xs))
def ctGW(gb:Bool)(d:Option Nat)(A:S->Prop)(s:S)(p:Prop)(c:Option (Ctr×List SV)):Prop:=
 match c with
 |some (c,ys)=>p/\(c.alias=true->YaC ys=true)/\∃r,A (s.put d (.opt gb r))/\(gb=true->CSat (c.of (viewN false s.hp 3 ys)) fun r' hs=>r=shift (lenH s.hp) r'/\hs=[])
 |none=>False
def YhE(E:Env)(v:VOp)(A:S->Prop)(s:S)(g:Option Bool):Prop:=
 match g with
 |some gb=>ctGW gb v.dst A s (Y1 v.op gb (s.args v.xs)).1 (ctOf E v.op (Y1 v.op gb (s.args v.xs)).2)
 |none=>False
def dopW(E:Env)(v:VOp)(A:S->Prop)(s:S):Prop:=
 match v.op.quiet with
 |true=>YhZ (fEff v s) v.dst A s
 |false=>match v.g with
   |none=>YlM E v A s (callee E v.op (s.args v.xs))
   |some (g,pol)=>YhE E v A s (Yai (getL s.fr g) pol)
section
variable {E:Env} {v:VOp} {A B:S->Prop} {s:S}
theorem Yau(h:∀s,A s->B s)(hd:dopW E v A s):dopW E v B s:=by
 unfold dopW at*
 split
 . rename_i hq
   rw[hq]at hd
   simp only[YhZ]at*
   cases hf:fEff v s with
   |none=>rw[hf]at hd;exact hd
   |some r=>rw[hf]at hd;exact⟨hd.1,h _ hd.2⟩
 . rename_i hq
   rw[hq]at hd
   simp only at hd
   split
   . rename_i hg
     rw[hg]at hd
     simp only at hd
     unfold YlM at*
     split
     . rename_i f ys hc
       rw[hc]at hd
       simp only[ctW]at*
       cases hct:E.ct f with
       |none=>rw[hct]at hd;exact hd
       |some c=>rw[hct]at hd;exact⟨hd.1,hd.2.mono fun r hs hh=>h _ hh⟩
     . rename_i hc
       rw[hc]at hd
       simp only[psdW]at*
       cases hps:psd v.op (s.args v.xs)with
       |some c=>rw[hps]at hd;exact CSat.mono hd fun r hs hh=>h _ hh
       |none=>
       rw[hps]at hd
       simp only at*
       cases hbd:v.op.bad with
       |true=>rw[hbd]at hd;exact hd
       |false=>
       rw[hbd]at hd
       simp only[badW,effW]at*
       cases he:eff s.hp (lenH s.hp) v.op (s.args v.xs)with
       |none=>rw[he]at hd;exact hd
       |some e=>rw[he]at hd;exact⟨hd.1,h _ hd.2⟩
   . rename_i g pol hg
     rw[hg]at hd
     simp only at hd
     unfold YhE at*
     split
     . rename_i gb hgb
       rw[hgb]at hd
       simp only[ctGW]at*
       cases hct:ctOf E v.op (Y1 v.op gb (s.args v.xs)).2 with
       |none=>rw[hct]at hd;exact hd
       |some c=>rw[hct]at hd;obtain⟨h1,h0,r,h2,h3⟩:=hd;exact⟨h1,h0,r,h _ h2,h3⟩
     . rename_i hgb
       rw[hgb]at hd;exact hd
theorem Yhv(hq:v.op.quiet=true):¬dopW E v (fun _=>False) s:=by
 unfold dopW
 rw[hq]
 simp only[YhZ]
 cases fEff v s with
 |none=>exact id
 |some r=>exact fun h=>h.2
theorem Yer{d:Option Nat}{x:SV}(h:∀n,d=some n->n∉v.reads):fEff v (s.put d x)=fEff v s:=by
 have ha:(s.put d x).args v.xs=s.args v.xs:=YjE fun n e hm=>h n e (by simp [VOp.reads,hm])
 unfold fEff
 cases hg:v.g with
 |none=>simp only[ha,Yea]
 |some gp=>
   obtain⟨g,pol⟩:=gp
   have hgg:getL (s.put d x).fr g=getL s.fr g:=by
     cases d with
     |none=>rfl
     |some n=>exact Yb7 _ _ _ _ (fun e=>h n rfl (by simp [VOp.reads,hg,e]))
   simp only[ha,Yea,hgg]
theorem YmM{s s':S}(hf:s'.fr=s.fr):∀(xs:List X),s'.args xs=s.args xs
 | []=>rfl
 |x::l=>by
   simp only[S.args]
   rw[YmM hf l]
   cases x <;> simp [S.x,hf]
theorem Yfs{s':S}{r:Prop×SV}(hq:v.op.quiet=true)(hf:s'.fr=s.fr)(hg:Grow s.hp s'.hp)(h:fEff v s=some r):fEff v s'=some r:=by
 unfold fEff at*
 simp only[YmM hf,hf]
 cases hgd:v.g with
 |none=>
   rw[hgd]at h
   simp only at h⊢
   cases he:eff s.hp (lenH s.hp) v.op (s.args v.xs)with
   |none=>rw[he]at h;cases h
   |some e=>rw[he]at h;rw[Yoo hg hq he];exact h
 |some gp=>
   obtain⟨g,pol⟩:=gp
   rw[hgd]at h
   simp only at h⊢
   cases hgb:Yai (getL s.fr g) pol with
   |none=>rw[hgb]at h;cases h
   |some gb=>
     rw[hgb]at h
     simp only at h⊢
     cases he:eff s.hp (lenH s.hp) v.op (Y1 v.op gb (s.args v.xs)).2 with
     |none=>rw[he]at h;cases h
     |some e=>rw[he]at h;rw[Yoo hg hq he];exact h
def noApp:Upd->Prop
 | .app _ _=>False
 |_=>True
theorem Yns{d:Option Nat}{x:SV}{u:Upd}(h:noApp u):(s.put d x).upd u=(s.upd u).put d x:=by
 cases u <;> first|exact h.elim| (cases d <;> rfl)
theorem YwW{d:Option Nat}{x:SV}{hp:List HO}:({ fr:=(s.put d x).fr,saved:=(s.put d x).saved,hp:=hp}:S)=S.put { fr:=s.fr,saved:=s.saved,hp:=hp} d x:=by
 cases d <;> rfl
theorem YgR(hp hs:List HO):Grow hp (hp++hs):=fun i hi=>by
 rw[Yj4]
 split
 . rfl
 . rename_i hlt
   exact absurd (Ybz hp i (by omega)) hi
theorem YlK(hp:List HO)(x:HO):Grow hp (YbR hp x):=fun i hi=>by
 rcases YHE i (lenH hp)with h|h
 . exact Y8 hp x i h
 . exact absurd (Ybz hp i h) hi
variable {i j:VOp} {p:Prop} {x:SV}
theorem Yvb(hi:i.op.quiet=true)(h1:∀n,i.dst=some n->n∉j.reads)(h2:∀n,i.dst=some n->j.dst≠some n)(h3:∀n,j.dst=some n->n∉i.reads)
   (hh:∀e,j.op.quiet=false->j.op.bad=false->callee E j.op (s.args j.xs)=none->eff s.hp (lenH s.hp) j.op (s.args j.xs)=some e->(s.put i.dst x).upd e.upd=(s.upd e.upd).put i.dst x/\fEff i (s.upd e.upd)=some (p,x))
   (hf:fEff i s=some (p,x))(h:dopW E j A (s.put i.dst x)):dopW E j (fun s'=>fEff i s'=some (p,x)/\A (s'.put i.dst x)) s:=by
 have ha:(s.put i.dst x).args j.xs=s.args j.xs:=YjE fun n e hm=>h1 n e (by simp [VOp.reads,hm])
 unfold dopW at*
 split
 . rename_i hq
   rw[hq]at h
   simp only[Yer h1]at h
   simp only[YhZ]at*
   cases hfj:fEff j s with
   |none=>rw[hfj]at h;exact h
   |some r=>rw[hfj]at h;exact⟨h.1,by rw[Yer h3];exact hf,by rw[<-YfK h2];exact h.2⟩
 . rename_i hq
   rw[hq]at h
   simp only at h
   split
   . rename_i hg
     rw[hg]at h
     simp only[ha]at h
     unfold YlM at*
     split
     . rename_i f ys hc
       rw[hc]at h
       simp only[ctW,Yea]at*
       cases hct:E.ct f with
       |none=>rw[hct]at h;exact h
       |some c=>
         rw[hct]at h
         refine⟨h.1,CSat.mono h.2 fun r hs hr=>⟨?_,?_⟩⟩
         . rw[Yer h3]
           exact Yfs (s:=s) hi rfl (YgR _ _) hf
         . have hr2:=hr
           rw[YwW,YfK h2]at hr2;exact hr2
     . rename_i hc
       rw[hc]at h
       simp only[psdW,Yea,ha]at*
       cases hps:psd j.op (s.args j.xs)with
       |some c=>
         rw[hps]at h
         refine CSat.mono h fun r hs hr=>⟨?_,?_⟩
         . rw[Yer h3]
           exact Yfs (s:=s) hi rfl (YgR _ _) hf
         . have hr2:=hr
           rw[YwW,YfK h2]at hr2;exact hr2
       |none=>
       rw[hps]at h
       simp only at*
       cases hbd:j.op.bad with
       |true=>rw[hbd]at h;exact h
       |false=>
       rw[hbd]at h
       simp only[badW,effW,Yea]at*
       cases he:eff s.hp (lenH s.hp) j.op (s.args j.xs)with
       |none=>rw[he]at h;exact h
       |some e=>
         rw[he]at h
         obtain⟨k1,k2⟩:=hh e hq hbd hc he
         refine⟨h.1,?_,?_⟩
         . rw[Yer h3];exact k2
         . rw[<-YfK h2,<-k1];exact h.2
   . rename_i g pol hg
     rw[hg]at h
     have hgg:getL (s.put i.dst x).fr g=getL s.fr g:=by
       cases hd:i.dst with
       |none=>rfl
       |some n=>exact Yb7 _ _ _ _ (fun e=>h1 n hd (by simp [VOp.reads,hg,e]))
     simp only[ha,hgg]at h
     unfold YhE at*
     split
     . rename_i gb hgb
       rw[hgb]at h
       simp only[ctGW,Yea,ha]at*
       cases hct:ctOf E j.op (Y1 j.op gb (s.args j.xs)).2 with
       |none=>rw[hct]at h;exact h
       |some c=>
         rw[hct]at h
         obtain⟨k1,k0,r,k2,k3⟩:=h
         exact⟨k1,k0,r,⟨by rw[Yer h3];exact hf,by rw[<-YfK h2];exact k2⟩,k3⟩
     . rename_i hgb
       rw[hgb]at h;exact h
end
end Go.Vx
namespace Go.Vx
theorem Yj0{hp hp':List HO}{n n':Nat}{o:VO}(hq:o.quiet=true)(hr:o.readsHp=false)(xs:List SV):eff hp' n' o xs=eff hp n o xs:=by
 cases o <;> simp only[VO.quiet,VO.readsHp,reduceCtorEq]at hq hr <;> rfl
def Ydf:List SV->SV
 | []=> .junk
 |x::_=>x
theorem YmS{hp hp':List HO}{x:SV}(h:∀b,blk x=some b->getH hp' b=getH hp b):Yaw hp' x=Yaw hp x:=by
 cases x <;> try rfl
 case ptr i off=>simp only[Yaw,h i rfl]
 case elem i k off sz=>simp only[Yaw,h i rfl]
theorem YrM{hp hp':List HO}{n n':Nat}{o:VO}(hq:o.quiet=true){xs:List SV}(h:∀b,blk (Ydf xs)=some b->getH hp' b=getH hp b):eff hp' n' o xs=eff hp n o xs:=by
 cases hr:o.readsHp with
 |false=>exact Yj0 hq hr xs
 |true=>
   cases o <;> simp only[VO.readsHp,reduceCtorEq]at hr
   case load agg size=>
     cases xs with
     |nil=>rfl
     |cons a l=>
       cases l with
       |nil=>
         have:=YmS (x:=a) h
         simp only[eff,Yii,this]
       |cons _ _=>rfl
   case idxArr m size=>
     rcases xs with _| ⟨a,_| ⟨b,_| ⟨c,l⟩⟩⟩ <;> try rfl
     . cases a <;> try rfl
       case ptr j off=>cases off <;> rfl
     . cases a <;> try rfl
       case ptr j off=>
         have:=h j rfl
         cases off <;> cases b <;> try rfl
         all_goals simp only[eff,Yb4,this]
       case xp t cs=>cases b <;> rfl
     . cases a <;> try rfl
       case ptr j off=>cases off <;> cases b <;> rfl
       case xp t cs=>cases b <;> rfl
   case sliceArr m size lo hi=>
     rcases xs with _| ⟨a,_| ⟨b,l⟩⟩
     . cases lo <;> cases hi <;> rfl
     . cases lo <;> cases hi <;> try rfl
       cases a <;> try rfl
       case ptr j off=>
         have:=h j rfl
         cases off <;> try rfl
         simp only[eff,Yb5,this]
     . cases lo <;> cases hi <;> try rfl
       cases a <;> try rfl
       case ptr j off=>cases off <;> rfl
   case isNil neg=>
     rcases xs with _| ⟨a,_| ⟨b,l⟩⟩
     . rfl
     . rfl
     . rcases l with _| ⟨c,l⟩
       . cases b <;> try rfl
         cases a <;> try rfl
         case own i lo m sz=>
           have:=h i rfl
           simp only[eff,eNil,this]
       . cases b <;> rfl
theorem Ymw{hp:List HO}{n:Nat}{o:VO}(ho:o.isStore=true){xs:List SV}{e:Ef}(h:eff hp n o xs=some e):∃k ho,e.upd= .set k ho/\blk (Ydf xs)=some k:=by
 cases o <;> simp only[VO.isStore,reduceCtorEq]at ho
 simp only[eff,YiM]at h
 split at h
 . rename_i a v
   obtain⟨e',h',rfl⟩:=YG1.1 h
   cases a <;> simp only[storeAt,reduceCtorEq]at h'
   . rename_i i off
     split at h'
     . cases h';exact⟨_,_,rfl,rfl⟩
     . split at h'
       . cases h';exact⟨_,_,rfl,rfl⟩
       . cases h'
     . cases h'
     . cases h'
   . rename_i i k off sz
     split at h'
     . cases h';exact⟨_,_,rfl,rfl⟩
     . cases h'
 . cases h
theorem YsX{hp:List HO}{n:Nat}{o:VO}(hq:o.quiet=false)(ho:o.isStore=false)(ha:o.isAppend=false)(hb:o.bad=false){xs:List SV}{e:Ef}(h:eff hp n o xs=some e):∃ho,e.upd= .new ho:=by
 cases o <;> simp only[VO.quiet,VO.isStore,VO.isAppend,VO.bad,reduceCtorEq]at hq ho ha hb <;> simp only[eff]at h
 . cases h;exact⟨_,rfl⟩
 . cases h;exact⟨_,rfl⟩
 . unfold eBox at h;split at h
   . cases h;exact⟨_,rfl⟩
   . cases h
 . obtain⟨⟨p,cs⟩,h',h⟩:=YGX.1 h
   cases h;exact⟨_,rfl⟩
 . unfold YrL at h;split at h
   . cases h;exact⟨_,rfl⟩
   . cases h
 all_goals cases h
theorem YcB(s:S):∀(xs:List X),Ydf (s.args xs)=s.x (Ydg xs)
 | []=>rfl
 |_::_=>rfl
theorem Ygn(gb:Bool):∀(xs:List SV),Ydf (Ygx gb xs).2=YpT (Ydf xs)
 | []=>rfl
 |x::_=>by cases x <;> rfl
theorem Yfv(o:VO)(gb:Bool)(xs:List SV):Ydf (Y1 o gb xs).2=YpT (Ydf xs):=by
 unfold Y1 YkQ
 split
 . exact Ygn gb xs
 . split
   . rename_i x y
     cases x <;> rfl
   . exact Ygn gb _
theorem Yvk{v:VOp}{s:S}{k:Nat}{ho:HO}(hq:v.op.quiet=true)(h:v.op.readsHp=true->∀b,blk (YpT (s.x (Ydg v.xs)))=some b->b≠k):fEff v (s.upd (.set k ho))=fEff v s:=by
 have key:∀xs:List SV,(v.op.readsHp=true->∀b,blk (Ydf xs)=some b->b≠k)->eff (s.upd (.set k ho)).hp (lenH (s.upd (.set k ho)).hp) v.op xs=eff s.hp (lenH s.hp) v.op xs:=by
   intro xs hx
   cases hr:v.op.readsHp with
   |false=>exact Yj0 hq hr xs
   |true=>exact YrM hq fun b hb=>YY _ _ _ _ (fun e=>hx hr b hb e.symm)
 have hfr:(s.upd (.set k ho)).fr=s.fr:=rfl
 have ha:(s.upd (.set k ho)).args v.xs=s.args v.xs:=YmM hfr _
 unfold fEff
 cases hg:v.g with
 |none=>
   simp only[ha]
   rw[key]
   intro hr b hb
   refine h hr b ?_
   rw[YcB]at hb
   cases hx:s.x (Ydg v.xs) <;> rw[hx]at hb <;> first|exact hb|cases hb
 |some gp=>
   obtain⟨g,pol⟩:=gp
   simp only[ha,hfr]
   cases Yai (getL s.fr g) pol with
   |none=>rfl
   |some gb=>
     simp only
     rw[key]
     intro hr b hb
     refine h hr b ?_
     rw[Yfv,YcB]at hb
     exact hb
theorem YeB{b:Nat}{v:SV}(h:refs b v=false):YhV b v=v:=by unfold YhV;rw[h];rfl
theorem Ymi{b:Nat}:∀{l:List SV},Yh0 b l=false->Ym b l=l
 | [],_=>rfl
 |x::l,h=>by
   simp only[Yh0,YHq]at h
   simp only[Ym,YeB h.1,Ymi h.2]
theorem Ydp(b:Nat):∀(n:Nat)(l:List SV),Yu n (Ym b l)=Ym b (Yu n l)
 |0,_=>rfl
 |_+1,[]=>rfl
 |n+1,_::l=>Ydp b n l
theorem Ye8(b:Nat):∀(n:Nat)(l:List SV),YC n (Ym b l)=Ym b (YC n l)
 |0,_=>rfl
 |_+1,[]=>rfl
 |n+1,x::l=>congrArg (YhV b x::·) (Ye8 b n l)
theorem Yez(b:Nat):∀(l:List SV),lenL (Ym b l)=lenL l
 | []=>rfl
 |_::l=>congrArg (·+1) (Yez b l)
theorem Yi4(b:Nat):∀(l r:List SV),Ym b (l++r)=Ym b l++Ym b r
 | [],_=>rfl
 |x::l,r=>congrArg (YhV b x::·) (Yi4 b l r)
theorem YhA(b:Nat)(get:Nat->List SV):∀(n k:Nat),Yf0 n k (fun j=>Ym b (get j))=Ym b (Yf0 n k get)
 |0,_=>rfl
 |n+1,k=>by simp only[Yf0,Yi4,YhA b get n (k+1)]
theorem YjL{hp hp':List HO}{b:Nat}(hg:∀i,i≠b->getH hp' i=YfJ b (getH hp i)){x:SV}(hx:refs b x=false){p:Prop}{cs:List SV}(h:Yaw hp x=some (p,cs)):∃cs',Yaw hp' x=some (p,cs')/\(cs'=cs\/cs'=Ym b cs):=by
 cases x <;> simp only[Yaw,reduceCtorEq]at h⊢
 case xp t c=>exact⟨cs,h,.inl rfl⟩
 case ptr i off=>
   have hne:i≠b:=by rintro rfl;simp [refs]at hx
   rw[hg i hne]
   cases hh:getH hp i with
   |gone=>rw[hh]at h;cases h
   |smap l=>rw[hh]at h;cases h
   |box c=>
     rw[hh]at h;cases h
     exact⟨_,rfl,.inr (Ydp b off c)⟩
   |own z sz n get=>
     rw[hh]at h
     simp only at h
     cases off with
     |zero=>
       cases h
       exact⟨_,rfl,.inr (YhA b get n 0)⟩
     |succ k=>cases h
 case elem i k off sz=>
   have hne:i≠b:=by rintro rfl;simp [refs]at hx
   rw[hg i hne]
   cases hh:getH hp i with
   |gone=>rw[hh]at h;cases h
   |smap l=>rw[hh]at h;cases h
   |box c=>rw[hh]at h;cases h
   |own z sz' n get=>
     rw[hh]at h;cases h
     exact⟨_,rfl,.inr (Ydp b off (get k))⟩
theorem Ym5{b:Nat}{agg:Bool}{l:List SV}(h:refs b (YgC agg l)=false):YgC agg (Ym b l)=YgC agg l:=by
 cases agg with
 |true=>simp only[YgC,refs]at h⊢;rw[Ymi h]
 |false=>
   rcases l with _| ⟨x,_| ⟨y,l⟩⟩
   . rfl
   . simp only[YgC,Ym]at h⊢;exact YeB h
   . rfl
theorem YlB{hp hp':List HO}{n n' b:Nat}(hg:∀i,i≠b->getH hp' i=YfJ b (getH hp i)){o:VO}(hq:o.quiet=true){xs:List SV}(hx:refs b (Ydf xs)=false){e:Ef}(hr:refs b e.val=false)(h:eff hp n o xs=some e):eff hp' n' o xs=some e:=by
 cases hrd:o.readsHp with
 |false=>rw[Yj0 hq hrd xs (hp:=hp) (n:=n)];exact h
 |true=>
   cases o <;> simp only[VO.readsHp,reduceCtorEq]at hrd
   case load agg size=>
     simp only[eff,Yii]at h⊢
     split at h
     . rename_i a
       obtain⟨⟨p,cs⟩,hc,h⟩:=YGX.1 h
       obtain⟨cs',hc',hor⟩:=YjL hg hx hc
       have hc':Yaw hp' a=some (p,cs'):=hc'
       simp only[hc',Option.bind_some]
       cases h
       rcases hor with rfl|rfl
       . rfl
       . simp only[YB,Yez,Ye8,Ym5 hr]
     . cases h
   case idxArr m size=>
     simp only[eff,Yb4]at h⊢
     split at h
     . rename_i j k i
       have hne:j≠b:=by rintro rfl;simp [Ydf,refs]at hx
       rw[hg j hne]
       cases hh:getH hp j with
       |gone=>rw[hh]at h;cases h
       |smap l=>rw[hh]at h;cases h
       |box c=>rw[hh]at h;exact h
       |own z sz' n get=>rw[hh]at h;exact h
     . rename_i j o k i
       have hne:j≠b:=by rintro rfl;simp [Ydf,refs]at hx
       rw[hg j hne]
       cases hh:getH hp j with
       |gone=>rw[hh]at h;cases h
       |smap l=>rw[hh]at h;cases h
       |box c=>rw[hh]at h;exact h
       |own z sz' n get=>rw[hh]at h;cases h
     . exact h
     . cases h
   case sliceArr m size lo hi=>
     simp only[eff]at h⊢
     unfold Yb5 at h⊢
     split at h
     . rename_i j
       have hne:j≠b:=by rintro rfl;simp [Ydf,refs]at hx
       rw[hg j hne]
       cases hh:getH hp j with
       |gone=>rw[hh]at h;cases h
       |smap l=>rw[hh]at h;cases h
       |box c=>rw[hh]at h;cases h
       |own z sz' n get=>rw[hh]at h;exact h
     . cases h
   case isNil neg=>
     simp only[eff]at h⊢
     unfold eNil at h⊢
     split at h
     . rename_i x
       split at h <;> try exact h
       rename_i i _ _ _
       have hne:i≠b:=by rintro rfl;simp [Ydf,refs]at hx
       rw[hg i hne]
       cases hh:getH hp i with
       |gone=>rw[hh]at h;cases h
       |smap l=>rw[hh]at h;cases h
       |box c=>rw[hh]at h;cases h
       |own z sz' n get=>rw[hh]at h;exact h
     . cases h
theorem Yq4{hp:List HO}{n:Nat}{o:VO}(ha:o.isAppend=true){xs:List SV}{e:Ef}(h:eff hp n o xs=some e):(∃ho,e.upd= .new ho)\/∃b ho,e.upd= .app b ho/\blk (Ydf xs)=some b:=by
 cases o <;> simp only[VO.isAppend,reduceCtorEq]at ha
 simp only[eff,Yb3]at h
 split at h
 . rename_i a x
   split at h
   . obtain⟨⟨m,gx⟩,_,h⟩:=YGX.1 h
     cases h;exact .inl ⟨_,rfl⟩
   . split at h
     . obtain⟨⟨m,gx⟩,_,rfl⟩:=YG1.1 h
       exact .inr ⟨_,_,rfl,rfl⟩
     . cases h
   . obtain⟨⟨k,gy⟩,_,h⟩:=YGX.1 h
     obtain⟨⟨m,gx⟩,_,h⟩:=YGX.1 h
     cases h;exact .inl ⟨_,rfl⟩
   . cases h
 . cases h
theorem YiR(b:Nat):∀(l:List SV)(n:Nat),getL (Ym b l) n=YhV b (getL l n)
 | [],_=>rfl
 |_::_,0=>rfl
 |_::l,n+1=>YiR b l n
theorem YeA(b:Nat):∀(l:List SV)(n:Nat)(x:SV),Ym b (setL l n x)=setL (Ym b l) n (YhV b x)
 | [],_,_=>rfl
 |_::_,0,_=>rfl
 |y::l,n+1,x=>congrArg (YhV b y::·) (YeA b l n x)
theorem Ydd:∀(l:List SV)(n:Nat)(x:SV),n<lenL l->getL (setL l n x) n=x
 |_::_,0,_,_=>rfl
 |_::l,n+1,x,h=>Ydd l n x (by simpa [lenL]using h)
theorem Yh4:∀(l:List SV)(n:Nat)(x:SV),lenL l<=n->setL l n x=l
 | [],_,_,_=>rfl
 |_::l,0,_,h=>by simp [lenL]at h
 |y::l,n+1,x,h=>congrArg (y::·) (Yh4 l n x (by simpa [lenL]using h))
theorem Yyd{s:S}{d:Option Nat}{x:SV}{b:Nat}{ho:HO}(h:∀n,d=some n->refs b (getL (s.put d x).fr n)=false):(s.put d x).upd (.app b ho)=(s.upd (.app b ho)).put d x:=by
 cases d with
 |none=>rfl
 |some n=>
   have h:=h n rfl
   simp only[S.put,S.upd]at h⊢
   rw[YeA]
   rcases YHE n (lenL s.fr)with hn|hn
   . rw[Ydd _ _ _ hn]at h
     rw[YeB h]
   . rw[Yh4 _ _ _ (by rw[Yez];exact hn),Yh4 _ _ _ (by rw[Yez];exact hn)]
theorem YGS{s:S}{b:Nat}{ho:HO}{y:X}(h:refs b (s.x y)=false):(s.upd (.app b ho)).x y=s.x y:=by
 cases y with
 |cn v=>rfl
 |tm n=>
   show getL (Ym b s.fr) n=getL s.fr n
   rw[YiR];exact YeB h
theorem Yle{s:S}{b:Nat}{ho:HO}:∀{xs:List X},(∀y∈xs,refs b (s.x y)=false)->(s.upd (.app b ho)).args xs=s.args xs
 | [],_=>rfl
 |y::l,h=>by
   simp only[S.args]
   rw[YGS (h y YHh),Yle fun z hz=>h z (YHg _ hz)]
theorem YpH{b:Nat}{x:SV}:refs b (YpT x)=refs b x:=by cases x <;> rfl
theorem Yvj{v:VOp}{s:S}{b:Nat}{ho:HO}(hq:v.op.quiet=true)(hxs:∀y∈v.xs,refs b (s.x y)=false)(hgd:∀g pol,v.g=some (g,pol)->refs b (getL s.fr g)=false){r:Prop×SV}(hr:refs b r.2=false)(h:fEff v s=some r):fEff v (s.upd (.app b ho))=some r:=by
 have hgg:∀i,i≠b->getH (s.upd (.app b ho)).hp i=YfJ b (getH s.hp i):=by
   intro i hi
   show getH (setH (YaJ b s.hp) b ho) i=_
   rw[YY _ _ _ _ hi.symm,Yet]
 have ha:(s.upd (.app b ho)).args v.xs=s.args v.xs:=Yle hxs
 have hh:refs b (Ydf (s.args v.xs))=false:=by
   rw[YcB]
   cases hx:v.xs with
   |nil=>rfl
   |cons y l=>exact hxs y (by rw[hx];exact YHh)
 unfold fEff at h⊢
 cases hg:v.g with
 |none=>
   rw[hg]at h
   simp only at h⊢
   rw[ha]
   cases he:eff s.hp (lenH s.hp) v.op (s.args v.xs)with
   |none=>rw[he]at h;cases h
   |some e=>
     rw[he]at h
     obtain⟨p,x,u⟩:=e
     cases u <;> cases h
     rw[YlB hgg hq hh (e:=⟨p,x,.no⟩) hr he]
 |some gp=>
   obtain⟨g,pol⟩:=gp
   rw[hg]at h
   simp only at h⊢
   have hgv:getL (s.upd (.app b ho)).fr g=getL s.fr g:=YGS (y:= .tm g) (hgd g pol hg)
   rw[ha,hgv]
   cases hgb:Yai (getL s.fr g) pol with
   |none=>rw[hgb]at h;cases h
   |some gb=>
     rw[hgb]at h
     simp only at h⊢
     cases he:eff s.hp (lenH s.hp) v.op (Y1 v.op gb (s.args v.xs)).2 with
     |none=>rw[he]at h;cases h
     |some e=>
       rw[he]at h
       obtain⟨p,x,u⟩:=e
       cases u <;> cases h
       rw[YlB hgg hq (by rw[Yfv,YpH];exact hh) (e:=⟨p,x,.no⟩) (by simpa [refs]using hr) he]
end Go.Vx
namespace Go.Vx
def chk1(ap:Bool)(x y:SV):Prop:=
 match ap with
 |false=>Yix x y
 |true=>napP x y
def Y4(E:Env)(G:VOp->(S->Prop)->S->Prop)(tab:List DT)(i:Nat)(L:Array Bool)(A:S->Prop)(s:S):Prop:=
 match tab[i]? with
 |some (.silent _)=>A s
 |some (.op v chk)=>(∀c∈chk,L.getD c.1 false=true->chk1 v.op.isAppend (s.x c.2) (s.x (Ydg v.xs)))/\dopW E v A s
 |some (.loud v)=>dopW E v A s\/G v A s
 |none=>False
theorem Ycu{d:Option Nat}{l:List Nat}(h:disj d l=true):∀n,d=some n->n∉l:=by
 rintro n rfl hm
 simp [disj,hm]at h
theorem YxB{x y:X}(h:xeq x y=true):x=y:=by
 cases x <;> cases y <;> simp only[xeq,YHm]at h
 rw[YHk h]
section
variable {E:Env} {G:VOp->(S->Prop)->S->Prop} {tab:List DT} {ops:Array Oper} {md:Region.Mode} {clo:Nat->Nat->Bool}
theorem Yja(hG:∀v (A B:S->Prop) s,(∀s,A s->B s)->G v A s->G v B s)(j:Nat)(L:Array Bool)(s:S)(A B:S->Prop)(h:∀s,A s->B s)(hs:Y4 E G tab j L A s):Y4 E G tab j L B s:=by
 unfold Y4 at*
 split
 . rename_i d hd;rw[hd]at hs;exact h _ hs
 . rename_i v chk hd;rw[hd]at hs;exact⟨hs.1,Yau h hs.2⟩
 . rename_i v hd;rw[hd]at hs;exact hs.imp (Yau h) (hG v A B s h)
 . rename_i hd;rw[hd]at hs;exact hs
structure YxE (md:Region.Mode) (ops:Array Oper) (clo:Nat->Nat->Bool):Prop where
 ready:∀(L:Array Bool)(j i:Nat),Down md ops L->j∈Region.ready md ops L->clo j i=true->L.getD i false=true
 listed:∀(L:Array Bool)(j i:Nat),Down md ops L->L.getD j false=true->clo j i=true->L.getD i false=true
theorem Yec{L:Array Bool}{i:Nat}(h:i∈Region.ready md ops L):L.getD i false=false:=by
 have h0:=(mem_ready.1 h).1
 rcases YHE i L.size with h'|h'
 . simp [h']at h0⊢;exact h0
 . simp [Array.getElem?_eq_none h']
theorem YlH{L:Array Bool}{i j:Nat}(h:L.getD j false=true):(L.setIfInBounds i true).getD j false=true:=getD_set_true h
theorem Yi5{b:Nat}{x:SV}(h:Yrx x=true):refs b x=false:=by cases x <;> first|rfl|cases h
theorem Ym0:∀(l:List SV)(n:Nat),lenL l<=n->getL l n= .junk
 | [],_,_=>rfl
 |_::_,0,h=>by simp [lenL]at h
 |_::l,n+1,h=>Ym0 l n (by simpa [lenL]using h)
theorem YlZ{n:Nat}:∀{l:List X},.tm n∈l->n∈Yar l
 |x::l,h=>by
   rcases YHx.1 h with rfl|h
   . simp [Yar,X.slot]
   . simp [Yar,YlZ h]
theorem YhD{i:Nat}{chk:List (Nat×X)}{x:X}(h:YwV i chk x=true):(i,x)∈chk:=by
 obtain⟨c,hc,h⟩:=List.any_eq_true.1 h
 simp only[YG2]at h
 have h1:=YHk h.1
 have h2:=YxB h.2
 rw[<-h1,<-h2];exact hc
theorem YyS{v u:VOp}{s:S}(hv:v.op.quiet=true){r:Prop×SV}
   (hap:u.op.isAppend=true->∀b,blk (s.x (Ydg u.xs))=some b->(∀y∈v.xs,refs b (s.x y)=false)/\(∀g pol,v.g=some (g,pol)->refs b (getL s.fr g)=false)/\refs b r.2=false)
   (hst:u.op.isStore=true->v.op.readsHp=true->Yix (s.x (Ydg v.xs)) (s.x (Ydg u.xs))){e:Ef}
   (hq:u.op.quiet=false)(hbad:u.op.bad=false)(he:eff s.hp (lenH s.hp) u.op (s.args u.xs)=some e)(hf:fEff v s=some r):(s.put v.dst r.2).upd e.upd=(s.upd e.upd).put v.dst r.2/\fEff v (s.upd e.upd)=some r:=by
 cases hs:u.op.isStore with
 |true=>
   obtain⟨k,ho,h1,h2⟩:=Ymw hs he
   rw[h1]
   refine⟨Yns trivial,?_⟩
   rw[Yvk hv]
   . exact hf
   . intro hr b hb hbk
     subst hbk
     have:=hst hs hr
     rw[YcB]at h2
     simp [Yix,Yq2,hb,h2]at this
 |false=>
   cases ha:u.op.isAppend with
   |false=>
     obtain⟨ho,h1⟩:=YsX hq hs ha hbad he
     rw[h1]
     exact⟨Yns trivial,Yfs (s:=s) hv rfl (YlK _ _) hf⟩
   |true=>
     rcases Yq4 ha he with⟨ho,h1⟩ | ⟨b,ho,h1,h2⟩
     . rw[h1]
       exact⟨Yns trivial,Yfs (s:=s) hv rfl (YlK _ _) hf⟩
     . rw[h1]
       rw[YcB]at h2
       obtain⟨k1,k2,k3⟩:=hap ha b h2
       refine⟨Yyd fun n hn=>?_,Yvj hv k1 k2 k3 hf⟩
       rcases YHE n (lenL s.fr)with hl|hl
       . rw[hn];simp only[S.put];rw[Ydd _ _ _ hl];exact k3
       . rw[hn];simp only[S.put];rw[Yh4 _ _ _ hl,Ym0 _ _ hl];rfl
theorem YpS(hc:YxE md ops clo){i:Nat}{v:VOp}(hi:tab[i]? =some (.op v []))(hv:v.op.quiet=true)(hcomm:∀(j:Nat) (t:DT),tab[j]? =some t->Yrz clo i v j t=true)
   (j:Nat)(L:Array Bool)(s:S)(A:S->Prop)(hd:Down md ops L)(hri:i∈Region.ready md ops L)(hrj:j∈Region.ready md ops L)(hji:j≠i)
   (h:Y4 E G tab i L (Y4 E G tab j (L.setIfInBounds i true) A) s):Y4 E G tab j L (Y4 E G tab i (L.setIfInBounds j true) A) s:=by
 have hstepi:∀(L:Array Bool)(A:S->Prop)(s:S),Y4 E G tab i L A s↔dopW E v A s:=by
   intro L A s
   unfold Y4
   rw[hi]
   exact⟨fun h=>h.2,fun h=>⟨fun c hc=>(by cases hc),h⟩⟩
 rw[hstepi]at h
 have hmono:∀{B C:S->Prop}{t:S},(∀s,B s->C s)->dopW E v B t->dopW E v C t:=fun hbc hh=>Yau hbc hh
 cases ht:tab[j]? with
 |none=>
   have:dopW E v (fun _=>False) s:=hmono (fun s' hs'=>by unfold Y4 at hs';rw[ht]at hs';exact hs') h
   exact(Yhv hv this).elim
 |some t=>
   have hcm:=hcomm j t ht
   unfold Yrz at hcm
   have e1:YHC i j=false:=by
     cases hb:YHC i j with
     |false=>rfl
     |true=>exact absurd (YHk hb).symm hji
   have e2:clo j i=false:=by
     cases hb:clo j i with
     |false=>rfl
     |true=>have:=hc.ready L j i hd hrj hb;rw[Yec hri]at this;cases this
   have e3:clo i j=false:=by
     cases hb:clo i j with
     |false=>rfl
     |true=>have:=hc.ready L i j hd hri hb;rw[Yec hrj]at this;cases this
   rw[e1,e2,e3]at hcm
   simp only[Bool.false_or]at hcm
   cases t with
   |silent d=>
     have hsj:∀(L:Array Bool)(A:S->Prop)(s:S),Y4 E G tab j L A s=A s:=by
       intro L A s;unfold Y4;rw[ht]
     rw[hsj,hstepi]
     exact hmono (fun s' hs'=>by rw[hsj]at hs';exact hs') h
   |loud u=>simp at hcm
   |op u chk=>
     simp only[YG2,YHB,YHn,List.all_eq_true]at hcm
     obtain⟨⟨⟨⟨⟨c1,c2⟩,c3⟩,c4⟩,c5⟩,c6⟩:=hcm
     have hsj:∀(L:Array Bool)(A:S->Prop)(s:S),Y4 E G tab j L A s=((∀c∈chk,L.getD c.1 false=true->chk1 u.op.isAppend (s.x c.2) (s.x (Ydg u.xs)))/\dopW E u A s):=by
       intro L A s;unfold Y4;rw[ht]
     have d1:=Ycu c1
     have d3:=Ycu c3
     have d2:∀n,v.dst=some n->u.dst≠some n:=fun n hn hu=>Ycu c2 n hn (by simp [hu])
     rw[hsj]
     unfold dopW at h
     rw[hv]at h
     simp only[YhZ]at h
     cases hf:fEff v s with
     |none=>rw[hf]at h;exact h.elim
     |some r=>
       obtain⟨p,x⟩:=r
       rw[hf]at h
       obtain⟨hp,h⟩:=h
       rw[hsj]at h
       obtain⟨hchk,h⟩:=h
       have htgt:(s.put v.dst x).x (Ydg u.xs)=s.x (Ydg u.xs):=by
         refine YpY fun n hn hm=>d1 n hn ?_
         cases hx:u.xs with
         |nil=>rw[hx]at hm;simp [Ydg,X.slot]at hm
         |cons y l=>rw[hx]at hm;simp only[VOp.reads,hx,Yar,YHz];exact .inl (.inl hm)
       refine⟨fun c hcm hcl=>?_,?_⟩
       . have:=hchk c hcm (YlH hcl)
         rw[htgt]at this
         rcases c5 c hcm with(hh|hh) |hh
         . rw[YpY (Ycu hh)]at this;exact this
         . have:=hc.listed L c.1 i hd hcl hh
           rw[Yec hri]at this;cases this
         . rw[YHk hh,Yec hri]at hcl;cases hcl
       . have hlt:i<L.size:=by
           obtain⟨_,o,ho,_⟩:=mem_ready.1 hri
           rw[hd.1];exact(YHu.1 ho).1
         have hli:(L.setIfInBounds i true).getD i false=true:=by simp [hlt]
         refine Yau (fun s' hs'=>?_) (Yvb hv d1 d2 d3 (fun e hq hbad hcl he=>YyS (r:=(p,x)) hv (fun hap b hb=>?_) (fun hst hrd=>?_) hq hbad he hf) hf h)
         . rw[hstepi]
           unfold dopW
           rw[hv]
           simp only[YhZ]
           rw[hs'.1]
           exact⟨hp,hs'.2⟩
         . rcases c4 with c4|c4
           . rw[hap]at c4;cases c4
           simp only[YCM,YG2,List.all_eq_true]at c4
           obtain⟨⟨⟨e1,e2⟩,e3⟩,e4⟩:=c4
           have dv:=Ycu e1
           have at1:∀y:X,(i,y)∈chk->refs b ((s.put v.dst x).x y)=false/\YAG ((s.put v.dst x).x y)=true:=by
             intro y hy
             have:=hchk (i,y) hy hli
             rw[hap,htgt]at this
             simp only[chk1,napP,napB,hb]at this
             exact this
           refine⟨fun y hy=>?_,fun g pol hg=>?_,?_⟩
           . have h1:=e2 y hy
             cases y with
             |cn c=>exact Yi5 h1
             |tm n=>
               have h2:=(at1 _ (YhD h1)).1
               rwa [YpY (fun m hm hmm=>dv m hm (by
                 simp only[X.slot,YHF]at hmm
                 subst hmm
                 simp only[VOp.reads,YHz]
                 exact .inl (YlZ hy)))]at h2
           . rw[hg]at e3
             have h2:=(at1 _ (YhD e3)).1
             rwa [YpY (fun m hm hmm=>dv m hm (by
               simp only[X.slot,YHF]at hmm
               subst hmm
               simp [VOp.reads,hg]))]at h2
           . cases hdst:v.dst with
             |none=>rw[hdst]at e4;cases e4
             |some d=>
               rw[hdst]at e4
               obtain⟨h1,h2⟩:=at1 _ (YhD e4)
               rw[hdst]at h1 h2
               simp only[S.x,S.put]at h1 h2
               rcases YHE d (lenL s.fr)with hl|hl
               . rw[Ydd _ _ _ hl]at h1;exact h1
               . rw[Ym0 _ _ (by rw[Yh4 _ _ _ hl];exact hl)]at h2;cases h2
         . rcases c6 with(h6|h6) |h6
           . rw[hst]at h6;cases h6
           . rw[hrd]at h6;cases h6
           . obtain⟨c,hcm,hcb⟩:=List.any_eq_true.1 h6.2
             simp only[YG2]at hcb
             have hci:=YHk hcb.1
             have hcx:=YxB hcb.2
             have:=hchk c hcm (by rw[hci];exact hli)
             have hna:u.op.isAppend=false:=by cases hu:u.op <;> rw[hu]at hst <;> first|rfl|cases hst
             rw[htgt,hcx,YpY (Ycu h6.1),hna]at this
             exact this
end
end Go.Vx
namespace Go.Vx
section
variable {md:Region.Mode} {ops:Array Oper}
theorem Yh6{i k:Nat}:(2^i).testBit k=decide (i=k):=Nat.testBit_two_pow
theorem maskL_spec{i:Nat}:∀{l:List Edge},(YlY md l).testBit i=true↔∃e∈l,Region.binds md e=true/\e.on=i
 | []=>by simp [YlY]
 |e::l=>by
   unfold YlY
   cases hb:Region.binds md e with
   |false=>simp [maskL_spec (l:=l),hb]
   |true=>simp [maskL_spec (l:=l),hb,Nat.testBit_or,Yh6]
theorem Yen{i:Nat}{o:Oper}(h:ops[i]? =some o):(Yz md ops).getD i 0=YlY md o.after.toList:=by
 simp [Yz,h]
theorem Yd6{cl:List Nat}{m i:Nat}:∀{j:Nat},(Yd5 cl m j).testBit i=true->∃k,k<j/\m.testBit k=true/\(cl.getD k 0).testBit i=true
 |0,h=>by simp [Yd5]at h
 |j+1,h=>by
   unfold Yd5 at h
   cases hb:m.testBit j with
   |false=>
     rw[hb]at h
     obtain⟨k,h1,h2⟩:=Yd6 (j:=j) h
     exact⟨k,by omega,h2⟩
   |true=>
     rw[hb]at h
     simp only[cond_true,Nat.testBit_or,YHB]at h
     rcases h with h|h
     . exact⟨j,by omega,hb,h⟩
     . obtain⟨k,h1,h2⟩:=Yd6 (j:=j) h
       exact⟨k,by omega,h2⟩
theorem Ylv{dm cl:List Nat}:∀{n:Nat},Ygj dm cl n=true->∀j,j<n->cl.getD j 0=dm.getD j 0||| Yd5 cl (dm.getD j 0) j
 |n+1,h,j,hj=>by
   simp only[Ygj,YG2]at h
   rcases YHE j n with h'|h'
   . exact Ylv h.2 j h'
   . obtain rfl:j=n:=by omega
     exact YHk h.1
theorem YDb{cl:List Nat}(hl:cl.length=ops.size)(h:Ygj (Yz md ops) cl ops.size=true):YxE md ops (Yax cl):=by
 have small:∀(j i:Nat),Yax cl j i=true->j<ops.size:=by
   intro j i hc
   rcases YHE j ops.size with h'|h'
   . exact h'
   . simp [Yax,YG9,List.getElem?_eq_none (show cl.length<=j by omega)]at hc
 have main:∀(L:Array Bool),Down md ops L->∀(N j i:Nat),j<N->(∀(o:Oper),ops[j]? =some o->∀e∈o.after,Region.binds md e=true->L.getD e.on false=true)->Yax cl j i=true->L.getD i false=true:=by
   intro L hd N
   induction N with
   |zero=>intro j i hj;omega
   |succ N ih=>
     intro j i hj hs hc
     have hjn:=small j i hc
     have ho:ops[j]? =some ops[j]:=Array.getElem?_eq_getElem hjn
     unfold Yax at hc
     rw[Ylv h j hjn,Nat.testBit_or,YHB]at hc
     have hdir:∀k,((Yz md ops).getD j 0).testBit k=true->L.getD k false=true:=by
       intro k hk
       rw[Yen ho]at hk
       obtain⟨e,he,hb,rfl⟩:=maskL_spec.1 hk
       exact hs _ ho e (by simpa using he) hb
     rcases hc with hc|hc
     . exact hdir i hc
     . obtain⟨k,h1,h2,h3⟩:=Yd6 hc
       exact ih k i (by omega) (fun o hok e he hb=>hd.2 k o hok (hdir k h2) e he hb) h3
 refine⟨fun L j i hd hr hc=>?_,fun L j i hd hl hc=>?_⟩
 . obtain⟨_,o,ho,hall⟩:=mem_ready.1 hr
   exact main L hd (j+1) j i (by omega) (fun o' ho' e he hb=>by rw[ho]at ho';cases ho';exact hall e he hb) hc
 . exact main L hd (j+1) j i (by omega) (fun o ho e he hb=>hd.2 j o ho hl e he hb) hc
def Corr(ops:Array Oper)(L:Array Bool)(m:Nat):Prop:=L.size=ops.size/\∀i,L.getD i false=m.testBit i
theorem and_eq_left{a m:Nat}:(a&&&m)=a↔∀k,a.testBit k=true->m.testBit k=true:=by
 constructor
 . intro h k hk
   have:(a&&&m).testBit k=true:=by rw[h];exact hk
   rw[Nat.testBit_and,YG2]at this
   exact this.2
 . intro h
   apply Nat.eq_of_testBit_eq
   intro k
   rw[Nat.testBit_and]
   cases hk:a.testBit k with
   |false=>rfl
   |true=>rw[h k hk];rfl
theorem Ybu{L:Array Bool}{m i:Nat}(hc:Corr ops L m):i∈Region.ready md ops L↔i<ops.size/\YbG (Yz md ops) m i=true:=by
 rw[mem_ready]
 constructor
 . rintro⟨h0,o,ho,hall⟩
   have hi:i<ops.size:=(YHu.1 ho).1
   refine⟨hi,?_⟩
   simp only[YbG,YG2,YHn]
   have hL:i<L.size:=by rw[hc.1];exact hi
   refine⟨?_,?_⟩
   . rw[<-hc.2 i];simp [hL]at h0⊢;exact h0
   . rw[Yen ho]
     rw[and_eq_left.2 (fun k hk=>?_)]
     . exact Nat.beq_refl _
     . obtain⟨e,he,hb,rfl⟩:=maskL_spec.1 hk
       rw[<-hc.2];exact hall e (by simpa using he) hb
 . rintro⟨hi,hr⟩
   simp only[YbG,YG2,YHn]at hr
   have ho:ops[i]? =some ops[i]:=Array.getElem?_eq_getElem hi
   have hL:i<L.size:=by rw[hc.1];exact hi
   refine⟨?_,_,ho,fun e he hb=>?_⟩
   . have:=hr.1
     rw[<-hc.2 i]at this
     simp [hL]at this⊢;exact this
   . have:=and_eq_left.1 (YHk hr.2)
     rw[hc.2]
     refine this e.on ?_
     rw[Yen ho]
     exact maskL_spec.2 ⟨e,by simpa using he,hb,rfl⟩
theorem Yn7{L:Array Bool}{m i:Nat}(hc:Corr ops L m)(hi:i<ops.size):Corr ops (L.setIfInBounds i true) (m||| 2^i):=by
 refine⟨by simp [hc.1],fun k=>?_⟩
 rw[Nat.testBit_or,Yh6]
 by_cases h:i=k
 . subst h
   simp [hc.1,hi]
 . rw[getD_set_ne false h,hc.2];simp [h]
theorem Yd0{dm:List Nat}{m:Nat}:∀{n:Nat},YdZ dm m n=true->∀k,k<n->YbG dm m k=false
 |n+1,h,k,hk=>by
   simp only[YdZ,YG2,YHn]at h
   rcases YHE k n with h'|h'
   . exact Yd0 h.2 k h'
   . obtain rfl:k=n:=by omega
     exact h.1
theorem Yd4{dm:List Nat}{m i:Nat}:∀{n:Nat},Yd3 dm m i n=true->∀k,k<n->YbG dm m k=true->k=i
 |n+1,h,k,hk,hr=>by
   simp only[Yd3,YG2,YHB,YHn]at h
   rcases YHE k n with h'|h'
   . exact Yd4 h.2 k h' hr
   . obtain rfl:k=n:=by omega
     rcases h.1 with h1|h1
     . exact YHk h1
     . rw[hr]at h1;cases h1
def seqS{σ:Type}(step:Nat->Array Bool->(σ->Prop)->σ->Prop)(K:σ->Prop):List Nat->Array Bool->σ->Prop
 | [],_,s=>K s
 |i::l,L,s=>step i L (seqS step K l (L.setIfInBounds i true)) s
theorem Ytv{σ:Type}{step:Nat->Array Bool->(σ->Prop)->σ->Prop}{K:σ->Prop}{free:Nat->Bool}
   (mono:∀(j:Nat) (L:Array Bool) (s:σ) (A B:σ->Prop),(∀s,A s->B s)->step j L A s->step j L B s)
   (strict:∀i L s,free i=true->¬step i L (fun _=>False) s)
   (exch:∀(i:Nat),free i=true->∀(j:Nat) (L:Array Bool) (s:σ) (A:σ->Prop),Down md ops L->i∈Region.ready md ops L->j∈Region.ready md ops L->j≠i->step i L (step j (L.setIfInBounds i true) A) s->step j L (step i (L.setIfInBounds j true) A) s):
   ∀(l:List Nat)(m:Nat)(L:Array Bool)(s:σ),seqB free (Yz md ops) ops.size l m=true->Corr ops L m->Down md ops L->seqS step K l L s->anyS step K md ops l.length L s
 | [],m,L,s,hb,hc,hd,h=>by
   refine⟨?_,h⟩
   cases hr:Region.ready md ops L with
   |nil=>rfl
   |cons x r=>
     have hx:x∈Region.ready md ops L:=by rw[hr];exact YHh
     have:=(Ybu hc).1 hx
     rw[Yd0 hb x this.1]at this
     exact absurd this.2 (by simp)
 |i::l,m,L,s,hb,hc,hd,h=>by
   simp only[seqB,YG2,YHB]at hb
   obtain⟨⟨⟨h1,h2⟩,h3⟩,h4⟩:=hb
   have hin:i<ops.size:=by have:=YHJ h1;omega
   have hri:i∈Region.ready md ops L:=(Ybu hc).2 ⟨hin,h2⟩
   have hrest:=mono i L s _ _ (fun s' hs'=>Ytv mono strict exch l _ _ s' h4 (Yn7 hc hin) (hd.set hri) hs') h
   rcases h3 with h3|h3
   . exact Yiw mono (fun L s=>strict i L s h3) (exch i h3) _ L s hd hri hrest
   . refine⟨fun h0=>(by rw[h0]at hri;cases hri),fun j hj=>?_⟩
     obtain⟨hjn,hrj⟩:=(Ybu hc).1 hj
     obtain rfl:=Yd4 h3 j hjn hrj
     exact hrest
def YpU{σ:Type}(step:Nat->Array Bool->(σ->Prop)->σ->Prop)(K:σ->Prop):OT->Array Bool->σ->Prop
 | .nil,_,s=>K s
 | .op i t,L,s=>step i L (YpU step K t (L.setIfInBounds i true)) s
 | .br a b,L,s=>YpU step K a L s/\YpU step K b L s
theorem Ylx{dm:List Nat}{m:Nat}{hs:List Nat}:∀{n:Nat},Yn8 dm m hs n=true->∀k,k<n->YbG dm m k=true->k∈hs
 |n+1,h,k,hk,hr=>by
   simp only[Yn8,YG2,YHB,YHn]at h
   rcases YHE k n with h'|h'
   . exact Ylx h.2 k h' hr
   . obtain rfl:k=n:=by omega
     rcases h.1 with h1|h1
     . exact List.contains_iff_mem.1 h1
     . rw[hr]at h1;cases h1
theorem Ye1{free:Nat->Bool}{dm:List Nat}{n:Nat}:∀{t:OT}{m:Nat}{ex:Bool},YcM free dm n t m ex=true->∀i∈t.heads,i<n/\YbG dm m i=true
 | .nil,_,_,_,i,hi=>by cases hi
 | .op j t,m,ex,h,i,hi=>by
   simp only[YcM,YG2]at h
   obtain rfl:i=j:=by simpa [OT.heads]using hi
   exact⟨by have:=YHJ h.1.1.1;omega,h.1.1.2⟩
 | .br a b,m,ex,h,i,hi=>by
   simp only[YcM,YG2]at h
   rcases YHz.1 hi with hi|hi
   . exact Ye1 h.1.2 i hi
   . exact Ye1 h.2 i hi
theorem YiS{free:Nat->Bool}{dm:List Nat}{n:Nat}:∀{t:OT}{m:Nat},YcM free dm n t m true=true->∃i,i∈t.heads
 | .nil,_,h=>by simp [YcM]at h
 | .op j t,_,_=>⟨j,by simp [OT.heads]⟩
 | .br a b,m,h=>by
   simp only[YcM,YG2]at h
   obtain⟨i,hi⟩:=YiS h.1.2
   exact⟨i,List.mem_append_left _ hi⟩
theorem YsB{free:Nat->Bool}{dm:List Nat}{n:Nat}:∀{t:OT}{m:Nat},YcM free dm n t m true=true->∃k,t.len=k+1
 | .nil,_,h=>by simp [YcM]at h
 | .op j t,_,_=>⟨t.len,rfl⟩
 | .br a b,m,h=>by
   simp only[YcM,YG2]at h
   show∃k,a.len=k+1
   exact YsB h.1.2
theorem Yg4{σ:Type}{step:Nat->Array Bool->(σ->Prop)->σ->Prop}{K:σ->Prop}{free:Nat->Bool}
   (mono:∀(j:Nat) (L:Array Bool) (s:σ) (A B:σ->Prop),(∀s,A s->B s)->step j L A s->step j L B s)
   (strict:∀i L s,free i=true->¬step i L (fun _=>False) s)
   (exch:∀(i:Nat),free i=true->∀(j:Nat) (L:Array Bool) (s:σ) (A:σ->Prop),Down md ops L->i∈Region.ready md ops L->j∈Region.ready md ops L->j≠i->step i L (step j (L.setIfInBounds i true) A) s->step j L (step i (L.setIfInBounds j true) A) s):
   ∀(t:OT)(m:Nat)(ex:Bool)(L:Array Bool)(s:σ),YcM free (Yz md ops) ops.size t m ex=true->Corr ops L m->Down md ops L->YpU step K t L s->
     (ex=false->anyS step K md ops t.len L s)/\∀i∈t.heads,∀k,t.len=k+1->step i L (anyS step K md ops k (L.setIfInBounds i true)) s
 | .nil,m,ex,L,s,hb,hc,hd,h=>by
   simp only[YcM,YG2]at hb
   refine⟨fun _=>⟨?_,h⟩,fun i hi=>by cases hi⟩
   cases hr:Region.ready md ops L with
   |nil=>rfl
   |cons x r=>
     have hx:x∈Region.ready md ops L:=by rw[hr];exact YHh
     have:=(Ybu hc).1 hx
     rw[Yd0 hb.2 x this.1]at this
     exact absurd this.2 (by simp)
 | .op i t,m,ex,L,s,hb,hc,hd,h=>by
   have hb0:=hb
   simp only[YcM,YG2,YHB]at hb
   obtain⟨⟨⟨h1,h2⟩,h3⟩,h4⟩:=hb
   have hin:i<ops.size:=by have:=YHJ h1;omega
   have hri:i∈Region.ready md ops L:=(Ybu hc).2 ⟨hin,h2⟩
   have hrest:=mono i L s _ _ (fun s' hs'=>(Yg4 mono strict exch t _ false _ s' h4 (Yn7 hc hin) (hd.set hri) hs').1 rfl) h
   refine⟨fun hex=>?_,fun j hj k hk=>?_⟩
   . rcases h3 with(h3|h3) |h3
     . rw[hex]at h3;cases h3
     . exact Yiw mono (fun L s=>strict i L s h3) (exch i h3) _ L s hd hri hrest
     . refine⟨fun h0=>(by rw[h0]at hri;cases hri),fun j hj=>?_⟩
       obtain⟨hjn,hrj⟩:=(Ybu hc).1 hj
       obtain rfl:=Yd4 h3 j hjn hrj
       exact hrest
   . obtain rfl:j=i:=by simpa [OT.heads]using hj
     obtain rfl:t.len=k:=by simpa [OT.len]using hk
     exact hrest
 | .br a b,m,ex,L,s,hb,hc,hd,h=>by
   have hb0:=hb
   simp only[YcM,YG2,YHB]at hb
   obtain⟨⟨⟨h1,h2⟩,h3⟩,h4⟩:=hb
   have hl:a.len=b.len:=YHk h2
   have ha:=(Yg4 mono strict exch a m true L s h3 hc hd h.1).2
   have hb':=(Yg4 mono strict exch b m true L s h4 hc hd h.2).2
   have hall:∀i∈(OT.br a b).heads,∀k,(OT.br a b).len=k+1->step i L (anyS step K md ops k (L.setIfInBounds i true)) s:=by
     intro i hi k hk
     rcases YHz.1 hi with hi|hi
     . exact ha i hi k hk
     . exact hb' i hi k (by rw[<-hl];exact hk)
   refine⟨fun hex=>?_,hall⟩
   rcases h1 with h1|h1
   . rw[hex]at h1;cases h1
   . obtain⟨k,hk⟩:=YsB h3
     show anyS step K md ops a.len L s
     rw[hk]
     refine⟨fun h0=>?_,fun j hj=>?_⟩
     . obtain⟨i,hi⟩:=YiS h3
       have:=(Ybu hc).2 (Ye1 h3 i hi)
       rw[h0]at this;cases this
     . obtain⟨hjn,hrj⟩:=(Ybu hc).1 hj
       exact hall j (Ylx h1 j hjn hrj) k hk
theorem Yhx:Down md ops (Array.replicate ops.size false):=by
 refine⟨by simp,fun i o _ h=>?_⟩
 exfalso
 rcases YHE i ops.size with h'|h'
 . simp [h']at h
 . simp [Array.getElem?_eq_none,h']at h
theorem Ylw:Corr ops (Array.replicate ops.size false) 0:=by
 refine⟨by simp,fun i=>?_⟩
 rcases YHE i ops.size with h'|h'
 . simp [h']
 . simp [Array.getElem?_eq_none,h']
end
end Go.Vx
namespace Go.Vx
open Go.RowKit
structure Pend where
 idx:Nat
 slot:Nat
 cells:AL
def YM:List SV->List Pend->List SV
 |fr,[]=>fr
 |fr,p::l=>setL (YM fr l) p.slot .junk
def Yv:List HO->List Pend->List HO
 |hp,[]=>hp
 |hp,p::l=>setH (Yv hp l) p.idx .gone
theorem AL.ho_ne(z:AL):z.ho≠ .gone:=by cases z <;> (intro h;cases h)
def er(Pd:List Pend)(s:S):S:={ fr:=YM s.fr Pd,saved:=s.saved,hp:=Yv s.hp Pd}
def PR(w0:Cx)(Pd:List Pend)(s:S)(a:Act)(sv:List Act)(w:World):Prop:=
 Rl w0 (er Pd s) a sv w/\∀p∈Pd,getH s.hp p.idx=p.cells.ho/\setL s.fr p.slot (.ptr p.idx 0)=s.fr
section
variable {Pd:List Pend} {hp:List HO} {fr:List SV}
theorem Ybr:∀(Pd:List Pend),lenH (Yv hp Pd)=lenH hp
 | []=>rfl
 |p::l=>by rw[Yv,Ydj,Ybr l]
theorem Yco:∀{Pd:List Pend}{n:Nat},(∀p∈Pd,p.slot≠n)->getL (YM fr Pd) n=getL fr n
 | [],_,_=>rfl
 |p::l,n,h=>by
   rw[YM,Yb7 _ _ _ _ (h p YHh),Yco fun q hq=>h q (YHg _ hq)]
theorem YdR:∀{Pd:List Pend}{n:Nat},(∀p∈Pd,p.idx≠n)->getH (Yv hp Pd) n=getH hp n
 | [],_,_=>rfl
 |p::l,n,h=>by
   rw[Yv,YY _ _ _ _ (h p YHh),YdR fun q hq=>h q (YHg _ hq)]
theorem YdQ:∀{Pd:List Pend}{p:Pend},p∈Pd->getH (Yv hp Pd) p.idx= .gone
 |q::l,p,h=>by
   rw[Yv]
   by_cases he:q.idx=p.idx
   . rw[he]
     rcases YHE p.idx (lenH (Yv hp l))with hl|hl
     . rw[YaX _ _ _ hl]
     . rw[Ybz _ _ (by rw[Ydj];exact hl)]
   . rw[YY _ _ _ _ he]
     rcases YHx.1 h with rfl|h
     . exact absurd rfl he
     . exact YdQ h
theorem YbL:∀{Pd:List Pend}{n:Nat}{x:SV},(∀p∈Pd,p.slot≠n)->YM (setL fr n x) Pd=setL (YM fr Pd) n x
 | [],_,_,_=>rfl
 |p::l,n,x,h=>by
   rw[YM,YM,YbL (fun q hq=>h q (YHg _ hq)),YcI _ _ _ _ _ (fun e=>h p YHh e.symm)]
theorem Yh3:∀(l:List HO)(n m:Nat)(x y:HO),n≠m->setH (setH l n x) m y=setH (setH l m y) n x
 | [],_,_,_,_,_=>rfl
 |_::_,0,0,_,_,h=>absurd rfl h
 |_::_,0,_+1,_,_,_=>rfl
 |_::_,_+1,0,_,_,_=>rfl
 |a::l,n+1,m+1,x,y,h=>congrArg (a::·) (Yh3 l n m x y (fun e=>h (by rw[e])))
theorem Ye0:∀{Pd:List Pend}{n:Nat}{x:HO},(∀p∈Pd,p.idx≠n)->Yv (setH hp n x) Pd=setH (Yv hp Pd) n x
 | [],_,_,_=>rfl
 |p::l,n,x,h=>by
   rw[Yv,Yv,Ye0 (fun q hq=>h q (YHg _ hq)),Yh3 _ _ _ _ _ (fun e=>h p YHh e.symm)]
theorem Yo4:∀(a b:List HO)(n:Nat)(x:HO),n<lenH a->setH (a++b) n x=setH a n x++b
 | [],_,_,_,h=>by simp [lenH]at h
 |_::_,_,0,_,_=>rfl
 |y::a,b,n+1,x,h=>congrArg (y::·) (Yo4 a b n x (by simpa [lenH]using h))
theorem YkF:∀(a:List HO)(x:HO),YbR a x=a++[x]
 | [],_=>rfl
 |y::a,x=>congrArg (y::·) (YkF a x)
theorem Yde{hs:List HO}:∀{Pd:List Pend},(∀p∈Pd,p.idx<lenH hp)->Yv (hp++hs) Pd=Yv hp Pd++hs
 | [],_=>rfl
 |p::l,h=>by
   rw[Yv,Yv,Yde (fun q hq=>h q (YHg _ hq)),Yo4 _ _ _ _ (by rw[Ybr];exact h p YHh)]
theorem YdS{x:HO}(h:∀p∈Pd,p.idx<lenH hp):Yv (YbR hp x) Pd=YbR (Yv hp Pd) x:=by
 rw[YkF,YkF,Yde h]
theorem Ykl{w:World}{bs:List BK}{B:Bd}{i:Nat}{x:BK}(hH:Hp w bs B (Yv hp Pd))(hb:bs[i]? =some x)(hx:x≠ .gone):(∀p∈Pd,p.idx≠i)/\getH (Yv hp Pd) i=getH hp i:=by
 have:∀p∈Pd,p.idx≠i:=by
   rintro p hp rfl
   have:=hH.ent p.idx
   rw[YdQ hp]at this
   rcases this with h|h
   . rw[hb]at h;cases h;exact hx rfl
   . rw[hb]at h;cases h
 exact⟨this,YdR this⟩
theorem hpV{w:World}{bs:List BK}{B:Bd}(hH:Hp w bs B (Yv hp Pd)):HpV w bs B hp:=
 ⟨fun i x hb hx=>by have:=hH.ent i;rw[(Ykl hH hb hx).2]at this;exact this,fun _ _ _ _ hb=>hH.le hb,hH.lo,fun _ _ _ _ hb=>hH.un hb⟩
theorem YjI{w:World}{bs:List BK}{B:Bd}{b:Nat}:∀{x:SV}{v:Value},Rep w bs B x v->blk x=some b->∃y,bs[b]? =some y/\y≠ .gone
 |_,_,.x _ _ h,hb=>by cases h <;> cases hb
 |_,_,.agg _ _ _,hb=>by cases hb
 |_,_,.tup _ _ _,hb=>by cases hb
 |_,_,.fn _ _ _ _ _ _ _,hb=>by cases hb
 |_,_,.iface _ _ _ _,hb=>by cases hb
 |_,_,.ptr i off b' n h,hb=>by cases hb;exact⟨_,h,by simp⟩
 |_,_,.own i lo n size b' cap m ad h hl ha,hb=>by cases hb;exact⟨_,h,by simp⟩
 |_,_,.ownNil i size h,hb=>by cases hb;exact⟨_,h,by simp⟩
 |_,_,.elem i k off size b' cap m h hk,hb=>by cases hb;exact⟨_,h,by simp⟩
 |_,_,.smp _ _ _,hb=>by cases hb
 |_,_,.optT _ _ _,hb=>by cases hb
 |_,_,.optF _,hb=>by cases hb
 |_,_,.cut _ _ _ _ h,hb=>YjI h hb
theorem Yr6{w:World}{bs:List BK}{B:Bd}{xs:List SV}{vs:List Value}(h:RepL w bs B xs vs):∃v,Rep w bs B (Ydf xs) v:=by
 cases h with
 |nil=>exact⟨undef,.x _ _ (.junk _)⟩
 |cons x v l vs h h'=>exact⟨v,h⟩
theorem Yfw{w:World}{bs:List BK}{B:Bd}{b:Nat}{xs:List SV}{vs:List Value}(hH:Hp w bs B (Yv hp Pd))(h:RepL w bs B xs vs)(hb:blk (Ydf xs)=some b):(∀p∈Pd,p.idx≠b)/\getH (Yv hp Pd) b=getH hp b:=by
 obtain⟨v,hv⟩:=Yr6 h
 obtain⟨y,h1,h2⟩:=YjI hv hb
 exact Ykl hH h1 h2
theorem YtK{hp hp':List HO}{n n':Nat}{o:VO}(ho:o.isStore=true){xs:List SV}(h:∀b,blk (Ydf xs)=some b->getH hp' b=getH hp b):eff hp' n' o xs=eff hp n o xs:=by
 cases o <;> simp only[VO.isStore,reduceCtorEq]at ho
 rename_i size
 rcases xs with _| ⟨a,_| ⟨v,_| ⟨c,l⟩⟩⟩ <;> try rfl
 have key:storeAt hp' size (YaE v) a=storeAt hp size (YaE v) a:=by
   cases a <;> try rfl
   case ptr i off=>have:=h i rfl;simp only[storeAt,this]
   case elem i k off sz=>have:=h i rfl;simp only[storeAt,this]
 simp only[eff,YiM,key]
theorem Yr7{hp hp':List HO}{n:Nat}{o:VO}(hq:o.quiet=false)(ha:o.isAppend=false)(hbad:o.bad=false){xs:List SV}(h:∀b,blk (Ydf xs)=some b->getH hp' b=getH hp b):eff hp' n o xs=eff hp n o xs:=by
 cases hs:o.isStore with
 |true=>exact YtK hs h
 |false=>cases o <;> simp only[VO.quiet,VO.isStore,VO.isAppend,VO.bad,reduceCtorEq]at hq hs ha hbad <;> rfl
end
end Go.Vx
namespace Go.Vx
open Go.RowKit
open Go.MapKept (run_setObj_map modify_keys)
section
variable {P:Program} {ρ:Operand->Value} {w w':World} {bs bs':List BK} {B:Bd} {hp:List HO}
def Bd.cx(B:Bd)(w:World):Cx0:={ toWorld:=w,F:=fun b=>B.I b=none,I:=B.I,up:=fun _ _ h=>h,ex:=fun _ h=>h}
def bdZ:Bd:=⟨0,fun _=>True,fun _=>none,fun _ _ _=>trivial,fun _ _=>rfl⟩
theorem YvA{kk:List IntKind}:∀{l l':List Int},l.length=kk.length->l'.length=kk.length->keyV kk l=keyV kk l'->l=l':=by
 intro l l' h1 h2 h
 simp only[keyV,Value.agg.injEq]at h
 have h:(kk.zip l).map (fun p=>Value.int p.1 p.2)=(kk.zip l').map (fun p=>Value.int p.1 p.2):=by simpa using congrArg Array.toList h
 induction kk generalizing l l' with
 |nil=>cases l <;> cases l' <;> simp at h1 h2⊢
 |cons k kk ih=>
   cases l with
   |nil=>simp at h1
   |cons x l=>
     cases l' with
     |nil=>simp at h2
     |cons y l'=>
       simp only[List.zip_cons_cons,YHv,List.cons.injEq,Value.int.injEq,true_and]at h
       rw[h.1,ih (by simpa using h1) (by simpa using h2) (by simp [keyV,h.2]) h.2]
def YgB(kk:List IntKind)(l:List Int):List Value:=(kk.zip l).map fun p=> .int p.1 p.2
def Ypw(kk:List IntKind)(l:List Int):List SV:=(kk.zip l).map fun p=> .int p.1 p.2
theorem YlP{kk:List IntKind}{l:List Int}:RepL w bs B (Ypw kk l) (YgB kk l):=by
 unfold Ypw YgB
 induction kk.zip l with
 |nil=>exact .nil
 |cons p r ih=>exact .cons _ _ _ _ (.x _ _ (.int _ _)) ih
theorem YlT:∀{fs:List Field}{k:Nat}{kk:List IntKind},YdV P k fs=some kk->Ye2 P k fs=some (kk.map fun _=>true)
 | [],k,kk,h=>by simp only[YdV,Option.some.injEq]at h;subst h;rfl
 |f::fs,k,kk,h=>by
   simp only[YdV]at h
   split at h
   . rename_i hc
     split at h
     . rename_i kd hu
       obtain⟨kk',h1,rfl⟩:=YG1.1 h
       simp only[Ye2]
       rw[if_pos hc]
       simp [Ygo,hu,YlT h1]
     . cases h
   . cases h
theorem YwI:∀{kk:List IntKind}{l l':List Int},l.length=kk.length->l'.length=kk.length->∃p,Ycf (kk.map fun _=>true) (Ypw kk l) (Ypw kk l')=some (p,decide (l=l'))/\p
 | [],l,l',h1,h2=>by
   cases l <;> cases l' <;> simp at h1 h2
   exact⟨True,by simp [Ypw,Ycf],trivial⟩
 |k::kk,l,l',h1,h2=>by
   cases l with
   |nil=>simp at h1
   |cons x l=>
     cases l' with
     |nil=>simp at h2
     |cons y l'=>
       obtain⟨p,h3,h4⟩:=YwI (kk:=kk) (l:=l) (l':=l') (by simpa using h1) (by simpa using h2)
       refine⟨k=k/\p,?_,rfl,h4⟩
       simp only[Ypw,YHv,List.zip_cons_cons,Ycf]
       have h3':Ycf (kk.map fun _=>true) ((kk.zip l).map fun p=> .int p.1 p.2) ((kk.zip l').map fun p=> .int p.1 p.2)=some (p,decide (l=l')):=h3
       rw[h3']
       simp
theorem YhM{t:TypeId}{kk:List IntKind}(h:Ycp P t=some kk):∃k e fs,P.underlying t=some (.map k e)/\P.underlying k=some (.struct fs)/\P.stoodInHeld k=false/\YdV P 0 fs.toList=some kk/\(∀w:World,(zeroValue e).run P w= .ok (.int .i64 0) w):=by
 unfold Ycp at h
 split at h
 . rename_i k e hu
   split at h
   . rename_i fs hk
     split at h
     . rename_i hc
       simp only[YG2,YHn]at hc
       refine⟨k,e,fs,hu,hk,hc.2,h,fun w=>?_⟩
       have hz:=hc.1
       unfold YxC at hz
       split at hz
       . rename_i i hi
         split at hz
         . rename_i hz0
           simp [zeroValue,typeInfo,hi,hz0]
         . cases hz
       . cases hz
     . cases h
   . cases h
 . cases h
theorem Yts{k:TypeId}{fs:Array Field}{kk:List IntKind}(hk:P.underlying k=some (.struct fs))(hs:P.stoodInHeld k=false)(hi:YdV P 0 fs.toList=some kk){l l':List Int}(h1:l.length=kk.length)(h2:l'.length=kk.length):
   (Op.equal k (keyV kk l) (keyV kk l')).run P w= .ok (decide (l=l')) w:=by
 obtain⟨p,h3,h4⟩:=YwI h1 h2
 have hu':P.underlying k=some (.struct (P.fieldsOf k)):=by simp [Program.fieldsOf,hk]
 have hf:(P.fieldsOf k).toList=fs.toList:=by simp [Program.fieldsOf,hk]
 have hrun:=run_equalIn_struct (P:=P) w 9999 k (YgB kk l).toArray (YgB kk l').toArray hu' hs
 rw[hf,YeY (d:=9998) (X:=YgB kk l) (Y:=YgB kk l') (bs:=[]) (B:=bdZ) (YlT hi) h3 h4 (by simpa using YlP) (by simpa using YlP)]at hrun
 simpa [Op.equal,Op.maxDepth,keyV,YgB]using hrun
theorem Ycb{k:TypeId}{fs:Array Field}{kk:List IntKind}(hk:P.underlying k=some (.struct fs))(hs:P.stoodInHeld k=false)(hi:YdV P 0 fs.toList=some kk){l:List Int}(h1:l.length=kk.length):
   ∀(es:List MapEntry)(i:Nat),(∀e∈es,∃l,l.length=kk.length/\e.key=keyV kk l)->
     ((Instr.findAsking k (keyV kk l) es i).run P w= .ok none w)\/∃j e,(Instr.findAsking k (keyV kk l) es i).run P w= .ok (some (i+j,e.val)) w/\es[j]? =some e/\e.key=keyV kk l
 | [],i,_=> .inl rfl
 |e::es,i,h=>by
   obtain⟨l',h2,h3⟩:=h e YHh
   have hq:=Yts (w:=w) hk hs hi h1 h2
   unfold Instr.findAsking
   rw[h3]
   simp only[Sem.run_bind,hq,Result.andThen_ok]
   by_cases hl:l=l'
   . right
     refine⟨0,e,by simp [hl],rfl,by rw[h3,hl]⟩
   . simp only[hl,decide_false,YHm,if_false]
     rcases Ycb hk hs hi h1 es (i+1) (fun e he=>h e (YHg _ he))with h4| ⟨j,e',h4,h5,h6⟩
     . exact .inl h4
     . exact .inr ⟨j+1,e',by rw[h4,show i+1+j=i+(j+1)by omega],by simpa using h5,h6⟩
theorem YeE{kk:List IntKind}{l:List Int}{k:TypeId}{fs:Array Field}(hk:P.underlying k=some (.struct fs))(hi:YdV P 0 fs.toList=some kk)(h1:l.length=kk.length)(em:Bool):(Instr.checkKey em 10000 k (keyV kk l)).run P w= .ok () w:=by
 have key:∀(gs:List Field)(j:Nat)(kj:List IntKind)(lj:List Int)(X:List Value),YdV P j gs=some kj->lj.length=kj.length->X.drop j=YgB kj lj->
     (forIn gs PUnit.unit (fun(f:Field) (_:PUnit)=>(if f.name≠ "_" then do let a<-part f.type X.toArray f.offset;Instr.checkKey em 9999 f.type a;pure (ForInStep.yield PUnit.unit)else pure (ForInStep.yield PUnit.unit):Sem (ForInStep PUnit)))).run P w= .ok PUnit.unit w:=by
   intro gs
   induction gs with
   |nil=>intro j kj lj X _ _ _;simp
   |cons f gs ih=>
     intro j kj lj X hkj hlj hX
     simp only[YdV]at hkj
     split at hkj
     . rename_i hc
       simp only[YG2,beq_iff_eq,bne_iff_ne,ne_eq]at hc
       obtain⟨⟨c1,c2⟩,c3⟩:=hc
       split at hkj
       . rename_i kd hu
         obtain⟨kj',hk',rfl⟩:=YG1.1 hkj
         cases lj with
         |nil=>simp at hlj
         |cons x lj=>
           have hX':X.drop j= .int kd x::YgB kj' lj:=by rw[hX];rfl
           obtain⟨d1,d2⟩:=YaF hX'
           have hp:(part f.type X.toArray f.offset).run P w= .ok (.int kd x) w:=by
             rw[c2]
             exact Yef (b:=true) (by simp [Ygo,hu]) d1
           have hck:(Instr.checkKey em 9999 f.type (.int kd x)).run P w= .ok () w:=by
             unfold Instr.checkKey
             simp [run_underlying hu,Result.andThen]
           have ih':=ih (j+1) kj' lj X hk' (by simpa using hlj) d2
           simp only[List.forIn_cons,Sem.run_bind,ne_eq,c3,not_false_eq_true,if_true,hp,Result.andThen_ok,hck,Sem.run_pure]
           exact ih'
       . cases hkj
     . cases hkj
 have:=key fs.toList 0 kk l (YgB kk l) hi h1 rfl
 unfold Instr.checkKey
 simp only[Sem.run_bind,run_underlying hk,Result.andThen_ok,keyV]
 rw[<-Array.forIn_toList]
 simp [YgB]at this⊢
 rw[this]
 rfl
theorem Ykz{kk:List IntKind}{l:List Int}:Instr.sameBits 10000 (keyV kk l) (keyV kk l)=true:=by
 have h:∀(vs:List (IntKind×Int)),((vs.map fun p=>Value.int p.1 p.2).zip (vs.map fun p=>Value.int p.1 p.2)).all (fun(x,y)=>Instr.sameBits 9999 x y)=true:=by
   intro vs
   induction vs with
   |nil=>rfl
   |cons p r ih=>simp only[YHv,List.zip_cons_cons,List.all_cons,ih,Bool.and_true];simp [Instr.sameBits]
 unfold keyV Instr.sameBits
 simp only[beq_self_eq_true,Bool.true_and]
 exact h (kk.zip l)
theorem Yke:∀{kk:List IntKind}{cs:List SV}{p:Prop}{l:List Int}{vs:List Value},Ykd kk cs=some (p,l)->p->RepL w bs B cs vs->vs=YgB kk l/\l.length=kk.length
 | [],cs,p,l,vs,h,hp,hr=>by
   cases cs with
   |nil=>simp only[Ykd,Option.some.injEq,Prod.mk.injEq]at h;obtain⟨_,rfl⟩:=h;cases hr;exact⟨rfl,rfl⟩
   |cons=>simp [Ykd]at h
 |k::kk,cs,p,l,vs,h,hp,hr=>by
   cases cs with
   |nil=>simp [Ykd]at h
   |cons c cs=>
     cases c <;> simp only[Ykd,reduceCtorEq]at h
     rename_i k' x
     obtain⟨⟨q,r⟩,h1,h2⟩:=YG1.1 h
     simp only[Prod.mk.injEq]at h2
     obtain⟨rfl,rfl⟩:=h2
     obtain⟨rfl,hq⟩:=hp
     obtain⟨v,vs',rfl,g1,g2⟩:=hr.cons_inv
     obtain⟨rfl,hl⟩:=Yke h1 hq g2
     rw[g1.int_inv]
     exact⟨rfl,by simp [hl]⟩
theorem hp0{z:Cx0}{w':World}{J:Nat->Option IK}{hJ:Ext z J}(h:∀(b:Nat) (K:IK),J b=some K->∃o,w'.heap[b]? =some o/\K.ok o):Hp w' [] (z.wI J hJ).bd []:=
 ⟨rfl,fun i=> .inr (by simp),fun _ _ _ _ _ _ _ h=>by simp at h,fun _ _ _ _ h=>by simp at h,fun b K hb=>⟨YbJ,h b K hb⟩⟩
theorem Yag(z:Cx0):Ext z z.I:=⟨fun _ _=>rfl,fun _ _ h=>h⟩
def POk(P:Program)(ρ:Operand->Value)(op:Op)(w:World)(B:Bd)(k:SV->List HO->Prop):Prop:=
 ∃r v w' x J,∃hJ:Ext (B.cx w) J,(∀dst type pos after guard,(execOp ρ ⟨dst,op,type,pos,after,guard⟩).run P w= .ok r w')/\(r= .value v\/(r= .skip/\v=undef))/\k x []/\
   Rep w' [] ((B.cx w).wI J hJ).bd x v/\Hp w' [] ((B.cx w).wI J hJ).bd []/\BelowI (B.cx w).bd w w'/\Yj x
theorem Ygy{b:Nat}{o:Obj}{K:IK}(hw:Wrote w w' b o)(hI:B.I b=some K):BelowI (B.cx w).bd w w':=
 ⟨hw.os,hw.tape,hw.output,YH2 hw.size.symm,fun k hk hIk=>hw.other k (by rintro rfl;have h:B.I k=none:=hIk;rw[hI]at h;cases h)⟩
theorem YmD(hH:Hp w bs B hp){b:Nat}{o:Obj}{K:IK}(hw:Wrote w w' b o)(hI:B.I b=some K)(ho:K.ok o):∀(b:Nat)(K:IK),B.I b=some K->∃o,w'.heap[b]? =some o/\K.ok o:=by
 intro b' K' hI'
 by_cases hb:b'=b
 . subst hb
   rw[hI]at hI';cases hI'
   exact⟨o,hw.at_,ho⟩
 . obtain⟨_,o',h1,h2⟩:=hH.reg b' K' hI'
   exact⟨o',by rw[hw.other b' hb];exact h1,h2⟩
theorem Ymr{b:Nat}{o o':Obj}(hb:w.heap[b]? =some o):Wrote w { w with heap:=w.heap.setIfInBounds b o'} b o':=by
 have hbl:b<w.heap.size:=(YHu.1 hb).1
 exact⟨rfl,rfl,rfl,by simp,by simp [hbl],fun r hr=>by simp [Ne.symm hr]⟩
inductive Yph (P:Program):Op->VO->List Operand->Prop where
 |load (t:TypeId) (a:Operand) (g:Bool) (s:Nat) (hg:YeR P t=some g) (hs:sizeOf? P t=some s) (hc:chk g s=true):Yph P (.load t a) (.load g s) [a]
 |store (t:TypeId) (a x:Operand) (s:Nat) (hs:sizeOf? P t=some s):Yph P (.store t a x) (.store s) [a,x]
 |mk (t:TypeId) (kk:List IntKind) (h:Ycp P t=some kk):Yph P (.makeMap t none) (.mkMap kk) []
 |get (t:TypeId) (m k:Operand) (kk:List IntKind) (h:Ycp P t=some kk):Yph P (.lookup t m k true) (.mapGet kk) [m,k]
 |put (t:TypeId) (m k x:Operand) (kk:List IntKind) (h:Ycp P t=some kk):Yph P (.mapUpdate t m k x) (.mapPut kk) [m,k,x]
theorem Ywt{op:BinOp}{t:TypeId}{v:VO}(hv:vbin P op t=some v)(xs:List SV):psd v xs=none:=by
 cases op <;> simp only[vbin]at hv
 . split at hv <;> cases hv;rfl
 . split at hv <;> cases hv;rfl
 . cases hv;rfl
 . cases hv;rfl
 . cases hv;rfl
 . cases hv;rfl
 . cases hv;rfl
 . cases hv;rfl
 . cases hv;rfl
 . cases hv;rfl
 . cases hv;rfl
 . split at hv
   . cases hv;rfl
   . split at hv
     . cases hv;rfl
     split at hv
     . cases hv;rfl
     . obtain⟨ks,hk,rfl⟩:=YG1.1 hv
       rfl
 . split at hv
   . cases hv;rfl
   . split at hv
     . cases hv;rfl
     split at hv
     . cases hv;rfl
     . obtain⟨ks,hk,rfl⟩:=YG1.1 hv
       rfl
 . cases hv;rfl
 . cases hv;rfl
 . cases hv;rfl
 . cases hv;rfl
theorem YBF{o:Oper}{vo:VO}{ops:List Operand}(hv:vop P o=some (vo,ops)):Yph P o.op vo ops\/∀xs,psd vo xs=none:=by
 obtain⟨dst,op,type,pos,after,guard⟩:=o
 unfold vop at hv
 simp only at hv
 split at hv
 . cases hv;exact .inr fun _=>rfl
 . cases hv;exact .inr fun _=>rfl
 . cases hv;exact .inr fun _=>rfl
 . split at hv
   . obtain⟨kk,hk,hv⟩:=YG1.1 hv
     cases hv;exact .inl (.mk _ kk hk)
   . split at hv <;> cases hv
     exact .inr fun _=>rfl
 . split at hv
   . cases hv;exact .inr fun _=>rfl
   . obtain⟨kk,hk,hv⟩:=YG1.1 hv
     cases hv;exact .inl (.put _ _ _ _ kk hk)
 . obtain⟨kk,hk,hv⟩:=YG1.1 hv
   cases hv;exact .inl (.get _ _ _ kk hk)
 . cases hv;exact .inr fun _=>rfl
 . cases hv;exact .inr fun _=>rfl
 . split at hv
   . obtain⟨z,hz,hv⟩:=YGX.1 hv
     obtain⟨s,hs,hv⟩:=YG1.1 hv
     cases hv;exact .inr fun _=>rfl
   . obtain⟨z,hz,hv⟩:=YG1.1 hv
     cases hv;exact .inr fun _=>rfl
 . cases hv;exact .inr fun _=>rfl
 . obtain⟨z,hz,hv⟩:=YGX.1 hv
   obtain⟨pl,hpl,hv⟩:=YGX.1 hv
   split at hv <;> cases hv
   exact .inr fun _=>rfl
 . obtain⟨g,hg,hv⟩:=YGX.1 hv
   obtain⟨s,hs,hv⟩:=YGX.1 hv
   split at hv <;> cases hv
   exact .inl (.load _ _ g s hg hs ‹_›)
 . obtain⟨s,hs,hv⟩:=YG1.1 hv
   cases hv
   exact .inl (.store _ _ _ s hs)
 . split at hv <;> cases hv
   exact .inr fun _=>rfl
 . split at hv <;> cases hv
   exact .inr fun _=>rfl
 . obtain⟨v,hb,hv⟩:=YG1.1 hv
   cases hv
   exact .inr (Ywt hb)
 . cases hv;exact .inr fun _=>rfl
 . cases hv;exact .inr fun _=>rfl
 . split at hv <;> cases hv
   exact .inr fun _=>rfl
 . obtain⟨fs,hfs,hv⟩:=YGX.1 hv
   obtain⟨fd,hfd,hv⟩:=YGX.1 hv
   obtain⟨z,hz,hv⟩:=YGX.1 hv
   split at hv <;> cases hv
   exact .inr fun _=>rfl
 . obtain⟨fs,hfs,hv⟩:=YGX.1 hv
   obtain⟨fd,hfd,hv⟩:=YGX.1 hv
   obtain⟨z,hz,hv⟩:=YGX.1 hv
   obtain⟨g,hg,hv⟩:=YGX.1 hv
   split at hv <;> cases hv
   exact .inr fun _=>rfl
 . split at hv
   . obtain⟨s,hs,hv⟩:=YG1.1 hv
     cases hv;exact .inr fun _=>rfl
   . obtain⟨s,hs,hv⟩:=YG1.1 hv
     cases hv;exact .inr fun _=>rfl
   . cases hv
 . split at hv
   . obtain⟨s,hs,hv⟩:=YGX.1 hv
     obtain⟨g,hg,hv⟩:=YGX.1 hv
     split at hv <;> cases hv
     exact .inr fun _=>rfl
   . cases hv;exact .inr fun _=>rfl
   . cases hv
 . split at hv
   . obtain⟨s,hs,hv⟩:=YG1.1 hv
     cases hv;exact .inr fun _=>rfl
   . obtain⟨s,hs,hv⟩:=YG1.1 hv
     cases hv;exact .inr fun _=>rfl
   . cases hv
 . split at hv
   . obtain⟨s,hs,hv⟩:=YG1.1 hv
     cases hv;exact .inr fun _=>rfl
   . cases hv
 . split at hv
   . obtain⟨s,hs,hv⟩:=YGX.1 hv
     obtain⟨b,hb,hv⟩:=YGX.1 hv
     obtain⟨z,hz,hv⟩:=YGX.1 hv
     split at hv <;> cases hv
     exact .inr fun _=>rfl
   . cases hv
 . split at hv
   . obtain⟨s,hs,hv⟩:=YGX.1 hv
     obtain⟨z,hz,hv⟩:=YGX.1 hv
     split at hv <;> cases hv
     exact .inr fun _=>rfl
   . cases hv
 . cases hv;exact .inr fun _=>rfl
 . split at hv
   . cases hv
   . cases hv;exact .inr fun _=>rfl
   . cases hv
 . cases hv;exact .inr fun _=>rfl
 . rename_i c
   split at hv
   . split at hv
     . cases hv;exact .inr fun _=>rfl
     . cases hv;exact .inr fun _=>rfl
   . cases hv;exact .inr fun _=>rfl
   . cases hv;exact .inr fun _=>rfl
   . split at hv
     . cases hv;exact .inr fun _=>rfl
     . cases hv;exact .inr fun _=>rfl
     . cases hv;exact .inr fun _=>rfl
     . cases hv;exact .inr fun _=>rfl
     . cases hv
   . cases hv;exact .inr fun _=>rfl
   . cases hv;exact .inr fun _=>rfl
   . split at hv
     . obtain⟨s,hs,hv⟩:=YGX.1 hv
       obtain⟨b,hb,hv⟩:=YGX.1 hv
       obtain⟨z,hz,hv⟩:=YGX.1 hv
       split at hv <;> cases hv
       exact .inr fun _=>rfl
     . cases hv
   . cases hv
 . cases hv
theorem YvK{t:TypeId}{a:Operand}{C:Int->Prop}{k:SV->List HO->Prop}(hg:YeR P t=some false)(hc:∀v,C v->k (.int .i64 v) [])(hx:Rep w bs B (.rcell C) (ρ a))(hH:Hp w bs B hp):POk P ρ (.load t a) w B k:=by
 obtain⟨n,D,j,b,rfl,hI,hj,hv⟩:=hx.rcell_inv
 obtain⟨_,o,ho,vs,T,rfl,hn,hall⟩:=hH.reg b _ hI
 obtain⟨v,hvv,hC⟩:=hall j hj
 refine⟨.value (.int .i64 v),.int .i64 v,w,.int .i64 v,B.I,Yag (B.cx w),fun dst type pos after guard=>?_,.inl rfl,hc v hC,.x _ _ (.int _ _),hp0 fun b K h=>(hH.reg b K h).2,BelowI.refl _ _,trivial⟩
 simp only[execOp,Instr.loadAt,hv,Instr.sureAddr,loadVar,Sem.run_bind,Sem.run_pure,Result.andThen_ok,YcH hg,YHm,if_false,run_load]
 have hcell:w.cell? ⟨b,j,none⟩=some (.int .i64 v):=by
   have h1:Cells w b 0 vs.toList:=⟨vs,T,(0,0),ho,fun q u hq=>by simpa using hq⟩
   have:=h1.cell (j:=j) (v:= .int .i64 v) (by simpa using hvv)
   simpa using this
 rw[hcell];rfl
theorem YtJ{t:TypeId}{a x:Operand}{C:Int->Prop}{v:Int}{k:SV->List HO->Prop}(hs:sizeOf? P t=some 1)(hC:C v)(hc:k .junk [])(hx:Rep w bs B (.rcell C) (ρ a))(hy:ρ x= .int .i64 v)(hH:Hp w bs B hp):POk P ρ (.store t a x) w B k:=by
 obtain⟨n,D,j,b,rfl,hI,hj,hv⟩:=hx.rcell_inv
 obtain⟨_,o,ho,vs,T,rfl,hn,hall⟩:=hH.reg b _ hI
 obtain⟨w',cs',hrun,hw,hcs⟩:=Ydt (P:=P) (ρ:=ρ) (x:=a) (y:=x) hs hv ho (by rw[hy];rfl) (by omega) (by rw[hy];simp [Value.cells,Value.oneCell'])
 have hcs':cs'.toList=vs.toList.set j (.int .i64 v):=by
   rw[hcs,hy]
   simp only[Value.cells,YG,YH1,List.length_nil]
   rw[List.set_eq_take_append_cons_drop,if_pos (by simp;omega)]
   simp
 have hok:(IK.ints n D).ok (.cells cs' T (0,0)):=by
   refine⟨cs',T,rfl,?_,fun q hq=>?_⟩
   . rw[<-Array.length_toList,hcs'];simpa using hn
   . rw[<-Array.getElem?_toList,hcs',List.getElem?_set]
     split
     . rename_i he
       subst he
       rw[if_pos (by simp;omega)]
       exact⟨v,rfl,hC⟩
     . obtain⟨u,h1,h2⟩:=hall q hq
       exact⟨u,by rw[Array.getElem?_toList];exact h1,h2⟩
 exact⟨.skip,undef,w',.junk,B.I,Yag (B.cx w),hrun,.inr ⟨rfl,rfl⟩,hc,.x _ _ (.junk _),hp0 (YmD hH hw hI hok),Ygy hw hI,trivial⟩
theorem YvP{t:TypeId}{kk:List IntKind}{k:SV->List HO->Prop}{C:List Int->Int->Prop}(hc:k (.imap kk C) [])(hH:Hp w bs B hp):POk P ρ (.makeMap t none) w B k:=by
 let J:Nat->Option IK:=fun b=>if b=w.heap.size then some (.map kk C)else B.I b
 have hJ:Ext (B.cx w) J:=⟨fun b hb=>by show(if b=w.heap.size then _ else _)=_;rw[if_neg (by have h:b<w.heap.size:=hb;omega)];rfl,fun b K hK=>by
   show(if b=w.heap.size then _ else _)=_
   have hK:B.I b=some K:=hK
   obtain⟨_,o,ho,_⟩:=hH.reg b K hK
   have:=(YHu.1 ho).1
   rw[if_neg (by omega)];exact hK⟩
 refine⟨.value (.map (some w.heap.size)),_,World.push w (.map #[] 0),.imap kk C,J,hJ,fun dst type pos after guard=>?_,.inl rfl,hc,.x _ _ (.imap _ _ _ (by show J _=_;simp [J])),hp0 fun b K hK=>?_,.of (Y7 (B:=(B.cx w).bd) _ (YG8 _)),trivial⟩
 . simp [execOp,Instr.makeMap,Result.andThen,run_newObj,World.push]
 . by_cases hb:b=w.heap.size
   . subst hb
     have:K= .map kk C:=by have h:J w.heap.size=some K:=hK;simp [J]at h;exact h.symm
     subst this
     exact⟨_,Ybm, #[],0,rfl,fun e he=>by simp at he⟩
   . have h:J b=some K:=hK
     simp only[J,if_neg hb]at h
     obtain⟨_,o,ho,hok⟩:=hH.reg b K h
     exact⟨o,YgX ho,hok⟩
theorem YsL{t:TypeId}{m y:Operand}{kk:List IntKind}{C:List Int->Int->Prop}{l:List Int}{k:SV->List HO->Prop}(ht:Ycp P t=some kk)(hc:∀r:Option Int,(∀v,r=some v->C l v)->k (.tup [.int .i64 (r.getD 0),.bool r.isSome]) [])
   (hx:Rep w bs B (.imap kk C) (ρ m))(hy:ρ y=keyV kk l)(hl:l.length=kk.length)(hH:Hp w bs B hp):POk P ρ (.lookup t m y true) w B k:=by
 obtain⟨b,hI,hv⟩:=hx.imap_inv
 obtain⟨_,o,ho,es,clock,rfl,hall⟩:=hH.reg b _ hI
 obtain⟨kt,et,fs,hu,hk,hst,hki,hz⟩:=YhM ht
 have hkeys:∀e∈es.toList,∃l,l.length=kk.length/\e.key=keyV kk l:=fun e he=>by
   obtain⟨l,v,h1,h2,_⟩:=hall e he;exact⟨l,h1,h2⟩
 have hwide:(match P.underlying kt with|some (.array _ _) |some (.struct _)=>true|_=>false)=true:=by rw[hk]
 have hfin:∀a,(Instr.findAsking kt (keyV kk l) es.toList 0).run P w= .ok a w->(Instr.findKey kt (keyV kk l) es.toList).run P w= .ok a w:=fun a h=>by rw[run_findKey_eq w hwide];exact h
 have fin:∀r:Option Int,(∀v,r=some v->C l v)->(∀dst type pos after guard,(execOp ρ ⟨dst,.lookup t m y true,type,pos,after,guard⟩).run P w= .ok (.value (.tuple #[.int .i64 (r.getD 0),.bool r.isSome])) w)->POk P ρ (.lookup t m y true) w B k:=fun r hr hrun=>
   ⟨_,.tuple #[.int .i64 (r.getD 0),.bool r.isSome],w,_,B.I,Yag (B.cx w),hrun,.inl rfl,hc r hr,.x _ _ (.tup _ _ (.cons _ _ _ _ (.int _ _) (.cons _ _ _ _ (.bool _) .nil))),hp0 fun b K h=>(hH.reg b K h).2,BelowI.refl _ _,by simp [Yj,Yk]⟩
 rcases Ycb (w:=w) hk hst hki hl es.toList 0 hkeys with h| ⟨j,e,h,h2,h3⟩
 . refine fin none (fun _ h=>by cases h) fun dst type pos after guard=>?_
   simp [execOp,Instr.lookup,run_underlying hu,hv,hy,MapKept.run_getObj_map ho,YeE hk hki hl,hfin _ h,Result.andThen,hz w]
 . obtain⟨l',v,g1,g2,g3,g4⟩:=hall e (List.mem_of_getElem? h2)
   have:l'=l:=YvA g1 hl (by rw[<-g2,h3])
   subst this
   refine fin (some v) (fun u hu=>by cases hu;exact g4) fun dst type pos after guard=>?_
   simp [execOp,Instr.lookup,run_underlying hu,hv,hy,MapKept.run_getObj_map ho,YeE hk hki hl,hfin _ h,Result.andThen,g3]
theorem YsM{t:TypeId}{m y x:Operand}{kk:List IntKind}{C:List Int->Int->Prop}{l:List Int}{v:Int}{k:SV->List HO->Prop}(ht:Ycp P t=some kk)(hC:C l v)(hc:k .junk [])
   (hx:Rep w bs B (.imap kk C) (ρ m))(hy:ρ y=keyV kk l)(hl:l.length=kk.length)(hxv:ρ x= .int .i64 v)(hH:Hp w bs B hp):POk P ρ (.mapUpdate t m y x) w B k:=by
 obtain⟨b,hI,hv⟩:=hx.imap_inv
 obtain⟨_,o,ho,es,clock,rfl,hall⟩:=hH.reg b _ hI
 obtain⟨kt,et,fs,hu,hk,hst,hki,hz⟩:=YhM ht
 have hkeys:∀e∈es.toList,∃l,l.length=kk.length/\e.key=keyV kk l:=fun e he=>by
   obtain⟨l,v,h1,h2,_⟩:=hall e he;exact⟨l,h1,h2⟩
 have hwide:(match P.underlying kt with|some (.array _ _) |some (.struct _)=>true|_=>false)=true:=by rw[hk]
 have hfin:∀a,(Instr.findAsking kt (keyV kk l) es.toList 0).run P w= .ok a w->(Instr.findKey kt (keyV kk l) es.toList).run P w= .ok a w:=fun a h=>by rw[run_findKey_eq w hwide];exact h
 have fin:∀(es':Array MapEntry)(clock':Nat),(∀dst type pos after guard,(execOp ρ ⟨dst,.mapUpdate t m y x,type,pos,after,guard⟩).run P w= .ok .skip { w with heap:=w.heap.setIfInBounds b (.map es' clock')})->(∀e∈es'.toList,∃l v,l.length=kk.length/\e.key=keyV kk l/\e.val= .int .i64 v/\C l v)->POk P ρ (.mapUpdate t m y x) w B k:=fun es' clock' hrun hall'=>
   ⟨.skip,undef,_,.junk,B.I,Yag (B.cx w),hrun,.inr ⟨rfl,rfl⟩,hc,.x _ _ (.junk _),hp0 (YmD hH (Ymr ho) hI ⟨es',clock',rfl,hall'⟩),Ygy (Ymr ho) hI,trivial⟩
 rcases Ycb (w:=w) hk hst hki hl es.toList 0 hkeys with h| ⟨j,e,h,h2,h3⟩
 . refine fin (es.push { key:=keyV kk l,val:= .int .i64 v,born:=clock}) (clock+1) (fun dst type pos after guard=>?_) fun e he=>?_
   . simp [execOp,Instr.mapUpdate,run_underlying hu,hv,hy,hxv,MapKept.run_getObj_map ho,YeE hk hki hl,hfin _ h,Result.andThen,run_setObj_map _ ho]
   . simp only[Array.toList_push,YHz,YHF]at he
     rcases he with he|rfl
     . exact hall e he
     . exact⟨l,v,hl,rfl,rfl,hC⟩
 . have hj:es[j]? =some e:=by simpa using h2
   have hks:(Instr.keyThatStays (keyV kk l) (keyV kk l)).run P w= .ok (keyV kk l) w:=by simp [Instr.keyThatStays,Ykz]
   refine fin (es.modify j fun e=>{ e with key:=keyV kk l,val:= .int .i64 v}) clock (fun dst type pos after guard=>?_) fun e' he=>?_
   . simp [execOp,Instr.mapUpdate,run_underlying hu,hv,hy,hxv,MapKept.run_getObj_map ho,YeE hk hki hl,hfin _ h,hj,h3,hks,Result.andThen,run_setObj_map _ ho]
   . obtain⟨q,hq⟩:=List.mem_iff_getElem?.1 he
     rw[Array.getElem?_toList,Array.getElem?_modify]at hq
     split at hq
     . obtain⟨e0,_,rfl⟩:=YG1.1 hq
       exact⟨l,v,hl,rfl,rfl,hC⟩
     . exact hall e' (List.mem_of_getElem? (by rw[Array.getElem?_toList];exact hq))
theorem Yxf{o:Oper}{vo:VO}{ops:List Operand}{xs:List SV}{c:CRes}{k:SV->List HO->Prop}(hv:vop P o=some (vo,ops))(hp1:psd vo xs=some c)(hc:CSat c k)(hx:RepL w bs B xs (ops.map ρ))(hH:Hp w bs B hp):POk P ρ o.op w B k:=by
 have hcase:=YBF hv
 generalize o.op=op at hcase
 rcases hcase with h|h
 . cases h with
   |load t a g s hg hs hck=>
     unfold psd at hp1
     cases g with
     |true=>cases hp1
     |false=>
       simp only at hp1
       split at hp1 <;> cases hp1
       exact YvK hg hc (one1 hx) hH
   |store t a x s hs=>
     unfold psd at hp1
     simp only at hp1
     split at hp1 <;> cases hp1
     obtain⟨h1,h2⟩:=two hx
     obtain⟨⟨rfl,hC⟩,hc⟩:=hc
     exact YtJ hs hC hc h1 h2.int_inv hH
   |mk t kk ht=>
     unfold psd at hp1
     simp only at hp1
     split at hp1 <;> cases hp1
     obtain⟨C,hC⟩:=hc
     exact YvP hC hH
   |get t m y kk ht=>
     unfold psd at hp1
     simp only at hp1
     split at hp1
     . rename_i ks C cs
       obtain⟨⟨p,l⟩,hk,heq⟩:=YG1.1 hp1
       simp only at heq
       subst heq
       obtain⟨⟨rfl,hpp⟩,hc⟩:=hc
       obtain⟨h1,h2⟩:=two hx
       obtain⟨vs,h3,h4⟩:=h2.agg_inv
       obtain⟨rfl,h5⟩:=Yke hk hpp h4
       exact YsL ht hc h1 h3 h5 hH
     . cases hp1
   |put t m y x kk ht=>
     unfold psd at hp1
     simp only at hp1
     split at hp1
     . rename_i ks C cs v
       obtain⟨⟨p,l⟩,hk,heq⟩:=YG1.1 hp1
       simp only at heq
       subst heq
       obtain⟨⟨⟨rfl,hpp⟩,hC⟩,hc⟩:=hc
       obtain⟨v1,l1,e1,h1,hx⟩:=hx.cons_inv
       obtain⟨v2,l2,e2,h2,hx⟩:=hx.cons_inv
       obtain⟨v3,l3,e3,h3,hx⟩:=hx.cons_inv
       simp only[YHv,List.map_nil,List.cons.injEq]at e1
       obtain⟨r1,rfl⟩:=e1
       simp only[List.cons.injEq]at e2
       obtain⟨r2,rfl⟩:=e2
       simp only[List.cons.injEq]at e3
       obtain⟨r3,rfl⟩:=e3
       obtain⟨vs,h5,h6⟩:=h2.agg_inv
       obtain⟨rfl,h7⟩:=Yke hk hpp h6
       exact YsM ht hC hc (r1▸h1) (r2.trans h5) h7 (r3.trans h3.int_inv) hH
     . cases hp1
 . rw[h xs]at hp1;cases hp1
end
end Go.Vx
namespace Go.Vx
open Go.RowKit
section
variable {P:Program} {E:Env} {w0:Cx} {rd:Option Nat} {Pd:List Pend} {A:S->Prop} {s:S}
theorem YdN{d:Option Nat}{x:SV}(hd:∀p∈Pd,d≠some p.slot):er Pd (s.put d x)=(er Pd s).put d x:=by
 cases d with
 |none=>rfl
 |some n=>simp only[er,S.put];rw[YbL fun p hp e=>hd p hp (by rw[e])]
theorem YrO:∀{xs:List X},(∀p∈Pd,p.slot∉Yar xs)->(er Pd s).args xs=s.args xs
 | [],_=>rfl
 |x::l,h=>by
   simp only[S.args]
   rw[YrO fun p hp hm=>h p hp (by simp [Yar,hm])]
   cases x with
   |cn _=>rfl
   |tm n=>simp only[S.x,er];rw[Yco fun p hp e=>h p hp (by simp [Yar,X.slot,e])]
theorem YaI{d:Option Nat}{x:SV}(hd:∀p∈Pd,d≠some p.slot)(h:∀p∈Pd,getH s.hp p.idx=p.cells.ho/\setL s.fr p.slot (.ptr p.idx 0)=s.fr):
   ∀p∈Pd,getH (s.put d x).hp p.idx=p.cells.ho/\setL (s.put d x).fr p.slot (.ptr p.idx 0)=(s.put d x).fr:=fun p hp=>by
 refine⟨by rw[Yea];exact(h p hp).1,?_⟩
 cases d with
 |none=>exact(h p hp).2
 |some n=>
   show setL (setL s.fr n x) p.slot _=setL s.fr n x
   rw[YcI _ _ _ _ _ (fun e=>hd p hp (by rw[e])),(h p hp).2]
theorem Yga(h:∀p∈Pd,getH s.hp p.idx=p.cells.ho/\setL s.fr p.slot (.ptr p.idx 0)=s.fr):∀p∈Pd,p.idx<lenH s.hp:=fun p hp=>by
 rcases YHE p.idx (lenH s.hp)with h'|h'
 . exact h'
 . have:=(h p hp).1
   rw[Ybz _ _ h']at this;exact absurd this.symm (AL.ho_ne _)
theorem Ycm{ops:Array Oper}{κ:Kont}{i:Nat}{o:Oper}{a:Act}{w:World}{K:Act->World->Prop}(hi:ops[i]? =some o)(hw:Region.wanted o (yielded ops a.tmps)=true)(h:o.wpIn (Wd rd) 0 P a w K κ):wpOpIn (Wd rd) 0 P ops κ i K a w:=by
 unfold wpOpIn;simp only[hi,hw,if_true];exact h
theorem Yt4{ops:Array Oper}{κ:Kont}{i:Nat}{o:Oper}{a:Act}{w:World}{K:Act->World->Prop}(hi:ops[i]? =some o)(hw:Region.wanted o (yielded ops a.tmps)=false)(h:K (a.put o.dst undef) w):wpOpIn (Wd rd) 0 P ops κ i K a w:=by
 unfold wpOpIn;simp only[hi,hw];exact⟨fun _ _=>trivial,h⟩
theorem Ygf{all:Array Oper}{o:Oper}{v:VOp}(h:YgH P all o=some v):∃ops,vop P o=some (v.op,ops)/\X.ofs P ops=some v.xs/\(v.op.isCall=true->YbP o.op=true)/\v.dst=o.dst/\
   ((o.guard=none/\v.g=none)\/∃j b g,o.guard=some (j,b)/\Ymt all j=some g/\v.g=some (g,b)):=by
 unfold YgH at h
 obtain⟨⟨vo,ops⟩,h1,h⟩:=YGX.1 h
 obtain⟨xs,h2,h⟩:=YGX.1 h
 split at h
 . cases h
 . rename_i hne
   have hne:vo.isCall=true->YbP o.op=true:=by simpa using hne
   split at h
   . cases h;exact⟨ops,h1,h2,hne,rfl,.inl ⟨‹_›,rfl⟩⟩
   . obtain⟨g,hg,rfl⟩:=YG1.1 h
     exact⟨ops,h1,h2,hne,rfl,.inr ⟨_,_,g,‹_›,hg,rfl⟩⟩
theorem Yka{o:VO}{xs:List SV}{r:FuncId×List SV}(h:callee E o xs=some r):o.isCall=true:=by
 unfold callee at h
 split at h <;> first|rfl|cases h
theorem YC1{m n o:Nat}(h:m≠n):refs n (.ptr m o)=false:=by
 show YHC m n=false
 cases hb:YHC m n with
 |false=>rfl
 |true=>exact absurd (YHk hb) h
theorem Yd9{b:Nat}:∀{l:List SV},Yhs l=true->Ym b l=l
 | [],_=>rfl
 |x::l,h=>by
   simp only[Yhs,YG2]at h
   simp only[Ym,YeB (Yi5 h.1),Yd9 h.2]
theorem Ynf{b:Nat}{z:AL}(h:z.clean=true):YfJ b z.ho=z.ho:=by
 cases z with
 |box c=>simp only[AL.ho,YfJ,Yd9 (show Yhs c=true from h)]
 |arr n sz c=>
   have:(fun k=>Ym b (YaW sz c k))=YaW sz c:=by
     funext k
     unfold YaW
     rw[<-Ye8,<-Ydp,Yd9 (show Yhs c=true from h)]
   simp only[AL.ho,YfJ,this]
theorem Yi3(b:Nat):∀(hp:List HO)(i:Nat)(h:HO),YaJ b (setH hp i h)=setH (YaJ b hp) i (YfJ b h)
 | [],_,_=>rfl
 |x::l,0,h=>by cases x <;> cases h <;> rfl
 |x::l,i+1,h=>by
   have:=Yi3 b l i h
   cases x <;> simp only[setH,YaJ,this]
theorem YdU(b:Nat)(fr:List SV):∀(Pd:List Pend),YM (Ym b fr) Pd=Ym b (YM fr Pd)
 | []=>rfl
 |p::l=>by rw[YM,YM,YdU b fr l,YeA];rfl
theorem Yfu(b:Nat)(hp:List HO):∀(Pd:List Pend),Yv (YaJ b hp) Pd=YaJ b (Yv hp Pd)
 | []=>rfl
 |p::l=>by rw[Yv,Yv,Yfu b hp l,Yi3];rfl
theorem YDo{b:Nat}{ho:HO}(hne:∀p∈Pd,p.idx≠b):er Pd (s.upd (.app b ho))=(er Pd s).upd (.app b ho):=by
 simp only[er,S.upd]
 rw[YdU,Ye0 hne,Yfu]
theorem Yml{hp hp':List HO}{x:SV}(h:∀b,blk x=some b->getH hp' b=getH hp b):Ydz hp' x=Ydz hp x:=by
 cases x <;> try rfl
 case own i lo n sz=>simp only[Ydz,h i rfl]
theorem Ypk{hp hp':List HO}{n n':Nat}(hn:n'=n){o:VO}(ha:o.isAppend=true){xs:List SV}(h:∀y∈xs,∀b,blk y=some b->getH hp' b=getH hp b):eff hp' n' o xs=eff hp n o xs:=by
 subst hn
 cases o <;> simp only[VO.isAppend,reduceCtorEq]at ha
 rcases xs with _| ⟨a,_| ⟨x,_| ⟨c,l⟩⟩⟩ <;> try rfl
 have h1:=Yml (h x (by simp))
 have h2:=h a (by simp)
 cases a <;> try rfl
 . simp only[eff,Yb3,h1]
 . rename_i i lo n sz
   have:=h2 i rfl
   cases lo with
   |zero=>simp only[eff,Yb3,h1,this]
   |succ _=>rfl
 . rename_i y
   have:=Yml (x:=y) (fun b hb=>h2 b hb)
   simp only[eff,Yb3,h1,this]
theorem Ytq{w:World}{bs:List BK}{B:Bd}:∀{xs:List SV}{vs:List Value},RepL w bs B xs vs->∀{y:SV},y∈xs->∃v,Rep w bs B y v
 |_,_,.nil,y,hy=>by cases hy
 |_,_,.cons x v l vs h h',y,hy=>by
   rcases YHx.1 hy with rfl|hy
   . exact⟨v,h⟩
   . exact Ytq h' hy
theorem Ylz(hE:Yl P E){c0:Cx0}(hS:SatG P c0){all:Array Oper}{o:Oper}{v:VOp}{i:Nat}(hi:all[i]? =some o)(hv:YgH P all o=some v)(hs1:∀p∈Pd,p.slot∉v.reads)(hs2:∀p∈Pd,v.dst≠some p.slot)
   (hs3:v.op.isAppend=true->∀p∈Pd,p.cells.clean=true){κ:Kont}{a:Act}{sv:List Act}{w:World}(h:dopW E v A s){ks:List (Nat×Obj)}{J:Nat->Option IK}{hJ:Ext c0 J}(hR:PR ⟨c0.wI J hJ,ks⟩ Pd s a sv w):
   wpOpIn (Wd rd) 0 P all κ i (fun a' w'=> ∃s',A s'/\∃J',∃hJ':Ext c0 J',PR ⟨c0.wI J' hJ',ks⟩ Pd s' a' sv w') a w:=by
 obtain⟨ops,h1,h2,h3,h4,h5⟩:=Ygf hv
 obtain⟨hRl,hPd⟩:=hR
 obtain⟨bs,hf,hsv,hH,hb,hoth⟩:=id hRl
 have hB:c0.heap.size<=w.heap.size:=hb.size
 have hargs:(er Pd s).args v.xs=s.args v.xs:=YrO fun p hp hm=>hs1 p hp (by simp [VOp.reads,hm])
 have hx:RepL w bs (c0.wI J hJ).bd (s.args v.xs) (ops.map a.eval):=by rw[<-hargs];exact YuP (YaM hS hb hH) hf h2
 have hlen:lenH (er Pd s).hp=lenH s.hp:=Ybr Pd
 have hgs:∀g pol,v.g=some (g,pol)->getL (er Pd s).fr g=getL s.fr g:=fun g pol hg=>Yco fun p hp e=>hs1 p hp (by simp [VOp.reads,hg,e])
 have heq:∀(xs:List SV)(vs:List Value),v.op.quiet=true->RepL w bs (c0.wI J hJ).bd xs vs->eff (er Pd s).hp (lenH (er Pd s).hp) v.op xs=eff s.hp (lenH s.hp) v.op xs:=
   fun xs vs hq hxs=>YrM hq fun b hb=>(Yfw hH hxs hb).2
 unfold dopW at h
 cases hq:v.op.quiet with
 |true=>
   rw[hq]at h
   simp only[YhZ]at h
   cases hfe:fEff v s with
   |none=>rw[hfe]at h;exact h.elim
   |some r=>
     obtain⟨p,x⟩:=r
     rw[hfe]at h
     obtain⟨hp,hA⟩:=h
     unfold fEff at hfe
     rcases h5 with⟨hg,hvg⟩ | ⟨j,pol,g,hg,hsl,hvg⟩
     . rw[hvg]at hfe
       simp only at hfe
       cases he:eff s.hp (lenH s.hp) v.op (s.args v.xs)with
       |none=>rw[he]at hfe;cases hfe
       |some e=>
         obtain⟨q,y,u⟩:=e
         rw[he]at hfe
         cases u <;> try cases hfe
         rw[<-heq _ _ hq hx]at he
         obtain⟨r',val,w',bs',hrn,hr,k1,k2,k3,k4,k5⟩:=YmA (ρ:=a.eval) h1 he hp hx (fun _=>rfl) (fun _=>rfl) hH hB
         refine Ycm hi (by simp [Region.wanted,hg]) (Ybx (Yac h1) (hrn o.dst o.type o.pos o.after o.guard) hr ?_)
         refine⟨_,hA,J,hJ,?_,YaI hs2 hPd⟩
         rw[YdN hs2,<-h4]
         exact Yid (e:=⟨p,x,.no⟩) (op:=o.op) hf hsv hb hoth k1 k2 k3 k4 k5 v.dst
     . rw[hvg]at hfe
       simp only at hfe
       cases hgb:Yai (getL s.fr g) pol with
       |none=>rw[hgb]at hfe;cases hfe
       |some gb=>
         rw[hgb]at hfe
         simp only at hfe
         have hw:=Yj7 (w:=w) hf hg hsl (by rw[hgs g pol hvg];exact hgb)
         cases he:eff s.hp (lenH s.hp) v.op (Y1 v.op gb (s.args v.xs)).2 with
         |none=>rw[he]at hfe;cases hfe
         |some e=>
           obtain⟨q,y,u⟩:=e
           rw[he]at hfe
           cases u <;> try cases hfe
           obtain⟨hp1,hp2⟩:=hp
           cases gb with
           |true=>
             have hx':=YcN rfl hx hp1
             rw[<-heq _ _ hq hx']at he
             obtain⟨r',val,w',bs',hrn,hr,k1,k2,k3,k4,k5⟩:=YmA (ρ:=a.eval) h1 he (hp2 rfl) hx' (fun _=>rfl) (fun _=>rfl) hH hB
             refine Ycm hi hw (Ybx (Yac h1) (hrn o.dst o.type o.pos o.after o.guard) hr ?_)
             refine⟨_,hA,J,hJ,?_,YaI hs2 hPd⟩
             rw[YdN hs2,<-h4]
             exact Yid (e:=⟨q,.opt true y,.no⟩) (op:=o.op) hf hsv hb hoth (.optT _ _ k1) k2 k3 k4 k5 v.dst
           |false=>
             refine Yt4 hi hw ⟨_,hA,J,hJ,?_,YaI hs2 hPd⟩
             rw[YdN hs2,<-h4]
             exact Yeb hRl v.dst fun _ _ _=> .optF _
 |false=>
   rw[hq]at h
   simp only at h
   rcases h5 with⟨hg,hvg⟩ | ⟨j,pol,g,hg,hsl,hvg⟩
   . rw[hvg]at h
     simp only at h
     unfold YlM at h
     cases hc:callee E v.op (s.args v.xs)with
     |none=>
       rw[hc]at h
       simp only[psdW]at h
       have hlt:=Yga hPd
       cases hps:psd v.op (s.args v.xs)with
       |some c=>
         rw[hps]at h
         obtain⟨r,val,w',x,J2,hJ2,hrn,hr,hA,k1,k2,k3,k4⟩:=Yxf (ρ:=a.eval) h1 hps h hx hH
         refine Ycm hi (by simp [Region.wanted,hg]) (Ybx (Yac h1) (hrn o.dst o.type o.pos o.after o.guard) hr ?_)
         obtain⟨hJ3,hcr⟩:=Yem (al:=false) (z:=Bd.cx (c0.wI J hJ).bd w) (w0:=c0) (J1:=J) (hJ1:=hJ) (hJ:=hJ2) rfl hf hsv hH hb hoth v.dst k1 k2 k3 (fun _=>⟨k4,trivial⟩) (fun h=>by cases h)
         have hcr:=hcr _ fun _ h=>h
         have hPd':∀p∈Pd,getH ({ fr:=s.fr,saved:=s.saved,hp:=s.hp++Y2 (lenH s.hp) []}:S).hp p.idx=p.cells.ho/\setL ({ fr:=s.fr,saved:=s.saved,hp:=s.hp++Y2 (lenH s.hp) []}:S).fr p.slot (.ptr p.idx 0)=({ fr:=s.fr,saved:=s.saved,hp:=s.hp++Y2 (lenH s.hp) []}:S).fr:=fun p hp=>
           ⟨by rw[<-(hPd p hp).1];exact YgR _ _ _ (by rw[(hPd p hp).1];exact AL.ho_ne _),(hPd p hp).2⟩
         refine⟨_,hA,J2,hJ3,?_,YaI hs2 hPd'⟩
         rw[YdN hs2,<-h4]
         have:er Pd { fr:=s.fr,saved:=s.saved,hp:=s.hp++Y2 (lenH s.hp) []}= { fr:=(er Pd s).fr,saved:=(er Pd s).saved,hp:=(er Pd s).hp++Y2 (lenH (er Pd s).hp) []}:=by
           rw[hlen];simp only[er];rw[Yde hlt]
         rw[this]
         rw[hlen]at hcr⊢
         exact hcr
       |none=>
       rw[hps]at h
       simp only at h
       cases hbad:v.op.bad with
       |true=>rw[hbad]at h;exact h.elim
       |false=>
       rw[hbad]at h
       simp only[badW,effW]at h
       cases he:eff s.hp (lenH s.hp) v.op (s.args v.xs)with
       |none=>rw[he]at h;exact h.elim
       |some e=>
         rw[he]at h
         obtain⟨hp,hA⟩:=h
         have he2:eff (er Pd s).hp (lenH (er Pd s).hp) v.op (s.args v.xs)=some e:=by
           rw[hlen,<-he]
           cases ha:v.op.isAppend with
           |true=>
             exact Ypk rfl ha fun y hy b hb=>by
               obtain⟨z,hz⟩:=Ytq hx hy
               obtain⟨k,h1,h2⟩:=YjI hz hb
               exact(Ykl hH h1 h2).2
           |false=>exact Yr7 hq ha hbad fun b hb=>(Yfw hH hx hb).2
         obtain⟨r',val,w',bs',hrn,hr,k1,k2,k3,k4,k5⟩:=YmA (ρ:=a.eval) h1 he2 hp hx (fun _=>rfl) (fun _=>rfl) hH hB
         refine Ycm hi (by simp [Region.wanted,hg]) (Ybx (Yac h1) (hrn o.dst o.type o.pos o.after o.guard) hr ?_)
         have hrel:=Yid (e:=e) (op:=o.op) hf hsv hb hoth k1 k2 k3 k4 k5 v.dst
         refine⟨_,hA,J,hJ,?_⟩
         cases ha:v.op.isAppend with
         |true=>
           have hcl:=hs3 ha
           rcases Yq4 ha he with⟨ho,hu⟩ | ⟨b,ho,hu,hk⟩
           . rw[hu]at hrel⊢
             have hlt:=Yga hPd
             have hPd':∀p∈Pd,getH (s.upd (.new ho)).hp p.idx=p.cells.ho/\setL (s.upd (.new ho)).fr p.slot (.ptr p.idx 0)=(s.upd (.new ho)).fr:=fun p hp=>
               ⟨by rw[<-(hPd p hp).1];exact Y8 _ _ _ (hlt p hp),(hPd p hp).2⟩
             refine⟨?_,YaI hs2 hPd'⟩
             rw[YdN hs2,<-h4]
             have:er Pd (s.upd (.new ho))=(er Pd s).upd (.new ho):=by
               simp only[er,S.upd];rw[YdS hlt]
             rw[this];exact hrel
           . have hne:=(Yfw hH hx hk).1
             rw[hu]at hrel⊢
             have hPd':∀p∈Pd,getH (s.upd (.app b ho)).hp p.idx=p.cells.ho/\setL (s.upd (.app b ho)).fr p.slot (.ptr p.idx 0)=(s.upd (.app b ho)).fr:=fun p hp=>by
               refine⟨?_,?_⟩
               . show getH (setH (YaJ b s.hp) b ho) p.idx=_
                 rw[YY _ _ _ _ (fun e=>hne p hp e.symm),Yet,(hPd p hp).1,Ynf (hcl p hp)]
               . show setL (Ym b s.fr) p.slot (.ptr p.idx 0)=Ym b s.fr
                 have e:=congrArg (Ym b) (hPd p hp).2
                 rw[YeA,YeB (YC1 (hne p hp))]at e
                 exact e
             refine⟨?_,YaI hs2 hPd'⟩
             rw[YdN hs2,<-h4]
             have:er Pd (s.upd (.app b ho))=(er Pd s).upd (.app b ho):=YDo hne
             rw[this];exact hrel
         |false=>
           cases hst:v.op.isStore with
           |true=>
             obtain⟨k,ho,hu,hk⟩:=Ymw hst he
             have hne:=(Yfw hH hx hk).1
             rw[hu]at hrel⊢
             have hPd':∀p∈Pd,getH (s.upd (.set k ho)).hp p.idx=p.cells.ho/\setL (s.upd (.set k ho)).fr p.slot (.ptr p.idx 0)=(s.upd (.set k ho)).fr:=fun p hp=>
               ⟨by rw[<-(hPd p hp).1];exact YY _ _ _ _ (fun e=>hne p hp e.symm),(hPd p hp).2⟩
             refine⟨?_,YaI hs2 hPd'⟩
             rw[YdN hs2,<-h4]
             have:er Pd (s.upd (.set k ho))=(er Pd s).upd (.set k ho):=by
               simp only[er,S.upd];rw[Ye0 hne]
             rw[this];exact hrel
           |false=>
             obtain⟨ho,hu⟩:=YsX hq hst ha hbad he
             rw[hu]at hrel⊢
             have hlt:=Yga hPd
             have hPd':∀p∈Pd,getH (s.upd (.new ho)).hp p.idx=p.cells.ho/\setL (s.upd (.new ho)).fr p.slot (.ptr p.idx 0)=(s.upd (.new ho)).fr:=fun p hp=>
               ⟨by rw[<-(hPd p hp).1];exact Y8 _ _ _ (hlt p hp),(hPd p hp).2⟩
             refine⟨?_,YaI hs2 hPd'⟩
             rw[YdN hs2,<-h4]
             have:er Pd (s.upd (.new ho))=(er Pd s).upd (.new ho):=by
               simp only[er,S.upd];rw[YdS hlt]
             rw[this];exact hrel
     |some fy=>
       obtain⟨f,ys⟩:=fy
       rw[hc]at h
       simp only[ctW]at h
       cases hct:E.ct f with
       |none=>rw[hct]at h;exact h.elim
       |some c=>
         rw[hct]at h
         obtain⟨hok,hen⟩:=hE.ct f c hct
         obtain⟨vs,hys,hrun⟩:=YfX hE.meth h1 (h3 (Yka hc)) hc hx (fun _=>rfl) hen
         refine Ycm hi (by simp [Region.wanted,hg]) (Ya6 (Yac h1) hrun ?_)
         obtain⟨z,hzw,hzI,hargs2,hal,hzF⟩:=Yc7 c.alias (hpV hH) hB 3 hys h.1
         subst hzw
         refine(hok _ vs z _ ⟨fun b K hb=>(hH.reg b K (by rw[hzI]at hb;exact hb)).2,YfN (YaM (hJ:=hJ) hS hb hH) rfl hzF⟩ hargs2 h.2).mono ?_
         rintro e w' ⟨r,hs,val,bs2,J2,hJ2,hA,rfl,k1,k2,k3,k4⟩
         obtain⟨hJ3,hcr⟩:=Yem (w0:=c0) (J1:=J) (hJ1:=hJ) (hJ:=hJ2) hzI hf hsv hH hb hoth v.dst k1 k2 k3 k4 hal
         have hcr:=hcr _ fun _ h=>h
         have hlt:=Yga hPd
         have hPd':∀p∈Pd,getH ({ fr:=s.fr,saved:=s.saved,hp:=s.hp++Y2 (lenH s.hp) hs}:S).hp p.idx=p.cells.ho/\setL ({ fr:=s.fr,saved:=s.saved,hp:=s.hp++Y2 (lenH s.hp) hs}:S).fr p.slot (.ptr p.idx 0)=({ fr:=s.fr,saved:=s.saved,hp:=s.hp++Y2 (lenH s.hp) hs}:S).fr:=fun p hp=>
           ⟨by rw[<-(hPd p hp).1];exact YgR _ _ _ (by rw[(hPd p hp).1];exact AL.ho_ne _),(hPd p hp).2⟩
         refine⟨_,hA,J2,hJ3,?_,YaI hs2 hPd'⟩
         rw[YdN hs2,<-h4]
         have:er Pd { fr:=s.fr,saved:=s.saved,hp:=s.hp++Y2 (lenH s.hp) hs}= { fr:=(er Pd s).fr,saved:=(er Pd s).saved,hp:=(er Pd s).hp++Y2 (lenH (er Pd s).hp) hs}:=by
           rw[hlen];simp only[er];rw[Yde hlt]
         rw[this]
         rw[hlen]at hcr⊢
         exact hcr
   . rw[hvg]at h
     simp only at h
     unfold YhE at h
     cases hgb:Yai (getL s.fr g) pol with
     |none=>rw[hgb]at h;exact h.elim
     |some gb=>
       rw[hgb]at h
       simp only[ctGW]at h
       have hw:=Yj7 (w:=w) hf hg hsl (by rw[hgs g pol hvg];exact hgb)
       cases hct:ctOf E v.op (Y1 v.op gb (s.args v.xs)).2 with
       |none=>rw[hct]at h;exact h.elim
       |some c=>
         rw[hct]at h
         obtain⟨c,ys⟩:=c
         obtain⟨hp1,hno,r,hA,hcs⟩:=h
         cases gb with
         |false=>
           refine Yt4 hi hw ⟨_,hA,J,hJ,?_,YaI hs2 hPd⟩
           rw[YdN hs2,<-h4]
           exact Yeb hRl v.dst fun _ _ _=> .optF _
         |true=>
           obtain⟨f,hcl,hct',hic⟩:=Yn9 hct
           obtain⟨hok,hen⟩:=hE.ct f c hct'
           obtain⟨vs,hys,hrn⟩:=YfX hE.meth h1 (h3 hic) hcl (YcN rfl hx hp1) (fun _=>rfl) hen
           refine Ycm hi hw (Ya6 (Yac h1) hrn ?_)
           obtain⟨z,hzw,hzI,hargs2,hal,hzF⟩:=Yc7 c.alias (hpV hH) hB 3 hys hno
           subst hzw
           refine(hok _ vs z _ ⟨fun b K hb=>(hH.reg b K (by rw[hzI]at hb;exact hb)).2,YfN (YaM (hJ:=hJ) hS hb hH) rfl hzF⟩ hargs2 (hcs rfl)).mono ?_
           rintro e w' ⟨r',hs,val,bs2,J2,hJ2,⟨rfl,rfl⟩,rfl,k1,k2,k3,k4⟩
           obtain⟨hJ3,hcr⟩:=Yem (w0:=c0) (J1:=J) (hJ1:=hJ) (hJ:=hJ2) hzI hf hsv hH hb hoth v.dst k1 k2 k3 k4 hal
           have hcr:=hcr (.opt true (shift (lenH (er Pd s).hp) r')) fun _ h=> .optT _ _ h
           have e0:({ fr:=(er Pd s).fr,saved:=(er Pd s).saved,hp:=(er Pd s).hp++Y2 (lenH (er Pd s).hp) []}:S)=er Pd s:=by simp [Y2]
           rw[e0]at hcr
           refine⟨_,hA,J2,hJ3,?_,YaI hs2 hPd⟩
           rw[YdN hs2,<-h4,<-hlen]
           exact hcr
end
end Go.Vx
namespace Go.Vx
open Go.RowKit
section
variable {P:Program} {E:Env} {w:World} {w0:Cx} {rd:Option Nat} {Pd:List Pend} {A:S->Prop} {s:S} {bs:List BK} {B:Bd} {hp hp':List HO}
theorem Ycc{cs:Array Value}{T:TypeId}{cap n i:Nat}:Keeps w bs (World.push w (.cells cs T (0,0))) (bs.set i (.blk w.heap.size cap n)):=by
 intro b hf o ho
 refine⟨YgX ho,fun j b' c m h=>?_⟩
 have hb:b<w.heap.size:=(YHu.1 ho).1
 rw[List.getElem?_set]at h
 split at h
 . split at h
   . cases h;omega
   . cases h
 . exact hf j b' c m h
theorem Ymq{i:Nat}{x:BK}{e:Option Nat}(hg:bs[i]? =some .gone\/bs[i]? =none):Stays e bs (bs.set i x):=by
 intro j y _ h hy
 rw[List.getElem?_set]
 split
 . rename_i hij
   subst hij
   rcases hg with hg|hg
   . rw[hg]at h;cases h;exact absurd rfl hy
   . rw[hg]at h;cases h
 . exact h
theorem YyT(hH:Hp w bs B hp)(hB:B<=w.heap.size){cs:Array Value}{T:TypeId}{i:Nat}{c0 m0:Nat}(hi:i<lenH hp)(hg:getH hp i= .gone)(hl:lenH hp'=lenH hp)(hne:∀j,j≠i->getH hp' j=getH hp j)
   (h:HRep (World.push w (.cells cs T (0,0))) (bs.set i (.blk w.heap.size c0 m0)) B i (getH hp' i)):
   Hp (World.push w (.cells cs T (0,0))) (bs.set i (.blk w.heap.size c0 m0)) B hp':=by
 have hlt:∀(i b c m:Nat),bs[i]? =some (.blk b c m)->b<w.heap.size:=fun i b c m h=>(hH.lo i b c m h).2
 have hgo:bs[i]? =some .gone\/bs[i]? =none:=by have:=hH.ent i;rw[hg]at this;exact this
 have hib:i<bs.length:=by rw[hH.len];exact hi
 refine⟨by simp [hH.len,hl],fun j=>?_,fun j k b c m c' m' h1 h2=>?_,fun j b c m h1=>?_,YaK Ycc hH.reg⟩
 . by_cases hij:j=i
   . subst hij;exact h
   . rw[hne j hij]
     refine(hH.ent j).keep Ycc (Ymq hgo) ?_ ?_
     . rw[List.getElem?_set,if_neg (Ne.symm hij)]
     . intro b c m hb
       have:=hlt j b c m hb
       simp only[World.push,Array.getElem?_push]
       rw[if_neg (by omega)]
 . rw[List.getElem?_set]at h1 h2
   split at h1 <;> split at h2
   . omega
   . first| (rw[if_pos hib]at h1;cases h1) |cases h1
     have:=hlt k _ _ _ h2;omega
   . first| (rw[if_pos hib]at h2;cases h2) |cases h2
     have:=hlt j _ _ _ h1;omega
   . exact hH.inj j k b c m c' m' h1 h2
 . have hs:(World.push w (.cells cs T (0,0))).heap.size=w.heap.size+1:=by simp [World.push]
   rw[List.getElem?_set]at h1
   split at h1
   . first| (rw[if_pos hib]at h1;cases h1) |cases h1;omega
   . have:=hH.lo j b c m h1;omega
theorem YfO:∀(l:List SV)(n:Nat)(x y:SV),setL (setL l n x) n y=setL l n y
 | [],_,_,_=>rfl
 |_::_,0,_,_=>rfl
 |a::l,n+1,x,y=>congrArg (a::·) (YfO l n x y)
def AL.is(P:Program)(elem:TypeId):AL->Prop
 | .box z=>Yan P elem=some z
 | .arr n size z=>Yan P elem=some z/\lenL z=n*size
def AL.z:AL->List SV
 | .box z=>z
 | .arr _ _ z=>z
def AL.n:AL->Nat
 | .box _=>0
 | .arr n _ _=>n
theorem AL.is_z{elem:TypeId}:∀{x:AL},x.is P elem->Yan P elem=some x.z
 | .box _,h=>h
 | .arr _ _ _,h=>h.1
theorem Ypi{p:Pend}{o:Oper}{elem:TypeId}{i:Nat}{all:Array Oper}(hi:all[i]? =some o)(hop:o.op= .alloc elem)(hgd:o.guard=none)(hz:p.cells.is P elem)(hdst:o.dst=some p.slot)
   (hidx:∀q∈Pd,q.idx≠p.idx)(hslot:∀q∈Pd,q.slot≠p.slot){κ:Kont}{a:Act}{sv:List Act}{K:Act->World->Prop}
   (hR:PR w0 (p::Pd) s a sv w)(h:∀a' w',PR w0 Pd s a' sv w'->K a' w'):wpOpIn (Wd rd) 0 P all κ i K a w:=by
 obtain⟨⟨bs,hf,hsv,hH,hb,hoth⟩,hPd⟩:=hR
 have hB:w0.heap.size<=w.heap.size:=hb.size
 obtain⟨v,hv,hr⟩:=Yab (P:=P) (w:=w) (bs:=bs) (B:=w0.bd) (AL.is_z hz)
 obtain⟨hp1,hp2⟩:=hPd p YHh
 have hlt:p.idx<lenH s.hp:=Yga hPd p YHh
 have hg:getH (Yv s.hp (p::Pd)) p.idx= .gone:=YdQ YHh
 have hgo:bs[p.idx]? =some .gone\/bs[p.idx]? =none:=by have:=hH.ent p.idx;simp only[er]at this;rw[hg]at this;exact this
 have hlen:bs.length=lenH s.hp:=by rw[hH.len];exact Ybr _
 have hget:(bs.set p.idx (BK.blk w.heap.size p.cells.n p.cells.n))[p.idx]? =some (.blk w.heap.size p.cells.n p.cells.n):=by
   rw[List.getElem?_set,if_pos rfl,if_pos (by omega)]
 have hst:∀e,Stays e bs (bs.set p.idx (.blk w.heap.size p.cells.n p.cells.n)):=fun e=>Ymq hgo
 have hrun:(execOp a.eval o).run P w= .ok (.value (.pointer (some ⟨w.heap.size,0,none⟩))) (World.push w (.cells v.cells elem (0,0))):=by
   obtain⟨dst,op,type,pos,after,guard⟩:=o
   simp only at hop
   subst hop
   simp [execOp,Instr.alloc,hv,newVar,newRow,World.push]
 refine Ycm hi (by simp [Region.wanted,hgd]) (Ybx (by rw[hop];intro c h;cases h) hrun (.inl rfl) (h _ _ ⟨⟨bs.set p.idx (.blk w.heap.size p.cells.n p.cells.n),?_,?_,?_,?_,by rw[YHv,Yca];exact hoth.keep Ycc⟩,fun q hq=>hPd q (YHg _ hq)⟩))
 . have hfr:(er Pd s).fr=(S.put (er (p::Pd) s) (some p.slot) (.ptr p.idx 0)).fr:=by
     simp only[er,S.put,YM,YfO]
     rw[<-YbL hslot,hp2]
   rw[hfr,hdst]
   exact YhY (hf.keep Ycc (hst none) Yh) (.ptr _ _ _ _ hget)
 . exact RepLL.keep Ycc (hst none) hsv
 . refine YyT hH hB (by simp only[er];rw[Ybr];exact hlt) hg (by simp only[er];rw[Ybr,Ybr]) (fun j hj=>?_) ?_
   . simp only[er,Yv]
     rw[YY _ _ _ _ (Ne.symm hj)]
   . simp only[er]
     rw[YdR hidx,hp1]
     revert hget hst hz hr
     cases p.cells with
     |box z=>exact fun hz hr hget hst=>⟨_,_,_,hget,Ybm,hr.keep Ycc (hst none) Yh⟩
     |arr n size z=>
       intro hz hr hget hst
       refine .inr ⟨_,n,_,_,hget,rfl,Ybm,?_,YG8 _,fun k _=>YgM (hr.keep Ycc (hst none) Yh) size k⟩
       show _=n*size
       have hl:=hz.2
       have hl2:=hr.length
       simp only[AL.z]at hl2
       rw[<-hl,hl2];simp
 . exact hb.trans (.of (Y7 (B:=w0.bd) _ hB))
end
end Go.Vx
namespace Go.Vx
open Go.RowKit
section
variable {P:Program} {E:Env} {w:World} {w0:Cx} {rd:Option Nat} {Pd Pd':List Pend} {A:S->Prop} {s:S} {bs:List BK} {B:Bd} {hp hp':List HO}
theorem YcC:Keeps w bs w (bs++[.gone]):=by
 intro b hf o ho
 refine⟨ho,fun i b' c m h=>?_⟩
 rw[YHY]at h
 split at h
 . exact hf i b' c m h
 . rw[List.getElem?_singleton]at h;split at h <;> cases h
theorem Yy3(hH:Hp w bs B hp):Hp w (bs++[.gone]) B (YbR hp .gone):=by
 have hst:∀e,Stays e bs (bs++[.gone]):=fun e=>Yr _ _
 have hget:∀(i b c m:Nat),(bs++[BK.gone])[i]? =some (.blk b c m)->bs[i]? =some (.blk b c m):=by
   intro i b c m h
   rw[YHY]at h
   split at h
   . exact h
   . rw[List.getElem?_singleton]at h;split at h <;> cases h
 refine⟨by simp [hH.len,Ybs],fun i=>?_,fun i j b c m c' m' h1 h2=>hH.inj i j b c m c' m' (hget _ _ _ _ h1) (hget _ _ _ _ h2),fun i b c m h1=>hH.lo i b c m (hget _ _ _ _ h1),YaK YcC hH.reg⟩
 rcases Nat.lt_trichotomy i (lenH hp)with hi|hi|hi
 . rw[Y8 _ _ _ hi]
   exact(hH.ent i).keep YcC (hst _) (by rw[YHP (by rw[hH.len];exact hi)]) (fun _ _ _ _=>rfl)
 . subst hi;rw[Ybp];exact .inl (Yaa hH)
 . rw[Ybz _ _ (by rw[Ybs];omega)]
   right
   rw[List.getElem?_eq_none];simp [hH.len];omega
theorem RepL.junkAt:∀{l:List SV}{vs:List Value}(_:RepL w bs B l vs)(n:Nat),RepL w bs B (setL l n .junk) vs
 |_,_,.nil,n=>by cases n <;> exact .nil
 |_,_,.cons _ _ _ _ _ h',0=> .cons _ _ _ _ (.x _ _ (.junk _)) h'
 |_,_,.cons _ _ _ _ h h',n+1=> .cons _ _ _ _ h (RepL.junkAt h' n)
theorem Ygu:∀(l:List HO)(x y:HO),setH (YbR l x) (lenH l) y=YbR l y
 | [],_,_=>rfl
 |a::l,x,y=>congrArg (a::·) (Ygu l x y)
theorem YvZ{a:Act}{sv:List Act}(hR:PR w0 Pd s a sv w){d:Nat}{z:AL}(hd:∀q∈Pd,q.slot≠d):
   PR w0 (⟨lenH s.hp,d,z⟩::Pd) ((s.upd (.new z.ho)).put (some d) (.ptr (lenH s.hp) 0)) a sv w:=by
 obtain⟨⟨bs,hf,hsv,hH,hb,hoth⟩,hPd⟩:=hR
 have hlt:=Yga hPd
 refine⟨⟨bs++[.gone],?_,?_,?_,hb,hoth.keep YcC⟩,fun p hp=>?_⟩
 . have e:(er (⟨lenH s.hp,d,z⟩::Pd) ((s.upd (.new z.ho)).put (some d) (.ptr (lenH s.hp) 0))).fr=setL (er Pd s).fr d .junk:=by
     show setL (YM (setL s.fr d (.ptr (lenH s.hp) 0)) Pd) d .junk=setL (YM s.fr Pd) d .junk
     rw[YbL hd,YfO]
   rw[e]
   exact(hf.junkAt d).keep YcC (Yr _ none) Yh
 . exact RepLL.keep YcC (Yr _ none) hsv
 . have e:(er (⟨lenH s.hp,d,z⟩::Pd) ((s.upd (.new z.ho)).put (some d) (.ptr (lenH s.hp) 0))).hp=YbR (er Pd s).hp .gone:=by
     show setH (Yv (YbR s.hp z.ho) Pd) (lenH s.hp) .gone=YbR (Yv s.hp Pd) .gone
     rw[YdS hlt]
     have:=Ygu (Yv s.hp Pd) z.ho .gone
     rw[Ybr]at this
     exact this
   rw[e]
   exact Yy3 hH
 . rcases YHx.1 hp with rfl|hp
   . exact⟨Ybp _ _,YfO _ _ _ _⟩
   . refine⟨?_,?_⟩
     . show getH (YbR s.hp z.ho) p.idx=_
       rw[Y8 _ _ _ (hlt p hp)];exact(hPd p hp).1
     . show setL (setL s.fr d _) p.slot _=setL s.fr d _
       rw[YcI _ _ _ _ _ (fun e=>hd p hp e.symm),(hPd p hp).2]
def Yv0:Nat->List (Nat×AL)->List Pend->List Pend
 |_,[],Pd=>Pd
 |n,(d,z)::l,Pd=>Yv0 (n+1) l (⟨n,d,z⟩::Pd)
def Yfp:List (Nat×AL)->List Nat->Bool
 | [],_=>true
 | (d,_)::l,ds=>!ds.contains d&&Yfp l (d::ds)
theorem YoK{a:Act}{sv:List Act}:∀(al:List (Nat×AL))(Pd:List Pend)(s:S),Yfp al (Pd.map (·.slot))=true->PR w0 Pd s a sv w->PR w0 (Yv0 (lenH s.hp) al Pd) (Yin s al) a sv w
 | [],_,_,_,h=>h
 | (d,z)::l,Pd,s,hdis,h=>by
   simp only[Yfp,YG2,YHn]at hdis
   have hd:∀q∈Pd,q.slot≠d:=by
     intro q hq he
     have:(Pd.map (·.slot)).contains d=true:=by
       rw[List.contains_iff_mem,YIa];exact⟨q,hq,he⟩
     rw[hdis.1]at this;cases this
   have:=YoK l (⟨lenH s.hp,d,z⟩::Pd) _ (by simpa using hdis.2) (YvZ h (z:=z) hd)
   have hl:lenH ((s.upd (.new z.ho)).put (some d) (.ptr (lenH s.hp) 0)).hp=lenH s.hp+1:=Ybs _ _
   rw[hl]at this
   exact this
theorem Yxd{a:Act}{sv:List Act}(h:Rl w0 s a sv w):PR w0 [] s a sv w:=⟨h,fun _ hp=>by cases hp⟩
theorem YyQ(p q:Pend)(l:List Pend):er (p::q::l) s=er (q::p::l) s:=by
 have h1:∀(fr:List SV),setL (setL fr q.slot .junk) p.slot .junk=setL (setL fr p.slot .junk) q.slot .junk:=fun fr=>by
   by_cases h:q.slot=p.slot
   . rw[h]
   . exact YcI _ _ _ _ _ h
 have h2:∀(hp:List HO),setH (setH hp q.idx .gone) p.idx .gone=setH (setH hp p.idx .gone) q.idx .gone:=fun hp=>by
   by_cases h:q.idx=p.idx
   . rw[h]
   . exact Yh3 _ _ _ _ _ h
 simp only[er,YM,Yv,h1,h2]
theorem YyO(p:Pend){l l':List Pend}(h:er l s=er l' s):er (p::l) s=er (p::l') s:=by
 simp only[er,S.mk.injEq,true_and]at h
 simp only[er,YM,Yv,h.1,h.2]
theorem YyP(h:Pd.Perm Pd'):er Pd s=er Pd' s:=by
 induction h with
 |nil=>rfl
 |cons p _ ih=>exact YyO p ih
 |swap p q l=>exact YyQ q p l
 |trans _ _ ih1 ih2=>exact ih1.trans ih2
theorem Ytc{a:Act}{sv:List Act}(h:Pd.Perm Pd')(hR:PR w0 Pd s a sv w):PR w0 Pd' s a sv w:=
 ⟨by rw[<-YyP h];exact hR.1,fun p hp=>hR.2 p (h.mem_iff.2 hp)⟩
end
end Go.Vx
namespace Go.Vx
open Go.RowKit
def Yaj(sil:List (Nat×Pend))(L:Array Bool):List Pend:=
 match sil with
 | []=>[]
 |x::r=>bif L.getD x.1 false then Yaj r L else x.2::Yaj r L
theorem mem_pendOf{p:Pend}{L:Array Bool}:∀{sil:List (Nat×Pend)},p∈Yaj sil L↔∃k,(k,p)∈sil/\L.getD k false=false
 | []=>by simp [Yaj]
 |x::r=>by
   unfold Yaj
   cases hl:L.getD x.1 false with
   |true=>
     simp only[cond_true]
     rw[mem_pendOf (sil:=r)]
     constructor
     . rintro⟨k,h1,h2⟩;exact⟨k,YHg _ h1,h2⟩
     . rintro⟨k,h1,h2⟩
       rcases YHx.1 h1 with rfl|h1
       . rw[hl]at h2;cases h2
       . exact⟨k,h1,h2⟩
   |false=>
     simp only[cond_false,YHx]
     rw[mem_pendOf (sil:=r)]
     constructor
     . rintro(rfl| ⟨k,h1,h2⟩)
       . exact⟨x.1,.inl rfl,hl⟩
       . exact⟨k,.inr h1,h2⟩
     . rintro⟨k,rfl|h1,h2⟩
       . exact .inl rfl
       . exact .inr ⟨k,h1,h2⟩
theorem Ye7{L:Array Bool}{i:Nat}:∀{sil:List (Nat×Pend)},(∀p,(i,p)∉sil)->Yaj sil (L.setIfInBounds i true)=Yaj sil L
 | [],_=>rfl
 |x::r,h=>by
   unfold Yaj
   have hx:i≠x.1:=by
     intro e
     exact h x.2 (by rw[e];exact YHh)
   rw[getD_set_ne false hx,Ye7 (sil:=r) fun p hp=>h p (YHg _ hp)]
theorem YhT{L:Array Bool}{i:Nat}{p:Pend}(hi:i<L.size)(hl:L.getD i false=false):∀{sil:List (Nat×Pend)},(sil.map (·.1)).Nodup->(i,p)∈sil->(Yaj sil L).Perm (p::Yaj sil (L.setIfInBounds i true))
 |x::r,hn,hm=>by
   rw[YHv,List.nodup_cons]at hn
   by_cases hx:x.1=i
   . have hp:x=(i,p):=by
       rcases YHx.1 hm with rfl|hm
       . rfl
       . exact absurd (YIa.2 ⟨_,hm,hx.symm⟩) hn.1
     subst hp
     have hr:∀q,(i,q)∉r:=fun q hq=>hn.1 (YIa.2 ⟨_,hq,rfl⟩)
     unfold Yaj
     simp only[hl,cond_false]
     have:(L.setIfInBounds i true).getD i false=true:=by simp [hi]
     rw[this,Ye7 hr]
     exact List.Perm.refl _
   . have hm':(i,p)∈r:=by
       rcases YHx.1 hm with rfl|hm
       . exact absurd rfl hx
       . exact hm
     have ih:=YhT hi hl hn.2 hm'
     unfold Yaj
     rw[getD_set_ne false (Ne.symm hx)]
     cases L.getD x.1 false with
     |true=>exact ih
     |false=>exact(List.Perm.cons _ ih).trans (List.Perm.swap _ _ _)
theorem YhS{n:Nat}:∀{sil:List (Nat×Pend)},Yaj sil (Array.replicate n false)=sil.map (·.2)
 | []=>rfl
 |x::r=>by
   unfold Yaj
   have:(Array.replicate n false).getD x.1 false=false:=by
     rcases YHE x.1 n with h'|h'
     . simp [h']
     . simp [Array.getElem?_eq_none,h']
   rw[this,YhS (sil:=r)]
   rfl
theorem Yit{md:Region.Mode}{ops:Array Oper}(hb:∀(i:Nat) (o:Oper),ops[i]? =some o->∀e∈o.after,Region.binds md e=true->e.on<i){L:Array Bool}(hd:Down md ops L)(hr:Region.ready md ops L=[]):
   ∀(N i:Nat),i<N->i<ops.size->L.getD i false=true
 |N+1,i,hi,hn=>by
   cases hl:L.getD i false with
   |true=>rfl
   |false=>
     have ho:ops[i]? =some ops[i]:=Array.getElem?_eq_getElem hn
     have hL:i<L.size:=by rw[hd.1];exact hn
     have:i∈Region.ready md ops L:=mem_ready.2 ⟨by simp [hL]at hl⊢;exact hl,_,ho,fun e he hbi=>by
       have:=hb i _ ho e he hbi
       exact Yit hb hd hr N e.on (by omega) (by omega)⟩
     rw[hr]at this;cases this
section
variable {P:Program} {E:Env} {G:VOp->(S->Prop)->S->Prop} {w0:Cx} {rd:Option Nat} {all:Array Oper} {tab:List DT} {sil:List (Nat×Pend)} {clo:Nat->Nat->Bool} {md:Region.Mode}
structure YxU (P:Program) (all:Array Oper) (tab:List DT) (sil:List (Nat×Pend)) (clo:Nat->Nat->Bool):Prop where
 nodup:(sil.map (·.1)).Nodup
 apart:∀x∈sil,∀y∈sil,x.1≠y.1->x.2.slot≠y.2.slot/\x.2.idx≠y.2.idx
 silent:∀(i d:Nat),tab[i]? =some (.silent d)->∃p o elem,(i,p)∈sil/\all[i]? =some o/\o.op= .alloc elem/\o.guard=none/\p.cells.is P elem/\o.dst=some p.slot
 op:∀(i:Nat)(v:VOp)(chk:List (Nat×X)),tab[i]? =some (.op v chk)->(∀p,(i,p)∉sil)/\(∃o,all[i]? =some o/\YgH P all o=some v)/\
   ∀x∈sil,(clo i x.1=true\/(x.2.slot∉v.reads/\(v.op.isAppend=true->x.2.cells.clean=true)))/\v.dst≠some x.2.slot
 loud:∀(i:Nat)(v:VOp),tab[i]? =some (.loud v)->sil=[]/\∃o,all[i]? =some o/\YgH P all o=some v
structure Yir (P:Program) (G:VOp->(S->Prop)->S->Prop) (rd:Option Nat) (all:Array Oper) (κ:Kont) (c0:Cx0) (ks:List (Nat×Obj)) (sv:List Act):Prop where
 sat:SatG P c0
 mono:∀v (A B:S->Prop) s,(∀s,A s->B s)->G v A s->G v B s
 ok:∀{i:Nat}{o:Oper}{v:VOp}{A:S->Prop}{s:S},all[i]? =some o->YgH P all o=some v->G v A s->∀{J:Nat->Option IK}{hJ:Ext c0 J}{a:Act}{w:World},Rl ⟨c0.wI J hJ,ks⟩ s a sv w->
   wpOpIn (Wd rd) 0 P all κ i (fun a' w'=> ∃s',A s'/\∃J',∃hJ':Ext c0 J',Rl ⟨c0.wI J' hJ',ks⟩ s' a' sv w') a w
theorem hop(hE:Yl P E)(hc:YxE md all clo)(hr:YxU P all tab sil clo){c0:Cx0}{ks:List (Nat×Obj)}{κ:Kont}{sv:List Act}(hG:Yir P G rd all κ c0 ks sv)(i:Nat)(L:Array Bool)(s:S)(A:S->Prop)(a:Act)(w:World)
   (hi:i∈Region.ready md all L)(h:Y4 E G tab i L A s)(hR:Down md all L/\∃J,∃hJ:Ext c0 J,PR ⟨c0.wI J hJ,ks⟩ (Yaj sil L) s a sv w):
   wpOpIn (Wd rd) 0 P all κ i (fun a' w'=> ∃s',A s'/\(Down md all (L.setIfInBounds i true)/\∃J,∃hJ:Ext c0 J,PR ⟨c0.wI J hJ,ks⟩ (Yaj sil (L.setIfInBounds i true)) s' a' sv w')) a w:=by
 obtain⟨hd,J,hJ,hR⟩:=hR
 have hd':=hd.set hi
 unfold Y4 at h
 cases ht:tab[i]? with
 |none=>rw[ht]at h;exact h.elim
 |some t=>
   rw[ht]at h
   cases t with
   |silent d=>
     obtain⟨p,o,elem,hm,ho,hop,hg,hz,hdst⟩:=hr.silent i d ht
     have hsz:i<L.size:=by rw[hd.1];exact(YHu.1 ho).1
     have hR':=Ytc (YhT hsz (Yec hi) hr.nodup hm) hR
     have hap:∀q∈Yaj sil (L.setIfInBounds i true),q.slot≠p.slot/\q.idx≠p.idx:=by
       intro q hq
       obtain⟨k,hk,hkl⟩:=mem_pendOf.1 hq
       refine hr.apart (k,q) hk (i,p) hm ?_
       rintro(rfl:k=i)
       simp [hsz]at hkl
     exact Ypi ho hop hg hz hdst (fun q hq=>(hap q hq).2) (fun q hq=>(hap q hq).1) hR' fun a' w' h'=>⟨s,h,hd',J,hJ,h'⟩
   |op v chk=>
     obtain⟨hns,⟨o,ho,hv⟩,hst⟩:=hr.op i v chk ht
     have hpend:∀p∈Yaj sil L,(p.slot∉v.reads/\(v.op.isAppend=true->p.cells.clean=true))/\v.dst≠some p.slot:=by
       intro p hp
       obtain⟨k,hk,hkl⟩:=mem_pendOf.1 hp
       obtain⟨h1,h2⟩:=hst (k,p) hk
       refine⟨h1.resolve_left fun hck=>?_,h2⟩
       have:=hc.ready L i k hd hi hck
       rw[hkl]at this;cases this
     refine wpOpIn_mono (fun a' w' ⟨s',h1,J',hJ',h2⟩=>⟨s',h1,hd',J',hJ',by rw[Ye7 hns];exact h2⟩) (Ylz hE hG.sat ho hv (fun p hp=>(hpend p hp).1.1) (fun p hp=>(hpend p hp).2) (fun ha p hp=>(hpend p hp).1.2 ha) h.2 hR)
   |loud v=>
     obtain⟨hsil,o,ho,hv⟩:=hr.loud i v ht
     have hpe:∀L,Yaj sil L=[]:=fun L=>by rw[hsil];rfl
     rw[hpe]at hR
     simp only[hpe]
     rcases h with h|h
     . exact wpOpIn_mono (fun a' w' ⟨s',h1,J',hJ',h2⟩=>⟨s',h1,hd',J',hJ',h2⟩) (Ylz hE hG.sat ho hv (fun p hp=>(by cases hp)) (fun p hp=>(by cases hp)) (fun ha p hp=>(by cases hp)) h hR)
     . exact wpOpIn_mono (fun a' w' ⟨s',h1,J',hJ',h2⟩=>⟨s',h1,hd',J',hJ',Yxd h2⟩) (hG.ok ho hv h hR.1)
theorem Ymm(hE:Yl P E)(hm:P.follows .mixedOrders=true){cl:List Nat}(hl:cl.length=all.size)(hcl:Ygj (Yz .any all) cl all.size=true)(hr:YxU P all tab sil (Yax cl)){free:Nat->Bool}
   (hfree:∀i,free i=true->(∃d,tab[i]? =some (.silent d))\/∃v,tab[i]? =some (.op v [])/\v.op.quiet=true/\∀(j:Nat) (t:DT),tab[j]? =some t->Yrz (Yax cl) i v j t=true)
   {K:S->Prop}{κ:Kont}{s:S}{a:Act}{sv:List Act}{w:World}{id:Nat}
   (h:(∀(j:Nat) (L:Array Bool) (s:S) (A B:S->Prop),(∀s,A s->B s)->Y4 E G tab j L A s->Y4 E G tab j L B s)->(∀i L s,free i=true->¬Y4 E G tab i L (fun _=>False) s)->
     (∀(i:Nat),free i=true->∀(j:Nat) (L:Array Bool) (s:S) (A:S->Prop),Down .any all L->i∈Region.ready .any all L->j∈Region.ready .any all L->j≠i->Y4 E G tab i L (Y4 E G tab j (L.setIfInBounds i true) A) s->Y4 E G tab j L (Y4 E G tab i (L.setIfInBounds j true) A) s)->
     anyS (Y4 E G tab) K .any all all.size (Array.replicate all.size false) s){c0:Cx0}{ks:List (Nat×Obj)}{J:Nat->Option IK}{hJ:Ext c0 J}(hG:Yir P G rd all κ c0 ks sv)(hR:PR ⟨c0.wI J hJ,ks⟩ (sil.map (·.2)) s a sv { w with drawn:=w.drawn+1}) (hK:∀s a w J (hJ:Ext c0 J),K s->Rl ⟨c0.wI J hJ,ks⟩ s a sv w->κ .normal a w) (hall:∀x∈sil,x.1<all.size) (hbel:∀(i:Nat)(o:Oper),all[i]? =some o->∀e∈o.after,Region.binds .any e=true->e.on<i):(Code.region id all true).wpIn (Wd rd) 0 P κ a w:=by
 have hc:=YDb hl hcl
 refine wpIn_region_any hm ?_
 have hany:=h (Yja hG.mono) ?_ ?_
 . refine Ypj (step:=Y4 E G tab) (K:=K) (P:=P) (Q:=κ) (fun L s a w=>Down .any all L/\∃J,∃hJ:Ext c0 J,PR ⟨c0.wI J hJ,ks⟩ (Yaj sil L) s a sv w) (fun i L s A a w hi hs hR=>hop hE hc hr hG i L s A a w hi hs hR) ?_ _ _ s a _ hany ⟨Yhx,J,hJ,?_⟩
   . rintro L s a w hr0 hKs ⟨hd,J,hJ,hPR⟩
     have:Yaj sil L=[]:=by
       cases hp:Yaj sil L with
       |nil=>rfl
       |cons p r=>
         obtain⟨k,hk,hkl⟩:=mem_pendOf.1 (show p∈Yaj sil L by rw[hp];exact YHh)
         have:=Yit hbel hd hr0 (k+1) k (by omega) (hall _ hk)
         rw[hkl]at this;cases this
     rw[this]at hPR
     exact hK s a w J hJ hKs hPR.1
   . rw[YhS];exact hR
 . intro i L s hf hstep
   rcases hfree i hf with⟨d,ht⟩ | ⟨v,ht,hq,_⟩
   . unfold Y4 at hstep;rw[ht]at hstep;exact hstep
   . unfold Y4 at hstep;rw[ht]at hstep;exact Yhv hq hstep.2
 . intro i hf j L s A hd hri hrj hji hs
   rcases hfree i hf with⟨d,ht⟩ | ⟨v,ht,hq,hcm⟩
   . have hsi:∀(L:Array Bool)(A:S->Prop)(s:S),Y4 E G tab i L A s=A s:=by
       intro L A s;unfold Y4;rw[ht]
     rw[hsi]at hs
     refine Yja hG.mono j L s _ _ (fun s' hs'=>by rw[hsi];exact hs') ?_
     unfold Y4 at hs⊢
     cases htj:tab[j]? with
     |none=>rw[htj]at hs;exact hs
     |some t=>
       rw[htj]at hs
       cases t with
       |silent d=>exact hs
       |op u chk=>exact⟨fun c hcm hcl=>hs.1 c hcm (getD_set_true hcl),hs.2⟩
       |loud u=>exact hs
   . exact YpS hc ht hq hcm j L s A hd hri hrj hji hs
theorem Ywa{s:S}{a:Act}{sv:List Act}{w:World}(h:Rl w0 s a sv w)(n:Nat):Rl w0 s a sv { w with drawn:=n}:=by
 obtain⟨bs,hf,hsv,hH,hb,hoth⟩:=h
 have hk:Keeps w bs { w with drawn:=n} bs:=fun b hf o ho=>⟨ho,hf⟩
 have hst:Stays none bs bs:=fun _ _ _ h _=>h
 exact⟨bs,hf.keep hk hst Yh,hsv.keep hk hst,⟨hH.len,fun i=>(hH.ent i).keep hk hst rfl (fun _ _ _ _=>rfl),hH.inj,hH.lo,YaK hk hH.reg⟩,⟨hb.os,hb.tape,hb.output,hb.size,hb.block⟩,hoth.keep hk⟩
end
end Go.Vx
namespace Go.Vx
open Go.RowKit
def YeX(lf:FuncId->Bool)(clo:Nat->Nat->Bool)(all:List VOp)(v:VOp)(j:Nat):DT:=
 match Y5 v with
 |some (d,_)=> .silent d
 |none=>bif YhJ lf v then .loud v else .op v (bif v.op.isStore then Yu7 clo j all 0 else bif v.op.isAppend then YuV clo j all 0 else [])
theorem YcL{lf:FuncId->Bool}{clo:Nat->Nat->Bool}{all:List VOp}:∀(l:List VOp)(j i:Nat),(YbC lf clo all l j)[i]? =(l[i]?).map fun v=>YeX lf clo all v (j+i)
 | [],_,_=>by simp [YbC]
 |v::l,j,0=>by
   simp only[YbC,List.getElem?_cons_zero,Option.map_some,Nat.add_zero,YeX]
   cases Y5 v <;> rfl
 |v::l,j,i+1=>by
   simp only[YbC,List.getElem?_cons_succ]
   rw[YcL l (j+1) i]
   congr 1
   funext v
   rw[show j+1+i=j+(i+1)by omega]
theorem mem_silOf{k d:Nat}{z:AL}:∀{l:List VOp}{j:Nat},(k,d,z)∈YdB l j↔∃i v,l[i]? =some v/\k=j+i/\Y5 v=some (d,z)
 | [],j=>by simp [YdB]
 |v::l,j=>by
   have ih:=mem_silOf (k:=k) (d:=d) (z:=z) (l:=l) (j:=j+1)
   unfold YdB
   cases hs:Y5 v with
   |none=>
     simp only
     rw[ih]
     constructor
     . rintro⟨i,u,h1,h2,h3⟩;exact⟨i+1,u,by simpa using h1,by omega,h3⟩
     . rintro⟨i,u,h1,h2,h3⟩
       cases i with
       |zero=>simp only[List.getElem?_cons_zero,Option.some.injEq]at h1;subst h1;rw[hs]at h3;cases h3
       |succ i=>exact⟨i,u,by simpa using h1,by omega,h3⟩
   |some r=>
     obtain⟨d',z'⟩:=r
     simp only[YHx]
     rw[ih]
     constructor
     . rintro(h| ⟨i,u,h1,h2,h3⟩)
       . cases h;exact⟨0,v,rfl,rfl,hs⟩
       . exact⟨i+1,u,by simpa using h1,by omega,h3⟩
     . rintro⟨i,u,h1,h2,h3⟩
       cases i with
       |zero=>simp only[List.getElem?_cons_zero,Option.some.injEq]at h1;subst h1;rw[hs]at h3;cases h3;left;rw[h2];rfl
       |succ i=>exact .inr ⟨i,u,by simpa using h1,by omega,h3⟩
theorem Yjc{P:Program}{all:Array Oper}:∀{rest:List Oper}{vs:List VOp},YaP P all rest=some vs->∀(i:Nat)(v:VOp),vs[i]? =some v->∃o,rest[i]? =some o/\YgH P all o=some v
 | [],vs,h,i,v,hv=>by simp only[YaP,Option.some.injEq]at h;subst h;simp at hv
 |o::l,vs,h,i,v,hv=>by
   simp only[YaP]at h
   obtain⟨x,hx,h⟩:=YGX.1 h
   obtain⟨y,hy,rfl⟩:=YG1.1 h
   cases i with
   |zero=>simp only[List.getElem?_cons_zero,Option.some.injEq]at hv;subst hv;exact⟨o,rfl,hx⟩
   |succ i=>exact Yjc hy i v (by simpa using hv)
theorem YiK{clo:Nat->Nat->Bool}{i:Nat}{v:VOp}:∀{l:List DT}{j:Nat},Yht clo i v l j=true->∀(k:Nat)(t:DT),l[k]? =some t->Yrz clo i v (j+k) t=true
 |t::l,j,h,0,u,hu=>by
   simp only[Yht,YG2]at h
   simp only[List.getElem?_cons_zero,Option.some.injEq]at hu;subst hu;exact h.1
 |t::l,j,h,k+1,u,hu=>by
   simp only[Yht,YG2]at h
   have:=YiK h.2 k u (by simpa using hu)
   rw[show j+1+k=j+(k+1)by omega]at this
   exact this
end Go.Vx
namespace Go.Vx
open Go.RowKit
theorem Ysx:∀l:List SV,lenE l=lenL l
 | []=>rfl
 |_::l=>congrArg (·+1) (Ysx l)
def AL.op:AL->VO
 | .box z=> .alloc z
 | .arr n size z=> .allocArr n size z
def AL.ok:AL->Prop
 | .box _=>True
 | .arr n size z=>lenL z=n*size
theorem Yms{v:VOp}{d:Nat}{z:AL}(h:Y5 v=some (d,z)):v.dst=some d/\v.g=none/\v.op=z.op/\z.ok:=by
 unfold Y5 at h
 split at h
 . cases h;exact⟨rfl,rfl,rfl,trivial⟩
 . rename_i n size z' _
   cases hb:YHC (lenE z') (n*size)with
   |true=>rw[hb]at h;cases h;exact⟨rfl,rfl,rfl,(Ysx z').symm.trans (YHk hb)⟩
   |false=>rw[hb]at h;cases h
 . cases h
theorem YpV{P:Program}{o:Oper}{z:AL}{ops:List Operand}{elem:TypeId}(ho:o.op= .alloc elem)(h:vop P o=some (AL.op z,ops))(hk:AL.ok z):z.is P elem:=by
 obtain⟨dst,op,type,pos,after,guard⟩:=o
 simp only at ho
 subst ho
 unfold vop at h
 simp only at h
 split at h
 . obtain⟨_,hz,h⟩:=YGX.1 h
   obtain⟨_,_,h⟩:=YG1.1 h
   cases z <;> cases h
   exact⟨hz,hk⟩
 . obtain⟨_,hz,h⟩:=YG1.1 h
   cases z <;> cases h
   exact hz
theorem Yiu:∀{os:List Oper}{vs:List VOp},YeS os vs=true->∀(i:Nat)(o:Oper)(v:VOp),os[i]? =some o->vs[i]? =some v->(Y5 v).isSome=true->∃e,o.op= .alloc e
 | [],_,_,i,o,v,h,_,_=>by simp at h
 |_::_,[],_,i,o,v,_,h,_=>by simp at h
 |o'::os,v'::vs,h,0,o,v,h1,h2,h3=>by
   simp only[List.getElem?_cons_zero,Option.some.injEq]at h1 h2
   subst h1;subst h2
   simp only[YeS,YG2]at h
   have h:=h.1
   cases hs:Y5 v' with
   |none=>rw[hs]at h3;cases h3
   |some x=>
     rw[hs]at h
     simp only at h
     split at h
     . exact⟨_,‹_›⟩
     . cases h
 |o'::os,v'::vs,h,i+1,o,v,h1,h2,h3=>by
   simp only[YeS,YG2]at h
   exact Yiu h.2 i o v (by simpa using h1) (by simpa using h2) h3
def silP:Nat->List (Nat×Nat×AL)->List (Nat×Pend)
 |_,[]=>[]
 |n,(j,d,z)::l=>(j,⟨n,d,z⟩)::silP (n+1) l
theorem YfD{j:Nat}{p:Pend}:∀{l:List (Nat×Nat×AL)}{n:Nat},(j,p)∈silP n l->n<=p.idx/\(j,p.slot,p.cells)∈l
 | [],_,h=>by cases h
 | (j',d,z)::l,n,h=>by
   rcases YHx.1 h with h|h
   . cases h;exact⟨YG8 _,YHh⟩
   . have:=YfD h;exact⟨by omega,YHg _ this.2⟩
theorem Yo9{j d:Nat}{z:AL}:∀{l:List (Nat×Nat×AL)}{n:Nat},(j,d,z)∈l->∃p,(j,p)∈silP n l/\p.slot=d/\p.cells=z
 | [],_,h=>by cases h
 | (j',d',z')::l,n,h=>by
   rcases YHx.1 h with h|h
   . cases h;exact⟨_,YHh,rfl,rfl⟩
   . obtain⟨p,h1,h2⟩:=Yo9 (n:=n+1) h
     exact⟨p,YHg _ h1,h2⟩
theorem Yo8:∀{l:List (Nat×Nat×AL)}{n:Nat},(silP n l).map (·.1)=l.map (·.1)
 | [],_=>rfl
 | (j,d,z)::l,n=>by simp only[silP,YHv,Yo8]
theorem Ywf{x:Nat×Nat×AL}{l:List VOp}{j:Nat}(h:x∈YdB l j):j<=x.1:=by
 obtain⟨k,d,z⟩:=x
 obtain⟨i,v,_,h2,_⟩:=mem_silOf.1 h
 simp only;omega
theorem Yfa:∀{l:List VOp}{j:Nat},((YdB l j).map (·.1)).Nodup
 | [],_=> .nil
 |v::l,j=>by
   unfold YdB
   cases Y5 v with
   |none=>exact Yfa
   |some r=>
     obtain⟨d,z⟩:=r
     simp only[YHv,List.nodup_cons]
     refine⟨fun h=>?_,Yfa⟩
     obtain⟨x,hx,h⟩:=YIa.1 h
     have:=Ywf hx;omega
theorem YdJ:∀{l:List Nat},Ycv l=true->l.Nodup
 | [],_=> .nil
 |d::l,h=>by
   simp only[Ycv,YG2,YHn]at h
   rw[List.nodup_cons]
   refine⟨fun hm=>?_,YdJ h.2⟩
   have:l.contains d=true:=by rw[List.contains_iff_mem];exact hm
   rw[h.1]at this;cases this
theorem Yi8:∀{l:List (Nat×Nat×AL)}{n:Nat},(l.map (·.2.1)).Nodup->∀x∈silP n l,∀y∈silP n l,x.1≠y.1->x.2.slot≠y.2.slot/\x.2.idx≠y.2.idx
 | [],_,_,x,hx,_,_,_=>by cases hx
 | (j,d,z)::l,n,hn,x,hx,y,hy,hxy=>by
   simp only[YHv,List.nodup_cons]at hn
   have key:∀u∈silP (n+1) l,u.2.slot≠d/\u.2.idx≠n:=by
     rintro⟨k,p⟩ hu
     obtain⟨h1,h2⟩:=YfD hu
     refine⟨fun e=>hn.1 (YIa.2 ⟨_,h2,e⟩),?_⟩
     simp only;omega
   rcases YHx.1 hx with rfl|hx <;> rcases YHx.1 hy with rfl|hy
   . exact absurd rfl hxy
   . exact⟨fun e=>(key y hy).1 e.symm,fun e=>(key y hy).2 e.symm⟩
   . exact key x hx
   . exact Yi8 hn.2 x hx y hy hxy
theorem pends_perm:∀{l:List (Nat×Nat×AL)}{n:Nat}{Pd:List Pend},(Yv0 n (l.map (·.2)) Pd).Perm ((silP n l).map (·.2)++Pd)
 | [],_,_=>List.Perm.refl _
 | (j,d,z)::l,n,Pd=>by
   simp only[YHv,Yv0,silP,List.cons_append]
   exact pends_perm.trans List.perm_middle
theorem YmV{al:List (Nat×AL)}:∀{ds:List Nat},(al.map (·.1)).Nodup->(∀d∈al.map (·.1),d∉ds)->Yfp al ds=true:=by
 induction al with
 |nil=>intros;rfl
 |cons x al ih=>
   obtain⟨d,z⟩:=x
   intro ds hn hd
   simp only[YHv,List.nodup_cons]at hn
   simp only[Yfp,YG2,YHn]
   refine⟨?_,ih hn.2 fun e he hm=>?_⟩
   . cases hc:ds.contains d with
     |false=>rfl
     |true=>rw[List.contains_iff_mem]at hc;exact absurd hc (hd d (by simp))
   . rcases YHx.1 hm with rfl|hm
     . exact hn.1 he
     . exact hd e (by simp only[YHv,YHx];exact .inr he) hm
theorem Yg0{clo:Nat->Nat->Bool}{sil:List (Nat×Nat×AL)}:∀{l:List DT}{j:Nat},YfQ clo sil l j=true->∀(k:Nat)(v:VOp)(chk:List (Nat×X)),l[k]? =some (.op v chk)->
   ∀x∈sil,(clo (j+k) x.1=true\/(x.2.1∉v.reads/\(v.op.isAppend=true->x.2.2.clean=true)))/\v.dst≠some x.2.1
 | [],_,_,k,v,chk,h,_,_=>by simp at h
 | .silent _::l,j,h,0,v,chk,hk,_,_=>by simp at hk
 | .silent _::l,j,h,k+1,v,chk,hk,x,hx=>by
   have:=Yg0 (l:=l) (j:=j+1) h k v chk (by simpa using hk) x hx
   rwa [show j+1+k=j+(k+1)by omega]at this
 | .loud _::l,j,h,0,v,chk,hk,_,_=>by simp at hk
 | .loud _::l,j,h,k+1,v,chk,hk,x,hx=>by
   simp only[YfQ,YG2]at h
   have:=Yg0 (l:=l) (j:=j+1) h.2 k v chk (by simpa using hk) x hx
   rwa [show j+1+k=j+(k+1)by omega]at this
 | .op u c::l,j,h,0,v,chk,hk,x,hx=>by
   simp only[List.getElem?_cons_zero,Option.some.injEq,DT.op.injEq]at hk
   obtain⟨rfl,rfl⟩:=hk
   simp only[YfQ,YG2,List.all_eq_true]at h
   have:=h.1 x hx
   simp only[YHB,YG2,YHn]at this
   refine⟨?_,?_⟩
   . rcases this.1 with h1| ⟨h1,h2⟩
     . exact .inl h1
     . exact .inr ⟨fun hm=>absurd ((List.contains_iff_mem (a:=x.2.1)).2 hm) (by rw[h1];simp),fun ha=>by rcases h2 with h2|h2;(rw[ha]at h2;cases h2);exact h2⟩
   . intro e
     have:=this.2
     rw[e]at this
     simp at this
 | .op u c::l,j,h,k+1,v,chk,hk,x,hx=>by
   simp only[YfQ,YG2]at h
   have:=Yg0 (l:=l) (j:=j+1) h.2 k v chk (by simpa using hk) x hx
   rwa [show j+1+k=j+(k+1)by omega]at this
theorem YeF{clo:Nat->Nat->Bool}{sil:List (Nat×Nat×AL)}:∀{l:List DT}{j:Nat},YfQ clo sil l j=true->∀(k:Nat)(v:VOp),l[k]? =some (.loud v)->sil=[]
 | [],_,_,k,v,h=>by simp at h
 | .silent _::l,j,h,0,v,hk=>by simp at hk
 | .silent _::l,j,h,k+1,v,hk=>YeF (l:=l) (j:=j+1) h k v (by simpa using hk)
 | .op u c::l,j,h,0,v,hk=>by simp at hk
 | .op u c::l,j,h,k+1,v,hk=>by
   simp only[YfQ,YG2]at h
   exact YeF (l:=l) (j:=j+1) h.2 k v (by simpa using hk)
 | .loud _::l,j,h,0,v,hk=>by
   simp only[YfQ,YG2]at h
   have h:=h.1
   split at h
   . rfl
   . cases h
 | .loud _::l,j,h,k+1,v,hk=>by
   simp only[YfQ,YG2]at h
   exact YeF (l:=l) (j:=j+1) h.2 k v (by simpa using hk)
theorem YiA:∀{l:List Nat}{j:Nat},YeU l j=true->∀k,l.getD k 0<2^(j+k)
 | [],j,_,k=>by simp;exact Nat.two_pow_pos _
 |m::l,j,h,0=>by
   simp only[YeU,YG2]at h
   have:=h.1
   simp only[Nat.blt_eq]at this
   simpa using this
 |m::l,j,h,k+1=>by
   simp only[YeU,YG2]at h
   have:=YiA h.2 k
   rw[show j+1+k=j+(k+1)by omega]at this
   simpa using this
theorem Yoq{clo:Nat->Nat->Bool}{tab:List DT}:∀(n j i:Nat),(Yik clo tab n j).getD i false=true->YyV clo tab (j+i)=true
 |0,_,_,h=>by simp [Yik]at h
 |n+1,j,0,h=>by simpa [Yik]using h
 |n+1,j,i+1,h=>by
   have:=Yoq (clo:=clo) (tab:=tab) n (j+1) i (by simpa [Yik]using h)
   rwa [show j+1+i=j+(i+1)by omega]at this
theorem YbS{P:Program}{all:Array Oper}:∀{rest:List Oper}{vs:List VOp},YaP P all rest=some vs->vs.length=rest.length
 | [],vs,h=>by simp only[YaP,Option.some.injEq]at h;subst h;rfl
 |o::l,vs,h=>by
   simp only[YaP]at h
   obtain⟨x,hx,h⟩:=YGX.1 h
   obtain⟨y,hy,rfl⟩:=YG1.1 h
   simp [YbS hy]
def OT.all:OT->List Nat
 | .nil=>[]
 | .op i t=>i::t.all
 | .br a b=>a.all++b.all
def Yhw(E:Env)(G:VOp->(S->Prop)->S->Prop)(A:S->Prop):List DOp->S->Prop
 | [],s=>A s
 | ⟨v,chk⟩::l,s=>chkG v.op.isAppend s (s.x (Ydg v.xs)) chk/\(dopW E v (Yhw E G A l) s\/G v (Yhw E G A l) s)
def dtrP(E:Env)(G:VOp->(S->Prop)->S->Prop)(A:S->Prop):DTr->S->Prop
 | .leaf,s=>A s
 | .ops l t,s=>Yhw E G (dtrP E G A t) l s
 | .br a b,s=>dtrP E G A a s/\dtrP E G A b s
theorem Yrr{s:S}{y:SV}:∀{l:List X},chkA s y l->∀x∈l,napP (s.x x) y
 |x::l,h,z,hz=>by
   rcases YHx.1 hz with rfl|hz
   . exact h.1
   . exact Yrr h.2 z hz
theorem Yru{s:S}{y:SV}:∀{l:List X},chkP s y l->∀x∈l,Yix (s.x x) y
 |x::l,h,z,hz=>by
   rcases YHx.1 hz with rfl|hz
   . exact h.1
   . exact Yru h.2 z hz
theorem Yrt{ap:Bool}{s:S}{y:SV}{l:List X}(h:chkG ap s y l)(x:X)(hx:x∈l):chk1 ap (s.x x) y:=by
 cases ap with
 |false=>exact Yru h x hx
 |true=>exact Yrr h x hx
theorem Yh2{E:Env}{G:VOp->(S->Prop)->S->Prop}{A:S->Prop}{tab:List DT}(hGm:∀v (A B:S->Prop) s,(∀s,A s->B s)->G v A s->G v B s)(hGn:∀(i:Nat) (v:VOp) (chk:List (Nat×X)) (A:S->Prop) (s:S),tab[i]? =some (.op v chk)->¬G v A s):
   ∀{order:List Nat}{L:Array Bool}{s:S},(∀i∈order,i<tab.length)->Yhw E G A (Yly tab order) s->seqS (Y4 E G tab) A order L s
 | [],_,_,_,h=>h
 |i::order,L,s,hi,h=>by
   have hlt:=hi i YHh
   unfold Yly at h
   unfold seqS Y4
   cases ht:tab[i]? with
   |none=>rw[List.getElem?_eq_none_iff]at ht;omega
   |some t=>
     rw[ht]at h
     cases t with
     |silent d=>exact Yh2 hGm hGn (fun j hj=>hi j (YHg _ hj)) h
     |op v chk=>
       simp only at h⊢
       refine⟨fun c hc _=>Yrt h.1 c.2 (YIa.2 ⟨c,hc,rfl⟩),Yau (fun s' h'=>Yh2 hGm hGn (fun j hj=>hi j (YHg _ hj)) h') (h.2.resolve_right (hGn i v chk _ _ ht))⟩
     |loud v=>
       simp only at h⊢
       exact h.2.imp (Yau fun s' h'=>Yh2 hGm hGn (fun j hj=>hi j (YHg _ hj)) h') (hGm v _ _ s fun s' h'=>Yh2 hGm hGn (fun j hj=>hi j (YHg _ hj)) h')
theorem Ydu{E:Env}{G:VOp->(S->Prop)->S->Prop}{A:S->Prop}{tab:List DT}(hGm:∀v (A B:S->Prop) s,(∀s,A s->B s)->G v A s->G v B s)(hGn:∀(i:Nat) (v:VOp) (chk:List (Nat×X)) (A:S->Prop) (s:S),tab[i]? =some (.op v chk)->¬G v A s):
   ∀{t:OT}{L:Array Bool}{s:S},(∀i∈t.all,i<tab.length)->dtrP E G A (Ypr tab t) s->YpU (Y4 E G tab) A t L s
 | .nil,_,_,_,h=>h
 | .op i t,L,s,hi,h=>by
   have hlt:=hi i (by simp [OT.all])
   have hr:∀j∈t.all,j<tab.length:=fun j hj=>hi j (by simp [OT.all,hj])
   unfold Ypr dtrP Yly at h
   unfold YpU Y4
   cases ht:tab[i]? with
   |none=>rw[List.getElem?_eq_none_iff]at ht;omega
   |some x=>
     rw[ht]at h
     cases x with
     |silent d=>exact Ydu hGm hGn hr h
     |op v chk=>
       simp only[Yhw]at h⊢
       refine⟨fun c hc _=>Yrt h.1 c.2 (YIa.2 ⟨c,hc,rfl⟩),Yau (fun s' h'=>Ydu hGm hGn hr h') (h.2.resolve_right (hGn i v chk _ _ ht))⟩
     |loud v=>
       simp only[Yhw]at h⊢
       exact h.2.imp (Yau fun s' h'=>Ydu hGm hGn hr h') (hGm v _ _ s fun s' h'=>Ydu hGm hGn hr h')
 | .br a b,L,s,hi,h=>⟨Ydu hGm hGn (fun j hj=>hi j (by simp [OT.all,hj])) h.1,Ydu hGm hGn (fun j hj=>hi j (by simp [OT.all,hj])) h.2⟩
theorem Yg3{free:Nat->Bool}{dm:List Nat}{n:Nat}:∀{t:OT}{m:Nat}{ex:Bool},YcM free dm n t m ex=true->∀i∈t.all,i<n
 | .op i t,m,ex,h,j,hj=>by
   simp only[YcM,YG2]at h
   rcases YHx.1 hj with rfl|hj
   . have:=YHJ h.1.1.1;omega
   . exact Yg3 h.2 j hj
 | .br a b,m,ex,h,j,hj=>by
   simp only[YcM,YG2]at h
   rcases YHz.1 hj with hj|hj
   . exact Yg3 h.1.2 j hj
   . exact Yg3 h.2 j hj
theorem Ytu{free:Nat->Bool}{dm:List Nat}{n:Nat}:∀{l:List Nat}{m:Nat},seqB free dm n l m=true->∀i∈l,i<n
 |i::l,m,h,j,hj=>by
   simp only[seqB,YG2]at h
   rcases YHx.1 hj with rfl|hj
   . have:=YHJ h.1.1.1;omega
   . exact Ytu h.2 j hj
section
variable {P:Program} {E:Env} {G:VOp->(S->Prop)->S->Prop} {w0:Cx} {rd:Option Nat}
theorem Yof(hE:Yl P E)(hm:P.follows .mixedOrders=true){ops:Array Oper}{vs:List VOp}(hvs:YaP P ops ops.toList=some vs)(c0:YeS ops.toList vs=true)(c1:YHC (clos (Yz .any ops)).length ops.size=true)(c2:Ygj (Yz .any ops) (clos (Yz .any ops)) ops.size=true)(c3:YeU (Yz .any ops) 0=true)
   (c4:YfQ (Yax (clos (Yz .any ops))) (YdB vs 0) (YbC (YbN P) (Yax (clos (Yz .any ops))) vs vs 0) 0=true)(c5:Ycv ((YdB vs 0).map (·.2.1))=true) {A:S->Prop} {κ:Kont} {s:S} {a:Act} {sv:List Act} {w:World} {id:Nat}
   (h:∀s0,s0=Yin s ((YdB vs 0).map (·.2))->(∀(j:Nat)(L:Array Bool)(s:S)(A B:S->Prop),(∀s,A s->B s)->Y4 E G (YbC (YbN P) (Yax (clos (Yz .any ops))) vs vs 0) j L A s->Y4 E G (YbC (YbN P) (Yax (clos (Yz .any ops))) vs vs 0) j L B s)->
     (∀i L s,(Yik (Yax (clos (Yz .any ops))) (YbC (YbN P) (Yax (clos (Yz .any ops))) vs vs 0) ops.size 0).getD i false=true->¬Y4 E G (YbC (YbN P) (Yax (clos (Yz .any ops))) vs vs 0) i L (fun _=>False) s)->
     (∀(i:Nat),(Yik (Yax (clos (Yz .any ops))) (YbC (YbN P) (Yax (clos (Yz .any ops))) vs vs 0) ops.size 0).getD i false=true->∀(j:Nat)(L:Array Bool)(s:S)(A:S->Prop),Down .any ops L->i∈Region.ready .any ops L->j∈Region.ready .any ops L->j≠i->Y4 E G (YbC (YbN P) (Yax (clos (Yz .any ops))) vs vs 0) i L (Y4 E G (YbC (YbN P) (Yax (clos (Yz .any ops))) vs vs 0) j (L.setIfInBounds i true) A) s->Y4 E G (YbC (YbN P) (Yax (clos (Yz .any ops))) vs vs 0) j L (Y4 E G (YbC (YbN P) (Yax (clos (Yz .any ops))) vs vs 0) i (L.setIfInBounds j true) A) s)->
     anyS (Y4 E G (YbC (YbN P) (Yax (clos (Yz .any ops))) vs vs 0)) A .any ops ops.size (Array.replicate ops.size false) s0) {cx:Cx0} {ks:List (Nat×Obj)} {J:Nat->Option IK} {hJ:Ext cx J} (hG:Yir P G rd ops κ cx ks sv) (hGn:∀v A s,G v A s->YhJ (YbN P) v=true) (hR:Rl ⟨cx.wI J hJ,ks⟩ s a sv w) (hK:∀s a w J (hJ:Ext cx J),A s->Rl ⟨cx.wI J hJ,ks⟩ s a sv w->κ .normal a w):(Code.region id ops true).wpIn (Wd rd) 0 P κ a w:=by
 have hlen:vs.length=ops.size:=by rw[YbS hvs];simp
 have htl:∀(clo:Nat->Nat->Bool)(l:List VOp)(j:Nat),(YbC (YbN P) clo vs l j).length=l.length:=by
   intro clo l
   induction l with
   |nil=>intro j;rfl
   |cons v l ih=>intro j;simp only[YbC,YH1,ih]
 have hsn:((YdB vs 0).map (·.2.1)).Nodup:=YdJ c5
 have hget:∀(i:Nat)(v:VOp),vs[i]? =some v->∃o,ops[i]? =some o/\YgH P ops o=some v:=by
   intro i v hv
   obtain⟨o,h1,h2⟩:=Yjc hvs i v hv
   exact⟨o,by simpa using h1,h2⟩
 have hok:YxU P ops (YbC (YbN P) (Yax (clos (Yz .any ops))) vs vs 0) (silP (lenH s.hp) (YdB vs 0)) (Yax (clos (Yz .any ops))):=by
   refine⟨by rw[Yo8];exact Yfa,Yi8 hsn,fun i d ht=>?_,fun i v chk ht=>?_,fun i v ht=>?_⟩
   . rw[YcL]at ht
     obtain⟨v,hv,he⟩:=YG1.1 ht
     unfold YeX at he
     cases hs:Y5 v with
     |none=>rw[hs]at he;simp only at he;cases hl:YhJ (YbN P) v <;> rw[hl]at he <;> cases he
     |some x=>
       obtain⟨d',z⟩:=x
       rw[hs]at he;cases he
       obtain⟨o,ho,hvo⟩:=hget i v hv
       obtain⟨e,hop⟩:=Yiu c0 i o v (by simpa using ho) hv (by rw[hs];rfl)
       obtain⟨g1,g2,g3,g4⟩:=Yms hs
       obtain⟨xs,k1,k2,k3,k4,k5⟩:=Ygf hvo
       obtain⟨p,hp,hp1,hp2⟩:=Yo9 (n:=lenH s.hp) (mem_silOf.2 ⟨i,v,hv,by omega,hs⟩:(i,d,z)∈YdB vs 0)
       refine⟨p,o,e,hp,ho,hop,?_,?_,?_⟩
       . rcases k5 with k5| ⟨_,_,_,_,_,k5⟩
         . exact k5.1
         . rw[g2]at k5;cases k5
       . rw[g3]at k1;rw[hp2];exact YpV hop k1 g4
       . rw[<-k4,g1,hp1]
   . rw[YcL]at ht
     obtain⟨u,hu,he⟩:=YG1.1 ht
     unfold YeX at he
     cases hs:Y5 u with
     |some x=>rw[hs]at he;cases he
     |none=>
       rw[hs]at he
       simp only at he
       cases hl:YhJ (YbN P) u with
       |true=>rw[hl]at he;cases he
       |false=>
       rw[hl]at he
       simp only[cond_false,DT.op.injEq]at he
       obtain⟨rfl,hchk⟩:=he
       refine⟨fun p hp=>?_,hget i u hu,fun x hx=>?_⟩
       . obtain⟨_,hm⟩:=YfD hp
         obtain⟨i',v',h1,h2,h3⟩:=mem_silOf.1 hm
         have:i'=i:=by omega
         subst this
         rw[hu]at h1;cases h1
         rw[hs]at h3;cases h3
       . obtain⟨k,p⟩:=x
         have:=Yg0 c4 i u chk (by rw[YcL,hu];simp [YeX,hs,hl,<-hchk]) (k,p.slot,p.cells) (YfD hx).2
         simpa using this
   . have hsl:=YeF c4 i v ht
     rw[YcL]at ht
     obtain⟨u,hu,he⟩:=YG1.1 ht
     refine⟨by rw[hsl];rfl,?_⟩
     have:u=v:=by
       unfold YeX at he
       cases hs:Y5 u with
       |some x=>rw[hs]at he;cases he
       |none=>
         rw[hs]at he
         simp only at he
         cases hl:YhJ (YbN P) u <;> rw[hl]at he <;> cases he
         rfl
     subst this
     exact hget i u hu
 refine Ymm (J:=J) (hJ:=hJ) (free:=fun i=>(Yik (Yax (clos (Yz .any ops))) (YbC (YbN P) (Yax (clos (Yz .any ops))) vs vs 0) ops.size 0).getD i false) hE hm (YHk c1) c2 hok (fun i hi=>?_)
   (h _ rfl) hG ?_ hK (fun x hx=>?_) (fun i o ho e he hb=>?_)
 . have:=Yoq _ _ _ hi
   rw[YH0]at this
   unfold YyV at this
   split at this
   . exact .inl ⟨_,‹_›⟩
   . rename_i v hv
     simp only[YG2]at this
     refine .inr ⟨v,hv,this.1,fun j t ht=>?_⟩
     have:=YiK this.2 j t ht
     rwa [YH0]at this
   . cases this
 . have h0:=YoK (w0:=⟨cx.wI J hJ,ks⟩) ((YdB vs 0).map (·.2)) [] s (YmV (by rw[List.map_map];exact hsn) (fun _ _=>by simp)) (Yxd (Ywa hR (w.drawn+1)))
   have:=pends_perm (l:=YdB vs 0) (n:=lenH s.hp) (Pd:=[])
   rw[List.append_nil]at this
   exact Ytc this h0
 . obtain⟨k,p⟩:=x
   obtain⟨i,v,h1,h2,_⟩:=mem_silOf.1 (YfD hx).2
   have:=(List.getElem?_eq_some_iff.1 h1).1
   simp only;omega
 . have hlt:=YiA c3 i
   rw[Yen ho,YH0]at hlt
   have hbit:(YlY .any o.after.toList).testBit e.on=true:=maskL_spec.2 ⟨e,by simpa using he,hb,rfl⟩
   rcases YHE e.on i with h'|h'
   . exact h'
   . have:=Nat.testBit_lt_two_pow (YHM hlt (YHl (by omega) h'))
     rw[this]at hbit;cases hbit
theorem Ynk{lf:FuncId->Bool}{clo:Nat->Nat->Bool}{vs:List VOp}:∀(l:List VOp)(j:Nat),(YbC lf clo vs l j).length=l.length
 | [],_=>rfl
 |_::l,j=>by simp only[YbC,YH1,Ynk l]
theorem YoI{lf:FuncId->Bool}{clo:Nat->Nat->Bool}{vs:List VOp}(hGn:∀v A s,G v A s->YhJ lf v=true)(i:Nat)(v:VOp)(chk:List (Nat×X))(A:S->Prop)(s:S)(h:(YbC lf clo vs vs 0)[i]? =some (.op v chk)):¬G v A s:=fun hg=>by
 rw[YcL]at h
 obtain⟨u,hu,he⟩:=YG1.1 h
 unfold YeX at he
 cases hs:Y5 u with
 |some x=>rw[hs]at he;cases he
 |none=>
   rw[hs]at he
   simp only at he
   cases hl:YhJ lf u with
   |true=>rw[hl]at he;cases he
   |false=>
     rw[hl]at he
     cases he
     rw[hGn _ _ _ hg]at hl;cases hl
theorem Ypq(hE:Yl P E)(hm:P.follows .mixedOrders=true){ops:Array Oper}{al:List (Nat×AL)}{dl:List DOp}(hd:Yoe P ops=some (al,dl)){A:S->Prop}{κ:Kont}{s:S}{a:Act}{sv:List Act}{w:World}{id:Nat}
   (h:Yhw E G A dl (Yin s al)){cx:Cx0}{ks:List (Nat×Obj)}{J:Nat->Option IK}{hJ:Ext cx J}(hG:Yir P G rd ops κ cx ks sv)(hGn:∀v A s,G v A s->YhJ (YbN P) v=true)(hR:Rl ⟨cx.wI J hJ,ks⟩ s a sv w)(hK:∀s a w J (hJ:Ext cx J),A s->Rl ⟨cx.wI J hJ,ks⟩ s a sv w->κ .normal a w):(Code.region id ops true).wpIn (Wd rd) 0 P κ a w:=by
 unfold Yoe at hd
 obtain⟨vs,hvs,hd⟩:=YGX.1 hd
 simp only at hd
 split at hd
 . rename_i hc
   simp only[Option.some.injEq,Prod.mk.injEq]at hd
   obtain⟨rfl,rfl⟩:=hd
   simp only[YG2]at hc
   obtain⟨⟨⟨⟨⟨⟨⟨c0,c1⟩,c2⟩,c3⟩,c4⟩,c5⟩,c6⟩,c7⟩:=hc
   have hlen:vs.length=ops.size:=by rw[YbS hvs];simp
   refine Yof hE hm hvs c0 c1 c2 c3 c4 c5 (fun s0 hs0 m1 m2 m3=>?_) hG hGn hR hK
   subst hs0
   rw[<-YHk c6]
   have:=Ytv m1 m2 m3 _ 0 (Array.replicate ops.size false) _ c7 Ylw Yhx (Yh2 hG.mono (YoI hGn) (fun i hi=>by rw[Ynk,hlen];exact Ytu c7 i hi) h)
   rw[YHk c6]at this⊢
   exact this
 . cases hd
theorem YmW(hE:Yl P E)(hm:P.follows .mixedOrders=true){ops:Array Oper}{al:List (Nat×AL)}{t:DTr}(hd:YjS P ops=some (al,t)){A:S->Prop}{κ:Kont}{s:S}{a:Act}{sv:List Act}{w:World}{id:Nat}
   (h:dtrP E G A t (Yin s al)){cx:Cx0}{ks:List (Nat×Obj)}{J:Nat->Option IK}{hJ:Ext cx J}(hG:Yir P G rd ops κ cx ks sv)(hGn:∀v A s,G v A s->YhJ (YbN P) v=true)(hR:Rl ⟨cx.wI J hJ,ks⟩ s a sv w)(hK:∀s a w J (hJ:Ext cx J),A s->Rl ⟨cx.wI J hJ,ks⟩ s a sv w->κ .normal a w):(Code.region id ops true).wpIn (Wd rd) 0 P κ a w:=by
 unfold YjS at hd
 obtain⟨vs,hvs,hd⟩:=YGX.1 hd
 simp only at hd
 split at hd
 . rename_i hc
   simp only[Option.some.injEq,Prod.mk.injEq]at hd
   obtain⟨rfl,rfl⟩:=hd
   simp only[YG2]at hc
   obtain⟨⟨⟨⟨⟨⟨⟨c0,c1⟩,c2⟩,c3⟩,c4⟩,c5⟩,c6⟩,c7⟩:=hc
   have hlen:vs.length=ops.size:=by rw[YbS hvs];simp
   refine Yof hE hm hvs c0 c1 c2 c3 c4 c5 (fun s0 hs0 m1 m2 m3=>?_) hG hGn hR hK
   subst hs0
   have:=(Yg4 m1 m2 m3 _ 0 false (Array.replicate ops.size false) _ c7 Ylw Yhx (Ydu hG.mono (YoI hGn) (fun i hi=>by rw[Ynk,hlen];exact Yg3 c7 i hi) h)).1 rfl
   rw[YHk c6]at this
   exact this
 . cases hd
end
end Go.Vx
namespace Go.Vx
open Go.RowKit
section
variable {P:Program} {E:Env} {Q:SV->List HO->Prop} {vr:List VR} {w0:Cx0} {rd:Option Nat} {ks:List (Nat×Obj)}
def inG(E:Env)(Q:SV->List HO->Prop)(vr:List VR)(N:Nat)(K0:List It)(v:VOp)(A:S->Prop)(s:S):Prop:=
 ∃f d xs ys vf,∃B:S->Prop,v=⟨d,none,.call f,xs⟩/\E.lo f=true/\callee E (.call f) (s.args xs)=some (f,ys)/\E.ct f=none/\E.fn f=some vf/\
   (∃m,m<=N/\run E Q vr m (.code vf.body:: .frame d vf.res:: .inLoop B::K0) { fr:=padL vf.ntmps ys,saved:=s.fr::s.saved,hp:=s.hp})/\∀s',B s'->A s'
theorem Yj9{N:Nat}{K0:List It}(v:VOp)(A B:S->Prop)(s:S)(h:∀s,A s->B s)(hg:inG E Q vr N K0 v A s):inG E Q vr N K0 v B s:=by
 obtain⟨f,d,xs,ys,vf,C,h1,h2,h3,h4,h5,h6,h7⟩:=hg
 exact⟨f,d,xs,ys,vf,C,h1,h2,h3,h4,h5,h6,fun s' hs=>h _ (h7 s' hs)⟩
theorem YmR{f g:FuncId}{xs ys:List SV}(h:callee E (.call f) xs=some (g,ys)):g=f:=by
 simp only[callee,Option.some.injEq,Prod.mk.injEq]at h
 exact h.1.symm
theorem YyK{n N:Nat}(hN:n<=N){v:VOp}{K K0:List It}(hK:Ygv K=K0){s:S}(h:dop E (run E Q vr n) v K s):dopW E v (fun s'=> ∃m,m<=n/\run E Q vr m K s') s\/inG E Q vr N K0 v (fun s'=> ∃m,m<=n/\run E Q vr m K s') s:=by
 obtain⟨d,g,op,xs⟩:=v
 cases g with
 |none=>
   simp only[dop]at h
   unfold dopW
   simp only
   cases hq:op.quiet with
   |true=>
     left
     rw[hq]at h
     simp only[dpl,dq]at h
     simp only[fEff]
     cases he:eff s.hp (lenH s.hp) op (s.args xs)with
     |none=>rw[he]at h;exact h.elim
     |some e=>
       obtain⟨p,x,u⟩:=e
       rw[he]at h
       cases u <;> try exact h.elim
       exact⟨h.1,n,YG8 _,h.2⟩
   |false=>
     rw[hq]at h
     simp only[dpl,dcl]at h
     simp only[YlM]
     cases hc:callee E op (s.args xs)with
     |none=>
       left
       rw[hc]at h
       simp only[psdD]at h
       simp only[psdW]
       cases hps:psd op (s.args xs)with
       |some c=>
         rw[hps]at h
         exact(Yeg n h).mono fun r hs ⟨m,hm,h2⟩=>⟨m,by omega,h2⟩
       |none=>
       rw[hps]at h
       simp only at h⊢
       cases hbad:op.bad with
       |true=>rw[hbad]at h;exact h.elim
       |false=>
       rw[hbad]at h
       simp only[effD,effK]at h
       simp only[badW,effW]
       cases he:eff s.hp (lenH s.hp) op (s.args xs)with
       |none=>rw[he]at h;exact h.elim
       |some e=>rw[he]at h;exact⟨h.1,n,YG8 _,h.2⟩
     |some fy=>
       obtain⟨f,ys⟩:=fy
       rw[hc]at h
       simp only[dct]at h
       simp only[ctW]
       cases hct:E.ct f with
       |none=>
         right
         rw[hct]at h
         simp only[dinl]at h
         split at h
         . rename_i g
           split at h
           . rename_i hlo
             split at h
             . rename_i vf hfn
               obtain⟨B,h1,h2⟩:=h
               obtain rfl:=YmR hc
               rw[hK]at h1
               exact⟨_,d,xs,ys,vf,B,rfl,hlo,hc,hct,hfn,⟨n,hN,h1⟩,fun s' hs=>⟨n,YG8 _,h2 s' hs⟩⟩
             . exact h.elim
           . exact h.elim
         . exact h.elim
       |some c=>
         left
         rw[hct]at h
         exact⟨h.1,(Yeg n h.2).mono fun r hs ⟨m,hm,h2⟩=>⟨m,by omega,h2⟩⟩
 |some gp=>
   left
   obtain⟨g,pol⟩:=gp
   simp only[dop,dgd]at h
   unfold dopW
   simp only
   cases hgd:Yai (getL s.fr g) pol with
   |none=>rw[hgd]at h;exact h.elim
   |some gb=>
     rw[hgd]at h
     simp only[dgq]at h
     cases hq:op.quiet with
     |true=>
       rw[hq]at h
       simp only[effG]at h
       simp only[fEff,hgd]
       cases he:eff s.hp (lenH s.hp) op (Y1 op gb (s.args xs)).2 with
       |none=>rw[he]at h;exact h.elim
       |some e=>
         obtain⟨p,x,u⟩:=e
         rw[he]at h
         cases u <;> try exact h.elim
         exact⟨⟨h.1,h.2.1⟩,n,YG8 _,h.2.2⟩
     |false=>
       rw[hq]at h
       simp only[dctG]at h
       simp only[YhE,hgd,ctGW]
       cases hct:ctOf E op (Y1 op gb (s.args xs)).2 with
       |none=>rw[hct]at h;exact h.elim
       |some c=>
         rw[hct]at h
         obtain⟨c,ys⟩:=c
         obtain⟨hp,hno,h⟩:=h
         obtain⟨m,r,hm,h1,h2⟩:=YgZ n h
         exact⟨hp,hno,r,⟨m,by omega,h1⟩,h2⟩
theorem Ycw{N:Nat}{K0:List It}{A B:S->Prop}:∀(l:List DOp),(∀s,A s->B s)->∀{s:S},Yhw E (inG E Q vr N K0) A l s->Yhw E (inG E Q vr N K0) B l s
 | [],h,_,hs=>h _ hs
 | ⟨_,_⟩::l,h,_,hs=>⟨hs.1,hs.2.imp (Yau (fun _ h'=>Ycw l h h')) (Yj9 _ _ _ _ fun _ h'=>Ycw l h h')⟩
theorem YjR{N:Nat}{K0:List It}:∀(l:List DOp)(n:Nat)(hn:n<=N){K:List It}(hK:Ygv K=K0){s:S},run E Q vr n (.dops l::K) s->Yhw E (inG E Q vr N K0) (fun s'=> ∃m,m<n/\run E Q vr m K s') l s
 |_,0,_,_,_,_,h=>h.elim
 | [],n+1,_,_,_,_,h=>⟨n,Nat.lt_succ_self _,h⟩
 | ⟨v,chk⟩::l,n+1,hn,K,hK,_,h=>by
   refine⟨h.1,?_⟩
   have key:∀(s:S),(∃m,m<=n/\run E Q vr m (.dops l::K) s)->Yhw E (inG E Q vr N K0) (fun s'=> ∃m,m<n+1/\run E Q vr m K s') l s:=fun s ⟨m,hm,h'⟩=>
     Ycw l (fun _ ⟨m',hm',h''⟩=>⟨m',by omega,h''⟩) (YjR l m (by omega) hK h')
   exact(YyK (n:=n) (N:=N) (by omega) (K:= .dops l::K) (K0:=K0) hK h.2).imp (Yau key) (Yj9 _ _ _ _ key)
theorem Ycx{N:Nat}{K0:List It}{A B:S->Prop}:∀(t:DTr),(∀s,A s->B s)->∀{s:S},dtrP E (inG E Q vr N K0) A t s->dtrP E (inG E Q vr N K0) B t s
 | .leaf,h,_,hs=>h _ hs
 | .ops l t,h,_,hs=>Ycw l (fun _ h'=>Ycx t h h') hs
 | .br a b,h,_,hs=>⟨Ycx a h hs.1,Ycx b h hs.2⟩
theorem YjT{N:Nat}{K0:List It}:∀(t:DTr)(n:Nat)(hn:n<=N){K:List It}(hK:Ygv K=K0){s:S},run E Q vr n (.dtr t::K) s->dtrP E (inG E Q vr N K0) (fun s'=> ∃m,m<n/\run E Q vr m K s') t s
 |_,0,_,_,_,_,h=>h.elim
 | .leaf,n+1,_,_,_,_,h=>⟨n,Nat.lt_succ_self _,h⟩
 | .ops l t,n+1,hn,K,hK,_,h=>Ycw l (fun _ ⟨m,hm,h'⟩=>Ycx t (fun _ ⟨m',hm',h''⟩=>⟨m',by omega,h''⟩) (YjT t m (by omega) hK h')) (YjR l n (by omega) (K:= .dtr t::K) hK h)
 | .br a b,n+1,hn,K,hK,_,h=>⟨Ycx a (fun _ ⟨m',hm',h''⟩=>⟨m',by omega,h''⟩) (YjT a n (by omega) hK h.1),Ycx b (fun _ ⟨m',hm',h''⟩=>⟨m',by omega,h''⟩) (YjT b n (by omega) hK h.2)⟩
theorem Yfx{fn:Func}{c:Code}{b:VC}{f:FuncId}(hf:P.funcs[f]? =some fn)(hbody:fn.body=some c){R:Ending->World->Prop}{args:Array Value}{w:World}
   (h:(Exit.then (c.wpIn (Wd none) 0 P (bodyPostM (Wd none) 0 P fn R)) (bodyPostM (Wd none) 0 P fn R)) .normal { tmps:=args++Array.replicate (fn.ntmps-args.size) undef,defers:=[]} w):CallsIn (Wd none) 0 P f args w R:=
 callsIn_of_wp_marks hf hbody trivial h
theorem Yej{fn:Func}{vf:VF}(h:Yf P fn=some vf):∃c,fn.body=some c/\YcO P c=some vf.body/\Yiq P fn.results.toList=some vf.res/\vf.ntmps=fn.ntmps:=by
 unfold Yf at h
 obtain⟨c,hbody,h⟩:=YGX.1 h
 obtain⟨b,hcode,h⟩:=YGX.1 h
 obtain⟨res,hres,rfl⟩:=YG1.1 h
 exact⟨c,hbody,hcode,hres,rfl⟩
theorem YoP{w:World}{bs:List BK}{B:Bd}:∀{ps:List Nat}{ys fr:List SV}{vs:List Value}{tmps:Array Value},RepL w bs B fr tmps.toList->RepL w bs B ys vs->RepL w bs B (Ymk fr ps ys) ((ps.zip vs).foldl (fun t (p:Nat×Value)=>t.setIfInBounds p.1 p.2) tmps).toList
 | [],ys,fr,vs,tmps,h,_=>by cases ys <;> simpa [Ymk]using h
 |p::ps,_,fr,_,tmps,h,.nil=>by simpa [Ymk]using h
 |p::ps,_,fr,_,tmps,h,.cons y v ys vs h1 h2=>by
   simp only[Ymk,List.zip_cons_cons,YH5]
   refine YoP ?_ h2
   rw[Array.toList_setIfInBounds]
   exact h.set p h1
theorem YoJ(hE:Yl P E)(hS:SatG P w0){fn0:Func}{R0:Ending->World->Prop}{n:Nat}(ih:∀m,m<=n->∀(K:List It) (s:S),run E Q vr m K s->∀(sv:List Act) (ks:List (Nat×Obj)) (rd:Option Nat) (κ:Kont) (a:Act) (w:World),KRel P w0 (bodyPostM (Wd none) 0 P fn0 R0) K sv ks rd κ->∀ {D:Nat->Option IK} {hD:Ext w0 D},Rl ⟨w0.wI D hD,ks⟩ s a sv w->κ .normal a w)
   {all:Array Oper}{o:Oper}{rest:List Oper}{l:List VOp}{vo:VO}{ops:List Operand}{xs:List SV}{K:List It}{s:S}{sv:List Act}{κ:Kont}{a:Act}{w:World}
   (hv:vop P o=some (vo,ops))(hcc:vo.isCall=true->YbP o.op=true)(hrest:YaP P all rest=some l){D:Nat->Option IK}{hD:Ext w0 D}(hx:∀bs,GlW P w bs (w0.wI D hD).bd->RepL w bs (w0.wI D hD).bd s.fr a.tmps.toList->RepL w bs (w0.wI D hD).bd xs (ops.map a.eval))
   (h:YpM E (run E Q vr n) o.dst vo xs (.ops l::K) s)(hk:KRel P w0 (bodyPostM (Wd none) 0 P fn0 R0) K sv ks rd κ)(hR:Rl ⟨w0.wI D hD,ks⟩ s a sv w):o.wpIn (Wd rd) 0 P a w (wpListIn (Wd rd) 0 P all κ rest) κ:=by
 have hK:KRel P w0 (bodyPostM (Wd none) 0 P fn0 R0) (.ops l::K) sv ks rd (Exit.then (wpListIn (Wd rd) 0 P all κ rest) κ):= .ops all rest l K sv ks rd κ hrest hk
 obtain⟨bs,hf,hsv,hH,hb,hoth⟩:=id hR
 have hxx:=hx bs (YaM hS hb hH) hf
 have hB:w0.heap.size<=w.heap.size:=hb.size
 have hnd:=Yac hv
 unfold YpM at h
 cases hc:callee E vo xs with
 |none=>
   rw[hc]at h
   simp only[opK]at h
   cases hy:yld vo xs with
   |some ly=>
     obtain⟨l',ys⟩:=ly
     rw[hy]at h
     simp only[yldK]at h
     have hvo:vo= .callv/\xs= .fn (.yield l') [] []::ys:=by
       unfold yld at hy
       split at hy
       . split at hy
         . cases hy;exact⟨rfl,rfl⟩
         . cases hy
       . cases hy
     obtain⟨rfl,rfl⟩:=hvo
     cases hfr:YeZ (.ops l::K)with
     |none=>rw[hfr]at h;exact h.elim
     |some x=>
       obtain⟨l2,ps,va,vb⟩:=x
       rw[hfr]at h
       cases hss:s.saved with
       |nil=>rw[hss]at h;exact h.elim
       |cons fr svs=>
         rw[hss]at h
         obtain⟨⟨rfl,hlen⟩,hrun⟩:=h
         obtain⟨q,sa,sv',ks',rfl,rfl,rfl,rfl,htm,hva,hvb⟩:=Yes hfr hK
         obtain⟨c,hop,hcall⟩:=Ypf hv (hcc rfl) rfl
         rcases hcall with⟨_,h1,_⟩ | ⟨x,_,hcal,rfl⟩ | ⟨_,_,h1,_⟩
         . cases h1
         . obtain⟨v,vs,hvs,g1,g2⟩:=hxx.cons_inv
           simp only[YHv,List.cons.injEq]at hvs
           obtain⟨hv1,rfl⟩:=hvs
           obtain⟨us,us',rfl,g3,g4⟩:=g1.fn_inv
           cases g3.nil_inv;cases g4.nil_inv
           have hrec:=Ybv hR
           have hsz:(#[]++c.args.map a.eval++ #[]:Array Value).size=q.ps.length:=by
             have:=g2.length
             simp only[List.length_map,Array.length_toList]at this
             have e2:∀l:List Nat,lenN l=l.length:=fun l=>by induction l with|nil=>rfl|cons _ l ih=>simp [lenN,ih]
             rw[e2]at hlen
             simp;omega
           have hex:(execOp a.eval o).run P w= .ok (.round l' q.fn ((q.ps.toArray.zip (#[]++c.args.map a.eval++ #[])).foldl (fun tmps (t,a)=>tmps.setIfInBounds t a) q.tmps) q.ca q.cb) w:=by
             obtain⟨dst,op,type,pos,after,guard⟩:=o
             simp only at hop
             subst hop
             simp only[execOp,resolve,hcal,hv1,Deferred.ofValue,Sem.run_bind,Sem.run_pure,Result.andThen_ok,invoke]
             exact run_yield hrec (by simpa [Rec.at]using hsz)
           unfold Oper.wpIn
           rw[Oper.semAt_eq _ _ _ hnd,hex]
           refine⟨fun _ _=>trivial,fun h=>(by cases h),?_⟩
           refine roundIn_of_wpIn trivial ?_
           refine ih n (YG8 _) _ _ hrun (a::sa::sv') _ _ _ { tmps:=_,defers:=[]} _ (.code q.ca va _ _ _ (some l') _ hva (.rbeg l' q _ _ ks' _ (.code q.cb vb _ _ _ (some l') _ hvb (.rend o.dst l' q a _ _ ks' _ _ (fun v w h=>h) hK)))) (D:=D) (hD:=hD) ?_
           rw[hss]at hsv
           cases hsv with
           |cons _ _ _ _ k1 k2=>
             refine⟨bs,?_,.cons _ _ _ _ hf (by rw[hss];exact .cons _ _ _ _ k1 k2),hH,hb,hoth.push⟩
             have:=YoP (ps:=q.ps) k1 g2
             rw[htm]
             have e:q.ps.toArray.zip (#[]++c.args.map a.eval++ #[])=(q.ps.zip (c.args.toList.map a.eval)).toArray:=by apply Array.ext';simp
             rw[e]
             simpa using this
         . cases h1
   |none=>
   rw[hy]at h
   simp only[yldK,psdK]at h
   cases hps:psd vo xs with
   |some c=>
     rw[hps]at h
     obtain⟨r,val,w',x,D2,hD2,hrn,hr,⟨m,hm,hrun⟩,k1,k2,k3,k4⟩:=Yxf (ρ:=a.eval) hv hps (Yeg n h) hxx hH
     refine Ybx hnd (hrn o.dst o.type o.pos o.after o.guard) hr ?_
     obtain⟨hD3,hcr⟩:=Yem (al:=false) (z:=Bd.cx (w0.wI D hD).bd w) (w0:=w0) (J1:=D) (hJ1:=hD) (hJ:=hD2) rfl hf hsv hH hb hoth o.dst k1 k2 k3 (fun _=>⟨k4,trivial⟩) (fun h=>by cases h)
     exact ih m (by omega) _ _ hrun sv _ _ _ _ _ hK (hcr _ fun _ h=>h)
   |none=>
   rw[hps]at h
   simp only[effK]at h
   cases he:eff s.hp (lenH s.hp) vo xs with
   |none=>rw[he]at h;exact h.elim
   |some e=>
     rw[he]at h
     obtain⟨r,v,w',bs',hrun,hr,h1,h2,h3,h4,h5⟩:=YmA (ρ:=a.eval) hv he h.1 hxx (fun _=>rfl) (fun _=>rfl) hH hB
     refine Ybx hnd (hrun o.dst o.type o.pos o.after o.guard) hr ?_
     exact ih n (YG8 _) _ _ h.2 sv _ _ _ _ _ hK (Yid (op:=o.op) hf hsv hb hoth h1 h2 h3 h4 h5 o.dst)
 |some fy=>
   obtain⟨f,ys⟩:=fy
   rw[hc]at h
   have hcall:vo.isCall=true:=by
     unfold callee at hc
     split at hc <;> first|rfl|cases hc
   simp only[opK,Yrl]at h
   cases hct:E.ct f with
   |some c=>
     rw[hct]at h
     obtain⟨hok,hen⟩:=hE.ct f c hct
     obtain⟨vs,hys,hrun⟩:=YfX hE.meth hv (hcc hcall) hc hxx (fun _=>rfl) hen
     refine Ya6 hnd hrun ?_
     obtain⟨z,hzw,hzI,hargs2,hal,hzF⟩:=Yc7 c.alias hH.v hB 3 hys h.1
     subst hzw
     refine(hok _ vs z _ ⟨fun b K hb=>(hH.reg b K (by rw[hzI]at hb;exact hb)).2,YfN (YaM (hJ:=hD) hS hb hH) rfl hzF⟩ hargs2 (Yeg n h.2)).mono ?_
     rintro e w' ⟨r,hs,v,bs2,D2,hD2,⟨m,hm,hrun'⟩,rfl,h1,h2,h3,h4⟩
     obtain⟨hD3,hcr⟩:=Yem (w0:=w0) (J1:=D) (hJ1:=hD) (hJ:=hD2) hzI hf hsv hH hb hoth o.dst h1 h2 h3 h4 hal
     exact ih m (by omega) _ _ hrun' sv _ _ _ _ _ hK (hcr _ fun _ h=>h)
   |none=>
     rw[hct]at h
     simp only[inlK]at h
     cases hfn:E.fn f with
     |none=>rw[hfn]at h;exact h.elim
     |some vf=>
       rw[hfn]at h
       obtain⟨fn,hfs,hvf,hen⟩:=hE.fn f vf hfn
       obtain⟨vs,hys,hrun⟩:=YfX hE.meth hv (hcc hcall) hc hxx (fun _=>rfl) hen
       refine Ya6 hnd hrun ?_
       obtain⟨c,hbody,hcode,hres,hnt⟩:=Yej hvf
       refine Yc8 (n:=0) (Yfx (b:=vf.body) hfs hbody ?_)
       refine ih n (YG8 _) _ _ h (a::sv) _ _ _ _ _ (.code c vf.body _ _ _ _ _ hcode (.frame o.dst vf.res fn a _ _ _ _ _ _ hres (fun v w h=>h) hK)) (D:=D) (hD:=hD) ?_
       refine⟨bs,?_,.cons _ _ _ _ hf hsv,hH,hb,hoth.push⟩
       have:=Yf9 (n:=fn.ntmps) hys
       rw[hnt]
       simpa using this
theorem Ynv{all:Array Oper}{rest:List Oper}{v:VOp}{l:List VOp}(h:YaP P all rest=some (v::l)):∃o r,rest=o::r/\YgH P all o=some v/\YaP P all r=some l:=by
 cases rest with
 |nil=>cases h
 |cons o r=>
   simp only[YaP]at h
   obtain⟨x,hx,h⟩:=YGX.1 h
   obtain⟨y,hy,h⟩:=YG1.1 h
   cases h
   exact⟨o,r,rfl,hx,hy⟩
theorem YpW{all:Array Oper}{rest:List Oper}(h:YaP P all rest=some []):rest=[]:=by
 cases rest with
 |nil=>rfl
 |cons o r=>
   simp only[YaP]at h
   obtain⟨x,hx,h⟩:=YGX.1 h
   obtain⟨y,hy,h⟩:=YG1.1 h
   cases h
theorem Yt1{all:Array Oper}{o:Oper}{v:VOp}(h:YgH P all o=some v):∃ops,vop P o=some (v.op,ops)/\X.ofs P ops=some v.xs/\(v.op.isCall=true->YbP o.op=true)/\v.dst=o.dst/\
   ((o.guard=none/\v.g=none)\/∃j b g,o.guard=some (j,b)/\Ymt all j=some g/\v.g=some (g,b)):=by
 unfold YgH at h
 obtain⟨⟨vo,ops⟩,h1,h⟩:=YGX.1 h
 obtain⟨xs,h2,h⟩:=YGX.1 h
 split at h
 . cases h
 . rename_i hne
   have hne:vo.isCall=true->YbP o.op=true:=by simpa using hne
   split at h
   . cases h;exact⟨ops,h1,h2,hne,rfl,.inl ⟨‹_›,rfl⟩⟩
   . obtain⟨g,hg,rfl⟩:=YG1.1 h
     exact⟨ops,h1,h2,hne,rfl,.inr ⟨_,_,g,‹_›,hg,rfl⟩⟩
theorem YiT{κ0:Kont}{K:List It}{sv:List Act}{ks:List (Nat×Obj)}{r:Option Nat}{κ:Kont}(h:KRel P w0 κ0 K sv ks r κ):Ygv K=K:=by
 cases h <;> rfl
theorem YsF(hE:Yl P E){n:Nat}{K:List It}{v:VOp}{A:S->Prop}{s:S}(h:inG E Q vr n K v A s):YhJ (YbN P) v=true:=by
 obtain⟨f,d,xs,ys,vf,B,rfl,hlo,_⟩:=h
 exact hE.lo f hlo
theorem YsG(hE:Yl P E)(hS:SatG P w0){fn0:Func}{R0:Ending->World->Prop}{n:Nat}(ih:∀m,m<=n->∀(K:List It) (s:S),run E Q vr m K s->∀(sv:List Act) (ks:List (Nat×Obj)) (rd:Option Nat) (κ:Kont) (a:Act) (w:World),KRel P w0 (bodyPostM (Wd none) 0 P fn0 R0) K sv ks rd κ->∀ {D:Nat->Option IK} {hD:Ext w0 D},Rl ⟨w0.wI D hD,ks⟩ s a sv w->κ .normal a w)
   {all:Array Oper}{K:List It}{sv:List Act}{ks:List (Nat×Obj)}{rd:Option Nat}{κ:Kont}(hk:KRel P w0 (bodyPostM (Wd none) 0 P fn0 R0) K sv ks rd κ):Yir P (inG E Q vr n K) rd all κ w0 ks sv:=by
 refine⟨hS,Yj9,?_⟩
 intro i o v A s hi hv hg J hJ a w hR
 obtain⟨f,d,xs,ys,vf,B,rfl,hlo,hc,hct,hfn,⟨m,hm,hrun'⟩,hB⟩:=hg
 obtain⟨ops,h1,h2,h3,h4,h5⟩:=Ygf hv
 obtain⟨bs,hf,hsv,hH,hb,hoth⟩:=id hR
 have hx:RepL w bs (w0.wI J hJ).bd (s.args xs) (ops.map a.eval):=YuP (YaM hS hb hH) hf h2
 obtain⟨fn,hfs,hvf,hen⟩:=hE.fn f vf hfn
 obtain⟨vs,hys,hrun⟩:=YfX hE.meth h1 (h3 rfl) hc hx (fun _=>rfl) hen
 rcases h5 with⟨hg0,_⟩ | ⟨_,_,_,_,_,hvg⟩
 . refine Ycm hi (by simp [Region.wanted,hg0]) (Ya6 (Yac h1) hrun ?_)
   obtain⟨c,hbody,hcode,hres,hnt⟩:=Yej hvf
   refine Yc8 (n:=0) (Yfx (b:=vf.body) hfs hbody ?_)
   have h4:d=o.dst:=h4
   subst h4
   refine ih m hm _ _ hrun' (a::sv) _ _ _ _ _ (.code c vf.body _ _ _ _ _ hcode (.frame o.dst vf.res fn a _ _ _ _ _ _ hres (fun v w h=>h) (.inLoop B (fun a' w'=> ∃s',A s'/\∃J',∃hJ':Ext w0 J',Rl ⟨w0.wI J' hJ',ks⟩ s' a' sv w') K sv ks rd κ (fun s' a' w' D hD hBs hR'=>⟨s',hB s' hBs,D,hD,hR'⟩) hk))) (D:=J) (hD:=hJ) ?_
   refine⟨bs,?_,.cons _ _ _ _ hf hsv,hH,hb,hoth.push⟩
   have:=Yf9 (n:=fn.ntmps) hys
   rw[hnt]
   simpa using this
 . cases hvg
theorem Ymo(hE:Yl P E)(hS:SatG P w0){fn0:Func}{R0:Ending->World->Prop}(hres:Yiq P fn0.results.toList=some vr)
   (hR0:∀r hp v w' bs D (hD:Ext w0 D),Q r hp->Rep w' bs (w0.wI D hD).bd r v->Hp w' bs (w0.wI D hD).bd hp->BelowI w0.bd w0.toWorld w'->R0 (.returned v) w'):
   ∀(n:Nat)(K:List It)(s:S),run E Q vr n K s->∀(sv:List Act)(ks:List (Nat×Obj))(rd:Option Nat)(κ:Kont)(a:Act)(w:World),KRel P w0 (bodyPostM (Wd none) 0 P fn0 R0) K sv ks rd κ->∀{D:Nat->Option IK}{hD:Ext w0 D},Rl ⟨w0.wI D hD,ks⟩ s a sv w->κ .normal a w:=by
 have main:∀(N n:Nat),n<=N->∀(K:List It)(s:S),run E Q vr n K s->∀(sv:List Act)(ks:List (Nat×Obj))(rd:Option Nat)(κ:Kont)(a:Act)(w:World),KRel P w0 (bodyPostM (Wd none) 0 P fn0 R0) K sv ks rd κ->∀{D:Nat->Option IK}{hD:Ext w0 D},Rl ⟨w0.wI D hD,ks⟩ s a sv w->κ .normal a w:=by
   intro N
   induction N with
   |zero=>
     intro n hn K s h
     have:n=0:=by omega
     subst this;exact h.elim
   |succ N ihN=>
     intro n hn K s h sv ks rd κ a w hk D hD hR
     cases n with
     |zero=>exact h.elim
     |succ n=>
     have ih:∀m,m<=n->∀(K:List It)(s:S),run E Q vr m K s->∀(sv:List Act)(ks:List (Nat×Obj))(rd:Option Nat)(κ:Kont)(a:Act)(w:World),KRel P w0 (bodyPostM (Wd none) 0 P fn0 R0) K sv ks rd κ->∀{D:Nat->Option IK}{hD:Ext w0 D},Rl ⟨w0.wI D hD,ks⟩ s a sv w->κ .normal a w:=fun m hm=>ihN m (by omega)
     have ihn:=ih n (YG8 _)
     have hjump:∀{K':List It}{d:Option Nat}{f:Act->World->Prop},YpJ (run E Q vr n) d false K' s.hp s.saved->YxF P w0 (bodyPostM (Wd none) 0 P fn0 R0) K' d sv ks rd f->f a w:=by
       rintro K' d f hr ⟨c,q,l,ita,sv',ks',κ',rfl,rfl,rfl,hk',hf⟩
       cases hs:s.saved with
       |nil=>rw[hs]at hr;exact hr.elim
       |cons fr svs=>
         rw[hs]at hr
         have hat:=Ybv hR
         have hend:=run_endRound (P:=P) (some c) hat
         have h2:=Yi7 hs (Yed (lp':=q.at .done (some c)) hR)
         exact hf a w _ _ hend (ihn _ _ hr sv' _ _ _ _ _ hk' (Yeb h2 d fun _ _ _=> .x _ _ (.bool _)))
     cases K with
     |nil=>
       cases hk
       rw[YFa]at h
       cases hv:Yay s vr with
       |none=>rw[hv]at h;exact h.elim
       |some x=>
         obtain⟨p,vs⟩:=x
         rw[hv]at h
         obtain⟨ms,hms⟩:=Ykv hR
         refine YfB ms hms hR fun w' hR'=>?_
         obtain⟨bs,hf,hsv,hH,hb,hoth⟩:=hR'
         obtain⟨v,h1,h2⟩:=Ygb (P:=P) hf hH hres hv h.1
         exact⟨v,h1,hR0 _ _ _ _ _ D hD h.2 h2 hH ⟨hb.os,hb.tape,hb.output,hb.size,fun k hk hI=>hb.block k hk ((hD.old k hk).trans hI)⟩⟩
     |cons x K=>
     cases x with
     |inBlock i=>
       cases hk with|inBlock _ _ _ _ _ κ hk=>exact ihn _ _ h sv _ _ κ a w hk hR
     |inScope=>
       cases hk with|inScope _ _ _ _ κ hk=>exact ihn _ _ h sv _ _ κ a w hk hR
     |inLoop I=>
       cases hk with|inLoop _ J _ _ _ _ κ hJ hk=>exact hJ s a w D hD h hR
     |frame d res=>
       cases hk with
       |frame _ _ fn sa _ sv _ rd κ R hr hRR hk=>
         rw[Ytl]at h
         cases hv:Yay s res with
         |none=>rw[hv]at h;exact h.elim
         |some x=>
           obtain⟨p,vs⟩:=x
           rw[hv]at h
           cases hs:s.saved with
           |nil=>rw[hs]at h;exact h.elim
           |cons fr sv'=>
             rw[hs]at h
             obtain⟨ms,hms⟩:=Ykv hR
             refine YfB ms hms hR fun w' hR'=>?_
             obtain⟨bs,hf,hsv,hH,hb,hoth⟩:=id hR'
             obtain⟨v,h1,h2⟩:=Ygb (P:=P) hf hH hr hv h.1
             refine⟨v,h1,hRR v w' (ihn _ _ h.2 sv _ _ κ _ w' hk (D:=D) (hD:=hD) ?_)⟩
             obtain⟨bs2,k1,k2,k3,k4,k5⟩:=Yi7 hs hR'
             rw[hs]at hsv
             cases hsv with
             |cons _ _ _ _ g1 g2=>
               have hp:=Yi7 hs hR'
               refine⟨bs,YhY (s:={ fr:=fr,saved:=sv',hp:=s.hp}) (a:=sa) g1 h2,?_,?_,hb,?_⟩
               . rw[YfL];exact g2
               . rw[Yea];exact hH
               . rw[YHv,Yca]
                 exact hoth.pop
     |rfrm res l ps va vb j=>
       cases hk with
       |rfrm _ _ q lp _ _ _ fn sa _ sv ks rd κ hr _ hps htm hva hvb hj hk=>
         rw[Yxk]at h
         cases hv:Yay s res with
         |none=>rw[hv]at h;exact h.elim
         |some x=>
           obtain⟨p,vs⟩:=x
           rw[hv]at h
           cases hs:s.saved with
           |nil=>rw[hs]at h;exact h.elim
           |cons fr sv'=>
             rw[hs]at h
             obtain⟨hp,h⟩:=h
             obtain⟨ms,hms⟩:=Ykv hR
             refine YfB ms hms hR fun w' hR'=>?_
             obtain⟨bs,hf,hsv,hH,hb,hoth⟩:=id hR'
             obtain⟨v,h1,h2⟩:=Ygb (P:=P) hf hH hr hv hp
             have hat:=Ybv hR'
             cases hj with
             |none=>
               refine⟨v,h1,none,_,run_endLoop hat (by simp [Rec.at]),?_⟩
               exact ihn _ _ h sv _ _ κ sa _ hk (Ymn (Yed (Yi7 hs hR')))
             |some c vc hc=>
               refine⟨v,h1,some c,_,run_endLoop hat (by simp [Rec.at]),?_⟩
               exact ihn _ _ h sv _ _ _ sa _ (.code c vc K sv ks rd κ hc hk) (Ymn (Yed (Yi7 hs hR')))
     |rbeg=>
       cases hk with
       |rbeg l q _ _ ks κ hk=>
         exact⟨_,run_beginRound (Ybv hR) rfl,ihn _ _ h sv _ _ κ a _ hk (Yed hR)⟩
     |rend d=>
       cases hk with
       |rend _ l q ita _ sv ks κ R hRR hk=>
         rw[Yxj]at h
         cases hs:s.saved with
         |nil=>rw[hs]at h;exact h.elim
         |cons fr sv'=>
           rw[hs]at h
           refine⟨_,_,run_endRound none (Ybv hR),hRR _ _ (ihn _ _ h sv _ _ κ _ _ hk (D:=D) (hD:=hD) ?_)⟩
           exact Yeb (Yi7 hs (Yed (lp':=q.at .ready none) hR)) d fun _ _ _=> .x _ _ (.bool _)
     |dops l=>cases hk
     |dtr t=>cases hk
     |res g al d c=>cases hk
     |ops l=>
       cases hk with
       |ops all rest _ _ _ _ _ κ hl hk=>
       show wpListIn (Wd rd) 0 P all κ rest a w
       cases l with
       |nil=>rw[YpW hl];exact ihn _ _ h sv _ _ κ a w hk hR
       |cons v l=>
         obtain⟨o,r,rfl,hvo,hlr⟩:=Ynv hl
         obtain⟨ops,h1,h2,h3,h4,h5⟩:=Yt1 hvo
         obtain⟨dst,g,op,xs⟩:=v
         simp only at h1 h2 h3 h4 h5
         subst h4
         have hnd:=Yac h1
         have hx:∀bs,GlW P w bs (w0.wI D hD).bd->RepL w bs (w0.wI D hD).bd s.fr a.tmps.toList->RepL w bs (w0.wI D hD).bd (s.args xs) (ops.map a.eval):=fun bs hg hf=>YuP hg hf h2
         rcases h5 with⟨hg,rfl⟩ | ⟨j,pol,gs,hg,hsl,rfl⟩
         . rw[r_op]at h
           exact YfT (by simp [Region.wanted,hg]) (YoJ hE hS ih h1 h3 hlr hx h hk hR)
         . rw[YFe]at h
           have hKr:KRel P w0 (bodyPostM (Wd none) 0 P fn0 R0) (.ops l::K) sv ks rd (Exit.then (wpListIn (Wd rd) 0 P all κ r) κ):= .ops all r l K sv ks rd κ hlr hk
           cases hgd:Yai (getL s.fr gs) pol with
           |none=>rw[hgd]at h;exact h.elim
           |some gb=>
             rw[hgd,r_g]at h
             obtain⟨bs,hf,hsv,hH,hb,hoth⟩:=id hR
             have hw:=Yj7 (w:=w) hf hg hsl hgd
             have hB:w0.heap.size<=w.heap.size:=hb.size
             cases hq:op.quiet with
             |true=>
               rw[hq]at h
               simp only[gK]at h
               cases he:eff s.hp (lenH s.hp) op (Y1 op gb (s.args xs)).2 with
               |none=>
                 rw[he]at h
                 obtain⟨rfl,v,hrun⟩:=h
                 exact YeK hw (ihn _ _ hrun sv _ _ _ _ _ hKr (Yeb hR o.dst fun _ _ _=> .optF _))
               |some e=>
                 rw[he]at h
                 obtain⟨q,val,u⟩:=e
                 cases u <;> try exact h.elim
                 obtain⟨hp1,hp2,hrun⟩:=h
                 cases gb with
                 |true=>
                   obtain⟨r',v,w',bs',hrn,hr,k1,k2,k3,k4,k5⟩:=YmA (ρ:=a.eval) h1 he (hp2 rfl) (YcN rfl (hx bs (YaM hS hb hH) hf) hp1) (fun _=>rfl) (fun _=>rfl) hH hB
                   refine YfT hw (Ybx hnd (hrn o.dst o.type o.pos o.after o.guard) hr ?_)
                   refine ihn _ _ hrun sv _ _ _ _ _ hKr (D:=D) (hD:=hD) ?_
                   exact Yid (e:=⟨q,.opt true val,.no⟩) (op:=o.op) hf hsv hb hoth (.optT _ _ k1) k2 k3 k4 k5 o.dst
                 |false=>
                   exact YeK hw (ihn _ _ hrun sv _ _ _ _ _ hKr (Yeb hR o.dst fun _ _ _=> .optF _))
             |false=>
               rw[hq]at h
               simp only[gK,Yrk]at h
               cases hct:ctOf E op (Y1 op gb (s.args xs)).2 with
               |none=>
                 rw[hct]at h
                 obtain⟨hp1,ht,hfl⟩:=h
                 cases gb with
                 |true=>exact YfT hw (YoJ hE hS ih h1 h3 hlr (fun bs hg hf=>YcN rfl (hx bs hg hf) hp1) (ht rfl) hk hR)
                 |false=>exact YeK hw (ihn _ _ (hfl rfl) sv _ _ _ _ _ hKr (Yeb hR o.dst fun _ _ _=> .x _ _ (.junk _)))
               |some c=>
                 rw[hct]at h
                 obtain⟨c,ys⟩:=c
                 obtain⟨hp1,hno,hrun⟩:=h
                 obtain⟨m,rr,hm,hrun',hcs⟩:=YgZ n hrun
                 cases gb with
                 |false=>exact YeK hw (ih m (by omega) _ _ hrun' sv _ _ _ _ _ hKr (Yeb hR o.dst fun _ _ _=> .optF _))
                 |true=>
                   obtain⟨f,hcl,hct',hic⟩:=Yn9 hct
                   obtain⟨hok,hen⟩:=hE.ct f c hct'
                   obtain⟨vs,hys,hrn⟩:=YfX hE.meth h1 (h3 hic) hcl (YcN rfl (hx bs (YaM hS hb hH) hf) hp1) (fun _=>rfl) hen
                   refine YfT hw (Ya6 hnd hrn ?_)
                   obtain⟨z,hzw,hzI,hargs2,hal,hzF⟩:=Yc7 c.alias hH.v hB 3 hys hno
                   subst hzw
                   refine(hok _ vs z _ ⟨fun b K hb=>(hH.reg b K (by rw[hzI]at hb;exact hb)).2,YfN (YaM (hJ:=hD) hS hb hH) rfl hzF⟩ hargs2 (hcs rfl)).mono ?_
                   rintro e w' ⟨r',hs,v,bs2,D2,hD2,⟨rfl,rfl⟩,rfl,k1,k2,k3,k4⟩
                   obtain⟨hD3,hcr⟩:=Yem (w0:=w0) (J1:=D) (hJ1:=hD) (hJ:=hD2) (d:=o.dst) hzI hf hsv hH hb hoth k1 k2 k3 k4 hal
                   have hcr:=hcr (.opt true (shift (lenH s.hp) r')) fun _ h=> .optT _ _ h
                   refine ih m (by omega) _ _ hrun' sv _ _ _ _ _ hKr (D:=D2) (hD:=hD3) ?_
                   have e0:({ fr:=s.fr,saved:=s.saved,hp:=s.hp++Y2 (lenH s.hp) []}:S)=s:=by simp [Y2]
                   rw[e0]at hcr
                   exact hcr
     |code c=>
       cases hk with
       |code cc _ _ _ _ _ κ hcode hk=>
       show cc.wpIn (Wd rd) 0 P κ a w
       cases cc <;> simp only[YcO,reduceCtorEq]at hcode <;> try (cases hcode;exact h.elim)
       case skip=>cases hcode;exact wpIn_skip (ihn _ _ h sv _ _ κ a w hk hR)
       case region id ops draw=>
         cases draw with
         |true=>
           simp only[if_true]at hcode
           unfold YDn at hcode
           cases hd:Yoe P ops with
           |none=>
             rw[hd]at hcode
             simp only at hcode
             cases hdt:YjS P ops with
             |none=>rw[hdt]at hcode;cases hcode;exact h.elim
             |some r=>
               obtain⟨al,t⟩:=r
               rw[hdt]at hcode
               cases hcode
               exact YmW hE hE.mix hdt (YjT (N:=n) (K0:=K) t n (YG8 _) (YiT hk) h) (YsG hE hS ih hk) (fun v A s hg=>YsF hE hg) hR fun s' a' w' D' hD' ⟨m,hm,hrun⟩ hR'=>ih m (by omega) _ _ hrun sv _ _ κ a' w' hk hR'
           |some r=>
           obtain⟨al,dl⟩:=r
           rw[hd]at hcode
           cases hcode
           exact Ypq hE hE.mix hd (YjR (N:=n) (K0:=K) dl n (YG8 _) (YiT hk) h) (YsG hE hS ih hk) (fun v A s hg=>YsF hE hg) hR fun s' a' w' D' hD' ⟨m,hm,hrun⟩ hR'=>ih m (by omega) _ _ hrun sv _ _ κ a' w' hk hR'
         |false=>
           simp only[YHm,if_false]at hcode
           cases hl:YaP P ops ops.toList with
           |none=>rw[hl]at hcode;cases hcode;exact h.elim
           |some l=>
           rw[hl]at hcode
           cases hcode
           exact wpIn_region_list (ihn _ _ h sv _ _ _ a w (.ops ops ops.toList l K sv ks rd κ hl hk) hR)
       case seq x y=>
         obtain⟨vx,hx,hcode⟩:=YGX.1 hcode
         obtain⟨vy,hy,rfl⟩:=YG1.1 hcode
         exact wpIn_seq (ihn _ _ h sv _ _ _ a w (.code x vx _ sv ks rd _ hx (.code y vy K sv ks rd κ hy hk)) hR)
       case cond cnd x y=>
         obtain⟨z,hz,hcode⟩:=YGX.1 hcode
         obtain⟨vx,hx,hcode⟩:=YGX.1 hcode
         obtain⟨vy,hy,rfl⟩:=YG1.1 hcode
         rw[Yxh]at h
         obtain⟨bs,hf,hsv,hH,hb,hoth⟩:=id hR
         have hrep:=X_of (w:=w) (YaM (hJ:=hD) hS hb hH) hf hz
         generalize s.x z=v at h hrep
         cases v <;> try exact h.elim
         rename_i b
         have hb1:=hrep.bool_inv
         obtain⟨ht,hfl⟩:=h
         refine wpIn_cond_split hb1 (fun hb=>ihn _ _ (ht hb) sv _ _ _ a w (.code x vx K sv ks rd κ hx hk) hR) (fun hb=>ihn _ _ (hfl hb) sv _ _ _ a w (.code y vy K sv ks rd κ hy hk) hR)
       case block id c=>
         obtain⟨vc,hc,rfl⟩:=YG1.1 hcode
         exact wpIn_block (ihn _ _ h sv _ _ _ a w (.code c vc _ sv ks rd _ hc (.inBlock id K sv ks rd κ hk)) hR)
       case scope c=>
         obtain⟨vc,hc,rfl⟩:=YG1.1 hcode
         exact YpX (ihn _ _ h sv _ _ _ a w (.code c vc _ sv ks rd _ hc (.inScope K sv ks rd κ hk)) hR)
       case label l=>cases hcode;exact wpIn_label (ihn _ _ h sv _ _ κ a w hk hR)
       case loop c=>
         obtain⟨vc,hc,rfl⟩:=YG1.1 hcode
         obtain⟨σ,head,inv,μ,lf,hlf,⟨x0,hx0,hle0⟩,hround⟩:=h
         obtain⟨D0,hD0,hR0'⟩:=Yw2 (hlf _ _ hle0) hR
         refine wpIn_loop_ghost (fun k a w=> ∃x D,∃hD:Ext w0 D,μ x=k/\inv x/\Rl ⟨w0.wI D hD,ks⟩ (head x) a sv w) (μ x0) ⟨x0,D0,hD0,rfl,hx0,hR0'⟩ ?_
         rintro k a w ⟨x,D,hD,rfl,hx,hRx⟩
         exact ihn _ _ (hround x hx) sv _ _ _ a w (.code c vc _ sv ks rd _ hc (.inLoop _ _ K sv ks rd κ (by
           rintro s' a' w' D' hD' ⟨y,hy,hlt,hle⟩ hR'
           obtain⟨D1,hD1,hR1⟩:=Yw2 (hlf _ _ hle) hR'
           exact⟨μ y,hlt,y,D1,hD1,rfl,hy,hR1⟩) hk)) hRx
       case exit id=>
         cases hcode
         rw[Yxi]at h
         cases hp:Yb8 id K with
         |no=>rw[hp]at h;exact h.elim
         |go K'=>
           rw[hp]at h
           obtain⟨κ',h1,h2⟩:=Yey hp hk
           exact wpIn_exit (h2 _ _ (ihn _ _ h sv _ _ κ' a w h1 hR))
         |jump d K'=>
           rw[hp]at h
           exact wpIn_exit (hjump h (YbU hp hk))
       case ret=>
         cases hcode
         rw[YFj]at h
         cases hp:Yak K with
         |no=>rw[hp]at h;exact h.elim
         |go K'=>
           rw[hp]at h
           obtain⟨κ',h1,h2⟩:=YcF hp hk
           exact wpIn_ret (h2 _ _ (ihn _ _ h sv _ _ κ' a w h1 hR))
         |jump d K'=>
           rw[hp]at h
           exact wpIn_ret (hjump h (Ya1 hp hk))
       case rangeFunc g ps ca cb=>
         obtain⟨z,hz,hcode⟩:=YGX.1 hcode
         obtain⟨va,hva,hcode⟩:=YGX.1 hcode
         obtain⟨vb,hvb,rfl⟩:=YG1.1 hcode
         rw[Yto]at h
         obtain⟨bs,hf,hsv,hH,hb,hoth⟩:=id hR
         have hrep:=X_of (w:=w) (YaM (hJ:=hD) hS hb hH) hf hz
         generalize s.x z=v at h hrep
         unfold YoT at h
         split at h
         . rename_i gf us cs
           unfold YoS at h
           cases hfn:E.fn gf with
           |none=>rw[hfn]at h;exact h.elim
           |some vf=>
             rw[hfn]at h
             obtain⟨hnr,h⟩:=h
             have hrd:=Ya0 hnr hk
             subst hrd
             obtain⟨fn,hfs,hvf,hen⟩:=hE.fn gf vf hfn
             obtain⟨c,hbody,hcode,hres',hnt⟩:=Yej hvf
             obtain⟨uv,cv,hgv,g1,g2⟩:=hrep.fn_inv
             refine wpIn_rangeFunc fun fr _=>?_
             have hB:w0.heap.size<=w.heap.size:=hb.size
             obtain⟨q,hq⟩:∃q:Rec,q= { fn:=fr,ps:=ps.toList,ca:=ca,cb:=cb,D:=w.heap.size,tmps:=a.tmps}:=⟨_,rfl⟩
             obtain⟨W1,hW1⟩:∃W1,W1=(w.alloc (.deferred (some []))).alloc (.loop (q.at .ready none)):=⟨_,rfl⟩
             have hent:(Instr.enterLoop fr a.tmps ps ca cb (Wd none).round).run P w= .ok (w.heap.size+1,[mark w.heap.size]) W1:=by
               rw[hW1,hq]
               exact run_enterLoop_outer _ _ _ _ _
             refine⟨w.heap.size+1,[mark w.heap.size],W1,{ target:= .fn (.func gf) cv.toArray,args:=uv.toArray++ #[.func (.yield (w.heap.size+1)) #[] #[]]},W1,gf,(uv++(.func (.yield (w.heap.size+1)) #[] #[]::cv)).toArray,W1,
               hent,?_,fun _ _=>trivial,?_,fun h=>(by cases h),?_⟩
             . simp only[resolve,hgv,Deferred.ofValue,Sem.run_bind,Sem.run_pure,Result.andThen_ok]
               simp [Act.eval]
             . simp only[invoke,Yck hen]
               simp
             . refine Yfx (b:=vf.body) hfs hbody ?_
               refine ihn _ _ (h (w.heap.size+1)) ({ a with defers:=[mark w.heap.size]++a.defers}::sv) _ _ _ { tmps:=_,defers:=[]} _ (.code c vf.body _ _ _ _ _ hcode (.rfrm vf.res _ q (q.at .ready none) va vb none fn _ _ _ _ _ _ hres' ps.toList (by rw[hq]) (by rw[hq]) (by rw[hq];exact hva) (by rw[hq];exact hvb) .none hk)) (D:=D) (hD:=hD) ?_
               rw[hW1]
               refine Ywb hf hsv hH hb hoth ?_
               have hy:Rep w bs (w0.wI D hD).bd (.fn (.yield (w.heap.size+1)) [] []) (.func (.yield (w.heap.size+1)) #[] #[]):= .x _ _ (.fn _ [] [] [] [] .nil .nil)
               have:=Yf9 (n:=fn.ntmps) (g1.append (.cons _ _ _ _ hy g2))
               rw[hnt]
               simpa using this
         . exact h.elim
 exact fun n=>main n n (YG8 _)
end
end Go.Vx
namespace Go.Vx
open Go.RowKit
section
variable {P:Program} {E:Env}
def Yy(al:Bool)(k:SV->List HO->Prop)(r:SV)(hp:List HO):Prop:=
 ∃r',k r' []/\le 0 0 (expo hp r) r'/\(al=false->Yj r')
theorem YmU:Cut [] [] 0 0:=⟨rfl,rfl,fun _ _ h=>absurd h (Nat.not_lt_zero _),fun _ _ h=>absurd h (Nat.not_lt_zero _)⟩
theorem XRepL.up{w:World}{bs:List BK}{B:Bd}{l:List SV}{vs:List Value}(h:XRepL w bs B l vs):RepL w bs B l vs:=h.rep
theorem Yb{f:FuncId}{fn:Func}{vf:VF}(hf:P.funcs[f]? =some fn)(hvf:Yf P fn=some vf)(hE:Yl P E)(n:Nat)(c:Ctr)
   (h:∀(args:List SV) (k:SV->List HO->Prop),CSat (c.of args) k->∃args',leL 0 0 args args'/\run E (Yy c.alias k) vf.res n [.code vf.body] { fr:=padL vf.ntmps args',saved:=[],hp:=[]}):c.ok P f:=by
 intro args vs z k hsat hx hc
 obtain⟨args',hle,hrun⟩:=h args k hc
 have hk0:Ycg z.toWorld [] z.bd z.toWorld [] (z.wI z.I (Yag z)).bd:=⟨rfl,fun _ _ h=>h,fun b hf cs T fz ho=>⟨ho,YbJ,hf.2,z.ex b hf.2⟩⟩
 have hx2:RepL z.toWorld [] (z.wI z.I (Yag z)).bd args' vs:=YfA YmU _ _ hle (XRepL.keepG hk0 hx).rep
 obtain⟨body,hbody,hcode,hres,hnt⟩:=Yej hvf
 refine Yc8 (n:=0) (Yfx (b:=vf.body) hf hbody ?_)
 refine Ymo (w0:=z) (fn0:=fn) (R0:=fun e w'=> ∃r hs v bs,∃J,∃hJ:Ext z J,k r hs/\e= .returned v/\Rep w' bs (z.wI J hJ).bd r v/\Hp w' bs (z.wI J hJ).bd hs/\BelowI z.bd z.toWorld w'/\(c.alias=false->Yj r/\YaR hs)) hE hsat.2 hres (by
   rintro r hp v w' bs D hD ⟨r',hk,hle,hfr⟩ hr hH hb
   refine⟨r',[],v,[],D,hD,hk,rfl,YDS YmU _ _ hle (.x _ _ (YyR hH hr)),hp0 fun b K hb=>(hH.reg b K hb).2,hb,fun ha=>⟨hfr ha,trivial⟩⟩) n _ _ hrun [] [] none _
   { tmps:=vs.toArray++Array.replicate (fn.ntmps-vs.toArray.size) undef,defers:=[]} z.toWorld (.code body vf.body [] [] [] none _ hcode .nil) (D:=z.I) (hD:=Yag z) ?_
 refine⟨[],?_,.nil,hp0 (hJ:=Yag z) hsat.1,BelowI.refl _ _,⟨fun _ h=>(by cases h),.nil,[[]],rfl,by simp,fun _ h=>(by simp at h)⟩⟩
 have:=Yf9 (n:=fn.ntmps) hx2
 rw[hnt]
 simpa using this
def Ywy:List VOp->List Nat
 | []=>[]
 | ⟨some d,_,_,_⟩::l=>d::Ywy l
 | ⟨none,_,_,_⟩::l=>Ywy l
def wrAl:List (Nat×AL)->List Nat
 | []=>[]
 | (d,_)::l=>d::wrAl l
def YmC:List DOp->List Nat
 | []=>[]
 | ⟨⟨some d,_,_,_⟩,_⟩::l=>d::YmC l
 | ⟨⟨none,_,_,_⟩,_⟩::l=>YmC l
def Yt5:DTr->List Nat
 | .leaf=>[]
 | .ops l t=>YmC l++Yt5 t
 | .br a b=>Yt5 a++Yt5 b
def wrC:VC->List Nat
 | .region l=>Ywy l
 | .draw al l=>wrAl al++YmC l
 | .drawT al t=>wrAl al++Yt5 t
 | .seq a b=>wrC a++wrC b
 | .cond _ a b=>wrC a++wrC b
 | .block _ c=>wrC c
 | .loop c=>wrC c
 |_=>[]
def junkAt:List SV->List Nat->List SV
 |fr,[]=>fr
 |fr,n::l=>junkAt (setL fr n .junk) l
def Ymj:List SV->List (Nat×SV)->List SV
 |fr,[]=>fr
 |fr,(n,v)::l=>Ymj (setL fr n v) l
def Yth:List HO->List (Nat×HO)->List HO
 |hp,[]=>hp
 |hp,(n,v)::l=>Yth (setH hp n v) l
def YlL(s:S)(body:VC)(ghosts:List HO)(Yar:List (Nat×SV))(blocks:List (Nat×HO)):S:=
 { fr:=Ymj (junkAt s.fr (wrC body)) Yar,saved:=s.saved,hp:=Yth (s.hp++ghosts) blocks}
theorem Loop.at{r:List It->S->Prop}{body:VC}{K:List It}{s:S}(σ:Type)(Yar:σ->List (Nat×SV))(blocks:σ->List (Nat×HO))(ghosts:List HO)(inv:σ->Prop)(μ:σ->Nat)
   (h0:∃x,inv x/\leS s (YlL s body ghosts (Yar x) (blocks x)))
   (h:∀x,inv x->r (.code body:: .inLoop (fun s'=> ∃y,inv y/\μ y<μ x/\leS s' (YlL s body ghosts (Yar y) (blocks y)))::K) (YlL s body ghosts (Yar x) (blocks x))):Loop r body K s leP:=
 ⟨σ,fun x=>YlL s body ghosts (Yar x) (blocks x),inv,μ,leS,fun _ _ h=>⟨[],trivial,[],trivial,h⟩,h0,h⟩
def keepG:List Nat->List SV->List SV
 | [],l=>Ysh l
 |_,[]=>[]
 |0::ks,x::l=>x::keepG ks l
 | (k+1)::ks,_::l=> .junk::keepG (k::ks) l
def Yj8(s:S)(keep:List Nat)(ghosts:List HO)(Yar:List (Nat×SV))(blocks:List (Nat×HO)):S:=
 { fr:=Ymj (keepG keep s.fr) Yar,saved:=s.saved,hp:=Yth (s.hp++ghosts) blocks}
theorem Loop.keep{r:List It->S->Prop}{body:VC}{K:List It}{s:S}(keep:List Nat)(σ:Type)(Yar:σ->List (Nat×SV))(blocks:σ->List (Nat×HO))(ghosts:List HO)(inv:σ->Prop)(μ:σ->Nat)
   (h0:∃x,inv x/\leS s (Yj8 s keep ghosts (Yar x) (blocks x)))
   (h:∀x,inv x->r (.code body:: .inLoop (fun s'=> ∃y,inv y/\μ y<μ x/\leS s' (Yj8 s keep ghosts (Yar y) (blocks y)))::K) (Yj8 s keep ghosts (Yar x) (blocks x))):Loop r body K s leP:=
 ⟨σ,fun x=>Yj8 s keep ghosts (Yar x) (blocks x),inv,μ,leS,fun _ _ h=>⟨[],trivial,[],trivial,h⟩,h0,h⟩
end
end Go.Vx
namespace Go.Vx
variable {al:Bool} {k:SV->List HO->Prop} {hp:List HO} {m n:Nat}
theorem Yi{κ:IntKind}{x:Int}(h:k (.int κ x) []):Yy al k (.int κ x) hp:=⟨_,h,by simp [expo,view,le],fun _=>by simp [Yj]⟩
theorem Yx{b:Bool}(h:k (.bool b) []):Yy al k (.bool b) hp:=⟨_,h,by simp [expo,view,le],fun _=>by simp [Yj]⟩
theorem YD{x r':SV}(h:k r' [])(hl:le 0 0 (expo hp x) r')(hf:al=false->Yj r'):Yy al k x hp:=⟨_,h,hl,hf⟩
theorem Yzn{x:SV}:le m n x .junk=True:=by cases x <;> simp [le]
theorem Ysu{κ κ':IntKind}{x y:Int}:le m n (.int κ x) (.int κ' y)=(κ=κ'/\x=y):=by simp [le]
theorem Yzk{x y:Bool}:le m n (.bool x) (.bool y)=(x=y):=by simp [le]
theorem YDR:le m n .nil .nil=True:=by simp [le,bnd]
theorem YDQ{a b:List SV}:le m n (.agg a) (.agg b)=leL m n a b:=by simp [le]
theorem YDY{a b:List SV}:le m n (.tup a) (.tup b)=leL m n a b:=by simp [le]
theorem YD0{t t' z z':Bool}{l l' sz sz':Nat}{g g':Nat->List SV}:le m n (.vs t z l sz g) (.vs t' z' l' sz' g')=((t'=true->t=true)/\z=z'/\l=l'/\sz=sz'/\∀k,k<l->leXL (g k) (g' k)):=by simp [le]
theorem YDV{i o i' o':Nat}:le m n (.ptr i o) (.ptr i' o')=(i=i'/\o=o'/\i'<n):=by simp [le,bnd,and_assoc]
theorem YDU{i lo l sz i' lo' l' sz':Nat}:le m n (.own i lo l sz) (.own i' lo' l' sz')=(i=i'/\lo=lo'/\l=l'/\sz=sz'/\i<n):=by simp [le]
theorem Yzp{t t':Bool}{c c':List SV}:le m n (.xp t c) (.xp t' c')=((t'=true->t=true)/\leXL c c'):=by simp [le]
theorem le_fn{f f':Fn}{a b a' b':List SV}:le m n (.fn f a b) (.fn f' a' b')=(f=f'/\a=a'/\b=b'/\bndL n a'/\bndL n b'):=by simp [le,bnd,and_assoc]
theorem YDT{b b':Bool}{x y:SV}:le m n (.opt b x) (.opt b' y)=(b=b'/\x=y/\bnd n y):=by simp [le,bnd,and_assoc]
theorem YDZ{x y:Value}:le m n (.val x) (.val y)=(x=y):=by simp [le,bnd]
theorem Yzl{i k o sz i' k' o' sz':Nat}:le m n (.elem i k o sz) (.elem i' k' o' sz')=(i=i'/\k=k'/\o=o'/\sz=sz'/\i'<n):=by simp [le,bnd,and_assoc]
theorem Yzj{x:List SV}:leXL x x=True:=eq_true (Yd x)
theorem Ypz{i lo l sz:Nat}:le m n .nil (.own i lo l sz)=(m<=i/\i<n/\lo=0/\l=0):=by simp [le]
theorem Ysv{t z:Bool}{l sz:Nat}{g:Nat->List SV}:le m n .nil (.vs t z l sz g)=(z=true/\l=0):=by simp [le]
theorem Ysp{z:Bool}{sz l:Nat}{g:Nat->List SV}{r:List HO}:leH m n [] (.own z sz l g::r)=(z=true/\l=0/\leH m n [] r):=rfl
theorem YvI:lenH []=0:=rfl
theorem Ysy{x:HO}{a:List HO}:lenH (x::a)=lenH a+1:=rfl
theorem Ym2:leL m n [] []=True:=by simp [leL]
theorem Ykg{x y:SV}{a b:List SV}:leL m n (x::a) (y::b)=(le m n x y/\leL m n a b):=by simp [leL]
theorem YvF:leLL m n [] []=True:=by simp [leLL]
theorem Ysq{x y:List SV}{a b:List (List SV)}:leLL m n (x::a) (y::b)=(leL m n x y/\leLL m n a b):=by simp [leLL]
theorem Yzi{h:List HO}:leH m n h []=True:=by cases h <;> simp [leH]
theorem YvD{a b:List SV}:leH1 m n (.box a) (.box b)=leL m n a b:=by simp [leH1]
theorem YDW{a:Nat}{C:Nat->Int->Prop}:le m n (.row a C) (.row a C)=True:=eq_true ⟨rfl,trivial⟩
theorem YvH{C:Int->Prop}:le m n (.rcell C) (.rcell C)=True:=eq_true ⟨rfl,trivial⟩
theorem Yzm{kk:List IntKind}{C:List Int->Int->Prop}:le m n (.imap kk C) (.imap kk C)=True:=eq_true ⟨rfl,trivial⟩
theorem YDX{i:Nat}:le m n (.smp i) (.smp i)=(i<n):=propext ⟨fun h=>h.2,fun h=>⟨rfl,h⟩⟩
theorem Yyr{a:Nat}{C:Nat->Int->Prop}:bnd n (.row a C)=True:=rfl
theorem Yrh{C:Int->Prop}:bnd n (.rcell C)=True:=rfl
theorem Yu3{kk:List IntKind}{C:List Int->Int->Prop}:bnd n (.imap kk C)=True:=rfl
theorem Yys{i:Nat}:bnd n (.smp i)=(i<n):=rfl
theorem Yso{l l':List (List UInt8)}:leH1 m n (.smap l) (.smap l')=(l=l'):=rfl
theorem Ysn:leH1 m n .gone .gone=True:=by simp [leH1]
theorem YvE{z z':Bool}{sz sz' l l':Nat}{g g':Nat->List SV}:leH1 m n (.own z sz l g) (.own z' sz' l' g')=(z=z'/\sz=sz'/\l=l'/\∀k,k<l->leL m n (g k) (g' k)):=by simp [leH1]
theorem YDM{fr fr':List SV}{sv sv':List (List SV)}{h h':List HO}:leS ⟨fr,sv,h⟩ ⟨fr',sv',h'⟩=(leL (lenH h) (lenH h') fr fr'/\leLL (lenH h) (lenH h') sv sv'/\leH (lenH h) (lenH h') h h'):=rfl
theorem Yym{k:IntKind}{x:Int}:bnd n (.int k x)=True:=rfl
theorem Yu1{b:Bool}:bnd n (.bool b)=True:=rfl
theorem Yyu{v:Value}:bnd n (.val v)=True:=rfl
theorem Yyn:bnd n .nil=True:=rfl
theorem Yu4:bnd n .junk=True:=rfl
theorem YC4{t z:Bool}{l sz:Nat}{g:Nat->List SV}:bnd n (.vs t z l sz g)=True:=rfl
theorem YC5{t:Bool}{c:List SV}:bnd n (.xp t c)=True:=rfl
theorem Yyl{c:List SV}:bnd n (.agg c)=bndL n c:=rfl
theorem Yyt{c:List SV}:bnd n (.tup c)=bndL n c:=rfl
theorem Yyq{i o:Nat}:bnd n (.ptr i o)=(i<n):=rfl
theorem Yyp{i a b c:Nat}:bnd n (.own i a b c)=(i<n):=rfl
theorem Yu2{i a b c:Nat}:bnd n (.elem i a b c)=(i<n):=rfl
theorem YC3{f:Fn}{a b:List SV}:bnd n (.fn f a b)=(bndL n a/\bndL n b):=rfl
theorem Yrg{t:TypeId}{v:SV}:bnd n (.iface t v)=bnd n v:=rfl
theorem Yyo{b:Bool}{v:SV}:bnd n (.opt b v)=bnd n v:=rfl
theorem Yu0:bndL n []=True:=rfl
theorem Yrf{x:SV}{l:List SV}:bndL n (x::l)=(bnd n x/\bndL n l):=rfl
mutual
theorem Yw:∀(x:SV),bnd n x->le m n x x
 | .int _ _,_=>⟨rfl,rfl⟩
 | .bool _,_=>rfl
 | .val _,h=>⟨rfl,h⟩
 | .nil,h=>⟨rfl,h⟩
 | .agg cs,h=>Yp cs h
 | .tup cs,h=>Yp cs h
 | .vs _ _ _ _ get,_=>⟨id,rfl,rfl,rfl,fun k _=>Yd (get k)⟩
 | .xp _ cs,_=>⟨id,Yd cs⟩
 | .ptr _ _,h=>⟨rfl,h⟩
 | .own _ _ _ _,h=>⟨rfl,rfl,rfl,rfl,h⟩
 | .elem _ _ _ _,h=>⟨rfl,h⟩
 | .fn _ _ _,h=>⟨rfl,h⟩
 | .iface _ _,h=>⟨rfl,h⟩
 | .opt _ _,h=>⟨rfl,h⟩
 | .cut _,h=>⟨rfl,h⟩
 | .row _ _,h=>⟨rfl,h⟩
 | .rcell _,h=>⟨rfl,h⟩
 | .imap _ _,h=>⟨rfl,h⟩
 | .smp _,h=>⟨rfl,h⟩
 | .junk,_=>trivial
theorem Yp:∀(x:List SV),bndL n x->leL m n x x
 | [],_=>trivial
 |x::l,h=>⟨Yw x h.1,Yp l h.2⟩
end
mutual
theorem YDO:∀(x y:SV),leX x y->bnd n y->le m n x y
 | .agg cs,y,h,hb=>by
   cases y with
   |agg ds=>exact Ykh cs ds h hb
   |junk=>trivial
   |_=>cases h
 | .tup cs,y,h,hb=>by
   cases y with
   |tup ds=>exact Ykh cs ds h hb
   |junk=>trivial
   |_=>cases h
 | .int _ _,y,h,hb=>by cases y <;> first|trivial|exact h|cases h
 | .bool _,y,h,hb=>by cases y <;> first|trivial|exact h|cases h
 | .val _,y,h,hb=>by cases y <;> first|trivial| (cases h;done) | (cases h;exact⟨rfl,hb⟩)
 | .nil,y,h,hb=>by cases y <;> first|trivial|exact h| (cases h;done) | (cases h;exact⟨rfl,hb⟩)
 | .vs _ _ _ _ _,y,h,hb=>by cases y <;> first|trivial|exact h|cases h
 | .xp _ _,y,h,hb=>by cases y <;> first|trivial|exact h|cases h
 | .ptr _ _,y,h,hb=>by cases y <;> first|trivial| (cases h;done) | (cases h;exact⟨rfl,hb⟩)
 | .own _ _ _ _,y,h,hb=>by cases y <;> first|trivial| (cases h;done) | (cases h;exact⟨rfl,rfl,rfl,rfl,hb⟩)
 | .elem _ _ _ _,y,h,hb=>by cases y <;> first|trivial| (cases h;done) | (cases h;exact⟨rfl,hb⟩)
 | .fn _ _ _,y,h,hb=>by cases y <;> first|trivial| (cases h;done) | (cases h;exact⟨rfl,hb⟩)
 | .iface _ _,y,h,hb=>by cases y <;> first|trivial| (cases h;done) | (cases h;exact⟨rfl,hb⟩)
 | .opt _ _,y,h,hb=>by cases y <;> first|trivial| (cases h;done) | (cases h;exact⟨rfl,hb⟩)
 | .cut _,y,h,hb=>by cases y <;> first|trivial| (cases h;done) | (cases h;exact⟨rfl,hb⟩)
 | .row _ _,y,h,hb=>by cases y <;> first|trivial| (cases h;done) | (cases h;exact⟨rfl,hb⟩)
 | .rcell _,y,h,hb=>by cases y <;> first|trivial| (cases h;done) | (cases h;exact⟨rfl,hb⟩)
 | .imap _ _,y,h,hb=>by cases y <;> first|trivial| (cases h;done) | (cases h;exact⟨rfl,hb⟩)
 | .smp _,y,h,hb=>by cases y <;> first|trivial| (cases h;done) | (cases h;exact⟨rfl,hb⟩)
 | .junk,y,h,hb=>by cases y <;> first|trivial| (cases h;done)
theorem Ykh:∀(x y:List SV),leXL x y->bndL n y->leL m n x y
 | [],y,h,hb=>by
   cases y with
   |nil=>trivial
   |cons _ _=>exact h.elim
 |x::l,y,h,hb=>by
   cases y with
   |nil=>exact h.elim
   |cons a r=>exact⟨YDO x a h.1 hb.1,Ykh l r h.2 hb.2⟩
end
theorem Ylj:∀(k:Nat)(l:List SV),bndL n l->bndL n (YC k l)
 |0,_,_=>trivial
 |_+1,[],_=>trivial
 |k+1,_::l,h=>⟨h.1,Ylj k l h.2⟩
theorem Yli:∀(k:Nat)(l:List SV),bndL n l->bndL n (Yu k l)
 |0,_,h=>h
 |_+1,[],_=>trivial
 |k+1,_::l,h=>Yli k l h.2
theorem Yss{sz k:Nat}{cs:List SV}(h:bndL n cs=True):leL m n (YaW sz cs k) (YaW sz cs k)=True:=
 eq_true (Yp _ (Ylj _ _ (Yli _ _ (of_eq_true h))))
theorem YAF(n:Nat):YkI n 0=n:=rfl
theorem YmH(k:Nat):Ydx 0 k=k:=rfl
theorem YtL(n:Nat):YkI n (Int.toNat 1)=n-1:=rfl
theorem YqS(k:Nat):Ydx (Int.toNat 1) k=1+k:=rfl
end Go.Vx
