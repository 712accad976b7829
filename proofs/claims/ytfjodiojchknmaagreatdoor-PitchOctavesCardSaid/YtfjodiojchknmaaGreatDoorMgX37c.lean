/- Operations of a region that draws its order: what exchanges. -/
import Derived.Test.YtfjodiojchknmaaGreatDoorMgX37b
import Derived.MapKept
import Derived.WideKeyRuns
open Array renaming getElem?_eq_some_iff->YDl
open Bool renaming and_eq_true->YC2,false_eq_true->YDB,or_eq_false_iff->YDt,or_eq_true->YDN
open List renaming getD_eq_getElem?_getD->YC7,getElem?_append->YDM,length_cons->YDP,map_cons->YDk,mem_append->YDp,mem_cons->YDx,mem_cons_of_mem->YDa,mem_cons_self->YDd,mem_map->YDW,mem_singleton->YDC
open Nat renaming beq->YDu,eq_of_beq_eq_true->YDe,le_of_ble_eq_true->YDw,le_of_eq->YDV,le_refl->YC5,lt_of_lt_of_le->YDI,lt_or_ge->YDz,pow_le_pow_right->YDm,zero_add->YDO
open Option renaming bind_eq_some_iff->YCV,map_eq_some_iff->YCY
set_option linter.all false
namespace Go.Vx
theorem YbA:∀(l:List SV)(n m:Nat)(x:SV),n≠m->getL (setL l n x) m=getL l m
 | [],_,_,_,_=>rfl
 |_::_,0,0,_,h=>absurd rfl h
 |_::_,0,_+1,_,_=>rfl
 |_::_,_+1,0,_,_=>rfl
 |_::l,n+1,m+1,x,h=>YbA l n m x (fun e=>h (by rw[e]))
theorem Yb8:∀(l:List SV)(n m:Nat)(x y:SV),n≠m->setL (setL l n x) m y=setL (setL l m y) n x
 | [],_,_,_,_,_=>rfl
 |_::_,0,0,_,_,h=>absurd rfl h
 |_::_,0,_+1,_,_,_=>rfl
 |_::_,_+1,0,_,_,_=>rfl
 |a::l,n+1,m+1,x,y,h=>congrArg (a::·) (Yb8 l n m x y (fun e=>h (by rw[e])))
section
variable {s:S} {d d':Option Nat} {v u:SV}
theorem YoB{x:X}(h:∀n,d=some n->n∉x.slot):(s.put d v).x x=s.x x:=by
 cases d with
 |none=>rfl
 |some n=>
   cases x with
   |cn _=>rfl
   |tm m=>exact YbA _ _ _ _ (fun e=>h n rfl (by simp [X.slot,e]))
theorem Yib:∀{xs:List X},(∀n,d=some n->n∉Yag xs)->(s.put d v).args xs=s.args xs
 | [],_=>rfl
 |x::l,h=>by
   simp only[S.args]
   rw[YoB (fun n e hm=>h n e (by simp [Yag,hm])),Yib (fun n e hm=>h n e (by simp [Yag,hm]))]
theorem YeL(h:∀n,d=some n->d'≠some n):(s.put d v).put d' u=(s.put d' u).put d v:=by
 cases d with
 |none=>cases d' <;> rfl
 |some n=>
   cases d' with
   |none=>rfl
   |some m=>simp only[S.put];rw[Yb8 _ _ _ _ _ (fun e=>h n rfl (by rw[e]))]
end
def Grow(hp hp':List HO):Prop:=∀i,getH hp i≠ .gone->getH hp' i=getH hp i
theorem YjS{hp hp':List HO}(hg:Grow hp hp'){x:SV}{r:Prop×List SV}(h:Yal hp x=some r):Yal hp' x=some r:=by
 cases x <;> simp only[Yal]at h⊢ <;> try exact h
 case ptr i off=>rw[hg i (by intro e;rw[e]at h;cases h)];exact h
 case elem i k off sz=>rw[hg i (by intro e;rw[e]at h;cases h)];exact h
theorem Ym9{hp hp':List HO}(hg:Grow hp hp'){n n':Nat}{o:VO}(hq:o.quiet=true){xs:List SV}{e:Ef}(h:eff hp n o xs=some e):eff hp' n' o xs=some e:=by
 cases o <;> simp only[VO.quiet,reduceCtorEq]at hq <;> try exact h
 case load agg size=>
   simp only[eff,Yg4]at h⊢
   split at h
   . rename_i a
     obtain⟨r,hr,h⟩:=YCV.1 h
     simp only[YjS hg hr,Option.bind_some]
     exact h
   . cases h
 case idxArr n size=>
   simp only[eff,Ybw]at h⊢
   split at h
   . rename_i j k i
     rw[hg j (by intro e;rw[e]at h;cases h)];exact h
   . rename_i j o k i
     rw[hg j (by intro e;rw[e]at h;cases h)];exact h
   . exact h
   . cases h
 case sliceArr n size lo hi=>
   simp only[eff]at h⊢
   unfold Ybx at h⊢
   split at h
   . rename_i j
     rw[hg j (by intro e;rw[e]at h;cases h)];exact h
   . cases h
 case isNil neg=>
   simp only[eff]at h⊢
   unfold eNil at h⊢
   split at h
   . rename_i x
     split at h <;> try exact h
     rename_i i _ _ _
     rw[hg i (by intro e;rw[e]at h;cases h)];exact h
   . cases h
def fEff(v:VOp)(s:S):Option (Prop×SV):=
 match v.g with
 |none=>match eff s.hp (lenH s.hp) v.op (s.args v.xs)with
   |some ⟨p,x,.no⟩=>some (p,x)
   |_=>none
 |some (g,pol)=>match Y8 (getL s.fr g) pol with
   |none=>none
   |some gb=>match eff s.hp (lenH s.hp) v.op (YL v.op gb (s.args v.xs)).2 with
     |some ⟨q,x,.no⟩=>some ((YL v.op gb (s.args v.xs)).1/\(gb=true->q),.opt gb x)
     |_=>none
def YgN(o:Option (Prop×SV))(d:Option Nat)(A:S->Prop)(s:S):Prop:=
 match o with
 |some (p,x)=>p/\A (s.put d x)
 |none=>False
def ctW(d:Option Nat)(A:S->Prop)(s:S)(ys:List SV)(c:Option Ctr):Prop:=
 match c with
 |some c=>(c.alias=true->Yaq ys=true)/\CSat (c.of (viewN false s.hp 3 ys)) fun r hs=>A (S.put { fr:=s.fr,saved:=s.saved,hp:=s.hp++YO (lenH s.hp) hs} d (shift (lenH s.hp) r))
 |none=>False
def effW(d:Option Nat)(A:S->Prop)(s:S)(e:Option Ef):Prop:=
 match e with
 |some e=>e.pre/\A ((s.upd e.upd).put d e.val)
 |none=>False
def badW(b:Bool)(p:Prop):Prop:=
 match b with
 |true=>False
 |false=>p
def psdW(v:VOp)(A:S->Prop)(s:S)(c:Option CRes):Prop:=
 match c with
 |some c=>CSat c fun r hs=>A (S.put { fr:=s.fr,saved:=s.saved,hp:=s.hp++YO (lenH s.hp) hs} v.dst (shift (lenH s.hp) r))
 |none=>badW v.op.bad (effW v.dst A s (eff s.hp (lenH s.hp) v.op (s.args v.xs)))
def Ykb(E:Env)(v:VOp)(A:S->Prop)(s:S)(c:Option (FuncId×List SV)):Prop:=
 match c with
 |some (f,ys)=>ctW v.dst A s ys (E.ct f)
 |none=>psdW v A s (psd v.op (s.args v.xs))
def ctGW(gb:Bool)(d:Option Nat)(A:S->Prop)(s:S)(p:Prop)(c:Option (Ctr×List SV)):Prop:=
 match c with
 |some (c,ys)=>p/\(c.alias=true->Yaq ys=true)/\∃r,A (s.put d (.opt gb r))/\(gb=true->CSat (c.of (viewN false s.hp 3 ys)) fun r' hs=>r=shift (lenH s.hp) r'/\hs=[])
 |none=>False
def Ygt(E:Env)(v:VOp)(A:S->Prop)(s:S)(g:Option Bool):Prop:=
 match g with
 |some gb=>ctGW gb v.dst A s (YL v.op gb (s.args v.xs)).1 (ctOf E v.op (YL v.op gb (s.args v.xs)).2)
 |none=>False
def dopW(E:Env)(v:VOp)(A:S->Prop)(s:S):Prop:=
 match v.op.quiet with
 |true=>YgN (fEff v s) v.dst A s
 |false=>match v.g with
   |none=>Ykb E v A s (callee E v.op (s.args v.xs))
   |some (g,pol)=>Ygt E v A s (Y8 (getL s.fr g) pol)
section
variable {E:Env} {v:VOp} {A B:S->Prop} {s:S}
theorem Yai(h:∀s,A s->B s)(hd:dopW E v A s):dopW E v B s:=by
 unfold dopW at*
 split
 . rename_i hq
   rw[hq]at hd
   simp only[YgN]at*
   cases hf:fEff v s with
   |none=>rw[hf]at hd;exact hd
   |some r=>rw[hf]at hd;exact⟨hd.1,h _ hd.2⟩
 . rename_i hq
   rw[hq]at hd
   simp only at hd
   split
   . rename_i hg
     rw[hg]at hd
     simp only at hd
     unfold Ykb at*
     split
     . rename_i f ys hc
       rw[hc]at hd
       simp only[ctW]at*
       cases hct:E.ct f with
       |none=>rw[hct]at hd;exact hd
       |some c=>rw[hct]at hd;exact⟨hd.1,hd.2.mono fun r hs hh=>h _ hh⟩
     . rename_i hc
       rw[hc]at hd
       simp only[psdW]at*
       cases hps:psd v.op (s.args v.xs)with
       |some c=>rw[hps]at hd;exact CSat.mono hd fun r hs hh=>h _ hh
       |none=>
       rw[hps]at hd
       simp only at*
       cases hbd:v.op.bad with
       |true=>rw[hbd]at hd;exact hd
       |false=>
       rw[hbd]at hd
       simp only[badW,effW]at*
       cases he:eff s.hp (lenH s.hp) v.op (s.args v.xs)with
       |none=>rw[he]at hd;exact hd
       |some e=>rw[he]at hd;exact⟨hd.1,h _ hd.2⟩
   . rename_i g pol hg
     rw[hg]at hd
     simp only at hd
     unfold Ygt at*
     split
     . rename_i gb hgb
       rw[hgb]at hd
       simp only[ctGW]at*
       cases hct:ctOf E v.op (YL v.op gb (s.args v.xs)).2 with
       |none=>rw[hct]at hd;exact hd
       |some c=>rw[hct]at hd;obtain⟨h1,h0,r,h2,h3⟩:=hd;exact⟨h1,h0,r,h _ h2,h3⟩
     . rename_i hgb
       rw[hgb]at hd;exact hd
theorem Ygi(hq:v.op.quiet=true):¬dopW E v (fun _=>False) s:=by
 unfold dopW
 rw[hq]
 simp only[YgN]
 cases fEff v s with
 |none=>exact id
 |some r=>exact fun h=>h.2
theorem Ydx{d:Option Nat}{x:SV}(h:∀n,d=some n->n∉v.reads):fEff v (s.put d x)=fEff v s:=by
 have ha:(s.put d x).args v.xs=s.args v.xs:=Yib fun n e hm=>h n e (by simp [VOp.reads,hm])
 unfold fEff
 cases hg:v.g with
 |none=>simp only[ha,Ydd]
 |some gp=>
   obtain⟨g,pol⟩:=gp
   have hgg:getL (s.put d x).fr g=getL s.fr g:=by
     cases d with
     |none=>rfl
     |some n=>exact YbA _ _ _ _ (fun e=>h n rfl (by simp [VOp.reads,hg,e]))
   simp only[ha,Ydd,hgg]
theorem Yk9{s s':S}(hf:s'.fr=s.fr):∀(xs:List X),s'.args xs=s.args xs
 | []=>rfl
 |x::l=>by
   simp only[S.args]
   rw[Yk9 hf l]
   cases x <;> simp [S.x,hf]
theorem Yev{s':S}{r:Prop×SV}(hq:v.op.quiet=true)(hf:s'.fr=s.fr)(hg:Grow s.hp s'.hp)(h:fEff v s=some r):fEff v s'=some r:=by
 unfold fEff at*
 simp only[Yk9 hf,hf]
 cases hgd:v.g with
 |none=>
   rw[hgd]at h
   simp only at h⊢
   cases he:eff s.hp (lenH s.hp) v.op (s.args v.xs)with
   |none=>rw[he]at h;cases h
   |some e=>rw[he]at h;rw[Ym9 hg hq he];exact h
 |some gp=>
   obtain⟨g,pol⟩:=gp
   rw[hgd]at h
   simp only at h⊢
   cases hgb:Y8 (getL s.fr g) pol with
   |none=>rw[hgb]at h;cases h
   |some gb=>
     rw[hgb]at h
     simp only at h⊢
     cases he:eff s.hp (lenH s.hp) v.op (YL v.op gb (s.args v.xs)).2 with
     |none=>rw[he]at h;cases h
     |some e=>rw[he]at h;rw[Ym9 hg hq he];exact h
def noApp:Upd->Prop
 | .app _ _=>False
 |_=>True
theorem YlN{d:Option Nat}{x:SV}{u:Upd}(h:noApp u):(s.put d x).upd u=(s.upd u).put d x:=by
 cases u <;> first|exact h.elim| (cases d <;> rfl)
theorem YuF{d:Option Nat}{x:SV}{hp:List HO}:({ fr:=(s.put d x).fr,saved:=(s.put d x).saved,hp:=hp}:S)=S.put { fr:=s.fr,saved:=s.saved,hp:=hp} d x:=by
 cases d <;> rfl
theorem YfP(hp hs:List HO):Grow hp (hp++hs):=fun i hi=>by
 rw[Yiy]
 split
 . rfl
 . rename_i hlt
   exact absurd (Ya6 hp i (by omega)) hi
theorem Yj9(hp:List HO)(x:HO):Grow hp (Ybl hp x):=fun i hi=>by
 rcases YDz i (lenH hp)with h|h
 . exact YW hp x i h
 . exact absurd (Ya6 hp i h) hi
variable {i j:VOp} {p:Prop} {x:SV}
theorem Ys0(hi:i.op.quiet=true)(h1:∀n,i.dst=some n->n∉j.reads)(h2:∀n,i.dst=some n->j.dst≠some n)(h3:∀n,j.dst=some n->n∉i.reads)
   (hh:∀e,j.op.quiet=false->j.op.bad=false->callee E j.op (s.args j.xs)=none->eff s.hp (lenH s.hp) j.op (s.args j.xs)=some e->(s.put i.dst x).upd e.upd=(s.upd e.upd).put i.dst x/\fEff i (s.upd e.upd)=some (p,x))
   (hf:fEff i s=some (p,x))(h:dopW E j A (s.put i.dst x)):dopW E j (fun s'=>fEff i s'=some (p,x)/\A (s'.put i.dst x)) s:=by
 have ha:(s.put i.dst x).args j.xs=s.args j.xs:=Yib fun n e hm=>h1 n e (by simp [VOp.reads,hm])
 unfold dopW at*
 split
 . rename_i hq
   rw[hq]at h
   simp only[Ydx h1]at h
   simp only[YgN]at*
   cases hfj:fEff j s with
   |none=>rw[hfj]at h;exact h
   |some r=>rw[hfj]at h;exact⟨h.1,by rw[Ydx h3];exact hf,by rw[<-YeL h2];exact h.2⟩
 . rename_i hq
   rw[hq]at h
   simp only at h
   split
   . rename_i hg
     rw[hg]at h
     simp only[ha]at h
     unfold Ykb at*
     split
     . rename_i f ys hc
       rw[hc]at h
       simp only[ctW,Ydd]at*
       cases hct:E.ct f with
       |none=>rw[hct]at h;exact h
       |some c=>
         rw[hct]at h
         refine⟨h.1,CSat.mono h.2 fun r hs hr=>⟨?_,?_⟩⟩
         . rw[Ydx h3]
           exact Yev (s:=s) hi rfl (YfP _ _) hf
         . have hr2:=hr
           rw[YuF,YeL h2]at hr2;exact hr2
     . rename_i hc
       rw[hc]at h
       simp only[psdW,Ydd,ha]at*
       cases hps:psd j.op (s.args j.xs)with
       |some c=>
         rw[hps]at h
         refine CSat.mono h fun r hs hr=>⟨?_,?_⟩
         . rw[Ydx h3]
           exact Yev (s:=s) hi rfl (YfP _ _) hf
         . have hr2:=hr
           rw[YuF,YeL h2]at hr2;exact hr2
       |none=>
       rw[hps]at h
       simp only at*
       cases hbd:j.op.bad with
       |true=>rw[hbd]at h;exact h
       |false=>
       rw[hbd]at h
       simp only[badW,effW,Ydd]at*
       cases he:eff s.hp (lenH s.hp) j.op (s.args j.xs)with
       |none=>rw[he]at h;exact h
       |some e=>
         rw[he]at h
         obtain⟨k1,k2⟩:=hh e hq hbd hc he
         refine⟨h.1,?_,?_⟩
         . rw[Ydx h3];exact k2
         . rw[<-YeL h2,<-k1];exact h.2
   . rename_i g pol hg
     rw[hg]at h
     have hgg:getL (s.put i.dst x).fr g=getL s.fr g:=by
       cases hd:i.dst with
       |none=>rfl
       |some n=>exact YbA _ _ _ _ (fun e=>h1 n hd (by simp [VOp.reads,hg,e]))
     simp only[ha,hgg]at h
     unfold Ygt at*
     split
     . rename_i gb hgb
       rw[hgb]at h
       simp only[ctGW,Ydd,ha]at*
       cases hct:ctOf E j.op (YL j.op gb (s.args j.xs)).2 with
       |none=>rw[hct]at h;exact h
       |some c=>
         rw[hct]at h
         obtain⟨k1,k0,r,k2,k3⟩:=h
         exact⟨k1,k0,r,⟨by rw[Ydx h3];exact hf,by rw[<-YeL h2];exact k2⟩,k3⟩
     . rename_i hgb
       rw[hgb]at h;exact h
end
end Go.Vx
namespace Go.Vx
theorem Yiu{hp hp':List HO}{n n':Nat}{o:VO}(hq:o.quiet=true)(hr:o.readsHp=false)(xs:List SV):eff hp' n' o xs=eff hp n o xs:=by
 cases o <;> simp only[VO.quiet,VO.readsHp,reduceCtorEq]at hq hr <;> rfl
def Yco:List SV->SV
 | []=> .junk
 |x::_=>x
theorem Yle{hp hp':List HO}{x:SV}(h:∀b,blk x=some b->getH hp' b=getH hp b):Yal hp' x=Yal hp x:=by
 cases x <;> try rfl
 case ptr i off=>simp only[Yal,h i rfl]
 case elem i k off sz=>simp only[Yal,h i rfl]
theorem Yp8{hp hp':List HO}{n n':Nat}{o:VO}(hq:o.quiet=true){xs:List SV}(h:∀b,blk (Yco xs)=some b->getH hp' b=getH hp b):eff hp' n' o xs=eff hp n o xs:=by
 cases hr:o.readsHp with
 |false=>exact Yiu hq hr xs
 |true=>
   cases o <;> simp only[VO.readsHp,reduceCtorEq]at hr
   case load agg size=>
     cases xs with
     |nil=>rfl
     |cons a l=>
       cases l with
       |nil=>
         have:=Yle (x:=a) h
         simp only[eff,Yg4,this]
       |cons _ _=>rfl
   case idxArr m size=>
     rcases xs with _| ⟨a,_| ⟨b,_| ⟨c,l⟩⟩⟩ <;> try rfl
     . cases a <;> try rfl
       case ptr j off=>cases off <;> rfl
     . cases a <;> try rfl
       case ptr j off=>
         have:=h j rfl
         cases off <;> cases b <;> try rfl
         all_goals simp only[eff,Ybw,this]
       case xp t cs=>cases b <;> rfl
     . cases a <;> try rfl
       case ptr j off=>cases off <;> cases b <;> rfl
       case xp t cs=>cases b <;> rfl
   case sliceArr m size lo hi=>
     rcases xs with _| ⟨a,_| ⟨b,l⟩⟩
     . cases lo <;> cases hi <;> rfl
     . cases lo <;> cases hi <;> try rfl
       cases a <;> try rfl
       case ptr j off=>
         have:=h j rfl
         cases off <;> try rfl
         simp only[eff,Ybx,this]
     . cases lo <;> cases hi <;> try rfl
       cases a <;> try rfl
       case ptr j off=>cases off <;> rfl
   case isNil neg=>
     rcases xs with _| ⟨a,_| ⟨b,l⟩⟩
     . rfl
     . rfl
     . rcases l with _| ⟨c,l⟩
       . cases b <;> try rfl
         cases a <;> try rfl
         case own i lo m sz=>
           have:=h i rfl
           simp only[eff,eNil,this]
       . cases b <;> rfl
theorem YkS{hp:List HO}{n:Nat}{o:VO}(ho:o.isStore=true){xs:List SV}{e:Ef}(h:eff hp n o xs=some e):∃k ho,e.upd= .set k ho/\blk (Yco xs)=some k:=by
 cases o <;> simp only[VO.isStore,reduceCtorEq]at ho
 simp only[eff,Yhw]at h
 split at h
 . rename_i a v
   obtain⟨e',h',rfl⟩:=YCY.1 h
   cases a <;> simp only[storeAt,reduceCtorEq]at h'
   . rename_i i off
     split at h'
     . cases h';exact⟨_,_,rfl,rfl⟩
     . split at h'
       . cases h';exact⟨_,_,rfl,rfl⟩
       . cases h'
     . cases h'
     . cases h'
   . rename_i i k off sz
     split at h'
     . cases h';exact⟨_,_,rfl,rfl⟩
     . cases h'
 . cases h
theorem Yrc{hp:List HO}{n:Nat}{o:VO}(hq:o.quiet=false)(ho:o.isStore=false)(ha:o.isAppend=false)(hb:o.bad=false){xs:List SV}{e:Ef}(h:eff hp n o xs=some e):∃ho,e.upd= .new ho:=by
 cases o <;> simp only[VO.quiet,VO.isStore,VO.isAppend,VO.bad,reduceCtorEq]at hq ho ha hb <;> simp only[eff]at h
 . cases h;exact⟨_,rfl⟩
 . cases h;exact⟨_,rfl⟩
 . unfold eBox at h;split at h
   . cases h;exact⟨_,rfl⟩
   . cases h
 . obtain⟨⟨p,cs⟩,h',h⟩:=YCV.1 h
   cases h;exact⟨_,rfl⟩
 . unfold Yp7 at h;split at h
   . cases h;exact⟨_,rfl⟩
   . cases h
 all_goals cases h
theorem Yb1(s:S):∀(xs:List X),Yco (s.args xs)=s.x (Ycp xs)
 | []=>rfl
 |_::_=>rfl
theorem Yfn(gb:Bool):∀(xs:List SV),Yco (Yfx gb xs).2=Yow (Yco xs)
 | []=>rfl
 |x::_=>by cases x <;> rfl
theorem Yex(o:VO)(gb:Bool)(xs:List SV):Yco (YL o gb xs).2=Yow (Yco xs):=by
 unfold YL Yjj
 split
 . exact Yfn gb xs
 . split
   . rename_i x y
     cases x <;> rfl
   . exact Yfn gb _
theorem Ys6{v:VOp}{s:S}{k:Nat}{ho:HO}(hq:v.op.quiet=true)(h:v.op.readsHp=true->∀b,blk (Yow (s.x (Ycp v.xs)))=some b->b≠k):fEff v (s.upd (.set k ho))=fEff v s:=by
 have key:∀xs:List SV,(v.op.readsHp=true->∀b,blk (Yco xs)=some b->b≠k)->eff (s.upd (.set k ho)).hp (lenH (s.upd (.set k ho)).hp) v.op xs=eff s.hp (lenH s.hp) v.op xs:=by
   intro xs hx
   cases hr:v.op.readsHp with
   |false=>exact Yiu hq hr xs
   |true=>exact Yp8 hq fun b hb=>YI _ _ _ _ (fun e=>hx hr b hb e.symm)
 have hfr:(s.upd (.set k ho)).fr=s.fr:=rfl
 have ha:(s.upd (.set k ho)).args v.xs=s.args v.xs:=Yk9 hfr _
 unfold fEff
 cases hg:v.g with
 |none=>
   simp only[ha]
   rw[key]
   intro hr b hb
   refine h hr b ?_
   rw[Yb1]at hb
   cases hx:s.x (Ycp v.xs) <;> rw[hx]at hb <;> first|exact hb|cases hb
 |some gp=>
   obtain⟨g,pol⟩:=gp
   simp only[ha,hfr]
   cases Y8 (getL s.fr g) pol with
   |none=>rfl
   |some gb=>
     simp only
     rw[key]
     intro hr b hb
     refine h hr b ?_
     rw[Yex,Yb1]at hb
     exact hb
theorem YdH{b:Nat}{v:SV}(h:refs b v=false):YgJ b v=v:=by unfold YgJ;rw[h];rfl
theorem YkF{b:Nat}:∀{l:List SV},YgO b l=false->Yj b l=l
 | [],_=>rfl
 |x::l,h=>by
   simp only[YgO,YDt]at h
   simp only[Yj,YdH h.1,YkF h.2]
theorem Ycz(b:Nat):∀(n:Nat)(l:List SV),Yq n (Yj b l)=Yj b (Yq n l)
 |0,_=>rfl
 |_+1,[]=>rfl
 |n+1,_::l=>Ycz b n l
theorem Yec(b:Nat):∀(n:Nat)(l:List SV),Yy n (Yj b l)=Yj b (Yy n l)
 |0,_=>rfl
 |_+1,[]=>rfl
 |n+1,x::l=>congrArg (YgJ b x::·) (Yec b n l)
theorem YdF(b:Nat):∀(l:List SV),lenL (Yj b l)=lenL l
 | []=>rfl
 |_::l=>congrArg (·+1) (YdF b l)
theorem YhM(b:Nat):∀(l r:List SV),Yj b (l++r)=Yj b l++Yj b r
 | [],_=>rfl
 |x::l,r=>congrArg (YgJ b x::·) (YhM b l r)
theorem Ygp(b:Nat)(get:Nat->List SV):∀(n k:Nat),Ye0 n k (fun j=>Yj b (get j))=Yj b (Ye0 n k get)
 |0,_=>rfl
 |n+1,k=>by simp only[Ye0,YhM,Ygp b get n (k+1)]
theorem Yii{hp hp':List HO}{b:Nat}(hg:∀i,i≠b->getH hp' i=YeK b (getH hp i)){x:SV}(hx:refs b x=false){p:Prop}{cs:List SV}(h:Yal hp x=some (p,cs)):∃cs',Yal hp' x=some (p,cs')/\(cs'=cs\/cs'=Yj b cs):=by
 cases x <;> simp only[Yal,reduceCtorEq]at h⊢
 case xp t c=>exact⟨cs,h,.inl rfl⟩
 case ptr i off=>
   have hne:i≠b:=by rintro rfl;simp [refs]at hx
   rw[hg i hne]
   cases hh:getH hp i with
   |gone=>rw[hh]at h;cases h
   |smap l=>rw[hh]at h;cases h
   |box c=>
     rw[hh]at h;cases h
     exact⟨_,rfl,.inr (Ycz b off c)⟩
   |own z sz n get=>
     rw[hh]at h
     simp only at h
     cases off with
     |zero=>
       cases h
       exact⟨_,rfl,.inr (Ygp b get n 0)⟩
     |succ k=>cases h
 case elem i k off sz=>
   have hne:i≠b:=by rintro rfl;simp [refs]at hx
   rw[hg i hne]
   cases hh:getH hp i with
   |gone=>rw[hh]at h;cases h
   |smap l=>rw[hh]at h;cases h
   |box c=>rw[hh]at h;cases h
   |own z sz' n get=>
     rw[hh]at h;cases h
     exact⟨_,rfl,.inr (Ycz b off (get k))⟩
theorem Yls{b:Nat}{agg:Bool}{l:List SV}(h:refs b (YfC agg l)=false):YfC agg (Yj b l)=YfC agg l:=by
 cases agg with
 |true=>simp only[YfC,refs]at h⊢;rw[YkF h]
 |false=>
   rcases l with _| ⟨x,_| ⟨y,l⟩⟩
   . rfl
   . simp only[YfC,Yj]at h⊢;exact YdH h
   . rfl
theorem Yj1{hp hp':List HO}{n n' b:Nat}(hg:∀i,i≠b->getH hp' i=YeK b (getH hp i)){o:VO}(hq:o.quiet=true){xs:List SV}(hx:refs b (Yco xs)=false){e:Ef}(hr:refs b e.val=false)(h:eff hp n o xs=some e):eff hp' n' o xs=some e:=by
 cases hrd:o.readsHp with
 |false=>rw[Yiu hq hrd xs (hp:=hp) (n:=n)];exact h
 |true=>
   cases o <;> simp only[VO.readsHp,reduceCtorEq]at hrd
   case load agg size=>
     simp only[eff,Yg4]at h⊢
     split at h
     . rename_i a
       obtain⟨⟨p,cs⟩,hc,h⟩:=YCV.1 h
       obtain⟨cs',hc',hor⟩:=Yii hg hx hc
       have hc':Yal hp' a=some (p,cs'):=hc'
       simp only[hc',Option.bind_some]
       cases h
       rcases hor with rfl|rfl
       . rfl
       . simp only[Yx,YdF,Yec,Yls hr]
     . cases h
   case idxArr m size=>
     simp only[eff,Ybw]at h⊢
     split at h
     . rename_i j k i
       have hne:j≠b:=by rintro rfl;simp [Yco,refs]at hx
       rw[hg j hne]
       cases hh:getH hp j with
       |gone=>rw[hh]at h;cases h
       |smap l=>rw[hh]at h;cases h
       |box c=>rw[hh]at h;exact h
       |own z sz' n get=>rw[hh]at h;exact h
     . rename_i j o k i
       have hne:j≠b:=by rintro rfl;simp [Yco,refs]at hx
       rw[hg j hne]
       cases hh:getH hp j with
       |gone=>rw[hh]at h;cases h
       |smap l=>rw[hh]at h;cases h
       |box c=>rw[hh]at h;exact h
       |own z sz' n get=>rw[hh]at h;cases h
     . exact h
     . cases h
   case sliceArr m size lo hi=>
     simp only[eff]at h⊢
     unfold Ybx at h⊢
     split at h
     . rename_i j
       have hne:j≠b:=by rintro rfl;simp [Yco,refs]at hx
       rw[hg j hne]
       cases hh:getH hp j with
       |gone=>rw[hh]at h;cases h
       |smap l=>rw[hh]at h;cases h
       |box c=>rw[hh]at h;cases h
       |own z sz' n get=>rw[hh]at h;exact h
     . cases h
   case isNil neg=>
     simp only[eff]at h⊢
     unfold eNil at h⊢
     split at h
     . rename_i x
       split at h <;> try exact h
       rename_i i _ _ _
       have hne:i≠b:=by rintro rfl;simp [Yco,refs]at hx
       rw[hg i hne]
       cases hh:getH hp i with
       |gone=>rw[hh]at h;cases h
       |smap l=>rw[hh]at h;cases h
       |box c=>rw[hh]at h;cases h
       |own z sz' n get=>rw[hh]at h;exact h
     . cases h
theorem Ypy{hp:List HO}{n:Nat}{o:VO}(ha:o.isAppend=true){xs:List SV}{e:Ef}(h:eff hp n o xs=some e):(∃ho,e.upd= .new ho)\/∃b ho,e.upd= .app b ho/\blk (Yco xs)=some b:=by
 cases o <;> simp only[VO.isAppend,reduceCtorEq]at ha
 simp only[eff,Ybv]at h
 split at h
 . rename_i a x
   split at h
   . obtain⟨⟨m,gx⟩,_,h⟩:=YCV.1 h
     cases h;exact .inl ⟨_,rfl⟩
   . split at h
     . obtain⟨⟨m,gx⟩,_,rfl⟩:=YCY.1 h
       exact .inr ⟨_,_,rfl,rfl⟩
     . cases h
   . obtain⟨⟨k,gy⟩,_,h⟩:=YCV.1 h
     obtain⟨⟨m,gx⟩,_,h⟩:=YCV.1 h
     cases h;exact .inl ⟨_,rfl⟩
   . cases h
 . cases h
theorem YhB(b:Nat):∀(l:List SV)(n:Nat),getL (Yj b l) n=YgJ b (getL l n)
 | [],_=>rfl
 |_::_,0=>rfl
 |_::l,n+1=>YhB b l n
theorem YdG(b:Nat):∀(l:List SV)(n:Nat)(x:SV),Yj b (setL l n x)=setL (Yj b l) n (YgJ b x)
 | [],_,_=>rfl
 |_::_,0,_=>rfl
 |y::l,n+1,x=>congrArg (YgJ b y::·) (YdG b l n x)
theorem Ycm:∀(l:List SV)(n:Nat)(x:SV),n<lenL l->getL (setL l n x) n=x
 |_::_,0,_,_=>rfl
 |_::l,n+1,x,h=>Ycm l n x (by simpa [lenL]using h)
theorem YgS:∀(l:List SV)(n:Nat)(x:SV),lenL l<=n->setL l n x=l
 | [],_,_,_=>rfl
 |_::l,0,_,h=>by simp [lenL]at h
 |y::l,n+1,x,h=>congrArg (y::·) (YgS l n x (by simpa [lenL]using h))
theorem Yvq{s:S}{d:Option Nat}{x:SV}{b:Nat}{ho:HO}(h:∀n,d=some n->refs b (getL (s.put d x).fr n)=false):(s.put d x).upd (.app b ho)=(s.upd (.app b ho)).put d x:=by
 cases d with
 |none=>rfl
 |some n=>
   have h:=h n rfl
   simp only[S.put,S.upd]at h⊢
   rw[YdG]
   rcases YDz n (lenL s.fr)with hn|hn
   . rw[Ycm _ _ _ hn]at h
     rw[YdH h]
   . rw[YgS _ _ _ (by rw[YdF];exact hn),YgS _ _ _ (by rw[YdF];exact hn)]
theorem YCQ{s:S}{b:Nat}{ho:HO}{y:X}(h:refs b (s.x y)=false):(s.upd (.app b ho)).x y=s.x y:=by
 cases y with
 |cn v=>rfl
 |tm n=>
   show getL (Yj b s.fr) n=getL s.fr n
   rw[YhB];exact YdH h
theorem YjF{s:S}{b:Nat}{ho:HO}:∀{xs:List X},(∀y∈xs,refs b (s.x y)=false)->(s.upd (.app b ho)).args xs=s.args xs
 | [],_=>rfl
 |y::l,h=>by
   simp only[S.args]
   rw[YCQ (h y YDd),YjF fun z hz=>h z (YDa _ hz)]
theorem Yom{b:Nat}{x:SV}:refs b (Yow x)=refs b x:=by cases x <;> rfl
theorem Ys5{v:VOp}{s:S}{b:Nat}{ho:HO}(hq:v.op.quiet=true)(hxs:∀y∈v.xs,refs b (s.x y)=false)(hgd:∀g pol,v.g=some (g,pol)->refs b (getL s.fr g)=false){r:Prop×SV}(hr:refs b r.2=false)(h:fEff v s=some r):fEff v (s.upd (.app b ho))=some r:=by
 have hgg:∀i,i≠b->getH (s.upd (.app b ho)).hp i=YeK b (getH s.hp i):=by
   intro i hi
   show getH (setH (Yax b s.hp) b ho) i=_
   rw[YI _ _ _ _ hi.symm,YdB]
 have ha:(s.upd (.app b ho)).args v.xs=s.args v.xs:=YjF hxs
 have hh:refs b (Yco (s.args v.xs))=false:=by
   rw[Yb1]
   cases hx:v.xs with
   |nil=>rfl
   |cons y l=>exact hxs y (by rw[hx];exact YDd)
 unfold fEff at h⊢
 cases hg:v.g with
 |none=>
   rw[hg]at h
   simp only at h⊢
   rw[ha]
   cases he:eff s.hp (lenH s.hp) v.op (s.args v.xs)with
   |none=>rw[he]at h;cases h
   |some e=>
     rw[he]at h
     obtain⟨p,x,u⟩:=e
     cases u <;> cases h
     rw[Yj1 hgg hq hh (e:=⟨p,x,.no⟩) hr he]
 |some gp=>
   obtain⟨g,pol⟩:=gp
   rw[hg]at h
   simp only at h⊢
   have hgv:getL (s.upd (.app b ho)).fr g=getL s.fr g:=YCQ (y:= .tm g) (hgd g pol hg)
   rw[ha,hgv]
   cases hgb:Y8 (getL s.fr g) pol with
   |none=>rw[hgb]at h;cases h
   |some gb=>
     rw[hgb]at h
     simp only at h⊢
     cases he:eff s.hp (lenH s.hp) v.op (YL v.op gb (s.args v.xs)).2 with
     |none=>rw[he]at h;cases h
     |some e=>
       rw[he]at h
       obtain⟨p,x,u⟩:=e
       cases u <;> cases h
       rw[Yj1 hgg hq (by rw[Yex,Yom];exact hh) (e:=⟨p,x,.no⟩) (by simpa [refs]using hr) he]
end Go.Vx
namespace Go.Vx
def chk1(ap:Bool)(x y:SV):Prop:=
 match ap with
 |false=>Yhi x y
 |true=>napP x y
def YR(E:Env)(G:VOp->(S->Prop)->S->Prop)(tab:List DT)(i:Nat)(L:Array Bool)(A:S->Prop)(s:S):Prop:=
 match tab[i]? with
 |some (.silent _)=>A s
 |some (.op v chk)=>(∀c∈chk,L.getD c.1 false=true->chk1 v.op.isAppend (s.x c.2) (s.x (Ycp v.xs)))/\dopW E v A s
 |some (.loud v)=>dopW E v A s\/G v A s
 |none=>False
theorem YbV{d:Option Nat}{l:List Nat}(h:disj d l=true):∀n,d=some n->n∉l:=by
 rintro n rfl hm
 simp [disj,hm]at h
theorem Yvf{x y:X}(h:xeq x y=true):x=y:=by
 cases x <;> cases y <;> simp only[xeq,YDB]at h
 rw[YDe h]
section
variable {E:Env} {G:VOp->(S->Prop)->S->Prop} {tab:List DT} {ops:Array Oper} {md:Region.Mode} {clo:Nat->Nat->Bool}
theorem YhS(hG:∀v (A B:S->Prop) s,(∀s,A s->B s)->G v A s->G v B s)(j:Nat)(L:Array Bool)(s:S)(A B:S->Prop)(h:∀s,A s->B s)(hs:YR E G tab j L A s):YR E G tab j L B s:=by
 unfold YR at*
 split
 . rename_i d hd;rw[hd]at hs;exact h _ hs
 . rename_i v chk hd;rw[hd]at hs;exact⟨hs.1,Yai h hs.2⟩
 . rename_i v hd;rw[hd]at hs;exact hs.imp (Yai h) (hG v A B s h)
 . rename_i hd;rw[hd]at hs;exact hs
structure Yvi (md:Region.Mode) (ops:Array Oper) (clo:Nat->Nat->Bool):Prop where
 ready:∀(L:Array Bool)(j i:Nat),Down md ops L->j∈Region.ready md ops L->clo j i=true->L.getD i false=true
 listed:∀(L:Array Bool)(j i:Nat),Down md ops L->L.getD j false=true->clo j i=true->L.getD i false=true
theorem Ydf{L:Array Bool}{i:Nat}(h:i∈Region.ready md ops L):L.getD i false=false:=by
 have h0:=(mem_ready.1 h).1
 rcases YDz i L.size with h'|h'
 . simp [h']at h0⊢;exact h0
 . simp [Array.getElem?_eq_none h']
theorem Yj6{L:Array Bool}{i j:Nat}(h:L.getD j false=true):(L.setIfInBounds i true).getD j false=true:=getD_set_true h
theorem YhN{b:Nat}{x:SV}(h:YpX x=true):refs b x=false:=by cases x <;> first|rfl|cases h
theorem Yll:∀(l:List SV)(n:Nat),lenL l<=n->getL l n= .junk
 | [],_,_=>rfl
 |_::_,0,h=>by simp [lenL]at h
 |_::l,n+1,h=>Yll l n (by simpa [lenL]using h)
theorem Ykp{n:Nat}:∀{l:List X},.tm n∈l->n∈Yag l
 |x::l,h=>by
   rcases YDx.1 h with rfl|h
   . simp [Yag,X.slot]
   . simp [Yag,Ykp h]
theorem Ygs{i:Nat}{chk:List (Nat×X)}{x:X}(h:YuE i chk x=true):(i,x)∈chk:=by
 obtain⟨c,hc,h⟩:=List.any_eq_true.1 h
 simp only[YC2]at h
 have h1:=YDe h.1
 have h2:=Yvf h.2
 rw[<-h1,<-h2];exact hc
theorem Yv2{v u:VOp}{s:S}(hv:v.op.quiet=true){r:Prop×SV}
   (hap:u.op.isAppend=true->∀b,blk (s.x (Ycp u.xs))=some b->(∀y∈v.xs,refs b (s.x y)=false)/\(∀g pol,v.g=some (g,pol)->refs b (getL s.fr g)=false)/\refs b r.2=false)
   (hst:u.op.isStore=true->v.op.readsHp=true->Yhi (s.x (Ycp v.xs)) (s.x (Ycp u.xs))){e:Ef}
   (hq:u.op.quiet=false)(hbad:u.op.bad=false)(he:eff s.hp (lenH s.hp) u.op (s.args u.xs)=some e)(hf:fEff v s=some r):(s.put v.dst r.2).upd e.upd=(s.upd e.upd).put v.dst r.2/\fEff v (s.upd e.upd)=some r:=by
 cases hs:u.op.isStore with
 |true=>
   obtain⟨k,ho,h1,h2⟩:=YkS hs he
   rw[h1]
   refine⟨YlN trivial,?_⟩
   rw[Ys6 hv]
   . exact hf
   . intro hr b hb hbk
     subst hbk
     have:=hst hs hr
     rw[Yb1]at h2
     simp [Yhi,Ypw,hb,h2]at this
 |false=>
   cases ha:u.op.isAppend with
   |false=>
     obtain⟨ho,h1⟩:=Yrc hq hs ha hbad he
     rw[h1]
     exact⟨YlN trivial,Yev (s:=s) hv rfl (Yj9 _ _) hf⟩
   |true=>
     rcases Ypy ha he with⟨ho,h1⟩ | ⟨b,ho,h1,h2⟩
     . rw[h1]
       exact⟨YlN trivial,Yev (s:=s) hv rfl (Yj9 _ _) hf⟩
     . rw[h1]
       rw[Yb1]at h2
       obtain⟨k1,k2,k3⟩:=hap ha b h2
       refine⟨Yvq fun n hn=>?_,Ys5 hv k1 k2 k3 hf⟩
       rcases YDz n (lenL s.fr)with hl|hl
       . rw[hn];simp only[S.put];rw[Ycm _ _ _ hl];exact k3
       . rw[hn];simp only[S.put];rw[YgS _ _ _ hl,Yll _ _ hl];rfl
theorem Yov(hc:Yvi md ops clo){i:Nat}{v:VOp}(hi:tab[i]? =some (.op v []))(hv:v.op.quiet=true)(hcomm:∀(j:Nat) (t:DT),tab[j]? =some t->YpZ clo i v j t=true)
   (j:Nat)(L:Array Bool)(s:S)(A:S->Prop)(hd:Down md ops L)(hri:i∈Region.ready md ops L)(hrj:j∈Region.ready md ops L)(hji:j≠i)
   (h:YR E G tab i L (YR E G tab j (L.setIfInBounds i true) A) s):YR E G tab j L (YR E G tab i (L.setIfInBounds j true) A) s:=by
 have hstepi:∀(L:Array Bool)(A:S->Prop)(s:S),YR E G tab i L A s↔dopW E v A s:=by
   intro L A s
   unfold YR
   rw[hi]
   exact⟨fun h=>h.2,fun h=>⟨fun c hc=>(by cases hc),h⟩⟩
 rw[hstepi]at h
 have hmono:∀{B C:S->Prop}{t:S},(∀s,B s->C s)->dopW E v B t->dopW E v C t:=fun hbc hh=>Yai hbc hh
 cases ht:tab[j]? with
 |none=>
   have:dopW E v (fun _=>False) s:=hmono (fun s' hs'=>by unfold YR at hs';rw[ht]at hs';exact hs') h
   exact(Ygi hv this).elim
 |some t=>
   have hcm:=hcomm j t ht
   unfold YpZ at hcm
   have e1:YDu i j=false:=by
     cases hb:YDu i j with
     |false=>rfl
     |true=>exact absurd (YDe hb).symm hji
   have e2:clo j i=false:=by
     cases hb:clo j i with
     |false=>rfl
     |true=>have:=hc.ready L j i hd hrj hb;rw[Ydf hri]at this;cases this
   have e3:clo i j=false:=by
     cases hb:clo i j with
     |false=>rfl
     |true=>have:=hc.ready L i j hd hri hb;rw[Ydf hrj]at this;cases this
   rw[e1,e2,e3]at hcm
   simp only[Bool.false_or]at hcm
   cases t with
   |silent d=>
     have hsj:∀(L:Array Bool)(A:S->Prop)(s:S),YR E G tab j L A s=A s:=by
       intro L A s;unfold YR;rw[ht]
     rw[hsj,hstepi]
     exact hmono (fun s' hs'=>by rw[hsj]at hs';exact hs') h
   |loud u=>simp at hcm
   |op u chk=>
     simp only[YC2,YDN,Bool.not_eq_true',List.all_eq_true]at hcm
     obtain⟨⟨⟨⟨⟨c1,c2⟩,c3⟩,c4⟩,c5⟩,c6⟩:=hcm
     have hsj:∀(L:Array Bool)(A:S->Prop)(s:S),YR E G tab j L A s=((∀c∈chk,L.getD c.1 false=true->chk1 u.op.isAppend (s.x c.2) (s.x (Ycp u.xs)))/\dopW E u A s):=by
       intro L A s;unfold YR;rw[ht]
     have d1:=YbV c1
     have d3:=YbV c3
     have d2:∀n,v.dst=some n->u.dst≠some n:=fun n hn hu=>YbV c2 n hn (by simp [hu])
     rw[hsj]
     unfold dopW at h
     rw[hv]at h
     simp only[YgN]at h
     cases hf:fEff v s with
     |none=>rw[hf]at h;exact h.elim
     |some r=>
       obtain⟨p,x⟩:=r
       rw[hf]at h
       obtain⟨hp,h⟩:=h
       rw[hsj]at h
       obtain⟨hchk,h⟩:=h
       have htgt:(s.put v.dst x).x (Ycp u.xs)=s.x (Ycp u.xs):=by
         refine YoB fun n hn hm=>d1 n hn ?_
         cases hx:u.xs with
         |nil=>rw[hx]at hm;simp [Ycp,X.slot]at hm
         |cons y l=>rw[hx]at hm;simp only[VOp.reads,hx,Yag,YDp];exact .inl (.inl hm)
       refine⟨fun c hcm hcl=>?_,?_⟩
       . have:=hchk c hcm (Yj6 hcl)
         rw[htgt]at this
         rcases c5 c hcm with(hh|hh) |hh
         . rw[YoB (YbV hh)]at this;exact this
         . have:=hc.listed L c.1 i hd hcl hh
           rw[Ydf hri]at this;cases this
         . rw[YDe hh,Ydf hri]at hcl;cases hcl
       . have hlt:i<L.size:=by
           obtain⟨_,o,ho,_⟩:=mem_ready.1 hri
           rw[hd.1];exact(YDl.1 ho).1
         have hli:(L.setIfInBounds i true).getD i false=true:=by simp [hlt]
         refine Yai (fun s' hs'=>?_) (Ys0 hv d1 d2 d3 (fun e hq hbad hcl he=>Yv2 (r:=(p,x)) hv (fun hap b hb=>?_) (fun hst hrd=>?_) hq hbad he hf) hf h)
         . rw[hstepi]
           unfold dopW
           rw[hv]
           simp only[YgN]
           rw[hs'.1]
           exact⟨hp,hs'.2⟩
         . rcases c4 with c4|c4
           . rw[hap]at c4;cases c4
           simp only[Yzz,YC2,List.all_eq_true]at c4
           obtain⟨⟨⟨e1,e2⟩,e3⟩,e4⟩:=c4
           have dv:=YbV e1
           have at1:∀y:X,(i,y)∈chk->refs b ((s.put v.dst x).x y)=false/\YxD ((s.put v.dst x).x y)=true:=by
             intro y hy
             have:=hchk (i,y) hy hli
             rw[hap,htgt]at this
             simp only[chk1,napP,napB,hb]at this
             exact this
           refine⟨fun y hy=>?_,fun g pol hg=>?_,?_⟩
           . have h1:=e2 y hy
             cases y with
             |cn c=>exact YhN h1
             |tm n=>
               have h2:=(at1 _ (Ygs h1)).1
               rwa [YoB (fun m hm hmm=>dv m hm (by
                 simp only[X.slot,YDC]at hmm
                 subst hmm
                 simp only[VOp.reads,YDp]
                 exact .inl (Ykp hy)))]at h2
           . rw[hg]at e3
             have h2:=(at1 _ (Ygs e3)).1
             rwa [YoB (fun m hm hmm=>dv m hm (by
               simp only[X.slot,YDC]at hmm
               subst hmm
               simp [VOp.reads,hg]))]at h2
           . cases hdst:v.dst with
             |none=>rw[hdst]at e4;cases e4
             |some d=>
               rw[hdst]at e4
               obtain⟨h1,h2⟩:=at1 _ (Ygs e4)
               rw[hdst]at h1 h2
               simp only[S.x,S.put]at h1 h2
               rcases YDz d (lenL s.fr)with hl|hl
               . rw[Ycm _ _ _ hl]at h1;exact h1
               . rw[Yll _ _ (by rw[YgS _ _ _ hl];exact hl)]at h2;cases h2
         . rcases c6 with(h6|h6) |h6
           . rw[hst]at h6;cases h6
           . rw[hrd]at h6;cases h6
           . obtain⟨c,hcm,hcb⟩:=List.any_eq_true.1 h6.2
             simp only[YC2]at hcb
             have hci:=YDe hcb.1
             have hcx:=Yvf hcb.2
             have:=hchk c hcm (by rw[hci];exact hli)
             have hna:u.op.isAppend=false:=by cases hu:u.op <;> rw[hu]at hst <;> first|rfl|cases hst
             rw[htgt,hcx,YoB (YbV h6.1),hna]at this
             exact this
end
end Go.Vx
namespace Go.Vx
section
variable {md:Region.Mode} {ops:Array Oper}
theorem YgV{i k:Nat}:(2^i).testBit k=decide (i=k):=Nat.testBit_two_pow
theorem maskL_spec{i:Nat}:∀{l:List Edge},(Yko md l).testBit i=true↔∃e∈l,Region.binds md e=true/\e.on=i
 | []=>by simp [Yko]
 |e::l=>by
   unfold Yko
   cases hb:Region.binds md e with
   |false=>simp [maskL_spec (l:=l),hb]
   |true=>simp [maskL_spec (l:=l),hb,Nat.testBit_or,YgV]
theorem Ydt{i:Nat}{o:Oper}(h:ops[i]? =some o):(Yu md ops).getD i 0=Yko md o.after.toList:=by
 simp [Yu,h]
theorem Yc9{cl:List Nat}{m i:Nat}:∀{j:Nat},(Yc8 cl m j).testBit i=true->∃k,k<j/\m.testBit k=true/\(cl.getD k 0).testBit i=true
 |0,h=>by simp [Yc8]at h
 |j+1,h=>by
   unfold Yc8 at h
   cases hb:m.testBit j with
   |false=>
     rw[hb]at h
     obtain⟨k,h1,h2⟩:=Yc9 (j:=j) h
     exact⟨k,by omega,h2⟩
   |true=>
     rw[hb]at h
     simp only[cond_true,Nat.testBit_or,YDN]at h
     rcases h with h|h
     . exact⟨j,by omega,hb,h⟩
     . obtain⟨k,h1,h2⟩:=Yc9 (j:=j) h
       exact⟨k,by omega,h2⟩
theorem YjU{dm cl:List Nat}:∀{n:Nat},Yfi dm cl n=true->∀j,j<n->cl.getD j 0=dm.getD j 0||| Yc8 cl (dm.getD j 0) j
 |n+1,h,j,hj=>by
   simp only[Yfi,YC2]at h
   rcases YDz j n with h'|h'
   . exact YjU h.2 j h'
   . obtain rfl:j=n:=by omega
     exact YDe h.1
theorem YzP{cl:List Nat}(hl:cl.length=ops.size)(h:Yfi (Yu md ops) cl ops.size=true):Yvi md ops (Yam cl):=by
 have small:∀(j i:Nat),Yam cl j i=true->j<ops.size:=by
   intro j i hc
   rcases YDz j ops.size with h'|h'
   . exact h'
   . simp [Yam,YC7,List.getElem?_eq_none (show cl.length<=j by omega)]at hc
 have main:∀(L:Array Bool),Down md ops L->∀(N j i:Nat),j<N->(∀(o:Oper),ops[j]? =some o->∀e∈o.after,Region.binds md e=true->L.getD e.on false=true)->Yam cl j i=true->L.getD i false=true:=by
   intro L hd N
   induction N with
   |zero=>intro j i hj;omega
   |succ N ih=>
     intro j i hj hs hc
     have hjn:=small j i hc
     have ho:ops[j]? =some ops[j]:=Array.getElem?_eq_getElem hjn
     unfold Yam at hc
     rw[YjU h j hjn,Nat.testBit_or,YDN]at hc
     have hdir:∀k,((Yu md ops).getD j 0).testBit k=true->L.getD k false=true:=by
       intro k hk
       rw[Ydt ho]at hk
       obtain⟨e,he,hb,rfl⟩:=maskL_spec.1 hk
       exact hs _ ho e (by simpa using he) hb
     rcases hc with hc|hc
     . exact hdir i hc
     . obtain⟨k,h1,h2,h3⟩:=Yc9 hc
       exact ih k i (by omega) (fun o hok e he hb=>hd.2 k o hok (hdir k h2) e he hb) h3
 refine⟨fun L j i hd hr hc=>?_,fun L j i hd hl hc=>?_⟩
 . obtain⟨_,o,ho,hall⟩:=mem_ready.1 hr
   exact main L hd (j+1) j i (by omega) (fun o' ho' e he hb=>by rw[ho]at ho';cases ho';exact hall e he hb) hc
 . exact main L hd (j+1) j i (by omega) (fun o ho e he hb=>hd.2 j o ho hl e he hb) hc
def Corr(ops:Array Oper)(L:Array Bool)(m:Nat):Prop:=L.size=ops.size/\∀i,L.getD i false=m.testBit i
theorem and_eq_left{a m:Nat}:(a&&&m)=a↔∀k,a.testBit k=true->m.testBit k=true:=by
 constructor
 . intro h k hk
   have:(a&&&m).testBit k=true:=by rw[h];exact hk
   rw[Nat.testBit_and,YC2]at this
   exact this.2
 . intro h
   apply Nat.eq_of_testBit_eq
   intro k
   rw[Nat.testBit_and]
   cases hk:a.testBit k with
   |false=>rfl
   |true=>rw[h k hk];rfl
theorem Ya1{L:Array Bool}{m i:Nat}(hc:Corr ops L m):i∈Region.ready md ops L↔i<ops.size/\Ybb (Yu md ops) m i=true:=by
 rw[mem_ready]
 constructor
 . rintro⟨h0,o,ho,hall⟩
   have hi:i<ops.size:=(YDl.1 ho).1
   refine⟨hi,?_⟩
   simp only[Ybb,YC2,Bool.not_eq_true']
   have hL:i<L.size:=by rw[hc.1];exact hi
   refine⟨?_,?_⟩
   . rw[<-hc.2 i];simp [hL]at h0⊢;exact h0
   . rw[Ydt ho]
     rw[and_eq_left.2 (fun k hk=>?_)]
     . exact Nat.beq_refl _
     . obtain⟨e,he,hb,rfl⟩:=maskL_spec.1 hk
       rw[<-hc.2];exact hall e (by simpa using he) hb
 . rintro⟨hi,hr⟩
   simp only[Ybb,YC2,Bool.not_eq_true']at hr
   have ho:ops[i]? =some ops[i]:=Array.getElem?_eq_getElem hi
   have hL:i<L.size:=by rw[hc.1];exact hi
   refine⟨?_,_,ho,fun e he hb=>?_⟩
   . have:=hr.1
     rw[<-hc.2 i]at this
     simp [hL]at this⊢;exact this
   . have:=and_eq_left.1 (YDe hr.2)
     rw[hc.2]
     refine this e.on ?_
     rw[Ydt ho]
     exact maskL_spec.2 ⟨e,by simpa using he,hb,rfl⟩
theorem YmT{L:Array Bool}{m i:Nat}(hc:Corr ops L m)(hi:i<ops.size):Corr ops (L.setIfInBounds i true) (m||| 2^i):=by
 refine⟨by simp [hc.1],fun k=>?_⟩
 rw[Nat.testBit_or,YgV]
 by_cases h:i=k
 . subst h
   simp [hc.1,hi]
 . rw[getD_set_ne false h,hc.2];simp [h]
theorem Yc5{dm:List Nat}{m:Nat}:∀{n:Nat},Yc4 dm m n=true->∀k,k<n->Ybb dm m k=false
 |n+1,h,k,hk=>by
   simp only[Yc4,YC2,Bool.not_eq_true']at h
   rcases YDz k n with h'|h'
   . exact Yc5 h.2 k h'
   . obtain rfl:k=n:=by omega
     exact h.1
theorem Yc7{dm:List Nat}{m i:Nat}:∀{n:Nat},Yc6 dm m i n=true->∀k,k<n->Ybb dm m k=true->k=i
 |n+1,h,k,hk,hr=>by
   simp only[Yc6,YC2,YDN,Bool.not_eq_true']at h
   rcases YDz k n with h'|h'
   . exact Yc7 h.2 k h' hr
   . obtain rfl:k=n:=by omega
     rcases h.1 with h1|h1
     . exact YDe h1
     . rw[hr]at h1;cases h1
def seqS{σ:Type}(step:Nat->Array Bool->(σ->Prop)->σ->Prop)(K:σ->Prop):List Nat->Array Bool->σ->Prop
 | [],_,s=>K s
 |i::l,L,s=>step i L (seqS step K l (L.setIfInBounds i true)) s
theorem YrK{σ:Type}{step:Nat->Array Bool->(σ->Prop)->σ->Prop}{K:σ->Prop}{free:Nat->Bool}
   (mono:∀(j:Nat) (L:Array Bool) (s:σ) (A B:σ->Prop),(∀s,A s->B s)->step j L A s->step j L B s)
   (strict:∀i L s,free i=true->¬step i L (fun _=>False) s)
   (exch:∀(i:Nat),free i=true->∀(j:Nat) (L:Array Bool) (s:σ) (A:σ->Prop),Down md ops L->i∈Region.ready md ops L->j∈Region.ready md ops L->j≠i->step i L (step j (L.setIfInBounds i true) A) s->step j L (step i (L.setIfInBounds j true) A) s):
   ∀(l:List Nat)(m:Nat)(L:Array Bool)(s:σ),seqB free (Yu md ops) ops.size l m=true->Corr ops L m->Down md ops L->seqS step K l L s->anyS step K md ops l.length L s
 | [],m,L,s,hb,hc,hd,h=>by
   refine⟨?_,h⟩
   cases hr:Region.ready md ops L with
   |nil=>rfl
   |cons x r=>
     have hx:x∈Region.ready md ops L:=by rw[hr];exact YDd
     have:=(Ya1 hc).1 hx
     rw[Yc5 hb x this.1]at this
     exact absurd this.2 (by simp)
 |i::l,m,L,s,hb,hc,hd,h=>by
   simp only[seqB,YC2,YDN]at hb
   obtain⟨⟨⟨h1,h2⟩,h3⟩,h4⟩:=hb
   have hin:i<ops.size:=by have:=YDw h1;omega
   have hri:i∈Region.ready md ops L:=(Ya1 hc).2 ⟨hin,h2⟩
   have hrest:=mono i L s _ _ (fun s' hs'=>YrK mono strict exch l _ _ s' h4 (YmT hc hin) (hd.set hri) hs') h
   rcases h3 with h3|h3
   . exact Yhh mono (fun L s=>strict i L s h3) (exch i h3) _ L s hd hri hrest
   . refine⟨fun h0=>(by rw[h0]at hri;cases hri),fun j hj=>?_⟩
     obtain⟨hjn,hrj⟩:=(Ya1 hc).1 hj
     obtain rfl:=Yc7 h3 j hjn hrj
     exact hrest
def Yox{σ:Type}(step:Nat->Array Bool->(σ->Prop)->σ->Prop)(K:σ->Prop):OT->Array Bool->σ->Prop
 | .nil,_,s=>K s
 | .op i t,L,s=>step i L (Yox step K t (L.setIfInBounds i true)) s
 | .br a b,L,s=>Yox step K a L s/\Yox step K b L s
theorem YjW{dm:List Nat}{m:Nat}{hs:List Nat}:∀{n:Nat},YmU dm m hs n=true->∀k,k<n->Ybb dm m k=true->k∈hs
 |n+1,h,k,hk,hr=>by
   simp only[YmU,YC2,YDN,Bool.not_eq_true']at h
   rcases YDz k n with h'|h'
   . exact YjW h.2 k h' hr
   . obtain rfl:k=n:=by omega
     rcases h.1 with h1|h1
     . exact List.contains_iff_mem.1 h1
     . rw[hr]at h1;cases h1
theorem Yd5{free:Nat->Bool}{dm:List Nat}{n:Nat}:∀{t:OT}{m:Nat}{ex:Bool},Ycc free dm n t m ex=true->∀i∈t.heads,i<n/\Ybb dm m i=true
 | .nil,_,_,_,i,hi=>by cases hi
 | .op j t,m,ex,h,i,hi=>by
   simp only[Ycc,YC2]at h
   obtain rfl:i=j:=by simpa [OT.heads]using hi
   exact⟨by have:=YDw h.1.1.1;omega,h.1.1.2⟩
 | .br a b,m,ex,h,i,hi=>by
   simp only[Ycc,YC2]at h
   rcases YDp.1 hi with hi|hi
   . exact Yd5 h.1.2 i hi
   . exact Yd5 h.2 i hi
theorem YhC{free:Nat->Bool}{dm:List Nat}{n:Nat}:∀{t:OT}{m:Nat},Ycc free dm n t m true=true->∃i,i∈t.heads
 | .nil,_,h=>by simp [Ycc]at h
 | .op j t,_,_=>⟨j,by simp [OT.heads]⟩
 | .br a b,m,h=>by
   simp only[Ycc,YC2]at h
   obtain⟨i,hi⟩:=YhC h.1.2
   exact⟨i,List.mem_append_left _ hi⟩
theorem YqR{free:Nat->Bool}{dm:List Nat}{n:Nat}:∀{t:OT}{m:Nat},Ycc free dm n t m true=true->∃k,t.len=k+1
 | .nil,_,h=>by simp [Ycc]at h
 | .op j t,_,_=>⟨t.len,rfl⟩
 | .br a b,m,h=>by
   simp only[Ycc,YC2]at h
   show∃k,a.len=k+1
   exact YqR h.1.2
theorem YfY{σ:Type}{step:Nat->Array Bool->(σ->Prop)->σ->Prop}{K:σ->Prop}{free:Nat->Bool}
   (mono:∀(j:Nat) (L:Array Bool) (s:σ) (A B:σ->Prop),(∀s,A s->B s)->step j L A s->step j L B s)
   (strict:∀i L s,free i=true->¬step i L (fun _=>False) s)
   (exch:∀(i:Nat),free i=true->∀(j:Nat) (L:Array Bool) (s:σ) (A:σ->Prop),Down md ops L->i∈Region.ready md ops L->j∈Region.ready md ops L->j≠i->step i L (step j (L.setIfInBounds i true) A) s->step j L (step i (L.setIfInBounds j true) A) s):
   ∀(t:OT)(m:Nat)(ex:Bool)(L:Array Bool)(s:σ),Ycc free (Yu md ops) ops.size t m ex=true->Corr ops L m->Down md ops L->Yox step K t L s->
     (ex=false->anyS step K md ops t.len L s)/\∀i∈t.heads,∀k,t.len=k+1->step i L (anyS step K md ops k (L.setIfInBounds i true)) s
 | .nil,m,ex,L,s,hb,hc,hd,h=>by
   simp only[Ycc,YC2]at hb
   refine⟨fun _=>⟨?_,h⟩,fun i hi=>by cases hi⟩
   cases hr:Region.ready md ops L with
   |nil=>rfl
   |cons x r=>
     have hx:x∈Region.ready md ops L:=by rw[hr];exact YDd
     have:=(Ya1 hc).1 hx
     rw[Yc5 hb.2 x this.1]at this
     exact absurd this.2 (by simp)
 | .op i t,m,ex,L,s,hb,hc,hd,h=>by
   have hb0:=hb
   simp only[Ycc,YC2,YDN]at hb
   obtain⟨⟨⟨h1,h2⟩,h3⟩,h4⟩:=hb
   have hin:i<ops.size:=by have:=YDw h1;omega
   have hri:i∈Region.ready md ops L:=(Ya1 hc).2 ⟨hin,h2⟩
   have hrest:=mono i L s _ _ (fun s' hs'=>(YfY mono strict exch t _ false _ s' h4 (YmT hc hin) (hd.set hri) hs').1 rfl) h
   refine⟨fun hex=>?_,fun j hj k hk=>?_⟩
   . rcases h3 with(h3|h3) |h3
     . rw[hex]at h3;cases h3
     . exact Yhh mono (fun L s=>strict i L s h3) (exch i h3) _ L s hd hri hrest
     . refine⟨fun h0=>(by rw[h0]at hri;cases hri),fun j hj=>?_⟩
       obtain⟨hjn,hrj⟩:=(Ya1 hc).1 hj
       obtain rfl:=Yc7 h3 j hjn hrj
       exact hrest
   . obtain rfl:j=i:=by simpa [OT.heads]using hj
     obtain rfl:t.len=k:=by simpa [OT.len]using hk
     exact hrest
 | .br a b,m,ex,L,s,hb,hc,hd,h=>by
   have hb0:=hb
   simp only[Ycc,YC2,YDN]at hb
   obtain⟨⟨⟨h1,h2⟩,h3⟩,h4⟩:=hb
   have hl:a.len=b.len:=YDe h2
   have ha:=(YfY mono strict exch a m true L s h3 hc hd h.1).2
   have hb':=(YfY mono strict exch b m true L s h4 hc hd h.2).2
   have hall:∀i∈(OT.br a b).heads,∀k,(OT.br a b).len=k+1->step i L (anyS step K md ops k (L.setIfInBounds i true)) s:=by
     intro i hi k hk
     rcases YDp.1 hi with hi|hi
     . exact ha i hi k hk
     . exact hb' i hi k (by rw[<-hl];exact hk)
   refine⟨fun hex=>?_,hall⟩
   rcases h1 with h1|h1
   . rw[hex]at h1;cases h1
   . obtain⟨k,hk⟩:=YqR h3
     show anyS step K md ops a.len L s
     rw[hk]
     refine⟨fun h0=>?_,fun j hj=>?_⟩
     . obtain⟨i,hi⟩:=YhC h3
       have:=(Ya1 hc).2 (Yd5 h3 i hi)
       rw[h0]at this;cases this
     . obtain⟨hjn,hrj⟩:=(Ya1 hc).1 hj
       exact hall j (YjW h1 j hjn hrj) k hk
theorem Ygk:Down md ops (Array.replicate ops.size false):=by
 refine⟨by simp,fun i o _ h=>?_⟩
 exfalso
 rcases YDz i ops.size with h'|h'
 . simp [h']at h
 . simp [Array.getElem?_eq_none,h']at h
theorem YjV:Corr ops (Array.replicate ops.size false) 0:=by
 refine⟨by simp,fun i=>?_⟩
 rcases YDz i ops.size with h'|h'
 . simp [h']
 . simp [Array.getElem?_eq_none,h']
end
end Go.Vx
namespace Go.Vx
open Go.RowKit
structure Pend where
 idx:Nat
 slot:Nat
 cells:AL
def YE:List SV->List Pend->List SV
 |fr,[]=>fr
 |fr,p::l=>setL (YE fr l) p.slot .junk
def Yt:List HO->List Pend->List HO
 |hp,[]=>hp
 |hp,p::l=>setH (Yt hp l) p.idx .gone
theorem AL.ho_ne(z:AL):z.ho≠ .gone:=by cases z <;> (intro h;cases h)
def er(Pd:List Pend)(s:S):S:={ fr:=YE s.fr Pd,saved:=s.saved,hp:=Yt s.hp Pd}
def PR(w0:Cx)(Pd:List Pend)(s:S)(a:Act)(sv:List Act)(w:World):Prop:=
 Rl w0 (er Pd s) a sv w/\∀p∈Pd,getH s.hp p.idx=p.cells.ho/\setL s.fr p.slot (.ptr p.idx 0)=s.fr
section
variable {Pd:List Pend} {hp:List HO} {fr:List SV}
theorem YaY:∀(Pd:List Pend),lenH (Yt hp Pd)=lenH hp
 | []=>rfl
 |p::l=>by rw[Yt,Ycs,YaY l]
theorem YbP:∀{Pd:List Pend}{n:Nat},(∀p∈Pd,p.slot≠n)->getL (YE fr Pd) n=getL fr n
 | [],_,_=>rfl
 |p::l,n,h=>by
   rw[YE,YbA _ _ _ _ (h p YDd),YbP fun q hq=>h q (YDa _ hq)]
theorem YcV:∀{Pd:List Pend}{n:Nat},(∀p∈Pd,p.idx≠n)->getH (Yt hp Pd) n=getH hp n
 | [],_,_=>rfl
 |p::l,n,h=>by
   rw[Yt,YI _ _ _ _ (h p YDd),YcV fun q hq=>h q (YDa _ hq)]
theorem YcU:∀{Pd:List Pend}{p:Pend},p∈Pd->getH (Yt hp Pd) p.idx= .gone
 |q::l,p,h=>by
   rw[Yt]
   by_cases he:q.idx=p.idx
   . rw[he]
     rcases YDz p.idx (lenH (Yt hp l))with hl|hl
     . rw[YaH _ _ _ hl]
     . rw[Ya6 _ _ (by rw[Ycs];exact hl)]
   . rw[YI _ _ _ _ he]
     rcases YDx.1 h with rfl|h
     . exact absurd rfl he
     . exact YcU h
theorem Ybf:∀{Pd:List Pend}{n:Nat}{x:SV},(∀p∈Pd,p.slot≠n)->YE (setL fr n x) Pd=setL (YE fr Pd) n x
 | [],_,_,_=>rfl
 |p::l,n,x,h=>by
   rw[YE,YE,Ybf (fun q hq=>h q (YDa _ hq)),Yb8 _ _ _ _ _ (fun e=>h p YDd e.symm)]
theorem YgR:∀(l:List HO)(n m:Nat)(x y:HO),n≠m->setH (setH l n x) m y=setH (setH l m y) n x
 | [],_,_,_,_,_=>rfl
 |_::_,0,0,_,_,h=>absurd rfl h
 |_::_,0,_+1,_,_,_=>rfl
 |_::_,_+1,0,_,_,_=>rfl
 |a::l,n+1,m+1,x,y,h=>congrArg (a::·) (YgR l n m x y (fun e=>h (by rw[e])))
theorem Yd4:∀{Pd:List Pend}{n:Nat}{x:HO},(∀p∈Pd,p.idx≠n)->Yt (setH hp n x) Pd=setH (Yt hp Pd) n x
 | [],_,_,_=>rfl
 |p::l,n,x,h=>by
   rw[Yt,Yt,Yd4 (fun q hq=>h q (YDa _ hq)),YgR _ _ _ _ _ (fun e=>h p YDd e.symm)]
theorem YnN:∀(a b:List HO)(n:Nat)(x:HO),n<lenH a->setH (a++b) n x=setH a n x++b
 | [],_,_,_,h=>by simp [lenH]at h
 |_::_,_,0,_,_=>rfl
 |y::a,b,n+1,x,h=>congrArg (y::·) (YnN a b n x (by simpa [lenH]using h))
theorem Yi7:∀(a:List HO)(x:HO),Ybl a x=a++[x]
 | [],_=>rfl
 |y::a,x=>congrArg (y::·) (Yi7 a x)
theorem Ycn{hs:List HO}:∀{Pd:List Pend},(∀p∈Pd,p.idx<lenH hp)->Yt (hp++hs) Pd=Yt hp Pd++hs
 | [],_=>rfl
 |p::l,h=>by
   rw[Yt,Yt,Ycn (fun q hq=>h q (YDa _ hq)),YnN _ _ _ _ (by rw[YaY];exact h p YDd)]
theorem YcW{x:HO}(h:∀p∈Pd,p.idx<lenH hp):Yt (Ybl hp x) Pd=Ybl (Yt hp Pd) x:=by
 rw[Yi7,Yi7,Ycn h]
theorem YiO{w:World}{bs:List BK}{B:Bd}{i:Nat}{x:BK}(hH:Hp w bs B (Yt hp Pd))(hb:bs[i]? =some x)(hx:x≠ .gone):(∀p∈Pd,p.idx≠i)/\getH (Yt hp Pd) i=getH hp i:=by
 have:∀p∈Pd,p.idx≠i:=by
   rintro p hp rfl
   have:=hH.ent p.idx
   rw[YcU hp]at this
   rcases this with h|h
   . rw[hb]at h;cases h;exact hx rfl
   . rw[hb]at h;cases h
 exact⟨this,YcV this⟩
theorem hpV{w:World}{bs:List BK}{B:Bd}(hH:Hp w bs B (Yt hp Pd)):HpV w bs B hp:=
 ⟨fun i x hb hx=>by have:=hH.ent i;rw[(YiO hH hb hx).2]at this;exact this,fun _ _ _ _ hb=>hH.le hb,hH.lo,fun _ _ _ _ hb=>hH.un hb⟩
theorem Yif{w:World}{bs:List BK}{B:Bd}{b:Nat}:∀{x:SV}{v:Value},Rep w bs B x v->blk x=some b->∃y,bs[b]? =some y/\y≠ .gone
 |_,_,.x _ _ h,hb=>by cases h <;> cases hb
 |_,_,.agg _ _ _,hb=>by cases hb
 |_,_,.tup _ _ _,hb=>by cases hb
 |_,_,.fn _ _ _ _ _ _ _,hb=>by cases hb
 |_,_,.iface _ _ _ _,hb=>by cases hb
 |_,_,.ptr i off b' n h,hb=>by cases hb;exact⟨_,h,by simp⟩
 |_,_,.own i lo n size b' cap m ad h hl ha,hb=>by cases hb;exact⟨_,h,by simp⟩
 |_,_,.ownNil i size h,hb=>by cases hb;exact⟨_,h,by simp⟩
 |_,_,.elem i k off size b' cap m h hk,hb=>by cases hb;exact⟨_,h,by simp⟩
 |_,_,.smp _ _ _,hb=>by cases hb
 |_,_,.optT _ _ _,hb=>by cases hb
 |_,_,.optF _,hb=>by cases hb
 |_,_,.cut _ _ _ _ h,hb=>Yif h hb
theorem Yqm{w:World}{bs:List BK}{B:Bd}{xs:List SV}{vs:List Value}(h:RepL w bs B xs vs):∃v,Rep w bs B (Yco xs) v:=by
 cases h with
 |nil=>exact⟨undef,.x _ _ (.junk _)⟩
 |cons x v l vs h h'=>exact⟨v,h⟩
theorem Yey{w:World}{bs:List BK}{B:Bd}{b:Nat}{xs:List SV}{vs:List Value}(hH:Hp w bs B (Yt hp Pd))(h:RepL w bs B xs vs)(hb:blk (Yco xs)=some b):(∀p∈Pd,p.idx≠b)/\getH (Yt hp Pd) b=getH hp b:=by
 obtain⟨v,hv⟩:=Yqm h
 obtain⟨y,h1,h2⟩:=Yif hv hb
 exact YiO hH h1 h2
theorem YrW{hp hp':List HO}{n n':Nat}{o:VO}(ho:o.isStore=true){xs:List SV}(h:∀b,blk (Yco xs)=some b->getH hp' b=getH hp b):eff hp' n' o xs=eff hp n o xs:=by
 cases o <;> simp only[VO.isStore,reduceCtorEq]at ho
 rename_i size
 rcases xs with _| ⟨a,_| ⟨v,_| ⟨c,l⟩⟩⟩ <;> try rfl
 have key:storeAt hp' size (Yat v) a=storeAt hp size (Yat v) a:=by
   cases a <;> try rfl
   case ptr i off=>have:=h i rfl;simp only[storeAt,this]
   case elem i k off sz=>have:=h i rfl;simp only[storeAt,this]
 simp only[eff,Yhw,key]
theorem Yqn{hp hp':List HO}{n:Nat}{o:VO}(hq:o.quiet=false)(ha:o.isAppend=false)(hbad:o.bad=false){xs:List SV}(h:∀b,blk (Yco xs)=some b->getH hp' b=getH hp b):eff hp' n o xs=eff hp n o xs:=by
 cases hs:o.isStore with
 |true=>exact YrW hs h
 |false=>cases o <;> simp only[VO.quiet,VO.isStore,VO.isAppend,VO.bad,reduceCtorEq]at hq hs ha hbad <;> rfl
end
end Go.Vx
namespace Go.Vx
open Go.RowKit
open Go.MapKept (run_setObj_map modify_keys)
section
variable {P:Program} {ρ:Operand->Value} {w w':World} {bs bs':List BK} {B:Bd} {hp:List HO}
def Bd.cx(B:Bd)(w:World):Cx0:={ toWorld:=w,F:=fun b=>B.I b=none,I:=B.I,up:=fun _ _ h=>h,ex:=fun _ h=>h}
def bdZ:Bd:=⟨0,fun _=>True,fun _=>none,fun _ _ _=>trivial,fun _ _=>rfl⟩
theorem Ytl{kk:List IntKind}:∀{l l':List Int},l.length=kk.length->l'.length=kk.length->keyV kk l=keyV kk l'->l=l':=by
 intro l l' h1 h2 h
 simp only[keyV,Value.agg.injEq]at h
 have h:(kk.zip l).map (fun p=>Value.int p.1 p.2)=(kk.zip l').map (fun p=>Value.int p.1 p.2):=by simpa using congrArg Array.toList h
 induction kk generalizing l l' with
 |nil=>cases l <;> cases l' <;> simp at h1 h2⊢
 |cons k kk ih=>
   cases l with
   |nil=>simp at h1
   |cons x l=>
     cases l' with
     |nil=>simp at h2
     |cons y l'=>
       simp only[List.zip_cons_cons,YDk,List.cons.injEq,Value.int.injEq,true_and]at h
       rw[h.1,ih (by simpa using h1) (by simpa using h2) (by simp [keyV,h.2]) h.2]
def YfB(kk:List IntKind)(l:List Int):List Value:=(kk.zip l).map fun p=> .int p.1 p.2
def Yoc(kk:List IntKind)(l:List Int):List SV:=(kk.zip l).map fun p=> .int p.1 p.2
theorem Yke{kk:List IntKind}{l:List Int}:RepL w bs B (Yoc kk l) (YfB kk l):=by
 unfold Yoc YfB
 induction kk.zip l with
 |nil=>exact .nil
 |cons p r ih=>exact .cons _ _ _ _ (.x _ _ (.int _ _)) ih
theorem Ykh:∀{fs:List Field}{k:Nat}{kk:List IntKind},YcZ P k fs=some kk->Yd6 P k fs=some (kk.map fun _=>true)
 | [],k,kk,h=>by simp only[YcZ,Option.some.injEq]at h;subst h;rfl
 |f::fs,k,kk,h=>by
   simp only[YcZ]at h
   split at h
   . rename_i hc
     split at h
     . rename_i kd hu
       obtain⟨kk',h1,rfl⟩:=YCY.1 h
       simp only[Yd6]
       rw[if_pos hc]
       simp [Yfo,hu,Ykh h1]
     . cases h
   . cases h
theorem Yuo:∀{kk:List IntKind}{l l':List Int},l.length=kk.length->l'.length=kk.length->∃p,YbH (kk.map fun _=>true) (Yoc kk l) (Yoc kk l')=some (p,decide (l=l'))/\p
 | [],l,l',h1,h2=>by
   cases l <;> cases l' <;> simp at h1 h2
   exact⟨True,by simp [Yoc,YbH],trivial⟩
 |k::kk,l,l',h1,h2=>by
   cases l with
   |nil=>simp at h1
   |cons x l=>
     cases l' with
     |nil=>simp at h2
     |cons y l'=>
       obtain⟨p,h3,h4⟩:=Yuo (kk:=kk) (l:=l) (l':=l') (by simpa using h1) (by simpa using h2)
       refine⟨k=k/\p,?_,rfl,h4⟩
       simp only[Yoc,YDk,List.zip_cons_cons,YbH]
       have h3':YbH (kk.map fun _=>true) ((kk.zip l).map fun p=> .int p.1 p.2) ((kk.zip l').map fun p=> .int p.1 p.2)=some (p,decide (l=l')):=h3
       rw[h3']
       simp
theorem Ygz{t:TypeId}{kk:List IntKind}(h:YbQ P t=some kk):∃k e fs,P.underlying t=some (.map k e)/\P.underlying k=some (.struct fs)/\P.stoodInHeld k=false/\YcZ P 0 fs.toList=some kk/\(∀w:World,(zeroValue e).run P w= .ok (.int .i64 0) w):=by
 unfold YbQ at h
 split at h
 . rename_i k e hu
   split at h
   . rename_i fs hk
     split at h
     . rename_i hc
       simp only[YC2,Bool.not_eq_true']at hc
       refine⟨k,e,fs,hu,hk,hc.2,h,fun w=>?_⟩
       have hz:=hc.1
       unfold Yvg at hz
       split at hz
       . rename_i i hi
         split at hz
         . rename_i hz0
           simp [zeroValue,typeInfo,hi,hz0]
         . cases hz
       . cases hz
     . cases h
   . cases h
 . cases h
theorem YrI{k:TypeId}{fs:Array Field}{kk:List IntKind}(hk:P.underlying k=some (.struct fs))(hs:P.stoodInHeld k=false)(hi:YcZ P 0 fs.toList=some kk){l l':List Int}(h1:l.length=kk.length)(h2:l'.length=kk.length):
   (Op.equal k (keyV kk l) (keyV kk l')).run P w= .ok (decide (l=l')) w:=by
 obtain⟨p,h3,h4⟩:=Yuo h1 h2
 have hu':P.underlying k=some (.struct (P.fieldsOf k)):=by simp [Program.fieldsOf,hk]
 have hf:(P.fieldsOf k).toList=fs.toList:=by simp [Program.fieldsOf,hk]
 have hrun:=run_equalIn_struct (P:=P) w 9999 k (YfB kk l).toArray (YfB kk l').toArray hu' hs
 rw[hf,Yd1 (d:=9998) (X:=YfB kk l) (Y:=YfB kk l') (bs:=[]) (B:=bdZ) (Ykh hi) h3 h4 (by simpa using Yke) (by simpa using Yke)]at hrun
 simpa [Op.equal,Op.maxDepth,keyV,YfB]using hrun
theorem YbE{k:TypeId}{fs:Array Field}{kk:List IntKind}(hk:P.underlying k=some (.struct fs))(hs:P.stoodInHeld k=false)(hi:YcZ P 0 fs.toList=some kk){l:List Int}(h1:l.length=kk.length):
   ∀(es:List MapEntry)(i:Nat),(∀e∈es,∃l,l.length=kk.length/\e.key=keyV kk l)->
     ((Instr.findAsking k (keyV kk l) es i).run P w= .ok none w)\/∃j e,(Instr.findAsking k (keyV kk l) es i).run P w= .ok (some (i+j,e.val)) w/\es[j]? =some e/\e.key=keyV kk l
 | [],i,_=> .inl rfl
 |e::es,i,h=>by
   obtain⟨l',h2,h3⟩:=h e YDd
   have hq:=YrI (w:=w) hk hs hi h1 h2
   unfold Instr.findAsking
   rw[h3]
   simp only[Sem.run_bind,hq,Result.andThen_ok]
   by_cases hl:l=l'
   . right
     refine⟨0,e,by simp [hl],rfl,by rw[h3,hl]⟩
   . simp only[hl,decide_false,YDB,if_false]
     rcases YbE hk hs hi h1 es (i+1) (fun e he=>h e (YDa _ he))with h4| ⟨j,e',h4,h5,h6⟩
     . exact .inl h4
     . exact .inr ⟨j+1,e',by rw[h4,show i+1+j=i+(j+1)by omega],by simpa using h5,h6⟩
theorem YdK{kk:List IntKind}{l:List Int}{k:TypeId}{fs:Array Field}(hk:P.underlying k=some (.struct fs))(hi:YcZ P 0 fs.toList=some kk)(h1:l.length=kk.length)(em:Bool):(Instr.checkKey em 10000 k (keyV kk l)).run P w= .ok () w:=by
 have key:∀(gs:List Field)(j:Nat)(kj:List IntKind)(lj:List Int)(X:List Value),YcZ P j gs=some kj->lj.length=kj.length->X.drop j=YfB kj lj->
     (forIn gs PUnit.unit (fun(f:Field) (_:PUnit)=>(if f.name≠ "_" then do let a<-part f.type X.toArray f.offset;Instr.checkKey em 9999 f.type a;pure (ForInStep.yield PUnit.unit)else pure (ForInStep.yield PUnit.unit):Sem (ForInStep PUnit)))).run P w= .ok PUnit.unit w:=by
   intro gs
   induction gs with
   |nil=>intro j kj lj X _ _ _;simp
   |cons f gs ih=>
     intro j kj lj X hkj hlj hX
     simp only[YcZ]at hkj
     split at hkj
     . rename_i hc
       simp only[YC2,beq_iff_eq,bne_iff_ne,ne_eq]at hc
       obtain⟨⟨c1,c2⟩,c3⟩:=hc
       split at hkj
       . rename_i kd hu
         obtain⟨kj',hk',rfl⟩:=YCY.1 hkj
         cases lj with
         |nil=>simp at hlj
         |cons x lj=>
           have hX':X.drop j= .int kd x::YfB kj' lj:=by rw[hX];rfl
           obtain⟨d1,d2⟩:=Yau hX'
           have hp:(part f.type X.toArray f.offset).run P w= .ok (.int kd x) w:=by
             rw[c2]
             exact Ydi (b:=true) (by simp [Yfo,hu]) d1
           have hck:(Instr.checkKey em 9999 f.type (.int kd x)).run P w= .ok () w:=by
             unfold Instr.checkKey
             simp [run_underlying hu,Result.andThen]
           have ih':=ih (j+1) kj' lj X hk' (by simpa using hlj) d2
           simp only[List.forIn_cons,Sem.run_bind,ne_eq,c3,not_false_eq_true,if_true,hp,Result.andThen_ok,hck,Sem.run_pure]
           exact ih'
       . cases hkj
     . cases hkj
 have:=key fs.toList 0 kk l (YfB kk l) hi h1 rfl
 unfold Instr.checkKey
 simp only[Sem.run_bind,run_underlying hk,Result.andThen_ok,keyV]
 rw[<-Array.forIn_toList]
 simp [YfB]at this⊢
 rw[this]
 rfl
theorem Yi0{kk:List IntKind}{l:List Int}:Instr.sameBits 10000 (keyV kk l) (keyV kk l)=true:=by
 have h:∀(vs:List (IntKind×Int)),((vs.map fun p=>Value.int p.1 p.2).zip (vs.map fun p=>Value.int p.1 p.2)).all (fun(x,y)=>Instr.sameBits 9999 x y)=true:=by
   intro vs
   induction vs with
   |nil=>rfl
   |cons p r ih=>simp only[YDk,List.zip_cons_cons,List.all_cons,ih,Bool.and_true];simp [Instr.sameBits]
 unfold keyV Instr.sameBits
 simp only[beq_self_eq_true,Bool.true_and]
 exact h (kk.zip l)
theorem YiI:∀{kk:List IntKind}{cs:List SV}{p:Prop}{l:List Int}{vs:List Value},YiH kk cs=some (p,l)->p->RepL w bs B cs vs->vs=YfB kk l/\l.length=kk.length
 | [],cs,p,l,vs,h,hp,hr=>by
   cases cs with
   |nil=>simp only[YiH,Option.some.injEq,Prod.mk.injEq]at h;obtain⟨_,rfl⟩:=h;cases hr;exact⟨rfl,rfl⟩
   |cons=>simp [YiH]at h
 |k::kk,cs,p,l,vs,h,hp,hr=>by
   cases cs with
   |nil=>simp [YiH]at h
   |cons c cs=>
     cases c <;> simp only[YiH,reduceCtorEq]at h
     rename_i k' x
     obtain⟨⟨q,r⟩,h1,h2⟩:=YCY.1 h
     simp only[Prod.mk.injEq]at h2
     obtain⟨rfl,rfl⟩:=h2
     obtain⟨rfl,hq⟩:=hp
     obtain⟨v,vs',rfl,g1,g2⟩:=hr.cons_inv
     obtain⟨rfl,hl⟩:=YiI h1 hq g2
     rw[g1.int_inv]
     exact⟨rfl,by simp [hl]⟩
theorem hp0{z:Cx0}{w':World}{J:Nat->Option IK}{hJ:Ext z J}(h:∀(b:Nat) (K:IK),J b=some K->∃o,w'.heap[b]? =some o/\K.ok o):Hp w' [] (z.wI J hJ).bd []:=
 ⟨rfl,fun i=> .inr (by simp),fun _ _ _ _ _ _ _ h=>by simp at h,fun _ _ _ _ h=>by simp at h,fun b K hb=>⟨Ybe,h b K hb⟩⟩
theorem Y7(z:Cx0):Ext z z.I:=⟨fun _ _=>rfl,fun _ _ h=>h⟩
def POk(P:Program)(ρ:Operand->Value)(op:Op)(w:World)(B:Bd)(k:SV->List HO->Prop):Prop:=
 ∃r v w' x J,∃hJ:Ext (B.cx w) J,(∀dst type pos after guard,(execOp ρ ⟨dst,op,type,pos,after,guard⟩).run P w= .ok r w')/\(r= .value v\/(r= .skip/\v=undef))/\k x []/\
   Rep w' [] ((B.cx w).wI J hJ).bd x v/\Hp w' [] ((B.cx w).wI J hJ).bd []/\BelowI (B.cx w).bd w w'/\Yo x
theorem Yfy{b:Nat}{o:Obj}{K:IK}(hw:Wrote w w' b o)(hI:B.I b=some K):BelowI (B.cx w).bd w w':=
 ⟨hw.os,hw.tape,hw.output,YDV hw.size.symm,fun k hk hIk=>hw.other k (by rintro rfl;have h:B.I k=none:=hIk;rw[hI]at h;cases h)⟩
theorem Yk0(hH:Hp w bs B hp){b:Nat}{o:Obj}{K:IK}(hw:Wrote w w' b o)(hI:B.I b=some K)(ho:K.ok o):∀(b:Nat)(K:IK),B.I b=some K->∃o,w'.heap[b]? =some o/\K.ok o:=by
 intro b' K' hI'
 by_cases hb:b'=b
 . subst hb
   rw[hI]at hI';cases hI'
   exact⟨o,hw.at_,ho⟩
 . obtain⟨_,o',h1,h2⟩:=hH.reg b' K' hI'
   exact⟨o',by rw[hw.other b' hb];exact h1,h2⟩
theorem YkO{b:Nat}{o o':Obj}(hb:w.heap[b]? =some o):Wrote w { w with heap:=w.heap.setIfInBounds b o'} b o':=by
 have hbl:b<w.heap.size:=(YDl.1 hb).1
 exact⟨rfl,rfl,rfl,by simp,by simp [hbl],fun r hr=>by simp [Ne.symm hr]⟩
inductive YnZ (P:Program):Op->VO->List Operand->Prop where
 |load (t:TypeId) (a:Operand) (g:Bool) (s:Nat) (hg:YdU P t=some g) (hs:sizeOf? P t=some s) (hc:chk g s=true):YnZ P (.load t a) (.load g s) [a]
 |store (t:TypeId) (a x:Operand) (s:Nat) (hs:sizeOf? P t=some s):YnZ P (.store t a x) (.store s) [a,x]
 |mk (t:TypeId) (kk:List IntKind) (h:YbQ P t=some kk):YnZ P (.makeMap t none) (.mkMap kk) []
 |get (t:TypeId) (m k:Operand) (kk:List IntKind) (h:YbQ P t=some kk):YnZ P (.lookup t m k true) (.mapGet kk) [m,k]
 |put (t:TypeId) (m k x:Operand) (kk:List IntKind) (h:YbQ P t=some kk):YnZ P (.mapUpdate t m k x) (.mapPut kk) [m,k,x]
theorem Yuc{op:BinOp}{t:TypeId}{v:VO}(hv:vbin P op t=some v)(xs:List SV):psd v xs=none:=by
 cases op <;> simp only[vbin]at hv
 . split at hv <;> cases hv;rfl
 . split at hv <;> cases hv;rfl
 . cases hv;rfl
 . cases hv;rfl
 . cases hv;rfl
 . cases hv;rfl
 . cases hv;rfl
 . cases hv;rfl
 . cases hv;rfl
 . cases hv;rfl
 . cases hv;rfl
 . split at hv
   . cases hv;rfl
   . split at hv
     . cases hv;rfl
     split at hv
     . cases hv;rfl
     . obtain⟨ks,hk,rfl⟩:=YCY.1 hv
       rfl
 . split at hv
   . cases hv;rfl
   . split at hv
     . cases hv;rfl
     split at hv
     . cases hv;rfl
     . obtain⟨ks,hk,rfl⟩:=YCY.1 hv
       rfl
 . cases hv;rfl
 . cases hv;rfl
 . cases hv;rfl
 . cases hv;rfl
theorem Yyx{o:Oper}{vo:VO}{ops:List Operand}(hv:vop P o=some (vo,ops)):YnZ P o.op vo ops\/∀xs,psd vo xs=none:=by
 obtain⟨dst,op,type,pos,after,guard⟩:=o
 unfold vop at hv
 simp only at hv
 split at hv
 . cases hv;exact .inr fun _=>rfl
 . cases hv;exact .inr fun _=>rfl
 . cases hv;exact .inr fun _=>rfl
 . split at hv
   . obtain⟨kk,hk,hv⟩:=YCY.1 hv
     cases hv;exact .inl (.mk _ kk hk)
   . split at hv <;> cases hv
     exact .inr fun _=>rfl
 . split at hv
   . cases hv;exact .inr fun _=>rfl
   . obtain⟨kk,hk,hv⟩:=YCY.1 hv
     cases hv;exact .inl (.put _ _ _ _ kk hk)
 . obtain⟨kk,hk,hv⟩:=YCY.1 hv
   cases hv;exact .inl (.get _ _ _ kk hk)
 . cases hv;exact .inr fun _=>rfl
 . cases hv;exact .inr fun _=>rfl
 . split at hv
   . obtain⟨z,hz,hv⟩:=YCV.1 hv
     obtain⟨s,hs,hv⟩:=YCY.1 hv
     cases hv;exact .inr fun _=>rfl
   . obtain⟨z,hz,hv⟩:=YCY.1 hv
     cases hv;exact .inr fun _=>rfl
 . cases hv;exact .inr fun _=>rfl
 . obtain⟨z,hz,hv⟩:=YCV.1 hv
   obtain⟨pl,hpl,hv⟩:=YCV.1 hv
   split at hv <;> cases hv
   exact .inr fun _=>rfl
 . obtain⟨g,hg,hv⟩:=YCV.1 hv
   obtain⟨s,hs,hv⟩:=YCV.1 hv
   split at hv <;> cases hv
   exact .inl (.load _ _ g s hg hs ‹_›)
 . obtain⟨s,hs,hv⟩:=YCY.1 hv
   cases hv
   exact .inl (.store _ _ _ s hs)
 . split at hv <;> cases hv
   exact .inr fun _=>rfl
 . split at hv <;> cases hv
   exact .inr fun _=>rfl
 . obtain⟨v,hb,hv⟩:=YCY.1 hv
   cases hv
   exact .inr (Yuc hb)
 . cases hv;exact .inr fun _=>rfl
 . cases hv;exact .inr fun _=>rfl
 . split at hv <;> cases hv
   exact .inr fun _=>rfl
 . obtain⟨fs,hfs,hv⟩:=YCV.1 hv
   obtain⟨fd,hfd,hv⟩:=YCV.1 hv
   obtain⟨z,hz,hv⟩:=YCV.1 hv
   split at hv <;> cases hv
   exact .inr fun _=>rfl
 . obtain⟨fs,hfs,hv⟩:=YCV.1 hv
   obtain⟨fd,hfd,hv⟩:=YCV.1 hv
   obtain⟨z,hz,hv⟩:=YCV.1 hv
   obtain⟨g,hg,hv⟩:=YCV.1 hv
   split at hv <;> cases hv
   exact .inr fun _=>rfl
 . split at hv
   . obtain⟨s,hs,hv⟩:=YCY.1 hv
     cases hv;exact .inr fun _=>rfl
   . obtain⟨s,hs,hv⟩:=YCY.1 hv
     cases hv;exact .inr fun _=>rfl
   . cases hv
 . split at hv
   . obtain⟨s,hs,hv⟩:=YCV.1 hv
     obtain⟨g,hg,hv⟩:=YCV.1 hv
     split at hv <;> cases hv
     exact .inr fun _=>rfl
   . cases hv;exact .inr fun _=>rfl
   . cases hv
 . split at hv
   . obtain⟨s,hs,hv⟩:=YCY.1 hv
     cases hv;exact .inr fun _=>rfl
   . obtain⟨s,hs,hv⟩:=YCY.1 hv
     cases hv;exact .inr fun _=>rfl
   . cases hv
 . split at hv
   . obtain⟨s,hs,hv⟩:=YCY.1 hv
     cases hv;exact .inr fun _=>rfl
   . cases hv
 . split at hv
   . obtain⟨s,hs,hv⟩:=YCV.1 hv
     obtain⟨b,hb,hv⟩:=YCV.1 hv
     obtain⟨z,hz,hv⟩:=YCV.1 hv
     split at hv <;> cases hv
     exact .inr fun _=>rfl
   . cases hv
 . split at hv
   . obtain⟨s,hs,hv⟩:=YCV.1 hv
     obtain⟨z,hz,hv⟩:=YCV.1 hv
     split at hv <;> cases hv
     exact .inr fun _=>rfl
   . cases hv
 . cases hv;exact .inr fun _=>rfl
 . split at hv
   . cases hv
   . cases hv;exact .inr fun _=>rfl
   . cases hv
 . cases hv;exact .inr fun _=>rfl
 . rename_i c
   split at hv
   . split at hv
     . cases hv;exact .inr fun _=>rfl
     . cases hv;exact .inr fun _=>rfl
   . cases hv;exact .inr fun _=>rfl
   . cases hv;exact .inr fun _=>rfl
   . split at hv
     . cases hv;exact .inr fun _=>rfl
     . cases hv;exact .inr fun _=>rfl
     . cases hv;exact .inr fun _=>rfl
     . cases hv;exact .inr fun _=>rfl
     . cases hv
   . cases hv;exact .inr fun _=>rfl
   . cases hv;exact .inr fun _=>rfl
   . split at hv
     . obtain⟨s,hs,hv⟩:=YCV.1 hv
       obtain⟨b,hb,hv⟩:=YCV.1 hv
       obtain⟨z,hz,hv⟩:=YCV.1 hv
       split at hv <;> cases hv
       exact .inr fun _=>rfl
     . cases hv
   . cases hv
 . cases hv
theorem Ytu{t:TypeId}{a:Operand}{C:Int->Prop}{k:SV->List HO->Prop}(hg:YdU P t=some false)(hc:∀v,C v->k (.int .i64 v) [])(hx:Rep w bs B (.rcell C) (ρ a))(hH:Hp w bs B hp):POk P ρ (.load t a) w B k:=by
 obtain⟨n,D,j,b,rfl,hI,hj,hv⟩:=hx.rcell_inv
 obtain⟨_,o,ho,vs,T,rfl,hn,hall⟩:=hH.reg b _ hI
 obtain⟨v,hvv,hC⟩:=hall j hj
 refine⟨.value (.int .i64 v),.int .i64 v,w,.int .i64 v,B.I,Y7 (B.cx w),fun dst type pos after guard=>?_,.inl rfl,hc v hC,.x _ _ (.int _ _),hp0 fun b K h=>(hH.reg b K h).2,BelowI.refl _ _,trivial⟩
 simp only[execOp,Instr.loadAt,hv,Instr.sureAddr,loadVar,Sem.run_bind,Sem.run_pure,Result.andThen_ok,Yb7 hg,YDB,if_false,run_load]
 have hcell:w.cell? ⟨b,j,none⟩=some (.int .i64 v):=by
   have h1:Cells w b 0 vs.toList:=⟨vs,T,(0,0),ho,fun q u hq=>by simpa using hq⟩
   have:=h1.cell (j:=j) (v:= .int .i64 v) (by simpa using hvv)
   simpa using this
 rw[hcell];rfl
theorem YrV{t:TypeId}{a x:Operand}{C:Int->Prop}{v:Int}{k:SV->List HO->Prop}(hs:sizeOf? P t=some 1)(hC:C v)(hc:k .junk [])(hx:Rep w bs B (.rcell C) (ρ a))(hy:ρ x= .int .i64 v)(hH:Hp w bs B hp):POk P ρ (.store t a x) w B k:=by
 obtain⟨n,D,j,b,rfl,hI,hj,hv⟩:=hx.rcell_inv
 obtain⟨_,o,ho,vs,T,rfl,hn,hall⟩:=hH.reg b _ hI
 obtain⟨w',cs',hrun,hw,hcs⟩:=YcC (P:=P) (ρ:=ρ) (x:=a) (y:=x) hs hv ho (by rw[hy];rfl) (by omega) (by rw[hy];simp [Value.cells,Value.oneCell'])
 have hcs':cs'.toList=vs.toList.set j (.int .i64 v):=by
   rw[hcs,hy]
   simp only[Value.cells,YA,YDP,List.length_nil]
   rw[List.set_eq_take_append_cons_drop,if_pos (by simp;omega)]
   simp
 have hok:(IK.ints n D).ok (.cells cs' T (0,0)):=by
   refine⟨cs',T,rfl,?_,fun q hq=>?_⟩
   . rw[<-Array.length_toList,hcs'];simpa using hn
   . rw[<-Array.getElem?_toList,hcs',List.getElem?_set]
     split
     . rename_i he
       subst he
       rw[if_pos (by simp;omega)]
       exact⟨v,rfl,hC⟩
     . obtain⟨u,h1,h2⟩:=hall q hq
       exact⟨u,by rw[Array.getElem?_toList];exact h1,h2⟩
 exact⟨.skip,undef,w',.junk,B.I,Y7 (B.cx w),hrun,.inr ⟨rfl,rfl⟩,hc,.x _ _ (.junk _),hp0 (Yk0 hH hw hI hok),Yfy hw hI,trivial⟩
theorem YtA{t:TypeId}{kk:List IntKind}{k:SV->List HO->Prop}{C:List Int->Int->Prop}(hc:k (.imap kk C) [])(hH:Hp w bs B hp):POk P ρ (.makeMap t none) w B k:=by
 let J:Nat->Option IK:=fun b=>if b=w.heap.size then some (.map kk C)else B.I b
 have hJ:Ext (B.cx w) J:=⟨fun b hb=>by show(if b=w.heap.size then _ else _)=_;rw[if_neg (by have h:b<w.heap.size:=hb;omega)];rfl,fun b K hK=>by
   show(if b=w.heap.size then _ else _)=_
   have hK:B.I b=some K:=hK
   obtain⟨_,o,ho,_⟩:=hH.reg b K hK
   have:=(YDl.1 ho).1
   rw[if_neg (by omega)];exact hK⟩
 refine⟨.value (.map (some w.heap.size)),_,World.push w (.map #[] 0),.imap kk C,J,hJ,fun dst type pos after guard=>?_,.inl rfl,hc,.x _ _ (.imap _ _ _ (by show J _=_;simp [J])),hp0 fun b K hK=>?_,.of (YV (B:=(B.cx w).bd) _ (YC5 _)),trivial⟩
 . simp [execOp,Instr.makeMap,Result.andThen,run_newObj,World.push]
 . by_cases hb:b=w.heap.size
   . subst hb
     have:K= .map kk C:=by have h:J w.heap.size=some K:=hK;simp [J]at h;exact h.symm
     subst this
     exact⟨_,YaT, #[],0,rfl,fun e he=>by simp at he⟩
   . have h:J b=some K:=hK
     simp only[J,if_neg hb]at h
     obtain⟨_,o,ho,hok⟩:=hH.reg b K h
     exact⟨o,YfU ho,hok⟩
theorem Yq2{t:TypeId}{m y:Operand}{kk:List IntKind}{C:List Int->Int->Prop}{l:List Int}{k:SV->List HO->Prop}(ht:YbQ P t=some kk)(hc:∀r:Option Int,(∀v,r=some v->C l v)->k (.tup [.int .i64 (r.getD 0),.bool r.isSome]) [])
   (hx:Rep w bs B (.imap kk C) (ρ m))(hy:ρ y=keyV kk l)(hl:l.length=kk.length)(hH:Hp w bs B hp):POk P ρ (.lookup t m y true) w B k:=by
 obtain⟨b,hI,hv⟩:=hx.imap_inv
 obtain⟨_,o,ho,es,clock,rfl,hall⟩:=hH.reg b _ hI
 obtain⟨kt,et,fs,hu,hk,hst,hki,hz⟩:=Ygz ht
 have hkeys:∀e∈es.toList,∃l,l.length=kk.length/\e.key=keyV kk l:=fun e he=>by
   obtain⟨l,v,h1,h2,_⟩:=hall e he;exact⟨l,h1,h2⟩
 have hwide:(match P.underlying kt with|some (.array _ _) |some (.struct _)=>true|_=>false)=true:=by rw[hk]
 have hfin:∀a,(Instr.findAsking kt (keyV kk l) es.toList 0).run P w= .ok a w->(Instr.findKey kt (keyV kk l) es.toList).run P w= .ok a w:=fun a h=>by rw[run_findKey_eq w hwide];exact h
 have fin:∀r:Option Int,(∀v,r=some v->C l v)->(∀dst type pos after guard,(execOp ρ ⟨dst,.lookup t m y true,type,pos,after,guard⟩).run P w= .ok (.value (.tuple #[.int .i64 (r.getD 0),.bool r.isSome])) w)->POk P ρ (.lookup t m y true) w B k:=fun r hr hrun=>
   ⟨_,.tuple #[.int .i64 (r.getD 0),.bool r.isSome],w,_,B.I,Y7 (B.cx w),hrun,.inl rfl,hc r hr,.x _ _ (.tup _ _ (.cons _ _ _ _ (.int _ _) (.cons _ _ _ _ (.bool _) .nil))),hp0 fun b K h=>(hH.reg b K h).2,BelowI.refl _ _,by simp [Yo,Ys]⟩
 rcases YbE (w:=w) hk hst hki hl es.toList 0 hkeys with h| ⟨j,e,h,h2,h3⟩
 . refine fin none (fun _ h=>by cases h) fun dst type pos after guard=>?_
   simp [execOp,Instr.lookup,run_underlying hu,hv,hy,MapKept.run_getObj_map ho,YdK hk hki hl,hfin _ h,Result.andThen,hz w]
 . obtain⟨l',v,g1,g2,g3,g4⟩:=hall e (List.mem_of_getElem? h2)
   have:l'=l:=Ytl g1 hl (by rw[<-g2,h3])
   subst this
   refine fin (some v) (fun u hu=>by cases hu;exact g4) fun dst type pos after guard=>?_
   simp [execOp,Instr.lookup,run_underlying hu,hv,hy,MapKept.run_getObj_map ho,YdK hk hki hl,hfin _ h,Result.andThen,g3]
theorem Yq3{t:TypeId}{m y x:Operand}{kk:List IntKind}{C:List Int->Int->Prop}{l:List Int}{v:Int}{k:SV->List HO->Prop}(ht:YbQ P t=some kk)(hC:C l v)(hc:k .junk [])
   (hx:Rep w bs B (.imap kk C) (ρ m))(hy:ρ y=keyV kk l)(hl:l.length=kk.length)(hxv:ρ x= .int .i64 v)(hH:Hp w bs B hp):POk P ρ (.mapUpdate t m y x) w B k:=by
 obtain⟨b,hI,hv⟩:=hx.imap_inv
 obtain⟨_,o,ho,es,clock,rfl,hall⟩:=hH.reg b _ hI
 obtain⟨kt,et,fs,hu,hk,hst,hki,hz⟩:=Ygz ht
 have hkeys:∀e∈es.toList,∃l,l.length=kk.length/\e.key=keyV kk l:=fun e he=>by
   obtain⟨l,v,h1,h2,_⟩:=hall e he;exact⟨l,h1,h2⟩
 have hwide:(match P.underlying kt with|some (.array _ _) |some (.struct _)=>true|_=>false)=true:=by rw[hk]
 have hfin:∀a,(Instr.findAsking kt (keyV kk l) es.toList 0).run P w= .ok a w->(Instr.findKey kt (keyV kk l) es.toList).run P w= .ok a w:=fun a h=>by rw[run_findKey_eq w hwide];exact h
 have fin:∀(es':Array MapEntry)(clock':Nat),(∀dst type pos after guard,(execOp ρ ⟨dst,.mapUpdate t m y x,type,pos,after,guard⟩).run P w= .ok .skip { w with heap:=w.heap.setIfInBounds b (.map es' clock')})->(∀e∈es'.toList,∃l v,l.length=kk.length/\e.key=keyV kk l/\e.val= .int .i64 v/\C l v)->POk P ρ (.mapUpdate t m y x) w B k:=fun es' clock' hrun hall'=>
   ⟨.skip,undef,_,.junk,B.I,Y7 (B.cx w),hrun,.inr ⟨rfl,rfl⟩,hc,.x _ _ (.junk _),hp0 (Yk0 hH (YkO ho) hI ⟨es',clock',rfl,hall'⟩),Yfy (YkO ho) hI,trivial⟩
 rcases YbE (w:=w) hk hst hki hl es.toList 0 hkeys with h| ⟨j,e,h,h2,h3⟩
 . refine fin (es.push { key:=keyV kk l,val:= .int .i64 v,born:=clock}) (clock+1) (fun dst type pos after guard=>?_) fun e he=>?_
   . simp [execOp,Instr.mapUpdate,run_underlying hu,hv,hy,hxv,MapKept.run_getObj_map ho,YdK hk hki hl,hfin _ h,Result.andThen,run_setObj_map _ ho]
   . simp only[Array.toList_push,YDp,YDC]at he
     rcases he with he|rfl
     . exact hall e he
     . exact⟨l,v,hl,rfl,rfl,hC⟩
 . have hj:es[j]? =some e:=by simpa using h2
   have hks:(Instr.keyThatStays (keyV kk l) (keyV kk l)).run P w= .ok (keyV kk l) w:=by simp [Instr.keyThatStays,Yi0]
   refine fin (es.modify j fun e=>{ e with key:=keyV kk l,val:= .int .i64 v}) clock (fun dst type pos after guard=>?_) fun e' he=>?_
   . simp [execOp,Instr.mapUpdate,run_underlying hu,hv,hy,hxv,MapKept.run_getObj_map ho,YdK hk hki hl,hfin _ h,hj,h3,hks,Result.andThen,run_setObj_map _ ho]
   . obtain⟨q,hq⟩:=List.mem_iff_getElem?.1 he
     rw[Array.getElem?_toList,Array.getElem?_modify]at hq
     split at hq
     . obtain⟨e0,_,rfl⟩:=YCY.1 hq
       exact⟨l,v,hl,rfl,rfl,hC⟩
     . exact hall e' (List.mem_of_getElem? (by rw[Array.getElem?_toList];exact hq))
theorem YuX{o:Oper}{vo:VO}{ops:List Operand}{xs:List SV}{c:CRes}{k:SV->List HO->Prop}(hv:vop P o=some (vo,ops))(hp1:psd vo xs=some c)(hc:CSat c k)(hx:RepL w bs B xs (ops.map ρ))(hH:Hp w bs B hp):POk P ρ o.op w B k:=by
 have hcase:=Yyx hv
 generalize o.op=op at hcase
 rcases hcase with h|h
 . cases h with
   |load t a g s hg hs hck=>
     unfold psd at hp1
     cases g with
     |true=>cases hp1
     |false=>
       simp only at hp1
       split at hp1 <;> cases hp1
       exact Ytu hg hc (one1 hx) hH
   |store t a x s hs=>
     unfold psd at hp1
     simp only at hp1
     split at hp1 <;> cases hp1
     obtain⟨h1,h2⟩:=two hx
     obtain⟨⟨rfl,hC⟩,hc⟩:=hc
     exact YrV hs hC hc h1 h2.int_inv hH
   |mk t kk ht=>
     unfold psd at hp1
     simp only at hp1
     split at hp1 <;> cases hp1
     obtain⟨C,hC⟩:=hc
     exact YtA hC hH
   |get t m y kk ht=>
     unfold psd at hp1
     simp only at hp1
     split at hp1
     . rename_i ks C cs
       obtain⟨⟨p,l⟩,hk,heq⟩:=YCY.1 hp1
       simp only at heq
       subst heq
       obtain⟨⟨rfl,hpp⟩,hc⟩:=hc
       obtain⟨h1,h2⟩:=two hx
       obtain⟨vs,h3,h4⟩:=h2.agg_inv
       obtain⟨rfl,h5⟩:=YiI hk hpp h4
       exact Yq2 ht hc h1 h3 h5 hH
     . cases hp1
   |put t m y x kk ht=>
     unfold psd at hp1
     simp only at hp1
     split at hp1
     . rename_i ks C cs v
       obtain⟨⟨p,l⟩,hk,heq⟩:=YCY.1 hp1
       simp only at heq
       subst heq
       obtain⟨⟨⟨rfl,hpp⟩,hC⟩,hc⟩:=hc
       obtain⟨v1,l1,e1,h1,hx⟩:=hx.cons_inv
       obtain⟨v2,l2,e2,h2,hx⟩:=hx.cons_inv
       obtain⟨v3,l3,e3,h3,hx⟩:=hx.cons_inv
       simp only[YDk,List.map_nil,List.cons.injEq]at e1
       obtain⟨r1,rfl⟩:=e1
       simp only[List.cons.injEq]at e2
       obtain⟨r2,rfl⟩:=e2
       simp only[List.cons.injEq]at e3
       obtain⟨r3,rfl⟩:=e3
       obtain⟨vs,h5,h6⟩:=h2.agg_inv
       obtain⟨rfl,h7⟩:=YiI hk hpp h6
       exact Yq3 ht hC hc (r1▸h1) (r2.trans h5) h7 (r3.trans h3.int_inv) hH
     . cases hp1
 . rw[h xs]at hp1;cases hp1
end
end Go.Vx
namespace Go.Vx
open Go.RowKit
section
variable {P:Program} {E:Env} {w0:Cx} {rd:Option Nat} {Pd:List Pend} {A:S->Prop} {s:S}
theorem YcS{d:Option Nat}{x:SV}(hd:∀p∈Pd,d≠some p.slot):er Pd (s.put d x)=(er Pd s).put d x:=by
 cases d with
 |none=>rfl
 |some n=>simp only[er,S.put];rw[Ybf fun p hp e=>hd p hp (by rw[e])]
theorem Yp9:∀{xs:List X},(∀p∈Pd,p.slot∉Yag xs)->(er Pd s).args xs=s.args xs
 | [],_=>rfl
 |x::l,h=>by
   simp only[S.args]
   rw[Yp9 fun p hp hm=>h p hp (by simp [Yag,hm])]
   cases x with
   |cn _=>rfl
   |tm n=>simp only[S.x,er];rw[YbP fun p hp e=>h p hp (by simp [Yag,X.slot,e])]
theorem Yaw{d:Option Nat}{x:SV}(hd:∀p∈Pd,d≠some p.slot)(h:∀p∈Pd,getH s.hp p.idx=p.cells.ho/\setL s.fr p.slot (.ptr p.idx 0)=s.fr):
   ∀p∈Pd,getH (s.put d x).hp p.idx=p.cells.ho/\setL (s.put d x).fr p.slot (.ptr p.idx 0)=(s.put d x).fr:=fun p hp=>by
 refine⟨by rw[Ydd];exact(h p hp).1,?_⟩
 cases d with
 |none=>exact(h p hp).2
 |some n=>
   show setL (setL s.fr n x) p.slot _=setL s.fr n x
   rw[Yb8 _ _ _ _ _ (fun e=>hd p hp (by rw[e])),(h p hp).2]
theorem Ye9(h:∀p∈Pd,getH s.hp p.idx=p.cells.ho/\setL s.fr p.slot (.ptr p.idx 0)=s.fr):∀p∈Pd,p.idx<lenH s.hp:=fun p hp=>by
 rcases YDz p.idx (lenH s.hp)with h'|h'
 . exact h'
 . have:=(h p hp).1
   rw[Ya6 _ _ h']at this;exact absurd this.symm (AL.ho_ne _)
theorem YbN{ops:Array Oper}{κ:Kont}{i:Nat}{o:Oper}{a:Act}{w:World}{K:Act->World->Prop}(hi:ops[i]? =some o)(hw:Region.wanted o (yielded ops a.tmps)=true)(h:o.wpIn (Wd rd) 0 P a w K κ):wpOpIn (Wd rd) 0 P ops κ i K a w:=by
 unfold wpOpIn;simp only[hi,hw,if_true];exact h
theorem Ysf{ops:Array Oper}{κ:Kont}{i:Nat}{o:Oper}{a:Act}{w:World}{K:Act->World->Prop}(hi:ops[i]? =some o)(hw:Region.wanted o (yielded ops a.tmps)=false)(h:K (a.put o.dst undef) w):wpOpIn (Wd rd) 0 P ops κ i K a w:=by
 unfold wpOpIn;simp only[hi,hw];exact⟨fun _ _=>trivial,h⟩
theorem Yfe{all:Array Oper}{o:Oper}{v:VOp}(h:YfF P all o=some v):∃ops,vop P o=some (v.op,ops)/\X.ofs P ops=some v.xs/\(v.op.isCall=true->Ybk o.op=true)/\v.dst=o.dst/\
   ((o.guard=none/\v.g=none)\/∃j b g,o.guard=some (j,b)/\YkQ all j=some g/\v.g=some (g,b)):=by
 unfold YfF at h
 obtain⟨⟨vo,ops⟩,h1,h⟩:=YCV.1 h
 obtain⟨xs,h2,h⟩:=YCV.1 h
 split at h
 . cases h
 . rename_i hne
   have hne:vo.isCall=true->Ybk o.op=true:=by simpa using hne
   split at h
   . cases h;exact⟨ops,h1,h2,hne,rfl,.inl ⟨‹_›,rfl⟩⟩
   . obtain⟨g,hg,rfl⟩:=YCY.1 h
     exact⟨ops,h1,h2,hne,rfl,.inr ⟨_,_,g,‹_›,hg,rfl⟩⟩
theorem YiE{o:VO}{xs:List SV}{r:FuncId×List SV}(h:callee E o xs=some r):o.isCall=true:=by
 unfold callee at h
 split at h <;> first|rfl|cases h
theorem YzH{m n o:Nat}(h:m≠n):refs n (.ptr m o)=false:=by
 show YDu m n=false
 cases hb:YDu m n with
 |false=>rfl
 |true=>exact absurd (YDe hb) h
theorem Ydc{b:Nat}:∀{l:List SV},Ygg l=true->Yj b l=l
 | [],_=>rfl
 |x::l,h=>by
   simp only[Ygg,YC2]at h
   simp only[Yj,YdH (YhN h.1),Ydc h.2]
theorem YlB{b:Nat}{z:AL}(h:z.clean=true):YeK b z.ho=z.ho:=by
 cases z with
 |box c=>simp only[AL.ho,YeK,Ydc (show Ygg c=true from h)]
 |arr n sz c=>
   have:(fun k=>Yj b (YaW sz c k))=YaW sz c:=by
     funext k
     unfold YaW
     rw[<-Yec,<-Ycz,Ydc (show Ygg c=true from h)]
   simp only[AL.ho,YeK,this]
theorem YhL(b:Nat):∀(hp:List HO)(i:Nat)(h:HO),Yax b (setH hp i h)=setH (Yax b hp) i (YeK b h)
 | [],_,_=>rfl
 |x::l,0,h=>by cases x <;> cases h <;> rfl
 |x::l,i+1,h=>by
   have:=YhL b l i h
   cases x <;> simp only[setH,Yax,this]
theorem YcY(b:Nat)(fr:List SV):∀(Pd:List Pend),YE (Yj b fr) Pd=Yj b (YE fr Pd)
 | []=>rfl
 |p::l=>by rw[YE,YE,YcY b fr l,YdG];rfl
theorem Yew(b:Nat)(hp:List HO):∀(Pd:List Pend),Yt (Yax b hp) Pd=Yax b (Yt hp Pd)
 | []=>rfl
 |p::l=>by rw[Yt,Yt,Yew b hp l,YhL];rfl
theorem YzY{b:Nat}{ho:HO}(hne:∀p∈Pd,p.idx≠b):er Pd (s.upd (.app b ho))=(er Pd s).upd (.app b ho):=by
 simp only[er,S.upd]
 rw[YcY,Yd4 hne,Yew]
theorem YkI{hp hp':List HO}{x:SV}(h:∀b,blk x=some b->getH hp' b=getH hp b):YcI hp' x=YcI hp x:=by
 cases x <;> try rfl
 case own i lo n sz=>simp only[YcI,h i rfl]
theorem Yn2{hp hp':List HO}{n n':Nat}(hn:n'=n){o:VO}(ha:o.isAppend=true){xs:List SV}(h:∀y∈xs,∀b,blk y=some b->getH hp' b=getH hp b):eff hp' n' o xs=eff hp n o xs:=by
 subst hn
 cases o <;> simp only[VO.isAppend,reduceCtorEq]at ha
 rcases xs with _| ⟨a,_| ⟨x,_| ⟨c,l⟩⟩⟩ <;> try rfl
 have h1:=YkI (h x (by simp))
 have h2:=h a (by simp)
 cases a <;> try rfl
 . simp only[eff,Ybv,h1]
 . rename_i i lo n sz
   have:=h2 i rfl
   cases lo with
   |zero=>simp only[eff,Ybv,h1,this]
   |succ _=>rfl
 . rename_i y
   have:=YkI (x:=y) (fun b hb=>h2 b hb)
   simp only[eff,Ybv,h1,this]
theorem YrD{w:World}{bs:List BK}{B:Bd}:∀{xs:List SV}{vs:List Value},RepL w bs B xs vs->∀{y:SV},y∈xs->∃v,Rep w bs B y v
 |_,_,.nil,y,hy=>by cases hy
 |_,_,.cons x v l vs h h',y,hy=>by
   rcases YDx.1 hy with rfl|hy
   . exact⟨v,h⟩
   . exact YrD h' hy
theorem YjZ(hE:Yr P E){c0:Cx0}(hS:SatG P c0){all:Array Oper}{o:Oper}{v:VOp}{i:Nat}(hi:all[i]? =some o)(hv:YfF P all o=some v)(hs1:∀p∈Pd,p.slot∉v.reads)(hs2:∀p∈Pd,v.dst≠some p.slot)
   (hs3:v.op.isAppend=true->∀p∈Pd,p.cells.clean=true){κ:Kont}{a:Act}{sv:List Act}{w:World}(h:dopW E v A s){ks:List (Nat×Obj)}{J:Nat->Option IK}{hJ:Ext c0 J}(hR:PR ⟨c0.wI J hJ,ks⟩ Pd s a sv w):
   wpOpIn (Wd rd) 0 P all κ i (fun a' w'=> ∃s',A s'/\∃J',∃hJ':Ext c0 J',PR ⟨c0.wI J' hJ',ks⟩ Pd s' a' sv w') a w:=by
 obtain⟨ops,h1,h2,h3,h4,h5⟩:=Yfe hv
 obtain⟨hRl,hPd⟩:=hR
 obtain⟨bs,hf,hsv,hH,hb,hoth⟩:=id hRl
 have hB:c0.heap.size<=w.heap.size:=hb.size
 have hargs:(er Pd s).args v.xs=s.args v.xs:=Yp9 fun p hp hm=>hs1 p hp (by simp [VOp.reads,hm])
 have hx:RepL w bs (c0.wI J hJ).bd (s.args v.xs) (ops.map a.eval):=by rw[<-hargs];exact YsG (YaA hS hb hH) hf h2
 have hlen:lenH (er Pd s).hp=lenH s.hp:=YaY Pd
 have hgs:∀g pol,v.g=some (g,pol)->getL (er Pd s).fr g=getL s.fr g:=fun g pol hg=>YbP fun p hp e=>hs1 p hp (by simp [VOp.reads,hg,e])
 have heq:∀(xs:List SV)(vs:List Value),v.op.quiet=true->RepL w bs (c0.wI J hJ).bd xs vs->eff (er Pd s).hp (lenH (er Pd s).hp) v.op xs=eff s.hp (lenH s.hp) v.op xs:=
   fun xs vs hq hxs=>Yp8 hq fun b hb=>(Yey hH hxs hb).2
 unfold dopW at h
 cases hq:v.op.quiet with
 |true=>
   rw[hq]at h
   simp only[YgN]at h
   cases hfe:fEff v s with
   |none=>rw[hfe]at h;exact h.elim
   |some r=>
     obtain⟨p,x⟩:=r
     rw[hfe]at h
     obtain⟨hp,hA⟩:=h
     unfold fEff at hfe
     rcases h5 with⟨hg,hvg⟩ | ⟨j,pol,g,hg,hsl,hvg⟩
     . rw[hvg]at hfe
       simp only at hfe
       cases he:eff s.hp (lenH s.hp) v.op (s.args v.xs)with
       |none=>rw[he]at hfe;cases hfe
       |some e=>
         obtain⟨q,y,u⟩:=e
         rw[he]at hfe
         cases u <;> try cases hfe
         rw[<-heq _ _ hq hx]at he
         obtain⟨r',val,w',bs',hrn,hr,k1,k2,k3,k4,k5⟩:=YkX (ρ:=a.eval) h1 he hp hx (fun _=>rfl) (fun _=>rfl) hH hB
         refine YbN hi (by simp [Region.wanted,hg]) (Ya4 (Y1 h1) (hrn o.dst o.type o.pos o.after o.guard) hr ?_)
         refine⟨_,hA,J,hJ,?_,Yaw hs2 hPd⟩
         rw[YcS hs2,<-h4]
         exact Yg0 (e:=⟨p,x,.no⟩) (op:=o.op) hf hsv hb hoth k1 k2 k3 k4 k5 v.dst
     . rw[hvg]at hfe
       simp only at hfe
       cases hgb:Y8 (getL s.fr g) pol with
       |none=>rw[hgb]at hfe;cases hfe
       |some gb=>
         rw[hgb]at hfe
         simp only at hfe
         have hw:=YiB (w:=w) hf hg hsl (by rw[hgs g pol hvg];exact hgb)
         cases he:eff s.hp (lenH s.hp) v.op (YL v.op gb (s.args v.xs)).2 with
         |none=>rw[he]at hfe;cases hfe
         |some e=>
           obtain⟨q,y,u⟩:=e
           rw[he]at hfe
           cases u <;> try cases hfe
           obtain⟨hp1,hp2⟩:=hp
           cases gb with
           |true=>
             have hx':=Ycd rfl hx hp1
             rw[<-heq _ _ hq hx']at he
             obtain⟨r',val,w',bs',hrn,hr,k1,k2,k3,k4,k5⟩:=YkX (ρ:=a.eval) h1 he (hp2 rfl) hx' (fun _=>rfl) (fun _=>rfl) hH hB
             refine YbN hi hw (Ya4 (Y1 h1) (hrn o.dst o.type o.pos o.after o.guard) hr ?_)
             refine⟨_,hA,J,hJ,?_,Yaw hs2 hPd⟩
             rw[YcS hs2,<-h4]
             exact Yg0 (e:=⟨q,.opt true y,.no⟩) (op:=o.op) hf hsv hb hoth (.optT _ _ k1) k2 k3 k4 k5 v.dst
           |false=>
             refine Ysf hi hw ⟨_,hA,J,hJ,?_,Yaw hs2 hPd⟩
             rw[YcS hs2,<-h4]
             exact Yde hRl v.dst fun _ _ _=> .optF _
 |false=>
   rw[hq]at h
   simp only at h
   rcases h5 with⟨hg,hvg⟩ | ⟨j,pol,g,hg,hsl,hvg⟩
   . rw[hvg]at h
     simp only at h
     unfold Ykb at h
     cases hc:callee E v.op (s.args v.xs)with
     |none=>
       rw[hc]at h
       simp only[psdW]at h
       have hlt:=Ye9 hPd
       cases hps:psd v.op (s.args v.xs)with
       |some c=>
         rw[hps]at h
         obtain⟨r,val,w',x,J2,hJ2,hrn,hr,hA,k1,k2,k3,k4⟩:=YuX (ρ:=a.eval) h1 hps h hx hH
         refine YbN hi (by simp [Region.wanted,hg]) (Ya4 (Y1 h1) (hrn o.dst o.type o.pos o.after o.guard) hr ?_)
         obtain⟨hJ3,hcr⟩:=Yds (al:=false) (z:=Bd.cx (c0.wI J hJ).bd w) (w0:=c0) (J1:=J) (hJ1:=hJ) (hJ:=hJ2) rfl hf hsv hH hb hoth v.dst k1 k2 k3 (fun _=>⟨k4,trivial⟩) (fun h=>by cases h)
         have hcr:=hcr _ fun _ h=>h
         have hPd':∀p∈Pd,getH ({ fr:=s.fr,saved:=s.saved,hp:=s.hp++YO (lenH s.hp) []}:S).hp p.idx=p.cells.ho/\setL ({ fr:=s.fr,saved:=s.saved,hp:=s.hp++YO (lenH s.hp) []}:S).fr p.slot (.ptr p.idx 0)=({ fr:=s.fr,saved:=s.saved,hp:=s.hp++YO (lenH s.hp) []}:S).fr:=fun p hp=>
           ⟨by rw[<-(hPd p hp).1];exact YfP _ _ _ (by rw[(hPd p hp).1];exact AL.ho_ne _),(hPd p hp).2⟩
         refine⟨_,hA,J2,hJ3,?_,Yaw hs2 hPd'⟩
         rw[YcS hs2,<-h4]
         have:er Pd { fr:=s.fr,saved:=s.saved,hp:=s.hp++YO (lenH s.hp) []}= { fr:=(er Pd s).fr,saved:=(er Pd s).saved,hp:=(er Pd s).hp++YO (lenH (er Pd s).hp) []}:=by
           rw[hlen];simp only[er];rw[Ycn hlt]
         rw[this]
         rw[hlen]at hcr⊢
         exact hcr
       |none=>
       rw[hps]at h
       simp only at h
       cases hbad:v.op.bad with
       |true=>rw[hbad]at h;exact h.elim
       |false=>
       rw[hbad]at h
       simp only[badW,effW]at h
       cases he:eff s.hp (lenH s.hp) v.op (s.args v.xs)with
       |none=>rw[he]at h;exact h.elim
       |some e=>
         rw[he]at h
         obtain⟨hp,hA⟩:=h
         have he2:eff (er Pd s).hp (lenH (er Pd s).hp) v.op (s.args v.xs)=some e:=by
           rw[hlen,<-he]
           cases ha:v.op.isAppend with
           |true=>
             exact Yn2 rfl ha fun y hy b hb=>by
               obtain⟨z,hz⟩:=YrD hx hy
               obtain⟨k,h1,h2⟩:=Yif hz hb
               exact(YiO hH h1 h2).2
           |false=>exact Yqn hq ha hbad fun b hb=>(Yey hH hx hb).2
         obtain⟨r',val,w',bs',hrn,hr,k1,k2,k3,k4,k5⟩:=YkX (ρ:=a.eval) h1 he2 hp hx (fun _=>rfl) (fun _=>rfl) hH hB
         refine YbN hi (by simp [Region.wanted,hg]) (Ya4 (Y1 h1) (hrn o.dst o.type o.pos o.after o.guard) hr ?_)
         have hrel:=Yg0 (e:=e) (op:=o.op) hf hsv hb hoth k1 k2 k3 k4 k5 v.dst
         refine⟨_,hA,J,hJ,?_⟩
         cases ha:v.op.isAppend with
         |true=>
           have hcl:=hs3 ha
           rcases Ypy ha he with⟨ho,hu⟩ | ⟨b,ho,hu,hk⟩
           . rw[hu]at hrel⊢
             have hlt:=Ye9 hPd
             have hPd':∀p∈Pd,getH (s.upd (.new ho)).hp p.idx=p.cells.ho/\setL (s.upd (.new ho)).fr p.slot (.ptr p.idx 0)=(s.upd (.new ho)).fr:=fun p hp=>
               ⟨by rw[<-(hPd p hp).1];exact YW _ _ _ (hlt p hp),(hPd p hp).2⟩
             refine⟨?_,Yaw hs2 hPd'⟩
             rw[YcS hs2,<-h4]
             have:er Pd (s.upd (.new ho))=(er Pd s).upd (.new ho):=by
               simp only[er,S.upd];rw[YcW hlt]
             rw[this];exact hrel
           . have hne:=(Yey hH hx hk).1
             rw[hu]at hrel⊢
             have hPd':∀p∈Pd,getH (s.upd (.app b ho)).hp p.idx=p.cells.ho/\setL (s.upd (.app b ho)).fr p.slot (.ptr p.idx 0)=(s.upd (.app b ho)).fr:=fun p hp=>by
               refine⟨?_,?_⟩
               . show getH (setH (Yax b s.hp) b ho) p.idx=_
                 rw[YI _ _ _ _ (fun e=>hne p hp e.symm),YdB,(hPd p hp).1,YlB (hcl p hp)]
               . show setL (Yj b s.fr) p.slot (.ptr p.idx 0)=Yj b s.fr
                 have e:=congrArg (Yj b) (hPd p hp).2
                 rw[YdG,YdH (YzH (hne p hp))]at e
                 exact e
             refine⟨?_,Yaw hs2 hPd'⟩
             rw[YcS hs2,<-h4]
             have:er Pd (s.upd (.app b ho))=(er Pd s).upd (.app b ho):=YzY hne
             rw[this];exact hrel
         |false=>
           cases hst:v.op.isStore with
           |true=>
             obtain⟨k,ho,hu,hk⟩:=YkS hst he
             have hne:=(Yey hH hx hk).1
             rw[hu]at hrel⊢
             have hPd':∀p∈Pd,getH (s.upd (.set k ho)).hp p.idx=p.cells.ho/\setL (s.upd (.set k ho)).fr p.slot (.ptr p.idx 0)=(s.upd (.set k ho)).fr:=fun p hp=>
               ⟨by rw[<-(hPd p hp).1];exact YI _ _ _ _ (fun e=>hne p hp e.symm),(hPd p hp).2⟩
             refine⟨?_,Yaw hs2 hPd'⟩
             rw[YcS hs2,<-h4]
             have:er Pd (s.upd (.set k ho))=(er Pd s).upd (.set k ho):=by
               simp only[er,S.upd];rw[Yd4 hne]
             rw[this];exact hrel
           |false=>
             obtain⟨ho,hu⟩:=Yrc hq hst ha hbad he
             rw[hu]at hrel⊢
             have hlt:=Ye9 hPd
             have hPd':∀p∈Pd,getH (s.upd (.new ho)).hp p.idx=p.cells.ho/\setL (s.upd (.new ho)).fr p.slot (.ptr p.idx 0)=(s.upd (.new ho)).fr:=fun p hp=>
               ⟨by rw[<-(hPd p hp).1];exact YW _ _ _ (hlt p hp),(hPd p hp).2⟩
             refine⟨?_,Yaw hs2 hPd'⟩
             rw[YcS hs2,<-h4]
             have:er Pd (s.upd (.new ho))=(er Pd s).upd (.new ho):=by
               simp only[er,S.upd];rw[YcW hlt]
             rw[this];exact hrel
     |some fy=>
       obtain⟨f,ys⟩:=fy
       rw[hc]at h
       simp only[ctW]at h
       cases hct:E.ct f with
       |none=>rw[hct]at h;exact h.elim
       |some c=>
         rw[hct]at h
         obtain⟨hok,hen⟩:=hE.ct f c hct
         obtain⟨vs,hys,hrun⟩:=YeX hE.meth h1 (h3 (YiE hc)) hc hx (fun _=>rfl) hen
         refine YbN hi (by simp [Region.wanted,hg]) (YaR (Y1 h1) hrun ?_)
         obtain⟨z,hzw,hzI,hargs2,hal,hzF⟩:=Ych c.alias (hpV hH) hB 3 hys h.1
         subst hzw
         refine(hok _ vs z _ ⟨fun b K hb=>(hH.reg b K (by rw[hzI]at hb;exact hb)).2,YeO (YaA (hJ:=hJ) hS hb hH) rfl hzF⟩ hargs2 h.2).mono ?_
         rintro e w' ⟨r,hs,val,bs2,J2,hJ2,hA,rfl,k1,k2,k3,k4⟩
         obtain⟨hJ3,hcr⟩:=Yds (w0:=c0) (J1:=J) (hJ1:=hJ) (hJ:=hJ2) hzI hf hsv hH hb hoth v.dst k1 k2 k3 k4 hal
         have hcr:=hcr _ fun _ h=>h
         have hlt:=Ye9 hPd
         have hPd':∀p∈Pd,getH ({ fr:=s.fr,saved:=s.saved,hp:=s.hp++YO (lenH s.hp) hs}:S).hp p.idx=p.cells.ho/\setL ({ fr:=s.fr,saved:=s.saved,hp:=s.hp++YO (lenH s.hp) hs}:S).fr p.slot (.ptr p.idx 0)=({ fr:=s.fr,saved:=s.saved,hp:=s.hp++YO (lenH s.hp) hs}:S).fr:=fun p hp=>
           ⟨by rw[<-(hPd p hp).1];exact YfP _ _ _ (by rw[(hPd p hp).1];exact AL.ho_ne _),(hPd p hp).2⟩
         refine⟨_,hA,J2,hJ3,?_,Yaw hs2 hPd'⟩
         rw[YcS hs2,<-h4]
         have:er Pd { fr:=s.fr,saved:=s.saved,hp:=s.hp++YO (lenH s.hp) hs}= { fr:=(er Pd s).fr,saved:=(er Pd s).saved,hp:=(er Pd s).hp++YO (lenH (er Pd s).hp) hs}:=by
           rw[hlen];simp only[er];rw[Ycn hlt]
         rw[this]
         rw[hlen]at hcr⊢
         exact hcr
   . rw[hvg]at h
     simp only at h
     unfold Ygt at h
     cases hgb:Y8 (getL s.fr g) pol with
     |none=>rw[hgb]at h;exact h.elim
     |some gb=>
       rw[hgb]at h
       simp only[ctGW]at h
       have hw:=YiB (w:=w) hf hg hsl (by rw[hgs g pol hvg];exact hgb)
       cases hct:ctOf E v.op (YL v.op gb (s.args v.xs)).2 with
       |none=>rw[hct]at h;exact h.elim
       |some c=>
         rw[hct]at h
         obtain⟨c,ys⟩:=c
         obtain⟨hp1,hno,r,hA,hcs⟩:=h
         cases gb with
         |false=>
           refine Ysf hi hw ⟨_,hA,J,hJ,?_,Yaw hs2 hPd⟩
           rw[YcS hs2,<-h4]
           exact Yde hRl v.dst fun _ _ _=> .optF _
         |true=>
           obtain⟨f,hcl,hct',hic⟩:=YmV hct
           obtain⟨hok,hen⟩:=hE.ct f c hct'
           obtain⟨vs,hys,hrn⟩:=YeX hE.meth h1 (h3 hic) hcl (Ycd rfl hx hp1) (fun _=>rfl) hen
           refine YbN hi hw (YaR (Y1 h1) hrn ?_)
           obtain⟨z,hzw,hzI,hargs2,hal,hzF⟩:=Ych c.alias (hpV hH) hB 3 hys hno
           subst hzw
           refine(hok _ vs z _ ⟨fun b K hb=>(hH.reg b K (by rw[hzI]at hb;exact hb)).2,YeO (YaA (hJ:=hJ) hS hb hH) rfl hzF⟩ hargs2 (hcs rfl)).mono ?_
           rintro e w' ⟨r',hs,val,bs2,J2,hJ2,⟨rfl,rfl⟩,rfl,k1,k2,k3,k4⟩
           obtain⟨hJ3,hcr⟩:=Yds (w0:=c0) (J1:=J) (hJ1:=hJ) (hJ:=hJ2) hzI hf hsv hH hb hoth v.dst k1 k2 k3 k4 hal
           have hcr:=hcr (.opt true (shift (lenH (er Pd s).hp) r')) fun _ h=> .optT _ _ h
           have e0:({ fr:=(er Pd s).fr,saved:=(er Pd s).saved,hp:=(er Pd s).hp++YO (lenH (er Pd s).hp) []}:S)=er Pd s:=by simp [YO]
           rw[e0]at hcr
           refine⟨_,hA,J2,hJ3,?_,Yaw hs2 hPd⟩
           rw[YcS hs2,<-h4,<-hlen]
           exact hcr
end
end Go.Vx
namespace Go.Vx
open Go.RowKit
section
variable {P:Program} {E:Env} {w:World} {w0:Cx} {rd:Option Nat} {Pd:List Pend} {A:S->Prop} {s:S} {bs:List BK} {B:Bd} {hp hp':List HO}
theorem YbF{cs:Array Value}{T:TypeId}{cap n i:Nat}:Keeps w bs (World.push w (.cells cs T (0,0))) (bs.set i (.blk w.heap.size cap n)):=by
 intro b hf o ho
 refine⟨YfU ho,fun j b' c m h=>?_⟩
 have hb:b<w.heap.size:=(YDl.1 ho).1
 rw[List.getElem?_set]at h
 split at h
 . split at h
   . cases h;omega
   . cases h
 . exact hf j b' c m h
theorem YkN{i:Nat}{x:BK}{e:Option Nat}(hg:bs[i]? =some .gone\/bs[i]? =none):Stays e bs (bs.set i x):=by
 intro j y _ h hy
 rw[List.getElem?_set]
 split
 . rename_i hij
   subst hij
   rcases hg with hg|hg
   . rw[hg]at h;cases h;exact absurd rfl hy
   . rw[hg]at h;cases h
 . exact h
theorem Yv3(hH:Hp w bs B hp)(hB:B<=w.heap.size){cs:Array Value}{T:TypeId}{i:Nat}{c0 m0:Nat}(hi:i<lenH hp)(hg:getH hp i= .gone)(hl:lenH hp'=lenH hp)(hne:∀j,j≠i->getH hp' j=getH hp j)
   (h:HRep (World.push w (.cells cs T (0,0))) (bs.set i (.blk w.heap.size c0 m0)) B i (getH hp' i)):
   Hp (World.push w (.cells cs T (0,0))) (bs.set i (.blk w.heap.size c0 m0)) B hp':=by
 have hlt:∀(i b c m:Nat),bs[i]? =some (.blk b c m)->b<w.heap.size:=fun i b c m h=>(hH.lo i b c m h).2
 have hgo:bs[i]? =some .gone\/bs[i]? =none:=by have:=hH.ent i;rw[hg]at this;exact this
 have hib:i<bs.length:=by rw[hH.len];exact hi
 refine⟨by simp [hH.len,hl],fun j=>?_,fun j k b c m c' m' h1 h2=>?_,fun j b c m h1=>?_,Yay YbF hH.reg⟩
 . by_cases hij:j=i
   . subst hij;exact h
   . rw[hne j hij]
     refine(hH.ent j).keep YbF (YkN hgo) ?_ ?_
     . rw[List.getElem?_set,if_neg (Ne.symm hij)]
     . intro b c m hb
       have:=hlt j b c m hb
       simp only[World.push,Array.getElem?_push]
       rw[if_neg (by omega)]
 . rw[List.getElem?_set]at h1 h2
   split at h1 <;> split at h2
   . omega
   . first| (rw[if_pos hib]at h1;cases h1) |cases h1
     have:=hlt k _ _ _ h2;omega
   . first| (rw[if_pos hib]at h2;cases h2) |cases h2
     have:=hlt j _ _ _ h1;omega
   . exact hH.inj j k b c m c' m' h1 h2
 . have hs:(World.push w (.cells cs T (0,0))).heap.size=w.heap.size+1:=by simp [World.push]
   rw[List.getElem?_set]at h1
   split at h1
   . first| (rw[if_pos hib]at h1;cases h1) |cases h1;omega
   . have:=hH.lo j b c m h1;omega
theorem YeP:∀(l:List SV)(n:Nat)(x y:SV),setL (setL l n x) n y=setL l n y
 | [],_,_,_=>rfl
 |_::_,0,_,_=>rfl
 |a::l,n+1,x,y=>congrArg (a::·) (YeP l n x y)
def AL.is(P:Program)(elem:TypeId):AL->Prop
 | .box z=>Yac P elem=some z
 | .arr n size z=>Yac P elem=some z/\lenL z=n*size
def AL.z:AL->List SV
 | .box z=>z
 | .arr _ _ z=>z
def AL.n:AL->Nat
 | .box _=>0
 | .arr n _ _=>n
theorem AL.is_z{elem:TypeId}:∀{x:AL},x.is P elem->Yac P elem=some x.z
 | .box _,h=>h
 | .arr _ _ _,h=>h.1
theorem Yn0{p:Pend}{o:Oper}{elem:TypeId}{i:Nat}{all:Array Oper}(hi:all[i]? =some o)(hop:o.op= .alloc elem)(hgd:o.guard=none)(hz:p.cells.is P elem)(hdst:o.dst=some p.slot)
   (hidx:∀q∈Pd,q.idx≠p.idx)(hslot:∀q∈Pd,q.slot≠p.slot){κ:Kont}{a:Act}{sv:List Act}{K:Act->World->Prop}
   (hR:PR w0 (p::Pd) s a sv w)(h:∀a' w',PR w0 Pd s a' sv w'->K a' w'):wpOpIn (Wd rd) 0 P all κ i K a w:=by
 obtain⟨⟨bs,hf,hsv,hH,hb,hoth⟩,hPd⟩:=hR
 have hB:w0.heap.size<=w.heap.size:=hb.size
 obtain⟨v,hv,hr⟩:=Y0 (P:=P) (w:=w) (bs:=bs) (B:=w0.bd) (AL.is_z hz)
 obtain⟨hp1,hp2⟩:=hPd p YDd
 have hlt:p.idx<lenH s.hp:=Ye9 hPd p YDd
 have hg:getH (Yt s.hp (p::Pd)) p.idx= .gone:=YcU YDd
 have hgo:bs[p.idx]? =some .gone\/bs[p.idx]? =none:=by have:=hH.ent p.idx;simp only[er]at this;rw[hg]at this;exact this
 have hlen:bs.length=lenH s.hp:=by rw[hH.len];exact YaY _
 have hget:(bs.set p.idx (BK.blk w.heap.size p.cells.n p.cells.n))[p.idx]? =some (.blk w.heap.size p.cells.n p.cells.n):=by
   rw[List.getElem?_set,if_pos rfl,if_pos (by omega)]
 have hst:∀e,Stays e bs (bs.set p.idx (.blk w.heap.size p.cells.n p.cells.n)):=fun e=>YkN hgo
 have hrun:(execOp a.eval o).run P w= .ok (.value (.pointer (some ⟨w.heap.size,0,none⟩))) (World.push w (.cells v.cells elem (0,0))):=by
   obtain⟨dst,op,type,pos,after,guard⟩:=o
   simp only at hop
   subst hop
   simp [execOp,Instr.alloc,hv,newVar,newRow,World.push]
 refine YbN hi (by simp [Region.wanted,hgd]) (Ya4 (by rw[hop];intro c h;cases h) hrun (.inl rfl) (h _ _ ⟨⟨bs.set p.idx (.blk w.heap.size p.cells.n p.cells.n),?_,?_,?_,?_,by rw[YDk,YbD];exact hoth.keep YbF⟩,fun q hq=>hPd q (YDa _ hq)⟩))
 . have hfr:(er Pd s).fr=(S.put (er (p::Pd) s) (some p.slot) (.ptr p.idx 0)).fr:=by
     simp only[er,S.put,YE,YeP]
     rw[<-Ybf hslot,hp2]
   rw[hfr,hdst]
   exact YgM (hf.keep YbF (hst none) Yg) (.ptr _ _ _ _ hget)
 . exact RepLL.keep YbF (hst none) hsv
 . refine Yv3 hH hB (by simp only[er];rw[YaY];exact hlt) hg (by simp only[er];rw[YaY,YaY]) (fun j hj=>?_) ?_
   . simp only[er,Yt]
     rw[YI _ _ _ _ (Ne.symm hj)]
   . simp only[er]
     rw[YcV hidx,hp1]
     revert hget hst hz hr
     cases p.cells with
     |box z=>exact fun hz hr hget hst=>⟨_,_,_,hget,YaT,hr.keep YbF (hst none) Yg⟩
     |arr n size z=>
       intro hz hr hget hst
       refine .inr ⟨_,n,_,_,hget,rfl,YaT,?_,YC5 _,fun k _=>YfK (hr.keep YbF (hst none) Yg) size k⟩
       show _=n*size
       have hl:=hz.2
       have hl2:=hr.length
       simp only[AL.z]at hl2
       rw[<-hl,hl2];simp
 . exact hb.trans (.of (YV (B:=w0.bd) _ hB))
end
end Go.Vx
namespace Go.Vx
open Go.RowKit
section
variable {P:Program} {E:Env} {w:World} {w0:Cx} {rd:Option Nat} {Pd Pd':List Pend} {A:S->Prop} {s:S} {bs:List BK} {B:Bd} {hp hp':List HO}
theorem Yb2:Keeps w bs w (bs++[.gone]):=by
 intro b hf o ho
 refine⟨ho,fun i b' c m h=>?_⟩
 rw[YDM]at h
 split at h
 . exact hf i b' c m h
 . rw[List.getElem?_singleton]at h;split at h <;> cases h
theorem Ywd(hH:Hp w bs B hp):Hp w (bs++[.gone]) B (Ybl hp .gone):=by
 have hst:∀e,Stays e bs (bs++[.gone]):=fun e=>Ym _ _
 have hget:∀(i b c m:Nat),(bs++[BK.gone])[i]? =some (.blk b c m)->bs[i]? =some (.blk b c m):=by
   intro i b c m h
   rw[YDM]at h
   split at h
   . exact h
   . rw[List.getElem?_singleton]at h;split at h <;> cases h
 refine⟨by simp [hH.len,YaZ],fun i=>?_,fun i j b c m c' m' h1 h2=>hH.inj i j b c m c' m' (hget _ _ _ _ h1) (hget _ _ _ _ h2),fun i b c m h1=>hH.lo i b c m (hget _ _ _ _ h1),Yay Yb2 hH.reg⟩
 rcases Nat.lt_trichotomy i (lenH hp)with hi|hi|hi
 . rw[YW _ _ _ hi]
   exact(hH.ent i).keep Yb2 (hst _) (by rw[List.getElem?_append_left (by rw[hH.len];exact hi)]) (fun _ _ _ _=>rfl)
 . subst hi;rw[YaX];exact .inl (YZ hH)
 . rw[Ya6 _ _ (by rw[YaZ];omega)]
   right
   rw[List.getElem?_eq_none];simp [hH.len];omega
theorem RepL.junkAt:∀{l:List SV}{vs:List Value}(_:RepL w bs B l vs)(n:Nat),RepL w bs B (setL l n .junk) vs
 |_,_,.nil,n=>by cases n <;> exact .nil
 |_,_,.cons _ _ _ _ _ h',0=> .cons _ _ _ _ (.x _ _ (.junk _)) h'
 |_,_,.cons _ _ _ _ h h',n+1=> .cons _ _ _ _ h (RepL.junkAt h' n)
theorem Yfu:∀(l:List HO)(x y:HO),setH (Ybl l x) (lenH l) y=Ybl l y
 | [],_,_=>rfl
 |a::l,x,y=>congrArg (a::·) (Yfu l x y)
theorem YtK{a:Act}{sv:List Act}(hR:PR w0 Pd s a sv w){d:Nat}{z:AL}(hd:∀q∈Pd,q.slot≠d):
   PR w0 (⟨lenH s.hp,d,z⟩::Pd) ((s.upd (.new z.ho)).put (some d) (.ptr (lenH s.hp) 0)) a sv w:=by
 obtain⟨⟨bs,hf,hsv,hH,hb,hoth⟩,hPd⟩:=hR
 have hlt:=Ye9 hPd
 refine⟨⟨bs++[.gone],?_,?_,?_,hb,hoth.keep Yb2⟩,fun p hp=>?_⟩
 . have e:(er (⟨lenH s.hp,d,z⟩::Pd) ((s.upd (.new z.ho)).put (some d) (.ptr (lenH s.hp) 0))).fr=setL (er Pd s).fr d .junk:=by
     show setL (YE (setL s.fr d (.ptr (lenH s.hp) 0)) Pd) d .junk=setL (YE s.fr Pd) d .junk
     rw[Ybf hd,YeP]
   rw[e]
   exact(hf.junkAt d).keep Yb2 (Ym _ none) Yg
 . exact RepLL.keep Yb2 (Ym _ none) hsv
 . have e:(er (⟨lenH s.hp,d,z⟩::Pd) ((s.upd (.new z.ho)).put (some d) (.ptr (lenH s.hp) 0))).hp=Ybl (er Pd s).hp .gone:=by
     show setH (Yt (Ybl s.hp z.ho) Pd) (lenH s.hp) .gone=Ybl (Yt s.hp Pd) .gone
     rw[YcW hlt]
     have:=Yfu (Yt s.hp Pd) z.ho .gone
     rw[YaY]at this
     exact this
   rw[e]
   exact Ywd hH
 . rcases YDx.1 hp with rfl|hp
   . exact⟨YaX _ _,YeP _ _ _ _⟩
   . refine⟨?_,?_⟩
     . show getH (Ybl s.hp z.ho) p.idx=_
       rw[YW _ _ _ (hlt p hp)];exact(hPd p hp).1
     . show setL (setL s.fr d _) p.slot _=setL s.fr d _
       rw[Yb8 _ _ _ _ _ (fun e=>hd p hp e.symm),(hPd p hp).2]
def YtL:Nat->List (Nat×AL)->List Pend->List Pend
 |_,[],Pd=>Pd
 |n,(d,z)::l,Pd=>YtL (n+1) l (⟨n,d,z⟩::Pd)
def Yes:List (Nat×AL)->List Nat->Bool
 | [],_=>true
 | (d,_)::l,ds=>!ds.contains d&&Yes l (d::ds)
theorem Ynu{a:Act}{sv:List Act}:∀(al:List (Nat×AL))(Pd:List Pend)(s:S),Yes al (Pd.map (·.slot))=true->PR w0 Pd s a sv w->PR w0 (YtL (lenH s.hp) al Pd) (Yg9 s al) a sv w
 | [],_,_,_,h=>h
 | (d,z)::l,Pd,s,hdis,h=>by
   simp only[Yes,YC2,Bool.not_eq_true']at hdis
   have hd:∀q∈Pd,q.slot≠d:=by
     intro q hq he
     have:(Pd.map (·.slot)).contains d=true:=by
       rw[List.contains_iff_mem,YDW];exact⟨q,hq,he⟩
     rw[hdis.1]at this;cases this
   have:=Ynu l (⟨lenH s.hp,d,z⟩::Pd) _ (by simpa using hdis.2) (YtK h (z:=z) hd)
   have hl:lenH ((s.upd (.new z.ho)).put (some d) (.ptr (lenH s.hp) 0)).hp=lenH s.hp+1:=YaZ _ _
   rw[hl]at this
   exact this
theorem YuW{a:Act}{sv:List Act}(h:Rl w0 s a sv w):PR w0 [] s a sv w:=⟨h,fun _ hp=>by cases hp⟩
theorem Yv0(p q:Pend)(l:List Pend):er (p::q::l) s=er (q::p::l) s:=by
 have h1:∀(fr:List SV),setL (setL fr q.slot .junk) p.slot .junk=setL (setL fr p.slot .junk) q.slot .junk:=fun fr=>by
   by_cases h:q.slot=p.slot
   . rw[h]
   . exact Yb8 _ _ _ _ _ h
 have h2:∀(hp:List HO),setH (setH hp q.idx .gone) p.idx .gone=setH (setH hp p.idx .gone) q.idx .gone:=fun hp=>by
   by_cases h:q.idx=p.idx
   . rw[h]
   . exact YgR _ _ _ _ _ h
 simp only[er,YE,Yt,h1,h2]
theorem YvY(p:Pend){l l':List Pend}(h:er l s=er l' s):er (p::l) s=er (p::l') s:=by
 simp only[er,S.mk.injEq,true_and]at h
 simp only[er,YE,Yt,h.1,h.2]
theorem YvZ(h:Pd.Perm Pd'):er Pd s=er Pd' s:=by
 induction h with
 |nil=>rfl
 |cons p _ ih=>exact YvY p ih
 |swap p q l=>exact Yv0 q p l
 |trans _ _ ih1 ih2=>exact ih1.trans ih2
theorem Yrr{a:Act}{sv:List Act}(h:Pd.Perm Pd')(hR:PR w0 Pd s a sv w):PR w0 Pd' s a sv w:=
 ⟨by rw[<-YvZ h];exact hR.1,fun p hp=>hR.2 p (h.mem_iff.2 hp)⟩
end
end Go.Vx
namespace Go.Vx
open Go.RowKit
def Y9(sil:List (Nat×Pend))(L:Array Bool):List Pend:=
 match sil with
 | []=>[]
 |x::r=>bif L.getD x.1 false then Y9 r L else x.2::Y9 r L
theorem mem_pendOf{p:Pend}{L:Array Bool}:∀{sil:List (Nat×Pend)},p∈Y9 sil L↔∃k,(k,p)∈sil/\L.getD k false=false
 | []=>by simp [Y9]
 |x::r=>by
   unfold Y9
   cases hl:L.getD x.1 false with
   |true=>
     simp only[cond_true]
     rw[mem_pendOf (sil:=r)]
     constructor
     . rintro⟨k,h1,h2⟩;exact⟨k,YDa _ h1,h2⟩
     . rintro⟨k,h1,h2⟩
       rcases YDx.1 h1 with rfl|h1
       . rw[hl]at h2;cases h2
       . exact⟨k,h1,h2⟩
   |false=>
     simp only[cond_false,YDx]
     rw[mem_pendOf (sil:=r)]
     constructor
     . rintro(rfl| ⟨k,h1,h2⟩)
       . exact⟨x.1,.inl rfl,hl⟩
       . exact⟨k,.inr h1,h2⟩
     . rintro⟨k,rfl|h1,h2⟩
       . exact .inl rfl
       . exact .inr ⟨k,h1,h2⟩
theorem Yea{L:Array Bool}{i:Nat}:∀{sil:List (Nat×Pend)},(∀p,(i,p)∉sil)->Y9 sil (L.setIfInBounds i true)=Y9 sil L
 | [],_=>rfl
 |x::r,h=>by
   unfold Y9
   have hx:i≠x.1:=by
     intro e
     exact h x.2 (by rw[e];exact YDd)
   rw[getD_set_ne false hx,Yea (sil:=r) fun p hp=>h p (YDa _ hp)]
theorem YgH{L:Array Bool}{i:Nat}{p:Pend}(hi:i<L.size)(hl:L.getD i false=false):∀{sil:List (Nat×Pend)},(sil.map (·.1)).Nodup->(i,p)∈sil->(Y9 sil L).Perm (p::Y9 sil (L.setIfInBounds i true))
 |x::r,hn,hm=>by
   rw[YDk,List.nodup_cons]at hn
   by_cases hx:x.1=i
   . have hp:x=(i,p):=by
       rcases YDx.1 hm with rfl|hm
       . rfl
       . exact absurd (YDW.2 ⟨_,hm,hx.symm⟩) hn.1
     subst hp
     have hr:∀q,(i,q)∉r:=fun q hq=>hn.1 (YDW.2 ⟨_,hq,rfl⟩)
     unfold Y9
     simp only[hl,cond_false]
     have:(L.setIfInBounds i true).getD i false=true:=by simp [hi]
     rw[this,Yea hr]
     exact List.Perm.refl _
   . have hm':(i,p)∈r:=by
       rcases YDx.1 hm with rfl|hm
       . exact absurd rfl hx
       . exact hm
     have ih:=YgH hi hl hn.2 hm'
     unfold Y9
     rw[getD_set_ne false (Ne.symm hx)]
     cases L.getD x.1 false with
     |true=>exact ih
     |false=>exact(List.Perm.cons _ ih).trans (List.Perm.swap _ _ _)
theorem YgG{n:Nat}:∀{sil:List (Nat×Pend)},Y9 sil (Array.replicate n false)=sil.map (·.2)
 | []=>rfl
 |x::r=>by
   unfold Y9
   have:(Array.replicate n false).getD x.1 false=false:=by
     rcases YDz x.1 n with h'|h'
     . simp [h']
     . simp [Array.getElem?_eq_none,h']
   rw[this,YgG (sil:=r)]
   rfl
theorem Yhf{md:Region.Mode}{ops:Array Oper}(hb:∀(i:Nat) (o:Oper),ops[i]? =some o->∀e∈o.after,Region.binds md e=true->e.on<i){L:Array Bool}(hd:Down md ops L)(hr:Region.ready md ops L=[]):
   ∀(N i:Nat),i<N->i<ops.size->L.getD i false=true
 |N+1,i,hi,hn=>by
   cases hl:L.getD i false with
   |true=>rfl
   |false=>
     have ho:ops[i]? =some ops[i]:=Array.getElem?_eq_getElem hn
     have hL:i<L.size:=by rw[hd.1];exact hn
     have:i∈Region.ready md ops L:=mem_ready.2 ⟨by simp [hL]at hl⊢;exact hl,_,ho,fun e he hbi=>by
       have:=hb i _ ho e he hbi
       exact Yhf hb hd hr N e.on (by omega) (by omega)⟩
     rw[hr]at this;cases this
section
variable {P:Program} {E:Env} {G:VOp->(S->Prop)->S->Prop} {w0:Cx} {rd:Option Nat} {all:Array Oper} {tab:List DT} {sil:List (Nat×Pend)} {clo:Nat->Nat->Bool} {md:Region.Mode}
structure Yvk (P:Program) (all:Array Oper) (tab:List DT) (sil:List (Nat×Pend)) (clo:Nat->Nat->Bool):Prop where
 nodup:(sil.map (·.1)).Nodup
 apart:∀x∈sil,∀y∈sil,x.1≠y.1->x.2.slot≠y.2.slot/\x.2.idx≠y.2.idx
 silent:∀(i d:Nat),tab[i]? =some (.silent d)->∃p o elem,(i,p)∈sil/\all[i]? =some o/\o.op= .alloc elem/\o.guard=none/\p.cells.is P elem/\o.dst=some p.slot
 op:∀(i:Nat)(v:VOp)(chk:List (Nat×X)),tab[i]? =some (.op v chk)->(∀p,(i,p)∉sil)/\(∃o,all[i]? =some o/\YfF P all o=some v)/\
   ∀x∈sil,(clo i x.1=true\/(x.2.slot∉v.reads/\(v.op.isAppend=true->x.2.cells.clean=true)))/\v.dst≠some x.2.slot
 loud:∀(i:Nat)(v:VOp),tab[i]? =some (.loud v)->sil=[]/\∃o,all[i]? =some o/\YfF P all o=some v
structure Yhd (P:Program) (G:VOp->(S->Prop)->S->Prop) (rd:Option Nat) (all:Array Oper) (κ:Kont) (c0:Cx0) (ks:List (Nat×Obj)) (sv:List Act):Prop where
 sat:SatG P c0
 mono:∀v (A B:S->Prop) s,(∀s,A s->B s)->G v A s->G v B s
 ok:∀{i:Nat}{o:Oper}{v:VOp}{A:S->Prop}{s:S},all[i]? =some o->YfF P all o=some v->G v A s->∀{J:Nat->Option IK}{hJ:Ext c0 J}{a:Act}{w:World},Rl ⟨c0.wI J hJ,ks⟩ s a sv w->
   wpOpIn (Wd rd) 0 P all κ i (fun a' w'=> ∃s',A s'/\∃J',∃hJ':Ext c0 J',Rl ⟨c0.wI J' hJ',ks⟩ s' a' sv w') a w
theorem hop(hE:Yr P E)(hc:Yvi md all clo)(hr:Yvk P all tab sil clo){c0:Cx0}{ks:List (Nat×Obj)}{κ:Kont}{sv:List Act}(hG:Yhd P G rd all κ c0 ks sv)(i:Nat)(L:Array Bool)(s:S)(A:S->Prop)(a:Act)(w:World)
   (hi:i∈Region.ready md all L)(h:YR E G tab i L A s)(hR:Down md all L/\∃J,∃hJ:Ext c0 J,PR ⟨c0.wI J hJ,ks⟩ (Y9 sil L) s a sv w):
   wpOpIn (Wd rd) 0 P all κ i (fun a' w'=> ∃s',A s'/\(Down md all (L.setIfInBounds i true)/\∃J,∃hJ:Ext c0 J,PR ⟨c0.wI J hJ,ks⟩ (Y9 sil (L.setIfInBounds i true)) s' a' sv w')) a w:=by
 obtain⟨hd,J,hJ,hR⟩:=hR
 have hd':=hd.set hi
 unfold YR at h
 cases ht:tab[i]? with
 |none=>rw[ht]at h;exact h.elim
 |some t=>
   rw[ht]at h
   cases t with
   |silent d=>
     obtain⟨p,o,elem,hm,ho,hop,hg,hz,hdst⟩:=hr.silent i d ht
     have hsz:i<L.size:=by rw[hd.1];exact(YDl.1 ho).1
     have hR':=Yrr (YgH hsz (Ydf hi) hr.nodup hm) hR
     have hap:∀q∈Y9 sil (L.setIfInBounds i true),q.slot≠p.slot/\q.idx≠p.idx:=by
       intro q hq
       obtain⟨k,hk,hkl⟩:=mem_pendOf.1 hq
       refine hr.apart (k,q) hk (i,p) hm ?_
       rintro(rfl:k=i)
       simp [hsz]at hkl
     exact Yn0 ho hop hg hz hdst (fun q hq=>(hap q hq).2) (fun q hq=>(hap q hq).1) hR' fun a' w' h'=>⟨s,h,hd',J,hJ,h'⟩
   |op v chk=>
     obtain⟨hns,⟨o,ho,hv⟩,hst⟩:=hr.op i v chk ht
     have hpend:∀p∈Y9 sil L,(p.slot∉v.reads/\(v.op.isAppend=true->p.cells.clean=true))/\v.dst≠some p.slot:=by
       intro p hp
       obtain⟨k,hk,hkl⟩:=mem_pendOf.1 hp
       obtain⟨h1,h2⟩:=hst (k,p) hk
       refine⟨h1.resolve_left fun hck=>?_,h2⟩
       have:=hc.ready L i k hd hi hck
       rw[hkl]at this;cases this
     refine wpOpIn_mono (fun a' w' ⟨s',h1,J',hJ',h2⟩=>⟨s',h1,hd',J',hJ',by rw[Yea hns];exact h2⟩) (YjZ hE hG.sat ho hv (fun p hp=>(hpend p hp).1.1) (fun p hp=>(hpend p hp).2) (fun ha p hp=>(hpend p hp).1.2 ha) h.2 hR)
   |loud v=>
     obtain⟨hsil,o,ho,hv⟩:=hr.loud i v ht
     have hpe:∀L,Y9 sil L=[]:=fun L=>by rw[hsil];rfl
     rw[hpe]at hR
     simp only[hpe]
     rcases h with h|h
     . exact wpOpIn_mono (fun a' w' ⟨s',h1,J',hJ',h2⟩=>⟨s',h1,hd',J',hJ',h2⟩) (YjZ hE hG.sat ho hv (fun p hp=>(by cases hp)) (fun p hp=>(by cases hp)) (fun ha p hp=>(by cases hp)) h hR)
     . exact wpOpIn_mono (fun a' w' ⟨s',h1,J',hJ',h2⟩=>⟨s',h1,hd',J',hJ',YuW h2⟩) (hG.ok ho hv h hR.1)
theorem YkJ(hE:Yr P E)(hm:P.follows .mixedOrders=true){cl:List Nat}(hl:cl.length=all.size)(hcl:Yfi (Yu .any all) cl all.size=true)(hr:Yvk P all tab sil (Yam cl)){free:Nat->Bool}
   (hfree:∀i,free i=true->(∃d,tab[i]? =some (.silent d))\/∃v,tab[i]? =some (.op v [])/\v.op.quiet=true/\∀(j:Nat) (t:DT),tab[j]? =some t->YpZ (Yam cl) i v j t=true)
   {K:S->Prop}{κ:Kont}{s:S}{a:Act}{sv:List Act}{w:World}{id:Nat}
   (h:(∀(j:Nat) (L:Array Bool) (s:S) (A B:S->Prop),(∀s,A s->B s)->YR E G tab j L A s->YR E G tab j L B s)->(∀i L s,free i=true->¬YR E G tab i L (fun _=>False) s)->
     (∀(i:Nat),free i=true->∀(j:Nat) (L:Array Bool) (s:S) (A:S->Prop),Down .any all L->i∈Region.ready .any all L->j∈Region.ready .any all L->j≠i->YR E G tab i L (YR E G tab j (L.setIfInBounds i true) A) s->YR E G tab j L (YR E G tab i (L.setIfInBounds j true) A) s)->
     anyS (YR E G tab) K .any all all.size (Array.replicate all.size false) s){c0:Cx0}{ks:List (Nat×Obj)}{J:Nat->Option IK}{hJ:Ext c0 J}(hG:Yhd P G rd all κ c0 ks sv)(hR:PR ⟨c0.wI J hJ,ks⟩ (sil.map (·.2)) s a sv { w with drawn:=w.drawn+1}) (hK:∀s a w J (hJ:Ext c0 J),K s->Rl ⟨c0.wI J hJ,ks⟩ s a sv w->κ .normal a w) (hall:∀x∈sil,x.1<all.size) (hbel:∀(i:Nat)(o:Oper),all[i]? =some o->∀e∈o.after,Region.binds .any e=true->e.on<i):(Code.region id all true).wpIn (Wd rd) 0 P κ a w:=by
 have hc:=YzP hl hcl
 refine wpIn_region_any hm ?_
 have hany:=h (YhS hG.mono) ?_ ?_
 . refine Yn1 (step:=YR E G tab) (K:=K) (P:=P) (Q:=κ) (fun L s a w=>Down .any all L/\∃J,∃hJ:Ext c0 J,PR ⟨c0.wI J hJ,ks⟩ (Y9 sil L) s a sv w) (fun i L s A a w hi hs hR=>hop hE hc hr hG i L s A a w hi hs hR) ?_ _ _ s a _ hany ⟨Ygk,J,hJ,?_⟩
   . rintro L s a w hr0 hKs ⟨hd,J,hJ,hPR⟩
     have:Y9 sil L=[]:=by
       cases hp:Y9 sil L with
       |nil=>rfl
       |cons p r=>
         obtain⟨k,hk,hkl⟩:=mem_pendOf.1 (show p∈Y9 sil L by rw[hp];exact YDd)
         have:=Yhf hbel hd hr0 (k+1) k (by omega) (hall _ hk)
         rw[hkl]at this;cases this
     rw[this]at hPR
     exact hK s a w J hJ hKs hPR.1
   . rw[YgG];exact hR
 . intro i L s hf hstep
   rcases hfree i hf with⟨d,ht⟩ | ⟨v,ht,hq,_⟩
   . unfold YR at hstep;rw[ht]at hstep;exact hstep
   . unfold YR at hstep;rw[ht]at hstep;exact Ygi hq hstep.2
 . intro i hf j L s A hd hri hrj hji hs
   rcases hfree i hf with⟨d,ht⟩ | ⟨v,ht,hq,hcm⟩
   . have hsi:∀(L:Array Bool)(A:S->Prop)(s:S),YR E G tab i L A s=A s:=by
       intro L A s;unfold YR;rw[ht]
     rw[hsi]at hs
     refine YhS hG.mono j L s _ _ (fun s' hs'=>by rw[hsi];exact hs') ?_
     unfold YR at hs⊢
     cases htj:tab[j]? with
     |none=>rw[htj]at hs;exact hs
     |some t=>
       rw[htj]at hs
       cases t with
       |silent d=>exact hs
       |op u chk=>exact⟨fun c hcm hcl=>hs.1 c hcm (getD_set_true hcl),hs.2⟩
       |loud u=>exact hs
   . exact Yov hc ht hq hcm j L s A hd hri hrj hji hs
theorem YtU{s:S}{a:Act}{sv:List Act}{w:World}(h:Rl w0 s a sv w)(n:Nat):Rl w0 s a sv { w with drawn:=n}:=by
 obtain⟨bs,hf,hsv,hH,hb,hoth⟩:=h
 have hk:Keeps w bs { w with drawn:=n} bs:=fun b hf o ho=>⟨ho,hf⟩
 have hst:Stays none bs bs:=fun _ _ _ h _=>h
 exact⟨bs,hf.keep hk hst Yg,hsv.keep hk hst,⟨hH.len,fun i=>(hH.ent i).keep hk hst rfl (fun _ _ _ _=>rfl),hH.inj,hH.lo,Yay hk hH.reg⟩,⟨hb.os,hb.tape,hb.output,hb.size,hb.block⟩,hoth.keep hk⟩
end
end Go.Vx
namespace Go.Vx
open Go.RowKit
def Yd0(lf:FuncId->Bool)(clo:Nat->Nat->Bool)(all:List VOp)(v:VOp)(j:Nat):DT:=
 match YS v with
 |some (d,_)=> .silent d
 |none=>bif Ygw lf v then .loud v else .op v (bif v.op.isStore then YsX clo j all 0 else bif v.op.isAppend then YsM clo j all 0 else [])
theorem Ycb{lf:FuncId->Bool}{clo:Nat->Nat->Bool}{all:List VOp}:∀(l:List VOp)(j i:Nat),(Ya8 lf clo all l j)[i]? =(l[i]?).map fun v=>Yd0 lf clo all v (j+i)
 | [],_,_=>by simp [Ya8]
 |v::l,j,0=>by
   simp only[Ya8,List.getElem?_cons_zero,Option.map_some,Nat.add_zero,Yd0]
   cases YS v <;> rfl
 |v::l,j,i+1=>by
   simp only[Ya8,List.getElem?_cons_succ]
   rw[Ycb l (j+1) i]
   congr 1
   funext v
   rw[show j+1+i=j+(i+1)by omega]
theorem mem_silOf{k d:Nat}{z:AL}:∀{l:List VOp}{j:Nat},(k,d,z)∈YcK l j↔∃i v,l[i]? =some v/\k=j+i/\YS v=some (d,z)
 | [],j=>by simp [YcK]
 |v::l,j=>by
   have ih:=mem_silOf (k:=k) (d:=d) (z:=z) (l:=l) (j:=j+1)
   unfold YcK
   cases hs:YS v with
   |none=>
     simp only
     rw[ih]
     constructor
     . rintro⟨i,u,h1,h2,h3⟩;exact⟨i+1,u,by simpa using h1,by omega,h3⟩
     . rintro⟨i,u,h1,h2,h3⟩
       cases i with
       |zero=>simp only[List.getElem?_cons_zero,Option.some.injEq]at h1;subst h1;rw[hs]at h3;cases h3
       |succ i=>exact⟨i,u,by simpa using h1,by omega,h3⟩
   |some r=>
     obtain⟨d',z'⟩:=r
     simp only[YDx]
     rw[ih]
     constructor
     . rintro(h| ⟨i,u,h1,h2,h3⟩)
       . cases h;exact⟨0,v,rfl,rfl,hs⟩
       . exact⟨i+1,u,by simpa using h1,by omega,h3⟩
     . rintro⟨i,u,h1,h2,h3⟩
       cases i with
       |zero=>simp only[List.getElem?_cons_zero,Option.some.injEq]at h1;subst h1;rw[hs]at h3;cases h3;left;rw[h2];rfl
       |succ i=>exact .inr ⟨i,u,by simpa using h1,by omega,h3⟩
theorem YhU{P:Program}{all:Array Oper}:∀{rest:List Oper}{vs:List VOp},YaC P all rest=some vs->∀(i:Nat)(v:VOp),vs[i]? =some v->∃o,rest[i]? =some o/\YfF P all o=some v
 | [],vs,h,i,v,hv=>by simp only[YaC,Option.some.injEq]at h;subst h;simp at hv
 |o::l,vs,h,i,v,hv=>by
   simp only[YaC]at h
   obtain⟨x,hx,h⟩:=YCV.1 h
   obtain⟨y,hy,rfl⟩:=YCY.1 h
   cases i with
   |zero=>simp only[List.getElem?_cons_zero,Option.some.injEq]at hv;subst hv;exact⟨o,rfl,hx⟩
   |succ i=>exact YhU hy i v (by simpa using hv)
theorem Yhv{clo:Nat->Nat->Bool}{i:Nat}{v:VOp}:∀{l:List DT}{j:Nat},Ygh clo i v l j=true->∀(k:Nat)(t:DT),l[k]? =some t->YpZ clo i v (j+k) t=true
 |t::l,j,h,0,u,hu=>by
   simp only[Ygh,YC2]at h
   simp only[List.getElem?_cons_zero,Option.some.injEq]at hu;subst hu;exact h.1
 |t::l,j,h,k+1,u,hu=>by
   simp only[Ygh,YC2]at h
   have:=Yhv h.2 k u (by simpa using hu)
   rw[show j+1+k=j+(k+1)by omega]at this
   exact this
end Go.Vx
namespace Go.Vx
open Go.RowKit
theorem YqN:∀l:List SV,lenE l=lenL l
 | []=>rfl
 |_::l=>congrArg (·+1) (YqN l)
def AL.op:AL->VO
 | .box z=> .alloc z
 | .arr n size z=> .allocArr n size z
def AL.ok:AL->Prop
 | .box _=>True
 | .arr n size z=>lenL z=n*size
theorem YkP{v:VOp}{d:Nat}{z:AL}(h:YS v=some (d,z)):v.dst=some d/\v.g=none/\v.op=z.op/\z.ok:=by
 unfold YS at h
 split at h
 . cases h;exact⟨rfl,rfl,rfl,trivial⟩
 . rename_i n size z' _
   cases hb:YDu (lenE z') (n*size)with
   |true=>rw[hb]at h;cases h;exact⟨rfl,rfl,rfl,(YqN z').symm.trans (YDe hb)⟩
   |false=>rw[hb]at h;cases h
 . cases h
theorem Yoy{P:Program}{o:Oper}{z:AL}{ops:List Operand}{elem:TypeId}(ho:o.op= .alloc elem)(h:vop P o=some (AL.op z,ops))(hk:AL.ok z):z.is P elem:=by
 obtain⟨dst,op,type,pos,after,guard⟩:=o
 simp only at ho
 subst ho
 unfold vop at h
 simp only at h
 split at h
 . obtain⟨_,hz,h⟩:=YCV.1 h
   obtain⟨_,_,h⟩:=YCY.1 h
   cases z <;> cases h
   exact⟨hz,hk⟩
 . obtain⟨_,hz,h⟩:=YCY.1 h
   cases z <;> cases h
   exact hz
theorem Yhg:∀{os:List Oper}{vs:List VOp},YdV os vs=true->∀(i:Nat)(o:Oper)(v:VOp),os[i]? =some o->vs[i]? =some v->(YS v).isSome=true->∃e,o.op= .alloc e
 | [],_,_,i,o,v,h,_,_=>by simp at h
 |_::_,[],_,i,o,v,_,h,_=>by simp at h
 |o'::os,v'::vs,h,0,o,v,h1,h2,h3=>by
   simp only[List.getElem?_cons_zero,Option.some.injEq]at h1 h2
   subst h1;subst h2
   simp only[YdV,YC2]at h
   have h:=h.1
   cases hs:YS v' with
   |none=>rw[hs]at h3;cases h3
   |some x=>
     rw[hs]at h
     simp only at h
     split at h
     . exact⟨_,‹_›⟩
     . cases h
 |o'::os,v'::vs,h,i+1,o,v,h1,h2,h3=>by
   simp only[YdV,YC2]at h
   exact Yhg h.2 i o v (by simpa using h1) (by simpa using h2) h3
def silP:Nat->List (Nat×Nat×AL)->List (Nat×Pend)
 |_,[]=>[]
 |n,(j,d,z)::l=>(j,⟨n,d,z⟩)::silP (n+1) l
theorem YeF{j:Nat}{p:Pend}:∀{l:List (Nat×Nat×AL)}{n:Nat},(j,p)∈silP n l->n<=p.idx/\(j,p.slot,p.cells)∈l
 | [],_,h=>by cases h
 | (j',d,z)::l,n,h=>by
   rcases YDx.1 h with h|h
   . cases h;exact⟨YC5 _,YDd⟩
   . have:=YeF h;exact⟨by omega,YDa _ this.2⟩
theorem YnR{j d:Nat}{z:AL}:∀{l:List (Nat×Nat×AL)}{n:Nat},(j,d,z)∈l->∃p,(j,p)∈silP n l/\p.slot=d/\p.cells=z
 | [],_,h=>by cases h
 | (j',d',z')::l,n,h=>by
   rcases YDx.1 h with h|h
   . cases h;exact⟨_,YDd,rfl,rfl⟩
   . obtain⟨p,h1,h2⟩:=YnR (n:=n+1) h
     exact⟨p,YDa _ h1,h2⟩
theorem YnQ:∀{l:List (Nat×Nat×AL)}{n:Nat},(silP n l).map (·.1)=l.map (·.1)
 | [],_=>rfl
 | (j,d,z)::l,n=>by simp only[silP,YDk,YnQ]
theorem Yt0{x:Nat×Nat×AL}{l:List VOp}{j:Nat}(h:x∈YcK l j):j<=x.1:=by
 obtain⟨k,d,z⟩:=x
 obtain⟨i,v,_,h2,_⟩:=mem_silOf.1 h
 simp only;omega
theorem Yed:∀{l:List VOp}{j:Nat},((YcK l j).map (·.1)).Nodup
 | [],_=> .nil
 |v::l,j=>by
   unfold YcK
   cases YS v with
   |none=>exact Yed
   |some r=>
     obtain⟨d,z⟩:=r
     simp only[YDk,List.nodup_cons]
     refine⟨fun h=>?_,Yed⟩
     obtain⟨x,hx,h⟩:=YDW.1 h
     have:=Yt0 hx;omega
theorem YcP:∀{l:List Nat},YbW l=true->l.Nodup
 | [],_=> .nil
 |d::l,h=>by
   simp only[YbW,YC2,Bool.not_eq_true']at h
   rw[List.nodup_cons]
   refine⟨fun hm=>?_,YcP h.2⟩
   have:l.contains d=true:=by rw[List.contains_iff_mem];exact hm
   rw[h.1]at this;cases this
theorem YhQ:∀{l:List (Nat×Nat×AL)}{n:Nat},(l.map (·.2.1)).Nodup->∀x∈silP n l,∀y∈silP n l,x.1≠y.1->x.2.slot≠y.2.slot/\x.2.idx≠y.2.idx
 | [],_,_,x,hx,_,_,_=>by cases hx
 | (j,d,z)::l,n,hn,x,hx,y,hy,hxy=>by
   simp only[YDk,List.nodup_cons]at hn
   have key:∀u∈silP (n+1) l,u.2.slot≠d/\u.2.idx≠n:=by
     rintro⟨k,p⟩ hu
     obtain⟨h1,h2⟩:=YeF hu
     refine⟨fun e=>hn.1 (YDW.2 ⟨_,h2,e⟩),?_⟩
     simp only;omega
   rcases YDx.1 hx with rfl|hx <;> rcases YDx.1 hy with rfl|hy
   . exact absurd rfl hxy
   . exact⟨fun e=>(key y hy).1 e.symm,fun e=>(key y hy).2 e.symm⟩
   . exact key x hx
   . exact YhQ hn.2 x hx y hy hxy
theorem pends_perm:∀{l:List (Nat×Nat×AL)}{n:Nat}{Pd:List Pend},(YtL n (l.map (·.2)) Pd).Perm ((silP n l).map (·.2)++Pd)
 | [],_,_=>List.Perm.refl _
 | (j,d,z)::l,n,Pd=>by
   simp only[YDk,YtL,silP,List.cons_append]
   exact pends_perm.trans List.perm_middle
theorem Ylh{al:List (Nat×AL)}:∀{ds:List Nat},(al.map (·.1)).Nodup->(∀d∈al.map (·.1),d∉ds)->Yes al ds=true:=by
 induction al with
 |nil=>intros;rfl
 |cons x al ih=>
   obtain⟨d,z⟩:=x
   intro ds hn hd
   simp only[YDk,List.nodup_cons]at hn
   simp only[Yes,YC2,Bool.not_eq_true']
   refine⟨?_,ih hn.2 fun e he hm=>?_⟩
   . cases hc:ds.contains d with
     |false=>rfl
     |true=>rw[List.contains_iff_mem]at hc;exact absurd hc (hd d (by simp))
   . rcases YDx.1 hm with rfl|hm
     . exact hn.1 he
     . exact hd e (by simp only[YDk,YDx];exact .inr he) hm
theorem YfW{clo:Nat->Nat->Bool}{sil:List (Nat×Nat×AL)}:∀{l:List DT}{j:Nat},YeR clo sil l j=true->∀(k:Nat)(v:VOp)(chk:List (Nat×X)),l[k]? =some (.op v chk)->
   ∀x∈sil,(clo (j+k) x.1=true\/(x.2.1∉v.reads/\(v.op.isAppend=true->x.2.2.clean=true)))/\v.dst≠some x.2.1
 | [],_,_,k,v,chk,h,_,_=>by simp at h
 | .silent _::l,j,h,0,v,chk,hk,_,_=>by simp at hk
 | .silent _::l,j,h,k+1,v,chk,hk,x,hx=>by
   have:=YfW (l:=l) (j:=j+1) h k v chk (by simpa using hk) x hx
   rwa [show j+1+k=j+(k+1)by omega]at this
 | .loud _::l,j,h,0,v,chk,hk,_,_=>by simp at hk
 | .loud _::l,j,h,k+1,v,chk,hk,x,hx=>by
   simp only[YeR,YC2]at h
   have:=YfW (l:=l) (j:=j+1) h.2 k v chk (by simpa using hk) x hx
   rwa [show j+1+k=j+(k+1)by omega]at this
 | .op u c::l,j,h,0,v,chk,hk,x,hx=>by
   simp only[List.getElem?_cons_zero,Option.some.injEq,DT.op.injEq]at hk
   obtain⟨rfl,rfl⟩:=hk
   simp only[YeR,YC2,List.all_eq_true]at h
   have:=h.1 x hx
   simp only[YDN,YC2,Bool.not_eq_true']at this
   refine⟨?_,?_⟩
   . rcases this.1 with h1| ⟨h1,h2⟩
     . exact .inl h1
     . exact .inr ⟨fun hm=>absurd ((List.contains_iff_mem (a:=x.2.1)).2 hm) (by rw[h1];simp),fun ha=>by rcases h2 with h2|h2;(rw[ha]at h2;cases h2);exact h2⟩
   . intro e
     have:=this.2
     rw[e]at this
     simp at this
 | .op u c::l,j,h,k+1,v,chk,hk,x,hx=>by
   simp only[YeR,YC2]at h
   have:=YfW (l:=l) (j:=j+1) h.2 k v chk (by simpa using hk) x hx
   rwa [show j+1+k=j+(k+1)by omega]at this
theorem YdL{clo:Nat->Nat->Bool}{sil:List (Nat×Nat×AL)}:∀{l:List DT}{j:Nat},YeR clo sil l j=true->∀(k:Nat)(v:VOp),l[k]? =some (.loud v)->sil=[]
 | [],_,_,k,v,h=>by simp at h
 | .silent _::l,j,h,0,v,hk=>by simp at hk
 | .silent _::l,j,h,k+1,v,hk=>YdL (l:=l) (j:=j+1) h k v (by simpa using hk)
 | .op u c::l,j,h,0,v,hk=>by simp at hk
 | .op u c::l,j,h,k+1,v,hk=>by
   simp only[YeR,YC2]at h
   exact YdL (l:=l) (j:=j+1) h.2 k v (by simpa using hk)
 | .loud _::l,j,h,0,v,hk=>by
   simp only[YeR,YC2]at h
   have h:=h.1
   split at h
   . rfl
   . cases h
 | .loud _::l,j,h,k+1,v,hk=>by
   simp only[YeR,YC2]at h
   exact YdL (l:=l) (j:=j+1) h.2 k v (by simpa using hk)
theorem Yhl:∀{l:List Nat}{j:Nat},YdX l j=true->∀k,l.getD k 0<2^(j+k)
 | [],j,_,k=>by simp;exact Nat.two_pow_pos _
 |m::l,j,h,0=>by
   simp only[YdX,YC2]at h
   have:=h.1
   simp only[Nat.blt_eq]at this
   simpa using this
 |m::l,j,h,k+1=>by
   simp only[YdX,YC2]at h
   have:=Yhl h.2 k
   rw[show j+1+k=j+(k+1)by omega]at this
   simpa using this
theorem Ync{clo:Nat->Nat->Bool}{tab:List DT}:∀(n j i:Nat),(Yg6 clo tab n j).getD i false=true->Yv5 clo tab (j+i)=true
 |0,_,_,h=>by simp [Yg6]at h
 |n+1,j,0,h=>by simpa [Yg6]using h
 |n+1,j,i+1,h=>by
   have:=Ync (clo:=clo) (tab:=tab) n (j+1) i (by simpa [Yg6]using h)
   rwa [show j+1+i=j+(i+1)by omega]at this
theorem Ybm{P:Program}{all:Array Oper}:∀{rest:List Oper}{vs:List VOp},YaC P all rest=some vs->vs.length=rest.length
 | [],vs,h=>by simp only[YaC,Option.some.injEq]at h;subst h;rfl
 |o::l,vs,h=>by
   simp only[YaC]at h
   obtain⟨x,hx,h⟩:=YCV.1 h
   obtain⟨y,hy,rfl⟩:=YCY.1 h
   simp [Ybm hy]
def OT.all:OT->List Nat
 | .nil=>[]
 | .op i t=>i::t.all
 | .br a b=>a.all++b.all
def Ygj(E:Env)(G:VOp->(S->Prop)->S->Prop)(A:S->Prop):List DOp->S->Prop
 | [],s=>A s
 | ⟨v,chk⟩::l,s=>chkG v.op.isAppend s (s.x (Ycp v.xs)) chk/\(dopW E v (Ygj E G A l) s\/G v (Ygj E G A l) s)
def dtrP(E:Env)(G:VOp->(S->Prop)->S->Prop)(A:S->Prop):DTr->S->Prop
 | .leaf,s=>A s
 | .ops l t,s=>Ygj E G (dtrP E G A t) l s
 | .br a b,s=>dtrP E G A a s/\dtrP E G A b s
theorem YpS{s:S}{y:SV}:∀{l:List X},chkA s y l->∀x∈l,napP (s.x x) y
 |x::l,h,z,hz=>by
   rcases YDx.1 hz with rfl|hz
   . exact h.1
   . exact YpS h.2 z hz
theorem YpU{s:S}{y:SV}:∀{l:List X},chkP s y l->∀x∈l,Yhi (s.x x) y
 |x::l,h,z,hz=>by
   rcases YDx.1 hz with rfl|hz
   . exact h.1
   . exact YpU h.2 z hz
theorem YpT{ap:Bool}{s:S}{y:SV}{l:List X}(h:chkG ap s y l)(x:X)(hx:x∈l):chk1 ap (s.x x) y:=by
 cases ap with
 |false=>exact YpU h x hx
 |true=>exact YpS h x hx
theorem YgQ{E:Env}{G:VOp->(S->Prop)->S->Prop}{A:S->Prop}{tab:List DT}(hGm:∀v (A B:S->Prop) s,(∀s,A s->B s)->G v A s->G v B s)(hGn:∀(i:Nat) (v:VOp) (chk:List (Nat×X)) (A:S->Prop) (s:S),tab[i]? =some (.op v chk)->¬G v A s):
   ∀{order:List Nat}{L:Array Bool}{s:S},(∀i∈order,i<tab.length)->Ygj E G A (YjY tab order) s->seqS (YR E G tab) A order L s
 | [],_,_,_,h=>h
 |i::order,L,s,hi,h=>by
   have hlt:=hi i YDd
   unfold YjY at h
   unfold seqS YR
   cases ht:tab[i]? with
   |none=>rw[List.getElem?_eq_none_iff]at ht;omega
   |some t=>
     rw[ht]at h
     cases t with
     |silent d=>exact YgQ hGm hGn (fun j hj=>hi j (YDa _ hj)) h
     |op v chk=>
       simp only at h⊢
       refine⟨fun c hc _=>YpT h.1 c.2 (YDW.2 ⟨c,hc,rfl⟩),Yai (fun s' h'=>YgQ hGm hGn (fun j hj=>hi j (YDa _ hj)) h') (h.2.resolve_right (hGn i v chk _ _ ht))⟩
     |loud v=>
       simp only at h⊢
       exact h.2.imp (Yai fun s' h'=>YgQ hGm hGn (fun j hj=>hi j (YDa _ hj)) h') (hGm v _ _ s fun s' h'=>YgQ hGm hGn (fun j hj=>hi j (YDa _ hj)) h')
theorem YcE{E:Env}{G:VOp->(S->Prop)->S->Prop}{A:S->Prop}{tab:List DT}(hGm:∀v (A B:S->Prop) s,(∀s,A s->B s)->G v A s->G v B s)(hGn:∀(i:Nat) (v:VOp) (chk:List (Nat×X)) (A:S->Prop) (s:S),tab[i]? =some (.op v chk)->¬G v A s):
   ∀{t:OT}{L:Array Bool}{s:S},(∀i∈t.all,i<tab.length)->dtrP E G A (Yn8 tab t) s->Yox (YR E G tab) A t L s
 | .nil,_,_,_,h=>h
 | .op i t,L,s,hi,h=>by
   have hlt:=hi i (by simp [OT.all])
   have hr:∀j∈t.all,j<tab.length:=fun j hj=>hi j (by simp [OT.all,hj])
   unfold Yn8 dtrP YjY at h
   unfold Yox YR
   cases ht:tab[i]? with
   |none=>rw[List.getElem?_eq_none_iff]at ht;omega
   |some x=>
     rw[ht]at h
     cases x with
     |silent d=>exact YcE hGm hGn hr h
     |op v chk=>
       simp only[Ygj]at h⊢
       refine⟨fun c hc _=>YpT h.1 c.2 (YDW.2 ⟨c,hc,rfl⟩),Yai (fun s' h'=>YcE hGm hGn hr h') (h.2.resolve_right (hGn i v chk _ _ ht))⟩
     |loud v=>
       simp only[Ygj]at h⊢
       exact h.2.imp (Yai fun s' h'=>YcE hGm hGn hr h') (hGm v _ _ s fun s' h'=>YcE hGm hGn hr h')
 | .br a b,L,s,hi,h=>⟨YcE hGm hGn (fun j hj=>hi j (by simp [OT.all,hj])) h.1,YcE hGm hGn (fun j hj=>hi j (by simp [OT.all,hj])) h.2⟩
theorem YfX{free:Nat->Bool}{dm:List Nat}{n:Nat}:∀{t:OT}{m:Nat}{ex:Bool},Ycc free dm n t m ex=true->∀i∈t.all,i<n
 | .op i t,m,ex,h,j,hj=>by
   simp only[Ycc,YC2]at h
   rcases YDx.1 hj with rfl|hj
   . have:=YDw h.1.1.1;omega
   . exact YfX h.2 j hj
 | .br a b,m,ex,h,j,hj=>by
   simp only[Ycc,YC2]at h
   rcases YDp.1 hj with hj|hj
   . exact YfX h.1.2 j hj
   . exact YfX h.2 j hj
theorem YrJ{free:Nat->Bool}{dm:List Nat}{n:Nat}:∀{l:List Nat}{m:Nat},seqB free dm n l m=true->∀i∈l,i<n
 |i::l,m,h,j,hj=>by
   simp only[seqB,YC2]at h
   rcases YDx.1 hj with rfl|hj
   . have:=YDw h.1.1.1;omega
   . exact YrJ h.2 j hj
section
variable {P:Program} {E:Env} {G:VOp->(S->Prop)->S->Prop} {w0:Cx} {rd:Option Nat}
theorem Ym0(hE:Yr P E)(hm:P.follows .mixedOrders=true){ops:Array Oper}{vs:List VOp}(hvs:YaC P ops ops.toList=some vs)(c0:YdV ops.toList vs=true)(c1:YDu (clos (Yu .any ops)).length ops.size=true)(c2:Yfi (Yu .any ops) (clos (Yu .any ops)) ops.size=true)(c3:YdX (Yu .any ops) 0=true)
   (c4:YeR (Yam (clos (Yu .any ops))) (YcK vs 0) (Ya8 (Ybi P) (Yam (clos (Yu .any ops))) vs vs 0) 0=true)(c5:YbW ((YcK vs 0).map (·.2.1))=true) {A:S->Prop} {κ:Kont} {s:S} {a:Act} {sv:List Act} {w:World} {id:Nat}
   (h:∀s0,s0=Yg9 s ((YcK vs 0).map (·.2))->(∀(j:Nat)(L:Array Bool)(s:S)(A B:S->Prop),(∀s,A s->B s)->YR E G (Ya8 (Ybi P) (Yam (clos (Yu .any ops))) vs vs 0) j L A s->YR E G (Ya8 (Ybi P) (Yam (clos (Yu .any ops))) vs vs 0) j L B s)->
     (∀i L s,(Yg6 (Yam (clos (Yu .any ops))) (Ya8 (Ybi P) (Yam (clos (Yu .any ops))) vs vs 0) ops.size 0).getD i false=true->¬YR E G (Ya8 (Ybi P) (Yam (clos (Yu .any ops))) vs vs 0) i L (fun _=>False) s)->
     (∀(i:Nat),(Yg6 (Yam (clos (Yu .any ops))) (Ya8 (Ybi P) (Yam (clos (Yu .any ops))) vs vs 0) ops.size 0).getD i false=true->∀(j:Nat)(L:Array Bool)(s:S)(A:S->Prop),Down .any ops L->i∈Region.ready .any ops L->j∈Region.ready .any ops L->j≠i->YR E G (Ya8 (Ybi P) (Yam (clos (Yu .any ops))) vs vs 0) i L (YR E G (Ya8 (Ybi P) (Yam (clos (Yu .any ops))) vs vs 0) j (L.setIfInBounds i true) A) s->YR E G (Ya8 (Ybi P) (Yam (clos (Yu .any ops))) vs vs 0) j L (YR E G (Ya8 (Ybi P) (Yam (clos (Yu .any ops))) vs vs 0) i (L.setIfInBounds j true) A) s)->
     anyS (YR E G (Ya8 (Ybi P) (Yam (clos (Yu .any ops))) vs vs 0)) A .any ops ops.size (Array.replicate ops.size false) s0) {cx:Cx0} {ks:List (Nat×Obj)} {J:Nat->Option IK} {hJ:Ext cx J} (hG:Yhd P G rd ops κ cx ks sv) (hGn:∀v A s,G v A s->Ygw (Ybi P) v=true) (hR:Rl ⟨cx.wI J hJ,ks⟩ s a sv w) (hK:∀s a w J (hJ:Ext cx J),A s->Rl ⟨cx.wI J hJ,ks⟩ s a sv w->κ .normal a w):(Code.region id ops true).wpIn (Wd rd) 0 P κ a w:=by
 have hlen:vs.length=ops.size:=by rw[Ybm hvs];simp
 have htl:∀(clo:Nat->Nat->Bool)(l:List VOp)(j:Nat),(Ya8 (Ybi P) clo vs l j).length=l.length:=by
   intro clo l
   induction l with
   |nil=>intro j;rfl
   |cons v l ih=>intro j;simp only[Ya8,YDP,ih]
 have hsn:((YcK vs 0).map (·.2.1)).Nodup:=YcP c5
 have hget:∀(i:Nat)(v:VOp),vs[i]? =some v->∃o,ops[i]? =some o/\YfF P ops o=some v:=by
   intro i v hv
   obtain⟨o,h1,h2⟩:=YhU hvs i v hv
   exact⟨o,by simpa using h1,h2⟩
 have hok:Yvk P ops (Ya8 (Ybi P) (Yam (clos (Yu .any ops))) vs vs 0) (silP (lenH s.hp) (YcK vs 0)) (Yam (clos (Yu .any ops))):=by
   refine⟨by rw[YnQ];exact Yed,YhQ hsn,fun i d ht=>?_,fun i v chk ht=>?_,fun i v ht=>?_⟩
   . rw[Ycb]at ht
     obtain⟨v,hv,he⟩:=YCY.1 ht
     unfold Yd0 at he
     cases hs:YS v with
     |none=>rw[hs]at he;simp only at he;cases hl:Ygw (Ybi P) v <;> rw[hl]at he <;> cases he
     |some x=>
       obtain⟨d',z⟩:=x
       rw[hs]at he;cases he
       obtain⟨o,ho,hvo⟩:=hget i v hv
       obtain⟨e,hop⟩:=Yhg c0 i o v (by simpa using ho) hv (by rw[hs];rfl)
       obtain⟨g1,g2,g3,g4⟩:=YkP hs
       obtain⟨xs,k1,k2,k3,k4,k5⟩:=Yfe hvo
       obtain⟨p,hp,hp1,hp2⟩:=YnR (n:=lenH s.hp) (mem_silOf.2 ⟨i,v,hv,by omega,hs⟩:(i,d,z)∈YcK vs 0)
       refine⟨p,o,e,hp,ho,hop,?_,?_,?_⟩
       . rcases k5 with k5| ⟨_,_,_,_,_,k5⟩
         . exact k5.1
         . rw[g2]at k5;cases k5
       . rw[g3]at k1;rw[hp2];exact Yoy hop k1 g4
       . rw[<-k4,g1,hp1]
   . rw[Ycb]at ht
     obtain⟨u,hu,he⟩:=YCY.1 ht
     unfold Yd0 at he
     cases hs:YS u with
     |some x=>rw[hs]at he;cases he
     |none=>
       rw[hs]at he
       simp only at he
       cases hl:Ygw (Ybi P) u with
       |true=>rw[hl]at he;cases he
       |false=>
       rw[hl]at he
       simp only[cond_false,DT.op.injEq]at he
       obtain⟨rfl,hchk⟩:=he
       refine⟨fun p hp=>?_,hget i u hu,fun x hx=>?_⟩
       . obtain⟨_,hm⟩:=YeF hp
         obtain⟨i',v',h1,h2,h3⟩:=mem_silOf.1 hm
         have:i'=i:=by omega
         subst this
         rw[hu]at h1;cases h1
         rw[hs]at h3;cases h3
       . obtain⟨k,p⟩:=x
         have:=YfW c4 i u chk (by rw[Ycb,hu];simp [Yd0,hs,hl,<-hchk]) (k,p.slot,p.cells) (YeF hx).2
         simpa using this
   . have hsl:=YdL c4 i v ht
     rw[Ycb]at ht
     obtain⟨u,hu,he⟩:=YCY.1 ht
     refine⟨by rw[hsl];rfl,?_⟩
     have:u=v:=by
       unfold Yd0 at he
       cases hs:YS u with
       |some x=>rw[hs]at he;cases he
       |none=>
         rw[hs]at he
         simp only at he
         cases hl:Ygw (Ybi P) u <;> rw[hl]at he <;> cases he
         rfl
     subst this
     exact hget i u hu
 refine YkJ (J:=J) (hJ:=hJ) (free:=fun i=>(Yg6 (Yam (clos (Yu .any ops))) (Ya8 (Ybi P) (Yam (clos (Yu .any ops))) vs vs 0) ops.size 0).getD i false) hE hm (YDe c1) c2 hok (fun i hi=>?_)
   (h _ rfl) hG ?_ hK (fun x hx=>?_) (fun i o ho e he hb=>?_)
 . have:=Ync _ _ _ hi
   rw[YDO]at this
   unfold Yv5 at this
   split at this
   . exact .inl ⟨_,‹_›⟩
   . rename_i v hv
     simp only[YC2]at this
     refine .inr ⟨v,hv,this.1,fun j t ht=>?_⟩
     have:=Yhv this.2 j t ht
     rwa [YDO]at this
   . cases this
 . have h0:=Ynu (w0:=⟨cx.wI J hJ,ks⟩) ((YcK vs 0).map (·.2)) [] s (Ylh (by rw[List.map_map];exact hsn) (fun _ _=>by simp)) (YuW (YtU hR (w.drawn+1)))
   have:=pends_perm (l:=YcK vs 0) (n:=lenH s.hp) (Pd:=[])
   rw[List.append_nil]at this
   exact Yrr this h0
 . obtain⟨k,p⟩:=x
   obtain⟨i,v,h1,h2,_⟩:=mem_silOf.1 (YeF hx).2
   have:=(List.getElem?_eq_some_iff.1 h1).1
   simp only;omega
 . have hlt:=Yhl c3 i
   rw[Ydt ho,YDO]at hlt
   have hbit:(Yko .any o.after.toList).testBit e.on=true:=maskL_spec.2 ⟨e,by simpa using he,hb,rfl⟩
   rcases YDz e.on i with h'|h'
   . exact h'
   . have:=Nat.testBit_lt_two_pow (YDI hlt (YDm (by omega) h'))
     rw[this]at hbit;cases hbit
theorem YlH{lf:FuncId->Bool}{clo:Nat->Nat->Bool}{vs:List VOp}:∀(l:List VOp)(j:Nat),(Ya8 lf clo vs l j).length=l.length
 | [],_=>rfl
 |_::l,j=>by simp only[Ya8,YDP,YlH l]
theorem Yns{lf:FuncId->Bool}{clo:Nat->Nat->Bool}{vs:List VOp}(hGn:∀v A s,G v A s->Ygw lf v=true)(i:Nat)(v:VOp)(chk:List (Nat×X))(A:S->Prop)(s:S)(h:(Ya8 lf clo vs vs 0)[i]? =some (.op v chk)):¬G v A s:=fun hg=>by
 rw[Ycb]at h
 obtain⟨u,hu,he⟩:=YCY.1 h
 unfold Yd0 at he
 cases hs:YS u with
 |some x=>rw[hs]at he;cases he
 |none=>
   rw[hs]at he
   simp only at he
   cases hl:Ygw lf u with
   |true=>rw[hl]at he;cases he
   |false=>
     rw[hl]at he
     cases he
     rw[hGn _ _ _ hg]at hl;cases hl
theorem Yn7(hE:Yr P E)(hm:P.follows .mixedOrders=true){ops:Array Oper}{al:List (Nat×AL)}{dl:List DOp}(hd:YmZ P ops=some (al,dl)){A:S->Prop}{κ:Kont}{s:S}{a:Act}{sv:List Act}{w:World}{id:Nat}
   (h:Ygj E G A dl (Yg9 s al)){cx:Cx0}{ks:List (Nat×Obj)}{J:Nat->Option IK}{hJ:Ext cx J}(hG:Yhd P G rd ops κ cx ks sv)(hGn:∀v A s,G v A s->Ygw (Ybi P) v=true)(hR:Rl ⟨cx.wI J hJ,ks⟩ s a sv w)(hK:∀s a w J (hJ:Ext cx J),A s->Rl ⟨cx.wI J hJ,ks⟩ s a sv w->κ .normal a w):(Code.region id ops true).wpIn (Wd rd) 0 P κ a w:=by
 unfold YmZ at hd
 obtain⟨vs,hvs,hd⟩:=YCV.1 hd
 simp only at hd
 split at hd
 . rename_i hc
   simp only[Option.some.injEq,Prod.mk.injEq]at hd
   obtain⟨rfl,rfl⟩:=hd
   simp only[YC2]at hc
   obtain⟨⟨⟨⟨⟨⟨⟨c0,c1⟩,c2⟩,c3⟩,c4⟩,c5⟩,c6⟩,c7⟩:=hc
   have hlen:vs.length=ops.size:=by rw[Ybm hvs];simp
   refine Ym0 hE hm hvs c0 c1 c2 c3 c4 c5 (fun s0 hs0 m1 m2 m3=>?_) hG hGn hR hK
   subst hs0
   rw[<-YDe c6]
   have:=YrK m1 m2 m3 _ 0 (Array.replicate ops.size false) _ c7 YjV Ygk (YgQ hG.mono (Yns hGn) (fun i hi=>by rw[YlH,hlen];exact YrJ c7 i hi) h)
   rw[YDe c6]at this⊢
   exact this
 . cases hd
theorem Yli(hE:Yr P E)(hm:P.follows .mixedOrders=true){ops:Array Oper}{al:List (Nat×AL)}{t:DTr}(hd:Yim P ops=some (al,t)){A:S->Prop}{κ:Kont}{s:S}{a:Act}{sv:List Act}{w:World}{id:Nat}
   (h:dtrP E G A t (Yg9 s al)){cx:Cx0}{ks:List (Nat×Obj)}{J:Nat->Option IK}{hJ:Ext cx J}(hG:Yhd P G rd ops κ cx ks sv)(hGn:∀v A s,G v A s->Ygw (Ybi P) v=true)(hR:Rl ⟨cx.wI J hJ,ks⟩ s a sv w)(hK:∀s a w J (hJ:Ext cx J),A s->Rl ⟨cx.wI J hJ,ks⟩ s a sv w->κ .normal a w):(Code.region id ops true).wpIn (Wd rd) 0 P κ a w:=by
 unfold Yim at hd
 obtain⟨vs,hvs,hd⟩:=YCV.1 hd
 simp only at hd
 split at hd
 . rename_i hc
   simp only[Option.some.injEq,Prod.mk.injEq]at hd
   obtain⟨rfl,rfl⟩:=hd
   simp only[YC2]at hc
   obtain⟨⟨⟨⟨⟨⟨⟨c0,c1⟩,c2⟩,c3⟩,c4⟩,c5⟩,c6⟩,c7⟩:=hc
   have hlen:vs.length=ops.size:=by rw[Ybm hvs];simp
   refine Ym0 hE hm hvs c0 c1 c2 c3 c4 c5 (fun s0 hs0 m1 m2 m3=>?_) hG hGn hR hK
   subst hs0
   have:=(YfY m1 m2 m3 _ 0 false (Array.replicate ops.size false) _ c7 YjV Ygk (YcE hG.mono (Yns hGn) (fun i hi=>by rw[YlH,hlen];exact YfX c7 i hi) h)).1 rfl
   rw[YDe c6]at this
   exact this
 . cases hd
end
end Go.Vx
namespace Go.Vx
open Go.RowKit
section
variable {P:Program} {E:Env} {Q:SV->List HO->Prop} {vr:List VR} {w0:Cx0} {rd:Option Nat} {ks:List (Nat×Obj)}
def inG(E:Env)(Q:SV->List HO->Prop)(vr:List VR)(N:Nat)(K0:List It)(v:VOp)(A:S->Prop)(s:S):Prop:=
 ∃f d xs ys vf,∃B:S->Prop,v=⟨d,none,.call f,xs⟩/\E.lo f=true/\callee E (.call f) (s.args xs)=some (f,ys)/\E.ct f=none/\E.fn f=some vf/\
   (∃m,m<=N/\run E Q vr m (.code vf.body:: .frame d vf.res:: .inLoop B::K0) { fr:=padL vf.ntmps ys,saved:=s.fr::s.saved,hp:=s.hp})/\∀s',B s'->A s'
theorem YiD{N:Nat}{K0:List It}(v:VOp)(A B:S->Prop)(s:S)(h:∀s,A s->B s)(hg:inG E Q vr N K0 v A s):inG E Q vr N K0 v B s:=by
 obtain⟨f,d,xs,ys,vf,C,h1,h2,h3,h4,h5,h6,h7⟩:=hg
 exact⟨f,d,xs,ys,vf,C,h1,h2,h3,h4,h5,h6,fun s' hs=>h _ (h7 s' hs)⟩
theorem Yld{f g:FuncId}{xs ys:List SV}(h:callee E (.call f) xs=some (g,ys)):g=f:=by
 simp only[callee,Option.some.injEq,Prod.mk.injEq]at h
 exact h.1.symm
theorem YvV{n N:Nat}(hN:n<=N){v:VOp}{K K0:List It}(hK:YgU K=K0){s:S}(h:dop E (run E Q vr n) v K s):dopW E v (fun s'=> ∃m,m<=n/\run E Q vr m K s') s\/inG E Q vr N K0 v (fun s'=> ∃m,m<=n/\run E Q vr m K s') s:=by
 obtain⟨d,g,op,xs⟩:=v
 cases g with
 |none=>
   simp only[dop]at h
   unfold dopW
   simp only
   cases hq:op.quiet with
   |true=>
     left
     rw[hq]at h
     simp only[dpl,dq]at h
     simp only[fEff]
     cases he:eff s.hp (lenH s.hp) op (s.args xs)with
     |none=>rw[he]at h;exact h.elim
     |some e=>
       obtain⟨p,x,u⟩:=e
       rw[he]at h
       cases u <;> try exact h.elim
       exact⟨h.1,n,YC5 _,h.2⟩
   |false=>
     rw[hq]at h
     simp only[dpl,dcl]at h
     simp only[Ykb]
     cases hc:callee E op (s.args xs)with
     |none=>
       left
       rw[hc]at h
       simp only[psdD]at h
       simp only[psdW]
       cases hps:psd op (s.args xs)with
       |some c=>
         rw[hps]at h
         exact(Ydj n h).mono fun r hs ⟨m,hm,h2⟩=>⟨m,by omega,h2⟩
       |none=>
       rw[hps]at h
       simp only at h⊢
       cases hbad:op.bad with
       |true=>rw[hbad]at h;exact h.elim
       |false=>
       rw[hbad]at h
       simp only[effD,effK]at h
       simp only[badW,effW]
       cases he:eff s.hp (lenH s.hp) op (s.args xs)with
       |none=>rw[he]at h;exact h.elim
       |some e=>rw[he]at h;exact⟨h.1,n,YC5 _,h.2⟩
     |some fy=>
       obtain⟨f,ys⟩:=fy
       rw[hc]at h
       simp only[dct]at h
       simp only[ctW]
       cases hct:E.ct f with
       |none=>
         right
         rw[hct]at h
         simp only[dinl]at h
         split at h
         . rename_i g
           split at h
           . rename_i hlo
             split at h
             . rename_i vf hfn
               obtain⟨B,h1,h2⟩:=h
               obtain rfl:=Yld hc
               rw[hK]at h1
               exact⟨_,d,xs,ys,vf,B,rfl,hlo,hc,hct,hfn,⟨n,hN,h1⟩,fun s' hs=>⟨n,YC5 _,h2 s' hs⟩⟩
             . exact h.elim
           . exact h.elim
         . exact h.elim
       |some c=>
         left
         rw[hct]at h
         exact⟨h.1,(Ydj n h.2).mono fun r hs ⟨m,hm,h2⟩=>⟨m,by omega,h2⟩⟩
 |some gp=>
   left
   obtain⟨g,pol⟩:=gp
   simp only[dop,dgd]at h
   unfold dopW
   simp only
   cases hgd:Y8 (getL s.fr g) pol with
   |none=>rw[hgd]at h;exact h.elim
   |some gb=>
     rw[hgd]at h
     simp only[dgq]at h
     cases hq:op.quiet with
     |true=>
       rw[hq]at h
       simp only[effG]at h
       simp only[fEff,hgd]
       cases he:eff s.hp (lenH s.hp) op (YL op gb (s.args xs)).2 with
       |none=>rw[he]at h;exact h.elim
       |some e=>
         obtain⟨p,x,u⟩:=e
         rw[he]at h
         cases u <;> try exact h.elim
         exact⟨⟨h.1,h.2.1⟩,n,YC5 _,h.2.2⟩
     |false=>
       rw[hq]at h
       simp only[dctG]at h
       simp only[Ygt,hgd,ctGW]
       cases hct:ctOf E op (YL op gb (s.args xs)).2 with
       |none=>rw[hct]at h;exact h.elim
       |some c=>
         rw[hct]at h
         obtain⟨c,ys⟩:=c
         obtain⟨hp,hno,h⟩:=h
         obtain⟨m,r,hm,h1,h2⟩:=YfV n h
         exact⟨hp,hno,r,⟨m,by omega,h1⟩,h2⟩
theorem YbX{N:Nat}{K0:List It}{A B:S->Prop}:∀(l:List DOp),(∀s,A s->B s)->∀{s:S},Ygj E (inG E Q vr N K0) A l s->Ygj E (inG E Q vr N K0) B l s
 | [],h,_,hs=>h _ hs
 | ⟨_,_⟩::l,h,_,hs=>⟨hs.1,hs.2.imp (Yai (fun _ h'=>YbX l h h')) (YiD _ _ _ _ fun _ h'=>YbX l h h')⟩
theorem Yil{N:Nat}{K0:List It}:∀(l:List DOp)(n:Nat)(hn:n<=N){K:List It}(hK:YgU K=K0){s:S},run E Q vr n (.dops l::K) s->Ygj E (inG E Q vr N K0) (fun s'=> ∃m,m<n/\run E Q vr m K s') l s
 |_,0,_,_,_,_,h=>h.elim
 | [],n+1,_,_,_,_,h=>⟨n,Nat.lt_succ_self _,h⟩
 | ⟨v,chk⟩::l,n+1,hn,K,hK,_,h=>by
   refine⟨h.1,?_⟩
   have key:∀(s:S),(∃m,m<=n/\run E Q vr m (.dops l::K) s)->Ygj E (inG E Q vr N K0) (fun s'=> ∃m,m<n+1/\run E Q vr m K s') l s:=fun s ⟨m,hm,h'⟩=>
     YbX l (fun _ ⟨m',hm',h''⟩=>⟨m',by omega,h''⟩) (Yil l m (by omega) hK h')
   exact(YvV (n:=n) (N:=N) (by omega) (K:= .dops l::K) (K0:=K0) hK h.2).imp (Yai key) (YiD _ _ _ _ key)
theorem YbY{N:Nat}{K0:List It}{A B:S->Prop}:∀(t:DTr),(∀s,A s->B s)->∀{s:S},dtrP E (inG E Q vr N K0) A t s->dtrP E (inG E Q vr N K0) B t s
 | .leaf,h,_,hs=>h _ hs
 | .ops l t,h,_,hs=>YbX l (fun _ h'=>YbY t h h') hs
 | .br a b,h,_,hs=>⟨YbY a h hs.1,YbY b h hs.2⟩
theorem Yin{N:Nat}{K0:List It}:∀(t:DTr)(n:Nat)(hn:n<=N){K:List It}(hK:YgU K=K0){s:S},run E Q vr n (.dtr t::K) s->dtrP E (inG E Q vr N K0) (fun s'=> ∃m,m<n/\run E Q vr m K s') t s
 |_,0,_,_,_,_,h=>h.elim
 | .leaf,n+1,_,_,_,_,h=>⟨n,Nat.lt_succ_self _,h⟩
 | .ops l t,n+1,hn,K,hK,_,h=>YbX l (fun _ ⟨m,hm,h'⟩=>YbY t (fun _ ⟨m',hm',h''⟩=>⟨m',by omega,h''⟩) (Yin t m (by omega) hK h')) (Yil l n (by omega) (K:= .dtr t::K) hK h)
 | .br a b,n+1,hn,K,hK,_,h=>⟨YbY a (fun _ ⟨m',hm',h''⟩=>⟨m',by omega,h''⟩) (Yin a n (by omega) hK h.1),YbY b (fun _ ⟨m',hm',h''⟩=>⟨m',by omega,h''⟩) (Yin b n (by omega) hK h.2)⟩
theorem Yez{fn:Func}{c:Code}{b:VC}{f:FuncId}(hf:P.funcs[f]? =some fn)(hbody:fn.body=some c){R:Ending->World->Prop}{args:Array Value}{w:World}
   (h:(Exit.then (c.wpIn (Wd none) 0 P (bodyPostM (Wd none) 0 P fn R)) (bodyPostM (Wd none) 0 P fn R)) .normal { tmps:=args++Array.replicate (fn.ntmps-args.size) undef,defers:=[]} w):CallsIn (Wd none) 0 P f args w R:=
 callsIn_of_wp_marks hf hbody trivial h
theorem Ydm{fn:Func}{vf:VF}(h:Yh P fn=some vf):∃c,fn.body=some c/\Yce P c=some vf.body/\Yhc P fn.results.toList=some vf.res/\vf.ntmps=fn.ntmps:=by
 unfold Yh at h
 obtain⟨c,hbody,h⟩:=YCV.1 h
 obtain⟨b,hcode,h⟩:=YCV.1 h
 obtain⟨res,hres,rfl⟩:=YCY.1 h
 exact⟨c,hbody,hcode,hres,rfl⟩
theorem YnA{w:World}{bs:List BK}{B:Bd}:∀{ps:List Nat}{ys fr:List SV}{vs:List Value}{tmps:Array Value},RepL w bs B fr tmps.toList->RepL w bs B ys vs->RepL w bs B (YkH fr ps ys) ((ps.zip vs).foldl (fun t (p:Nat×Value)=>t.setIfInBounds p.1 p.2) tmps).toList
 | [],ys,fr,vs,tmps,h,_=>by cases ys <;> simpa [YkH]using h
 |p::ps,_,fr,_,tmps,h,.nil=>by simpa [YkH]using h
 |p::ps,_,fr,_,tmps,h,.cons y v ys vs h1 h2=>by
   simp only[YkH,List.zip_cons_cons,List.foldl_cons]
   refine YnA ?_ h2
   rw[Array.toList_setIfInBounds]
   exact h.set p h1
theorem Ynt(hE:Yr P E)(hS:SatG P w0){fn0:Func}{R0:Ending->World->Prop}{n:Nat}(ih:∀m,m<=n->∀(K:List It) (s:S),run E Q vr m K s->∀(sv:List Act) (ks:List (Nat×Obj)) (rd:Option Nat) (κ:Kont) (a:Act) (w:World),KRel P w0 (bodyPostM (Wd none) 0 P fn0 R0) K sv ks rd κ->∀ {D:Nat->Option IK} {hD:Ext w0 D},Rl ⟨w0.wI D hD,ks⟩ s a sv w->κ .normal a w)
   {all:Array Oper}{o:Oper}{rest:List Oper}{l:List VOp}{vo:VO}{ops:List Operand}{xs:List SV}{K:List It}{s:S}{sv:List Act}{κ:Kont}{a:Act}{w:World}
   (hv:vop P o=some (vo,ops))(hcc:vo.isCall=true->Ybk o.op=true)(hrest:YaC P all rest=some l){D:Nat->Option IK}{hD:Ext w0 D}(hx:∀bs,GlW P w bs (w0.wI D hD).bd->RepL w bs (w0.wI D hD).bd s.fr a.tmps.toList->RepL w bs (w0.wI D hD).bd xs (ops.map a.eval))
   (h:Yoq E (run E Q vr n) o.dst vo xs (.ops l::K) s)(hk:KRel P w0 (bodyPostM (Wd none) 0 P fn0 R0) K sv ks rd κ)(hR:Rl ⟨w0.wI D hD,ks⟩ s a sv w):o.wpIn (Wd rd) 0 P a w (wpListIn (Wd rd) 0 P all κ rest) κ:=by
 have hK:KRel P w0 (bodyPostM (Wd none) 0 P fn0 R0) (.ops l::K) sv ks rd (Exit.then (wpListIn (Wd rd) 0 P all κ rest) κ):= .ops all rest l K sv ks rd κ hrest hk
 obtain⟨bs,hf,hsv,hH,hb,hoth⟩:=id hR
 have hxx:=hx bs (YaA hS hb hH) hf
 have hB:w0.heap.size<=w.heap.size:=hb.size
 have hnd:=Y1 hv
 unfold Yoq at h
 cases hc:callee E vo xs with
 |none=>
   rw[hc]at h
   simp only[opK]at h
   cases hy:yld vo xs with
   |some ly=>
     obtain⟨l',ys⟩:=ly
     rw[hy]at h
     simp only[yldK]at h
     have hvo:vo= .callv/\xs= .fn (.yield l') [] []::ys:=by
       unfold yld at hy
       split at hy
       . split at hy
         . cases hy;exact⟨rfl,rfl⟩
         . cases hy
       . cases hy
     obtain⟨rfl,rfl⟩:=hvo
     cases hfr:Yd2 (.ops l::K)with
     |none=>rw[hfr]at h;exact h.elim
     |some x=>
       obtain⟨l2,ps,va,vb⟩:=x
       rw[hfr]at h
       cases hss:s.saved with
       |nil=>rw[hss]at h;exact h.elim
       |cons fr svs=>
         rw[hss]at h
         obtain⟨⟨rfl,hlen⟩,hrun⟩:=h
         obtain⟨q,sa,sv',ks',rfl,rfl,rfl,rfl,htm,hva,hvb⟩:=Ydy hfr hK
         obtain⟨c,hop,hcall⟩:=YnY hv (hcc rfl) rfl
         rcases hcall with⟨_,h1,_⟩ | ⟨x,_,hcal,rfl⟩ | ⟨_,_,h1,_⟩
         . cases h1
         . obtain⟨v,vs,hvs,g1,g2⟩:=hxx.cons_inv
           simp only[YDk,List.cons.injEq]at hvs
           obtain⟨hv1,rfl⟩:=hvs
           obtain⟨us,us',rfl,g3,g4⟩:=g1.fn_inv
           cases g3.nil_inv;cases g4.nil_inv
           have hrec:=Ya2 hR
           have hsz:(#[]++c.args.map a.eval++ #[]:Array Value).size=q.ps.length:=by
             have:=g2.length
             simp only[List.length_map,Array.length_toList]at this
             have e2:∀l:List Nat,lenN l=l.length:=fun l=>by induction l with|nil=>rfl|cons _ l ih=>simp [lenN,ih]
             rw[e2]at hlen
             simp;omega
           have hex:(execOp a.eval o).run P w= .ok (.round l' q.fn ((q.ps.toArray.zip (#[]++c.args.map a.eval++ #[])).foldl (fun tmps (t,a)=>tmps.setIfInBounds t a) q.tmps) q.ca q.cb) w:=by
             obtain⟨dst,op,type,pos,after,guard⟩:=o
             simp only at hop
             subst hop
             simp only[execOp,resolve,hcal,hv1,Deferred.ofValue,Sem.run_bind,Sem.run_pure,Result.andThen_ok,invoke]
             exact run_yield hrec (by simpa [Rec.at]using hsz)
           unfold Oper.wpIn
           rw[Oper.semAt_eq _ _ _ hnd,hex]
           refine⟨fun _ _=>trivial,fun h=>(by cases h),?_⟩
           refine roundIn_of_wpIn trivial ?_
           refine ih n (YC5 _) _ _ hrun (a::sa::sv') _ _ _ { tmps:=_,defers:=[]} _ (.code q.ca va _ _ _ (some l') _ hva (.rbeg l' q _ _ ks' _ (.code q.cb vb _ _ _ (some l') _ hvb (.rend o.dst l' q a _ _ ks' _ _ (fun v w h=>h) hK)))) (D:=D) (hD:=hD) ?_
           rw[hss]at hsv
           cases hsv with
           |cons _ _ _ _ k1 k2=>
             refine⟨bs,?_,.cons _ _ _ _ hf (by rw[hss];exact .cons _ _ _ _ k1 k2),hH,hb,hoth.push⟩
             have:=YnA (ps:=q.ps) k1 g2
             rw[htm]
             have e:q.ps.toArray.zip (#[]++c.args.map a.eval++ #[])=(q.ps.zip (c.args.toList.map a.eval)).toArray:=by apply Array.ext';simp
             rw[e]
             simpa using this
         . cases h1
   |none=>
   rw[hy]at h
   simp only[yldK,psdK]at h
   cases hps:psd vo xs with
   |some c=>
     rw[hps]at h
     obtain⟨r,val,w',x,D2,hD2,hrn,hr,⟨m,hm,hrun⟩,k1,k2,k3,k4⟩:=YuX (ρ:=a.eval) hv hps (Ydj n h) hxx hH
     refine Ya4 hnd (hrn o.dst o.type o.pos o.after o.guard) hr ?_
     obtain⟨hD3,hcr⟩:=Yds (al:=false) (z:=Bd.cx (w0.wI D hD).bd w) (w0:=w0) (J1:=D) (hJ1:=hD) (hJ:=hD2) rfl hf hsv hH hb hoth o.dst k1 k2 k3 (fun _=>⟨k4,trivial⟩) (fun h=>by cases h)
     exact ih m (by omega) _ _ hrun sv _ _ _ _ _ hK (hcr _ fun _ h=>h)
   |none=>
   rw[hps]at h
   simp only[effK]at h
   cases he:eff s.hp (lenH s.hp) vo xs with
   |none=>rw[he]at h;exact h.elim
   |some e=>
     rw[he]at h
     obtain⟨r,v,w',bs',hrun,hr,h1,h2,h3,h4,h5⟩:=YkX (ρ:=a.eval) hv he h.1 hxx (fun _=>rfl) (fun _=>rfl) hH hB
     refine Ya4 hnd (hrun o.dst o.type o.pos o.after o.guard) hr ?_
     exact ih n (YC5 _) _ _ h.2 sv _ _ _ _ _ hK (Yg0 (op:=o.op) hf hsv hb hoth h1 h2 h3 h4 h5 o.dst)
 |some fy=>
   obtain⟨f,ys⟩:=fy
   rw[hc]at h
   have hcall:vo.isCall=true:=by
     unfold callee at hc
     split at hc <;> first|rfl|cases hc
   simp only[opK,YpN]at h
   cases hct:E.ct f with
   |some c=>
     rw[hct]at h
     obtain⟨hok,hen⟩:=hE.ct f c hct
     obtain⟨vs,hys,hrun⟩:=YeX hE.meth hv (hcc hcall) hc hxx (fun _=>rfl) hen
     refine YaR hnd hrun ?_
     obtain⟨z,hzw,hzI,hargs2,hal,hzF⟩:=Ych c.alias hH.v hB 3 hys h.1
     subst hzw
     refine(hok _ vs z _ ⟨fun b K hb=>(hH.reg b K (by rw[hzI]at hb;exact hb)).2,YeO (YaA (hJ:=hD) hS hb hH) rfl hzF⟩ hargs2 (Ydj n h.2)).mono ?_
     rintro e w' ⟨r,hs,v,bs2,D2,hD2,⟨m,hm,hrun'⟩,rfl,h1,h2,h3,h4⟩
     obtain⟨hD3,hcr⟩:=Yds (w0:=w0) (J1:=D) (hJ1:=hD) (hJ:=hD2) hzI hf hsv hH hb hoth o.dst h1 h2 h3 h4 hal
     exact ih m (by omega) _ _ hrun' sv _ _ _ _ _ hK (hcr _ fun _ h=>h)
   |none=>
     rw[hct]at h
     simp only[inlK]at h
     cases hfn:E.fn f with
     |none=>rw[hfn]at h;exact h.elim
     |some vf=>
       rw[hfn]at h
       obtain⟨fn,hfs,hvf,hen⟩:=hE.fn f vf hfn
       obtain⟨vs,hys,hrun⟩:=YeX hE.meth hv (hcc hcall) hc hxx (fun _=>rfl) hen
       refine YaR hnd hrun ?_
       obtain⟨c,hbody,hcode,hres,hnt⟩:=Ydm hvf
       refine Yci (n:=0) (Yez (b:=vf.body) hfs hbody ?_)
       refine ih n (YC5 _) _ _ h (a::sv) _ _ _ _ _ (.code c vf.body _ _ _ _ _ hcode (.frame o.dst vf.res fn a _ _ _ _ _ _ hres (fun v w h=>h) hK)) (D:=D) (hD:=hD) ?_
       refine⟨bs,?_,.cons _ _ _ _ hf hsv,hH,hb,hoth.push⟩
       have:=Ye8 (n:=fn.ntmps) hys
       rw[hnt]
       simpa using this
theorem YlQ{all:Array Oper}{rest:List Oper}{v:VOp}{l:List VOp}(h:YaC P all rest=some (v::l)):∃o r,rest=o::r/\YfF P all o=some v/\YaC P all r=some l:=by
 cases rest with
 |nil=>cases h
 |cons o r=>
   simp only[YaC]at h
   obtain⟨x,hx,h⟩:=YCV.1 h
   obtain⟨y,hy,h⟩:=YCY.1 h
   cases h
   exact⟨o,r,rfl,hx,hy⟩
theorem Yoz{all:Array Oper}{rest:List Oper}(h:YaC P all rest=some []):rest=[]:=by
 cases rest with
 |nil=>rfl
 |cons o r=>
   simp only[YaC]at h
   obtain⟨x,hx,h⟩:=YCV.1 h
   obtain⟨y,hy,h⟩:=YCY.1 h
   cases h
theorem Ysc{all:Array Oper}{o:Oper}{v:VOp}(h:YfF P all o=some v):∃ops,vop P o=some (v.op,ops)/\X.ofs P ops=some v.xs/\(v.op.isCall=true->Ybk o.op=true)/\v.dst=o.dst/\
   ((o.guard=none/\v.g=none)\/∃j b g,o.guard=some (j,b)/\YkQ all j=some g/\v.g=some (g,b)):=by
 unfold YfF at h
 obtain⟨⟨vo,ops⟩,h1,h⟩:=YCV.1 h
 obtain⟨xs,h2,h⟩:=YCV.1 h
 split at h
 . cases h
 . rename_i hne
   have hne:vo.isCall=true->Ybk o.op=true:=by simpa using hne
   split at h
   . cases h;exact⟨ops,h1,h2,hne,rfl,.inl ⟨‹_›,rfl⟩⟩
   . obtain⟨g,hg,rfl⟩:=YCY.1 h
     exact⟨ops,h1,h2,hne,rfl,.inr ⟨_,_,g,‹_›,hg,rfl⟩⟩
theorem YhD{κ0:Kont}{K:List It}{sv:List Act}{ks:List (Nat×Obj)}{r:Option Nat}{κ:Kont}(h:KRel P w0 κ0 K sv ks r κ):YgU K=K:=by
 cases h <;> rfl
theorem YqV(hE:Yr P E){n:Nat}{K:List It}{v:VOp}{A:S->Prop}{s:S}(h:inG E Q vr n K v A s):Ygw (Ybi P) v=true:=by
 obtain⟨f,d,xs,ys,vf,B,rfl,hlo,_⟩:=h
 exact hE.lo f hlo
theorem YqW(hE:Yr P E)(hS:SatG P w0){fn0:Func}{R0:Ending->World->Prop}{n:Nat}(ih:∀m,m<=n->∀(K:List It) (s:S),run E Q vr m K s->∀(sv:List Act) (ks:List (Nat×Obj)) (rd:Option Nat) (κ:Kont) (a:Act) (w:World),KRel P w0 (bodyPostM (Wd none) 0 P fn0 R0) K sv ks rd κ->∀ {D:Nat->Option IK} {hD:Ext w0 D},Rl ⟨w0.wI D hD,ks⟩ s a sv w->κ .normal a w)
   {all:Array Oper}{K:List It}{sv:List Act}{ks:List (Nat×Obj)}{rd:Option Nat}{κ:Kont}(hk:KRel P w0 (bodyPostM (Wd none) 0 P fn0 R0) K sv ks rd κ):Yhd P (inG E Q vr n K) rd all κ w0 ks sv:=by
 refine⟨hS,YiD,?_⟩
 intro i o v A s hi hv hg J hJ a w hR
 obtain⟨f,d,xs,ys,vf,B,rfl,hlo,hc,hct,hfn,⟨m,hm,hrun'⟩,hB⟩:=hg
 obtain⟨ops,h1,h2,h3,h4,h5⟩:=Yfe hv
 obtain⟨bs,hf,hsv,hH,hb,hoth⟩:=id hR
 have hx:RepL w bs (w0.wI J hJ).bd (s.args xs) (ops.map a.eval):=YsG (YaA hS hb hH) hf h2
 obtain⟨fn,hfs,hvf,hen⟩:=hE.fn f vf hfn
 obtain⟨vs,hys,hrun⟩:=YeX hE.meth h1 (h3 rfl) hc hx (fun _=>rfl) hen
 rcases h5 with⟨hg0,_⟩ | ⟨_,_,_,_,_,hvg⟩
 . refine YbN hi (by simp [Region.wanted,hg0]) (YaR (Y1 h1) hrun ?_)
   obtain⟨c,hbody,hcode,hres,hnt⟩:=Ydm hvf
   refine Yci (n:=0) (Yez (b:=vf.body) hfs hbody ?_)
   have h4:d=o.dst:=h4
   subst h4
   refine ih m hm _ _ hrun' (a::sv) _ _ _ _ _ (.code c vf.body _ _ _ _ _ hcode (.frame o.dst vf.res fn a _ _ _ _ _ _ hres (fun v w h=>h) (.inLoop B (fun a' w'=> ∃s',A s'/\∃J',∃hJ':Ext w0 J',Rl ⟨w0.wI J' hJ',ks⟩ s' a' sv w') K sv ks rd κ (fun s' a' w' D hD hBs hR'=>⟨s',hB s' hBs,D,hD,hR'⟩) hk))) (D:=J) (hD:=hJ) ?_
   refine⟨bs,?_,.cons _ _ _ _ hf hsv,hH,hb,hoth.push⟩
   have:=Ye8 (n:=fn.ntmps) hys
   rw[hnt]
   simpa using this
 . cases hvg
theorem YkL(hE:Yr P E)(hS:SatG P w0){fn0:Func}{R0:Ending->World->Prop}(hres:Yhc P fn0.results.toList=some vr)
   (hR0:∀r hp v w' bs D (hD:Ext w0 D),Q r hp->Rep w' bs (w0.wI D hD).bd r v->Hp w' bs (w0.wI D hD).bd hp->BelowI w0.bd w0.toWorld w'->R0 (.returned v) w'):
   ∀(n:Nat)(K:List It)(s:S),run E Q vr n K s->∀(sv:List Act)(ks:List (Nat×Obj))(rd:Option Nat)(κ:Kont)(a:Act)(w:World),KRel P w0 (bodyPostM (Wd none) 0 P fn0 R0) K sv ks rd κ->∀{D:Nat->Option IK}{hD:Ext w0 D},Rl ⟨w0.wI D hD,ks⟩ s a sv w->κ .normal a w:=by
 have main:∀(N n:Nat),n<=N->∀(K:List It)(s:S),run E Q vr n K s->∀(sv:List Act)(ks:List (Nat×Obj))(rd:Option Nat)(κ:Kont)(a:Act)(w:World),KRel P w0 (bodyPostM (Wd none) 0 P fn0 R0) K sv ks rd κ->∀{D:Nat->Option IK}{hD:Ext w0 D},Rl ⟨w0.wI D hD,ks⟩ s a sv w->κ .normal a w:=by
   intro N
   induction N with
   |zero=>
     intro n hn K s h
     have:n=0:=by omega
     subst this;exact h.elim
   |succ N ihN=>
     intro n hn K s h sv ks rd κ a w hk D hD hR
     cases n with
     |zero=>exact h.elim
     |succ n=>
     have ih:∀m,m<=n->∀(K:List It)(s:S),run E Q vr m K s->∀(sv:List Act)(ks:List (Nat×Obj))(rd:Option Nat)(κ:Kont)(a:Act)(w:World),KRel P w0 (bodyPostM (Wd none) 0 P fn0 R0) K sv ks rd κ->∀{D:Nat->Option IK}{hD:Ext w0 D},Rl ⟨w0.wI D hD,ks⟩ s a sv w->κ .normal a w:=fun m hm=>ihN m (by omega)
     have ihn:=ih n (YC5 _)
     have hjump:∀{K':List It}{d:Option Nat}{f:Act->World->Prop},Yoo (run E Q vr n) d false K' s.hp s.saved->Yvj P w0 (bodyPostM (Wd none) 0 P fn0 R0) K' d sv ks rd f->f a w:=by
       rintro K' d f hr ⟨c,q,l,ita,sv',ks',κ',rfl,rfl,rfl,hk',hf⟩
       cases hs:s.saved with
       |nil=>rw[hs]at hr;exact hr.elim
       |cons fr svs=>
         rw[hs]at hr
         have hat:=Ya2 hR
         have hend:=run_endRound (P:=P) (some c) hat
         have h2:=YhP hs (Ydg (lp':=q.at .done (some c)) hR)
         exact hf a w _ _ hend (ihn _ _ hr sv' _ _ _ _ _ hk' (Yde h2 d fun _ _ _=> .x _ _ (.bool _)))
     cases K with
     |nil=>
       cases hk
       rw[YBG]at h
       cases hv:Yan s vr with
       |none=>rw[hv]at h;exact h.elim
       |some x=>
         obtain⟨p,vs⟩:=x
         rw[hv]at h
         obtain⟨ms,hms⟩:=YiY hR
         refine YeE ms hms hR fun w' hR'=>?_
         obtain⟨bs,hf,hsv,hH,hb,hoth⟩:=hR'
         obtain⟨v,h1,h2⟩:=Yfb (P:=P) hf hH hres hv h.1
         exact⟨v,h1,hR0 _ _ _ _ _ D hD h.2 h2 hH ⟨hb.os,hb.tape,hb.output,hb.size,fun k hk hI=>hb.block k hk ((hD.old k hk).trans hI)⟩⟩
     |cons x K=>
     cases x with
     |inBlock i=>
       cases hk with|inBlock _ _ _ _ _ κ hk=>exact ihn _ _ h sv _ _ κ a w hk hR
     |inScope=>
       cases hk with|inScope _ _ _ _ κ hk=>exact ihn _ _ h sv _ _ κ a w hk hR
     |inLoop I=>
       cases hk with|inLoop _ J _ _ _ _ κ hJ hk=>exact hJ s a w D hD h hR
     |frame d res=>
       cases hk with
       |frame _ _ fn sa _ sv _ rd κ R hr hRR hk=>
         rw[Yry]at h
         cases hv:Yan s res with
         |none=>rw[hv]at h;exact h.elim
         |some x=>
           obtain⟨p,vs⟩:=x
           rw[hv]at h
           cases hs:s.saved with
           |nil=>rw[hs]at h;exact h.elim
           |cons fr sv'=>
             rw[hs]at h
             obtain⟨ms,hms⟩:=YiY hR
             refine YeE ms hms hR fun w' hR'=>?_
             obtain⟨bs,hf,hsv,hH,hb,hoth⟩:=id hR'
             obtain⟨v,h1,h2⟩:=Yfb (P:=P) hf hH hr hv h.1
             refine⟨v,h1,hRR v w' (ihn _ _ h.2 sv _ _ κ _ w' hk (D:=D) (hD:=hD) ?_)⟩
             obtain⟨bs2,k1,k2,k3,k4,k5⟩:=YhP hs hR'
             rw[hs]at hsv
             cases hsv with
             |cons _ _ _ _ g1 g2=>
               have hp:=YhP hs hR'
               refine⟨bs,YgM (s:={ fr:=fr,saved:=sv',hp:=s.hp}) (a:=sa) g1 h2,?_,?_,hb,?_⟩
               . rw[YeM];exact g2
               . rw[Ydd];exact hH
               . rw[YDk,YbD]
                 exact hoth.pop
     |rfrm res l ps va vb j=>
       cases hk with
       |rfrm _ _ q lp _ _ _ fn sa _ sv ks rd κ hr _ hps htm hva hvb hj hk=>
         rw[Yu1]at h
         cases hv:Yan s res with
         |none=>rw[hv]at h;exact h.elim
         |some x=>
           obtain⟨p,vs⟩:=x
           rw[hv]at h
           cases hs:s.saved with
           |nil=>rw[hs]at h;exact h.elim
           |cons fr sv'=>
             rw[hs]at h
             obtain⟨hp,h⟩:=h
             obtain⟨ms,hms⟩:=YiY hR
             refine YeE ms hms hR fun w' hR'=>?_
             obtain⟨bs,hf,hsv,hH,hb,hoth⟩:=id hR'
             obtain⟨v,h1,h2⟩:=Yfb (P:=P) hf hH hr hv hp
             have hat:=Ya2 hR'
             cases hj with
             |none=>
               refine⟨v,h1,none,_,run_endLoop hat (by simp [Rec.at]),?_⟩
               exact ihn _ _ h sv _ _ κ sa _ hk (YkK (Ydg (YhP hs hR')))
             |some c vc hc=>
               refine⟨v,h1,some c,_,run_endLoop hat (by simp [Rec.at]),?_⟩
               exact ihn _ _ h sv _ _ _ sa _ (.code c vc K sv ks rd κ hc hk) (YkK (Ydg (YhP hs hR')))
     |rbeg=>
       cases hk with
       |rbeg l q _ _ ks κ hk=>
         exact⟨_,run_beginRound (Ya2 hR) rfl,ihn _ _ h sv _ _ κ a _ hk (Ydg hR)⟩
     |rend d=>
       cases hk with
       |rend _ l q ita _ sv ks κ R hRR hk=>
         rw[Yu0]at h
         cases hs:s.saved with
         |nil=>rw[hs]at h;exact h.elim
         |cons fr sv'=>
           rw[hs]at h
           refine⟨_,_,run_endRound none (Ya2 hR),hRR _ _ (ihn _ _ h sv _ _ κ _ _ hk (D:=D) (hD:=hD) ?_)⟩
           exact Yde (YhP hs (Ydg (lp':=q.at .ready none) hR)) d fun _ _ _=> .x _ _ (.bool _)
     |dops l=>cases hk
     |dtr t=>cases hk
     |res g al d c=>cases hk
     |ops l=>
       cases hk with
       |ops all rest _ _ _ _ _ κ hl hk=>
       show wpListIn (Wd rd) 0 P all κ rest a w
       cases l with
       |nil=>rw[Yoz hl];exact ihn _ _ h sv _ _ κ a w hk hR
       |cons v l=>
         obtain⟨o,r,rfl,hvo,hlr⟩:=YlQ hl
         obtain⟨ops,h1,h2,h3,h4,h5⟩:=Ysc hvo
         obtain⟨dst,g,op,xs⟩:=v
         simp only at h1 h2 h3 h4 h5
         subst h4
         have hnd:=Y1 h1
         have hx:∀bs,GlW P w bs (w0.wI D hD).bd->RepL w bs (w0.wI D hD).bd s.fr a.tmps.toList->RepL w bs (w0.wI D hD).bd (s.args xs) (ops.map a.eval):=fun bs hg hf=>YsG hg hf h2
         rcases h5 with⟨hg,rfl⟩ | ⟨j,pol,gs,hg,hsl,rfl⟩
         . rw[r_op]at h
           exact YeU (by simp [Region.wanted,hg]) (Ynt hE hS ih h1 h3 hlr hx h hk hR)
         . rw[YBK]at h
           have hKr:KRel P w0 (bodyPostM (Wd none) 0 P fn0 R0) (.ops l::K) sv ks rd (Exit.then (wpListIn (Wd rd) 0 P all κ r) κ):= .ops all r l K sv ks rd κ hlr hk
           cases hgd:Y8 (getL s.fr gs) pol with
           |none=>rw[hgd]at h;exact h.elim
           |some gb=>
             rw[hgd,r_g]at h
             obtain⟨bs,hf,hsv,hH,hb,hoth⟩:=id hR
             have hw:=YiB (w:=w) hf hg hsl hgd
             have hB:w0.heap.size<=w.heap.size:=hb.size
             cases hq:op.quiet with
             |true=>
               rw[hq]at h
               simp only[gK]at h
               cases he:eff s.hp (lenH s.hp) op (YL op gb (s.args xs)).2 with
               |none=>
                 rw[he]at h
                 obtain⟨rfl,v,hrun⟩:=h
                 exact YdO hw (ihn _ _ hrun sv _ _ _ _ _ hKr (Yde hR o.dst fun _ _ _=> .optF _))
               |some e=>
                 rw[he]at h
                 obtain⟨q,val,u⟩:=e
                 cases u <;> try exact h.elim
                 obtain⟨hp1,hp2,hrun⟩:=h
                 cases gb with
                 |true=>
                   obtain⟨r',v,w',bs',hrn,hr,k1,k2,k3,k4,k5⟩:=YkX (ρ:=a.eval) h1 he (hp2 rfl) (Ycd rfl (hx bs (YaA hS hb hH) hf) hp1) (fun _=>rfl) (fun _=>rfl) hH hB
                   refine YeU hw (Ya4 hnd (hrn o.dst o.type o.pos o.after o.guard) hr ?_)
                   refine ihn _ _ hrun sv _ _ _ _ _ hKr (D:=D) (hD:=hD) ?_
                   exact Yg0 (e:=⟨q,.opt true val,.no⟩) (op:=o.op) hf hsv hb hoth (.optT _ _ k1) k2 k3 k4 k5 o.dst
                 |false=>
                   exact YdO hw (ihn _ _ hrun sv _ _ _ _ _ hKr (Yde hR o.dst fun _ _ _=> .optF _))
             |false=>
               rw[hq]at h
               simp only[gK,YpM]at h
               cases hct:ctOf E op (YL op gb (s.args xs)).2 with
               |none=>
                 rw[hct]at h
                 obtain⟨hp1,ht,hfl⟩:=h
                 cases gb with
                 |true=>exact YeU hw (Ynt hE hS ih h1 h3 hlr (fun bs hg hf=>Ycd rfl (hx bs hg hf) hp1) (ht rfl) hk hR)
                 |false=>exact YdO hw (ihn _ _ (hfl rfl) sv _ _ _ _ _ hKr (Yde hR o.dst fun _ _ _=> .x _ _ (.junk _)))
               |some c=>
                 rw[hct]at h
                 obtain⟨c,ys⟩:=c
                 obtain⟨hp1,hno,hrun⟩:=h
                 obtain⟨m,rr,hm,hrun',hcs⟩:=YfV n hrun
                 cases gb with
                 |false=>exact YdO hw (ih m (by omega) _ _ hrun' sv _ _ _ _ _ hKr (Yde hR o.dst fun _ _ _=> .optF _))
                 |true=>
                   obtain⟨f,hcl,hct',hic⟩:=YmV hct
                   obtain⟨hok,hen⟩:=hE.ct f c hct'
                   obtain⟨vs,hys,hrn⟩:=YeX hE.meth h1 (h3 hic) hcl (Ycd rfl (hx bs (YaA hS hb hH) hf) hp1) (fun _=>rfl) hen
                   refine YeU hw (YaR hnd hrn ?_)
                   obtain⟨z,hzw,hzI,hargs2,hal,hzF⟩:=Ych c.alias hH.v hB 3 hys hno
                   subst hzw
                   refine(hok _ vs z _ ⟨fun b K hb=>(hH.reg b K (by rw[hzI]at hb;exact hb)).2,YeO (YaA (hJ:=hD) hS hb hH) rfl hzF⟩ hargs2 (hcs rfl)).mono ?_
                   rintro e w' ⟨r',hs,v,bs2,D2,hD2,⟨rfl,rfl⟩,rfl,k1,k2,k3,k4⟩
                   obtain⟨hD3,hcr⟩:=Yds (w0:=w0) (J1:=D) (hJ1:=hD) (hJ:=hD2) (d:=o.dst) hzI hf hsv hH hb hoth k1 k2 k3 k4 hal
                   have hcr:=hcr (.opt true (shift (lenH s.hp) r')) fun _ h=> .optT _ _ h
                   refine ih m (by omega) _ _ hrun' sv _ _ _ _ _ hKr (D:=D2) (hD:=hD3) ?_
                   have e0:({ fr:=s.fr,saved:=s.saved,hp:=s.hp++YO (lenH s.hp) []}:S)=s:=by simp [YO]
                   rw[e0]at hcr
                   exact hcr
     |code c=>
       cases hk with
       |code cc _ _ _ _ _ κ hcode hk=>
       show cc.wpIn (Wd rd) 0 P κ a w
       cases cc <;> simp only[Yce,reduceCtorEq]at hcode <;> try (cases hcode;exact h.elim)
       case skip=>cases hcode;exact wpIn_skip (ihn _ _ h sv _ _ κ a w hk hR)
       case region id ops draw=>
         cases draw with
         |true=>
           simp only[if_true]at hcode
           unfold YzX at hcode
           cases hd:YmZ P ops with
           |none=>
             rw[hd]at hcode
             simp only at hcode
             cases hdt:Yim P ops with
             |none=>rw[hdt]at hcode;cases hcode;exact h.elim
             |some r=>
               obtain⟨al,t⟩:=r
               rw[hdt]at hcode
               cases hcode
               exact Yli hE hE.mix hdt (Yin (N:=n) (K0:=K) t n (YC5 _) (YhD hk) h) (YqW hE hS ih hk) (fun v A s hg=>YqV hE hg) hR fun s' a' w' D' hD' ⟨m,hm,hrun⟩ hR'=>ih m (by omega) _ _ hrun sv _ _ κ a' w' hk hR'
           |some r=>
           obtain⟨al,dl⟩:=r
           rw[hd]at hcode
           cases hcode
           exact Yn7 hE hE.mix hd (Yil (N:=n) (K0:=K) dl n (YC5 _) (YhD hk) h) (YqW hE hS ih hk) (fun v A s hg=>YqV hE hg) hR fun s' a' w' D' hD' ⟨m,hm,hrun⟩ hR'=>ih m (by omega) _ _ hrun sv _ _ κ a' w' hk hR'
         |false=>
           simp only[YDB,if_false]at hcode
           cases hl:YaC P ops ops.toList with
           |none=>rw[hl]at hcode;cases hcode;exact h.elim
           |some l=>
           rw[hl]at hcode
           cases hcode
           exact wpIn_region_list (ihn _ _ h sv _ _ _ a w (.ops ops ops.toList l K sv ks rd κ hl hk) hR)
       case seq x y=>
         obtain⟨vx,hx,hcode⟩:=YCV.1 hcode
         obtain⟨vy,hy,rfl⟩:=YCY.1 hcode
         exact wpIn_seq (ihn _ _ h sv _ _ _ a w (.code x vx _ sv ks rd _ hx (.code y vy K sv ks rd κ hy hk)) hR)
       case cond cnd x y=>
         obtain⟨z,hz,hcode⟩:=YCV.1 hcode
         obtain⟨vx,hx,hcode⟩:=YCV.1 hcode
         obtain⟨vy,hy,rfl⟩:=YCY.1 hcode
         rw[YuY]at h
         obtain⟨bs,hf,hsv,hH,hb,hoth⟩:=id hR
         have hrep:=X_of (w:=w) (YaA (hJ:=hD) hS hb hH) hf hz
         generalize s.x z=v at h hrep
         cases v <;> try exact h.elim
         rename_i b
         have hb1:=hrep.bool_inv
         obtain⟨ht,hfl⟩:=h
         refine wpIn_cond_split hb1 (fun hb=>ihn _ _ (ht hb) sv _ _ _ a w (.code x vx K sv ks rd κ hx hk) hR) (fun hb=>ihn _ _ (hfl hb) sv _ _ _ a w (.code y vy K sv ks rd κ hy hk) hR)
       case block id c=>
         obtain⟨vc,hc,rfl⟩:=YCY.1 hcode
         exact wpIn_block (ihn _ _ h sv _ _ _ a w (.code c vc _ sv ks rd _ hc (.inBlock id K sv ks rd κ hk)) hR)
       case scope c=>
         obtain⟨vc,hc,rfl⟩:=YCY.1 hcode
         exact YoA (ihn _ _ h sv _ _ _ a w (.code c vc _ sv ks rd _ hc (.inScope K sv ks rd κ hk)) hR)
       case label l=>cases hcode;exact wpIn_label (ihn _ _ h sv _ _ κ a w hk hR)
       case loop c=>
         obtain⟨vc,hc,rfl⟩:=YCY.1 hcode
         obtain⟨σ,head,inv,μ,lf,hlf,⟨x0,hx0,hle0⟩,hround⟩:=h
         obtain⟨D0,hD0,hR0'⟩:=YuL (hlf _ _ hle0) hR
         refine wpIn_loop_ghost (fun k a w=> ∃x D,∃hD:Ext w0 D,μ x=k/\inv x/\Rl ⟨w0.wI D hD,ks⟩ (head x) a sv w) (μ x0) ⟨x0,D0,hD0,rfl,hx0,hR0'⟩ ?_
         rintro k a w ⟨x,D,hD,rfl,hx,hRx⟩
         exact ihn _ _ (hround x hx) sv _ _ _ a w (.code c vc _ sv ks rd _ hc (.inLoop _ _ K sv ks rd κ (by
           rintro s' a' w' D' hD' ⟨y,hy,hlt,hle⟩ hR'
           obtain⟨D1,hD1,hR1⟩:=YuL (hlf _ _ hle) hR'
           exact⟨μ y,hlt,y,D1,hD1,rfl,hy,hR1⟩) hk)) hRx
       case exit id=>
         cases hcode
         rw[YuZ]at h
         cases hp:YbC id K with
         |no=>rw[hp]at h;exact h.elim
         |go K'=>
           rw[hp]at h
           obtain⟨κ',h1,h2⟩:=YdE hp hk
           exact wpIn_exit (h2 _ _ (ihn _ _ h sv _ _ κ' a w h1 hR))
         |jump d K'=>
           rw[hp]at h
           exact wpIn_exit (hjump h (Ybo hp hk))
       case ret=>
         cases hcode
         rw[YBP]at h
         cases hp:Yaa K with
         |no=>rw[hp]at h;exact h.elim
         |go K'=>
           rw[hp]at h
           obtain⟨κ',h1,h2⟩:=Yb5 hp hk
           exact wpIn_ret (h2 _ _ (ihn _ _ h sv _ _ κ' a w h1 hR))
         |jump d K'=>
           rw[hp]at h
           exact wpIn_ret (hjump h (YaM hp hk))
       case rangeFunc g ps ca cb=>
         obtain⟨z,hz,hcode⟩:=YCV.1 hcode
         obtain⟨va,hva,hcode⟩:=YCV.1 hcode
         obtain⟨vb,hvb,rfl⟩:=YCY.1 hcode
         rw[YrB]at h
         obtain⟨bs,hf,hsv,hH,hb,hoth⟩:=id hR
         have hrep:=X_of (w:=w) (YaA (hJ:=hD) hS hb hH) hf hz
         generalize s.x z=v at h hrep
         unfold YnE at h
         split at h
         . rename_i gf us cs
           unfold YnD at h
           cases hfn:E.fn gf with
           |none=>rw[hfn]at h;exact h.elim
           |some vf=>
             rw[hfn]at h
             obtain⟨hnr,h⟩:=h
             have hrd:=YaL hnr hk
             subst hrd
             obtain⟨fn,hfs,hvf,hen⟩:=hE.fn gf vf hfn
             obtain⟨c,hbody,hcode,hres',hnt⟩:=Ydm hvf
             obtain⟨uv,cv,hgv,g1,g2⟩:=hrep.fn_inv
             refine wpIn_rangeFunc fun fr _=>?_
             have hB:w0.heap.size<=w.heap.size:=hb.size
             obtain⟨q,hq⟩:∃q:Rec,q= { fn:=fr,ps:=ps.toList,ca:=ca,cb:=cb,D:=w.heap.size,tmps:=a.tmps}:=⟨_,rfl⟩
             obtain⟨W1,hW1⟩:∃W1,W1=(w.alloc (.deferred (some []))).alloc (.loop (q.at .ready none)):=⟨_,rfl⟩
             have hent:(Instr.enterLoop fr a.tmps ps ca cb (Wd none).round).run P w= .ok (w.heap.size+1,[mark w.heap.size]) W1:=by
               rw[hW1,hq]
               exact run_enterLoop_outer _ _ _ _ _
             refine⟨w.heap.size+1,[mark w.heap.size],W1,{ target:= .fn (.func gf) cv.toArray,args:=uv.toArray++ #[.func (.yield (w.heap.size+1)) #[] #[]]},W1,gf,(uv++(.func (.yield (w.heap.size+1)) #[] #[]::cv)).toArray,W1,
               hent,?_,fun _ _=>trivial,?_,fun h=>(by cases h),?_⟩
             . simp only[resolve,hgv,Deferred.ofValue,Sem.run_bind,Sem.run_pure,Result.andThen_ok]
               simp [Act.eval]
             . simp only[invoke,YbK hen]
               simp
             . refine Yez (b:=vf.body) hfs hbody ?_
               refine ihn _ _ (h (w.heap.size+1)) ({ a with defers:=[mark w.heap.size]++a.defers}::sv) _ _ _ { tmps:=_,defers:=[]} _ (.code c vf.body _ _ _ _ _ hcode (.rfrm vf.res _ q (q.at .ready none) va vb none fn _ _ _ _ _ _ hres' ps.toList (by rw[hq]) (by rw[hq]) (by rw[hq];exact hva) (by rw[hq];exact hvb) .none hk)) (D:=D) (hD:=hD) ?_
               rw[hW1]
               refine YtV hf hsv hH hb hoth ?_
               have hy:Rep w bs (w0.wI D hD).bd (.fn (.yield (w.heap.size+1)) [] []) (.func (.yield (w.heap.size+1)) #[] #[]):= .x _ _ (.fn _ [] [] [] [] .nil .nil)
               have:=Ye8 (n:=fn.ntmps) (g1.append (.cons _ _ _ _ hy g2))
               rw[hnt]
               simpa using this
         . exact h.elim
 exact fun n=>main n n (YC5 _)
end
end Go.Vx
namespace Go.Vx
open Go.RowKit
section
variable {P:Program} {E:Env}
def YH(al:Bool)(k:SV->List HO->Prop)(r:SV)(hp:List HO):Prop:=
 ∃r',k r' []/\le 0 0 (expo hp r) r'/\(al=false->Yo r')
theorem Ylg:Cut [] [] 0 0:=⟨rfl,rfl,fun _ _ h=>absurd h (Nat.not_lt_zero _),fun _ _ h=>absurd h (Nat.not_lt_zero _)⟩
theorem XRepL.up{w:World}{bs:List BK}{B:Bd}{l:List SV}{vs:List Value}(h:XRepL w bs B l vs):RepL w bs B l vs:=h.rep
theorem Yb{f:FuncId}{fn:Func}{vf:VF}(hf:P.funcs[f]? =some fn)(hvf:Yh P fn=some vf)(hE:Yr P E)(n:Nat)(c:Ctr)
   (h:∀(args:List SV) (k:SV->List HO->Prop),CSat (c.of args) k->∃args',leL 0 0 args args'/\run E (YH c.alias k) vf.res n [.code vf.body] { fr:=padL vf.ntmps args',saved:=[],hp:=[]}):c.ok P f:=by
 intro args vs z k hsat hx hc
 obtain⟨args',hle,hrun⟩:=h args k hc
 have hk0:YbI z.toWorld [] z.bd z.toWorld [] (z.wI z.I (Y7 z)).bd:=⟨rfl,fun _ _ h=>h,fun b hf cs T fz ho=>⟨ho,Ybe,hf.2,z.ex b hf.2⟩⟩
 have hx2:RepL z.toWorld [] (z.wI z.I (Y7 z)).bd args' vs:=YeD Ylg _ _ hle (XRepL.keepG hk0 hx).rep
 obtain⟨body,hbody,hcode,hres,hnt⟩:=Ydm hvf
 refine Yci (n:=0) (Yez (b:=vf.body) hf hbody ?_)
 refine YkL (w0:=z) (fn0:=fn) (R0:=fun e w'=> ∃r hs v bs,∃J,∃hJ:Ext z J,k r hs/\e= .returned v/\Rep w' bs (z.wI J hJ).bd r v/\Hp w' bs (z.wI J hJ).bd hs/\BelowI z.bd z.toWorld w'/\(c.alias=false->Yo r/\Ybz hs)) hE hsat.2 hres (by
   rintro r hp v w' bs D hD ⟨r',hk,hle,hfr⟩ hr hH hb
   refine⟨r',[],v,[],D,hD,hk,rfl,YAq Ylg _ _ hle (.x _ _ (Yv1 hH hr)),hp0 fun b K hb=>(hH.reg b K hb).2,hb,fun ha=>⟨hfr ha,trivial⟩⟩) n _ _ hrun [] [] none _
   { tmps:=vs.toArray++Array.replicate (fn.ntmps-vs.toArray.size) undef,defers:=[]} z.toWorld (.code body vf.body [] [] [] none _ hcode .nil) (D:=z.I) (hD:=Y7 z) ?_
 refine⟨[],?_,.nil,hp0 (hJ:=Y7 z) hsat.1,BelowI.refl _ _,⟨fun _ h=>(by cases h),.nil,[[]],rfl,by simp,fun _ h=>(by simp at h)⟩⟩
 have:=Ye8 (n:=fn.ntmps) hx2
 rw[hnt]
 simpa using this
def Yuf:List VOp->List Nat
 | []=>[]
 | ⟨some d,_,_,_⟩::l=>d::Yuf l
 | ⟨none,_,_,_⟩::l=>Yuf l
def wrAl:List (Nat×AL)->List Nat
 | []=>[]
 | (d,_)::l=>d::wrAl l
def YkZ:List DOp->List Nat
 | []=>[]
 | ⟨⟨some d,_,_,_⟩,_⟩::l=>d::YkZ l
 | ⟨⟨none,_,_,_⟩,_⟩::l=>YkZ l
def Ysg:DTr->List Nat
 | .leaf=>[]
 | .ops l t=>YkZ l++Ysg t
 | .br a b=>Ysg a++Ysg b
def wrC:VC->List Nat
 | .region l=>Yuf l
 | .draw al l=>wrAl al++YkZ l
 | .drawT al t=>wrAl al++Ysg t
 | .seq a b=>wrC a++wrC b
 | .cond _ a b=>wrC a++wrC b
 | .block _ c=>wrC c
 | .loop c=>wrC c
 |_=>[]
def junkAt:List SV->List Nat->List SV
 |fr,[]=>fr
 |fr,n::l=>junkAt (setL fr n .junk) l
def YkG:List SV->List (Nat×SV)->List SV
 |fr,[]=>fr
 |fr,(n,v)::l=>YkG (setL fr n v) l
def Yrv:List HO->List (Nat×HO)->List HO
 |hp,[]=>hp
 |hp,(n,v)::l=>Yrv (setH hp n v) l
def Yka(s:S)(body:VC)(ghosts:List HO)(Yag:List (Nat×SV))(blocks:List (Nat×HO)):S:=
 { fr:=YkG (junkAt s.fr (wrC body)) Yag,saved:=s.saved,hp:=Yrv (s.hp++ghosts) blocks}
theorem Loop.at{r:List It->S->Prop}{body:VC}{K:List It}{s:S}(σ:Type)(Yag:σ->List (Nat×SV))(blocks:σ->List (Nat×HO))(ghosts:List HO)(inv:σ->Prop)(μ:σ->Nat)
   (h0:∃x,inv x/\leS s (Yka s body ghosts (Yag x) (blocks x)))
   (h:∀x,inv x->r (.code body:: .inLoop (fun s'=> ∃y,inv y/\μ y<μ x/\leS s' (Yka s body ghosts (Yag y) (blocks y)))::K) (Yka s body ghosts (Yag x) (blocks x))):Loop r body K s leP:=
 ⟨σ,fun x=>Yka s body ghosts (Yag x) (blocks x),inv,μ,leS,fun _ _ h=>⟨[],trivial,[],trivial,h⟩,h0,h⟩
def keepG:List Nat->List SV->List SV
 | [],l=>Yqx l
 |_,[]=>[]
 |0::ks,x::l=>x::keepG ks l
 | (k+1)::ks,_::l=> .junk::keepG (k::ks) l
def YiC(s:S)(keep:List Nat)(ghosts:List HO)(Yag:List (Nat×SV))(blocks:List (Nat×HO)):S:=
 { fr:=YkG (keepG keep s.fr) Yag,saved:=s.saved,hp:=Yrv (s.hp++ghosts) blocks}
theorem Loop.keep{r:List It->S->Prop}{body:VC}{K:List It}{s:S}(keep:List Nat)(σ:Type)(Yag:σ->List (Nat×SV))(blocks:σ->List (Nat×HO))(ghosts:List HO)(inv:σ->Prop)(μ:σ->Nat)
   (h0:∃x,inv x/\leS s (YiC s keep ghosts (Yag x) (blocks x)))
   (h:∀x,inv x->r (.code body:: .inLoop (fun s'=> ∃y,inv y/\μ y<μ x/\leS s' (YiC s keep ghosts (Yag y) (blocks y)))::K) (YiC s keep ghosts (Yag x) (blocks x))):Loop r body K s leP:=
 ⟨σ,fun x=>YiC s keep ghosts (Yag x) (blocks x),inv,μ,leS,fun _ _ h=>⟨[],trivial,[],trivial,h⟩,h0,h⟩
end
end Go.Vx
namespace Go.Vx
variable {al:Bool} {k:SV->List HO->Prop} {hp:List HO} {m n:Nat}
theorem Yl{κ:IntKind}{x:Int}(h:k (.int κ x) []):YH al k (.int κ x) hp:=⟨_,h,by simp [expo,view,le],fun _=>by simp [Yo]⟩
theorem YB{b:Bool}(h:k (.bool b) []):YH al k (.bool b) hp:=⟨_,h,by simp [expo,view,le],fun _=>by simp [Yo]⟩
theorem YT{x r':SV}(h:k r' [])(hl:le 0 0 (expo hp x) r')(hf:al=false->Yo r'):YH al k x hp:=⟨_,h,hl,hf⟩
theorem Yww{x:SV}:le m n x .junk=True:=by cases x <;> simp [le]
theorem YqK{κ κ':IntKind}{x y:Int}:le m n (.int κ x) (.int κ' y)=(κ=κ'/\x=y):=by simp [le]
theorem Ywt{x y:Bool}:le m n (.bool x) (.bool y)=(x=y):=by simp [le]
theorem YAp:le m n .nil .nil=True:=by simp [le,bnd]
theorem YAo{a b:List SV}:le m n (.agg a) (.agg b)=leL m n a b:=by simp [le]
theorem YAw{a b:List SV}:le m n (.tup a) (.tup b)=leL m n a b:=by simp [le]
theorem YAy{t t' z z':Bool}{l l' sz sz':Nat}{g g':Nat->List SV}:le m n (.vs t z l sz g) (.vs t' z' l' sz' g')=((t'=true->t=true)/\z=z'/\l=l'/\sz=sz'/\∀k,k<l->leXL (g k) (g' k)):=by simp [le]
theorem YAt{i o i' o':Nat}:le m n (.ptr i o) (.ptr i' o')=(i=i'/\o=o'/\i'<n):=by simp [le,bnd,and_assoc]
theorem YAs{i lo l sz i' lo' l' sz':Nat}:le m n (.own i lo l sz) (.own i' lo' l' sz')=(i=i'/\lo=lo'/\l=l'/\sz=sz'/\i<n):=by simp [le]
theorem Ywy{t t':Bool}{c c':List SV}:le m n (.xp t c) (.xp t' c')=((t'=true->t=true)/\leXL c c'):=by simp [le]
theorem le_fn{f f':Fn}{a b a' b':List SV}:le m n (.fn f a b) (.fn f' a' b')=(f=f'/\a=a'/\b=b'/\bndL n a'/\bndL n b'):=by simp [le,bnd,and_assoc]
theorem YAr{b b':Bool}{x y:SV}:le m n (.opt b x) (.opt b' y)=(b=b'/\x=y/\bnd n y):=by simp [le,bnd,and_assoc]
theorem YAx{x y:Value}:le m n (.val x) (.val y)=(x=y):=by simp [le,bnd]
theorem Ywu{i k o sz i' k' o' sz':Nat}:le m n (.elem i k o sz) (.elem i' k' o' sz')=(i=i'/\k=k'/\o=o'/\sz=sz'/\i'<n):=by simp [le,bnd,and_assoc]
theorem Yws{x:List SV}:leXL x x=True:=eq_true (Ye x)
theorem Yof{i lo l sz:Nat}:le m n .nil (.own i lo l sz)=(m<=i/\i<n/\lo=0/\l=0):=by simp [le]
theorem YqL{t z:Bool}{l sz:Nat}{g:Nat->List SV}:le m n .nil (.vs t z l sz g)=(z=true/\l=0):=by simp [le]
theorem YqF{z:Bool}{sz l:Nat}{g:Nat->List SV}{r:List HO}:leH m n [] (.own z sz l g::r)=(z=true/\l=0/\leH m n [] r):=rfl
theorem Yts:lenH []=0:=rfl
theorem YqO{x:HO}{a:List HO}:lenH (x::a)=lenH a+1:=rfl
theorem Yln:leL m n [] []=True:=by simp [leL]
theorem YiK{x y:SV}{a b:List SV}:leL m n (x::a) (y::b)=(le m n x y/\leL m n a b):=by simp [leL]
theorem Ytp:leLL m n [] []=True:=by simp [leLL]
theorem YqG{x y:List SV}{a b:List (List SV)}:leLL m n (x::a) (y::b)=(leL m n x y/\leLL m n a b):=by simp [leLL]
theorem Ywr{h:List HO}:leH m n h []=True:=by cases h <;> simp [leH]
theorem Ytn{a b:List SV}:leH1 m n (.box a) (.box b)=leL m n a b:=by simp [leH1]
theorem YAu{a:Nat}{C:Nat->Int->Prop}:le m n (.row a C) (.row a C)=True:=eq_true ⟨rfl,trivial⟩
theorem Ytr{C:Int->Prop}:le m n (.rcell C) (.rcell C)=True:=eq_true ⟨rfl,trivial⟩
theorem Ywv{kk:List IntKind}{C:List Int->Int->Prop}:le m n (.imap kk C) (.imap kk C)=True:=eq_true ⟨rfl,trivial⟩
theorem YAv{i:Nat}:le m n (.smp i) (.smp i)=(i<n):=propext ⟨fun h=>h.2,fun h=>⟨rfl,h⟩⟩
theorem YvD{a:Nat}{C:Nat->Int->Prop}:bnd n (.row a C)=True:=rfl
theorem YpK{C:Int->Prop}:bnd n (.rcell C)=True:=rfl
theorem YsT{kk:List IntKind}{C:List Int->Int->Prop}:bnd n (.imap kk C)=True:=rfl
theorem YvE{i:Nat}:bnd n (.smp i)=(i<n):=rfl
theorem YqE{l l':List (List UInt8)}:leH1 m n (.smap l) (.smap l')=(l=l'):=rfl
theorem YqD:leH1 m n .gone .gone=True:=by simp [leH1]
theorem Yto{z z':Bool}{sz sz' l l':Nat}{g g':Nat->List SV}:leH1 m n (.own z sz l g) (.own z' sz' l' g')=(z=z'/\sz=sz'/\l=l'/\∀k,k<l->leL m n (g k) (g' k)):=by simp [leH1]
theorem YAl{fr fr':List SV}{sv sv':List (List SV)}{h h':List HO}:leS ⟨fr,sv,h⟩ ⟨fr',sv',h'⟩=(leL (lenH h) (lenH h') fr fr'/\leLL (lenH h) (lenH h') sv sv'/\leH (lenH h) (lenH h') h h'):=rfl
theorem Yvy{k:IntKind}{x:Int}:bnd n (.int k x)=True:=rfl
theorem YsR{b:Bool}:bnd n (.bool b)=True:=rfl
theorem YvG{v:Value}:bnd n (.val v)=True:=rfl
theorem Yvz:bnd n .nil=True:=rfl
theorem YsU:bnd n .junk=True:=rfl
theorem YzK{t z:Bool}{l sz:Nat}{g:Nat->List SV}:bnd n (.vs t z l sz g)=True:=rfl
theorem YzL{t:Bool}{c:List SV}:bnd n (.xp t c)=True:=rfl
theorem Yvx{c:List SV}:bnd n (.agg c)=bndL n c:=rfl
theorem YvF{c:List SV}:bnd n (.tup c)=bndL n c:=rfl
theorem YvC{i o:Nat}:bnd n (.ptr i o)=(i<n):=rfl
theorem YvB{i a b c:Nat}:bnd n (.own i a b c)=(i<n):=rfl
theorem YsS{i a b c:Nat}:bnd n (.elem i a b c)=(i<n):=rfl
theorem YzJ{f:Fn}{a b:List SV}:bnd n (.fn f a b)=(bndL n a/\bndL n b):=rfl
theorem YpJ{t:TypeId}{v:SV}:bnd n (.iface t v)=bnd n v:=rfl
theorem YvA{b:Bool}{v:SV}:bnd n (.opt b v)=bnd n v:=rfl
theorem YsQ:bndL n []=True:=rfl
theorem YpI{x:SV}{l:List SV}:bndL n (x::l)=(bnd n x/\bndL n l):=rfl
mutual
theorem YP:∀(x:SV),bnd n x->le m n x x
 | .int _ _,_=>⟨rfl,rfl⟩
 | .bool _,_=>rfl
 | .val _,h=>⟨rfl,h⟩
 | .nil,h=>⟨rfl,h⟩
 | .agg cs,h=>Yi cs h
 | .tup cs,h=>Yi cs h
 | .vs _ _ _ _ get,_=>⟨id,rfl,rfl,rfl,fun k _=>Ye (get k)⟩
 | .xp _ cs,_=>⟨id,Ye cs⟩
 | .ptr _ _,h=>⟨rfl,h⟩
 | .own _ _ _ _,h=>⟨rfl,rfl,rfl,rfl,h⟩
 | .elem _ _ _ _,h=>⟨rfl,h⟩
 | .fn _ _ _,h=>⟨rfl,h⟩
 | .iface _ _,h=>⟨rfl,h⟩
 | .opt _ _,h=>⟨rfl,h⟩
 | .cut _,h=>⟨rfl,h⟩
 | .row _ _,h=>⟨rfl,h⟩
 | .rcell _,h=>⟨rfl,h⟩
 | .imap _ _,h=>⟨rfl,h⟩
 | .smp _,h=>⟨rfl,h⟩
 | .junk,_=>trivial
theorem Yi:∀(x:List SV),bndL n x->leL m n x x
 | [],_=>trivial
 |x::l,h=>⟨YP x h.1,Yi l h.2⟩
end
theorem YjJ:∀(k:Nat)(l:List SV),bndL n l->bndL n (Yy k l)
 |0,_,_=>trivial
 |_+1,[],_=>trivial
 |k+1,_::l,h=>⟨h.1,YjJ k l h.2⟩
theorem YjI:∀(k:Nat)(l:List SV),bndL n l->bndL n (Yq k l)
 |0,_,h=>h
 |_+1,[],_=>trivial
 |k+1,_::l,h=>YjI k l h.2
theorem YqI{sz k:Nat}{cs:List SV}(h:bndL n cs=True):leL m n (YaW sz cs k) (YaW sz cs k)=True:=
 eq_true (Yi _ (YjJ _ _ (YjI _ _ (of_eq_true h))))
theorem YxC(n:Nat):Yja n 0=n:=rfl
theorem Yk4(k:Nat):YcG 0 k=k:=rfl
theorem YrX(n:Nat):Yja n (Int.toNat 1)=n-1:=rfl
theorem Ypp(k:Nat):YcG (Int.toNat 1) k=1+k:=rfl
end Go.Vx
