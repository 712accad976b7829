/- Operations of a region that draws its order: what exchanges. -/
import Derived.Test.YtlfhmpkopcnheaaGreatMgX40b
import Derived.MapKept
import Derived.WideKeyRuns
open Array renaming getElem?_eq_some_iff->YHy
open Bool renaming and_eq_true->YHn,false_eq_true->YHG,not_eq_true'->YHD,or_eq_false_iff->YHp,or_eq_true->YHS
open Int renaming toNat->YH0
open List renaming any_eq_true->YIt,foldl_cons->YHX,getD_eq_getElem?_getD->YHo,getElem?_append->YIh,getElem?_append_left->YH6,getElem?_cons_zero->YH9,length_cons->YH8,map_cons->YHH,mem_append->YHO,mem_cons->YHI,mem_cons_of_mem->YHu,mem_cons_self->YHw,mem_map->YIr,mem_singleton->YHZ
open Nat renaming beq->YH1,eq_of_beq_eq_true->YHF,le_refl->YHr,lt_of_lt_of_le->YIa,lt_or_ge->YHA,not_lt_zero->YIf,pow_le_pow_right->YHL,zero_add->YIb
open Option renaming bind_eq_some_iff->YHl,map_eq_some_iff->YHm
set_option linter.all false
namespace Go.Vx
theorem Yby:∀(l:List SV)(n m:Nat)(x:SV),n≠m->getL (setL l n x) m=getL l m
 | [],_,_,_,_=>rfl
 |_::_,0,0,_,h=>absurd rfl h
 |_::_,0,_+1,_,_=>rfl
 |_::_,_+1,0,_,_=>rfl
 |_::l,n+1,m+1,x,h=>Yby l n m x (fun e=>h (by rw[e]))
theorem Ycf:∀(l:List SV)(n m:Nat)(x y:SV),n≠m->setL (setL l n x) m y=setL (setL l m y) n x
 | [],_,_,_,_,_=>rfl
 |_::_,0,0,_,_,h=>absurd rfl h
 |_::_,0,_+1,_,_,_=>rfl
 |_::_,_+1,0,_,_,_=>rfl
 |a::l,n+1,m+1,x,y,h=>congrArg (a::·) (Ycf l n m x y (fun e=>h (by rw[e])))
section
variable {s:S} {d d':Option Nat} {v u:SV}
theorem Ypz{x:X}(h:∀n,d=some n->n∉x.slot):(s.put d v).x x=s.x x:=by
 cases d with
 |none=>rfl
 |some n=>
  cases x with
  |cn _=>rfl
  |tm m=>exact Yby _ _ _ _ (fun e=>h n rfl (by simp [X.slot,e]))
theorem YiD:∀{xs:List X},(∀n,d=some n->n∉Yab xs)->(s.put d v).args xs=s.args xs
 | [],_=>rfl
 |x::l,h=>by
  simp only[S.args]
  rw[Ypz (fun n e hm=>h n e (by simp [Yab,hm])),YiD (fun n e hm=>h n e (by simp [Yab,hm]))]
theorem YeK(h:∀n,d=some n->d'≠some n):(s.put d v).put d' u=(s.put d' u).put d v:=by
 cases d with
 |none=>cases d' <;> rfl
 |some n=>
  cases d' with
  |none=>rfl
  |some m=>simp only[S.put];rw[Ycf _ _ _ _ _ (fun e=>h n rfl (by rw[e]))]
end
def Grow(hp hp':List HO):Prop:=∀i,getH hp i≠ .gone->getH hp' i=getH hp i
theorem Ykt{hp hp':List HO}(hg:Grow hp hp'){x:SV}{r:Prop×List SV}(h:Yat hp x=some r):Yat hp' x=some r:=by
 cases x <;> simp only[Yat]at h⊢ <;> try exact h
 case ptr i off=>rw[hg i (by intro e;rw[e]at h;cases h)];exact h
 case elem i k off sz=>rw[hg i (by intro e;rw[e]at h;cases h)];exact h
theorem YnA{hp hp':List HO}(hg:Grow hp hp'){n n':Nat}{o:VO}(hq:o.quiet=true){xs:List SV}{e:Ef}(h:eff hp n o xs=some e):eff hp' n' o xs=some e:=by
 cases o <;> simp only[VO.quiet,reduceCtorEq]at hq <;> try exact h
 case load agg size=>
  simp only[eff,YhF]at h⊢
  split at h
  ·rename_i a
   obtain⟨r,hr,h⟩:=YHl.1 h
   simp only[Ykt hg hr,Option.bind_some]
   exact h
  ·cases h
 case idxArr n size=>
  simp only[eff,Yct]at h⊢
  split at h
  ·rename_i j k i
   rw[hg j (by intro e;rw[e]at h;cases h)];exact h
  ·rename_i j o k i
   rw[hg j (by intro e;rw[e]at h;cases h)];exact h
  ·exact h
  ·cases h
 case sliceArr n size lo hi=>
  simp only[eff]at h⊢
  unfold Ybx at h⊢
  split at h
  ·rename_i j
   rw[hg j (by intro e;rw[e]at h;cases h)];exact h
  ·cases h
 case isNil neg=>
  simp only[eff]at h⊢
  unfold eNil at h⊢
  split at h
  ·rename_i x
   split at h <;> try exact h
   rename_i i _ _ _
   rw[hg i (by intro e;rw[e]at h;cases h)];exact h
  ·cases h
def fEff(v:VOp)(s:S):Option (Prop×SV):=
 match v.g with
 |none=>match eff s.hp (lenH s.hp) v.op (s.args v.xs)with
  |some ⟨p,x,.no⟩=>some (p,x)
  |_=>none
 |some (g,pol)=>match Yah (getL s.fr g) pol with
  |none=>none
  |some gb=>match eff s.hp (lenH s.hp) v.op (YR v.op gb (s.args v.xs)).2 with
   |some ⟨q,x,.no⟩=>some ((YR v.op gb (s.args v.xs)).1/\(gb=true->q),.opt gb x)
   |_=>none
def Yhg(o:Option (Prop×SV))(d:Option Nat)(A:S->Prop)(s:S):Prop:=
 match o with
 |some (p,x)=>p/\A (s.put d x)
 |none=>False
def ctW(d:Option Nat)(A:S->Prop)(s:S)(ys:List SV)(c:Option Ctr):Prop:=
 match c with
 |some c=>(c.alias=true->Yai ys=true)/\CSat (c.of (viewN false s.hp 3 ys)) fun r hs=>A (S.put { fr:=s.fr,saved:=s.saved,hp:=s.hp++YS (lenH s.hp) hs} d (shift (lenH s.hp) r))
 |none=>False
def effW(d:Option Nat)(A:S->Prop)(s:S)(e:Option Ef):Prop:=
 match e with
 |some e=>e.pre/\A ((s.upd e.upd).put d e.val)
 |none=>False
def badW(b:Bool)(p:Prop):Prop:=
 match b with
 |true=>False
 |false=>p
def psdW(v:VOp)(A:S->Prop)(s:S)(c:Option CRes):Prop:=
 match c with
 |some c=>CSat c fun r hs=>A (S.put { fr:=s.fr,saved:=s.saved,hp:=s.hp++YS (lenH s.hp) hs} v.dst (shift (lenH s.hp) r))
 |none=>badW v.op.bad (effW v.dst A s (eff s.hp (lenH s.hp) v.op (s.args v.xs)))
def YkP(E:Env)(v:VOp)(A:S->Prop)(s:S)(c:Option (FuncId×List SV)):Prop:=
 match c with
 |some (f,ys)=>ctW v.dst A s ys (E.ct f)
 |none=>psdW v A s (psd v.op (s.args v.xs))
def ctGW(gb:Bool)(d:Option Nat)(A:S->Prop)(s:S)(p:Prop)(c:Option (Ctr×List SV)):Prop:=
 match c with
 |some (c,ys)=>p/\(c.alias=true->Yai ys=true)/\∃r,A (s.put d (.opt gb r))/\(gb=true->CSat (c.of (viewN false s.hp 3 ys)) fun r' hs=>r=shift (lenH s.hp) r'/\hs=[])
 |none=>False
def YgO(E:Env)(v:VOp)(A:S->Prop)(s:S)(g:Option Bool):Prop:=
 match g with
 |some gb=>ctGW gb v.dst A s (YR v.op gb (s.args v.xs)).1 (ctOf E v.op (YR v.op gb (s.args v.xs)).2)
 |none=>False
def dopW(E:Env)(v:VOp)(A:S->Prop)(s:S):Prop:=
 match v.op.quiet with
 |true=>Yhg (fEff v s) v.dst A s
 |false=>match v.g with
  |none=>YkP E v A s (callee E v.op (s.args v.xs))
  |some (g,pol)=>YgO E v A s (Yah (getL s.fr g) pol)
section
variable {E:Env} {v:VOp} {A B:S->Prop} {s:S}
theorem Yap(h:∀s,A s->B s)(hd:dopW E v A s):dopW E v B s:=by
 unfold dopW at*
 split
 ·rename_i hq
  rw[hq]at hd
  simp only[Yhg]at*
  cases hf:fEff v s with
  |none=>rw[hf]at hd;exact hd
  |some r=>rw[hf]at hd;exact⟨hd.1,h _ hd.2⟩
 ·rename_i hq
  rw[hq]at hd
  simp only at hd
  split
  ·rename_i hg
   rw[hg]at hd
   simp only at hd
   unfold YkP at*
   split
   ·rename_i f ys hc
    rw[hc]at hd
    simp only[ctW]at*
    cases hct:E.ct f with
    |none=>rw[hct]at hd;exact hd
    |some c=>rw[hct]at hd;exact⟨hd.1,hd.2.mono fun r hs hh=>h _ hh⟩
   ·rename_i hc
    rw[hc]at hd
    simp only[psdW]at*
    cases hps:psd v.op (s.args v.xs)with
    |some c=>rw[hps]at hd;exact CSat.mono hd fun r hs hh=>h _ hh
    |none=>
    rw[hps]at hd
    simp only at*
    cases hbd:v.op.bad with
    |true=>rw[hbd]at hd;exact hd
    |false=>
    rw[hbd]at hd
    simp only[badW,effW]at*
    cases he:eff s.hp (lenH s.hp) v.op (s.args v.xs)with
    |none=>rw[he]at hd;exact hd
    |some e=>rw[he]at hd;exact⟨hd.1,h _ hd.2⟩
  ·rename_i g pol hg
   rw[hg]at hd
   simp only at hd
   unfold YgO at*
   split
   ·rename_i gb hgb
    rw[hgb]at hd
    simp only[ctGW]at*
    cases hct:ctOf E v.op (YR v.op gb (s.args v.xs)).2 with
    |none=>rw[hct]at hd;exact hd
    |some c=>rw[hct]at hd;obtain⟨h1,h0,r,h2,h3⟩:=hd;exact⟨h1,h0,r,h _ h2,h3⟩
   ·rename_i hgb
    rw[hgb]at hd;exact hd
theorem YgA(hq:v.op.quiet=true):¬dopW E v (fun _=>False) s:=by
 unfold dopW
 rw[hq]
 simp only[Yhg]
 cases fEff v s with
 |none=>exact id
 |some r=>exact fun h=>h.2
theorem Ydu{d:Option Nat}{x:SV}(h:∀n,d=some n->n∉v.reads):fEff v (s.put d x)=fEff v s:=by
 have ha:(s.put d x).args v.xs=s.args v.xs:=YiD fun n e hm=>h n e (by simp [VOp.reads,hm])
 unfold fEff
 cases hg:v.g with
 |none=>simp only[ha,Ydd]
 |some gp=>
  obtain⟨g,pol⟩:=gp
  have hgg:getL (s.put d x).fr g=getL s.fr g:=by
   cases d with
   |none=>rfl
   |some n=>exact Yby _ _ _ _ (fun e=>h n rfl (by simp [VOp.reads,hg,e]))
  simp only[ha,Ydd,hgg]
theorem YlP{s s':S}(hf:s'.fr=s.fr):∀(xs:List X),s'.args xs=s.args xs
 | []=>rfl
 |x::l=>by
  simp only[S.args]
  rw[YlP hf l]
  cases x <;> simp [S.x,hf]
theorem Yet{s':S}{r:Prop×SV}(hq:v.op.quiet=true)(hf:s'.fr=s.fr)(hg:Grow s.hp s'.hp)(h:fEff v s=some r):fEff v s'=some r:=by
 unfold fEff at*
 simp only[YlP hf,hf]
 cases hgd:v.g with
 |none=>
  rw[hgd]at h
  simp only at h⊢
  cases he:eff s.hp (lenH s.hp) v.op (s.args v.xs)with
  |none=>rw[he]at h;cases h
  |some e=>rw[he]at h;rw[YnA hg hq he];exact h
 |some gp=>
  obtain⟨g,pol⟩:=gp
  rw[hgd]at h
  simp only at h⊢
  cases hgb:Yah (getL s.fr g) pol with
  |none=>rw[hgb]at h;cases h
  |some gb=>
   rw[hgb]at h
   simp only at h⊢
   cases he:eff s.hp (lenH s.hp) v.op (YR v.op gb (s.args v.xs)).2 with
   |none=>rw[he]at h;cases h
   |some e=>rw[he]at h;rw[YnA hg hq he];exact h
def noApp:Upd->Prop
 | .app _ _=>False
 |_=>True
theorem Ymu{d:Option Nat}{x:SV}{u:Upd}(h:noApp u):(s.put d x).upd u=(s.upd u).put d x:=by
 cases u <;> first|exact h.elim| (cases d <;> rfl)
theorem Yxl{d:Option Nat}{x:SV}{hp:List HO}:({ fr:=(s.put d x).fr,saved:=(s.put d x).saved,hp:=hp}:S)=S.put { fr:=s.fr,saved:=s.saved,hp:=hp} d x:=by
 cases d <;> rfl
theorem Yf1(hp hs:List HO):Grow hp (hp++hs):=fun i hi=>by
 rw[Yjc]
 split
 ·rfl
 ·rename_i hlt
  exact absurd (Ya9 hp i (by omega)) hi
theorem YkM(hp:List HO)(x:HO):Grow hp (Ybp hp x):=fun i hi=>by
 rcases YHA i (lenH hp)with h|h
 ·exact Y1 hp x i h
 ·exact absurd (Ya9 hp i h) hi
variable {i j:VOp} {p:Prop} {x:SV}
theorem Yvy(hi:i.op.quiet=true)(h1:∀n,i.dst=some n->n∉j.reads)(h2:∀n,i.dst=some n->j.dst≠some n)(h3:∀n,j.dst=some n->n∉i.reads)
 (hh:∀e,j.op.quiet=false->j.op.bad=false->callee E j.op (s.args j.xs)=none->eff s.hp (lenH s.hp) j.op (s.args j.xs)=some e->(s.put i.dst x).upd e.upd=(s.upd e.upd).put i.dst x/\fEff i (s.upd e.upd)=some (p,x))
 (hf:fEff i s=some (p,x))(h:dopW E j A (s.put i.dst x)):dopW E j (fun s'=>fEff i s'=some (p,x)/\A (s'.put i.dst x)) s:=by
 have ha:(s.put i.dst x).args j.xs=s.args j.xs:=YiD fun n e hm=>h1 n e (by simp [VOp.reads,hm])
 unfold dopW at*
 split
 ·rename_i hq
  rw[hq]at h
  simp only[Ydu h1]at h
  simp only[Yhg]at*
  cases hfj:fEff j s with
  |none=>rw[hfj]at h;exact h
  |some r=>rw[hfj]at h;exact⟨h.1,by rw[Ydu h3];exact hf,by rw[<-YeK h2];exact h.2⟩
 ·rename_i hq
  rw[hq]at h
  simp only at h
  split
  ·rename_i hg
   rw[hg]at h
   simp only[ha]at h
   unfold YkP at*
   split
   ·rename_i f ys hc
    rw[hc]at h
    simp only[ctW,Ydd]at*
    cases hct:E.ct f with
    |none=>rw[hct]at h;exact h
    |some c=>
     rw[hct]at h
     refine⟨h.1,CSat.mono h.2 fun r hs hr=>⟨?_,?_⟩⟩
     ·rw[Ydu h3]
      exact Yet (s:=s) hi rfl (Yf1 _ _) hf
     ·have hr2:=hr
      rw[Yxl,YeK h2]at hr2;exact hr2
   ·rename_i hc
    rw[hc]at h
    simp only[psdW,Ydd,ha]at*
    cases hps:psd j.op (s.args j.xs)with
    |some c=>
     rw[hps]at h
     refine CSat.mono h fun r hs hr=>⟨?_,?_⟩
     ·rw[Ydu h3]
      exact Yet (s:=s) hi rfl (Yf1 _ _) hf
     ·have hr2:=hr
      rw[Yxl,YeK h2]at hr2;exact hr2
    |none=>
    rw[hps]at h
    simp only at*
    cases hbd:j.op.bad with
    |true=>rw[hbd]at h;exact h
    |false=>
    rw[hbd]at h
    simp only[badW,effW,Ydd]at*
    cases he:eff s.hp (lenH s.hp) j.op (s.args j.xs)with
    |none=>rw[he]at h;exact h
    |some e=>
     rw[he]at h
     obtain⟨k1,k2⟩:=hh e hq hbd hc he
     refine⟨h.1,?_,?_⟩
     ·rw[Ydu h3];exact k2
     ·rw[<-YeK h2,<-k1];exact h.2
  ·rename_i g pol hg
   rw[hg]at h
   have hgg:getL (s.put i.dst x).fr g=getL s.fr g:=by
    cases hd:i.dst with
    |none=>rfl
    |some n=>exact Yby _ _ _ _ (fun e=>h1 n hd (by simp [VOp.reads,hg,e]))
   simp only[ha,hgg]at h
   unfold YgO at*
   split
   ·rename_i gb hgb
    rw[hgb]at h
    simp only[ctGW,Ydd,ha]at*
    cases hct:ctOf E j.op (YR j.op gb (s.args j.xs)).2 with
    |none=>rw[hct]at h;exact h
    |some c=>
     rw[hct]at h
     obtain⟨k1,k0,r,k2,k3⟩:=h
     exact⟨k1,k0,r,⟨by rw[Ydu h3];exact hf,by rw[<-YeK h2];exact k2⟩,k3⟩
   ·rename_i hgb
    rw[hgb]at h;exact h
end
end Go.Vx
namespace Go.Vx
theorem Yi2{hp hp':List HO}{n n':Nat}{o:VO}(hq:o.quiet=true)(hr:o.readsHp=false)(xs:List SV):eff hp' n' o xs=eff hp n o xs:=by
 cases o <;> simp only[VO.quiet,VO.readsHp,reduceCtorEq]at hq hr <;> rfl
def Ycy:List SV->SV
 | []=> .junk
 |x::_=>x
theorem YlX{hp hp':List HO}{x:SV}(h:∀b,blk x=some b->getH hp' b=getH hp b):Yat hp' x=Yat hp x:=by
 cases x <;> try rfl
 case ptr i off=>simp only[Yat,h i rfl]
 case elem i k off sz=>simp only[Yat,h i rfl]
theorem YrI{hp hp':List HO}{n n':Nat}{o:VO}(hq:o.quiet=true){xs:List SV}(h:∀b,blk (Ycy xs)=some b->getH hp' b=getH hp b):eff hp' n' o xs=eff hp n o xs:=by
 cases hr:o.readsHp with
 |false=>exact Yi2 hq hr xs
 |true=>
  cases o <;> simp only[VO.readsHp,reduceCtorEq]at hr
  case load agg size=>
   cases xs with
   |nil=>rfl
   |cons a l=>
    cases l with
    |nil=>
     have:=YlX (x:=a) h
     simp only[eff,YhF,this]
    |cons _ _=>rfl
  case idxArr m size=>
   rcases xs with _| ⟨a,_| ⟨b,_| ⟨c,l⟩⟩⟩ <;> try rfl
   ·cases a <;> try rfl
    case ptr j off=>cases off <;> rfl
   ·cases a <;> try rfl
    case ptr j off=>
     have:=h j rfl
     cases off <;> cases b <;> try rfl
     all_goals simp only[eff,Yct,this]
    case xp t cs=>cases b <;> rfl
   ·cases a <;> try rfl
    case ptr j off=>cases off <;> cases b <;> rfl
    case xp t cs=>cases b <;> rfl
  case sliceArr m size lo hi=>
   rcases xs with _| ⟨a,_| ⟨b,l⟩⟩
   ·cases lo <;> cases hi <;> rfl
   ·cases lo <;> cases hi <;> try rfl
    cases a <;> try rfl
    case ptr j off=>
     have:=h j rfl
     cases off <;> try rfl
     simp only[eff,Ybx,this]
   ·cases lo <;> cases hi <;> try rfl
    cases a <;> try rfl
    case ptr j off=>cases off <;> rfl
  case isNil neg=>
   rcases xs with _| ⟨a,_| ⟨b,l⟩⟩
   ·rfl
   ·rfl
   ·rcases l with _| ⟨c,l⟩
    ·cases b <;> try rfl
     cases a <;> try rfl
     case own i lo m sz=>
      have:=h i rfl
      simp only[eff,eNil,this]
    ·cases b <;> rfl
theorem Ylw{hp:List HO}{n:Nat}{o:VO}(ho:o.isStore=true){xs:List SV}{e:Ef}(h:eff hp n o xs=some e):∃k ho,e.upd= .set k ho/\blk (Ycy xs)=some k:=by
 cases o <;> simp only[VO.isStore,reduceCtorEq]at ho
 simp only[eff,Yh4]at h
 split at h
 ·rename_i a v
  obtain⟨e',h',rfl⟩:=YHm.1 h
  cases a <;> simp only[storeAt,reduceCtorEq]at h'
  ·rename_i i off
   split at h'
   ·cases h';exact⟨_,_,rfl,rfl⟩
   ·split at h'
    ·cases h';exact⟨_,_,rfl,rfl⟩
    ·cases h'
   ·cases h'
   ·cases h'
  ·rename_i i k off sz
   split at h'
   ·cases h';exact⟨_,_,rfl,rfl⟩
   ·cases h'
 ·cases h
theorem YsJ{hp:List HO}{n:Nat}{o:VO}(hq:o.quiet=false)(ho:o.isStore=false)(ha:o.isAppend=false)(hb:o.bad=false){xs:List SV}{e:Ef}(h:eff hp n o xs=some e):∃ho,e.upd= .new ho:=by
 cases o <;> simp only[VO.quiet,VO.isStore,VO.isAppend,VO.bad,reduceCtorEq]at hq ho ha hb <;> simp only[eff]at h
 ·cases h;exact⟨_,rfl⟩
 ·cases h;exact⟨_,rfl⟩
 ·unfold eBox at h;split at h
  ·cases h;exact⟨_,rfl⟩
  ·cases h
 ·obtain⟨⟨p,cs⟩,h',h⟩:=YHl.1 h
  cases h;exact⟨_,rfl⟩
 ·unfold YrH at h;split at h
  ·cases h;exact⟨_,rfl⟩
  ·cases h
 all_goals cases h
theorem Yb7(s:S):∀(xs:List X),Ycy (s.args xs)=s.x (Ycz xs)
 | []=>rfl
 |_::_=>rfl
theorem Yfp(gb:Bool):∀(xs:List SV),Ycy (YfA gb xs).2=Ypt (Ycy xs)
 | []=>rfl
 |x::_=>by cases x <;> rfl
theorem Yex(o:VO)(gb:Bool)(xs:List SV):Ycy (YR o gb xs).2=Ypt (Ycy xs):=by
 unfold YR YjS
 split
 ·exact Yfp gb xs
 ·split
  ·rename_i x y
   cases x <;> rfl
  ·exact Yfp gb _
theorem YvE{v:VOp}{s:S}{k:Nat}{ho:HO}(hq:v.op.quiet=true)(h:v.op.readsHp=true->∀b,blk (Ypt (s.x (Ycz v.xs)))=some b->b≠k):fEff v (s.upd (.set k ho))=fEff v s:=by
 have key:∀xs:List SV,(v.op.readsHp=true->∀b,blk (Ycy xs)=some b->b≠k)->eff (s.upd (.set k ho)).hp (lenH (s.upd (.set k ho)).hp) v.op xs=eff s.hp (lenH s.hp) v.op xs:=by
  intro xs hx
  cases hr:v.op.readsHp with
  |false=>exact Yi2 hq hr xs
  |true=>exact YrI hq fun b hb=>YI _ _ _ _ (fun e=>hx hr b hb e.symm)
 have hfr:(s.upd (.set k ho)).fr=s.fr:=rfl
 have ha:(s.upd (.set k ho)).args v.xs=s.args v.xs:=YlP hfr _
 unfold fEff
 cases hg:v.g with
 |none=>
  simp only[ha]
  rw[key]
  intro hr b hb
  refine h hr b ?_
  rw[Yb7]at hb
  cases hx:s.x (Ycz v.xs) <;> rw[hx]at hb <;> first|exact hb|cases hb
 |some gp=>
  obtain⟨g,pol⟩:=gp
  simp only[ha,hfr]
  cases Yah (getL s.fr g) pol with
  |none=>rfl
  |some gb=>
   simp only
   rw[key]
   intro hr b hb
   refine h hr b ?_
   rw[Yex,Yb7]at hb
   exact hb
theorem YdD{b:Nat}{v:SV}(h:refs b v=false):Yhc b v=v:=by unfold Yhc;rw[h];rfl
theorem Yli{b:Nat}:∀{l:List SV},Yhh b l=false->Yq b l=l
 | [],_=>rfl
 |x::l,h=>by
  simp only[Yhh,YHp]at h
  simp only[Yq,YdD h.1,Yli h.2]
theorem YcG(b:Nat):∀(n:Nat)(l:List SV),YM n (Yq b l)=Yq b (YM n l)
 |0,_=>rfl
 |_+1,[]=>rfl
 |n+1,_::l=>YcG b n l
theorem Yea(b:Nat):∀(n:Nat)(l:List SV),YT n (Yq b l)=Yq b (YT n l)
 |0,_=>rfl
 |_+1,[]=>rfl
 |n+1,x::l=>congrArg (Yhc b x::·) (Yea b n l)
theorem YdB(b:Nat):∀(l:List SV),lenL (Yq b l)=lenL l
 | []=>rfl
 |_::l=>congrArg (·+1) (YdB b l)
theorem Yii(b:Nat):∀(l r:List SV),Yq b (l++r)=Yq b l++Yq b r
 | [],_=>rfl
 |x::l,r=>congrArg (Yhc b x::·) (Yii b l r)
theorem YgI(b:Nat)(get:Nat->List SV):∀(n k:Nat),YgH n k (fun j=>Yq b (get j))=Yq b (YgH n k get)
 |0,_=>rfl
 |n+1,k=>by simp only[YgH,Yii,YgI b get n (k+1)]
theorem YiL{hp hp':List HO}{b:Nat}(hg:∀i,i≠b->getH hp' i=YeJ b (getH hp i)){x:SV}(hx:refs b x=false){p:Prop}{cs:List SV}(h:Yat hp x=some (p,cs)):∃cs',Yat hp' x=some (p,cs')/\(cs'=cs\/cs'=Yq b cs):=by
 cases x <;> simp only[Yat,reduceCtorEq]at h⊢
 case xp t c=>exact⟨cs,h,.inl rfl⟩
 case ptr i off=>
  have hne:i≠b:=by rintro rfl;simp [refs]at hx
  rw[hg i hne]
  cases hh:getH hp i with
  |gone=>rw[hh]at h;cases h
  |smap l=>rw[hh]at h;cases h
  |box c=>
   rw[hh]at h;cases h
   exact⟨_,rfl,.inr (YcG b off c)⟩
  |own z sz n get=>
   rw[hh]at h
   simp only at h
   cases off with
   |zero=>
    cases h
    exact⟨_,rfl,.inr (YgI b get n 0)⟩
   |succ k=>cases h
 case elem i k off sz=>
  have hne:i≠b:=by rintro rfl;simp [refs]at hx
  rw[hg i hne]
  cases hh:getH hp i with
  |gone=>rw[hh]at h;cases h
  |smap l=>rw[hh]at h;cases h
  |box c=>rw[hh]at h;cases h
  |own z sz' n get=>
   rw[hh]at h;cases h
   exact⟨_,rfl,.inr (YcG b off (get k))⟩
theorem Yl8{b:Nat}{agg:Bool}{l:List SV}(h:refs b (YfI agg l)=false):YfI agg (Yq b l)=YfI agg l:=by
 cases agg with
 |true=>simp only[YfI,refs]at h⊢;rw[Yli h]
 |false=>
  rcases l with _| ⟨x,_| ⟨y,l⟩⟩
  ·rfl
  ·simp only[YfI,Yq]at h⊢;exact YdD h
  ·rfl
theorem YkH{hp hp':List HO}{n n' b:Nat}(hg:∀i,i≠b->getH hp' i=YeJ b (getH hp i)){o:VO}(hq:o.quiet=true){xs:List SV}(hx:refs b (Ycy xs)=false){e:Ef}(hr:refs b e.val=false)(h:eff hp n o xs=some e):eff hp' n' o xs=some e:=by
 cases hrd:o.readsHp with
 |false=>rw[Yi2 hq hrd xs (hp:=hp) (n:=n)];exact h
 |true=>
  cases o <;> simp only[VO.readsHp,reduceCtorEq]at hrd
  case load agg size=>
   simp only[eff,YhF]at h⊢
   split at h
   ·rename_i a
    obtain⟨⟨p,cs⟩,hc,h⟩:=YHl.1 h
    obtain⟨cs',hc',hor⟩:=YiL hg hx hc
    have hc':Yat hp' a=some (p,cs'):=hc'
    simp only[hc',Option.bind_some]
    cases h
    rcases hor with rfl|rfl
    ·rfl
    ·simp only[YB,YdB,Yea,Yl8 hr]
   ·cases h
  case idxArr m size=>
   simp only[eff,Yct]at h⊢
   split at h
   ·rename_i j k i
    have hne:j≠b:=by rintro rfl;simp [Ycy,refs]at hx
    rw[hg j hne]
    cases hh:getH hp j with
    |gone=>rw[hh]at h;cases h
    |smap l=>rw[hh]at h;cases h
    |box c=>rw[hh]at h;exact h
    |own z sz' n get=>rw[hh]at h;exact h
   ·rename_i j o k i
    have hne:j≠b:=by rintro rfl;simp [Ycy,refs]at hx
    rw[hg j hne]
    cases hh:getH hp j with
    |gone=>rw[hh]at h;cases h
    |smap l=>rw[hh]at h;cases h
    |box c=>rw[hh]at h;exact h
    |own z sz' n get=>rw[hh]at h;cases h
   ·exact h
   ·cases h
  case sliceArr m size lo hi=>
   simp only[eff]at h⊢
   unfold Ybx at h⊢
   split at h
   ·rename_i j
    have hne:j≠b:=by rintro rfl;simp [Ycy,refs]at hx
    rw[hg j hne]
    cases hh:getH hp j with
    |gone=>rw[hh]at h;cases h
    |smap l=>rw[hh]at h;cases h
    |box c=>rw[hh]at h;cases h
    |own z sz' n get=>rw[hh]at h;exact h
   ·cases h
  case isNil neg=>
   simp only[eff]at h⊢
   unfold eNil at h⊢
   split at h
   ·rename_i x
    split at h <;> try exact h
    rename_i i _ _ _
    have hne:i≠b:=by rintro rfl;simp [Ycy,refs]at hx
    rw[hg i hne]
    cases hh:getH hp i with
    |gone=>rw[hh]at h;cases h
    |smap l=>rw[hh]at h;cases h
    |box c=>rw[hh]at h;cases h
    |own z sz' n get=>rw[hh]at h;exact h
   ·cases h
theorem YqY{hp:List HO}{n:Nat}{o:VO}(ha:o.isAppend=true){xs:List SV}{e:Ef}(h:eff hp n o xs=some e):(∃ho,e.upd= .new ho)\/∃b ho,e.upd= .app b ho/\blk (Ycy xs)=some b:=by
 cases o <;> simp only[VO.isAppend,reduceCtorEq]at ha
 simp only[eff,Ybw]at h
 split at h
 ·rename_i a x
  split at h
  ·obtain⟨⟨m,gx⟩,_,h⟩:=YHl.1 h
   cases h;exact .inl ⟨_,rfl⟩
  ·split at h
   ·obtain⟨⟨m,gx⟩,_,rfl⟩:=YHm.1 h
    exact .inr ⟨_,_,rfl,rfl⟩
   ·cases h
  ·obtain⟨⟨k,gy⟩,_,h⟩:=YHl.1 h
   obtain⟨⟨m,gx⟩,_,h⟩:=YHl.1 h
   cases h;exact .inl ⟨_,rfl⟩
  ·cases h
 ·cases h
theorem Yh9(b:Nat):∀(l:List SV)(n:Nat),getL (Yq b l) n=Yhc b (getL l n)
 | [],_=>rfl
 |_::_,0=>rfl
 |_::l,n+1=>Yh9 b l n
theorem YdC(b:Nat):∀(l:List SV)(n:Nat)(x:SV),Yq b (setL l n x)=setL (Yq b l) n (Yhc b x)
 | [],_,_=>rfl
 |_::_,0,_=>rfl
 |y::l,n+1,x=>congrArg (Yhc b y::·) (YdC b l n x)
theorem Ycv:∀(l:List SV)(n:Nat)(x:SV),n<lenL l->getL (setL l n x) n=x
 |_::_,0,_,_=>rfl
 |_::l,n+1,x,h=>Ycv l n x (by simpa [lenL]using h)
theorem Yhl:∀(l:List SV)(n:Nat)(x:SV),lenL l<=n->setL l n x=l
 | [],_,_,_=>rfl
 |_::l,0,_,h=>by simp [lenL]at h
 |y::l,n+1,x,h=>congrArg (y::·) (Yhl l n x (by simpa [lenL]using h))
theorem YyU{s:S}{d:Option Nat}{x:SV}{b:Nat}{ho:HO}(h:∀n,d=some n->refs b (getL (s.put d x).fr n)=false):(s.put d x).upd (.app b ho)=(s.upd (.app b ho)).put d x:=by
 cases d with
 |none=>rfl
 |some n=>
  have h:=h n rfl
  simp only[S.put,S.upd]at h⊢
  rw[YdC]
  rcases YHA n (lenL s.fr)with hn|hn
  ·rw[Ycv _ _ _ hn]at h
   rw[YdD h]
  ·rw[Yhl _ _ _ (by rw[YdB];exact hn),Yhl _ _ _ (by rw[YdB];exact hn)]
theorem YHe{s:S}{b:Nat}{ho:HO}{y:X}(h:refs b (s.x y)=false):(s.upd (.app b ho)).x y=s.x y:=by
 cases y with
 |cn v=>rfl
 |tm n=>
  show getL (Yq b s.fr) n=getL s.fr n
  rw[Yh9];exact YdD h
theorem Ykm{s:S}{b:Nat}{ho:HO}:∀{xs:List X},(∀y∈xs,refs b (s.x y)=false)->(s.upd (.app b ho)).args xs=s.args xs
 | [],_=>rfl
 |y::l,h=>by
  simp only[S.args]
  rw[YHe (h y YHw),Ykm fun z hz=>h z (YHu _ hz)]
theorem Ypi{b:Nat}{x:SV}:refs b (Ypt x)=refs b x:=by cases x <;> rfl
theorem YvD{v:VOp}{s:S}{b:Nat}{ho:HO}(hq:v.op.quiet=true)(hxs:∀y∈v.xs,refs b (s.x y)=false)(hgd:∀g pol,v.g=some (g,pol)->refs b (getL s.fr g)=false){r:Prop×SV}(hr:refs b r.2=false)(h:fEff v s=some r):fEff v (s.upd (.app b ho))=some r:=by
 have hgg:∀i,i≠b->getH (s.upd (.app b ho)).hp i=YeJ b (getH s.hp i):=by
  intro i hi
  show getH (setH (YaF b s.hp) b ho) i=_
  rw[YI _ _ _ _ hi.symm,Ydw]
 have ha:(s.upd (.app b ho)).args v.xs=s.args v.xs:=Ykm hxs
 have hh:refs b (Ycy (s.args v.xs))=false:=by
  rw[Yb7]
  cases hx:v.xs with
  |nil=>rfl
  |cons y l=>exact hxs y (by rw[hx];exact YHw)
 unfold fEff at h⊢
 cases hg:v.g with
 |none=>
  rw[hg]at h
  simp only at h⊢
  rw[ha]
  cases he:eff s.hp (lenH s.hp) v.op (s.args v.xs)with
  |none=>rw[he]at h;cases h
  |some e=>
   rw[he]at h
   obtain⟨p,x,u⟩:=e
   cases u <;> cases h
   rw[YkH hgg hq hh (e:=⟨p,x,.no⟩) hr he]
 |some gp=>
  obtain⟨g,pol⟩:=gp
  rw[hg]at h
  simp only at h⊢
  have hgv:getL (s.upd (.app b ho)).fr g=getL s.fr g:=YHe (y:= .tm g) (hgd g pol hg)
  rw[ha,hgv]
  cases hgb:Yah (getL s.fr g) pol with
  |none=>rw[hgb]at h;cases h
  |some gb=>
   rw[hgb]at h
   simp only at h⊢
   cases he:eff s.hp (lenH s.hp) v.op (YR v.op gb (s.args v.xs)).2 with
   |none=>rw[he]at h;cases h
   |some e=>
    rw[he]at h
    obtain⟨p,x,u⟩:=e
    cases u <;> cases h
    rw[YkH hgg hq (by rw[Yex,Ypi];exact hh) (e:=⟨p,x,.no⟩) (by simpa [refs]using hr) he]
end Go.Vx
namespace Go.Vx
def chk1(ap:Bool)(x y:SV):Prop:=
 match ap with
 |false=>YhU x y
 |true=>napP x y
def YW(E:Env)(G:VOp->(S->Prop)->S->Prop)(tab:List DT)(i:Nat)(L:Array Bool)(A:S->Prop)(s:S):Prop:=
 match tab[i]? with
 |some (.silent _)=>A s
 |some (.op v chk)=>(∀c∈chk,L.getD c.1 false=true->chk1 v.op.isAppend (s.x c.2) (s.x (Ycz v.xs)))/\dopW E v A s
 |some (.loud v)=>dopW E v A s\/G v A s
 |none=>False
theorem Yb1{d:Option Nat}{l:List Nat}(h:disj d l=true):∀n,d=some n->n∉l:=by
 rintro n rfl hm
 simp [disj,hm]at h
theorem YxV{x y:X}(h:xeq x y=true):x=y:=by
 cases x <;> cases y <;> simp only[xeq,YHG]at h
 rw[YHF h]
section
variable {E:Env} {G:VOp->(S->Prop)->S->Prop} {tab:List DT} {ops:Array Oper} {md:Region.Mode} {clo:Nat->Nat->Bool}
theorem Yio(hG:∀v (A B:S->Prop) s,(∀s,A s->B s)->G v A s->G v B s)(j:Nat)(L:Array Bool)(s:S)(A B:S->Prop)(h:∀s,A s->B s)(hs:YW E G tab j L A s):YW E G tab j L B s:=by
 unfold YW at*
 split
 ·rename_i d hd;rw[hd]at hs;exact h _ hs
 ·rename_i v chk hd;rw[hd]at hs;exact⟨hs.1,Yap h hs.2⟩
 ·rename_i v hd;rw[hd]at hs;exact hs.imp (Yap h) (hG v A B s h)
 ·rename_i hd;rw[hd]at hs;exact hs
structure YxY (md:Region.Mode) (ops:Array Oper) (clo:Nat->Nat->Bool):Prop where
 ready:∀(L:Array Bool)(j i:Nat),Down md ops L->j∈Region.ready md ops L->clo j i=true->L.getD i false=true
 listed:∀(L:Array Bool)(j i:Nat),Down md ops L->L.getD j false=true->clo j i=true->L.getD i false=true
theorem Ydf{L:Array Bool}{i:Nat}(h:i∈Region.ready md ops L):L.getD i false=false:=by
 have h0:=(mem_ready.1 h).1
 rcases YHA i L.size with h'|h'
 ·simp [h']at h0⊢;exact h0
 ·simp [Array.getElem?_eq_none h']
theorem YkK{L:Array Bool}{i j:Nat}(h:L.getD j false=true):(L.setIfInBounds i true).getD j false=true:=getD_set_true h
theorem Yij{b:Nat}{x:SV}(h:Yrv x=true):refs b x=false:=by cases x <;> first|rfl|cases h
theorem Yl2:∀(l:List SV)(n:Nat),lenL l<=n->getL l n= .junk
 | [],_,_=>rfl
 |_::_,0,h=>by simp [lenL]at h
 |_::l,n+1,h=>Yl2 l n (by simpa [lenL]using h)
theorem Yk0{n:Nat}:∀{l:List X},.tm n∈l->n∈Yab l
 |x::l,h=>by
  rcases YHI.1 h with rfl|h
  ·simp [Yab,X.slot]
  ·simp [Yab,Yk0 h]
theorem YgN{i:Nat}{chk:List (Nat×X)}{x:X}(h:Yxk i chk x=true):(i,x)∈chk:=by
 obtain⟨c,hc,h⟩:=YIt.1 h
 simp only[YHn]at h
 have h1:=YHF h.1
 have h2:=YxV h.2
 rw[<-h1,<-h2];exact hc
theorem Yzt{v u:VOp}{s:S}(hv:v.op.quiet=true){r:Prop×SV}
 (hap:u.op.isAppend=true->∀b,blk (s.x (Ycz u.xs))=some b->(∀y∈v.xs,refs b (s.x y)=false)/\(∀g pol,v.g=some (g,pol)->refs b (getL s.fr g)=false)/\refs b r.2=false)
 (hst:u.op.isStore=true->v.op.readsHp=true->YhU (s.x (Ycz v.xs)) (s.x (Ycz u.xs))){e:Ef}
 (hq:u.op.quiet=false)(hbad:u.op.bad=false)(he:eff s.hp (lenH s.hp) u.op (s.args u.xs)=some e)(hf:fEff v s=some r):(s.put v.dst r.2).upd e.upd=(s.upd e.upd).put v.dst r.2/\fEff v (s.upd e.upd)=some r:=by
 cases hs:u.op.isStore with
 |true=>
  obtain⟨k,ho,h1,h2⟩:=Ylw hs he
  rw[h1]
  refine⟨Ymu trivial,?_⟩
  rw[YvE hv]
  ·exact hf
  ·intro hr b hb hbk
   subst hbk
   have:=hst hs hr
   rw[Yb7]at h2
   simp [YhU,YqW,hb,h2]at this
 |false=>
  cases ha:u.op.isAppend with
  |false=>
   obtain⟨ho,h1⟩:=YsJ hq hs ha hbad he
   rw[h1]
   exact⟨Ymu trivial,Yet (s:=s) hv rfl (YkM _ _) hf⟩
  |true=>
   rcases YqY ha he with⟨ho,h1⟩ | ⟨b,ho,h1,h2⟩
   ·rw[h1]
    exact⟨Ymu trivial,Yet (s:=s) hv rfl (YkM _ _) hf⟩
   ·rw[h1]
    rw[Yb7]at h2
    obtain⟨k1,k2,k3⟩:=hap ha b h2
    refine⟨YyU fun n hn=>?_,YvD hv k1 k2 k3 hf⟩
    rcases YHA n (lenL s.fr)with hl|hl
    ·rw[hn];simp only[S.put];rw[Ycv _ _ _ hl];exact k3
    ·rw[hn];simp only[S.put];rw[Yhl _ _ _ hl,Yl2 _ _ hl];rfl
theorem Yps(hc:YxY md ops clo){i:Nat}{v:VOp}(hi:tab[i]? =some (.op v []))(hv:v.op.quiet=true)(hcomm:∀(j:Nat) (t:DT),tab[j]? =some t->Yrx clo i v j t=true)
 (j:Nat)(L:Array Bool)(s:S)(A:S->Prop)(hd:Down md ops L)(hri:i∈Region.ready md ops L)(hrj:j∈Region.ready md ops L)(hji:j≠i)
 (h:YW E G tab i L (YW E G tab j (L.setIfInBounds i true) A) s):YW E G tab j L (YW E G tab i (L.setIfInBounds j true) A) s:=by
 have hstepi:∀(L:Array Bool)(A:S->Prop)(s:S),YW E G tab i L A s↔dopW E v A s:=by
  intro L A s
  unfold YW
  rw[hi]
  exact⟨fun h=>h.2,fun h=>⟨fun c hc=>(by cases hc),h⟩⟩
 rw[hstepi]at h
 have hmono:∀{B C:S->Prop}{t:S},(∀s,B s->C s)->dopW E v B t->dopW E v C t:=fun hbc hh=>Yap hbc hh
 cases ht:tab[j]? with
 |none=>
  have:dopW E v (fun _=>False) s:=hmono (fun s' hs'=>by unfold YW at hs';rw[ht]at hs';exact hs') h
  exact(YgA hv this).elim
 |some t=>
  have hcm:=hcomm j t ht
  unfold Yrx at hcm
  have e1:YH1 i j=false:=by
   cases hb:YH1 i j with
   |false=>rfl
   |true=>exact absurd (YHF hb).symm hji
  have e2:clo j i=false:=by
   cases hb:clo j i with
   |false=>rfl
   |true=>have:=hc.ready L j i hd hrj hb;rw[Ydf hri]at this;cases this
  have e3:clo i j=false:=by
   cases hb:clo i j with
   |false=>rfl
   |true=>have:=hc.ready L i j hd hri hb;rw[Ydf hrj]at this;cases this
  rw[e1,e2,e3]at hcm
  simp only[Bool.false_or]at hcm
  cases t with
  |silent d=>
   have hsj:∀(L:Array Bool)(A:S->Prop)(s:S),YW E G tab j L A s=A s:=by
    intro L A s;unfold YW;rw[ht]
   rw[hsj,hstepi]
   exact hmono (fun s' hs'=>by rw[hsj]at hs';exact hs') h
  |loud u=>simp at hcm
  |op u chk=>
   simp only[YHn,YHS,YHD,List.all_eq_true]at hcm
   obtain⟨⟨⟨⟨⟨c1,c2⟩,c3⟩,c4⟩,c5⟩,c6⟩:=hcm
   have hsj:∀(L:Array Bool)(A:S->Prop)(s:S),YW E G tab j L A s=((∀c∈chk,L.getD c.1 false=true->chk1 u.op.isAppend (s.x c.2) (s.x (Ycz u.xs)))/\dopW E u A s):=by
    intro L A s;unfold YW;rw[ht]
   have d1:=Yb1 c1
   have d3:=Yb1 c3
   have d2:∀n,v.dst=some n->u.dst≠some n:=fun n hn hu=>Yb1 c2 n hn (by simp [hu])
   rw[hsj]
   unfold dopW at h
   rw[hv]at h
   simp only[Yhg]at h
   cases hf:fEff v s with
   |none=>rw[hf]at h;exact h.elim
   |some r=>
    obtain⟨p,x⟩:=r
    rw[hf]at h
    obtain⟨hp,h⟩:=h
    rw[hsj]at h
    obtain⟨hchk,h⟩:=h
    have htgt:(s.put v.dst x).x (Ycz u.xs)=s.x (Ycz u.xs):=by
     refine Ypz fun n hn hm=>d1 n hn ?_
     cases hx:u.xs with
     |nil=>rw[hx]at hm;simp [Ycz,X.slot]at hm
     |cons y l=>rw[hx]at hm;simp only[VOp.reads,hx,Yab,YHO];exact .inl (.inl hm)
    refine⟨fun c hcm hcl=>?_,?_⟩
    ·have:=hchk c hcm (YkK hcl)
     rw[htgt]at this
     rcases c5 c hcm with(hh|hh) |hh
     ·rw[Ypz (Yb1 hh)]at this;exact this
     ·have:=hc.listed L c.1 i hd hcl hh
      rw[Ydf hri]at this;cases this
     ·rw[YHF hh,Ydf hri]at hcl;cases hcl
    ·have hlt:i<L.size:=by
      obtain⟨_,o,ho,_⟩:=mem_ready.1 hri
      rw[hd.1];exact(YHy.1 ho).1
     have hli:(L.setIfInBounds i true).getD i false=true:=by simp [hlt]
     refine Yap (fun s' hs'=>?_) (Yvy hv d1 d2 d3 (fun e hq hbad hcl he=>Yzt (r:=(p,x)) hv (fun hap b hb=>?_) (fun hst hrd=>?_) hq hbad he hf) hf h)
     ·rw[hstepi]
      unfold dopW
      rw[hv]
      simp only[Yhg]
      rw[hs'.1]
      exact⟨hp,hs'.2⟩
     ·rcases c4 with c4|c4
      ·rw[hap]at c4;cases c4
      simp only[YDg,YHn,List.all_eq_true]at c4
      obtain⟨⟨⟨e1,e2⟩,e3⟩,e4⟩:=c4
      have dv:=Yb1 e1
      have at1:∀y:X,(i,y)∈chk->refs b ((s.put v.dst x).x y)=false/\YBg ((s.put v.dst x).x y)=true:=by
       intro y hy
       have:=hchk (i,y) hy hli
       rw[hap,htgt]at this
       simp only[chk1,napP,napB,hb]at this
       exact this
      refine⟨fun y hy=>?_,fun g pol hg=>?_,?_⟩
      ·have h1:=e2 y hy
       cases y with
       |cn c=>exact Yij h1
       |tm n=>
        have h2:=(at1 _ (YgN h1)).1
        rwa [Ypz (fun m hm hmm=>dv m hm (by
         simp only[X.slot,YHZ]at hmm
         subst hmm
         simp only[VOp.reads,YHO]
         exact .inl (Yk0 hy)))]at h2
      ·rw[hg]at e3
       have h2:=(at1 _ (YgN e3)).1
       rwa [Ypz (fun m hm hmm=>dv m hm (by
        simp only[X.slot,YHZ]at hmm
        subst hmm
        simp [VOp.reads,hg]))]at h2
      ·cases hdst:v.dst with
       |none=>rw[hdst]at e4;cases e4
       |some d=>
        rw[hdst]at e4
        obtain⟨h1,h2⟩:=at1 _ (YgN e4)
        rw[hdst]at h1 h2
        simp only[S.x,S.put]at h1 h2
        rcases YHA d (lenL s.fr)with hl|hl
        ·rw[Ycv _ _ _ hl]at h1;exact h1
        ·rw[Yl2 _ _ (by rw[Yhl _ _ _ hl];exact hl)]at h2;cases h2
     ·rcases c6 with(h6|h6) |h6
      ·rw[hst]at h6;cases h6
      ·rw[hrd]at h6;cases h6
      ·obtain⟨c,hcm,hcb⟩:=YIt.1 h6.2
       simp only[YHn]at hcb
       have hci:=YHF hcb.1
       have hcx:=YxV hcb.2
       have:=hchk c hcm (by rw[hci];exact hli)
       have hna:u.op.isAppend=false:=by cases hu:u.op <;> rw[hu]at hst <;> first|rfl|cases hst
       rw[htgt,hcx,Ypz (Yb1 h6.1),hna]at this
       exact this
end
end Go.Vx
namespace Go.Vx
section
variable {md:Region.Mode} {ops:Array Oper}
theorem Yhs{i k:Nat}:(2^i).testBit k=decide (i=k):=Nat.testBit_two_pow
theorem maskL_spec{i:Nat}:∀{l:List Edge},(YkZ md l).testBit i=true↔∃e∈l,Region.binds md e=true/\e.on=i
 | []=>by simp [YkZ]
 |e::l=>by
  unfold YkZ
  cases hb:Region.binds md e with
  |false=>simp [maskL_spec (l:=l),hb]
  |true=>simp [maskL_spec (l:=l),hb,Nat.testBit_or,Yhs]
theorem Ydp{i:Nat}{o:Oper}(h:ops[i]? =some o):(Yy md ops).getD i 0=YkZ md o.after.toList:=by
 simp [Yy,h]
theorem Yc9{cl:List Nat}{m i:Nat}:∀{j:Nat},(Yc8 cl m j).testBit i=true->∃k,k<j/\m.testBit k=true/\(cl.getD k 0).testBit i=true
 |0,h=>by simp [Yc8]at h
 |j+1,h=>by
  unfold Yc8 at h
  cases hb:m.testBit j with
  |false=>
   rw[hb]at h
   obtain⟨k,h1,h2⟩:=Yc9 (j:=j) h
   exact⟨k,by omega,h2⟩
  |true=>
   rw[hb]at h
   simp only[cond_true,Nat.testBit_or,YHS]at h
   rcases h with h|h
   ·exact⟨j,by omega,hb,h⟩
   ·obtain⟨k,h1,h2⟩:=Yc9 (j:=j) h
    exact⟨k,by omega,h2⟩
theorem Ykx{dm cl:List Nat}:∀{n:Nat},Yfl dm cl n=true->∀j,j<n->cl.getD j 0=dm.getD j 0||| Yc8 cl (dm.getD j 0) j
 |n+1,h,j,hj=>by
  simp only[Yfl,YHn]at h
  rcases YHA j n with h'|h'
  ·exact Ykx h.2 j h'
  ·obtain rfl:j=n:=by omega
   exact YHF h.1
theorem YDA{cl:List Nat}(hl:cl.length=ops.size)(h:Yfl (Yy md ops) cl ops.size=true):YxY md ops (Yau cl):=by
 have small:∀(j i:Nat),Yau cl j i=true->j<ops.size:=by
  intro j i hc
  rcases YHA j ops.size with h'|h'
  ·exact h'
  ·simp [Yau,YHo,List.getElem?_eq_none (show cl.length<=j by omega)]at hc
 have main:∀(L:Array Bool),Down md ops L->∀(N j i:Nat),j<N->(∀(o:Oper),ops[j]? =some o->∀e∈o.after,Region.binds md e=true->L.getD e.on false=true)->Yau cl j i=true->L.getD i false=true:=by
  intro L hd N
  induction N with
  |zero=>intro j i hj;omega
  |succ N ih=>
   intro j i hj hs hc
   have hjn:=small j i hc
   have ho:ops[j]? =some ops[j]:=Array.getElem?_eq_getElem hjn
   unfold Yau at hc
   rw[Ykx h j hjn,Nat.testBit_or,YHS]at hc
   have hdir:∀k,((Yy md ops).getD j 0).testBit k=true->L.getD k false=true:=by
    intro k hk
    rw[Ydp ho]at hk
    obtain⟨e,he,hb,rfl⟩:=maskL_spec.1 hk
    exact hs _ ho e (by simpa using he) hb
   rcases hc with hc|hc
   ·exact hdir i hc
   ·obtain⟨k,h1,h2,h3⟩:=Yc9 hc
    exact ih k i (by omega) (fun o hok e he hb=>hd.2 k o hok (hdir k h2) e he hb) h3
 refine⟨fun L j i hd hr hc=>?_,fun L j i hd hl hc=>?_⟩
 ·obtain⟨_,o,ho,hall⟩:=mem_ready.1 hr
  exact main L hd (j+1) j i (by omega) (fun o' ho' e he hb=>by rw[ho]at ho';cases ho';exact hall e he hb) hc
 ·exact main L hd (j+1) j i (by omega) (fun o ho e he hb=>hd.2 j o ho hl e he hb) hc
def Corr(ops:Array Oper)(L:Array Bool)(m:Nat):Prop:=L.size=ops.size/\∀i,L.getD i false=m.testBit i
theorem and_eq_left{a m:Nat}:(a&&&m)=a↔∀k,a.testBit k=true->m.testBit k=true:=by
 constructor
 ·intro h k hk
  have:(a&&&m).testBit k=true:=by rw[h];exact hk
  rw[Nat.testBit_and,YHn]at this
  exact this.2
 ·intro h
  apply Nat.eq_of_testBit_eq
  intro k
  rw[Nat.testBit_and]
  cases hk:a.testBit k with
  |false=>rfl
  |true=>rw[h k hk];rfl
theorem Ya4{L:Array Bool}{m i:Nat}(hc:Corr ops L m):i∈Region.ready md ops L↔i<ops.size/\Ybe (Yy md ops) m i=true:=by
 rw[mem_ready]
 constructor
 ·rintro⟨h0,o,ho,hall⟩
  have hi:i<ops.size:=(YHy.1 ho).1
  refine⟨hi,?_⟩
  simp only[Ybe,YHn,YHD]
  have hL:i<L.size:=by rw[hc.1];exact hi
  refine⟨?_,?_⟩
  ·rw[<-hc.2 i];simp [hL]at h0⊢;exact h0
  ·rw[Ydp ho]
   rw[and_eq_left.2 (fun k hk=>?_)]
   ·exact Nat.beq_refl _
   ·obtain⟨e,he,hb,rfl⟩:=maskL_spec.1 hk
    rw[<-hc.2];exact hall e (by simpa using he) hb
 ·rintro⟨hi,hr⟩
  simp only[Ybe,YHn,YHD]at hr
  have ho:ops[i]? =some ops[i]:=Array.getElem?_eq_getElem hi
  have hL:i<L.size:=by rw[hc.1];exact hi
  refine⟨?_,_,ho,fun e he hb=>?_⟩
  ·have:=hr.1
   rw[<-hc.2 i]at this
   simp [hL]at this⊢;exact this
  ·have:=and_eq_left.1 (YHF hr.2)
   rw[hc.2]
   refine this e.on ?_
   rw[Ydp ho]
   exact maskL_spec.2 ⟨e,by simpa using he,hb,rfl⟩
theorem Ynj{L:Array Bool}{m i:Nat}(hc:Corr ops L m)(hi:i<ops.size):Corr ops (L.setIfInBounds i true) (m||| 2^i):=by
 refine⟨by simp [hc.1],fun k=>?_⟩
 rw[Nat.testBit_or,Yhs]
 by_cases h:i=k
 ·subst h
  simp [hc.1,hi]
 ·rw[getD_set_ne false h,hc.2];simp [h]
theorem Yc4{dm:List Nat}{m:Nat}:∀{n:Nat},Yc3 dm m n=true->∀k,k<n->Ybe dm m k=false
 |n+1,h,k,hk=>by
  simp only[Yc3,YHn,YHD]at h
  rcases YHA k n with h'|h'
  ·exact Yc4 h.2 k h'
  ·obtain rfl:k=n:=by omega
   exact h.1
theorem Yc7{dm:List Nat}{m i:Nat}:∀{n:Nat},Yc6 dm m i n=true->∀k,k<n->Ybe dm m k=true->k=i
 |n+1,h,k,hk,hr=>by
  simp only[Yc6,YHn,YHS,YHD]at h
  rcases YHA k n with h'|h'
  ·exact Yc7 h.2 k h' hr
  ·obtain rfl:k=n:=by omega
   rcases h.1 with h1|h1
   ·exact YHF h1
   ·rw[hr]at h1;cases h1
def seqS{σ:Type}(step:Nat->Array Bool->(σ->Prop)->σ->Prop)(K:σ->Prop):List Nat->Array Bool->σ->Prop
 | [],_,s=>K s
 |i::l,L,s=>step i L (seqS step K l (L.setIfInBounds i true)) s
theorem Ytm{σ:Type}{step:Nat->Array Bool->(σ->Prop)->σ->Prop}{K:σ->Prop}{free:Nat->Bool}
 (mono:∀(j:Nat) (L:Array Bool) (s:σ) (A B:σ->Prop),(∀s,A s->B s)->step j L A s->step j L B s)
 (strict:∀i L s,free i=true->¬step i L (fun _=>False) s)
 (exch:∀(i:Nat),free i=true->∀(j:Nat) (L:Array Bool) (s:σ) (A:σ->Prop),Down md ops L->i∈Region.ready md ops L->j∈Region.ready md ops L->j≠i->step i L (step j (L.setIfInBounds i true) A) s->step j L (step i (L.setIfInBounds j true) A) s):
 ∀(l:List Nat)(m:Nat)(L:Array Bool)(s:σ),seqB free (Yy md ops) ops.size l m=true->Corr ops L m->Down md ops L->seqS step K l L s->anyS step K md ops l.length L s
 | [],m,L,s,hb,hc,hd,h=>by
   refine⟨?_,h⟩
   cases hr:Region.ready md ops L with
   |nil=>rfl
   |cons x r=>
    have hx:x∈Region.ready md ops L:=by rw[hr];exact YHw
    have:=(Ya4 hc).1 hx
    rw[Yc4 hb x this.1]at this
    exact absurd this.2 (by simp)
 |i::l,m,L,s,hb,hc,hd,h=>by
  simp only[seqB,YHn,YHS]at hb
  obtain⟨⟨⟨h1,h2⟩,h3⟩,h4⟩:=hb
  have hin:i<ops.size:=by have:=Nat.le_of_ble_eq_true h1;omega
  have hri:i∈Region.ready md ops L:=(Ya4 hc).2 ⟨hin,h2⟩
  have hrest:=mono i L s _ _ (fun s' hs'=>Ytm mono strict exch l _ _ s' h4 (Ynj hc hin) (hd.set hri) hs') h
  rcases h3 with h3|h3
  ·exact YhT mono (fun L s=>strict i L s h3) (exch i h3) _ L s hd hri hrest
  ·refine⟨fun h0=>(by rw[h0]at hri;cases hri),fun j hj=>?_⟩
   obtain⟨hjn,hrj⟩:=(Ya4 hc).1 hj
   obtain rfl:=Yc7 h3 j hjn hrj
   exact hrest
def Ypu{σ:Type}(step:Nat->Array Bool->(σ->Prop)->σ->Prop)(K:σ->Prop):OT->Array Bool->σ->Prop
 | .nil,_,s=>K s
 | .op i t,L,s=>step i L (Ypu step K t (L.setIfInBounds i true)) s
 | .br a b,L,s=>Ypu step K a L s/\Ypu step K b L s
theorem Ykz{dm:List Nat}{m:Nat}{hs:List Nat}:∀{n:Nat},Ynk dm m hs n=true->∀k,k<n->Ybe dm m k=true->k∈hs
 |n+1,h,k,hk,hr=>by
  simp only[Ynk,YHn,YHS,YHD]at h
  rcases YHA k n with h'|h'
  ·exact Ykz h.2 k h' hr
  ·obtain rfl:k=n:=by omega
   rcases h.1 with h1|h1
   ·exact List.contains_iff_mem.1 h1
   ·rw[hr]at h1;cases h1
theorem Yd4{free:Nat->Bool}{dm:List Nat}{n:Nat}:∀{t:OT}{m:Nat}{ex:Bool},Yck free dm n t m ex=true->∀i∈t.heads,i<n/\Ybe dm m i=true
 | .nil,_,_,_,i,hi=>by cases hi
 | .op j t,m,ex,h,i,hi=>by
   simp only[Yck,YHn]at h
   obtain rfl:i=j:=by simpa [OT.heads]using hi
   exact⟨by have:=Nat.le_of_ble_eq_true h.1.1.1;omega,h.1.1.2⟩
 | .br a b,m,ex,h,i,hi=>by
   simp only[Yck,YHn]at h
   rcases YHO.1 hi with hi|hi
   ·exact Yd4 h.1.2 i hi
   ·exact Yd4 h.2 i hi
theorem Yia{free:Nat->Bool}{dm:List Nat}{n:Nat}:∀{t:OT}{m:Nat},Yck free dm n t m true=true->∃i,i∈t.heads
 | .nil,_,h=>by simp [Yck]at h
 | .op j t,_,_=>⟨j,by simp [OT.heads]⟩
 | .br a b,m,h=>by
   simp only[Yck,YHn]at h
   obtain⟨i,hi⟩:=Yia h.1.2
   exact⟨i,List.mem_append_left _ hi⟩
theorem Yso{free:Nat->Bool}{dm:List Nat}{n:Nat}:∀{t:OT}{m:Nat},Yck free dm n t m true=true->∃k,t.len=k+1
 | .nil,_,h=>by simp [Yck]at h
 | .op j t,_,_=>⟨t.len,rfl⟩
 | .br a b,m,h=>by
   simp only[Yck,YHn]at h
   show∃k,a.len=k+1
   exact Yso h.1.2
theorem Ygc{σ:Type}{step:Nat->Array Bool->(σ->Prop)->σ->Prop}{K:σ->Prop}{free:Nat->Bool}
 (mono:∀(j:Nat) (L:Array Bool) (s:σ) (A B:σ->Prop),(∀s,A s->B s)->step j L A s->step j L B s)
 (strict:∀i L s,free i=true->¬step i L (fun _=>False) s)
 (exch:∀(i:Nat),free i=true->∀(j:Nat) (L:Array Bool) (s:σ) (A:σ->Prop),Down md ops L->i∈Region.ready md ops L->j∈Region.ready md ops L->j≠i->step i L (step j (L.setIfInBounds i true) A) s->step j L (step i (L.setIfInBounds j true) A) s):
 ∀(t:OT)(m:Nat)(ex:Bool)(L:Array Bool)(s:σ),Yck free (Yy md ops) ops.size t m ex=true->Corr ops L m->Down md ops L->Ypu step K t L s->
  (ex=false->anyS step K md ops t.len L s)/\∀i∈t.heads,∀k,t.len=k+1->step i L (anyS step K md ops k (L.setIfInBounds i true)) s
 | .nil,m,ex,L,s,hb,hc,hd,h=>by
   simp only[Yck,YHn]at hb
   refine⟨fun _=>⟨?_,h⟩,fun i hi=>by cases hi⟩
   cases hr:Region.ready md ops L with
   |nil=>rfl
   |cons x r=>
    have hx:x∈Region.ready md ops L:=by rw[hr];exact YHw
    have:=(Ya4 hc).1 hx
    rw[Yc4 hb.2 x this.1]at this
    exact absurd this.2 (by simp)
 | .op i t,m,ex,L,s,hb,hc,hd,h=>by
   have hb0:=hb
   simp only[Yck,YHn,YHS]at hb
   obtain⟨⟨⟨h1,h2⟩,h3⟩,h4⟩:=hb
   have hin:i<ops.size:=by have:=Nat.le_of_ble_eq_true h1;omega
   have hri:i∈Region.ready md ops L:=(Ya4 hc).2 ⟨hin,h2⟩
   have hrest:=mono i L s _ _ (fun s' hs'=>(Ygc mono strict exch t _ false _ s' h4 (Ynj hc hin) (hd.set hri) hs').1 rfl) h
   refine⟨fun hex=>?_,fun j hj k hk=>?_⟩
   ·rcases h3 with(h3|h3) |h3
    ·rw[hex]at h3;cases h3
    ·exact YhT mono (fun L s=>strict i L s h3) (exch i h3) _ L s hd hri hrest
    ·refine⟨fun h0=>(by rw[h0]at hri;cases hri),fun j hj=>?_⟩
     obtain⟨hjn,hrj⟩:=(Ya4 hc).1 hj
     obtain rfl:=Yc7 h3 j hjn hrj
     exact hrest
   ·obtain rfl:j=i:=by simpa [OT.heads]using hj
    obtain rfl:t.len=k:=by simpa [OT.len]using hk
    exact hrest
 | .br a b,m,ex,L,s,hb,hc,hd,h=>by
   have hb0:=hb
   simp only[Yck,YHn,YHS]at hb
   obtain⟨⟨⟨h1,h2⟩,h3⟩,h4⟩:=hb
   have hl:a.len=b.len:=YHF h2
   have ha:=(Ygc mono strict exch a m true L s h3 hc hd h.1).2
   have hb':=(Ygc mono strict exch b m true L s h4 hc hd h.2).2
   have hall:∀i∈(OT.br a b).heads,∀k,(OT.br a b).len=k+1->step i L (anyS step K md ops k (L.setIfInBounds i true)) s:=by
    intro i hi k hk
    rcases YHO.1 hi with hi|hi
    ·exact ha i hi k hk
    ·exact hb' i hi k (by rw[<-hl];exact hk)
   refine⟨fun hex=>?_,hall⟩
   rcases h1 with h1|h1
   ·rw[hex]at h1;cases h1
   ·obtain⟨k,hk⟩:=Yso h3
    show anyS step K md ops a.len L s
    rw[hk]
    refine⟨fun h0=>?_,fun j hj=>?_⟩
    ·obtain⟨i,hi⟩:=Yia h3
     have:=(Ya4 hc).2 (Yd4 h3 i hi)
     rw[h0]at this;cases this
    ·obtain⟨hjn,hrj⟩:=(Ya4 hc).1 hj
     exact hall j (Ykz h1 j hjn hrj) k hk
theorem YgC:Down md ops (Array.replicate ops.size false):=by
 refine⟨by simp,fun i o _ h=>?_⟩
 exfalso
 rcases YHA i ops.size with h'|h'
 ·simp [h']at h
 ·simp [Array.getElem?_eq_none,h']at h
theorem Yky:Corr ops (Array.replicate ops.size false) 0:=by
 refine⟨by simp,fun i=>?_⟩
 rcases YHA i ops.size with h'|h'
 ·simp [h']
 ·simp [Array.getElem?_eq_none,h']
end
end Go.Vx
namespace Go.Vx
open Go.RowKit
structure Pend where
 idx:Nat
 slot:Nat
 cells:AL
def YK:List SV->List Pend->List SV
 |fr,[]=>fr
 |fr,p::l=>setL (YK fr l) p.slot .junk
def Yw:List HO->List Pend->List HO
 |hp,[]=>hp
 |hp,p::l=>setH (Yw hp l) p.idx .gone
theorem AL.ho_ne(z:AL):z.ho≠ .gone:=by cases z <;> (intro h;cases h)
def er(Pd:List Pend)(s:S):S:={ fr:=YK s.fr Pd,saved:=s.saved,hp:=Yw s.hp Pd}
def PR(w0:Cx)(Pd:List Pend)(s:S)(a:Act)(sv:List Act)(w:World):Prop:=
 Rl w0 (er Pd s) a sv w/\∀p∈Pd,getH s.hp p.idx=p.cells.ho/\setL s.fr p.slot (.ptr p.idx 0)=s.fr
section
variable {Pd:List Pend} {hp:List HO} {fr:List SV}
theorem Ya0:∀(Pd:List Pend),lenH (Yw hp Pd)=lenH hp
 | []=>rfl
 |p::l=>by rw[Yw,YbM,Ya0 l]
theorem YbS:∀{Pd:List Pend}{n:Nat},(∀p∈Pd,p.slot≠n)->getL (YK fr Pd) n=getL fr n
 | [],_,_=>rfl
 |p::l,n,h=>by
  rw[YK,Yby _ _ _ _ (h p YHw),YbS fun q hq=>h q (YHu _ hq)]
theorem YcW:∀{Pd:List Pend}{n:Nat},(∀p∈Pd,p.idx≠n)->getH (Yw hp Pd) n=getH hp n
 | [],_,_=>rfl
 |p::l,n,h=>by
  rw[Yw,YI _ _ _ _ (h p YHw),YcW fun q hq=>h q (YHu _ hq)]
theorem YcV:∀{Pd:List Pend}{p:Pend},p∈Pd->getH (Yw hp Pd) p.idx= .gone
 |q::l,p,h=>by
  rw[Yw]
  by_cases he:q.idx=p.idx
  ·rw[he]
   rcases YHA p.idx (lenH (Yw hp l))with hl|hl
   ·rw[Yav _ _ _ hl]
   ·rw[Ya9 _ _ (by rw[YbM];exact hl)]
  ·rw[YI _ _ _ _ he]
   rcases YHI.1 h with rfl|h
   ·exact absurd rfl he
   ·exact YcV h
theorem Ybk:∀{Pd:List Pend}{n:Nat}{x:SV},(∀p∈Pd,p.slot≠n)->YK (setL fr n x) Pd=setL (YK fr Pd) n x
 | [],_,_,_=>rfl
 |p::l,n,x,h=>by
  rw[YK,YK,Ybk (fun q hq=>h q (YHu _ hq)),Ycf _ _ _ _ _ (fun e=>h p YHw e.symm)]
theorem Yhk:∀(l:List HO)(n m:Nat)(x y:HO),n≠m->setH (setH l n x) m y=setH (setH l m y) n x
 | [],_,_,_,_,_=>rfl
 |_::_,0,0,_,_,h=>absurd rfl h
 |_::_,0,_+1,_,_,_=>rfl
 |_::_,_+1,0,_,_,_=>rfl
 |a::l,n+1,m+1,x,y,h=>congrArg (a::·) (Yhk l n m x y (fun e=>h (by rw[e])))
theorem Yd3:∀{Pd:List Pend}{n:Nat}{x:HO},(∀p∈Pd,p.idx≠n)->Yw (setH hp n x) Pd=setH (Yw hp Pd) n x
 | [],_,_,_=>rfl
 |p::l,n,x,h=>by
  rw[Yw,Yw,Yd3 (fun q hq=>h q (YHu _ hq)),Yhk _ _ _ _ _ (fun e=>h p YHw e.symm)]
theorem Yof:∀(a b:List HO)(n:Nat)(x:HO),n<lenH a->setH (a++b) n x=setH a n x++b
 | [],_,_,_,h=>by simp [lenH]at h
 |_::_,_,0,_,_=>rfl
 |y::a,b,n+1,x,h=>congrArg (y::·) (Yof a b n x (by simpa [lenH]using h))
theorem YjJ:∀(a:List HO)(x:HO),Ybp a x=a++[x]
 | [],_=>rfl
 |y::a,x=>congrArg (y::·) (YjJ a x)
theorem Ycx{hs:List HO}:∀{Pd:List Pend},(∀p∈Pd,p.idx<lenH hp)->Yw (hp++hs) Pd=Yw hp Pd++hs
 | [],_=>rfl
 |p::l,h=>by
  rw[Yw,Yw,Ycx (fun q hq=>h q (YHu _ hq)),Yof _ _ _ _ (by rw[Ya0];exact h p YHw)]
theorem YcX{x:HO}(h:∀p∈Pd,p.idx<lenH hp):Yw (Ybp hp x) Pd=Ybp (Yw hp Pd) x:=by
 rw[YjJ,YjJ,Ycx h]
theorem Yjp{w:World}{bs:List BK}{B:Bd}{i:Nat}{x:BK}(hH:Hp w bs B (Yw hp Pd))(hb:bs[i]? =some x)(hx:x≠ .gone):(∀p∈Pd,p.idx≠i)/\getH (Yw hp Pd) i=getH hp i:=by
 have:∀p∈Pd,p.idx≠i:=by
  rintro p hp rfl
  have:=hH.ent p.idx
  rw[YcV hp]at this
  rcases this with h|h
  ·rw[hb]at h;cases h;exact hx rfl
  ·rw[hb]at h;cases h
 exact⟨this,YcW this⟩
theorem hpV{w:World}{bs:List BK}{B:Bd}(hH:Hp w bs B (Yw hp Pd)):HpV w bs B hp:=
 ⟨fun i x hb hx=>by have:=hH.ent i;rw[(Yjp hH hb hx).2]at this;exact this,fun _ _ _ _ hb=>hH.le hb,hH.lo,fun _ _ _ _ hb=>hH.un hb⟩
theorem YiH{w:World}{bs:List BK}{B:Bd}{b:Nat}:∀{x:SV}{v:Value},Rep w bs B x v->blk x=some b->∃y,bs[b]? =some y/\y≠ .gone
 |_,_,.x _ _ h,hb=>by cases h <;> cases hb
 |_,_,.agg _ _ _,hb=>by cases hb
 |_,_,.tup _ _ _,hb=>by cases hb
 |_,_,.fn _ _ _ _ _ _ _,hb=>by cases hb
 |_,_,.iface _ _ _ _,hb=>by cases hb
 |_,_,.ptr i off b' n h,hb=>by cases hb;exact⟨_,h,by simp⟩
 |_,_,.own i lo n size b' cap m ad h hl ha,hb=>by cases hb;exact⟨_,h,by simp⟩
 |_,_,.ownNil i size h,hb=>by cases hb;exact⟨_,h,by simp⟩
 |_,_,.elem i k off size b' cap m h hk,hb=>by cases hb;exact⟨_,h,by simp⟩
 |_,_,.smp _ _ _,hb=>by cases hb
 |_,_,.optT _ _ _,hb=>by cases hb
 |_,_,.optF _,hb=>by cases hb
 |_,_,.cut _ _ _ _ h,hb=>YiH h hb
theorem YrR{w:World}{bs:List BK}{B:Bd}{xs:List SV}{vs:List Value}(h:RepL w bs B xs vs):∃v,Rep w bs B (Ycy xs) v:=by
 cases h with
 |nil=>exact⟨undef,.x _ _ (.junk _)⟩
 |cons x v l vs h h'=>exact⟨v,h⟩
theorem Yey{w:World}{bs:List BK}{B:Bd}{b:Nat}{xs:List SV}{vs:List Value}(hH:Hp w bs B (Yw hp Pd))(h:RepL w bs B xs vs)(hb:blk (Ycy xs)=some b):(∀p∈Pd,p.idx≠b)/\getH (Yw hp Pd) b=getH hp b:=by
 obtain⟨v,hv⟩:=YrR h
 obtain⟨y,h1,h2⟩:=YiH hv hb
 exact Yjp hH h1 h2
theorem YtA{hp hp':List HO}{n n':Nat}{o:VO}(ho:o.isStore=true){xs:List SV}(h:∀b,blk (Ycy xs)=some b->getH hp' b=getH hp b):eff hp' n' o xs=eff hp n o xs:=by
 cases o <;> simp only[VO.isStore,reduceCtorEq]at ho
 rename_i size
 rcases xs with _| ⟨a,_| ⟨v,_| ⟨c,l⟩⟩⟩ <;> try rfl
 have key:storeAt hp' size (YaB v) a=storeAt hp size (YaB v) a:=by
  cases a <;> try rfl
  case ptr i off=>have:=h i rfl;simp only[storeAt,this]
  case elem i k off sz=>have:=h i rfl;simp only[storeAt,this]
 simp only[eff,Yh4,key]
theorem YrV{hp hp':List HO}{n:Nat}{o:VO}(hq:o.quiet=false)(ha:o.isAppend=false)(hbad:o.bad=false){xs:List SV}(h:∀b,blk (Ycy xs)=some b->getH hp' b=getH hp b):eff hp' n o xs=eff hp n o xs:=by
 cases hs:o.isStore with
 |true=>exact YtA hs h
 |false=>cases o <;> simp only[VO.quiet,VO.isStore,VO.isAppend,VO.bad,reduceCtorEq]at hq hs ha hbad <;> rfl
end
end Go.Vx
namespace Go.Vx
open Go.RowKit
open Go.MapKept (run_setObj_map modify_keys)
section
variable {P:Program} {ρ:Operand->Value} {w w':World} {bs bs':List BK} {B:Bd} {hp:List HO}
def Bd.cx(B:Bd)(w:World):Cx0:={ toWorld:=w,F:=fun b=>B.I b=none,I:=B.I,up:=fun _ _ h=>h,ex:=fun _ h=>h}
def bdZ:Bd:=⟨0,fun _=>True,fun _=>none,fun _ _ _=>trivial,fun _ _=>rfl⟩
theorem YvR{kk:List IntKind}:∀{l l':List Int},l.length=kk.length->l'.length=kk.length->keyV kk l=keyV kk l'->l=l':=by
 intro l l' h1 h2 h
 simp only[keyV,Value.agg.injEq]at h
 have h:(kk.zip l).map (fun p=>Value.int p.1 p.2)=(kk.zip l').map (fun p=>Value.int p.1 p.2):=by simpa using congrArg Array.toList h
 induction kk generalizing l l' with
 |nil=>cases l <;> cases l' <;> simp at h1 h2⊢
 |cons k kk ih=>
  cases l with
  |nil=>simp at h1
  |cons x l=>
   cases l' with
   |nil=>simp at h2
   |cons y l'=>
    simp only[List.zip_cons_cons,YHH,List.cons.injEq,Value.int.injEq,true_and]at h
    rw[h.1,ih (by simpa using h1) (by simpa using h2) (by simp [keyV,h.2]) h.2]
def YfG(kk:List IntKind)(l:List Int):List Value:=(kk.zip l).map fun p=> .int p.1 p.2
def Yo6(kk:List IntKind)(l:List Int):List SV:=(kk.zip l).map fun p=> .int p.1 p.2
theorem YkR{kk:List IntKind}{l:List Int}:RepL w bs B (Yo6 kk l) (YfG kk l):=by
 unfold Yo6 YfG
 induction kk.zip l with
 |nil=>exact .nil
 |cons p r ih=>exact .cons _ _ _ _ (.x _ _ (.int _ _)) ih
theorem YkU:∀{fs:List Field}{k:Nat}{kk:List IntKind},Yc0 P k fs=some kk->Yd5 P k fs=some (kk.map fun _=>true)
 | [],k,kk,h=>by simp only[Yc0,Option.some.injEq]at h;subst h;rfl
 |f::fs,k,kk,h=>by
  simp only[Yc0]at h
  split at h
  ·rename_i hc
   split at h
   ·rename_i kd hu
    obtain⟨kk',h1,rfl⟩:=YHm.1 h
    simp only[Yd5]
    rw[if_pos hc]
    simp [Yfq,hu,YkU h1]
   ·cases h
  ·cases h
theorem Yw6:∀{kk:List IntKind}{l l':List Int},l.length=kk.length->l'.length=kk.length->∃p,YbI (kk.map fun _=>true) (Yo6 kk l) (Yo6 kk l')=some (p,decide (l=l'))/\p
 | [],l,l',h1,h2=>by
   cases l <;> cases l' <;> simp at h1 h2
   exact⟨True,by simp [Yo6,YbI],trivial⟩
 |k::kk,l,l',h1,h2=>by
  cases l with
  |nil=>simp at h1
  |cons x l=>
   cases l' with
   |nil=>simp at h2
   |cons y l'=>
    obtain⟨p,h3,h4⟩:=Yw6 (kk:=kk) (l:=l) (l':=l') (by simpa using h1) (by simpa using h2)
    refine⟨k=k/\p,?_,rfl,h4⟩
    simp only[Yo6,YHH,List.zip_cons_cons,YbI]
    have h3':YbI (kk.map fun _=>true) ((kk.zip l).map fun p=> .int p.1 p.2) ((kk.zip l').map fun p=> .int p.1 p.2)=some (p,decide (l=l')):=h3
    rw[h3']
    simp
theorem YgX{t:TypeId}{kk:List IntKind}(h:YbU P t=some kk):∃k e fs,P.underlying t=some (.map k e)/\P.underlying k=some (.struct fs)/\P.stoodInHeld k=false/\Yc0 P 0 fs.toList=some kk/\(∀w:World,(zeroValue e).run P w= .ok (.int .i64 0) w):=by
 unfold YbU at h
 split at h
 ·rename_i k e hu
  split at h
  ·rename_i fs hk
   split at h
   ·rename_i hc
    simp only[YHn,YHD]at hc
    refine⟨k,e,fs,hu,hk,hc.2,h,fun w=>?_⟩
    have hz:=hc.1
    unfold YxW at hz
    split at hz
    ·rename_i i hi
     split at hz
     ·rename_i hz0
      simp [zeroValue,typeInfo,hi,hz0]
     ·cases hz
    ·cases hz
   ·cases h
  ·cases h
 ·cases h
theorem Ytj{k:TypeId}{fs:Array Field}{kk:List IntKind}(hk:P.underlying k=some (.struct fs))(hs:P.stoodInHeld k=false)(hi:Yc0 P 0 fs.toList=some kk){l l':List Int}(h1:l.length=kk.length)(h2:l'.length=kk.length):
 (Op.equal k (keyV kk l) (keyV kk l')).run P w= .ok (decide (l=l')) w:=by
 obtain⟨p,h3,h4⟩:=Yw6 h1 h2
 have hu':P.underlying k=some (.struct (P.fieldsOf k)):=by simp [Program.fieldsOf,hk]
 have hf:(P.fieldsOf k).toList=fs.toList:=by simp [Program.fieldsOf,hk]
 have hrun:=run_equalIn_struct (P:=P) w 9999 k (YfG kk l).toArray (YfG kk l').toArray hu' hs
 rw[hf,Yd1 (d:=9998) (X:=YfG kk l) (Y:=YfG kk l') (bs:=[]) (B:=bdZ) (YkU hi) h3 h4 (by simpa using YkR) (by simpa using YkR)]at hrun
 simpa [Op.equal,Op.maxDepth,keyV,YfG]using hrun
theorem YbD{k:TypeId}{fs:Array Field}{kk:List IntKind}(hk:P.underlying k=some (.struct fs))(hs:P.stoodInHeld k=false)(hi:Yc0 P 0 fs.toList=some kk){l:List Int}(h1:l.length=kk.length):
 ∀(es:List MapEntry)(i:Nat),(∀e∈es,∃l,l.length=kk.length/\e.key=keyV kk l)->
  ((Instr.findAsking k (keyV kk l) es i).run P w= .ok none w)\/∃j e,(Instr.findAsking k (keyV kk l) es i).run P w= .ok (some (i+j,e.val)) w/\es[j]? =some e/\e.key=keyV kk l
 | [],i,_=> .inl rfl
 |e::es,i,h=>by
  obtain⟨l',h2,h3⟩:=h e YHw
  have hq:=Ytj (w:=w) hk hs hi h1 h2
  unfold Instr.findAsking
  rw[h3]
  simp only[Sem.run_bind,hq,Result.andThen_ok]
  by_cases hl:l=l'
  ·right
   refine⟨0,e,by simp [hl],rfl,by rw[h3,hl]⟩
  ·simp only[hl,decide_false,YHG,if_false]
   rcases YbD hk hs hi h1 es (i+1) (fun e he=>h e (YHu _ he))with h4| ⟨j,e',h4,h5,h6⟩
   ·exact .inl h4
   ·exact .inr ⟨j+1,e',by rw[h4,show i+1+j=i+(j+1)by omega],by simpa using h5,h6⟩
theorem YdH{kk:List IntKind}{l:List Int}{k:TypeId}{fs:Array Field}(hk:P.underlying k=some (.struct fs))(hi:Yc0 P 0 fs.toList=some kk)(h1:l.length=kk.length)(em:Bool):(Instr.checkKey em 10000 k (keyV kk l)).run P w= .ok () w:=by
 have key:∀(gs:List Field)(j:Nat)(kj:List IntKind)(lj:List Int)(X:List Value),Yc0 P j gs=some kj->lj.length=kj.length->X.drop j=YfG kj lj->
  (forIn gs PUnit.unit (fun(f:Field) (_:PUnit)=>(if f.name≠ "_" then do let a<-part f.type X.toArray f.offset;Instr.checkKey em 9999 f.type a;pure (ForInStep.yield PUnit.unit)else pure (ForInStep.yield PUnit.unit):Sem (ForInStep PUnit)))).run P w= .ok PUnit.unit w:=by
  intro gs
  induction gs with
  |nil=>intro j kj lj X _ _ _;simp
  |cons f gs ih=>
   intro j kj lj X hkj hlj hX
   simp only[Yc0]at hkj
   split at hkj
   ·rename_i hc
    simp only[YHn,beq_iff_eq,bne_iff_ne,ne_eq]at hc
    obtain⟨⟨c1,c2⟩,c3⟩:=hc
    split at hkj
    ·rename_i kd hu
     obtain⟨kj',hk',rfl⟩:=YHm.1 hkj
     cases lj with
     |nil=>simp at hlj
     |cons x lj=>
      have hX':X.drop j= .int kd x::YfG kj' lj:=by rw[hX];rfl
      obtain⟨d1,d2⟩:=YaC hX'
      have hp:(part f.type X.toArray f.offset).run P w= .ok (.int kd x) w:=by
       rw[c2]
       exact Ydh (b:=true) (by simp [Yfq,hu]) d1
      have hck:(Instr.checkKey em 9999 f.type (.int kd x)).run P w= .ok () w:=by
       unfold Instr.checkKey
       simp [run_underlying hu,Result.andThen]
      have ih':=ih (j+1) kj' lj X hk' (by simpa using hlj) d2
      simp only[List.forIn_cons,Sem.run_bind,ne_eq,c3,not_false_eq_true,if_true,hp,Result.andThen_ok,hck,Sem.run_pure]
      exact ih'
    ·cases hkj
   ·cases hkj
 have:=key fs.toList 0 kk l (YfG kk l) hi h1 rfl
 unfold Instr.checkKey
 simp only[Sem.run_bind,run_underlying hk,Result.andThen_ok,keyV]
 rw[<-Array.forIn_toList]
 simp [YfG]at this⊢
 rw[this]
 rfl
theorem YjD{kk:List IntKind}{l:List Int}:Instr.sameBits 10000 (keyV kk l) (keyV kk l)=true:=by
 have h:∀(vs:List (IntKind×Int)),((vs.map fun p=>Value.int p.1 p.2).zip (vs.map fun p=>Value.int p.1 p.2)).all (fun(x,y)=>Instr.sameBits 9999 x y)=true:=by
  intro vs
  induction vs with
  |nil=>rfl
  |cons p r ih=>simp only[YHH,List.zip_cons_cons,List.all_cons,ih,Bool.and_true];simp [Instr.sameBits]
 unfold keyV Instr.sameBits
 simp only[beq_self_eq_true,Bool.true_and]
 exact h (kk.zip l)
theorem Yjl:∀{kk:List IntKind}{cs:List SV}{p:Prop}{l:List Int}{vs:List Value},Yjk kk cs=some (p,l)->p->RepL w bs B cs vs->vs=YfG kk l/\l.length=kk.length
 | [],cs,p,l,vs,h,hp,hr=>by
   cases cs with
   |nil=>simp only[Yjk,Option.some.injEq,Prod.mk.injEq]at h;obtain⟨_,rfl⟩:=h;cases hr;exact⟨rfl,rfl⟩
   |cons=>simp [Yjk]at h
 |k::kk,cs,p,l,vs,h,hp,hr=>by
  cases cs with
  |nil=>simp [Yjk]at h
  |cons c cs=>
   cases c <;> simp only[Yjk,reduceCtorEq]at h
   rename_i k' x
   obtain⟨⟨q,r⟩,h1,h2⟩:=YHm.1 h
   simp only[Prod.mk.injEq]at h2
   obtain⟨rfl,rfl⟩:=h2
   obtain⟨rfl,hq⟩:=hp
   obtain⟨v,vs',rfl,g1,g2⟩:=hr.cons_inv
   obtain⟨rfl,hl⟩:=Yjl h1 hq g2
   rw[g1.int_inv]
   exact⟨rfl,by simp [hl]⟩
theorem hp0{z:Cx0}{w':World}{J:Nat->Option IK}{hJ:Ext z J}(h:∀(b:Nat) (K:IK),J b=some K->∃o,w'.heap[b]? =some o/\K.ok o):Hp w' [] (z.wI J hJ).bd []:=
 ⟨rfl,fun i=> .inr (by simp),fun _ _ _ _ _ _ _ h=>by simp at h,fun _ _ _ _ h=>by simp at h,fun b K hb=>⟨YbL,h b K hb⟩⟩
theorem Yam(z:Cx0):Ext z z.I:=⟨fun _ _=>rfl,fun _ _ h=>h⟩
def POk(P:Program)(ρ:Operand->Value)(op:Op)(w:World)(B:Bd)(k:SV->List HO->Prop):Prop:=
 ∃r v w' x J,∃hJ:Ext (B.cx w) J,(∀dst type pos after guard,(execOp ρ ⟨dst,op,type,pos,after,guard⟩).run P w= .ok r w')/\(r= .value v\/(r= .skip/\v=undef))/\k x []/\
  Rep w' [] ((B.cx w).wI J hJ).bd x v/\Hp w' [] ((B.cx w).wI J hJ).bd []/\BelowI (B.cx w).bd w w'/\Yt x
theorem YfB{b:Nat}{o:Obj}{K:IK}(hw:Wrote w w' b o)(hI:B.I b=some K):BelowI (B.cx w).bd w w':=
 ⟨hw.os,hw.tape,hw.output,Nat.le_of_eq hw.size.symm,fun k hk hIk=>hw.other k (by rintro rfl;have h:B.I k=none:=hIk;rw[hI]at h;cases h)⟩
theorem YlE(hH:Hp w bs B hp){b:Nat}{o:Obj}{K:IK}(hw:Wrote w w' b o)(hI:B.I b=some K)(ho:K.ok o):∀(b:Nat)(K:IK),B.I b=some K->∃o,w'.heap[b]? =some o/\K.ok o:=by
 intro b' K' hI'
 by_cases hb:b'=b
 ·subst hb
  rw[hI]at hI';cases hI'
  exact⟨o,hw.at_,ho⟩
 ·obtain⟨_,o',h1,h2⟩:=hH.reg b' K' hI'
  exact⟨o',by rw[hw.other b' hb];exact h1,h2⟩
theorem Yls{b:Nat}{o o':Obj}(hb:w.heap[b]? =some o):Wrote w { w with heap:=w.heap.setIfInBounds b o'} b o':=by
 have hbl:b<w.heap.size:=(YHy.1 hb).1
 exact⟨rfl,rfl,rfl,by simp,by simp [hbl],fun r hr=>by simp [Ne.symm hr]⟩
inductive Yoq (P:Program):Op->VO->List Operand->Prop where
 |load (t:TypeId) (a:Operand) (g:Bool) (s:Nat) (hg:YdR P t=some g) (hs:sizeOf? P t=some s) (hc:chk g s=true):Yoq P (.load t a) (.load g s) [a]
 |store (t:TypeId) (a x:Operand) (s:Nat) (hs:sizeOf? P t=some s):Yoq P (.store t a x) (.store s) [a,x]
 |mk (t:TypeId) (kk:List IntKind) (h:YbU P t=some kk):Yoq P (.makeMap t none) (.mkMap kk) []
 |get (t:TypeId) (m k:Operand) (kk:List IntKind) (h:YbU P t=some kk):Yoq P (.lookup t m k true) (.mapGet kk) [m,k]
 |put (t:TypeId) (m k x:Operand) (kk:List IntKind) (h:YbU P t=some kk):Yoq P (.mapUpdate t m k x) (.mapPut kk) [m,k,x]
theorem YwR{op:BinOp}{t:TypeId}{v:VO}(hv:vbin P op t=some v)(xs:List SV):psd v xs=none:=by
 cases op <;> simp only[vbin]at hv
 ·split at hv <;> cases hv;rfl
 ·split at hv <;> cases hv;rfl
 ·cases hv;rfl
 ·cases hv;rfl
 ·cases hv;rfl
 ·cases hv;rfl
 ·cases hv;rfl
 ·cases hv;rfl
 ·cases hv;rfl
 ·cases hv;rfl
 ·cases hv;rfl
 ·split at hv
  ·cases hv;rfl
  ·split at hv
   ·cases hv;rfl
   split at hv
   ·cases hv;rfl
   ·obtain⟨ks,hk,rfl⟩:=YHm.1 hv
    rfl
 ·split at hv
  ·cases hv;rfl
  ·split at hv
   ·cases hv;rfl
   split at hv
   ·cases hv;rfl
   ·obtain⟨ks,hk,rfl⟩:=YHm.1 hv
    rfl
 ·cases hv;rfl
 ·cases hv;rfl
 ·cases hv;rfl
 ·cases hv;rfl
theorem YCe{o:Oper}{vo:VO}{ops:List Operand}(hv:vop P o=some (vo,ops)):Yoq P o.op vo ops\/∀xs,psd vo xs=none:=by
 obtain⟨dst,op,type,pos,after,guard⟩:=o
 unfold vop at hv
 simp only at hv
 split at hv
 ·cases hv;exact .inr fun _=>rfl
 ·cases hv;exact .inr fun _=>rfl
 ·cases hv;exact .inr fun _=>rfl
 ·split at hv
  ·obtain⟨kk,hk,hv⟩:=YHm.1 hv
   cases hv;exact .inl (.mk _ kk hk)
  ·split at hv <;> cases hv
   exact .inr fun _=>rfl
 ·split at hv
  ·cases hv;exact .inr fun _=>rfl
  ·obtain⟨kk,hk,hv⟩:=YHm.1 hv
   cases hv;exact .inl (.put _ _ _ _ kk hk)
 ·obtain⟨kk,hk,hv⟩:=YHm.1 hv
  cases hv;exact .inl (.get _ _ _ kk hk)
 ·cases hv;exact .inr fun _=>rfl
 ·cases hv;exact .inr fun _=>rfl
 ·split at hv
  ·obtain⟨z,hz,hv⟩:=YHl.1 hv
   obtain⟨s,hs,hv⟩:=YHm.1 hv
   cases hv;exact .inr fun _=>rfl
  ·obtain⟨z,hz,hv⟩:=YHm.1 hv
   cases hv;exact .inr fun _=>rfl
 ·cases hv;exact .inr fun _=>rfl
 ·obtain⟨z,hz,hv⟩:=YHl.1 hv
  obtain⟨pl,hpl,hv⟩:=YHl.1 hv
  split at hv <;> cases hv
  exact .inr fun _=>rfl
 ·obtain⟨g,hg,hv⟩:=YHl.1 hv
  obtain⟨s,hs,hv⟩:=YHl.1 hv
  split at hv <;> cases hv
  exact .inl (.load _ _ g s hg hs ‹_›)
 ·obtain⟨s,hs,hv⟩:=YHm.1 hv
  cases hv
  exact .inl (.store _ _ _ s hs)
 ·split at hv <;> cases hv
  exact .inr fun _=>rfl
 ·split at hv <;> cases hv
  exact .inr fun _=>rfl
 ·obtain⟨v,hb,hv⟩:=YHm.1 hv
  cases hv
  exact .inr (YwR hb)
 ·cases hv;exact .inr fun _=>rfl
 ·cases hv;exact .inr fun _=>rfl
 ·split at hv <;> cases hv
  exact .inr fun _=>rfl
 ·obtain⟨fs,hfs,hv⟩:=YHl.1 hv
  obtain⟨fd,hfd,hv⟩:=YHl.1 hv
  obtain⟨z,hz,hv⟩:=YHl.1 hv
  split at hv <;> cases hv
  exact .inr fun _=>rfl
 ·obtain⟨fs,hfs,hv⟩:=YHl.1 hv
  obtain⟨fd,hfd,hv⟩:=YHl.1 hv
  obtain⟨z,hz,hv⟩:=YHl.1 hv
  obtain⟨g,hg,hv⟩:=YHl.1 hv
  split at hv <;> cases hv
  exact .inr fun _=>rfl
 ·split at hv
  ·obtain⟨s,hs,hv⟩:=YHm.1 hv
   cases hv;exact .inr fun _=>rfl
  ·obtain⟨s,hs,hv⟩:=YHm.1 hv
   cases hv;exact .inr fun _=>rfl
  ·cases hv
 ·split at hv
  ·obtain⟨s,hs,hv⟩:=YHl.1 hv
   obtain⟨g,hg,hv⟩:=YHl.1 hv
   split at hv <;> cases hv
   exact .inr fun _=>rfl
  ·cases hv;exact .inr fun _=>rfl
  ·cases hv
 ·split at hv
  ·obtain⟨s,hs,hv⟩:=YHm.1 hv
   cases hv;exact .inr fun _=>rfl
  ·obtain⟨s,hs,hv⟩:=YHm.1 hv
   cases hv;exact .inr fun _=>rfl
  ·cases hv
 ·split at hv
  ·obtain⟨s,hs,hv⟩:=YHm.1 hv
   cases hv;exact .inr fun _=>rfl
  ·cases hv
 ·split at hv
  ·obtain⟨s,hs,hv⟩:=YHl.1 hv
   obtain⟨b,hb,hv⟩:=YHl.1 hv
   obtain⟨z,hz,hv⟩:=YHl.1 hv
   split at hv <;> cases hv
   exact .inr fun _=>rfl
  ·cases hv
 ·split at hv
  ·obtain⟨s,hs,hv⟩:=YHl.1 hv
   obtain⟨z,hz,hv⟩:=YHl.1 hv
   split at hv <;> cases hv
   exact .inr fun _=>rfl
  ·cases hv
 ·cases hv;exact .inr fun _=>rfl
 ·split at hv
  ·cases hv
  ·cases hv;exact .inr fun _=>rfl
  ·cases hv
 ·cases hv;exact .inr fun _=>rfl
 ·rename_i c
  split at hv
  ·split at hv
   ·cases hv;exact .inr fun _=>rfl
   ·cases hv;exact .inr fun _=>rfl
  ·cases hv;exact .inr fun _=>rfl
  ·cases hv;exact .inr fun _=>rfl
  ·split at hv
   ·cases hv;exact .inr fun _=>rfl
   ·cases hv;exact .inr fun _=>rfl
   ·cases hv;exact .inr fun _=>rfl
   ·cases hv;exact .inr fun _=>rfl
   ·cases hv
  ·cases hv;exact .inr fun _=>rfl
  ·cases hv;exact .inr fun _=>rfl
  ·split at hv
   ·obtain⟨s,hs,hv⟩:=YHl.1 hv
    obtain⟨b,hb,hv⟩:=YHl.1 hv
    obtain⟨z,hz,hv⟩:=YHl.1 hv
    split at hv <;> cases hv
    exact .inr fun _=>rfl
   ·cases hv
  ·cases hv
 ·cases hv
theorem Yv0{t:TypeId}{a:Operand}{C:Int->Prop}{k:SV->List HO->Prop}(hg:YdR P t=some false)(hc:∀v,C v->k (.int .i64 v) [])(hx:Rep w bs B (.rcell C) (ρ a))(hH:Hp w bs B hp):POk P ρ (.load t a) w B k:=by
 obtain⟨n,D,j,b,rfl,hI,hj,hv⟩:=hx.rcell_inv
 obtain⟨_,o,ho,vs,T,rfl,hn,hall⟩:=hH.reg b _ hI
 obtain⟨v,hvv,hC⟩:=hall j hj
 refine⟨.value (.int .i64 v),.int .i64 v,w,.int .i64 v,B.I,Yam (B.cx w),fun dst type pos after guard=>?_,.inl rfl,hc v hC,.x _ _ (.int _ _),hp0 fun b K h=>(hH.reg b K h).2,BelowI.refl _ _,trivial⟩
 simp only[execOp,Instr.loadAt,hv,Instr.sureAddr,loadVar,Sem.run_bind,Sem.run_pure,Result.andThen_ok,Yce hg,YHG,if_false,run_load]
 have hcell:w.cell? ⟨b,j,none⟩=some (.int .i64 v):=by
  have h1:Cells w b 0 vs.toList:=⟨vs,T,(0,0),ho,fun q u hq=>by simpa using hq⟩
  have:=h1.cell (j:=j) (v:= .int .i64 v) (by simpa using hvv)
  simpa using this
 rw[hcell];rfl
theorem Ytz{t:TypeId}{a x:Operand}{C:Int->Prop}{v:Int}{k:SV->List HO->Prop}(hs:sizeOf? P t=some 1)(hC:C v)(hc:k .junk [])(hx:Rep w bs B (.rcell C) (ρ a))(hy:ρ x= .int .i64 v)(hH:Hp w bs B hp):POk P ρ (.store t a x) w B k:=by
 obtain⟨n,D,j,b,rfl,hI,hj,hv⟩:=hx.rcell_inv
 obtain⟨_,o,ho,vs,T,rfl,hn,hall⟩:=hH.reg b _ hI
 obtain⟨w',cs',hrun,hw,hcs⟩:=YcJ (P:=P) (ρ:=ρ) (x:=a) (y:=x) hs hv ho (by rw[hy];rfl) (by omega) (by rw[hy];simp [Value.cells,Value.oneCell'])
 have hcs':cs'.toList=vs.toList.set j (.int .i64 v):=by
  rw[hcs,hy]
  simp only[Value.cells,YG,YH8,List.length_nil]
  rw[List.set_eq_take_append_cons_drop,if_pos (by simp;omega)]
  simp
 have hok:(IK.ints n D).ok (.cells cs' T (0,0)):=by
  refine⟨cs',T,rfl,?_,fun q hq=>?_⟩
  ·rw[<-Array.length_toList,hcs'];simpa using hn
  ·rw[<-Array.getElem?_toList,hcs',List.getElem?_set]
   split
   ·rename_i he
    subst he
    rw[if_pos (by simp;omega)]
    exact⟨v,rfl,hC⟩
   ·obtain⟨u,h1,h2⟩:=hall q hq
    exact⟨u,by rw[Array.getElem?_toList];exact h1,h2⟩
 exact⟨.skip,undef,w',.junk,B.I,Yam (B.cx w),hrun,.inr ⟨rfl,rfl⟩,hc,.x _ _ (.junk _),hp0 (YlE hH hw hI hok),YfB hw hI,trivial⟩
theorem Yv3{t:TypeId}{kk:List IntKind}{k:SV->List HO->Prop}{C:List Int->Int->Prop}(hc:k (.imap kk C) [])(hH:Hp w bs B hp):POk P ρ (.makeMap t none) w B k:=by
 let J:Nat->Option IK:=fun b=>if b=w.heap.size then some (.map kk C)else B.I b
 have hJ:Ext (B.cx w) J:=⟨fun b hb=>by show(if b=w.heap.size then _ else _)=_;rw[if_neg (by have h:b<w.heap.size:=hb;omega)];rfl,fun b K hK=>by
  show(if b=w.heap.size then _ else _)=_
  have hK:B.I b=some K:=hK
  obtain⟨_,o,ho,_⟩:=hH.reg b K hK
  have:=(YHy.1 ho).1
  rw[if_neg (by omega)];exact hK⟩
 refine⟨.value (.map (some w.heap.size)),_,World.push w (.map #[] 0),.imap kk C,J,hJ,fun dst type pos after guard=>?_,.inl rfl,hc,.x _ _ (.imap _ _ _ (by show J _=_;simp [J])),hp0 fun b K hK=>?_,.of (YZ (B:=(B.cx w).bd) _ (YHr _)),trivial⟩
 ·simp [execOp,Instr.makeMap,Result.andThen,run_newObj,World.push]
 ·by_cases hb:b=w.heap.size
  ·subst hb
   have:K= .map kk C:=by have h:J w.heap.size=some K:=hK;simp [J]at h;exact h.symm
   subst this
   exact⟨_,YaW, #[],0,rfl,fun e he=>by simp at he⟩
  ·have h:J b=some K:=hK
   simp only[J,if_neg hb]at h
   obtain⟨_,o,ho,hok⟩:=hH.reg b K h
   exact⟨o,Yf8 ho,hok⟩
theorem Ysx{t:TypeId}{m y:Operand}{kk:List IntKind}{C:List Int->Int->Prop}{l:List Int}{k:SV->List HO->Prop}(ht:YbU P t=some kk)(hc:∀r:Option Int,(∀v,r=some v->C l v)->k (.tup [.int .i64 (r.getD 0),.bool r.isSome]) [])
 (hx:Rep w bs B (.imap kk C) (ρ m))(hy:ρ y=keyV kk l)(hl:l.length=kk.length)(hH:Hp w bs B hp):POk P ρ (.lookup t m y true) w B k:=by
 obtain⟨b,hI,hv⟩:=hx.imap_inv
 obtain⟨_,o,ho,es,clock,rfl,hall⟩:=hH.reg b _ hI
 obtain⟨kt,et,fs,hu,hk,hst,hki,hz⟩:=YgX ht
 have hkeys:∀e∈es.toList,∃l,l.length=kk.length/\e.key=keyV kk l:=fun e he=>by
  obtain⟨l,v,h1,h2,_⟩:=hall e he;exact⟨l,h1,h2⟩
 have hwide:(match P.underlying kt with|some (.array _ _) |some (.struct _)=>true|_=>false)=true:=by rw[hk]
 have hfin:∀a,(Instr.findAsking kt (keyV kk l) es.toList 0).run P w= .ok a w->(Instr.findKey kt (keyV kk l) es.toList).run P w= .ok a w:=fun a h=>by rw[run_findKey_eq w hwide];exact h
 have fin:∀r:Option Int,(∀v,r=some v->C l v)->(∀dst type pos after guard,(execOp ρ ⟨dst,.lookup t m y true,type,pos,after,guard⟩).run P w= .ok (.value (.tuple #[.int .i64 (r.getD 0),.bool r.isSome])) w)->POk P ρ (.lookup t m y true) w B k:=fun r hr hrun=>
  ⟨_,.tuple #[.int .i64 (r.getD 0),.bool r.isSome],w,_,B.I,Yam (B.cx w),hrun,.inl rfl,hc r hr,.x _ _ (.tup _ _ (.cons _ _ _ _ (.int _ _) (.cons _ _ _ _ (.bool _) .nil))),hp0 fun b K h=>(hH.reg b K h).2,BelowI.refl _ _,by simp [Yt,Ys]⟩
 rcases YbD (w:=w) hk hst hki hl es.toList 0 hkeys with h| ⟨j,e,h,h2,h3⟩
 ·refine fin none (fun _ h=>by cases h) fun dst type pos after guard=>?_
  simp [execOp,Instr.lookup,run_underlying hu,hv,hy,MapKept.run_getObj_map ho,YdH hk hki hl,hfin _ h,Result.andThen,hz w]
 ·obtain⟨l',v,g1,g2,g3,g4⟩:=hall e (List.mem_of_getElem? h2)
  have:l'=l:=YvR g1 hl (by rw[<-g2,h3])
  subst this
  refine fin (some v) (fun u hu=>by cases hu;exact g4) fun dst type pos after guard=>?_
  simp [execOp,Instr.lookup,run_underlying hu,hv,hy,MapKept.run_getObj_map ho,YdH hk hki hl,hfin _ h,Result.andThen,g3]
theorem Ysy{t:TypeId}{m y x:Operand}{kk:List IntKind}{C:List Int->Int->Prop}{l:List Int}{v:Int}{k:SV->List HO->Prop}(ht:YbU P t=some kk)(hC:C l v)(hc:k .junk [])
 (hx:Rep w bs B (.imap kk C) (ρ m))(hy:ρ y=keyV kk l)(hl:l.length=kk.length)(hxv:ρ x= .int .i64 v)(hH:Hp w bs B hp):POk P ρ (.mapUpdate t m y x) w B k:=by
 obtain⟨b,hI,hv⟩:=hx.imap_inv
 obtain⟨_,o,ho,es,clock,rfl,hall⟩:=hH.reg b _ hI
 obtain⟨kt,et,fs,hu,hk,hst,hki,hz⟩:=YgX ht
 have hkeys:∀e∈es.toList,∃l,l.length=kk.length/\e.key=keyV kk l:=fun e he=>by
  obtain⟨l,v,h1,h2,_⟩:=hall e he;exact⟨l,h1,h2⟩
 have hwide:(match P.underlying kt with|some (.array _ _) |some (.struct _)=>true|_=>false)=true:=by rw[hk]
 have hfin:∀a,(Instr.findAsking kt (keyV kk l) es.toList 0).run P w= .ok a w->(Instr.findKey kt (keyV kk l) es.toList).run P w= .ok a w:=fun a h=>by rw[run_findKey_eq w hwide];exact h
 have fin:∀(es':Array MapEntry)(clock':Nat),(∀dst type pos after guard,(execOp ρ ⟨dst,.mapUpdate t m y x,type,pos,after,guard⟩).run P w= .ok .skip { w with heap:=w.heap.setIfInBounds b (.map es' clock')})->(∀e∈es'.toList,∃l v,l.length=kk.length/\e.key=keyV kk l/\e.val= .int .i64 v/\C l v)->POk P ρ (.mapUpdate t m y x) w B k:=fun es' clock' hrun hall'=>
  ⟨.skip,undef,_,.junk,B.I,Yam (B.cx w),hrun,.inr ⟨rfl,rfl⟩,hc,.x _ _ (.junk _),hp0 (YlE hH (Yls ho) hI ⟨es',clock',rfl,hall'⟩),YfB (Yls ho) hI,trivial⟩
 rcases YbD (w:=w) hk hst hki hl es.toList 0 hkeys with h| ⟨j,e,h,h2,h3⟩
 ·refine fin (es.push { key:=keyV kk l,val:= .int .i64 v,born:=clock}) (clock+1) (fun dst type pos after guard=>?_) fun e he=>?_
  ·simp [execOp,Instr.mapUpdate,run_underlying hu,hv,hy,hxv,MapKept.run_getObj_map ho,YdH hk hki hl,hfin _ h,Result.andThen,run_setObj_map _ ho]
  ·simp only[Array.toList_push,YHO,YHZ]at he
   rcases he with he|rfl
   ·exact hall e he
   ·exact⟨l,v,hl,rfl,rfl,hC⟩
 ·have hj:es[j]? =some e:=by simpa using h2
  have hks:(Instr.keyThatStays (keyV kk l) (keyV kk l)).run P w= .ok (keyV kk l) w:=by simp [Instr.keyThatStays,YjD]
  refine fin (es.modify j fun e=>{ e with key:=keyV kk l,val:= .int .i64 v}) clock (fun dst type pos after guard=>?_) fun e' he=>?_
  ·simp [execOp,Instr.mapUpdate,run_underlying hu,hv,hy,hxv,MapKept.run_getObj_map ho,YdH hk hki hl,hfin _ h,hj,h3,hks,Result.andThen,run_setObj_map _ ho]
  ·obtain⟨q,hq⟩:=List.mem_iff_getElem?.1 he
   rw[Array.getElem?_toList,Array.getElem?_modify]at hq
   split at hq
   ·obtain⟨e0,_,rfl⟩:=YHm.1 hq
    exact⟨l,v,hl,rfl,rfl,hC⟩
   ·exact hall e' (List.mem_of_getElem? (by rw[Array.getElem?_toList];exact hq))
theorem YxG{o:Oper}{vo:VO}{ops:List Operand}{xs:List SV}{c:CRes}{k:SV->List HO->Prop}(hv:vop P o=some (vo,ops))(hp1:psd vo xs=some c)(hc:CSat c k)(hx:RepL w bs B xs (ops.map ρ))(hH:Hp w bs B hp):POk P ρ o.op w B k:=by
 have hcase:=YCe hv
 generalize o.op=op at hcase
 rcases hcase with h|h
 ·cases h with
  |load t a g s hg hs hck=>
   unfold psd at hp1
   cases g with
   |true=>cases hp1
   |false=>
    simp only at hp1
    split at hp1 <;> cases hp1
    exact Yv0 hg hc (one1 hx) hH
  |store t a x s hs=>
   unfold psd at hp1
   simp only at hp1
   split at hp1 <;> cases hp1
   obtain⟨h1,h2⟩:=two hx
   obtain⟨⟨rfl,hC⟩,hc⟩:=hc
   exact Ytz hs hC hc h1 h2.int_inv hH
  |mk t kk ht=>
   unfold psd at hp1
   simp only at hp1
   split at hp1 <;> cases hp1
   obtain⟨C,hC⟩:=hc
   exact Yv3 hC hH
  |get t m y kk ht=>
   unfold psd at hp1
   simp only at hp1
   split at hp1
   ·rename_i ks C cs
    obtain⟨⟨p,l⟩,hk,heq⟩:=YHm.1 hp1
    simp only at heq
    subst heq
    obtain⟨⟨rfl,hpp⟩,hc⟩:=hc
    obtain⟨h1,h2⟩:=two hx
    obtain⟨vs,h3,h4⟩:=h2.agg_inv
    obtain⟨rfl,h5⟩:=Yjl hk hpp h4
    exact Ysx ht hc h1 h3 h5 hH
   ·cases hp1
  |put t m y x kk ht=>
   unfold psd at hp1
   simp only at hp1
   split at hp1
   ·rename_i ks C cs v
    obtain⟨⟨p,l⟩,hk,heq⟩:=YHm.1 hp1
    simp only at heq
    subst heq
    obtain⟨⟨⟨rfl,hpp⟩,hC⟩,hc⟩:=hc
    obtain⟨v1,l1,e1,h1,hx⟩:=hx.cons_inv
    obtain⟨v2,l2,e2,h2,hx⟩:=hx.cons_inv
    obtain⟨v3,l3,e3,h3,hx⟩:=hx.cons_inv
    simp only[YHH,List.map_nil,List.cons.injEq]at e1
    obtain⟨r1,rfl⟩:=e1
    simp only[List.cons.injEq]at e2
    obtain⟨r2,rfl⟩:=e2
    simp only[List.cons.injEq]at e3
    obtain⟨r3,rfl⟩:=e3
    obtain⟨vs,h5,h6⟩:=h2.agg_inv
    obtain⟨rfl,h7⟩:=Yjl hk hpp h6
    exact Ysy ht hC hc (r1▸h1) (r2.trans h5) h7 (r3.trans h3.int_inv) hH
   ·cases hp1
 ·rw[h xs]at hp1;cases hp1
end
end Go.Vx
namespace Go.Vx
open Go.RowKit
section
variable {P:Program} {E:Env} {w0:Cx} {rd:Option Nat} {Pd:List Pend} {A:S->Prop} {s:S}
theorem YcU{d:Option Nat}{x:SV}(hd:∀p∈Pd,d≠some p.slot):er Pd (s.put d x)=(er Pd s).put d x:=by
 cases d with
 |none=>rfl
 |some n=>simp only[er,S.put];rw[Ybk fun p hp e=>hd p hp (by rw[e])]
theorem YrJ:∀{xs:List X},(∀p∈Pd,p.slot∉Yab xs)->(er Pd s).args xs=s.args xs
 | [],_=>rfl
 |x::l,h=>by
  simp only[S.args]
  rw[YrJ fun p hp hm=>h p hp (by simp [Yab,hm])]
  cases x with
  |cn _=>rfl
  |tm n=>simp only[S.x,er];rw[YbS fun p hp e=>h p hp (by simp [Yab,X.slot,e])]
theorem YaE{d:Option Nat}{x:SV}(hd:∀p∈Pd,d≠some p.slot)(h:∀p∈Pd,getH s.hp p.idx=p.cells.ho/\setL s.fr p.slot (.ptr p.idx 0)=s.fr):
 ∀p∈Pd,getH (s.put d x).hp p.idx=p.cells.ho/\setL (s.put d x).fr p.slot (.ptr p.idx 0)=(s.put d x).fr:=fun p hp=>by
 refine⟨by rw[Ydd];exact(h p hp).1,?_⟩
 cases d with
 |none=>exact(h p hp).2
 |some n=>
  show setL (setL s.fr n x) p.slot _=setL s.fr n x
  rw[Ycf _ _ _ _ _ (fun e=>hd p hp (by rw[e])),(h p hp).2]
theorem Yfc(h:∀p∈Pd,getH s.hp p.idx=p.cells.ho/\setL s.fr p.slot (.ptr p.idx 0)=s.fr):∀p∈Pd,p.idx<lenH s.hp:=fun p hp=>by
 rcases YHA p.idx (lenH s.hp)with h'|h'
 ·exact h'
 ·have:=(h p hp).1
  rw[Ya9 _ _ h']at this;exact absurd this.symm (AL.ho_ne _)
theorem YbQ{ops:Array Oper}{κ:Kont}{i:Nat}{o:Oper}{a:Act}{w:World}{K:Act->World->Prop}(hi:ops[i]? =some o)(hw:Region.wanted o (yielded ops a.tmps)=true)(h:o.wpIn (Wd rd) 0 P a w K κ):wpOpIn (Wd rd) 0 P ops κ i K a w:=by
 unfold wpOpIn;simp only[hi,hw,if_true];exact h
theorem YtN{ops:Array Oper}{κ:Kont}{i:Nat}{o:Oper}{a:Act}{w:World}{K:Act->World->Prop}(hi:ops[i]? =some o)(hw:Region.wanted o (yielded ops a.tmps)=false)(h:K (a.put o.dst undef) w):wpOpIn (Wd rd) 0 P ops κ i K a w:=by
 unfold wpOpIn;simp only[hi,hw];exact⟨fun _ _=>trivial,h⟩
theorem Yfh{all:Array Oper}{o:Oper}{v:VOp}(h:YfM P all o=some v):∃ops,vop P o=some (v.op,ops)/\X.ofs P ops=some v.xs/\(v.op.isCall=true->Ybn o.op=true)/\v.dst=o.dst/\
 ((o.guard=none/\v.g=none)\/∃j b g,o.guard=some (j,b)/\Ylu all j=some g/\v.g=some (g,b)):=by
 unfold YfM at h
 obtain⟨⟨vo,ops⟩,h1,h⟩:=YHl.1 h
 obtain⟨xs,h2,h⟩:=YHl.1 h
 split at h
 ·cases h
 ·rename_i hne
  have hne:vo.isCall=true->Ybn o.op=true:=by simpa using hne
  split at h
  ·cases h;exact⟨ops,h1,h2,hne,rfl,.inl ⟨‹_›,rfl⟩⟩
  ·obtain⟨g,hg,rfl⟩:=YHm.1 h
   exact⟨ops,h1,h2,hne,rfl,.inr ⟨_,_,g,‹_›,hg,rfl⟩⟩
theorem Yjh{o:VO}{xs:List SV}{r:FuncId×List SV}(h:callee E o xs=some r):o.isCall=true:=by
 unfold callee at h
 split at h <;> first|rfl|cases h
theorem YDp{m n o:Nat}(h:m≠n):refs n (.ptr m o)=false:=by
 show YH1 m n=false
 cases hb:YH1 m n with
 |false=>rfl
 |true=>exact absurd (YHF hb) h
theorem Ydc{b:Nat}:∀{l:List SV},Ygw l=true->Yq b l=l
 | [],_=>rfl
 |x::l,h=>by
  simp only[Ygw,YHn]at h
  simp only[Yq,YdD (Yij h.1),Ydc h.2]
theorem Ymi{b:Nat}{z:AL}(h:z.clean=true):YeJ b z.ho=z.ho:=by
 cases z with
 |box c=>simp only[AL.ho,YeJ,Ydc (show Ygw c=true from h)]
 |arr n sz c=>
  have:(fun k=>Yq b (Ybh sz c k))=Ybh sz c:=by
   funext k
   unfold Ybh
   rw[<-Yea,<-YcG,Ydc (show Ygw c=true from h)]
  simp only[AL.ho,YeJ,this]
theorem Yih(b:Nat):∀(hp:List HO)(i:Nat)(h:HO),YaF b (setH hp i h)=setH (YaF b hp) i (YeJ b h)
 | [],_,_=>rfl
 |x::l,0,h=>by cases x <;> cases h <;> rfl
 |x::l,i+1,h=>by
  have:=Yih b l i h
  cases x <;> simp only[setH,YaF,this]
theorem YcZ(b:Nat)(fr:List SV):∀(Pd:List Pend),YK (Yq b fr) Pd=Yq b (YK fr Pd)
 | []=>rfl
 |p::l=>by rw[YK,YK,YcZ b fr l,YdC];rfl
theorem Yew(b:Nat)(hp:List HO):∀(Pd:List Pend),Yw (YaF b hp) Pd=YaF b (Yw hp Pd)
 | []=>rfl
 |p::l=>by rw[Yw,Yw,Yew b hp l,Yih];rfl
theorem YDI{b:Nat}{ho:HO}(hne:∀p∈Pd,p.idx≠b):er Pd (s.upd (.app b ho))=(er Pd s).upd (.app b ho):=by
 simp only[er,S.upd]
 rw[YcZ,Yd3 hne,Yew]
theorem Yln{hp hp':List HO}{x:SV}(h:∀b,blk x=some b->getH hp' b=getH hp b):YcP hp' x=YcP hp x:=by
 cases x <;> try rfl
 case own i lo n sz=>simp only[YcP,h i rfl]
theorem YoV{hp hp':List HO}{n n':Nat}(hn:n'=n){o:VO}(ha:o.isAppend=true){xs:List SV}(h:∀y∈xs,∀b,blk y=some b->getH hp' b=getH hp b):eff hp' n' o xs=eff hp n o xs:=by
 subst hn
 cases o <;> simp only[VO.isAppend,reduceCtorEq]at ha
 rcases xs with _| ⟨a,_| ⟨x,_| ⟨c,l⟩⟩⟩ <;> try rfl
 have h1:=Yln (h x (by simp))
 have h2:=h a (by simp)
 cases a <;> try rfl
 ·simp only[eff,Ybw,h1]
 ·rename_i i lo n sz
  have:=h2 i rfl
  cases lo with
  |zero=>simp only[eff,Ybw,h1,this]
  |succ _=>rfl
 ·rename_i y
  have:=Yln (x:=y) (fun b hb=>h2 b hb)
  simp only[eff,Ybw,h1,this]
theorem Ytb{w:World}{bs:List BK}{B:Bd}:∀{xs:List SV}{vs:List Value},RepL w bs B xs vs->∀{y:SV},y∈xs->∃v,Rep w bs B y v
 |_,_,.nil,y,hy=>by cases hy
 |_,_,.cons x v l vs h h',y,hy=>by
  rcases YHI.1 hy with rfl|hy
  ·exact⟨v,h⟩
  ·exact Ytb h' hy
theorem YkF(hE:Yn P E){c0:Cx0}(hS:SatG P c0){all:Array Oper}{o:Oper}{v:VOp}{i:Nat}(hi:all[i]? =some o)(hv:YfM P all o=some v)(hs1:∀p∈Pd,p.slot∉v.reads)(hs2:∀p∈Pd,v.dst≠some p.slot)
 (hs3:v.op.isAppend=true->∀p∈Pd,p.cells.clean=true){κ:Kont}{a:Act}{sv:List Act}{w:World}(h:dopW E v A s){ks:List (Nat×Obj)}{J:Nat->Option IK}{hJ:Ext c0 J}(hR:PR ⟨c0.wI J hJ,ks⟩ Pd s a sv w):
 wpOpIn (Wd rd) 0 P all κ i (fun a' w'=> ∃s',A s'/\∃J',∃hJ':Ext c0 J',PR ⟨c0.wI J' hJ',ks⟩ Pd s' a' sv w') a w:=by
 obtain⟨ops,h1,h2,h3,h4,h5⟩:=Yfh hv
 obtain⟨hRl,hPd⟩:=hR
 obtain⟨bs,hf,hsv,hH,hb,hoth⟩:=id hRl
 have hB:c0.heap.size<=w.heap.size:=hb.size
 have hargs:(er Pd s).args v.xs=s.args v.xs:=YrJ fun p hp hm=>hs1 p hp (by simp [VOp.reads,hm])
 have hx:RepL w bs (c0.wI J hJ).bd (s.args v.xs) (ops.map a.eval):=by rw[<-hargs];exact Yu9 (Yar hS hb hH) hf h2
 have hlen:lenH (er Pd s).hp=lenH s.hp:=Ya0 Pd
 have hgs:∀g pol,v.g=some (g,pol)->getL (er Pd s).fr g=getL s.fr g:=fun g pol hg=>YbS fun p hp e=>hs1 p hp (by simp [VOp.reads,hg,e])
 have heq:∀(xs:List SV)(vs:List Value),v.op.quiet=true->RepL w bs (c0.wI J hJ).bd xs vs->eff (er Pd s).hp (lenH (er Pd s).hp) v.op xs=eff s.hp (lenH s.hp) v.op xs:=
  fun xs vs hq hxs=>YrI hq fun b hb=>(Yey hH hxs hb).2
 unfold dopW at h
 cases hq:v.op.quiet with
 |true=>
  rw[hq]at h
  simp only[Yhg]at h
  cases hfe:fEff v s with
  |none=>rw[hfe]at h;exact h.elim
  |some r=>
   obtain⟨p,x⟩:=r
   rw[hfe]at h
   obtain⟨hp,hA⟩:=h
   unfold fEff at hfe
   rcases h5 with⟨hg,hvg⟩ | ⟨j,pol,g,hg,hsl,hvg⟩
   ·rw[hvg]at hfe
    simp only at hfe
    cases he:eff s.hp (lenH s.hp) v.op (s.args v.xs)with
    |none=>rw[he]at hfe;cases hfe
    |some e=>
     obtain⟨q,y,u⟩:=e
     rw[he]at hfe
     cases u <;> try cases hfe
     rw[<-heq _ _ hq hx]at he
     obtain⟨r',val,w',bs',hrn,hr,k1,k2,k3,k4,k5⟩:=Ylz (ρ:=a.eval) h1 he hp hx (fun _=>rfl) (fun _=>rfl) hH hB
     refine YbQ hi (by simp [Region.wanted,hg]) (Ya6 (Y8 h1) (hrn o.dst o.type o.pos o.after o.guard) hr ?_)
     refine⟨_,hA,J,hJ,?_,YaE hs2 hPd⟩
     rw[YcU hs2,<-h4]
     exact Yfg (e:=⟨p,x,.no⟩) (op:=o.op) hf hsv hb hoth k1 k2 k3 k4 k5 v.dst
   ·rw[hvg]at hfe
    simp only at hfe
    cases hgb:Yah (getL s.fr g) pol with
    |none=>rw[hgb]at hfe;cases hfe
    |some gb=>
     rw[hgb]at hfe
     simp only at hfe
     have hw:=Yje (w:=w) hf hg hsl (by rw[hgs g pol hvg];exact hgb)
     cases he:eff s.hp (lenH s.hp) v.op (YR v.op gb (s.args v.xs)).2 with
     |none=>rw[he]at hfe;cases hfe
     |some e=>
      obtain⟨q,y,u⟩:=e
      rw[he]at hfe
      cases u <;> try cases hfe
      obtain⟨hp1,hp2⟩:=hp
      cases gb with
      |true=>
       have hx':=Ycl rfl hx hp1
       rw[<-heq _ _ hq hx']at he
       obtain⟨r',val,w',bs',hrn,hr,k1,k2,k3,k4,k5⟩:=Ylz (ρ:=a.eval) h1 he (hp2 rfl) hx' (fun _=>rfl) (fun _=>rfl) hH hB
       refine YbQ hi hw (Ya6 (Y8 h1) (hrn o.dst o.type o.pos o.after o.guard) hr ?_)
       refine⟨_,hA,J,hJ,?_,YaE hs2 hPd⟩
       rw[YcU hs2,<-h4]
       exact Yfg (e:=⟨q,.opt true y,.no⟩) (op:=o.op) hf hsv hb hoth (.optT _ _ k1) k2 k3 k4 k5 v.dst
      |false=>
       refine YtN hi hw ⟨_,hA,J,hJ,?_,YaE hs2 hPd⟩
       rw[YcU hs2,<-h4]
       exact Yde hRl v.dst fun _ _ _=> .optF _
 |false=>
  rw[hq]at h
  simp only at h
  rcases h5 with⟨hg,hvg⟩ | ⟨j,pol,g,hg,hsl,hvg⟩
  ·rw[hvg]at h
   simp only at h
   unfold YkP at h
   cases hc:callee E v.op (s.args v.xs)with
   |none=>
    rw[hc]at h
    simp only[psdW]at h
    have hlt:=Yfc hPd
    cases hps:psd v.op (s.args v.xs)with
    |some c=>
     rw[hps]at h
     obtain⟨r,val,w',x,J2,hJ2,hrn,hr,hA,k1,k2,k3,k4⟩:=YxG (ρ:=a.eval) h1 hps h hx hH
     refine YbQ hi (by simp [Region.wanted,hg]) (Ya6 (Y8 h1) (hrn o.dst o.type o.pos o.after o.guard) hr ?_)
     obtain⟨hJ3,hcr⟩:=Ydo (al:=false) (z:=Bd.cx (c0.wI J hJ).bd w) (w0:=c0) (J1:=J) (hJ1:=hJ) (hJ:=hJ2) rfl hf hsv hH hb hoth v.dst k1 k2 k3 (fun _=>⟨k4,trivial⟩) (fun h=>by cases h)
     have hcr:=hcr _ fun _ h=>h
     have hPd':∀p∈Pd,getH ({ fr:=s.fr,saved:=s.saved,hp:=s.hp++YS (lenH s.hp) []}:S).hp p.idx=p.cells.ho/\setL ({ fr:=s.fr,saved:=s.saved,hp:=s.hp++YS (lenH s.hp) []}:S).fr p.slot (.ptr p.idx 0)=({ fr:=s.fr,saved:=s.saved,hp:=s.hp++YS (lenH s.hp) []}:S).fr:=fun p hp=>
      ⟨by rw[<-(hPd p hp).1];exact Yf1 _ _ _ (by rw[(hPd p hp).1];exact AL.ho_ne _),(hPd p hp).2⟩
     refine⟨_,hA,J2,hJ3,?_,YaE hs2 hPd'⟩
     rw[YcU hs2,<-h4]
     have:er Pd { fr:=s.fr,saved:=s.saved,hp:=s.hp++YS (lenH s.hp) []}= { fr:=(er Pd s).fr,saved:=(er Pd s).saved,hp:=(er Pd s).hp++YS (lenH (er Pd s).hp) []}:=by
      rw[hlen];simp only[er];rw[Ycx hlt]
     rw[this]
     rw[hlen]at hcr⊢
     exact hcr
    |none=>
    rw[hps]at h
    simp only at h
    cases hbad:v.op.bad with
    |true=>rw[hbad]at h;exact h.elim
    |false=>
    rw[hbad]at h
    simp only[badW,effW]at h
    cases he:eff s.hp (lenH s.hp) v.op (s.args v.xs)with
    |none=>rw[he]at h;exact h.elim
    |some e=>
     rw[he]at h
     obtain⟨hp,hA⟩:=h
     have he2:eff (er Pd s).hp (lenH (er Pd s).hp) v.op (s.args v.xs)=some e:=by
      rw[hlen,<-he]
      cases ha:v.op.isAppend with
      |true=>
       exact YoV rfl ha fun y hy b hb=>by
        obtain⟨z,hz⟩:=Ytb hx hy
        obtain⟨k,h1,h2⟩:=YiH hz hb
        exact(Yjp hH h1 h2).2
      |false=>exact YrV hq ha hbad fun b hb=>(Yey hH hx hb).2
     obtain⟨r',val,w',bs',hrn,hr,k1,k2,k3,k4,k5⟩:=Ylz (ρ:=a.eval) h1 he2 hp hx (fun _=>rfl) (fun _=>rfl) hH hB
     refine YbQ hi (by simp [Region.wanted,hg]) (Ya6 (Y8 h1) (hrn o.dst o.type o.pos o.after o.guard) hr ?_)
     have hrel:=Yfg (e:=e) (op:=o.op) hf hsv hb hoth k1 k2 k3 k4 k5 v.dst
     refine⟨_,hA,J,hJ,?_⟩
     cases ha:v.op.isAppend with
     |true=>
      have hcl:=hs3 ha
      rcases YqY ha he with⟨ho,hu⟩ | ⟨b,ho,hu,hk⟩
      ·rw[hu]at hrel⊢
       have hlt:=Yfc hPd
       have hPd':∀p∈Pd,getH (s.upd (.new ho)).hp p.idx=p.cells.ho/\setL (s.upd (.new ho)).fr p.slot (.ptr p.idx 0)=(s.upd (.new ho)).fr:=fun p hp=>
        ⟨by rw[<-(hPd p hp).1];exact Y1 _ _ _ (hlt p hp),(hPd p hp).2⟩
       refine⟨?_,YaE hs2 hPd'⟩
       rw[YcU hs2,<-h4]
       have:er Pd (s.upd (.new ho))=(er Pd s).upd (.new ho):=by
        simp only[er,S.upd];rw[YcX hlt]
       rw[this];exact hrel
      ·have hne:=(Yey hH hx hk).1
       rw[hu]at hrel⊢
       have hPd':∀p∈Pd,getH (s.upd (.app b ho)).hp p.idx=p.cells.ho/\setL (s.upd (.app b ho)).fr p.slot (.ptr p.idx 0)=(s.upd (.app b ho)).fr:=fun p hp=>by
        refine⟨?_,?_⟩
        ·show getH (setH (YaF b s.hp) b ho) p.idx=_
         rw[YI _ _ _ _ (fun e=>hne p hp e.symm),Ydw,(hPd p hp).1,Ymi (hcl p hp)]
        ·show setL (Yq b s.fr) p.slot (.ptr p.idx 0)=Yq b s.fr
         have e:=congrArg (Yq b) (hPd p hp).2
         rw[YdC,YdD (YDp (hne p hp))]at e
         exact e
       refine⟨?_,YaE hs2 hPd'⟩
       rw[YcU hs2,<-h4]
       have:er Pd (s.upd (.app b ho))=(er Pd s).upd (.app b ho):=YDI hne
       rw[this];exact hrel
     |false=>
      cases hst:v.op.isStore with
      |true=>
       obtain⟨k,ho,hu,hk⟩:=Ylw hst he
       have hne:=(Yey hH hx hk).1
       rw[hu]at hrel⊢
       have hPd':∀p∈Pd,getH (s.upd (.set k ho)).hp p.idx=p.cells.ho/\setL (s.upd (.set k ho)).fr p.slot (.ptr p.idx 0)=(s.upd (.set k ho)).fr:=fun p hp=>
        ⟨by rw[<-(hPd p hp).1];exact YI _ _ _ _ (fun e=>hne p hp e.symm),(hPd p hp).2⟩
       refine⟨?_,YaE hs2 hPd'⟩
       rw[YcU hs2,<-h4]
       have:er Pd (s.upd (.set k ho))=(er Pd s).upd (.set k ho):=by
        simp only[er,S.upd];rw[Yd3 hne]
       rw[this];exact hrel
      |false=>
       obtain⟨ho,hu⟩:=YsJ hq hst ha hbad he
       rw[hu]at hrel⊢
       have hlt:=Yfc hPd
       have hPd':∀p∈Pd,getH (s.upd (.new ho)).hp p.idx=p.cells.ho/\setL (s.upd (.new ho)).fr p.slot (.ptr p.idx 0)=(s.upd (.new ho)).fr:=fun p hp=>
        ⟨by rw[<-(hPd p hp).1];exact Y1 _ _ _ (hlt p hp),(hPd p hp).2⟩
       refine⟨?_,YaE hs2 hPd'⟩
       rw[YcU hs2,<-h4]
       have:er Pd (s.upd (.new ho))=(er Pd s).upd (.new ho):=by
        simp only[er,S.upd];rw[YcX hlt]
       rw[this];exact hrel
   |some fy=>
    obtain⟨f,ys⟩:=fy
    rw[hc]at h
    simp only[ctW]at h
    cases hct:E.ct f with
    |none=>rw[hct]at h;exact h.elim
    |some c=>
     rw[hct]at h
     obtain⟨hok,hen⟩:=hE.ct f c hct
     obtain⟨vs,hys,hrun⟩:=YdX hE.meth h1 (h3 (Yjh hc)) hc hx (fun _=>rfl) hen
     refine YbQ hi (by simp [Region.wanted,hg]) (Yax (Y8 h1) hrun ?_)
     obtain⟨z,hzw,hzI,hargs2,hal,hzF⟩:=Yco c.alias (hpV hH) hB 3 hys h.1
     subst hzw
     refine(hok _ vs z _ ⟨fun b K hb=>(hH.reg b K (by rw[hzI]at hb;exact hb)).2,YeO (Yar (hJ:=hJ) hS hb hH) rfl hzF⟩ hargs2 h.2).mono ?_
     rintro e w' ⟨r,hs,val,bs2,J2,hJ2,hA,rfl,k1,k2,k3,k4⟩
     obtain⟨hJ3,hcr⟩:=Ydo (w0:=c0) (J1:=J) (hJ1:=hJ) (hJ:=hJ2) hzI hf hsv hH hb hoth v.dst k1 k2 k3 k4 hal
     have hcr:=hcr _ fun _ h=>h
     have hlt:=Yfc hPd
     have hPd':∀p∈Pd,getH ({ fr:=s.fr,saved:=s.saved,hp:=s.hp++YS (lenH s.hp) hs}:S).hp p.idx=p.cells.ho/\setL ({ fr:=s.fr,saved:=s.saved,hp:=s.hp++YS (lenH s.hp) hs}:S).fr p.slot (.ptr p.idx 0)=({ fr:=s.fr,saved:=s.saved,hp:=s.hp++YS (lenH s.hp) hs}:S).fr:=fun p hp=>
      ⟨by rw[<-(hPd p hp).1];exact Yf1 _ _ _ (by rw[(hPd p hp).1];exact AL.ho_ne _),(hPd p hp).2⟩
     refine⟨_,hA,J2,hJ3,?_,YaE hs2 hPd'⟩
     rw[YcU hs2,<-h4]
     have:er Pd { fr:=s.fr,saved:=s.saved,hp:=s.hp++YS (lenH s.hp) hs}= { fr:=(er Pd s).fr,saved:=(er Pd s).saved,hp:=(er Pd s).hp++YS (lenH (er Pd s).hp) hs}:=by
      rw[hlen];simp only[er];rw[Ycx hlt]
     rw[this]
     rw[hlen]at hcr⊢
     exact hcr
  ·rw[hvg]at h
   simp only at h
   unfold YgO at h
   cases hgb:Yah (getL s.fr g) pol with
   |none=>rw[hgb]at h;exact h.elim
   |some gb=>
    rw[hgb]at h
    simp only[ctGW]at h
    have hw:=Yje (w:=w) hf hg hsl (by rw[hgs g pol hvg];exact hgb)
    cases hct:ctOf E v.op (YR v.op gb (s.args v.xs)).2 with
    |none=>rw[hct]at h;exact h.elim
    |some c=>
     rw[hct]at h
     obtain⟨c,ys⟩:=c
     obtain⟨hp1,hno,r,hA,hcs⟩:=h
     cases gb with
     |false=>
      refine YtN hi hw ⟨_,hA,J,hJ,?_,YaE hs2 hPd⟩
      rw[YcU hs2,<-h4]
      exact Yde hRl v.dst fun _ _ _=> .optF _
     |true=>
      obtain⟨f,hcl,hct',hic⟩:=Ynl hct
      obtain⟨hok,hen⟩:=hE.ct f c hct'
      obtain⟨vs,hys,hrn⟩:=YdX hE.meth h1 (h3 hic) hcl (Ycl rfl hx hp1) (fun _=>rfl) hen
      refine YbQ hi hw (Yax (Y8 h1) hrn ?_)
      obtain⟨z,hzw,hzI,hargs2,hal,hzF⟩:=Yco c.alias (hpV hH) hB 3 hys hno
      subst hzw
      refine(hok _ vs z _ ⟨fun b K hb=>(hH.reg b K (by rw[hzI]at hb;exact hb)).2,YeO (Yar (hJ:=hJ) hS hb hH) rfl hzF⟩ hargs2 (hcs rfl)).mono ?_
      rintro e w' ⟨r',hs,val,bs2,J2,hJ2,⟨rfl,rfl⟩,rfl,k1,k2,k3,k4⟩
      obtain⟨hJ3,hcr⟩:=Ydo (w0:=c0) (J1:=J) (hJ1:=hJ) (hJ:=hJ2) hzI hf hsv hH hb hoth v.dst k1 k2 k3 k4 hal
      have hcr:=hcr (.opt true (shift (lenH (er Pd s).hp) r')) fun _ h=> .optT _ _ h
      have e0:({ fr:=(er Pd s).fr,saved:=(er Pd s).saved,hp:=(er Pd s).hp++YS (lenH (er Pd s).hp) []}:S)=er Pd s:=by simp [YS]
      rw[e0]at hcr
      refine⟨_,hA,J2,hJ3,?_,YaE hs2 hPd⟩
      rw[YcU hs2,<-h4,<-hlen]
      exact hcr
end
end Go.Vx
namespace Go.Vx
open Go.RowKit
section
variable {P:Program} {E:Env} {w:World} {w0:Cx} {rd:Option Nat} {Pd:List Pend} {A:S->Prop} {s:S} {bs:List BK} {B:Bd} {hp hp':List HO}
theorem YbE{cs:Array Value}{T:TypeId}{cap n i:Nat}:Keeps w bs (World.push w (.cells cs T (0,0))) (bs.set i (.blk w.heap.size cap n)):=by
 intro b hf o ho
 refine⟨Yf8 ho,fun j b' c m h=>?_⟩
 have hb:b<w.heap.size:=(YHy.1 ho).1
 rw[List.getElem?_set]at h
 split at h
 ·split at h
  ·cases h;omega
  ·cases h
 ·exact hf j b' c m h
theorem Ylr{i:Nat}{x:BK}{e:Option Nat}(hg:bs[i]? =some .gone\/bs[i]? =none):Stays e bs (bs.set i x):=by
 intro j y _ h hy
 rw[List.getElem?_set]
 split
 ·rename_i hij
  subst hij
  rcases hg with hg|hg
  ·rw[hg]at h;cases h;exact absurd rfl hy
  ·rw[hg]at h;cases h
 ·exact h
theorem Yzv(hH:Hp w bs B hp)(hB:B<=w.heap.size){cs:Array Value}{T:TypeId}{i:Nat}{c0 m0:Nat}(hi:i<lenH hp)(hg:getH hp i= .gone)(hl:lenH hp'=lenH hp)(hne:∀j,j≠i->getH hp' j=getH hp j)
 (h:HRep (World.push w (.cells cs T (0,0))) (bs.set i (.blk w.heap.size c0 m0)) B i (getH hp' i)):
 Hp (World.push w (.cells cs T (0,0))) (bs.set i (.blk w.heap.size c0 m0)) B hp':=by
 have hlt:∀(i b c m:Nat),bs[i]? =some (.blk b c m)->b<w.heap.size:=fun i b c m h=>(hH.lo i b c m h).2
 have hgo:bs[i]? =some .gone\/bs[i]? =none:=by have:=hH.ent i;rw[hg]at this;exact this
 have hib:i<bs.length:=by rw[hH.len];exact hi
 refine⟨by simp [hH.len,hl],fun j=>?_,fun j k b c m c' m' h1 h2=>?_,fun j b c m h1=>?_,YaG YbE hH.reg⟩
 ·by_cases hij:j=i
  ·subst hij;exact h
  ·rw[hne j hij]
   refine(hH.ent j).keep YbE (Ylr hgo) ?_ ?_
   ·rw[List.getElem?_set,if_neg (Ne.symm hij)]
   ·intro b c m hb
    have:=hlt j b c m hb
    simp only[World.push,Array.getElem?_push]
    rw[if_neg (by omega)]
 ·rw[List.getElem?_set]at h1 h2
  split at h1 <;> split at h2
  ·omega
  ·first| (rw[if_pos hib]at h1;cases h1) |cases h1
   have:=hlt k _ _ _ h2;omega
  ·first| (rw[if_pos hib]at h2;cases h2) |cases h2
   have:=hlt j _ _ _ h1;omega
  ·exact hH.inj j k b c m c' m' h1 h2
 ·have hs:(World.push w (.cells cs T (0,0))).heap.size=w.heap.size+1:=by simp [World.push]
  rw[List.getElem?_set]at h1
  split at h1
  ·first| (rw[if_pos hib]at h1;cases h1) |cases h1;omega
  ·have:=hH.lo j b c m h1;omega
theorem YeP:∀(l:List SV)(n:Nat)(x y:SV),setL (setL l n x) n y=setL l n y
 | [],_,_,_=>rfl
 |_::_,0,_,_=>rfl
 |a::l,n+1,x,y=>congrArg (a::·) (YeP l n x y)
def AL.is(P:Program)(elem:TypeId):AL->Prop
 | .box z=>Yal P elem=some z
 | .arr n size z=>Yal P elem=some z/\lenL z=n*size
def AL.z:AL->List SV
 | .box z=>z
 | .arr _ _ z=>z
def AL.n:AL->Nat
 | .box _=>0
 | .arr n _ _=>n
theorem AL.is_z{elem:TypeId}:∀{x:AL},x.is P elem->Yal P elem=some x.z
 | .box _,h=>h
 | .arr _ _ _,h=>h.1
theorem YoT{p:Pend}{o:Oper}{elem:TypeId}{i:Nat}{all:Array Oper}(hi:all[i]? =some o)(hop:o.op= .alloc elem)(hgd:o.guard=none)(hz:p.cells.is P elem)(hdst:o.dst=some p.slot)
 (hidx:∀q∈Pd,q.idx≠p.idx)(hslot:∀q∈Pd,q.slot≠p.slot){κ:Kont}{a:Act}{sv:List Act}{K:Act->World->Prop}
 (hR:PR w0 (p::Pd) s a sv w)(h:∀a' w',PR w0 Pd s a' sv w'->K a' w'):wpOpIn (Wd rd) 0 P all κ i K a w:=by
 obtain⟨⟨bs,hf,hsv,hH,hb,hoth⟩,hPd⟩:=hR
 have hB:w0.heap.size<=w.heap.size:=hb.size
 obtain⟨v,hv,hr⟩:=Y6 (P:=P) (w:=w) (bs:=bs) (B:=w0.bd) (AL.is_z hz)
 obtain⟨hp1,hp2⟩:=hPd p YHw
 have hlt:p.idx<lenH s.hp:=Yfc hPd p YHw
 have hg:getH (Yw s.hp (p::Pd)) p.idx= .gone:=YcV YHw
 have hgo:bs[p.idx]? =some .gone\/bs[p.idx]? =none:=by have:=hH.ent p.idx;simp only[er]at this;rw[hg]at this;exact this
 have hlen:bs.length=lenH s.hp:=by rw[hH.len];exact Ya0 _
 have hget:(bs.set p.idx (BK.blk w.heap.size p.cells.n p.cells.n))[p.idx]? =some (.blk w.heap.size p.cells.n p.cells.n):=by
  rw[List.getElem?_set,if_pos rfl,if_pos (by omega)]
 have hst:∀e,Stays e bs (bs.set p.idx (.blk w.heap.size p.cells.n p.cells.n)):=fun e=>Ylr hgo
 have hrun:(execOp a.eval o).run P w= .ok (.value (.pointer (some ⟨w.heap.size,0,none⟩))) (World.push w (.cells v.cells elem (0,0))):=by
  obtain⟨dst,op,type,pos,after,guard⟩:=o
  simp only at hop
  subst hop
  simp [execOp,Instr.alloc,hv,newVar,newRow,World.push]
 refine YbQ hi (by simp [Region.wanted,hgd]) (Ya6 (by rw[hop];intro c h;cases h) hrun (.inl rfl) (h _ _ ⟨⟨bs.set p.idx (.blk w.heap.size p.cells.n p.cells.n),?_,?_,?_,?_,by rw[YHH,YbB];exact hoth.keep YbE⟩,fun q hq=>hPd q (YHu _ hq)⟩))
 ·have hfr:(er Pd s).fr=(S.put (er (p::Pd) s) (some p.slot) (.ptr p.idx 0)).fr:=by
   simp only[er,S.put,YK,YeP]
   rw[<-Ybk hslot,hp2]
  rw[hfr,hdst]
  exact Yhf (hf.keep YbE (hst none) Yl) (.ptr _ _ _ _ hget)
 ·exact RepLL.keep YbE (hst none) hsv
 ·refine Yzv hH hB (by simp only[er];rw[Ya0];exact hlt) hg (by simp only[er];rw[Ya0,Ya0]) (fun j hj=>?_) ?_
  ·simp only[er,Yw]
   rw[YI _ _ _ _ (Ne.symm hj)]
  ·simp only[er]
   rw[YcW hidx,hp1]
   revert hget hst hz hr
   cases p.cells with
   |box z=>exact fun hz hr hget hst=>⟨_,_,_,hget,YaW,hr.keep YbE (hst none) Yl⟩
   |arr n size z=>
    intro hz hr hget hst
    refine .inr ⟨_,n,_,_,hget,rfl,YaW,?_,YHr _,fun k _=>YfT (hr.keep YbE (hst none) Yl) size k⟩
    show _=n*size
    have hl:=hz.2
    have hl2:=hr.length
    simp only[AL.z]at hl2
    rw[<-hl,hl2];simp
 ·exact hb.trans (.of (YZ (B:=w0.bd) _ hB))
end
end Go.Vx
namespace Go.Vx
open Go.RowKit
section
variable {P:Program} {E:Env} {w:World} {w0:Cx} {rd:Option Nat} {Pd Pd':List Pend} {A:S->Prop} {s:S} {bs:List BK} {B:Bd} {hp hp':List HO}
theorem Yb8:Keeps w bs w (bs++[.gone]):=by
 intro b hf o ho
 refine⟨ho,fun i b' c m h=>?_⟩
 rw[YIh]at h
 split at h
 ·exact hf i b' c m h
 ·rw[List.getElem?_singleton]at h;split at h <;> cases h
theorem YzE(hH:Hp w bs B hp):Hp w (bs++[.gone]) B (Ybp hp .gone):=by
 have hst:∀e,Stays e bs (bs++[.gone]):=fun e=>Yu _ _
 have hget:∀(i b c m:Nat),(bs++[BK.gone])[i]? =some (.blk b c m)->bs[i]? =some (.blk b c m):=by
  intro i b c m h
  rw[YIh]at h
  split at h
  ·exact h
  ·rw[List.getElem?_singleton]at h;split at h <;> cases h
 refine⟨by simp [hH.len,Ya1],fun i=>?_,fun i j b c m c' m' h1 h2=>hH.inj i j b c m c' m' (hget _ _ _ _ h1) (hget _ _ _ _ h2),fun i b c m h1=>hH.lo i b c m (hget _ _ _ _ h1),YaG Yb8 hH.reg⟩
 rcases Nat.lt_trichotomy i (lenH hp)with hi|hi|hi
 ·rw[Y1 _ _ _ hi]
  exact(hH.ent i).keep Yb8 (hst _) (by rw[YH6 (by rw[hH.len];exact hi)]) (fun _ _ _ _=>rfl)
 ·subst hi;rw[YaZ];exact .inl (Y4 hH)
 ·rw[Ya9 _ _ (by rw[Ya1];omega)]
  right
  rw[List.getElem?_eq_none];simp [hH.len];omega
theorem RepL.junkAt:∀{l:List SV}{vs:List Value}(_:RepL w bs B l vs)(n:Nat),RepL w bs B (setL l n .junk) vs
 |_,_,.nil,n=>by cases n <;> exact .nil
 |_,_,.cons _ _ _ _ _ h',0=> .cons _ _ _ _ (.x _ _ (.junk _)) h'
 |_,_,.cons _ _ _ _ h h',n+1=> .cons _ _ _ _ h (RepL.junkAt h' n)
theorem Yfy:∀(l:List HO)(x y:HO),setH (Ybp l x) (lenH l) y=Ybp l y
 | [],_,_=>rfl
 |a::l,x,y=>congrArg (a::·) (Yfy l x y)
theorem Ywf{a:Act}{sv:List Act}(hR:PR w0 Pd s a sv w){d:Nat}{z:AL}(hd:∀q∈Pd,q.slot≠d):
 PR w0 (⟨lenH s.hp,d,z⟩::Pd) ((s.upd (.new z.ho)).put (some d) (.ptr (lenH s.hp) 0)) a sv w:=by
 obtain⟨⟨bs,hf,hsv,hH,hb,hoth⟩,hPd⟩:=hR
 have hlt:=Yfc hPd
 refine⟨⟨bs++[.gone],?_,?_,?_,hb,hoth.keep Yb8⟩,fun p hp=>?_⟩
 ·have e:(er (⟨lenH s.hp,d,z⟩::Pd) ((s.upd (.new z.ho)).put (some d) (.ptr (lenH s.hp) 0))).fr=setL (er Pd s).fr d .junk:=by
   show setL (YK (setL s.fr d (.ptr (lenH s.hp) 0)) Pd) d .junk=setL (YK s.fr Pd) d .junk
   rw[Ybk hd,YeP]
  rw[e]
  exact(hf.junkAt d).keep Yb8 (Yu _ none) Yl
 ·exact RepLL.keep Yb8 (Yu _ none) hsv
 ·have e:(er (⟨lenH s.hp,d,z⟩::Pd) ((s.upd (.new z.ho)).put (some d) (.ptr (lenH s.hp) 0))).hp=Ybp (er Pd s).hp .gone:=by
   show setH (Yw (Ybp s.hp z.ho) Pd) (lenH s.hp) .gone=Ybp (Yw s.hp Pd) .gone
   rw[YcX hlt]
   have:=Yfy (Yw s.hp Pd) z.ho .gone
   rw[Ya0]at this
   exact this
  rw[e]
  exact YzE hH
 ·rcases YHI.1 hp with rfl|hp
  ·exact⟨YaZ _ _,YeP _ _ _ _⟩
  ·refine⟨?_,?_⟩
   ·show getH (Ybp s.hp z.ho) p.idx=_
    rw[Y1 _ _ _ (hlt p hp)];exact(hPd p hp).1
   ·show setL (setL s.fr d _) p.slot _=setL s.fr d _
    rw[Ycf _ _ _ _ _ (fun e=>hd p hp e.symm),(hPd p hp).2]
def Ywg:Nat->List (Nat×AL)->List Pend->List Pend
 |_,[],Pd=>Pd
 |n,(d,z)::l,Pd=>Ywg (n+1) l (⟨n,d,z⟩::Pd)
def Yep:List (Nat×AL)->List Nat->Bool
 | [],_=>true
 | (d,_)::l,ds=>!ds.contains d&&Yep l (d::ds)
theorem Yn0{a:Act}{sv:List Act}:∀(al:List (Nat×AL))(Pd:List Pend)(s:S),Yep al (Pd.map (·.slot))=true->PR w0 Pd s a sv w->PR w0 (Ywg (lenH s.hp) al Pd) (YhJ s al) a sv w
 | [],_,_,_,h=>h
 | (d,z)::l,Pd,s,hdis,h=>by
   simp only[Yep,YHn,YHD]at hdis
   have hd:∀q∈Pd,q.slot≠d:=by
    intro q hq he
    have:(Pd.map (·.slot)).contains d=true:=by
     rw[List.contains_iff_mem,YIr];exact⟨q,hq,he⟩
    rw[hdis.1]at this;cases this
   have:=Yn0 l (⟨lenH s.hp,d,z⟩::Pd) _ (by simpa using hdis.2) (Ywf h (z:=z) hd)
   have hl:lenH ((s.upd (.new z.ho)).put (some d) (.ptr (lenH s.hp) 0)).hp=lenH s.hp+1:=Ya1 _ _
   rw[hl]at this
   exact this
theorem YxF{a:Act}{sv:List Act}(h:Rl w0 s a sv w):PR w0 [] s a sv w:=⟨h,fun _ hp=>by cases hp⟩
theorem Yzr(p q:Pend)(l:List Pend):er (p::q::l) s=er (q::p::l) s:=by
 have h1:∀(fr:List SV),setL (setL fr q.slot .junk) p.slot .junk=setL (setL fr p.slot .junk) q.slot .junk:=fun fr=>by
  by_cases h:q.slot=p.slot
  ·rw[h]
  ·exact Ycf _ _ _ _ _ h
 have h2:∀(hp:List HO),setH (setH hp q.idx .gone) p.idx .gone=setH (setH hp p.idx .gone) q.idx .gone:=fun hp=>by
  by_cases h:q.idx=p.idx
  ·rw[h]
  ·exact Yhk _ _ _ _ _ h
 simp only[er,YK,Yw,h1,h2]
theorem Yzp(p:Pend){l l':List Pend}(h:er l s=er l' s):er (p::l) s=er (p::l') s:=by
 simp only[er,S.mk.injEq,true_and]at h
 simp only[er,YK,Yw,h.1,h.2]
theorem Yzq(h:Pd.Perm Pd'):er Pd s=er Pd' s:=by
 induction h with
 |nil=>rfl
 |cons p _ ih=>exact Yzp p ih
 |swap p q l=>exact Yzr q p l
 |trans _ _ ih1 ih2=>exact ih1.trans ih2
theorem YsZ{a:Act}{sv:List Act}(h:Pd.Perm Pd')(hR:PR w0 Pd s a sv w):PR w0 Pd' s a sv w:=
 ⟨by rw[<-Yzq h];exact hR.1,fun p hp=>hR.2 p (h.mem_iff.2 hp)⟩
end
end Go.Vx
namespace Go.Vx
open Go.RowKit
def Yaj(sil:List (Nat×Pend))(L:Array Bool):List Pend:=
 match sil with
 | []=>[]
 |x::r=>bif L.getD x.1 false then Yaj r L else x.2::Yaj r L
theorem mem_pendOf{p:Pend}{L:Array Bool}:∀{sil:List (Nat×Pend)},p∈Yaj sil L↔∃k,(k,p)∈sil/\L.getD k false=false
 | []=>by simp [Yaj]
 |x::r=>by
  unfold Yaj
  cases hl:L.getD x.1 false with
  |true=>
   simp only[cond_true]
   rw[mem_pendOf (sil:=r)]
   constructor
   ·rintro⟨k,h1,h2⟩;exact⟨k,YHu _ h1,h2⟩
   ·rintro⟨k,h1,h2⟩
    rcases YHI.1 h1 with rfl|h1
    ·rw[hl]at h2;cases h2
    ·exact⟨k,h1,h2⟩
  |false=>
   simp only[cond_false,YHI]
   rw[mem_pendOf (sil:=r)]
   constructor
   ·rintro(rfl| ⟨k,h1,h2⟩)
    ·exact⟨x.1,.inl rfl,hl⟩
    ·exact⟨k,.inr h1,h2⟩
   ·rintro⟨k,rfl|h1,h2⟩
    ·exact .inl rfl
    ·exact .inr ⟨k,h1,h2⟩
theorem Yd9{L:Array Bool}{i:Nat}:∀{sil:List (Nat×Pend)},(∀p,(i,p)∉sil)->Yaj sil (L.setIfInBounds i true)=Yaj sil L
 | [],_=>rfl
 |x::r,h=>by
  unfold Yaj
  have hx:i≠x.1:=by
   intro e
   exact h x.2 (by rw[e];exact YHw)
  rw[getD_set_ne false hx,Yd9 (sil:=r) fun p hp=>h p (YHu _ hp)]
theorem Yg3{L:Array Bool}{i:Nat}{p:Pend}(hi:i<L.size)(hl:L.getD i false=false):∀{sil:List (Nat×Pend)},(sil.map (·.1)).Nodup->(i,p)∈sil->(Yaj sil L).Perm (p::Yaj sil (L.setIfInBounds i true))
 |x::r,hn,hm=>by
  rw[YHH,List.nodup_cons]at hn
  by_cases hx:x.1=i
  ·have hp:x=(i,p):=by
    rcases YHI.1 hm with rfl|hm
    ·rfl
    ·exact absurd (YIr.2 ⟨_,hm,hx.symm⟩) hn.1
   subst hp
   have hr:∀q,(i,q)∉r:=fun q hq=>hn.1 (YIr.2 ⟨_,hq,rfl⟩)
   unfold Yaj
   simp only[hl,cond_false]
   have:(L.setIfInBounds i true).getD i false=true:=by simp [hi]
   rw[this,Yd9 hr]
   exact List.Perm.refl _
  ·have hm':(i,p)∈r:=by
    rcases YHI.1 hm with rfl|hm
    ·exact absurd rfl hx
    ·exact hm
   have ih:=Yg3 hi hl hn.2 hm'
   unfold Yaj
   rw[getD_set_ne false (Ne.symm hx)]
   cases L.getD x.1 false with
   |true=>exact ih
   |false=>exact(List.Perm.cons _ ih).trans (List.Perm.swap _ _ _)
theorem Yg2{n:Nat}:∀{sil:List (Nat×Pend)},Yaj sil (Array.replicate n false)=sil.map (·.2)
 | []=>rfl
 |x::r=>by
  unfold Yaj
  have:(Array.replicate n false).getD x.1 false=false:=by
   rcases YHA x.1 n with h'|h'
   ·simp [h']
   ·simp [Array.getElem?_eq_none,h']
  rw[this,Yg2 (sil:=r)]
  rfl
theorem YhR{md:Region.Mode}{ops:Array Oper}(hb:∀(i:Nat) (o:Oper),ops[i]? =some o->∀e∈o.after,Region.binds md e=true->e.on<i){L:Array Bool}(hd:Down md ops L)(hr:Region.ready md ops L=[]):
 ∀(N i:Nat),i<N->i<ops.size->L.getD i false=true
 |N+1,i,hi,hn=>by
  cases hl:L.getD i false with
  |true=>rfl
  |false=>
   have ho:ops[i]? =some ops[i]:=Array.getElem?_eq_getElem hn
   have hL:i<L.size:=by rw[hd.1];exact hn
   have:i∈Region.ready md ops L:=mem_ready.2 ⟨by simp [hL]at hl⊢;exact hl,_,ho,fun e he hbi=>by
    have:=hb i _ ho e he hbi
    exact YhR hb hd hr N e.on (by omega) (by omega)⟩
   rw[hr]at this;cases this
section
variable {P:Program} {E:Env} {G:VOp->(S->Prop)->S->Prop} {w0:Cx} {rd:Option Nat} {all:Array Oper} {tab:List DT} {sil:List (Nat×Pend)} {clo:Nat->Nat->Bool} {md:Region.Mode}
structure Yyx (P:Program) (all:Array Oper) (tab:List DT) (sil:List (Nat×Pend)) (clo:Nat->Nat->Bool):Prop where
 nodup:(sil.map (·.1)).Nodup
 apart:∀x∈sil,∀y∈sil,x.1≠y.1->x.2.slot≠y.2.slot/\x.2.idx≠y.2.idx
 silent:∀(i d:Nat),tab[i]? =some (.silent d)->∃p o elem,(i,p)∈sil/\all[i]? =some o/\o.op= .alloc elem/\o.guard=none/\p.cells.is P elem/\o.dst=some p.slot
 op:∀(i:Nat)(v:VOp)(chk:List (Nat×X)),tab[i]? =some (.op v chk)->(∀p,(i,p)∉sil)/\(∃o,all[i]? =some o/\YfM P all o=some v)/\
  ∀x∈sil,(clo i x.1=true\/(x.2.slot∉v.reads/\(v.op.isAppend=true->x.2.cells.clean=true)))/\v.dst≠some x.2.slot
 loud:∀(i:Nat)(v:VOp),tab[i]? =some (.loud v)->sil=[]/\∃o,all[i]? =some o/\YfM P all o=some v
structure YhP (P:Program) (G:VOp->(S->Prop)->S->Prop) (rd:Option Nat) (all:Array Oper) (κ:Kont) (c0:Cx0) (ks:List (Nat×Obj)) (sv:List Act):Prop where
 sat:SatG P c0
 mono:∀v (A B:S->Prop) s,(∀s,A s->B s)->G v A s->G v B s
 ok:∀{i:Nat}{o:Oper}{v:VOp}{A:S->Prop}{s:S},all[i]? =some o->YfM P all o=some v->G v A s->∀{J:Nat->Option IK}{hJ:Ext c0 J}{a:Act}{w:World},Rl ⟨c0.wI J hJ,ks⟩ s a sv w->
  wpOpIn (Wd rd) 0 P all κ i (fun a' w'=> ∃s',A s'/\∃J',∃hJ':Ext c0 J',Rl ⟨c0.wI J' hJ',ks⟩ s' a' sv w') a w
theorem hop(hE:Yn P E)(hc:YxY md all clo)(hr:Yyx P all tab sil clo){c0:Cx0}{ks:List (Nat×Obj)}{κ:Kont}{sv:List Act}(hG:YhP P G rd all κ c0 ks sv)(i:Nat)(L:Array Bool)(s:S)(A:S->Prop)(a:Act)(w:World)
 (hi:i∈Region.ready md all L)(h:YW E G tab i L A s)(hR:Down md all L/\∃J,∃hJ:Ext c0 J,PR ⟨c0.wI J hJ,ks⟩ (Yaj sil L) s a sv w):
 wpOpIn (Wd rd) 0 P all κ i (fun a' w'=> ∃s',A s'/\(Down md all (L.setIfInBounds i true)/\∃J,∃hJ:Ext c0 J,PR ⟨c0.wI J hJ,ks⟩ (Yaj sil (L.setIfInBounds i true)) s' a' sv w')) a w:=by
 obtain⟨hd,J,hJ,hR⟩:=hR
 have hd':=hd.set hi
 unfold YW at h
 cases ht:tab[i]? with
 |none=>rw[ht]at h;exact h.elim
 |some t=>
  rw[ht]at h
  cases t with
  |silent d=>
   obtain⟨p,o,elem,hm,ho,hop,hg,hz,hdst⟩:=hr.silent i d ht
   have hsz:i<L.size:=by rw[hd.1];exact(YHy.1 ho).1
   have hR':=YsZ (Yg3 hsz (Ydf hi) hr.nodup hm) hR
   have hap:∀q∈Yaj sil (L.setIfInBounds i true),q.slot≠p.slot/\q.idx≠p.idx:=by
    intro q hq
    obtain⟨k,hk,hkl⟩:=mem_pendOf.1 hq
    refine hr.apart (k,q) hk (i,p) hm ?_
    rintro(rfl:k=i)
    simp [hsz]at hkl
   exact YoT ho hop hg hz hdst (fun q hq=>(hap q hq).2) (fun q hq=>(hap q hq).1) hR' fun a' w' h'=>⟨s,h,hd',J,hJ,h'⟩
  |op v chk=>
   obtain⟨hns,⟨o,ho,hv⟩,hst⟩:=hr.op i v chk ht
   have hpend:∀p∈Yaj sil L,(p.slot∉v.reads/\(v.op.isAppend=true->p.cells.clean=true))/\v.dst≠some p.slot:=by
    intro p hp
    obtain⟨k,hk,hkl⟩:=mem_pendOf.1 hp
    obtain⟨h1,h2⟩:=hst (k,p) hk
    refine⟨h1.resolve_left fun hck=>?_,h2⟩
    have:=hc.ready L i k hd hi hck
    rw[hkl]at this;cases this
   refine wpOpIn_mono (fun a' w' ⟨s',h1,J',hJ',h2⟩=>⟨s',h1,hd',J',hJ',by rw[Yd9 hns];exact h2⟩) (YkF hE hG.sat ho hv (fun p hp=>(hpend p hp).1.1) (fun p hp=>(hpend p hp).2) (fun ha p hp=>(hpend p hp).1.2 ha) h.2 hR)
  |loud v=>
   obtain⟨hsil,o,ho,hv⟩:=hr.loud i v ht
   have hpe:∀L,Yaj sil L=[]:=fun L=>by rw[hsil];rfl
   rw[hpe]at hR
   simp only[hpe]
   rcases h with h|h
   ·exact wpOpIn_mono (fun a' w' ⟨s',h1,J',hJ',h2⟩=>⟨s',h1,hd',J',hJ',h2⟩) (YkF hE hG.sat ho hv (fun p hp=>(by cases hp)) (fun p hp=>(by cases hp)) (fun ha p hp=>(by cases hp)) h hR)
   ·exact wpOpIn_mono (fun a' w' ⟨s',h1,J',hJ',h2⟩=>⟨s',h1,hd',J',hJ',YxF h2⟩) (hG.ok ho hv h hR.1)
theorem Ylo(hE:Yn P E)(hm:P.follows .mixedOrders=true){cl:List Nat}(hl:cl.length=all.size)(hcl:Yfl (Yy .any all) cl all.size=true)(hr:Yyx P all tab sil (Yau cl)){free:Nat->Bool}
 (hfree:∀i,free i=true->(∃d,tab[i]? =some (.silent d))\/∃v,tab[i]? =some (.op v [])/\v.op.quiet=true/\∀(j:Nat) (t:DT),tab[j]? =some t->Yrx (Yau cl) i v j t=true)
 {K:S->Prop}{κ:Kont}{s:S}{a:Act}{sv:List Act}{w:World}{id:Nat}
 (h:(∀(j:Nat) (L:Array Bool) (s:S) (A B:S->Prop),(∀s,A s->B s)->YW E G tab j L A s->YW E G tab j L B s)->(∀i L s,free i=true->¬YW E G tab i L (fun _=>False) s)->
   (∀(i:Nat),free i=true->∀(j:Nat) (L:Array Bool) (s:S) (A:S->Prop),Down .any all L->i∈Region.ready .any all L->j∈Region.ready .any all L->j≠i->YW E G tab i L (YW E G tab j (L.setIfInBounds i true) A) s->YW E G tab j L (YW E G tab i (L.setIfInBounds j true) A) s)->
   anyS (YW E G tab) K .any all all.size (Array.replicate all.size false) s){c0:Cx0}{ks:List (Nat×Obj)}{J:Nat->Option IK}{hJ:Ext c0 J}(hG:YhP P G rd all κ c0 ks sv)(hR:PR ⟨c0.wI J hJ,ks⟩ (sil.map (·.2)) s a sv { w with drawn:=w.drawn+1}) (hK:∀s a w J (hJ:Ext c0 J),K s->Rl ⟨c0.wI J hJ,ks⟩ s a sv w->κ .normal a w) (hall:∀x∈sil,x.1<all.size) (hbel:∀(i:Nat)(o:Oper),all[i]? =some o->∀e∈o.after,Region.binds .any e=true->e.on<i):(Code.region id all true).wpIn (Wd rd) 0 P κ a w:=by
 have hc:=YDA hl hcl
 refine wpIn_region_any hm ?_
 have hany:=h (Yio hG.mono) ?_ ?_
 ·refine YoU (step:=YW E G tab) (K:=K) (P:=P) (Q:=κ) (fun L s a w=>Down .any all L/\∃J,∃hJ:Ext c0 J,PR ⟨c0.wI J hJ,ks⟩ (Yaj sil L) s a sv w) (fun i L s A a w hi hs hR=>hop hE hc hr hG i L s A a w hi hs hR) ?_ _ _ s a _ hany ⟨YgC,J,hJ,?_⟩
  ·rintro L s a w hr0 hKs ⟨hd,J,hJ,hPR⟩
   have:Yaj sil L=[]:=by
    cases hp:Yaj sil L with
    |nil=>rfl
    |cons p r=>
     obtain⟨k,hk,hkl⟩:=mem_pendOf.1 (show p∈Yaj sil L by rw[hp];exact YHw)
     have:=YhR hbel hd hr0 (k+1) k (by omega) (hall _ hk)
     rw[hkl]at this;cases this
   rw[this]at hPR
   exact hK s a w J hJ hKs hPR.1
  ·rw[Yg2];exact hR
 ·intro i L s hf hstep
  rcases hfree i hf with⟨d,ht⟩ | ⟨v,ht,hq,_⟩
  ·unfold YW at hstep;rw[ht]at hstep;exact hstep
  ·unfold YW at hstep;rw[ht]at hstep;exact YgA hq hstep.2
 ·intro i hf j L s A hd hri hrj hji hs
  rcases hfree i hf with⟨d,ht⟩ | ⟨v,ht,hq,hcm⟩
  ·have hsi:∀(L:Array Bool)(A:S->Prop)(s:S),YW E G tab i L A s=A s:=by
    intro L A s;unfold YW;rw[ht]
   rw[hsi]at hs
   refine Yio hG.mono j L s _ _ (fun s' hs'=>by rw[hsi];exact hs') ?_
   unfold YW at hs⊢
   cases htj:tab[j]? with
   |none=>rw[htj]at hs;exact hs
   |some t=>
    rw[htj]at hs
    cases t with
    |silent d=>exact hs
    |op u chk=>exact⟨fun c hcm hcl=>hs.1 c hcm (getD_set_true hcl),hs.2⟩
    |loud u=>exact hs
  ·exact Yps hc ht hq hcm j L s A hd hri hrj hji hs
theorem Ywt{s:S}{a:Act}{sv:List Act}{w:World}(h:Rl w0 s a sv w)(n:Nat):Rl w0 s a sv { w with drawn:=n}:=by
 obtain⟨bs,hf,hsv,hH,hb,hoth⟩:=h
 have hk:Keeps w bs { w with drawn:=n} bs:=fun b hf o ho=>⟨ho,hf⟩
 have hst:Stays none bs bs:=fun _ _ _ h _=>h
 exact⟨bs,hf.keep hk hst Yl,hsv.keep hk hst,⟨hH.len,fun i=>(hH.ent i).keep hk hst rfl (fun _ _ _ _=>rfl),hH.inj,hH.lo,YaG hk hH.reg⟩,⟨hb.os,hb.tape,hb.output,hb.size,hb.block⟩,hoth.keep hk⟩
end
end Go.Vx
namespace Go.Vx
open Go.RowKit
def Yd0(lf:FuncId->Bool)(clo:Nat->Nat->Bool)(all:List VOp)(v:VOp)(j:Nat):DT:=
 match YX v with
 |some (d,_)=> .silent d
 |none=>bif YgT lf v then .loud v else .op v (bif v.op.isStore then Yvo clo j all 0 else bif v.op.isAppend then Yvd clo j all 0 else [])
theorem Yci{lf:FuncId->Bool}{clo:Nat->Nat->Bool}{all:List VOp}:∀(l:List VOp)(j i:Nat),(Ybc lf clo all l j)[i]? =(l[i]?).map fun v=>Yd0 lf clo all v (j+i)
 | [],_,_=>by simp [Ybc]
 |v::l,j,0=>by
  simp only[Ybc,YH9,Option.map_some,Nat.add_zero,Yd0]
  cases YX v <;> rfl
 |v::l,j,i+1=>by
  simp only[Ybc,List.getElem?_cons_succ]
  rw[Yci l (j+1) i]
  congr 1
  funext v
  rw[show j+1+i=j+(i+1)by omega]
theorem mem_silOf{k d:Nat}{z:AL}:∀{l:List VOp}{j:Nat},(k,d,z)∈YcQ l j↔∃i v,l[i]? =some v/\k=j+i/\YX v=some (d,z)
 | [],j=>by simp [YcQ]
 |v::l,j=>by
  have ih:=mem_silOf (k:=k) (d:=d) (z:=z) (l:=l) (j:=j+1)
  unfold YcQ
  cases hs:YX v with
  |none=>
   simp only
   rw[ih]
   constructor
   ·rintro⟨i,u,h1,h2,h3⟩;exact⟨i+1,u,by simpa using h1,by omega,h3⟩
   ·rintro⟨i,u,h1,h2,h3⟩
    cases i with
    |zero=>simp only[YH9,Option.some.injEq]at h1;subst h1;rw[hs]at h3;cases h3
    |succ i=>exact⟨i,u,by simpa using h1,by omega,h3⟩
  |some r=>
   obtain⟨d',z'⟩:=r
   simp only[YHI]
   rw[ih]
   constructor
   ·rintro(h| ⟨i,u,h1,h2,h3⟩)
    ·cases h;exact⟨0,v,rfl,rfl,hs⟩
    ·exact⟨i+1,u,by simpa using h1,by omega,h3⟩
   ·rintro⟨i,u,h1,h2,h3⟩
    cases i with
    |zero=>simp only[YH9,Option.some.injEq]at h1;subst h1;rw[hs]at h3;cases h3;left;rw[h2];rfl
    |succ i=>exact .inr ⟨i,u,by simpa using h1,by omega,h3⟩
theorem Yiq{P:Program}{all:Array Oper}:∀{rest:List Oper}{vs:List VOp},YaI P all rest=some vs->∀(i:Nat)(v:VOp),vs[i]? =some v->∃o,rest[i]? =some o/\YfM P all o=some v
 | [],vs,h,i,v,hv=>by simp only[YaI,Option.some.injEq]at h;subst h;simp at hv
 |o::l,vs,h,i,v,hv=>by
  simp only[YaI]at h
  obtain⟨x,hx,h⟩:=YHl.1 h
  obtain⟨y,hy,rfl⟩:=YHm.1 h
  cases i with
  |zero=>simp only[YH9,Option.some.injEq]at hv;subst hv;exact⟨o,rfl,hx⟩
  |succ i=>exact Yiq hy i v (by simpa using hv)
theorem Yh3{clo:Nat->Nat->Bool}{i:Nat}{v:VOp}:∀{l:List DT}{j:Nat},Ygy clo i v l j=true->∀(k:Nat)(t:DT),l[k]? =some t->Yrx clo i v (j+k) t=true
 |t::l,j,h,0,u,hu=>by
  simp only[Ygy,YHn]at h
  simp only[YH9,Option.some.injEq]at hu;subst hu;exact h.1
 |t::l,j,h,k+1,u,hu=>by
  simp only[Ygy,YHn]at h
  have:=Yh3 h.2 k u (by simpa using hu)
  rw[show j+1+k=j+(k+1)by omega]at this
  exact this
end Go.Vx
namespace Go.Vx
open Go.RowKit
theorem Ysk:∀l:List SV,lenE l=lenL l
 | []=>rfl
 |_::l=>congrArg (·+1) (Ysk l)
def AL.op:AL->VO
 | .box z=> .alloc z
 | .arr n size z=> .allocArr n size z
def AL.ok:AL->Prop
 | .box _=>True
 | .arr n size z=>lenL z=n*size
theorem Ylt{v:VOp}{d:Nat}{z:AL}(h:YX v=some (d,z)):v.dst=some d/\v.g=none/\v.op=z.op/\z.ok:=by
 unfold YX at h
 split at h
 ·cases h;exact⟨rfl,rfl,rfl,trivial⟩
 ·rename_i n size z' _
  cases hb:YH1 (lenE z') (n*size)with
  |true=>rw[hb]at h;cases h;exact⟨rfl,rfl,rfl,(Ysk z').symm.trans (YHF hb)⟩
  |false=>rw[hb]at h;cases h
 ·cases h
theorem Ypv{P:Program}{o:Oper}{z:AL}{ops:List Operand}{elem:TypeId}(ho:o.op= .alloc elem)(h:vop P o=some (AL.op z,ops))(hk:AL.ok z):z.is P elem:=by
 obtain⟨dst,op,type,pos,after,guard⟩:=o
 simp only at ho
 subst ho
 unfold vop at h
 simp only at h
 split at h
 ·obtain⟨_,hz,h⟩:=YHl.1 h
  obtain⟨_,_,h⟩:=YHm.1 h
  cases z <;> cases h
  exact⟨hz,hk⟩
 ·obtain⟨_,hz,h⟩:=YHm.1 h
  cases z <;> cases h
  exact hz
theorem YhS:∀{os:List Oper}{vs:List VOp},YdS os vs=true->∀(i:Nat)(o:Oper)(v:VOp),os[i]? =some o->vs[i]? =some v->(YX v).isSome=true->∃e,o.op= .alloc e
 | [],_,_,i,o,v,h,_,_=>by simp at h
 |_::_,[],_,i,o,v,_,h,_=>by simp at h
 |o'::os,v'::vs,h,0,o,v,h1,h2,h3=>by
  simp only[YH9,Option.some.injEq]at h1 h2
  subst h1;subst h2
  simp only[YdS,YHn]at h
  have h:=h.1
  cases hs:YX v' with
  |none=>rw[hs]at h3;cases h3
  |some x=>
   rw[hs]at h
   simp only at h
   split at h
   ·exact⟨_,‹_›⟩
   ·cases h
 |o'::os,v'::vs,h,i+1,o,v,h1,h2,h3=>by
  simp only[YdS,YHn]at h
  exact YhS h.2 i o v (by simpa using h1) (by simpa using h2) h3
def silP:Nat->List (Nat×Nat×AL)->List (Nat×Pend)
 |_,[]=>[]
 |n,(j,d,z)::l=>(j,⟨n,d,z⟩)::silP (n+1) l
theorem YeE{j:Nat}{p:Pend}:∀{l:List (Nat×Nat×AL)}{n:Nat},(j,p)∈silP n l->n<=p.idx/\(j,p.slot,p.cells)∈l
 | [],_,h=>by cases h
 | (j',d,z)::l,n,h=>by
   rcases YHI.1 h with h|h
   ·cases h;exact⟨YHr _,YHw⟩
   ·have:=YeE h;exact⟨by omega,YHu _ this.2⟩
theorem Yoj{j d:Nat}{z:AL}:∀{l:List (Nat×Nat×AL)}{n:Nat},(j,d,z)∈l->∃p,(j,p)∈silP n l/\p.slot=d/\p.cells=z
 | [],_,h=>by cases h
 | (j',d',z')::l,n,h=>by
   rcases YHI.1 h with h|h
   ·cases h;exact⟨_,YHw,rfl,rfl⟩
   ·obtain⟨p,h1,h2⟩:=Yoj (n:=n+1) h
    exact⟨p,YHu _ h1,h2⟩
theorem Yoi:∀{l:List (Nat×Nat×AL)}{n:Nat},(silP n l).map (·.1)=l.map (·.1)
 | [],_=>rfl
 | (j,d,z)::l,n=>by simp only[silP,YHH,Yoi]
theorem YwB{x:Nat×Nat×AL}{l:List VOp}{j:Nat}(h:x∈YcQ l j):j<=x.1:=by
 obtain⟨k,d,z⟩:=x
 obtain⟨i,v,_,h2,_⟩:=mem_silOf.1 h
 simp only;omega
theorem Yee:∀{l:List VOp}{j:Nat},((YcQ l j).map (·.1)).Nodup
 | [],_=> .nil
 |v::l,j=>by
  unfold YcQ
  cases YX v with
  |none=>exact Yee
  |some r=>
   obtain⟨d,z⟩:=r
   simp only[YHH,List.nodup_cons]
   refine⟨fun h=>?_,Yee⟩
   obtain⟨x,hx,h⟩:=YIr.1 h
   have:=YwB hx;omega
theorem YcR:∀{l:List Nat},Yb2 l=true->l.Nodup
 | [],_=> .nil
 |d::l,h=>by
  simp only[Yb2,YHn,YHD]at h
  rw[List.nodup_cons]
  refine⟨fun hm=>?_,YcR h.2⟩
  have:l.contains d=true:=by rw[List.contains_iff_mem];exact hm
  rw[h.1]at this;cases this
theorem Yim:∀{l:List (Nat×Nat×AL)}{n:Nat},(l.map (·.2.1)).Nodup->∀x∈silP n l,∀y∈silP n l,x.1≠y.1->x.2.slot≠y.2.slot/\x.2.idx≠y.2.idx
 | [],_,_,x,hx,_,_,_=>by cases hx
 | (j,d,z)::l,n,hn,x,hx,y,hy,hxy=>by
   simp only[YHH,List.nodup_cons]at hn
   have key:∀u∈silP (n+1) l,u.2.slot≠d/\u.2.idx≠n:=by
    rintro⟨k,p⟩ hu
    obtain⟨h1,h2⟩:=YeE hu
    refine⟨fun e=>hn.1 (YIr.2 ⟨_,h2,e⟩),?_⟩
    simp only;omega
   rcases YHI.1 hx with rfl|hx <;> rcases YHI.1 hy with rfl|hy
   ·exact absurd rfl hxy
   ·exact⟨fun e=>(key y hy).1 e.symm,fun e=>(key y hy).2 e.symm⟩
   ·exact key x hx
   ·exact Yim hn.2 x hx y hy hxy
theorem pends_perm:∀{l:List (Nat×Nat×AL)}{n:Nat}{Pd:List Pend},(Ywg n (l.map (·.2)) Pd).Perm ((silP n l).map (·.2)++Pd)
 | [],_,_=>List.Perm.refl _
 | (j,d,z)::l,n,Pd=>by
   simp only[YHH,Ywg,silP,List.cons_append]
   exact pends_perm.trans List.perm_middle
theorem YlZ{al:List (Nat×AL)}:∀{ds:List Nat},(al.map (·.1)).Nodup->(∀d∈al.map (·.1),d∉ds)->Yep al ds=true:=by
 induction al with
 |nil=>intros;rfl
 |cons x al ih=>
  obtain⟨d,z⟩:=x
  intro ds hn hd
  simp only[YHH,List.nodup_cons]at hn
  simp only[Yep,YHn,YHD]
  refine⟨?_,ih hn.2 fun e he hm=>?_⟩
  ·cases hc:ds.contains d with
   |false=>rfl
   |true=>rw[List.contains_iff_mem]at hc;exact absurd hc (hd d (by simp))
  ·rcases YHI.1 hm with rfl|hm
   ·exact hn.1 he
   ·exact hd e (by simp only[YHH,YHI];exact .inr he) hm
theorem Yga{clo:Nat->Nat->Bool}{sil:List (Nat×Nat×AL)}:∀{l:List DT}{j:Nat},YeR clo sil l j=true->∀(k:Nat)(v:VOp)(chk:List (Nat×X)),l[k]? =some (.op v chk)->
 ∀x∈sil,(clo (j+k) x.1=true\/(x.2.1∉v.reads/\(v.op.isAppend=true->x.2.2.clean=true)))/\v.dst≠some x.2.1
 | [],_,_,k,v,chk,h,_,_=>by simp at h
 | .silent _::l,j,h,0,v,chk,hk,_,_=>by simp at hk
 | .silent _::l,j,h,k+1,v,chk,hk,x,hx=>by
   have:=Yga (l:=l) (j:=j+1) h k v chk (by simpa using hk) x hx
   rwa [show j+1+k=j+(k+1)by omega]at this
 | .loud _::l,j,h,0,v,chk,hk,_,_=>by simp at hk
 | .loud _::l,j,h,k+1,v,chk,hk,x,hx=>by
   simp only[YeR,YHn]at h
   have:=Yga (l:=l) (j:=j+1) h.2 k v chk (by simpa using hk) x hx
   rwa [show j+1+k=j+(k+1)by omega]at this
 | .op u c::l,j,h,0,v,chk,hk,x,hx=>by
   simp only[YH9,Option.some.injEq,DT.op.injEq]at hk
   obtain⟨rfl,rfl⟩:=hk
   simp only[YeR,YHn,List.all_eq_true]at h
   have:=h.1 x hx
   simp only[YHS,YHn,YHD]at this
   refine⟨?_,?_⟩
   ·rcases this.1 with h1| ⟨h1,h2⟩
    ·exact .inl h1
    ·exact .inr ⟨fun hm=>absurd ((List.contains_iff_mem (a:=x.2.1)).2 hm) (by rw[h1];simp),fun ha=>by rcases h2 with h2|h2;(rw[ha]at h2;cases h2);exact h2⟩
   ·intro e
    have:=this.2
    rw[e]at this
    simp at this
 | .op u c::l,j,h,k+1,v,chk,hk,x,hx=>by
   simp only[YeR,YHn]at h
   have:=Yga (l:=l) (j:=j+1) h.2 k v chk (by simpa using hk) x hx
   rwa [show j+1+k=j+(k+1)by omega]at this
theorem YdI{clo:Nat->Nat->Bool}{sil:List (Nat×Nat×AL)}:∀{l:List DT}{j:Nat},YeR clo sil l j=true->∀(k:Nat)(v:VOp),l[k]? =some (.loud v)->sil=[]
 | [],_,_,k,v,h=>by simp at h
 | .silent _::l,j,h,0,v,hk=>by simp at hk
 | .silent _::l,j,h,k+1,v,hk=>YdI (l:=l) (j:=j+1) h k v (by simpa using hk)
 | .op u c::l,j,h,0,v,hk=>by simp at hk
 | .op u c::l,j,h,k+1,v,hk=>by
   simp only[YeR,YHn]at h
   exact YdI (l:=l) (j:=j+1) h.2 k v (by simpa using hk)
 | .loud _::l,j,h,0,v,hk=>by
   simp only[YeR,YHn]at h
   have h:=h.1
   split at h
   ·rfl
   ·cases h
 | .loud _::l,j,h,k+1,v,hk=>by
   simp only[YeR,YHn]at h
   exact YdI (l:=l) (j:=j+1) h.2 k v (by simpa using hk)
theorem YhV:∀{l:List Nat}{j:Nat},YdU l j=true->∀k,l.getD k 0<2^(j+k)
 | [],j,_,k=>by simp;exact Nat.two_pow_pos _
 |m::l,j,h,0=>by
  simp only[YdU,YHn]at h
  have:=h.1
  simp only[Nat.blt_eq]at this
  simpa using this
 |m::l,j,h,k+1=>by
  simp only[YdU,YHn]at h
  have:=YhV h.2 k
  rw[show j+1+k=j+(k+1)by omega]at this
  simpa using this
theorem YnE{clo:Nat->Nat->Bool}{tab:List DT}:∀(n j i:Nat),(YhH clo tab n j).getD i false=true->Yzz clo tab (j+i)=true
 |0,_,_,h=>by simp [YhH]at h
 |n+1,j,0,h=>by simpa [YhH]using h
 |n+1,j,i+1,h=>by
  have:=YnE (clo:=clo) (tab:=tab) n (j+1) i (by simpa [YhH]using h)
  rwa [show j+1+i=j+(i+1)by omega]at this
theorem Ybq{P:Program}{all:Array Oper}:∀{rest:List Oper}{vs:List VOp},YaI P all rest=some vs->vs.length=rest.length
 | [],vs,h=>by simp only[YaI,Option.some.injEq]at h;subst h;rfl
 |o::l,vs,h=>by
  simp only[YaI]at h
  obtain⟨x,hx,h⟩:=YHl.1 h
  obtain⟨y,hy,rfl⟩:=YHm.1 h
  simp [Ybq hy]
def OT.all:OT->List Nat
 | .nil=>[]
 | .op i t=>i::t.all
 | .br a b=>a.all++b.all
def YgB(E:Env)(G:VOp->(S->Prop)->S->Prop)(A:S->Prop):List DOp->S->Prop
 | [],s=>A s
 | ⟨v,chk⟩::l,s=>chkG v.op.isAppend s (s.x (Ycz v.xs)) chk/\(dopW E v (YgB E G A l) s\/G v (YgB E G A l) s)
def dtrP(E:Env)(G:VOp->(S->Prop)->S->Prop)(A:S->Prop):DTr->S->Prop
 | .leaf,s=>A s
 | .ops l t,s=>YgB E G (dtrP E G A t) l s
 | .br a b,s=>dtrP E G A a s/\dtrP E G A b s
theorem Yrp{s:S}{y:SV}:∀{l:List X},chkA s y l->∀x∈l,napP (s.x x) y
 |x::l,h,z,hz=>by
  rcases YHI.1 hz with rfl|hz
  ·exact h.1
  ·exact Yrp h.2 z hz
theorem Yrt{s:S}{y:SV}:∀{l:List X},chkP s y l->∀x∈l,YhU (s.x x) y
 |x::l,h,z,hz=>by
  rcases YHI.1 hz with rfl|hz
  ·exact h.1
  ·exact Yrt h.2 z hz
theorem Yrr{ap:Bool}{s:S}{y:SV}{l:List X}(h:chkG ap s y l)(x:X)(hx:x∈l):chk1 ap (s.x x) y:=by
 cases ap with
 |false=>exact Yrt h x hx
 |true=>exact Yrp h x hx
theorem Yhj{E:Env}{G:VOp->(S->Prop)->S->Prop}{A:S->Prop}{tab:List DT}(hGm:∀v (A B:S->Prop) s,(∀s,A s->B s)->G v A s->G v B s)(hGn:∀(i:Nat) (v:VOp) (chk:List (Nat×X)) (A:S->Prop) (s:S),tab[i]? =some (.op v chk)->¬G v A s):
 ∀{order:List Nat}{L:Array Bool}{s:S},(∀i∈order,i<tab.length)->YgB E G A (YkE tab order) s->seqS (YW E G tab) A order L s
 | [],_,_,_,h=>h
 |i::order,L,s,hi,h=>by
  have hlt:=hi i YHw
  unfold YkE at h
  unfold seqS YW
  cases ht:tab[i]? with
  |none=>rw[List.getElem?_eq_none_iff]at ht;omega
  |some t=>
   rw[ht]at h
   cases t with
   |silent d=>exact Yhj hGm hGn (fun j hj=>hi j (YHu _ hj)) h
   |op v chk=>
    simp only at h⊢
    refine⟨fun c hc _=>Yrr h.1 c.2 (YIr.2 ⟨c,hc,rfl⟩),Yap (fun s' h'=>Yhj hGm hGn (fun j hj=>hi j (YHu _ hj)) h') (h.2.resolve_right (hGn i v chk _ _ ht))⟩
   |loud v=>
    simp only at h⊢
    exact h.2.imp (Yap fun s' h'=>Yhj hGm hGn (fun j hj=>hi j (YHu _ hj)) h') (hGm v _ _ s fun s' h'=>Yhj hGm hGn (fun j hj=>hi j (YHu _ hj)) h')
theorem YcM{E:Env}{G:VOp->(S->Prop)->S->Prop}{A:S->Prop}{tab:List DT}(hGm:∀v (A B:S->Prop) s,(∀s,A s->B s)->G v A s->G v B s)(hGn:∀(i:Nat) (v:VOp) (chk:List (Nat×X)) (A:S->Prop) (s:S),tab[i]? =some (.op v chk)->¬G v A s):
 ∀{t:OT}{L:Array Bool}{s:S},(∀i∈t.all,i<tab.length)->dtrP E G A (Yo1 tab t) s->Ypu (YW E G tab) A t L s
 | .nil,_,_,_,h=>h
 | .op i t,L,s,hi,h=>by
   have hlt:=hi i (by simp [OT.all])
   have hr:∀j∈t.all,j<tab.length:=fun j hj=>hi j (by simp [OT.all,hj])
   unfold Yo1 dtrP YkE at h
   unfold Ypu YW
   cases ht:tab[i]? with
   |none=>rw[List.getElem?_eq_none_iff]at ht;omega
   |some x=>
    rw[ht]at h
    cases x with
    |silent d=>exact YcM hGm hGn hr h
    |op v chk=>
     simp only[YgB]at h⊢
     refine⟨fun c hc _=>Yrr h.1 c.2 (YIr.2 ⟨c,hc,rfl⟩),Yap (fun s' h'=>YcM hGm hGn hr h') (h.2.resolve_right (hGn i v chk _ _ ht))⟩
    |loud v=>
     simp only[YgB]at h⊢
     exact h.2.imp (Yap fun s' h'=>YcM hGm hGn hr h') (hGm v _ _ s fun s' h'=>YcM hGm hGn hr h')
 | .br a b,L,s,hi,h=>⟨YcM hGm hGn (fun j hj=>hi j (by simp [OT.all,hj])) h.1,YcM hGm hGn (fun j hj=>hi j (by simp [OT.all,hj])) h.2⟩
theorem Ygb{free:Nat->Bool}{dm:List Nat}{n:Nat}:∀{t:OT}{m:Nat}{ex:Bool},Yck free dm n t m ex=true->∀i∈t.all,i<n
 | .op i t,m,ex,h,j,hj=>by
   simp only[Yck,YHn]at h
   rcases YHI.1 hj with rfl|hj
   ·have:=Nat.le_of_ble_eq_true h.1.1.1;omega
   ·exact Ygb h.2 j hj
 | .br a b,m,ex,h,j,hj=>by
   simp only[Yck,YHn]at h
   rcases YHO.1 hj with hj|hj
   ·exact Ygb h.1.2 j hj
   ·exact Ygb h.2 j hj
theorem Ytl{free:Nat->Bool}{dm:List Nat}{n:Nat}:∀{l:List Nat}{m:Nat},seqB free dm n l m=true->∀i∈l,i<n
 |i::l,m,h,j,hj=>by
  simp only[seqB,YHn]at h
  rcases YHI.1 hj with rfl|hj
  ·have:=Nat.le_of_ble_eq_true h.1.1.1;omega
  ·exact Ytl h.2 j hj
section
variable {P:Program} {E:Env} {G:VOp->(S->Prop)->S->Prop} {w0:Cx} {rd:Option Nat}
theorem Ynu(hE:Yn P E)(hm:P.follows .mixedOrders=true){ops:Array Oper}{vs:List VOp}(hvs:YaI P ops ops.toList=some vs)(c0:YdS ops.toList vs=true)(c1:YH1 (clos (Yy .any ops)).length ops.size=true)(c2:Yfl (Yy .any ops) (clos (Yy .any ops)) ops.size=true)(c3:YdU (Yy .any ops) 0=true)
 (c4:YeR (Yau (clos (Yy .any ops))) (YcQ vs 0) (Ybc (Ybl P) (Yau (clos (Yy .any ops))) vs vs 0) 0=true)(c5:Yb2 ((YcQ vs 0).map (·.2.1))=true) {A:S->Prop} {κ:Kont} {s:S} {a:Act} {sv:List Act} {w:World} {id:Nat}
 (h:∀s0,s0=YhJ s ((YcQ vs 0).map (·.2))->(∀(j:Nat)(L:Array Bool)(s:S)(A B:S->Prop),(∀s,A s->B s)->YW E G (Ybc (Ybl P) (Yau (clos (Yy .any ops))) vs vs 0) j L A s->YW E G (Ybc (Ybl P) (Yau (clos (Yy .any ops))) vs vs 0) j L B s)->
   (∀i L s,(YhH (Yau (clos (Yy .any ops))) (Ybc (Ybl P) (Yau (clos (Yy .any ops))) vs vs 0) ops.size 0).getD i false=true->¬YW E G (Ybc (Ybl P) (Yau (clos (Yy .any ops))) vs vs 0) i L (fun _=>False) s)->
   (∀(i:Nat),(YhH (Yau (clos (Yy .any ops))) (Ybc (Ybl P) (Yau (clos (Yy .any ops))) vs vs 0) ops.size 0).getD i false=true->∀(j:Nat)(L:Array Bool)(s:S)(A:S->Prop),Down .any ops L->i∈Region.ready .any ops L->j∈Region.ready .any ops L->j≠i->YW E G (Ybc (Ybl P) (Yau (clos (Yy .any ops))) vs vs 0) i L (YW E G (Ybc (Ybl P) (Yau (clos (Yy .any ops))) vs vs 0) j (L.setIfInBounds i true) A) s->YW E G (Ybc (Ybl P) (Yau (clos (Yy .any ops))) vs vs 0) j L (YW E G (Ybc (Ybl P) (Yau (clos (Yy .any ops))) vs vs 0) i (L.setIfInBounds j true) A) s)->
   anyS (YW E G (Ybc (Ybl P) (Yau (clos (Yy .any ops))) vs vs 0)) A .any ops ops.size (Array.replicate ops.size false) s0) {cx:Cx0} {ks:List (Nat×Obj)} {J:Nat->Option IK} {hJ:Ext cx J} (hG:YhP P G rd ops κ cx ks sv) (hGn:∀v A s,G v A s->YgT (Ybl P) v=true) (hR:Rl ⟨cx.wI J hJ,ks⟩ s a sv w) (hK:∀s a w J (hJ:Ext cx J),A s->Rl ⟨cx.wI J hJ,ks⟩ s a sv w->κ .normal a w):(Code.region id ops true).wpIn (Wd rd) 0 P κ a w:=by
 have hlen:vs.length=ops.size:=by rw[Ybq hvs];simp
 have htl:∀(clo:Nat->Nat->Bool)(l:List VOp)(j:Nat),(Ybc (Ybl P) clo vs l j).length=l.length:=by
  intro clo l
  induction l with
  |nil=>intro j;rfl
  |cons v l ih=>intro j;simp only[Ybc,YH8,ih]
 have hsn:((YcQ vs 0).map (·.2.1)).Nodup:=YcR c5
 have hget:∀(i:Nat)(v:VOp),vs[i]? =some v->∃o,ops[i]? =some o/\YfM P ops o=some v:=by
  intro i v hv
  obtain⟨o,h1,h2⟩:=Yiq hvs i v hv
  exact⟨o,by simpa using h1,h2⟩
 have hok:Yyx P ops (Ybc (Ybl P) (Yau (clos (Yy .any ops))) vs vs 0) (silP (lenH s.hp) (YcQ vs 0)) (Yau (clos (Yy .any ops))):=by
  refine⟨by rw[Yoi];exact Yee,Yim hsn,fun i d ht=>?_,fun i v chk ht=>?_,fun i v ht=>?_⟩
  ·rw[Yci]at ht
   obtain⟨v,hv,he⟩:=YHm.1 ht
   unfold Yd0 at he
   cases hs:YX v with
   |none=>rw[hs]at he;simp only at he;cases hl:YgT (Ybl P) v <;> rw[hl]at he <;> cases he
   |some x=>
    obtain⟨d',z⟩:=x
    rw[hs]at he;cases he
    obtain⟨o,ho,hvo⟩:=hget i v hv
    obtain⟨e,hop⟩:=YhS c0 i o v (by simpa using ho) hv (by rw[hs];rfl)
    obtain⟨g1,g2,g3,g4⟩:=Ylt hs
    obtain⟨xs,k1,k2,k3,k4,k5⟩:=Yfh hvo
    obtain⟨p,hp,hp1,hp2⟩:=Yoj (n:=lenH s.hp) (mem_silOf.2 ⟨i,v,hv,by omega,hs⟩:(i,d,z)∈YcQ vs 0)
    refine⟨p,o,e,hp,ho,hop,?_,?_,?_⟩
    ·rcases k5 with k5| ⟨_,_,_,_,_,k5⟩
     ·exact k5.1
     ·rw[g2]at k5;cases k5
    ·rw[g3]at k1;rw[hp2];exact Ypv hop k1 g4
    ·rw[<-k4,g1,hp1]
  ·rw[Yci]at ht
   obtain⟨u,hu,he⟩:=YHm.1 ht
   unfold Yd0 at he
   cases hs:YX u with
   |some x=>rw[hs]at he;cases he
   |none=>
    rw[hs]at he
    simp only at he
    cases hl:YgT (Ybl P) u with
    |true=>rw[hl]at he;cases he
    |false=>
    rw[hl]at he
    simp only[cond_false,DT.op.injEq]at he
    obtain⟨rfl,hchk⟩:=he
    refine⟨fun p hp=>?_,hget i u hu,fun x hx=>?_⟩
    ·obtain⟨_,hm⟩:=YeE hp
     obtain⟨i',v',h1,h2,h3⟩:=mem_silOf.1 hm
     have:i'=i:=by omega
     subst this
     rw[hu]at h1;cases h1
     rw[hs]at h3;cases h3
    ·obtain⟨k,p⟩:=x
     have:=Yga c4 i u chk (by rw[Yci,hu];simp [Yd0,hs,hl,<-hchk]) (k,p.slot,p.cells) (YeE hx).2
     simpa using this
  ·have hsl:=YdI c4 i v ht
   rw[Yci]at ht
   obtain⟨u,hu,he⟩:=YHm.1 ht
   refine⟨by rw[hsl];rfl,?_⟩
   have:u=v:=by
    unfold Yd0 at he
    cases hs:YX u with
    |some x=>rw[hs]at he;cases he
    |none=>
     rw[hs]at he
     simp only at he
     cases hl:YgT (Ybl P) u <;> rw[hl]at he <;> cases he
     rfl
   subst this
   exact hget i u hu
 refine Ylo (J:=J) (hJ:=hJ) (free:=fun i=>(YhH (Yau (clos (Yy .any ops))) (Ybc (Ybl P) (Yau (clos (Yy .any ops))) vs vs 0) ops.size 0).getD i false) hE hm (YHF c1) c2 hok (fun i hi=>?_)
  (h _ rfl) hG ?_ hK (fun x hx=>?_) (fun i o ho e he hb=>?_)
 ·have:=YnE _ _ _ hi
  rw[YIb]at this
  unfold Yzz at this
  split at this
  ·exact .inl ⟨_,‹_›⟩
  ·rename_i v hv
   simp only[YHn]at this
   refine .inr ⟨v,hv,this.1,fun j t ht=>?_⟩
   have:=Yh3 this.2 j t ht
   rwa [YIb]at this
  ·cases this
 ·have h0:=Yn0 (w0:=⟨cx.wI J hJ,ks⟩) ((YcQ vs 0).map (·.2)) [] s (YlZ (by rw[List.map_map];exact hsn) (fun _ _=>by simp)) (YxF (Ywt hR (w.drawn+1)))
  have:=pends_perm (l:=YcQ vs 0) (n:=lenH s.hp) (Pd:=[])
  rw[List.append_nil]at this
  exact YsZ this h0
 ·obtain⟨k,p⟩:=x
  obtain⟨i,v,h1,h2,_⟩:=mem_silOf.1 (YeE hx).2
  have:=(List.getElem?_eq_some_iff.1 h1).1
  simp only;omega
 ·have hlt:=YhV c3 i
  rw[Ydp ho,YIb]at hlt
  have hbit:(YkZ .any o.after.toList).testBit e.on=true:=maskL_spec.2 ⟨e,by simpa using he,hb,rfl⟩
  rcases YHA e.on i with h'|h'
  ·exact h'
  ·have:=Nat.testBit_lt_two_pow (YIa hlt (YHL (by omega) h'))
   rw[this]at hbit;cases hbit
theorem Ydk{lf:FuncId->Bool}{clo:Nat->Nat->Bool}{vs:List VOp}:∀(l:List VOp)(j:Nat),(Ybc lf clo vs l j).length=l.length
 | [],_=>rfl
 |_::l,j=>by simp only[Ybc,YH8,Ydk l]
theorem YnX{lf:FuncId->Bool}{clo:Nat->Nat->Bool}{vs:List VOp}(hGn:∀v A s,G v A s->YgT lf v=true)(i:Nat)(v:VOp)(chk:List (Nat×X))(A:S->Prop)(s:S)(h:(Ybc lf clo vs vs 0)[i]? =some (.op v chk)):¬G v A s:=fun hg=>by
 rw[Yci]at h
 obtain⟨u,hu,he⟩:=YHm.1 h
 unfold Yd0 at he
 cases hs:YX u with
 |some x=>rw[hs]at he;cases he
 |none=>
  rw[hs]at he
  simp only at he
  cases hl:YgT lf u with
  |true=>rw[hl]at he;cases he
  |false=>
   rw[hl]at he
   cases he
   rw[hGn _ _ _ hg]at hl;cases hl
theorem Yo0(hE:Yn P E)(hm:P.follows .mixedOrders=true){ops:Array Oper}{al:List (Nat×AL)}{dl:List DOp}(hd:Ynt P ops=some (al,dl)){A:S->Prop}{κ:Kont}{s:S}{a:Act}{sv:List Act}{w:World}{id:Nat}
 (h:YgB E G A dl (YhJ s al)){cx:Cx0}{ks:List (Nat×Obj)}{J:Nat->Option IK}{hJ:Ext cx J}(hG:YhP P G rd ops κ cx ks sv)(hGn:∀v A s,G v A s->YgT (Ybl P) v=true)(hR:Rl ⟨cx.wI J hJ,ks⟩ s a sv w)(hK:∀s a w J (hJ:Ext cx J),A s->Rl ⟨cx.wI J hJ,ks⟩ s a sv w->κ .normal a w):(Code.region id ops true).wpIn (Wd rd) 0 P κ a w:=by
 unfold Ynt at hd
 obtain⟨vs,hvs,hd⟩:=YHl.1 hd
 simp only at hd
 split at hd
 ·rename_i hc
  simp only[Option.some.injEq,Prod.mk.injEq]at hd
  obtain⟨rfl,rfl⟩:=hd
  simp only[YHn]at hc
  obtain⟨⟨⟨⟨⟨⟨⟨c0,c1⟩,c2⟩,c3⟩,c4⟩,c5⟩,c6⟩,c7⟩:=hc
  have hlen:vs.length=ops.size:=by rw[Ybq hvs];simp
  refine Ynu hE hm hvs c0 c1 c2 c3 c4 c5 (fun s0 hs0 m1 m2 m3=>?_) hG hGn hR hK
  subst hs0
  rw[<-YHF c6]
  have:=Ytm m1 m2 m3 _ 0 (Array.replicate ops.size false) _ c7 Yky YgC (Yhj hG.mono (YnX hGn) (fun i hi=>by rw[Ydk,hlen];exact Ytl c7 i hi) h)
  rw[YHF c6]at this⊢
  exact this
 ·cases hd
theorem Yl0(hE:Yn P E)(hm:P.follows .mixedOrders=true){ops:Array Oper}{al:List (Nat×AL)}{t:DTr}(hd:YiU P ops=some (al,t)){A:S->Prop}{κ:Kont}{s:S}{a:Act}{sv:List Act}{w:World}{id:Nat}
 (h:dtrP E G A t (YhJ s al)){cx:Cx0}{ks:List (Nat×Obj)}{J:Nat->Option IK}{hJ:Ext cx J}(hG:YhP P G rd ops κ cx ks sv)(hGn:∀v A s,G v A s->YgT (Ybl P) v=true)(hR:Rl ⟨cx.wI J hJ,ks⟩ s a sv w)(hK:∀s a w J (hJ:Ext cx J),A s->Rl ⟨cx.wI J hJ,ks⟩ s a sv w->κ .normal a w):(Code.region id ops true).wpIn (Wd rd) 0 P κ a w:=by
 unfold YiU at hd
 obtain⟨vs,hvs,hd⟩:=YHl.1 hd
 simp only at hd
 split at hd
 ·rename_i hc
  simp only[Option.some.injEq,Prod.mk.injEq]at hd
  obtain⟨rfl,rfl⟩:=hd
  simp only[YHn]at hc
  obtain⟨⟨⟨⟨⟨⟨⟨c0,c1⟩,c2⟩,c3⟩,c4⟩,c5⟩,c6⟩,c7⟩:=hc
  have hlen:vs.length=ops.size:=by rw[Ybq hvs];simp
  refine Ynu hE hm hvs c0 c1 c2 c3 c4 c5 (fun s0 hs0 m1 m2 m3=>?_) hG hGn hR hK
  subst hs0
  have:=(Ygc m1 m2 m3 _ 0 false (Array.replicate ops.size false) _ c7 Yky YgC (YcM hG.mono (YnX hGn) (fun i hi=>by rw[Ydk,hlen];exact Ygb c7 i hi) h)).1 rfl
  rw[YHF c6]at this
  exact this
 ·cases hd
end
end Go.Vx
namespace Go.Vx
open Go.RowKit
section
variable {P:Program} {E:Env} {Q:SV->List HO->Prop} {vr:List VR} {w0:Cx0} {rd:Option Nat} {ks:List (Nat×Obj)}
def inG(E:Env)(Q:SV->List HO->Prop)(vr:List VR)(N:Nat)(K0:List It)(v:VOp)(A:S->Prop)(s:S):Prop:=
 ∃f d xs ys vf,∃B:S->Prop,v=⟨d,none,.call f,xs⟩/\E.lo f=true/\callee E (.call f) (s.args xs)=some (f,ys)/\E.ct f=none/\E.fn f=some vf/\
  (∃m,m<=N/\run E Q vr m (.code vf.body:: .frame d vf.res:: .inLoop B::K0) { fr:=padL vf.ntmps ys,saved:=s.fr::s.saved,hp:=s.hp})/\∀s',B s'->A s'
theorem Yjg{N:Nat}{K0:List It}(v:VOp)(A B:S->Prop)(s:S)(h:∀s,A s->B s)(hg:inG E Q vr N K0 v A s):inG E Q vr N K0 v B s:=by
 obtain⟨f,d,xs,ys,vf,C,h1,h2,h3,h4,h5,h6,h7⟩:=hg
 exact⟨f,d,xs,ys,vf,C,h1,h2,h3,h4,h5,h6,fun s' hs=>h _ (h7 s' hs)⟩
theorem YlU{f g:FuncId}{xs ys:List SV}(h:callee E (.call f) xs=some (g,ys)):g=f:=by
 simp only[callee,Option.some.injEq,Prod.mk.injEq]at h
 exact h.1.symm
theorem Yzn{n N:Nat}(hN:n<=N){v:VOp}{K K0:List It}(hK:Yhq K=K0){s:S}(h:dop E (run E Q vr n) v K s):dopW E v (fun s'=> ∃m,m<=n/\run E Q vr m K s') s\/inG E Q vr N K0 v (fun s'=> ∃m,m<=n/\run E Q vr m K s') s:=by
 obtain⟨d,g,op,xs⟩:=v
 cases g with
 |none=>
  simp only[dop]at h
  unfold dopW
  simp only
  cases hq:op.quiet with
  |true=>
   left
   rw[hq]at h
   simp only[dpl,dq]at h
   simp only[fEff]
   cases he:eff s.hp (lenH s.hp) op (s.args xs)with
   |none=>rw[he]at h;exact h.elim
   |some e=>
    obtain⟨p,x,u⟩:=e
    rw[he]at h
    cases u <;> try exact h.elim
    exact⟨h.1,n,YHr _,h.2⟩
  |false=>
   rw[hq]at h
   simp only[dpl,dcl]at h
   simp only[YkP]
   cases hc:callee E op (s.args xs)with
   |none=>
    left
    rw[hc]at h
    simp only[psdD]at h
    simp only[psdW]
    cases hps:psd op (s.args xs)with
    |some c=>
     rw[hps]at h
     exact(Ydi n h).mono fun r hs ⟨m,hm,h2⟩=>⟨m,by omega,h2⟩
    |none=>
    rw[hps]at h
    simp only at h⊢
    cases hbad:op.bad with
    |true=>rw[hbad]at h;exact h.elim
    |false=>
    rw[hbad]at h
    simp only[effD,effK]at h
    simp only[badW,effW]
    cases he:eff s.hp (lenH s.hp) op (s.args xs)with
    |none=>rw[he]at h;exact h.elim
    |some e=>rw[he]at h;exact⟨h.1,n,YHr _,h.2⟩
   |some fy=>
    obtain⟨f,ys⟩:=fy
    rw[hc]at h
    simp only[dct]at h
    simp only[ctW]
    cases hct:E.ct f with
    |none=>
     right
     rw[hct]at h
     simp only[dinl]at h
     split at h
     ·rename_i g
      split at h
      ·rename_i hlo
       split at h
       ·rename_i vf hfn
        obtain⟨B,h1,h2⟩:=h
        obtain rfl:=YlU hc
        rw[hK]at h1
        exact⟨_,d,xs,ys,vf,B,rfl,hlo,hc,hct,hfn,⟨n,hN,h1⟩,fun s' hs=>⟨n,YHr _,h2 s' hs⟩⟩
       ·exact h.elim
      ·exact h.elim
     ·exact h.elim
    |some c=>
     left
     rw[hct]at h
     exact⟨h.1,(Ydi n h.2).mono fun r hs ⟨m,hm,h2⟩=>⟨m,by omega,h2⟩⟩
 |some gp=>
  left
  obtain⟨g,pol⟩:=gp
  simp only[dop,dgd]at h
  unfold dopW
  simp only
  cases hgd:Yah (getL s.fr g) pol with
  |none=>rw[hgd]at h;exact h.elim
  |some gb=>
   rw[hgd]at h
   simp only[dgq]at h
   cases hq:op.quiet with
   |true=>
    rw[hq]at h
    simp only[effG]at h
    simp only[fEff,hgd]
    cases he:eff s.hp (lenH s.hp) op (YR op gb (s.args xs)).2 with
    |none=>rw[he]at h;exact h.elim
    |some e=>
     obtain⟨p,x,u⟩:=e
     rw[he]at h
     cases u <;> try exact h.elim
     exact⟨⟨h.1,h.2.1⟩,n,YHr _,h.2.2⟩
   |false=>
    rw[hq]at h
    simp only[dctG]at h
    simp only[YgO,hgd,ctGW]
    cases hct:ctOf E op (YR op gb (s.args xs)).2 with
    |none=>rw[hct]at h;exact h.elim
    |some c=>
     rw[hct]at h
     obtain⟨c,ys⟩:=c
     obtain⟨hp,hno,h⟩:=h
     obtain⟨m,r,hm,h1,h2⟩:=Yf9 n h
     exact⟨hp,hno,r,⟨m,by omega,h1⟩,h2⟩
theorem Yb3{N:Nat}{K0:List It}{A B:S->Prop}:∀(l:List DOp),(∀s,A s->B s)->∀{s:S},YgB E (inG E Q vr N K0) A l s->YgB E (inG E Q vr N K0) B l s
 | [],h,_,hs=>h _ hs
 | ⟨_,_⟩::l,h,_,hs=>⟨hs.1,hs.2.imp (Yap (fun _ h'=>Yb3 l h h')) (Yjg _ _ _ _ fun _ h'=>Yb3 l h h')⟩
theorem YiT{N:Nat}{K0:List It}:∀(l:List DOp)(n:Nat)(hn:n<=N){K:List It}(hK:Yhq K=K0){s:S},run E Q vr n (.dops l::K) s->YgB E (inG E Q vr N K0) (fun s'=> ∃m,m<n/\run E Q vr m K s') l s
 |_,0,_,_,_,_,h=>h.elim
 | [],n+1,_,_,_,_,h=>⟨n,Nat.lt_succ_self _,h⟩
 | ⟨v,chk⟩::l,n+1,hn,K,hK,_,h=>by
   refine⟨h.1,?_⟩
   have key:∀(s:S),(∃m,m<=n/\run E Q vr m (.dops l::K) s)->YgB E (inG E Q vr N K0) (fun s'=> ∃m,m<n+1/\run E Q vr m K s') l s:=fun s ⟨m,hm,h'⟩=>
    Yb3 l (fun _ ⟨m',hm',h''⟩=>⟨m',by omega,h''⟩) (YiT l m (by omega) hK h')
   exact(Yzn (n:=n) (N:=N) (by omega) (K:= .dops l::K) (K0:=K0) hK h.2).imp (Yap key) (Yjg _ _ _ _ key)
theorem Yb4{N:Nat}{K0:List It}{A B:S->Prop}:∀(t:DTr),(∀s,A s->B s)->∀{s:S},dtrP E (inG E Q vr N K0) A t s->dtrP E (inG E Q vr N K0) B t s
 | .leaf,h,_,hs=>h _ hs
 | .ops l t,h,_,hs=>Yb3 l (fun _ h'=>Yb4 t h h') hs
 | .br a b,h,_,hs=>⟨Yb4 a h hs.1,Yb4 b h hs.2⟩
theorem YiV{N:Nat}{K0:List It}:∀(t:DTr)(n:Nat)(hn:n<=N){K:List It}(hK:Yhq K=K0){s:S},run E Q vr n (.dtr t::K) s->dtrP E (inG E Q vr N K0) (fun s'=> ∃m,m<n/\run E Q vr m K s') t s
 |_,0,_,_,_,_,h=>h.elim
 | .leaf,n+1,_,_,_,_,h=>⟨n,Nat.lt_succ_self _,h⟩
 | .ops l t,n+1,hn,K,hK,_,h=>Yb3 l (fun _ ⟨m,hm,h'⟩=>Yb4 t (fun _ ⟨m',hm',h''⟩=>⟨m',by omega,h''⟩) (YiV t m (by omega) hK h')) (YiT l n (by omega) (K:= .dtr t::K) hK h)
 | .br a b,n+1,hn,K,hK,_,h=>⟨Yb4 a (fun _ ⟨m',hm',h''⟩=>⟨m',by omega,h''⟩) (YiV a n (by omega) hK h.1),Yb4 b (fun _ ⟨m',hm',h''⟩=>⟨m',by omega,h''⟩) (YiV b n (by omega) hK h.2)⟩
theorem Yez{fn:Func}{c:Code}{b:VC}{f:FuncId}(hf:P.funcs[f]? =some fn)(hbody:fn.body=some c){R:Ending->World->Prop}{args:Array Value}{w:World}
 (h:(Exit.then (c.wpIn (Wd none) 0 P (bodyPostM (Wd none) 0 P fn R)) (bodyPostM (Wd none) 0 P fn R)) .normal { tmps:=args++Array.replicate (fn.ntmps-args.size) undef,defers:=[]} w):CallsIn (Wd none) 0 P f args w R:=
 callsIn_of_wp_marks hf hbody trivial h
theorem Ydl{fn:Func}{vf:VF}(h:Ye P fn=some vf):∃c,fn.body=some c/\Ycm P c=some vf.body/\YhO P fn.results.toList=some vf.res/\vf.ntmps=fn.ntmps:=by
 unfold Ye at h
 obtain⟨c,hbody,h⟩:=YHl.1 h
 obtain⟨b,hcode,h⟩:=YHl.1 h
 obtain⟨res,hres,rfl⟩:=YHm.1 h
 exact⟨c,hbody,hcode,hres,rfl⟩
theorem Yn3{w:World}{bs:List BK}{B:Bd}:∀{ps:List Nat}{ys fr:List SV}{vs:List Value}{tmps:Array Value},RepL w bs B fr tmps.toList->RepL w bs B ys vs->RepL w bs B (Ylk fr ps ys) ((ps.zip vs).foldl (fun t (p:Nat×Value)=>t.setIfInBounds p.1 p.2) tmps).toList
 | [],ys,fr,vs,tmps,h,_=>by cases ys <;> simpa [Ylk]using h
 |p::ps,_,fr,_,tmps,h,.nil=>by simpa [Ylk]using h
 |p::ps,_,fr,_,tmps,h,.cons y v ys vs h1 h2=>by
  simp only[Ylk,List.zip_cons_cons,YHX]
  refine Yn3 ?_ h2
  rw[Array.toList_setIfInBounds]
  exact h.set p h1
theorem YnY(hE:Yn P E)(hS:SatG P w0){fn0:Func}{R0:Ending->World->Prop}{n:Nat}(ih:∀m,m<=n->∀(K:List It) (s:S),run E Q vr m K s->∀(sv:List Act) (ks:List (Nat×Obj)) (rd:Option Nat) (κ:Kont) (a:Act) (w:World),KRel P w0 (bodyPostM (Wd none) 0 P fn0 R0) K sv ks rd κ->∀ {D:Nat->Option IK} {hD:Ext w0 D},Rl ⟨w0.wI D hD,ks⟩ s a sv w->κ .normal a w)
 {all:Array Oper}{o:Oper}{rest:List Oper}{l:List VOp}{vo:VO}{ops:List Operand}{xs:List SV}{K:List It}{s:S}{sv:List Act}{κ:Kont}{a:Act}{w:World}
 (hv:vop P o=some (vo,ops))(hcc:vo.isCall=true->Ybn o.op=true)(hrest:YaI P all rest=some l){D:Nat->Option IK}{hD:Ext w0 D}(hx:∀bs,GlW P w bs (w0.wI D hD).bd->RepL w bs (w0.wI D hD).bd s.fr a.tmps.toList->RepL w bs (w0.wI D hD).bd xs (ops.map a.eval))
 (h:Ypn E (run E Q vr n) o.dst vo xs (.ops l::K) s)(hk:KRel P w0 (bodyPostM (Wd none) 0 P fn0 R0) K sv ks rd κ)(hR:Rl ⟨w0.wI D hD,ks⟩ s a sv w):o.wpIn (Wd rd) 0 P a w (wpListIn (Wd rd) 0 P all κ rest) κ:=by
 have hK:KRel P w0 (bodyPostM (Wd none) 0 P fn0 R0) (.ops l::K) sv ks rd (Exit.then (wpListIn (Wd rd) 0 P all κ rest) κ):= .ops all rest l K sv ks rd κ hrest hk
 obtain⟨bs,hf,hsv,hH,hb,hoth⟩:=id hR
 have hxx:=hx bs (Yar hS hb hH) hf
 have hB:w0.heap.size<=w.heap.size:=hb.size
 have hnd:=Y8 hv
 unfold Ypn at h
 cases hc:callee E vo xs with
 |none=>
  rw[hc]at h
  simp only[opK]at h
  cases hy:yld vo xs with
  |some ly=>
   obtain⟨l',ys⟩:=ly
   rw[hy]at h
   simp only[yldK]at h
   have hvo:vo= .callv/\xs= .fn (.yield l') [] []::ys:=by
    unfold yld at hy
    split at hy
    ·split at hy
     ·cases hy;exact⟨rfl,rfl⟩
     ·cases hy
    ·cases hy
   obtain⟨rfl,rfl⟩:=hvo
   cases hfr:Yd2 (.ops l::K)with
   |none=>rw[hfr]at h;exact h.elim
   |some x=>
    obtain⟨l2,ps,va,vb⟩:=x
    rw[hfr]at h
    cases hss:s.saved with
    |nil=>rw[hss]at h;exact h.elim
    |cons fr svs=>
     rw[hss]at h
     obtain⟨⟨rfl,hlen⟩,hrun⟩:=h
     obtain⟨q,sa,sv',ks',rfl,rfl,rfl,rfl,htm,hva,hvb⟩:=Ydv hfr hK
     obtain⟨c,hop,hcall⟩:=Yop hv (hcc rfl) rfl
     rcases hcall with⟨_,h1,_⟩ | ⟨x,_,hcal,rfl⟩ | ⟨_,_,h1,_⟩
     ·cases h1
     ·obtain⟨v,vs,hvs,g1,g2⟩:=hxx.cons_inv
      simp only[YHH,List.cons.injEq]at hvs
      obtain⟨hv1,rfl⟩:=hvs
      obtain⟨us,us',rfl,g3,g4⟩:=g1.fn_inv
      cases g3.nil_inv;cases g4.nil_inv
      have hrec:=Ya5 hR
      have hsz:(#[]++c.args.map a.eval++ #[]:Array Value).size=q.ps.length:=by
       have:=g2.length
       simp only[List.length_map,Array.length_toList]at this
       have e2:∀l:List Nat,lenN l=l.length:=fun l=>by induction l with|nil=>rfl|cons _ l ih=>simp [lenN,ih]
       rw[e2]at hlen
       simp;omega
      have hex:(execOp a.eval o).run P w= .ok (.round l' q.fn ((q.ps.toArray.zip (#[]++c.args.map a.eval++ #[])).foldl (fun tmps (t,a)=>tmps.setIfInBounds t a) q.tmps) q.ca q.cb) w:=by
       obtain⟨dst,op,type,pos,after,guard⟩:=o
       simp only at hop
       subst hop
       simp only[execOp,resolve,hcal,hv1,Deferred.ofValue,Sem.run_bind,Sem.run_pure,Result.andThen_ok,invoke]
       exact run_yield hrec (by simpa [Rec.at]using hsz)
      unfold Oper.wpIn
      rw[Oper.semAt_eq _ _ _ hnd,hex]
      refine⟨fun _ _=>trivial,fun h=>(by cases h),?_⟩
      refine roundIn_of_wpIn trivial ?_
      refine ih n (YHr _) _ _ hrun (a::sa::sv') _ _ _ { tmps:=_,defers:=[]} _ (.code q.ca va _ _ _ (some l') _ hva (.rbeg l' q _ _ ks' _ (.code q.cb vb _ _ _ (some l') _ hvb (.rend o.dst l' q a _ _ ks' _ _ (fun v w h=>h) hK)))) (D:=D) (hD:=hD) ?_
      rw[hss]at hsv
      cases hsv with
      |cons _ _ _ _ k1 k2=>
       refine⟨bs,?_,.cons _ _ _ _ hf (by rw[hss];exact .cons _ _ _ _ k1 k2),hH,hb,hoth.push⟩
       have:=Yn3 (ps:=q.ps) k1 g2
       rw[htm]
       have e:q.ps.toArray.zip (#[]++c.args.map a.eval++ #[])=(q.ps.zip (c.args.toList.map a.eval)).toArray:=by apply Array.ext';simp
       rw[e]
       simpa using this
     ·cases h1
  |none=>
  rw[hy]at h
  simp only[yldK,psdK]at h
  cases hps:psd vo xs with
  |some c=>
   rw[hps]at h
   obtain⟨r,val,w',x,D2,hD2,hrn,hr,⟨m,hm,hrun⟩,k1,k2,k3,k4⟩:=YxG (ρ:=a.eval) hv hps (Ydi n h) hxx hH
   refine Ya6 hnd (hrn o.dst o.type o.pos o.after o.guard) hr ?_
   obtain⟨hD3,hcr⟩:=Ydo (al:=false) (z:=Bd.cx (w0.wI D hD).bd w) (w0:=w0) (J1:=D) (hJ1:=hD) (hJ:=hD2) rfl hf hsv hH hb hoth o.dst k1 k2 k3 (fun _=>⟨k4,trivial⟩) (fun h=>by cases h)
   exact ih m (by omega) _ _ hrun sv _ _ _ _ _ hK (hcr _ fun _ h=>h)
  |none=>
  rw[hps]at h
  simp only[effK]at h
  cases he:eff s.hp (lenH s.hp) vo xs with
  |none=>rw[he]at h;exact h.elim
  |some e=>
   rw[he]at h
   obtain⟨r,v,w',bs',hrun,hr,h1,h2,h3,h4,h5⟩:=Ylz (ρ:=a.eval) hv he h.1 hxx (fun _=>rfl) (fun _=>rfl) hH hB
   refine Ya6 hnd (hrun o.dst o.type o.pos o.after o.guard) hr ?_
   exact ih n (YHr _) _ _ h.2 sv _ _ _ _ _ hK (Yfg (op:=o.op) hf hsv hb hoth h1 h2 h3 h4 h5 o.dst)
 |some fy=>
  obtain⟨f,ys⟩:=fy
  rw[hc]at h
  have hcall:vo.isCall=true:=by
   unfold callee at hc
   split at hc <;> first|rfl|cases hc
  simp only[opK,Yrm]at h
  cases hct:E.ct f with
  |some c=>
   rw[hct]at h
   obtain⟨hok,hen⟩:=hE.ct f c hct
   obtain⟨vs,hys,hrun⟩:=YdX hE.meth hv (hcc hcall) hc hxx (fun _=>rfl) hen
   refine Yax hnd hrun ?_
   obtain⟨z,hzw,hzI,hargs2,hal,hzF⟩:=Yco c.alias hH.v hB 3 hys h.1
   subst hzw
   refine(hok _ vs z _ ⟨fun b K hb=>(hH.reg b K (by rw[hzI]at hb;exact hb)).2,YeO (Yar (hJ:=hD) hS hb hH) rfl hzF⟩ hargs2 (Ydi n h.2)).mono ?_
   rintro e w' ⟨r,hs,v,bs2,D2,hD2,⟨m,hm,hrun'⟩,rfl,h1,h2,h3,h4⟩
   obtain⟨hD3,hcr⟩:=Ydo (w0:=w0) (J1:=D) (hJ1:=hD) (hJ:=hD2) hzI hf hsv hH hb hoth o.dst h1 h2 h3 h4 hal
   exact ih m (by omega) _ _ hrun' sv _ _ _ _ _ hK (hcr _ fun _ h=>h)
  |none=>
   rw[hct]at h
   simp only[inlK]at h
   cases hfn:E.fn f with
   |none=>
    rw[hfn]at h
    simp only[wK]at h
    cases hwc:E.wc f with
    |none=>rw[hwc]at h;exact h.elim
    |some c=>
     rw[hwc]at h
     obtain⟨hok,hen⟩:=hE.wc f c hwc
     obtain⟨vs,hys,hrun⟩:=YdX hE.meth hv (hcc hcall) hc hxx (fun _=>rfl) hen
     refine Yax hnd hrun ?_
     simp only[wX]at h
     split at h
     ·rename_i i m sz rest
      cases hg:getH s.hp i with
      |own zz sz' mm get=>
       rw[hg]at h
       obtain⟨⟨hno,rfl,rfl,rfl⟩,ar,⟨hsz,hget⟩,hA,hgo⟩:=h
       refine(hok i _ rest _ w bs (w0.wI D hD).bd s.hp zz get ar (fun g l hgl=>(hS g l hgl).1) (Yar hS hb hH) hH hB hys hno hg hsz hget hA).mono ?_
       rintro e w' ⟨a',x,bs',v,q1,q2,rfl,q4,g1,g2,g3,g4⟩
       exact ih n (YHr _) _ _ (hgo a' x q1 q2) sv _ _ _ _ _ hK (Yfg (op:=o.op) (e:=⟨True,c.res x,.set i (.own zz 1 _ (arrC a'))⟩) hf hsv hb hoth q4 g1 g2 g3 g4 o.dst)
      |_=>rw[hg]at h;exact h.elim
     ·exact h.elim
   |some vf=>
    rw[hfn]at h
    obtain⟨fn,hfs,hvf,hen⟩:=hE.fn f vf hfn
    obtain⟨vs,hys,hrun⟩:=YdX hE.meth hv (hcc hcall) hc hxx (fun _=>rfl) hen
    refine Yax hnd hrun ?_
    obtain⟨c,hbody,hcode,hres,hnt⟩:=Ydl hvf
    refine Ycp (n:=0) (Yez (b:=vf.body) hfs hbody ?_)
    refine ih n (YHr _) _ _ h (a::sv) _ _ _ _ _ (.code c vf.body _ _ _ _ _ hcode (.frame o.dst vf.res fn a _ _ _ _ _ _ hres (fun v w h=>h) hK)) (D:=D) (hD:=hD) ?_
    refine⟨bs,?_,.cons _ _ _ _ hf hsv,hH,hb,hoth.push⟩
    have:=Yfb (n:=fn.ntmps) hys
    rw[hnt]
    simpa using this
theorem Ymx{all:Array Oper}{rest:List Oper}{v:VOp}{l:List VOp}(h:YaI P all rest=some (v::l)):∃o r,rest=o::r/\YfM P all o=some v/\YaI P all r=some l:=by
 cases rest with
 |nil=>cases h
 |cons o r=>
  simp only[YaI]at h
  obtain⟨x,hx,h⟩:=YHl.1 h
  obtain⟨y,hy,h⟩:=YHm.1 h
  cases h
  exact⟨o,r,rfl,hx,hy⟩
theorem Ypw{all:Array Oper}{rest:List Oper}(h:YaI P all rest=some []):rest=[]:=by
 cases rest with
 |nil=>rfl
 |cons o r=>
  simp only[YaI]at h
  obtain⟨x,hx,h⟩:=YHl.1 h
  obtain⟨y,hy,h⟩:=YHm.1 h
  cases h
theorem YtM{all:Array Oper}{o:Oper}{v:VOp}(h:YfM P all o=some v):∃ops,vop P o=some (v.op,ops)/\X.ofs P ops=some v.xs/\(v.op.isCall=true->Ybn o.op=true)/\v.dst=o.dst/\
 ((o.guard=none/\v.g=none)\/∃j b g,o.guard=some (j,b)/\Ylu all j=some g/\v.g=some (g,b)):=by
 unfold YfM at h
 obtain⟨⟨vo,ops⟩,h1,h⟩:=YHl.1 h
 obtain⟨xs,h2,h⟩:=YHl.1 h
 split at h
 ·cases h
 ·rename_i hne
  have hne:vo.isCall=true->Ybn o.op=true:=by simpa using hne
  split at h
  ·cases h;exact⟨ops,h1,h2,hne,rfl,.inl ⟨‹_›,rfl⟩⟩
  ·obtain⟨g,hg,rfl⟩:=YHm.1 h
   exact⟨ops,h1,h2,hne,rfl,.inr ⟨_,_,g,‹_›,hg,rfl⟩⟩
theorem Yib{κ0:Kont}{K:List It}{sv:List Act}{ks:List (Nat×Obj)}{r:Option Nat}{κ:Kont}(h:KRel P w0 κ0 K sv ks r κ):Yhq K=K:=by
 cases h <;> rfl
theorem Yss(hE:Yn P E){n:Nat}{K:List It}{v:VOp}{A:S->Prop}{s:S}(h:inG E Q vr n K v A s):YgT (Ybl P) v=true:=by
 obtain⟨f,d,xs,ys,vf,B,rfl,hlo,_⟩:=h
 exact hE.lo f hlo
theorem Yst(hE:Yn P E)(hS:SatG P w0){fn0:Func}{R0:Ending->World->Prop}{n:Nat}(ih:∀m,m<=n->∀(K:List It) (s:S),run E Q vr m K s->∀(sv:List Act) (ks:List (Nat×Obj)) (rd:Option Nat) (κ:Kont) (a:Act) (w:World),KRel P w0 (bodyPostM (Wd none) 0 P fn0 R0) K sv ks rd κ->∀ {D:Nat->Option IK} {hD:Ext w0 D},Rl ⟨w0.wI D hD,ks⟩ s a sv w->κ .normal a w)
 {all:Array Oper}{K:List It}{sv:List Act}{ks:List (Nat×Obj)}{rd:Option Nat}{κ:Kont}(hk:KRel P w0 (bodyPostM (Wd none) 0 P fn0 R0) K sv ks rd κ):YhP P (inG E Q vr n K) rd all κ w0 ks sv:=by
 refine⟨hS,Yjg,?_⟩
 intro i o v A s hi hv hg J hJ a w hR
 obtain⟨f,d,xs,ys,vf,B,rfl,hlo,hc,hct,hfn,⟨m,hm,hrun'⟩,hB⟩:=hg
 obtain⟨ops,h1,h2,h3,h4,h5⟩:=Yfh hv
 obtain⟨bs,hf,hsv,hH,hb,hoth⟩:=id hR
 have hx:RepL w bs (w0.wI J hJ).bd (s.args xs) (ops.map a.eval):=Yu9 (Yar hS hb hH) hf h2
 obtain⟨fn,hfs,hvf,hen⟩:=hE.fn f vf hfn
 obtain⟨vs,hys,hrun⟩:=YdX hE.meth h1 (h3 rfl) hc hx (fun _=>rfl) hen
 rcases h5 with⟨hg0,_⟩ | ⟨_,_,_,_,_,hvg⟩
 ·refine YbQ hi (by simp [Region.wanted,hg0]) (Yax (Y8 h1) hrun ?_)
  obtain⟨c,hbody,hcode,hres,hnt⟩:=Ydl hvf
  refine Ycp (n:=0) (Yez (b:=vf.body) hfs hbody ?_)
  have h4:d=o.dst:=h4
  subst h4
  refine ih m hm _ _ hrun' (a::sv) _ _ _ _ _ (.code c vf.body _ _ _ _ _ hcode (.frame o.dst vf.res fn a _ _ _ _ _ _ hres (fun v w h=>h) (.inLoop B (fun a' w'=> ∃s',A s'/\∃J',∃hJ':Ext w0 J',Rl ⟨w0.wI J' hJ',ks⟩ s' a' sv w') K sv ks rd κ (fun s' a' w' D hD hBs hR'=>⟨s',hB s' hBs,D,hD,hR'⟩) hk))) (D:=J) (hD:=hJ) ?_
  refine⟨bs,?_,.cons _ _ _ _ hf hsv,hH,hb,hoth.push⟩
  have:=Yfb (n:=fn.ntmps) hys
  rw[hnt]
  simpa using this
 ·cases hvg
theorem Ylq(hE:Yn P E)(hS:SatG P w0){fn0:Func}{R0:Ending->World->Prop}(hres:YhO P fn0.results.toList=some vr)
 (hR0:∀r hp v w' bs D (hD:Ext w0 D),Q r hp->Rep w' bs (w0.wI D hD).bd r v->Hp w' bs (w0.wI D hD).bd hp->BelowI w0.bd w0.toWorld w'->R0 (.returned v) w'):
 ∀(n:Nat)(K:List It)(s:S),run E Q vr n K s->∀(sv:List Act)(ks:List (Nat×Obj))(rd:Option Nat)(κ:Kont)(a:Act)(w:World),KRel P w0 (bodyPostM (Wd none) 0 P fn0 R0) K sv ks rd κ->∀{D:Nat->Option IK}{hD:Ext w0 D},Rl ⟨w0.wI D hD,ks⟩ s a sv w->κ .normal a w:=by
 have main:∀(N n:Nat),n<=N->∀(K:List It)(s:S),run E Q vr n K s->∀(sv:List Act)(ks:List (Nat×Obj))(rd:Option Nat)(κ:Kont)(a:Act)(w:World),KRel P w0 (bodyPostM (Wd none) 0 P fn0 R0) K sv ks rd κ->∀{D:Nat->Option IK}{hD:Ext w0 D},Rl ⟨w0.wI D hD,ks⟩ s a sv w->κ .normal a w:=by
  intro N
  induction N with
  |zero=>
   intro n hn K s h
   have:n=0:=by omega
   subst this;exact h.elim
  |succ N ihN=>
   intro n hn K s h sv ks rd κ a w hk D hD hR
   cases n with
   |zero=>exact h.elim
   |succ n=>
   have ih:∀m,m<=n->∀(K:List It)(s:S),run E Q vr m K s->∀(sv:List Act)(ks:List (Nat×Obj))(rd:Option Nat)(κ:Kont)(a:Act)(w:World),KRel P w0 (bodyPostM (Wd none) 0 P fn0 R0) K sv ks rd κ->∀{D:Nat->Option IK}{hD:Ext w0 D},Rl ⟨w0.wI D hD,ks⟩ s a sv w->κ .normal a w:=fun m hm=>ihN m (by omega)
   have ihn:=ih n (YHr _)
   have hjump:∀{K':List It}{d:Option Nat}{f:Act->World->Prop},Ypk (run E Q vr n) d false K' s.hp s.saved->Yyo P w0 (bodyPostM (Wd none) 0 P fn0 R0) K' d sv ks rd f->f a w:=by
    rintro K' d f hr ⟨c,q,l,ita,sv',ks',κ',rfl,rfl,rfl,hk',hf⟩
    cases hs:s.saved with
    |nil=>rw[hs]at hr;exact hr.elim
    |cons fr svs=>
     rw[hs]at hr
     have hat:=Ya5 hR
     have hend:=run_endRound (P:=P) (some c) hat
     have h2:=Yil hs (Ydg (lp':=q.at .done (some c)) hR)
     exact hf a w _ _ hend (ihn _ _ hr sv' _ _ _ _ _ hk' (Yde h2 d fun _ _ _=> .x _ _ (.bool _)))
   cases K with
   |nil=>
    cases hk
    rw[YE9]at h
    cases hv:Yaw s vr with
    |none=>rw[hv]at h;exact h.elim
    |some x=>
     obtain⟨p,vs⟩:=x
     rw[hv]at h
     obtain⟨ms,hms⟩:=Yjz hR
     refine YeB ms hms hR fun w' hR'=>?_
     obtain⟨bs,hf,hsv,hH,hb,hoth⟩:=hR'
     obtain⟨v,h1,h2⟩:=Yfe (P:=P) hf hH hres hv h.1
     exact⟨v,h1,hR0 _ _ _ _ _ D hD h.2 h2 hH ⟨hb.os,hb.tape,hb.output,hb.size,fun k hk hI=>hb.block k hk ((hD.old k hk).trans hI)⟩⟩
   |cons x K=>
   cases x with
   |inBlock i=>
    cases hk with|inBlock _ _ _ _ _ κ hk=>exact ihn _ _ h sv _ _ κ a w hk hR
   |inScope=>
    cases hk with|inScope _ _ _ _ κ hk=>exact ihn _ _ h sv _ _ κ a w hk hR
   |inLoop I=>
    cases hk with|inLoop _ J _ _ _ _ κ hJ hk=>exact hJ s a w D hD h hR
   |frame d res=>
    cases hk with
    |frame _ _ fn sa _ sv _ rd κ R hr hRR hk=>
     rw[Ys6]at h
     cases hv:Yaw s res with
     |none=>rw[hv]at h;exact h.elim
     |some x=>
      obtain⟨p,vs⟩:=x
      rw[hv]at h
      cases hs:s.saved with
      |nil=>rw[hs]at h;exact h.elim
      |cons fr sv'=>
       rw[hs]at h
       obtain⟨ms,hms⟩:=Yjz hR
       refine YeB ms hms hR fun w' hR'=>?_
       obtain⟨bs,hf,hsv,hH,hb,hoth⟩:=id hR'
       obtain⟨v,h1,h2⟩:=Yfe (P:=P) hf hH hr hv h.1
       refine⟨v,h1,hRR v w' (ihn _ _ h.2 sv _ _ κ _ w' hk (D:=D) (hD:=hD) ?_)⟩
       obtain⟨bs2,k1,k2,k3,k4,k5⟩:=Yil hs hR'
       rw[hs]at hsv
       cases hsv with
       |cons _ _ _ _ g1 g2=>
        have hp:=Yil hs hR'
        refine⟨bs,Yhf (s:={ fr:=fr,saved:=sv',hp:=s.hp}) (a:=sa) g1 h2,?_,?_,hb,?_⟩
        ·rw[YeL];exact g2
        ·rw[Ydd];exact hH
        ·rw[YHH,YbB]
         exact hoth.pop
   |rfrm res l ps va vb j=>
    cases hk with
    |rfrm _ _ q lp _ _ _ fn sa _ sv ks rd κ hr _ hps htm hva hvb hj hk=>
     rw[YxK]at h
     cases hv:Yaw s res with
     |none=>rw[hv]at h;exact h.elim
     |some x=>
      obtain⟨p,vs⟩:=x
      rw[hv]at h
      cases hs:s.saved with
      |nil=>rw[hs]at h;exact h.elim
      |cons fr sv'=>
       rw[hs]at h
       obtain⟨hp,h⟩:=h
       obtain⟨ms,hms⟩:=Yjz hR
       refine YeB ms hms hR fun w' hR'=>?_
       obtain⟨bs,hf,hsv,hH,hb,hoth⟩:=id hR'
       obtain⟨v,h1,h2⟩:=Yfe (P:=P) hf hH hr hv hp
       have hat:=Ya5 hR'
       cases hj with
       |none=>
        refine⟨v,h1,none,_,run_endLoop hat (by simp [Rec.at]),?_⟩
        exact ihn _ _ h sv _ _ κ sa _ hk (Ylp (Ydg (Yil hs hR')))
       |some c vc hc=>
        refine⟨v,h1,some c,_,run_endLoop hat (by simp [Rec.at]),?_⟩
        exact ihn _ _ h sv _ _ _ sa _ (.code c vc K sv ks rd κ hc hk) (Ylp (Ydg (Yil hs hR')))
   |rbeg=>
    cases hk with
    |rbeg l q _ _ ks κ hk=>
     exact⟨_,run_beginRound (Ya5 hR) rfl,ihn _ _ h sv _ _ κ a _ hk (Ydg hR)⟩
   |rend d=>
    cases hk with
    |rend _ l q ita _ sv ks κ R hRR hk=>
     rw[YxJ]at h
     cases hs:s.saved with
     |nil=>rw[hs]at h;exact h.elim
     |cons fr sv'=>
      rw[hs]at h
      refine⟨_,_,run_endRound none (Ya5 hR),hRR _ _ (ihn _ _ h sv _ _ κ _ _ hk (D:=D) (hD:=hD) ?_)⟩
      exact Yde (Yil hs (Ydg (lp':=q.at .ready none) hR)) d fun _ _ _=> .x _ _ (.bool _)
   |dops l=>cases hk
   |dtr t=>cases hk
   |res g al d c=>cases hk
   |ops l=>
    cases hk with
    |ops all rest _ _ _ _ _ κ hl hk=>
    show wpListIn (Wd rd) 0 P all κ rest a w
    cases l with
    |nil=>rw[Ypw hl];exact ihn _ _ h sv _ _ κ a w hk hR
    |cons v l=>
     obtain⟨o,r,rfl,hvo,hlr⟩:=Ymx hl
     obtain⟨ops,h1,h2,h3,h4,h5⟩:=YtM hvo
     obtain⟨dst,g,op,xs⟩:=v
     simp only at h1 h2 h3 h4 h5
     subst h4
     have hnd:=Y8 h1
     have hx:∀bs,GlW P w bs (w0.wI D hD).bd->RepL w bs (w0.wI D hD).bd s.fr a.tmps.toList->RepL w bs (w0.wI D hD).bd (s.args xs) (ops.map a.eval):=fun bs hg hf=>Yu9 hg hf h2
     rcases h5 with⟨hg,rfl⟩ | ⟨j,pol,gs,hg,hsl,rfl⟩
     ·rw[r_op]at h
      exact YeV (by simp [Region.wanted,hg]) (YnY hE hS ih h1 h3 hlr hx h hk hR)
     ·rw[YFe]at h
      have hKr:KRel P w0 (bodyPostM (Wd none) 0 P fn0 R0) (.ops l::K) sv ks rd (Exit.then (wpListIn (Wd rd) 0 P all κ r) κ):= .ops all r l K sv ks rd κ hlr hk
      cases hgd:Yah (getL s.fr gs) pol with
      |none=>rw[hgd]at h;exact h.elim
      |some gb=>
       rw[hgd,r_g]at h
       obtain⟨bs,hf,hsv,hH,hb,hoth⟩:=id hR
       have hw:=Yje (w:=w) hf hg hsl hgd
       have hB:w0.heap.size<=w.heap.size:=hb.size
       cases hq:op.quiet with
       |true=>
        rw[hq]at h
        simp only[gK]at h
        cases he:eff s.hp (lenH s.hp) op (YR op gb (s.args xs)).2 with
        |none=>
         rw[he]at h
         obtain⟨rfl,v,hrun⟩:=h
         exact YdM hw (ihn _ _ hrun sv _ _ _ _ _ hKr (Yde hR o.dst fun _ _ _=> .optF _))
        |some e=>
         rw[he]at h
         obtain⟨q,val,u⟩:=e
         cases u <;> try exact h.elim
         obtain⟨hp1,hp2,hrun⟩:=h
         cases gb with
         |true=>
          obtain⟨r',v,w',bs',hrn,hr,k1,k2,k3,k4,k5⟩:=Ylz (ρ:=a.eval) h1 he (hp2 rfl) (Ycl rfl (hx bs (Yar hS hb hH) hf) hp1) (fun _=>rfl) (fun _=>rfl) hH hB
          refine YeV hw (Ya6 hnd (hrn o.dst o.type o.pos o.after o.guard) hr ?_)
          refine ihn _ _ hrun sv _ _ _ _ _ hKr (D:=D) (hD:=hD) ?_
          exact Yfg (e:=⟨q,.opt true val,.no⟩) (op:=o.op) hf hsv hb hoth (.optT _ _ k1) k2 k3 k4 k5 o.dst
         |false=>
          exact YdM hw (ihn _ _ hrun sv _ _ _ _ _ hKr (Yde hR o.dst fun _ _ _=> .optF _))
       |false=>
        rw[hq]at h
        simp only[gK,Yrl]at h
        cases hct:ctOf E op (YR op gb (s.args xs)).2 with
        |none=>
         rw[hct]at h
         obtain⟨hp1,ht,hfl⟩:=h
         cases gb with
         |true=>exact YeV hw (YnY hE hS ih h1 h3 hlr (fun bs hg hf=>Ycl rfl (hx bs hg hf) hp1) (ht rfl) hk hR)
         |false=>exact YdM hw (ihn _ _ (hfl rfl) sv _ _ _ _ _ hKr (Yde hR o.dst fun _ _ _=> .x _ _ (.junk _)))
        |some c=>
         rw[hct]at h
         obtain⟨c,ys⟩:=c
         obtain⟨hp1,hno,hrun⟩:=h
         obtain⟨m,rr,hm,hrun',hcs⟩:=Yf9 n hrun
         cases gb with
         |false=>exact YdM hw (ih m (by omega) _ _ hrun' sv _ _ _ _ _ hKr (Yde hR o.dst fun _ _ _=> .optF _))
         |true=>
          obtain⟨f,hcl,hct',hic⟩:=Ynl hct
          obtain⟨hok,hen⟩:=hE.ct f c hct'
          obtain⟨vs,hys,hrn⟩:=YdX hE.meth h1 (h3 hic) hcl (Ycl rfl (hx bs (Yar hS hb hH) hf) hp1) (fun _=>rfl) hen
          refine YeV hw (Yax hnd hrn ?_)
          obtain⟨z,hzw,hzI,hargs2,hal,hzF⟩:=Yco c.alias hH.v hB 3 hys hno
          subst hzw
          refine(hok _ vs z _ ⟨fun b K hb=>(hH.reg b K (by rw[hzI]at hb;exact hb)).2,YeO (Yar (hJ:=hD) hS hb hH) rfl hzF⟩ hargs2 (hcs rfl)).mono ?_
          rintro e w' ⟨r',hs,v,bs2,D2,hD2,⟨rfl,rfl⟩,rfl,k1,k2,k3,k4⟩
          obtain⟨hD3,hcr⟩:=Ydo (w0:=w0) (J1:=D) (hJ1:=hD) (hJ:=hD2) (d:=o.dst) hzI hf hsv hH hb hoth k1 k2 k3 k4 hal
          have hcr:=hcr (.opt true (shift (lenH s.hp) r')) fun _ h=> .optT _ _ h
          refine ih m (by omega) _ _ hrun' sv _ _ _ _ _ hKr (D:=D2) (hD:=hD3) ?_
          have e0:({ fr:=s.fr,saved:=s.saved,hp:=s.hp++YS (lenH s.hp) []}:S)=s:=by simp [YS]
          rw[e0]at hcr
          exact hcr
   |code c=>
    cases hk with
    |code cc _ _ _ _ _ κ hcode hk=>
    show cc.wpIn (Wd rd) 0 P κ a w
    cases cc <;> simp only[Ycm,reduceCtorEq]at hcode <;> try (cases hcode;exact h.elim)
    case skip=>cases hcode;exact wpIn_skip (ihn _ _ h sv _ _ κ a w hk hR)
    case region id ops draw=>
     cases draw with
     |true=>
      simp only[if_true]at hcode
      unfold YDH at hcode
      cases hd:Ynt P ops with
      |none=>
       rw[hd]at hcode
       simp only at hcode
       cases hdt:YiU P ops with
       |none=>rw[hdt]at hcode;cases hcode;exact h.elim
       |some r=>
        obtain⟨al,t⟩:=r
        rw[hdt]at hcode
        cases hcode
        exact Yl0 hE hE.mix hdt (YiV (N:=n) (K0:=K) t n (YHr _) (Yib hk) h) (Yst hE hS ih hk) (fun v A s hg=>Yss hE hg) hR fun s' a' w' D' hD' ⟨m,hm,hrun⟩ hR'=>ih m (by omega) _ _ hrun sv _ _ κ a' w' hk hR'
      |some r=>
      obtain⟨al,dl⟩:=r
      rw[hd]at hcode
      cases hcode
      exact Yo0 hE hE.mix hd (YiT (N:=n) (K0:=K) dl n (YHr _) (Yib hk) h) (Yst hE hS ih hk) (fun v A s hg=>Yss hE hg) hR fun s' a' w' D' hD' ⟨m,hm,hrun⟩ hR'=>ih m (by omega) _ _ hrun sv _ _ κ a' w' hk hR'
     |false=>
      simp only[YHG,if_false]at hcode
      cases hl:YaI P ops ops.toList with
      |none=>rw[hl]at hcode;cases hcode;exact h.elim
      |some l=>
      rw[hl]at hcode
      cases hcode
      exact wpIn_region_list (ihn _ _ h sv _ _ _ a w (.ops ops ops.toList l K sv ks rd κ hl hk) hR)
    case seq x y=>
     obtain⟨vx,hx,hcode⟩:=YHl.1 hcode
     obtain⟨vy,hy,rfl⟩:=YHm.1 hcode
     exact wpIn_seq (ihn _ _ h sv _ _ _ a w (.code x vx _ sv ks rd _ hx (.code y vy K sv ks rd κ hy hk)) hR)
    case cond cnd x y=>
     obtain⟨z,hz,hcode⟩:=YHl.1 hcode
     obtain⟨vx,hx,hcode⟩:=YHl.1 hcode
     obtain⟨vy,hy,rfl⟩:=YHm.1 hcode
     rw[YxH]at h
     obtain⟨bs,hf,hsv,hH,hb,hoth⟩:=id hR
     have hrep:=X_of (w:=w) (Yar (hJ:=hD) hS hb hH) hf hz
     generalize s.x z=v at h hrep
     cases v <;> try exact h.elim
     rename_i b
     have hb1:=hrep.bool_inv
     obtain⟨ht,hfl⟩:=h
     refine wpIn_cond_split hb1 (fun hb=>ihn _ _ (ht hb) sv _ _ _ a w (.code x vx K sv ks rd κ hx hk) hR) (fun hb=>ihn _ _ (hfl hb) sv _ _ _ a w (.code y vy K sv ks rd κ hy hk) hR)
    case block id c=>
     obtain⟨vc,hc,rfl⟩:=YHm.1 hcode
     exact wpIn_block (ihn _ _ h sv _ _ _ a w (.code c vc _ sv ks rd _ hc (.inBlock id K sv ks rd κ hk)) hR)
    case scope c=>
     obtain⟨vc,hc,rfl⟩:=YHm.1 hcode
     exact Ypy (ihn _ _ h sv _ _ _ a w (.code c vc _ sv ks rd _ hc (.inScope K sv ks rd κ hk)) hR)
    case label l=>cases hcode;exact wpIn_label (ihn _ _ h sv _ _ κ a w hk hR)
    case loop c=>
     obtain⟨vc,hc,rfl⟩:=YHm.1 hcode
     obtain⟨σ,head,inv,μ,lf,hlf,⟨x0,hx0,hle0⟩,hround⟩:=h
     obtain⟨D0,hD0,hR0'⟩:=Yxq (hlf _ _ hle0) hR
     refine wpIn_loop_ghost (fun k a w=> ∃x D,∃hD:Ext w0 D,μ x=k/\inv x/\Rl ⟨w0.wI D hD,ks⟩ (head x) a sv w) (μ x0) ⟨x0,D0,hD0,rfl,hx0,hR0'⟩ ?_
     rintro k a w ⟨x,D,hD,rfl,hx,hRx⟩
     exact ihn _ _ (hround x hx) sv _ _ _ a w (.code c vc _ sv ks rd _ hc (.inLoop _ _ K sv ks rd κ (by
      rintro s' a' w' D' hD' ⟨y,hy,hlt,hle⟩ hR'
      obtain⟨D1,hD1,hR1⟩:=Yxq (hlf _ _ hle) hR'
      exact⟨μ y,hlt,y,D1,hD1,rfl,hy,hR1⟩) hk)) hRx
    case exit id=>
     cases hcode
     rw[YxI]at h
     cases hp:YbA id K with
     |no=>rw[hp]at h;exact h.elim
     |go K'=>
      rw[hp]at h
      obtain⟨κ',h1,h2⟩:=YdA hp hk
      exact wpIn_exit (h2 _ _ (ihn _ _ h sv _ _ κ' a w h1 hR))
     |jump d K'=>
      rw[hp]at h
      exact wpIn_exit (hjump h (Ybs hp hk))
    case ret=>
     cases hcode
     rw[YFj]at h
     cases hp:Yak K with
     |no=>rw[hp]at h;exact h.elim
     |go K'=>
      rw[hp]at h
      obtain⟨κ',h1,h2⟩:=Ycc hp hk
      exact wpIn_ret (h2 _ _ (ihn _ _ h sv _ _ κ' a w h1 hR))
     |jump d K'=>
      rw[hp]at h
      exact wpIn_ret (hjump h (YaO hp hk))
    case rangeFunc g ps ca cb=>
     obtain⟨z,hz,hcode⟩:=YHl.1 hcode
     obtain⟨va,hva,hcode⟩:=YHl.1 hcode
     obtain⟨vb,hvb,rfl⟩:=YHm.1 hcode
     rw[Ys9]at h
     obtain⟨bs,hf,hsv,hH,hb,hoth⟩:=id hR
     have hrep:=X_of (w:=w) (Yar (hJ:=hD) hS hb hH) hf hz
     generalize s.x z=v at h hrep
     unfold Yn7 at h
     split at h
     ·rename_i gf us cs
      unfold Yn6 at h
      cases hfn:E.fn gf with
      |none=>rw[hfn]at h;exact h.elim
      |some vf=>
       rw[hfn]at h
       obtain⟨hnr,h⟩:=h
       have hrd:=YaN hnr hk
       subst hrd
       obtain⟨fn,hfs,hvf,hen⟩:=hE.fn gf vf hfn
       obtain⟨c,hbody,hcode,hres',hnt⟩:=Ydl hvf
       obtain⟨uv,cv,hgv,g1,g2⟩:=hrep.fn_inv
       refine wpIn_rangeFunc fun fr _=>?_
       have hB:w0.heap.size<=w.heap.size:=hb.size
       obtain⟨q,hq⟩:∃q:Rec,q= { fn:=fr,ps:=ps.toList,ca:=ca,cb:=cb,D:=w.heap.size,tmps:=a.tmps}:=⟨_,rfl⟩
       obtain⟨W1,hW1⟩:∃W1,W1=(w.alloc (.deferred (some []))).alloc (.loop (q.at .ready none)):=⟨_,rfl⟩
       have hent:(Instr.enterLoop fr a.tmps ps ca cb (Wd none).round).run P w= .ok (w.heap.size+1,[mark w.heap.size]) W1:=by
        rw[hW1,hq]
        exact run_enterLoop_outer _ _ _ _ _
       refine⟨w.heap.size+1,[mark w.heap.size],W1,{ target:= .fn (.func gf) cv.toArray,args:=uv.toArray++ #[.func (.yield (w.heap.size+1)) #[] #[]]},W1,gf,(uv++(.func (.yield (w.heap.size+1)) #[] #[]::cv)).toArray,W1,
        hent,?_,fun _ _=>trivial,?_,fun h=>(by cases h),?_⟩
       ·simp only[resolve,hgv,Deferred.ofValue,Sem.run_bind,Sem.run_pure,Result.andThen_ok]
        simp [Act.eval]
       ·simp only[invoke,YbO hen]
        simp
       ·refine Yez (b:=vf.body) hfs hbody ?_
        refine ihn _ _ (h (w.heap.size+1)) ({ a with defers:=[mark w.heap.size]++a.defers}::sv) _ _ _ { tmps:=_,defers:=[]} _ (.code c vf.body _ _ _ _ _ hcode (.rfrm vf.res _ q (q.at .ready none) va vb none fn _ _ _ _ _ _ hres' ps.toList (by rw[hq]) (by rw[hq]) (by rw[hq];exact hva) (by rw[hq];exact hvb) .none hk)) (D:=D) (hD:=hD) ?_
        rw[hW1]
        refine Ywu hf hsv hH hb hoth ?_
        have hy:Rep w bs (w0.wI D hD).bd (.fn (.yield (w.heap.size+1)) [] []) (.func (.yield (w.heap.size+1)) #[] #[]):= .x _ _ (.fn _ [] [] [] [] .nil .nil)
        have:=Yfb (n:=fn.ntmps) (g1.append (.cons _ _ _ _ hy g2))
        rw[hnt]
        simpa using this
     ·exact h.elim
 exact fun n=>main n n (YHr _)
end
end Go.Vx
namespace Go.Vx
open Go.RowKit
section
variable {P:Program} {E:Env}
def Yz(al:Bool)(k:SV->List HO->Prop)(r:SV)(hp:List HO):Prop:=
 ∃r',k r' []/\le 0 0 (expo hp r) r'/\(al=false->Yt r')
theorem Yrz:Cut [] [] 0 0:=⟨rfl,rfl,fun _ _ h=>absurd h (YIf _),fun _ _ h=>absurd h (YIf _)⟩
theorem XRepL.up{w:World}{bs:List BK}{B:Bd}{l:List SV}{vs:List Value}(h:XRepL w bs B l vs):RepL w bs B l vs:=h.rep
theorem Yb{f:FuncId}{fn:Func}{vf:VF}(hf:P.funcs[f]? =some fn)(hvf:Ye P fn=some vf)(hE:Yn P E)(n:Nat)(c:Ctr)
 (h:∀(args:List SV) (k:SV->List HO->Prop),CSat (c.of args) k->∃args',leL 0 0 args args'/\run E (Yz c.alias k) vf.res n [.code vf.body] { fr:=padL vf.ntmps args',saved:=[],hp:=[]}):c.ok P f:=by
 intro args vs z k hsat hx hc
 obtain⟨args',hle,hrun⟩:=h args k hc
 have hk0:YbZ z.toWorld [] z.bd z.toWorld [] (z.wI z.I (Yam z)).bd:=⟨rfl,fun _ _ h=>h,fun b hf cs T fz ho=>⟨ho,YbL,hf.2,z.ex b hf.2⟩⟩
 have hx2:RepL z.toWorld [] (z.wI z.I (Yam z)).bd args' vs:=Yfr Yrz _ _ hle (XRepL.keepG hk0 hx).rep
 obtain⟨body,hbody,hcode,hres,hnt⟩:=Ydl hvf
 refine Ycp (n:=0) (Yez (b:=vf.body) hf hbody ?_)
 refine Ylq (w0:={ z with kz:=[]}) (fn0:=fn) (R0:=fun e w'=> ∃r hs v bs,∃J,∃hJ:Ext z J,k r hs/\e= .returned v/\Rep w' bs (z.wI J hJ).bd r v/\Hp w' bs (z.wI J hJ).bd hs/\BelowI z.bd z.toWorld w'/\(c.alias=false->Yt r/\YdQ hs)) hE hsat.2 hres (by
  rintro r hp v w' bs D hD ⟨r',hk,hle,hfr⟩ hr hH hb
  refine⟨r',[],v,[],D,⟨hD.old,hD.sub⟩,hk,rfl,YD5 Yrz _ _ hle (.x _ _ (Yzs hH hr)),hp0 fun b K hb=>(hH.reg b K hb).2,hb,fun ha=>⟨hfr ha,trivial⟩⟩) n _ _ hrun [] [] none _
  {tmps:=vs.toArray++Array.replicate (fn.ntmps-vs.toArray.size) undef,defers:=[]} z.toWorld (.code body vf.body [] [] [] none _ hcode .nil) (D:=z.I) (hD:=Yam _) ?_
 refine⟨[],?_,.nil,hp0 (hJ:=Yam z) hsat.1,BelowI.refl _ _,⟨fun _ h=>(by cases h),.nil,[[]],rfl,by simp,fun _ h=>(by simp at h)⟩⟩
 have:=Yfb (n:=fn.ntmps) hx2
 rw[hnt]
 have h2:RepL z.toWorld [] (z.wI z.I (Yam z)).bd (padL fn.ntmps args') (vs.toArray++Array.replicate (fn.ntmps-vs.toArray.size) undef).toList:=by simpa using this
 exact h2
def YwV:List VOp->List Nat
 | []=>[]
 | ⟨some d,_,_,_⟩::l=>d::YwV l
 | ⟨none,_,_,_⟩::l=>YwV l
def wrAl:List (Nat×AL)->List Nat
 | []=>[]
 | (d,_)::l=>d::wrAl l
def YlC:List DOp->List Nat
 | []=>[]
 | ⟨⟨some d,_,_,_⟩,_⟩::l=>d::YlC l
 | ⟨⟨none,_,_,_⟩,_⟩::l=>YlC l
def YtO:DTr->List Nat
 | .leaf=>[]
 | .ops l t=>YlC l++YtO t
 | .br a b=>YtO a++YtO b
def wrC:VC->List Nat
 | .region l=>YwV l
 | .draw al l=>wrAl al++YlC l
 | .drawT al t=>wrAl al++YtO t
 | .seq a b=>wrC a++wrC b
 | .cond _ a b=>wrC a++wrC b
 | .block _ c=>wrC c
 | .loop c=>wrC c
 |_=>[]
def junkAt:List SV->List Nat->List SV
 |fr,[]=>fr
 |fr,n::l=>junkAt (setL fr n .junk) l
def Ylj:List SV->List (Nat×SV)->List SV
 |fr,[]=>fr
 |fr,(n,v)::l=>Ylj (setL fr n v) l
def Ys3:List HO->List (Nat×HO)->List HO
 |hp,[]=>hp
 |hp,(n,v)::l=>Ys3 (setH hp n v) l
def YkN(s:S)(body:VC)(ghosts:List HO)(Yab:List (Nat×SV))(blocks:List (Nat×HO)):S:=
 {fr:=Ylj (junkAt s.fr (wrC body)) Yab,saved:=s.saved,hp:=Ys3 (s.hp++ghosts) blocks}
theorem Loop.at{r:List It->S->Prop}{body:VC}{K:List It}{s:S}(σ:Type)(Yab:σ->List (Nat×SV))(blocks:σ->List (Nat×HO))(ghosts:List HO)(inv:σ->Prop)(μ:σ->Nat)
 (h0:∃x,inv x/\leS s (YkN s body ghosts (Yab x) (blocks x)))
 (h:∀x,inv x->r (.code body:: .inLoop (fun s'=> ∃y,inv y/\μ y<μ x/\leS s' (YkN s body ghosts (Yab y) (blocks y)))::K) (YkN s body ghosts (Yab x) (blocks x))):Loop r body K s leP:=
 ⟨σ,fun x=>YkN s body ghosts (Yab x) (blocks x),inv,μ,leS,fun _ _ h=>⟨[],trivial,[],trivial,h⟩,h0,h⟩
def keepG:List Nat->List SV->List SV
 | [],l=>Yr5 l
 |_,[]=>[]
 |0::ks,x::l=>x::keepG ks l
 | (k+1)::ks,_::l=> .junk::keepG (k::ks) l
def Ye5(s:S)(keep:List Nat)(ghosts:List HO)(Yab:List (Nat×SV))(blocks:List (Nat×HO)):S:=
 {fr:=Ylj (keepG keep s.fr) Yab,saved:=s.saved,hp:=Ys3 (s.hp++ghosts) blocks}
theorem Loop.keep{r:List It->S->Prop}{body:VC}{K:List It}{s:S}(keep:List Nat)(σ:Type)(Yab:σ->List (Nat×SV))(blocks:σ->List (Nat×HO))(ghosts:List HO)(inv:σ->Prop)(μ:σ->Nat)
 (h0:∃x,inv x/\leS s (Ye5 s keep ghosts (Yab x) (blocks x)))
 (h:∀x,inv x->r (.code body:: .inLoop (fun s'=> ∃y,inv y/\μ y<μ x/\leS s' (Ye5 s keep ghosts (Yab y) (blocks y)))::K) (Ye5 s keep ghosts (Yab x) (blocks x))):Loop r body K s leP:=
 ⟨σ,fun x=>Ye5 s keep ghosts (Yab x) (blocks x),inv,μ,leS,fun _ _ h=>⟨[],trivial,[],trivial,h⟩,h0,h⟩
end
end Go.Vx
namespace Go.Vx
variable {al:Bool} {k:SV->List HO->Prop} {hp:List HO} {m n:Nat}
theorem Yj{κ:IntKind}{x:Int}(h:k (.int κ x) []):Yz al k (.int κ x) hp:=⟨_,h,by simp [expo,view,le],fun _=>by simp [Yt]⟩
theorem Yi{b:Bool}(h:k (.bool b) []):Yz al k (.bool b) hp:=⟨_,h,by simp [expo,view,le],fun _=>by simp [Yt]⟩
theorem YE{x r':SV}(h:k r' [])(hl:le 0 0 (expo hp x) r')(hf:al=false->Yt r'):Yz al k x hp:=⟨_,h,hl,hf⟩
theorem YzY{x:SV}:le m n x .junk=True:=by cases x <;> simp [le]
theorem Yxr{κ κ':IntKind}{x y:Int}:le m n (.int κ x) (.int κ' y)=(κ=κ'/\x=y):=by simp [le]
theorem YzV{x y:Bool}:le m n (.bool x) (.bool y)=(x=y):=by simp [le]
theorem YD4:le m n .nil .nil=True:=by simp [le,bnd]
theorem YD3{a b:List SV}:le m n (.agg a) (.agg b)=leL m n a b:=by simp [le]
theorem Yxs{a b:List SV}:le m n (.tup a) (.tup b)=leL m n a b:=by simp [le]
theorem YEc{t t' z z':Bool}{l l' sz sz':Nat}{g g':Nat->List SV}:le m n (.vs t z l sz g) (.vs t' z' l' sz' g')=((t'=true->t=true)/\z=z'/\l=l'/\sz=sz'/\∀k,k<l->leXL (g k) (g' k)):=by simp [le]
theorem YD8{i o i' o':Nat}:le m n (.ptr i o) (.ptr i' o')=(i=i'/\o=o'/\i'<n):=by simp [le,bnd,and_assoc]
theorem YD7{i lo l sz i' lo' l' sz':Nat}:le m n (.own i lo l sz) (.own i' lo' l' sz')=(i=i'/\lo=lo'/\l=l'/\sz=sz'/\i<n):=by simp [le]
theorem le_xp{t t':Bool}{c c':List SV}:le m n (.xp t c) (.xp t' c')=((t'=true->t=true)/\leXL c c'):=by simp [le]
theorem YgS{f f':Fn}{a b a' b':List SV}:le m n (.fn f a b) (.fn f' a' b')=(f=f'/\a=a'/\b=b'/\bndL n a'/\bndL n b'):=by simp [le,bnd,and_assoc]
theorem YD6{b b':Bool}{x y:SV}:le m n (.opt b x) (.opt b' y)=(b=b'/\x=y/\bnd n y):=by simp [le,bnd,and_assoc]
theorem YEb{x y:Value}:le m n (.val x) (.val y)=(x=y):=by simp [le,bnd]
theorem YzW{i k o sz i' k' o' sz':Nat}:le m n (.elem i k o sz) (.elem i' k' o' sz')=(i=i'/\k=k'/\o=o'/\sz=sz'/\i'<n):=by simp [le,bnd,and_assoc]
theorem YzU{x:List SV}:leXL x x=True:=eq_true (Yd x)
theorem Ypb{i lo l sz:Nat}:le m n .nil (.own i lo l sz)=(m<=i/\i<n/\lo=0/\l=0):=by simp [le]
theorem Ysi{t z:Bool}{l sz:Nat}{g:Nat->List SV}:le m n .nil (.vs t z l sz g)=(z=true/\l=0):=by simp [le]
theorem Ysc{z:Bool}{sz l:Nat}{g:Nat->List SV}{r:List HO}:leH m n [] (.own z sz l g::r)=(z=true/\l=0/\leH m n [] r):=rfl
theorem YvX:lenH []=0:=rfl
theorem Ysl{x:HO}{a:List HO}:lenH (x::a)=lenH a+1:=rfl
theorem Ysg:leL m n [] []=True:=by simp [leL]
theorem YnO{x y:SV}{a b:List SV}:leL m n (x::a) (y::b)=(le m n x y/\leL m n a b):=by simp [leL]
theorem YvU:leLL m n [] []=True:=by simp [leLL]
theorem Ysd{x y:List SV}{a b:List (List SV)}:leLL m n (x::a) (y::b)=(leL m n x y/\leLL m n a b):=by simp [leLL]
theorem YzT{h:List HO}:leH m n h []=True:=by cases h <;> simp [leH]
theorem YvS{a b:List SV}:leH1 m n (.box a) (.box b)=leL m n a b:=by simp [leH1]
theorem YD9{a:Nat}{C:Nat->Int->Prop}:le m n (.row a C) (.row a C)=True:=eq_true ⟨rfl,trivial⟩
theorem YvW{C:Int->Prop}:le m n (.rcell C) (.rcell C)=True:=eq_true ⟨rfl,trivial⟩
theorem YzX{kk:List IntKind}{C:List Int->Int->Prop}:le m n (.imap kk C) (.imap kk C)=True:=eq_true ⟨rfl,trivial⟩
theorem YEa{i:Nat}:le m n (.smp i) (.smp i)=(i<n):=propext ⟨fun h=>h.2,fun h=>⟨rfl,h⟩⟩
theorem Yy9{a:Nat}{C:Nat->Int->Prop}:bnd n (.row a C)=True:=rfl
theorem Yri{C:Int->Prop}:bnd n (.rcell C)=True:=rfl
theorem Yvl{kk:List IntKind}{C:List Int->Int->Prop}:bnd n (.imap kk C)=True:=rfl
theorem Yza{i:Nat}:bnd n (.smp i)=(i<n):=rfl
theorem Ysb{l l':List (List UInt8)}:leH1 m n (.smap l) (.smap l')=(l=l'):=rfl
theorem Ysa:leH1 m n .gone .gone=True:=by simp [leH1]
theorem YvT{z z':Bool}{sz sz' l l':Nat}{g g':Nat->List SV}:leH1 m n (.own z sz l g) (.own z' sz' l' g')=(z=z'/\sz=sz'/\l=l'/\∀k,k<l->leL m n (g k) (g' k)):=by simp [leH1]
theorem YDZ{fr fr':List SV}{sv sv':List (List SV)}{h h':List HO}:leS ⟨fr,sv,h⟩ ⟨fr',sv',h'⟩=(leL (lenH h) (lenH h') fr fr'/\leLL (lenH h) (lenH h') sv sv'/\leH (lenH h) (lenH h') h h'):=rfl
theorem Yy4{k:IntKind}{x:Int}:bnd n (.int k x)=True:=rfl
theorem Yvj{b:Bool}:bnd n (.bool b)=True:=rfl
theorem Yzc{v:Value}:bnd n (.val v)=True:=rfl
theorem Yy5:bnd n .nil=True:=rfl
theorem Yvm:bnd n .junk=True:=rfl
theorem YDt{t z:Bool}{l sz:Nat}{g:Nat->List SV}:bnd n (.vs t z l sz g)=True:=rfl
theorem YDu{t:Bool}{c:List SV}:bnd n (.xp t c)=True:=rfl
theorem Yy3{c:List SV}:bnd n (.agg c)=bndL n c:=rfl
theorem Yzb{c:List SV}:bnd n (.tup c)=bndL n c:=rfl
theorem Yy8{i o:Nat}:bnd n (.ptr i o)=(i<n):=rfl
theorem Yy7{i a b c:Nat}:bnd n (.own i a b c)=(i<n):=rfl
theorem Yvk{i a b c:Nat}:bnd n (.elem i a b c)=(i<n):=rfl
theorem YDs{f:Fn}{a b:List SV}:bnd n (.fn f a b)=(bndL n a/\bndL n b):=rfl
theorem Yrh{t:TypeId}{v:SV}:bnd n (.iface t v)=bnd n v:=rfl
theorem Yy6{b:Bool}{v:SV}:bnd n (.opt b v)=bnd n v:=rfl
theorem Yvi:bndL n []=True:=rfl
theorem Yrg{x:SV}{l:List SV}:bndL n (x::l)=(bnd n x/\bndL n l):=rfl
mutual
theorem YC:∀(x:SV),bnd n x->le m n x x
 | .int _ _,_=>⟨rfl,rfl⟩
 | .bool _,_=>rfl
 | .val _,h=>⟨rfl,h⟩
 | .nil,h=>⟨rfl,h⟩
 | .agg cs,h=>Yx cs h
 | .tup cs,h=>Yx cs h
 | .vs _ _ _ _ get,_=>⟨id,rfl,rfl,rfl,fun k _=>Yd (get k)⟩
 | .xp _ cs,_=>⟨id,Yd cs⟩
 | .ptr _ _,h=>⟨rfl,h⟩
 | .own _ _ _ _,h=>⟨rfl,rfl,rfl,rfl,h⟩
 | .elem _ _ _ _,h=>⟨rfl,h⟩
 | .fn _ _ _,h=>⟨rfl,h⟩
 | .iface _ _,h=>⟨rfl,h⟩
 | .opt _ _,h=>⟨rfl,h⟩
 | .cut _,h=>⟨rfl,h⟩
 | .row _ _,h=>⟨rfl,h⟩
 | .rcell _,h=>⟨rfl,h⟩
 | .imap _ _,h=>⟨rfl,h⟩
 | .smp _,h=>⟨rfl,h⟩
 | .junk,_=>trivial
theorem Yx:∀(x:List SV),bndL n x->leL m n x x
 | [],_=>trivial
 |x::l,h=>⟨YC x h.1,Yx l h.2⟩
end
mutual
theorem YD1:∀(x y:SV),leX x y->bnd n y->le m n x y
 | .agg cs,y,h,hb=>by
   cases y with
   |agg ds=>exact YgR cs ds h hb
   |junk=>trivial
   |_=>cases h
 | .tup cs,y,h,hb=>by
   cases y with
   |tup ds=>exact YgR cs ds h hb
   |junk=>trivial
   |_=>cases h
 | .int _ _,y,h,hb=>by cases y <;> first|trivial|exact h|cases h
 | .bool _,y,h,hb=>by cases y <;> first|trivial|exact h|cases h
 | .val _,y,h,hb=>by cases y <;> first|trivial| (cases h;done) | (cases h;exact⟨rfl,hb⟩)
 | .nil,y,h,hb=>by cases y <;> first|trivial|exact h| (cases h;done) | (cases h;exact⟨rfl,hb⟩)
 | .vs _ _ _ _ _,y,h,hb=>by cases y <;> first|trivial|exact h|cases h
 | .xp _ _,y,h,hb=>by cases y <;> first|trivial|exact h|cases h
 | .ptr _ _,y,h,hb=>by cases y <;> first|trivial| (cases h;done) | (cases h;exact⟨rfl,hb⟩)
 | .own _ _ _ _,y,h,hb=>by cases y <;> first|trivial| (cases h;done) | (cases h;exact⟨rfl,rfl,rfl,rfl,hb⟩)
 | .elem _ _ _ _,y,h,hb=>by cases y <;> first|trivial| (cases h;done) | (cases h;exact⟨rfl,hb⟩)
 | .fn _ _ _,y,h,hb=>by cases y <;> first|trivial| (cases h;done) | (cases h;exact⟨rfl,hb⟩)
 | .iface _ _,y,h,hb=>by cases y <;> first|trivial| (cases h;done) | (cases h;exact⟨rfl,hb⟩)
 | .opt _ _,y,h,hb=>by cases y <;> first|trivial| (cases h;done) | (cases h;exact⟨rfl,hb⟩)
 | .cut _,y,h,hb=>by cases y <;> first|trivial| (cases h;done) | (cases h;exact⟨rfl,hb⟩)
 | .row _ _,y,h,hb=>by cases y <;> first|trivial| (cases h;done) | (cases h;exact⟨rfl,hb⟩)
 | .rcell _,y,h,hb=>by cases y <;> first|trivial| (cases h;done) | (cases h;exact⟨rfl,hb⟩)
 | .imap _ _,y,h,hb=>by cases y <;> first|trivial| (cases h;done) | (cases h;exact⟨rfl,hb⟩)
 | .smp _,y,h,hb=>by cases y <;> first|trivial| (cases h;done) | (cases h;exact⟨rfl,hb⟩)
 | .junk,y,h,hb=>by cases y <;> first|trivial| (cases h;done)
theorem YgR:∀(x y:List SV),leXL x y->bndL n y->leL m n x y
 | [],y,h,hb=>by
   cases y with
   |nil=>trivial
   |cons _ _=>exact h.elim
 |x::l,y,h,hb=>by
  cases y with
  |nil=>exact h.elim
  |cons a r=>exact⟨YD1 x a h.1 hb.1,YgR l r h.2 hb.2⟩
end
theorem Ykq:∀(k:Nat)(l:List SV),bndL n l->bndL n (YT k l)
 |0,_,_=>trivial
 |_+1,[],_=>trivial
 |k+1,_::l,h=>⟨h.1,Ykq k l h.2⟩
theorem Ykp:∀(k:Nat)(l:List SV),bndL n l->bndL n (YM k l)
 |0,_,h=>h
 |_+1,[],_=>trivial
 |k+1,_::l,h=>Ykp k l h.2
theorem Ysf{sz k:Nat}{cs:List SV}(h:bndL n cs=True):leL m n (Ybh sz cs k) (Ybh sz cs k)=True:=
 eq_true (Yx _ (Ykq _ _ (Ykp _ _ (of_eq_true h))))
theorem YBf(n:Nat):Yhr n 0=n:=rfl
theorem YlJ(k:Nat):Ybu 0 k=k:=rfl
theorem YtB(n:Nat):Yhr n (YH0 1)=n-1:=rfl
theorem YqN(k:Nat):Ybu (YH0 1) k=1+k:=rfl
end Go.Vx
