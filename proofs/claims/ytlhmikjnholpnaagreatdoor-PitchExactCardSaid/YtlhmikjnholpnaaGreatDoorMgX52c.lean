/- Operations of a region that draws its order: what exchanges. -/
import Derived.Test.YtlhmikjnholpnaaGreatDoorMgX52b
import Derived.MapKept
import Derived.WideKeyRuns
open Array renaming getElem?_eq_some_iff->Xh,length_toList->V4,replicate->WS
open Bool renaming and_eq_true->YS,false_eq_true->XD,not_eq_true'->Z6,or_eq_false_iff->JH,or_eq_true->Qt
open Int renaming toNat->Xi
open List renaming all_eq_true->Vn,append_nil->Z9,cons_append->ZH,getD_eq_getElem?_getD->Kp,getElem?_append->Wa,getElem?_append_left->XE,getElem?_cons_zero->Vo,getElem?_eq_some_iff->UG,getElem?_set->Vp,getElem?_singleton->V5,length_cons->Xr,length_map->Vq,length_nil->ZI,map_cons->KD,mem_append->KE,mem_cons->K4,mem_cons_of_mem->KH,mem_cons_self->KF,mem_map->QO,mem_singleton->JD
open Nat renaming add_zero->Kw,beq->YL,eq_of_beq_eq_true->JE,le_of_ble_eq_true->KI,le_of_eq->YB,le_refl->Yr,lt_of_lt_of_le->Qf,lt_or_ge->YV,lt_trichotomy->We,not_lt_zero->QC,pow_le_pow_right->Kl,two_pow_pos->Qv,zero_add->KL
open Option renaming bind_eq_some_iff->YC,map_eq_some_iff->YO
set_option linter.all false
namespace Go.Vx
theorem ME:∀(l:List SV)(n m:Nat)(x:SV),n≠m->Kn (Km l n x) m=Kn l m
 | [],_,_,_,_=>rfl
 |_::_,0,0,_,h=>absurd rfl h
 |_::_,0,_+1,_,_=>rfl
 |_::_,_+1,0,_,_=>rfl
 |_::l,n+1,m+1,x,h=>ME l n m x (fun e=>h (by rw[e]))
theorem Fs:∀(l:List SV)(n m:Nat)(x y:SV),n≠m->Km (Km l n x) m y=Km (Km l m y) n x
 | [],_,_,_,_,_=>rfl
 |_::_,0,0,_,_,h=>absurd rfl h
 |_::_,0,_+1,_,_,_=>rfl
 |_::_,_+1,0,_,_,_=>rfl
 |a::l,n+1,m+1,x,y,h=>congrArg (a::·) (Fs l n m x y (fun e=>h (by rw[e])))
section
variable {s:S} {d d':Option Nat} {v u:SV}
theorem FE{x:X}(h:∀n,d=some n->n∉x.slot):(s.put d v).x x=s.x x:=by
 cases d with
 |none=>rfl
 |some n=>
  cases x with
  |cn _=>rfl
  |tm m=>exact ME _ _ _ _ (fun e=>h n rfl (by simp [X.slot,e]))
theorem Ek:∀{xs:List X},(∀n,d=some n->n∉Ku xs)->(s.put d v).args xs=s.args xs
 | [],_=>rfl
 |x::l,h=>by
  simp only[S.args]
  rw[FE (fun n e hm=>h n e (by simp [Ku,hm])),Ek (fun n e hm=>h n e (by simp [Ku,hm]))]
theorem Np(h:∀n,d=some n->d'≠some n):(s.put d v).put d' u=(s.put d' u).put d v:=by
 cases d with
 |none=>cases d' <;> rfl
 |some n=>
  cases d' with
  |none=>rfl
  |some m=>simp only[S.put];rw[Fs _ _ _ _ _ (fun e=>h n rfl (by rw[e]))]
end
def FH(hp hp':List HO):Prop:=∀i,Yq hp i≠ .gone->Yq hp' i=Yq hp i
theorem Yi4{hp hp':List HO}(hg:FH hp hp'){x:SV}{r:Prop×List SV}(h:X4 hp x=some r):X4 hp' x=some r:=by
 cases x <;> simp only[X4]at h⊢ <;> try exact h
 case ptr i off=>rw[hg i (by intro e;rw[e]at h;cases h)];exact h
 case elem i k off sz=>rw[hg i (by intro e;rw[e]at h;cases h)];exact h
theorem IW{hp hp':List HO}(hg:FH hp hp'){n n':Nat}{o:VO}(hq:o.quiet=true){xs:List SV}{e:Ef}(h:eff hp n o xs=some e):eff hp' n' o xs=some e:=by
 cases o <;> simp only[VO.quiet,reduceCtorEq]at hq <;> try exact h
 case load agg size=>
  simp only[eff,VE]at h⊢
  split at h
  ·rename_i a
   obtain⟨r,hr,h⟩:=YC.1 h
   simp only[Yi4 hg hr,Option.bind_some]
   exact h
  ·cases h
 case idxArr n size=>
  simp only[eff,W3]at h⊢
  split at h
  ·rename_i j k i
   rw[hg j (by intro e;rw[e]at h;cases h)];exact h
  ·rename_i j o k i
   rw[hg j (by intro e;rw[e]at h;cases h)];exact h
  ·exact h
  ·cases h
 case sliceArr n size lo hi=>
  simp only[eff]at h⊢
  unfold GY at h⊢
  split at h
  ·rename_i j
   rw[hg j (by intro e;rw[e]at h;cases h)];exact h
  ·cases h
 case isNil neg=>
  simp only[eff]at h⊢
  unfold GX at h⊢
  split at h
  ·rename_i x
   split at h <;> try exact h
   rename_i i _ _ _
   rw[hg i (by intro e;rw[e]at h;cases h)];exact h
  ·cases h
def JK(v:VOp)(s:S):Option (Prop×SV):=
 match v.g with
 |none=>match eff s.hp (Yi s.hp) v.op (s.args v.xs)with
  |some ⟨p,x,.no⟩=>some (p,x)
  |_=>none
 |some (g,pol)=>match Xw (Kn s.fr g) pol with
  |none=>none
  |some gb=>match eff s.hp (Yi s.hp) v.op (J7 v.op gb (s.args v.xs)).2 with
   |some ⟨q,x,.no⟩=>some ((J7 v.op gb (s.args v.xs)).1/\(gb=true->q),.opt gb x)
   |_=>none
def Hd(o:Option (Prop×SV))(d:Option Nat)(A:S->Prop)(s:S):Prop:=
 match o with
 |some (p,x)=>p/\A (s.put d x)
 |none=>False
def ctW(d:Option Nat)(A:S->Prop)(s:S)(ys:List SV)(c:Option Ctr):Prop:=
 match c with
 |some c=>(c.alias=true->QG ys=true)/\CSat (c.of (viewN false s.hp 3 ys)) fun r hs=>A (S.put { fr:=s.fr,saved:=s.saved,hp:=s.hp++Jl (Yi s.hp) hs} d (shift (Yi s.hp) r))
 |none=>False
def Mv(d:Option Nat)(A:S->Prop)(s:S)(e:Option Ef):Prop:=
 match e with
 |some e=>e.pre/\A ((s.upd e.upd).put d e.val)
 |none=>False
def F1(b:Bool)(p:Prop):Prop:=
 match b with
 |true=>False
 |false=>p
def Nj(v:VOp)(A:S->Prop)(s:S)(c:Option CRes):Prop:=
 match c with
 |some c=>CSat c fun r hs=>A (S.put { fr:=s.fr,saved:=s.saved,hp:=s.hp++Jl (Yi s.hp) hs} v.dst (shift (Yi s.hp) r))
 |none=>F1 v.op.bad (Mv v.dst A s (eff s.hp (Yi s.hp) v.op (s.args v.xs)))
def MK(E:Env)(v:VOp)(A:S->Prop)(s:S)(c:Option (FuncId×List SV)):Prop:=
 match c with
 |some (f,ys)=>ctW v.dst A s ys (E.ct f)
 |none=>Nj v A s (psd v.op (s.args v.xs))
def Me(gb:Bool)(d:Option Nat)(A:S->Prop)(s:S)(p:Prop)(c:Option (Ctr×List SV)):Prop:=
 match c with
 |some (c,ys)=>p/\(c.alias=true->QG ys=true)/\∃r,A (s.put d (.opt gb r))/\(gb=true->CSat (c.of (viewN false s.hp 3 ys)) fun r' hs=>r=shift (Yi s.hp) r'/\hs=[])
 |none=>False
def MJ(E:Env)(v:VOp)(A:S->Prop)(s:S)(g:Option Bool):Prop:=
 match g with
 |some gb=>Me gb v.dst A s (J7 v.op gb (s.args v.xs)).1 (Wh E v.op (J7 v.op gb (s.args v.xs)).2)
 |none=>False
def Qa(E:Env)(v:VOp)(A:S->Prop)(s:S):Prop:=
 match v.op.quiet with
 |true=>Hd (JK v s) v.dst A s
 |false=>match v.g with
  |none=>MK E v A s (callee E v.op (s.args v.xs))
  |some (g,pol)=>MJ E v A s (Xw (Kn s.fr g) pol)
section
variable {E:Env} {v:VOp} {A B:S->Prop} {s:S}
theorem VD(h:∀s,A s->B s)(hd:Qa E v A s):Qa E v B s:=by
 unfold Qa at*
 split
 ·rename_i hq
  rw[hq]at hd
  simp only[Hd]at*
  cases hf:JK v s with
  |none=>rw[hf]at hd;exact hd
  |some r=>rw[hf]at hd;exact⟨hd.1,h _ hd.2⟩
 ·rename_i hq
  rw[hq]at hd
  simp only at hd
  split
  ·rename_i hg
   rw[hg]at hd
   simp only at hd
   unfold MK at*
   split
   ·rename_i f ys hc
    rw[hc]at hd
    simp only[ctW]at*
    cases hct:E.ct f with
    |none=>rw[hct]at hd;exact hd
    |some c=>rw[hct]at hd;exact⟨hd.1,hd.2.mono fun r hs hh=>h _ hh⟩
   ·rename_i hc
    rw[hc]at hd
    simp only[Nj]at*
    cases hps:psd v.op (s.args v.xs)with
    |some c=>rw[hps]at hd;exact CSat.mono hd fun r hs hh=>h _ hh
    |none=>
    rw[hps]at hd
    simp only at*
    cases hbd:v.op.bad with
    |true=>rw[hbd]at hd;exact hd
    |false=>
    rw[hbd]at hd
    simp only[F1,Mv]at*
    cases he:eff s.hp (Yi s.hp) v.op (s.args v.xs)with
    |none=>rw[he]at hd;exact hd
    |some e=>rw[he]at hd;exact⟨hd.1,h _ hd.2⟩
  ·rename_i g pol hg
   rw[hg]at hd
   simp only at hd
   unfold MJ at*
   split
   ·rename_i gb hgb
    rw[hgb]at hd
    simp only[Me]at*
    cases hct:Wh E v.op (J7 v.op gb (s.args v.xs)).2 with
    |none=>rw[hct]at hd;exact hd
    |some c=>rw[hct]at hd;obtain⟨h1,h0,r,h2,h3⟩:=hd;exact⟨h1,h0,r,h _ h2,h3⟩
   ·rename_i hgb
    rw[hgb]at hd;exact hd
theorem IE(hq:v.op.quiet=true):¬Qa E v (fun _=>False) s:=by
 unfold Qa
 rw[hq]
 simp only[Hd]
 cases JK v s with
 |none=>exact id
 |some r=>exact fun h=>h.2
theorem HQ{d:Option Nat}{x:SV}(h:∀n,d=some n->n∉v.reads):JK v (s.put d x)=JK v s:=by
 have ha:(s.put d x).args v.xs=s.args v.xs:=Ek fun n e hm=>h n e (by simp [VOp.reads,hm])
 unfold JK
 cases hg:v.g with
 |none=>simp only[ha,Vd]
 |some gp=>
  obtain⟨g,pol⟩:=gp
  have hgg:Kn (s.put d x).fr g=Kn s.fr g:=by
   cases d with
   |none=>rfl
   |some n=>exact ME _ _ _ _ (fun e=>h n rfl (by simp [VOp.reads,hg,e]))
  simp only[ha,Vd,hgg]
theorem Ej{s s':S}(hf:s'.fr=s.fr):∀(xs:List X),s'.args xs=s.args xs
 | []=>rfl
 |x::l=>by
  simp only[S.args]
  rw[Ej hf l]
  cases x <;> simp [S.x,hf]
theorem Bp{s':S}{r:Prop×SV}(hq:v.op.quiet=true)(hf:s'.fr=s.fr)(hg:FH s.hp s'.hp)(h:JK v s=some r):JK v s'=some r:=by
 unfold JK at*
 simp only[Ej hf,hf]
 cases hgd:v.g with
 |none=>
  rw[hgd]at h
  simp only at h⊢
  cases he:eff s.hp (Yi s.hp) v.op (s.args v.xs)with
  |none=>rw[he]at h;cases h
  |some e=>rw[he]at h;rw[IW hg hq he];exact h
 |some gp=>
  obtain⟨g,pol⟩:=gp
  rw[hgd]at h
  simp only at h⊢
  cases hgb:Xw (Kn s.fr g) pol with
  |none=>rw[hgb]at h;cases h
  |some gb=>
   rw[hgb]at h
   simp only at h⊢
   cases he:eff s.hp (Yi s.hp) v.op (J7 v.op gb (s.args v.xs)).2 with
   |none=>rw[he]at h;cases h
   |some e=>rw[he]at h;rw[IW hg hq he];exact h
def Ynj:Upd->Prop
 | .app _ _=>False
 |_=>True
theorem RC{d:Option Nat}{x:SV}{u:Upd}(h:Ynj u):(s.put d x).upd u=(s.upd u).put d x:=by
 cases u <;> first|exact h.elim| (cases d <;> rfl)
theorem OV{d:Option Nat}{x:SV}{hp:List HO}:({ fr:=(s.put d x).fr,saved:=(s.put d x).saved,hp:=hp}:S)=S.put { fr:=s.fr,saved:=s.saved,hp:=hp} d x:=by
 cases d <;> rfl
theorem BH(hp hs:List HO):FH hp (hp++hs):=fun i hi=>by
 rw[Lk]
 split
 ·rfl
 ·rename_i hlt
  exact absurd (WB hp i (by omega)) hi
theorem OK(hp:List HO)(x:HO):FH hp (J6 hp x):=fun i hi=>by
 rcases YV i (Yi hp)with h|h
 ·exact U4 hp x i h
 ·exact absurd (WB hp i h) hi
variable {i j:VOp} {p:Prop} {x:SV}
theorem Yjm(hi:i.op.quiet=true)(h1:∀n,i.dst=some n->n∉j.reads)(h2:∀n,i.dst=some n->j.dst≠some n)(h3:∀n,j.dst=some n->n∉i.reads)
 (hh:∀e,j.op.quiet=false->j.op.bad=false->callee E j.op (s.args j.xs)=none->eff s.hp (Yi s.hp) j.op (s.args j.xs)=some e->(s.put i.dst x).upd e.upd=(s.upd e.upd).put i.dst x/\JK i (s.upd e.upd)=some (p,x))
 (hf:JK i s=some (p,x))(h:Qa E j A (s.put i.dst x)):Qa E j (fun s'=>JK i s'=some (p,x)/\A (s'.put i.dst x)) s:=by
 have ha:(s.put i.dst x).args j.xs=s.args j.xs:=Ek fun n e hm=>h1 n e (by simp [VOp.reads,hm])
 unfold Qa at*
 split
 ·rename_i hq
  rw[hq]at h
  simp only[HQ h1]at h
  simp only[Hd]at*
  cases hfj:JK j s with
  |none=>rw[hfj]at h;exact h
  |some r=>rw[hfj]at h;exact⟨h.1,by rw[HQ h3];exact hf,by rw[<-Np h2];exact h.2⟩
 ·rename_i hq
  rw[hq]at h
  simp only at h
  split
  ·rename_i hg
   rw[hg]at h
   simp only[ha]at h
   unfold MK at*
   split
   ·rename_i f ys hc
    rw[hc]at h
    simp only[ctW,Vd]at*
    cases hct:E.ct f with
    |none=>rw[hct]at h;exact h
    |some c=>
     rw[hct]at h
     refine⟨h.1,CSat.mono h.2 fun r hs hr=>⟨?_,?_⟩⟩
     ·rw[HQ h3]
      exact Bp (s:=s) hi rfl (BH _ _) hf
     ·have hr2:=hr
      rw[OV,Np h2]at hr2;exact hr2
   ·rename_i hc
    rw[hc]at h
    simp only[Nj,Vd,ha]at*
    cases hps:psd j.op (s.args j.xs)with
    |some c=>
     rw[hps]at h
     refine CSat.mono h fun r hs hr=>⟨?_,?_⟩
     ·rw[HQ h3]
      exact Bp (s:=s) hi rfl (BH _ _) hf
     ·have hr2:=hr
      rw[OV,Np h2]at hr2;exact hr2
    |none=>
    rw[hps]at h
    simp only at*
    cases hbd:j.op.bad with
    |true=>rw[hbd]at h;exact h
    |false=>
    rw[hbd]at h
    simp only[F1,Mv,Vd]at*
    cases he:eff s.hp (Yi s.hp) j.op (s.args j.xs)with
    |none=>rw[he]at h;exact h
    |some e=>
     rw[he]at h
     obtain⟨k1,k2⟩:=hh e hq hbd hc he
     refine⟨h.1,?_,?_⟩
     ·rw[HQ h3];exact k2
     ·rw[<-Np h2,<-k1];exact h.2
  ·rename_i g pol hg
   rw[hg]at h
   have hgg:Kn (s.put i.dst x).fr g=Kn s.fr g:=by
    cases hd:i.dst with
    |none=>rfl
    |some n=>exact ME _ _ _ _ (fun e=>h1 n hd (by simp [VOp.reads,hg,e]))
   simp only[ha,hgg]at h
   unfold MJ at*
   split
   ·rename_i gb hgb
    rw[hgb]at h
    simp only[Me,Vd,ha]at*
    cases hct:Wh E j.op (J7 j.op gb (s.args j.xs)).2 with
    |none=>rw[hct]at h;exact h
    |some c=>
     rw[hct]at h
     obtain⟨k1,k0,r,k2,k3⟩:=h
     exact⟨k1,k0,r,⟨by rw[HQ h3];exact hf,by rw[<-Np h2];exact k2⟩,k3⟩
   ·rename_i hgb
    rw[hgb]at h;exact h
end
end Go.Vx
namespace Go.Vx
theorem E2{hp hp':List HO}{n n':Nat}{o:VO}(hq:o.quiet=true)(hr:o.readsHp=false)(xs:List SV):eff hp' n' o xs=eff hp n o xs:=by
 cases o <;> simp only[VO.quiet,VO.readsHp,reduceCtorEq]at hq hr <;> rfl
def QW:List SV->SV
 | []=> .junk
 |x::_=>x
theorem Yi3{hp hp':List HO}{x:SV}(h:∀b,blk x=some b->Yq hp' b=Yq hp b):X4 hp' x=X4 hp x:=by
 cases x <;> try rfl
 case ptr i off=>simp only[X4,h i rfl]
 case elem i k off sz=>simp only[X4,h i rfl]
theorem IV{hp hp':List HO}{n n':Nat}{o:VO}(hq:o.quiet=true){xs:List SV}(h:∀b,blk (QW xs)=some b->Yq hp' b=Yq hp b):eff hp' n' o xs=eff hp n o xs:=by
 cases hr:o.readsHp with
 |false=>exact E2 hq hr xs
 |true=>
  cases o <;> simp only[VO.readsHp,reduceCtorEq]at hr
  case load agg size=>
   cases xs with
   |nil=>rfl
   |cons a l=>
    cases l with
    |nil=>
     have:=Yi3 (x:=a) h
     simp only[eff,VE,this]
    |cons _ _=>rfl
  case idxArr m size=>
   rcases xs with _| ⟨a,_| ⟨b,_| ⟨c,l⟩⟩⟩ <;> try rfl
   ·cases a <;> try rfl
    case ptr j off=>cases off <;> rfl
   ·cases a <;> try rfl
    case ptr j off=>
     have:=h j rfl
     cases off <;> cases b <;> try rfl
     all_goals simp only[eff,W3,this]
    case xp t cs=>cases b <;> rfl
   ·cases a <;> try rfl
    case ptr j off=>cases off <;> cases b <;> rfl
    case xp t cs=>cases b <;> rfl
  case sliceArr m size lo hi=>
   rcases xs with _| ⟨a,_| ⟨b,l⟩⟩
   ·cases lo <;> cases hi <;> rfl
   ·cases lo <;> cases hi <;> try rfl
    cases a <;> try rfl
    case ptr j off=>
     have:=h j rfl
     cases off <;> try rfl
     simp only[eff,GY,this]
   ·cases lo <;> cases hi <;> try rfl
    cases a <;> try rfl
    case ptr j off=>cases off <;> rfl
  case isNil neg=>
   rcases xs with _| ⟨a,_| ⟨b,l⟩⟩
   ·rfl
   ·rfl
   ·rcases l with _| ⟨c,l⟩
    ·cases b <;> try rfl
     cases a <;> try rfl
     case own i lo m sz=>
      have:=h i rfl
      simp only[eff,GX,this]
    ·cases b <;> rfl
theorem Ydo{hp:List HO}{n:Nat}{o:VO}(ho:o.isStore=true){xs:List SV}{e:Ef}(h:eff hp n o xs=some e):∃k ho,e.upd= .set k ho/\blk (QW xs)=some k:=by
 cases o <;> simp only[VO.isStore,reduceCtorEq]at ho
 simp only[eff,HN]at h
 split at h
 ·rename_i a v
  obtain⟨e',h',rfl⟩:=YO.1 h
  cases a <;> simp only[storeAt,reduceCtorEq]at h'
  ·rename_i i off
   split at h'
   ·cases h';exact⟨_,_,rfl,rfl⟩
   ·split at h'
    ·cases h';exact⟨_,_,rfl,rfl⟩
    ·cases h'
   ·cases h'
   ·cases h'
  ·rename_i i k off sz
   split at h'
   ·cases h';exact⟨_,_,rfl,rfl⟩
   ·cases h'
 ·cases h
theorem YaZ{hp:List HO}{n:Nat}{o:VO}(hq:o.quiet=false)(ho:o.isStore=false)(ha:o.isAppend=false)(hb:o.bad=false){xs:List SV}{e:Ef}(h:eff hp n o xs=some e):∃ho,e.upd= .new ho:=by
 cases o <;> simp only[VO.quiet,VO.isStore,VO.isAppend,VO.bad,reduceCtorEq]at hq ho ha hb <;> simp only[eff]at h
 ·cases h;exact⟨_,rfl⟩
 ·cases h;exact⟨_,rfl⟩
 ·unfold Mq at h;split at h
  ·cases h;exact⟨_,rfl⟩
  ·cases h
 ·obtain⟨⟨p,cs⟩,h',h⟩:=YC.1 h
  cases h;exact⟨_,rfl⟩
 ·unfold Ms at h;split at h
  ·cases h;exact⟨_,rfl⟩
  ·cases h
 all_goals cases h
theorem MI(s:S):∀(xs:List X),QW (s.args xs)=s.x (QX xs)
 | []=>rfl
 |_::_=>rfl
theorem OP(gb:Bool):∀(xs:List SV),QW (Gz gb xs).2=Fv (QW xs)
 | []=>rfl
 |x::_=>by cases x <;> rfl
theorem OQ(o:VO)(gb:Bool)(xs:List SV):QW (J7 o gb xs).2=Fv (QW xs):=by
 unfold J7 Cf
 split
 ·exact OP gb xs
 ·split
  ·rename_i x y
   cases x <;> rfl
  ·exact OP gb _
theorem YjU{v:VOp}{s:S}{k:Nat}{ho:HO}(hq:v.op.quiet=true)(h:v.op.readsHp=true->∀b,blk (Fv (s.x (QX v.xs)))=some b->b≠k):JK v (s.upd (.set k ho))=JK v s:=by
 have key:∀xs:List SV,(v.op.readsHp=true->∀b,blk (QW xs)=some b->b≠k)->eff (s.upd (.set k ho)).hp (Yi (s.upd (.set k ho)).hp) v.op xs=eff s.hp (Yi s.hp) v.op xs:=by
  intro xs hx
  cases hr:v.op.readsHp with
  |false=>exact E2 hq hr xs
  |true=>exact IV hq fun b hb=>WC _ _ _ _ (fun e=>hx hr b hb e.symm)
 have hfr:(s.upd (.set k ho)).fr=s.fr:=rfl
 have ha:(s.upd (.set k ho)).args v.xs=s.args v.xs:=Ej hfr _
 unfold JK
 cases hg:v.g with
 |none=>
  simp only[ha]
  rw[key]
  intro hr b hb
  refine h hr b ?_
  rw[MI]at hb
  cases hx:s.x (QX v.xs) <;> rw[hx]at hb <;> first|exact hb|cases hb
 |some gp=>
  obtain⟨g,pol⟩:=gp
  simp only[ha,hfr]
  cases Xw (Kn s.fr g) pol with
  |none=>rfl
  |some gb=>
   simp only
   rw[key]
   intro hr b hb
   refine h hr b ?_
   rw[OQ,MI]at hb
   exact hb
theorem Ff{b:Nat}{v:SV}(h:Ko b v=false):Z1 b v=v:=by unfold Z1;rw[h];rfl
theorem YbX{b:Nat}:∀{l:List SV},WP b l=false->YZ b l=l
 | [],_=>rfl
 |x::l,h=>by
  simp only[WP,JH]at h
  simp only[YZ,Ff h.1,YbX h.2]
theorem At(b:Nat):∀(n:Nat)(l:List SV),YK n (YZ b l)=YZ b (YK n l)
 |0,_=>rfl
 |_+1,[]=>rfl
 |n+1,_::l=>At b n l
theorem PI(b:Nat):∀(n:Nat)(l:List SV),YR n (YZ b l)=YZ b (YR n l)
 |0,_=>rfl
 |_+1,[]=>rfl
 |n+1,x::l=>congrArg (Z1 b x::·) (PI b n l)
theorem Au(b:Nat):∀(l:List SV),YH (YZ b l)=YH l
 | []=>rfl
 |_::l=>congrArg (·+1) (Au b l)
theorem YbW(b:Nat):∀(l r:List SV),YZ b (l++r)=YZ b l++YZ b r
 | [],_=>rfl
 |x::l,r=>congrArg (Z1 b x::·) (YbW b l r)
theorem Oh(b:Nat)(get:Nat->List SV):∀(n k:Nat),Wk n k (fun j=>YZ b (get j))=YZ b (Wk n k get)
 |0,_=>rfl
 |n+1,k=>by simp only[Wk,YbW,Oh b get n (k+1)]
theorem Yi5{hp hp':List HO}{b:Nat}(hg:∀i,i≠b->Yq hp' i=Uv b (Yq hp i)){x:SV}(hx:Ko b x=false){p:Prop}{cs:List SV}(h:X4 hp x=some (p,cs)):∃cs',X4 hp' x=some (p,cs')/\(cs'=cs\/cs'=YZ b cs):=by
 cases x <;> simp only[X4,reduceCtorEq]at h⊢
 case xp t c=>exact⟨cs,h,.inl rfl⟩
 case ptr i off=>
  have hne:i≠b:=by rintro rfl;simp [Ko]at hx
  rw[hg i hne]
  cases hh:Yq hp i with
  |gone=>rw[hh]at h;cases h
  |smap l=>rw[hh]at h;cases h
  |box c=>
   rw[hh]at h;cases h
   exact⟨_,rfl,.inr (At b off c)⟩
  |own z sz n get=>
   rw[hh]at h
   simp only at h
   cases off with
   |zero=>
    cases h
    exact⟨_,rfl,.inr (Oh b get n 0)⟩
   |succ k=>cases h
 case elem i k off sz=>
  have hne:i≠b:=by rintro rfl;simp [Ko]at hx
  rw[hg i hne]
  cases hh:Yq hp i with
  |gone=>rw[hh]at h;cases h
  |smap l=>rw[hh]at h;cases h
  |box c=>rw[hh]at h;cases h
  |own z sz' n get=>
   rw[hh]at h;cases h
   exact⟨_,rfl,.inr (At b off (get k))⟩
theorem YmJ{b:Nat}{agg:Bool}{l:List SV}(h:Ko b (WH agg l)=false):WH agg (YZ b l)=WH agg l:=by
 cases agg with
 |true=>simp only[WH,Ko]at h⊢;rw[YbX h]
 |false=>
  rcases l with _| ⟨x,_| ⟨y,l⟩⟩
  ·rfl
  ·simp only[WH,YZ]at h⊢;exact Ff h
  ·rfl
theorem IX{hp hp':List HO}{n n' b:Nat}(hg:∀i,i≠b->Yq hp' i=Uv b (Yq hp i)){o:VO}(hq:o.quiet=true){xs:List SV}(hx:Ko b (QW xs)=false){e:Ef}(hr:Ko b e.val=false)(h:eff hp n o xs=some e):eff hp' n' o xs=some e:=by
 cases hrd:o.readsHp with
 |false=>rw[E2 hq hrd xs (hp:=hp) (n:=n)];exact h
 |true=>
  cases o <;> simp only[VO.readsHp,reduceCtorEq]at hrd
  case load agg size=>
   simp only[eff,VE]at h⊢
   split at h
   ·rename_i a
    obtain⟨⟨p,cs⟩,hc,h⟩:=YC.1 h
    obtain⟨cs',hc',hor⟩:=Yi5 hg hx hc
    have hc':X4 hp' a=some (p,cs'):=hc'
    simp only[hc',Option.bind_some]
    cases h
    rcases hor with rfl|rfl
    ·rfl
    ·simp only[Y5,Au,PI,YmJ hr]
   ·cases h
  case idxArr m size=>
   simp only[eff,W3]at h⊢
   split at h
   ·rename_i j k i
    have hne:j≠b:=by rintro rfl;simp [QW,Ko]at hx
    rw[hg j hne]
    cases hh:Yq hp j with
    |gone=>rw[hh]at h;cases h
    |smap l=>rw[hh]at h;cases h
    |box c=>rw[hh]at h;exact h
    |own z sz' n get=>rw[hh]at h;exact h
   ·rename_i j o k i
    have hne:j≠b:=by rintro rfl;simp [QW,Ko]at hx
    rw[hg j hne]
    cases hh:Yq hp j with
    |gone=>rw[hh]at h;cases h
    |smap l=>rw[hh]at h;cases h
    |box c=>rw[hh]at h;exact h
    |own z sz' n get=>rw[hh]at h;cases h
   ·exact h
   ·cases h
  case sliceArr m size lo hi=>
   simp only[eff]at h⊢
   unfold GY at h⊢
   split at h
   ·rename_i j
    have hne:j≠b:=by rintro rfl;simp [QW,Ko]at hx
    rw[hg j hne]
    cases hh:Yq hp j with
    |gone=>rw[hh]at h;cases h
    |smap l=>rw[hh]at h;cases h
    |box c=>rw[hh]at h;cases h
    |own z sz' n get=>rw[hh]at h;exact h
   ·cases h
  case isNil neg=>
   simp only[eff]at h⊢
   unfold GX at h⊢
   split at h
   ·rename_i x
    split at h <;> try exact h
    rename_i i _ _ _
    have hne:i≠b:=by rintro rfl;simp [QW,Ko]at hx
    rw[hg i hne]
    cases hh:Yq hp i with
    |gone=>rw[hh]at h;cases h
    |smap l=>rw[hh]at h;cases h
    |box c=>rw[hh]at h;cases h
    |own z sz' n get=>rw[hh]at h;exact h
   ·cases h
theorem Tx{hp:List HO}{n:Nat}{o:VO}(ha:o.isAppend=true){xs:List SV}{e:Ef}(h:eff hp n o xs=some e):(∃ho,e.upd= .new ho)\/∃b ho,e.upd= .app b ho/\blk (QW xs)=some b:=by
 cases o <;> simp only[VO.isAppend,reduceCtorEq]at ha
 simp only[eff,W2]at h
 split at h
 ·rename_i a x
  split at h
  ·obtain⟨⟨m,gx⟩,_,h⟩:=YC.1 h
   cases h;exact .inl ⟨_,rfl⟩
  ·split at h
   ·obtain⟨⟨m,gx⟩,_,rfl⟩:=YO.1 h
    exact .inr ⟨_,_,rfl,rfl⟩
   ·cases h
  ·obtain⟨⟨k,gy⟩,_,h⟩:=YC.1 h
   obtain⟨⟨m,gx⟩,_,h⟩:=YC.1 h
   cases h;exact .inl ⟨_,rfl⟩
  ·cases h
 ·cases h
theorem OI(b:Nat):∀(l:List SV)(n:Nat),Kn (YZ b l) n=Z1 b (Kn l n)
 | [],_=>rfl
 |_::_,0=>rfl
 |_::l,n+1=>OI b l n
theorem Av(b:Nat):∀(l:List SV)(n:Nat)(x:SV),YZ b (Km l n x)=Km (YZ b l) n (Z1 b x)
 | [],_,_=>rfl
 |_::_,0,_=>rfl
 |y::l,n+1,x=>congrArg (Z1 b y::·) (Av b l n x)
theorem BD:∀(l:List SV)(n:Nat)(x:SV),n<YH l->Kn (Km l n x) n=x
 |_::_,0,_,_=>rfl
 |_::l,n+1,x,h=>BD l n x (by simpa [YH]using h)
theorem NA:∀(l:List SV)(n:Nat)(x:SV),YH l<=n->Km l n x=l
 | [],_,_,_=>rfl
 |_::l,0,_,h=>by simp [YH]at h
 |y::l,n+1,x,h=>congrArg (y::·) (NA l n x (by simpa [YH]using h))
theorem Yib{s:S}{d:Option Nat}{x:SV}{b:Nat}{ho:HO}(h:∀n,d=some n->Ko b (Kn (s.put d x).fr n)=false):(s.put d x).upd (.app b ho)=(s.upd (.app b ho)).put d x:=by
 cases d with
 |none=>rfl
 |some n=>
  have h:=h n rfl
  simp only[S.put,S.upd]at h⊢
  rw[Av]
  rcases YV n (YH s.fr)with hn|hn
  ·rw[BD _ _ _ hn]at h
   rw[Ff h]
  ·rw[NA _ _ _ (by rw[Au];exact hn),NA _ _ _ (by rw[Au];exact hn)]
theorem YeV{s:S}{b:Nat}{ho:HO}{y:X}(h:Ko b (s.x y)=false):(s.upd (.app b ho)).x y=s.x y:=by
 cases y with
 |cn v=>rfl
 |tm n=>
  show Kn (YZ b s.fr) n=Kn s.fr n
  rw[OI];exact Ff h
theorem Tz{s:S}{b:Nat}{ho:HO}:∀{xs:List X},(∀y∈xs,Ko b (s.x y)=false)->(s.upd (.app b ho)).args xs=s.args xs
 | [],_=>rfl
 |y::l,h=>by
  simp only[S.args]
  rw[YeV (h y KF),Tz fun z hz=>h z (KH _ hz)]
theorem Yp1{b:Nat}{x:SV}:Ko b (Fv x)=Ko b x:=by cases x <;> rfl
theorem YjS{v:VOp}{s:S}{b:Nat}{ho:HO}(hq:v.op.quiet=true)(hxs:∀y∈v.xs,Ko b (s.x y)=false)(hgd:∀g pol,v.g=some (g,pol)->Ko b (Kn s.fr g)=false){r:Prop×SV}(hr:Ko b r.2=false)(h:JK v s=some r):JK v (s.upd (.app b ho))=some r:=by
 have hgg:∀i,i≠b->Yq (s.upd (.app b ho)).hp i=Uv b (Yq s.hp i):=by
  intro i hi
  show Yq (Kz (Xb b s.hp) b ho) i=_
  rw[WC _ _ _ _ hi.symm,BC]
 have ha:(s.upd (.app b ho)).args v.xs=s.args v.xs:=Tz hxs
 have hh:Ko b (QW (s.args v.xs))=false:=by
  rw[MI]
  cases hx:v.xs with
  |nil=>rfl
  |cons y l=>exact hxs y (by rw[hx];exact KF)
 unfold JK at h⊢
 cases hg:v.g with
 |none=>
  rw[hg]at h
  simp only at h⊢
  rw[ha]
  cases he:eff s.hp (Yi s.hp) v.op (s.args v.xs)with
  |none=>rw[he]at h;cases h
  |some e=>
   rw[he]at h
   obtain⟨p,x,u⟩:=e
   cases u <;> cases h
   rw[IX hgg hq hh (e:=⟨p,x,.no⟩) hr he]
 |some gp=>
  obtain⟨g,pol⟩:=gp
  rw[hg]at h
  simp only at h⊢
  have hgv:Kn (s.upd (.app b ho)).fr g=Kn s.fr g:=YeV (y:= .tm g) (hgd g pol hg)
  rw[ha,hgv]
  cases hgb:Xw (Kn s.fr g) pol with
  |none=>rw[hgb]at h;cases h
  |some gb=>
   rw[hgb]at h
   simp only at h⊢
   cases he:eff s.hp (Yi s.hp) v.op (J7 v.op gb (s.args v.xs)).2 with
   |none=>rw[he]at h;cases h
   |some e=>
    rw[he]at h
    obtain⟨p,x,u⟩:=e
    cases u <;> cases h
    rw[IX hgg hq (by rw[OQ,Yp1];exact hh) (e:=⟨p,x,.no⟩) (by simpa [Ko]using hr) he]
end Go.Vx
namespace Go.Vx
def Dz(ap:Bool)(x y:SV):Prop:=
 match ap with
 |false=>HA x y
 |true=>MZ x y
def Kv(E:Env)(G:VOp->(S->Prop)->S->Prop)(tab:List DT)(i:Nat)(L:Array Bool)(A:S->Prop)(s:S):Prop:=
 match tab[i]? with
 |some (.silent _)=>A s
 |some (.op v chk)=>(∀c∈chk,L.getD c.1 false=true->Dz v.op.isAppend (s.x c.2) (s.x (QX v.xs)))/\Qa E v A s
 |some (.loud v)=>Qa E v A s\/G v A s
 |none=>False
theorem HI{d:Option Nat}{l:List Nat}(h:UY d l=true):∀n,d=some n->n∉l:=by
 rintro n rfl hm
 simp [UY,hm]at h
theorem YeW{x y:X}(h:xeq x y=true):x=y:=by
 cases x <;> cases y <;> simp only[xeq,XD]at h
 rw[JE h]
section
variable {E:Env} {G:VOp->(S->Prop)->S->Prop} {tab:List DT} {ops:Array Oper} {md:Region.Mode} {clo:Nat->Nat->Bool}
theorem Ydm(hG:∀v (A B:S->Prop) s,(∀s,A s->B s)->G v A s->G v B s)(j:Nat)(L:Array Bool)(s:S)(A B:S->Prop)(h:∀s,A s->B s)(hs:Kv E G tab j L A s):Kv E G tab j L B s:=by
 unfold Kv at*
 split
 ·rename_i d hd;rw[hd]at hs;exact h _ hs
 ·rename_i v chk hd;rw[hd]at hs;exact⟨hs.1,VD h hs.2⟩
 ·rename_i v hd;rw[hd]at hs;exact hs.imp (VD h) (hG v A B s h)
 ·rename_i hd;rw[hd]at hs;exact hs
structure Cs (md:Region.Mode) (ops:Array Oper) (clo:Nat->Nat->Bool):Prop where
 ready:∀(L:Array Bool)(j i:Nat),Down md ops L->j∈Region.ready md ops L->clo j i=true->L.getD i false=true
 listed:∀(L:Array Bool)(j i:Nat),Down md ops L->L.getD j false=true->clo j i=true->L.getD i false=true
theorem Nt{L:Array Bool}{i:Nat}(h:i∈Region.ready md ops L):L.getD i false=false:=by
 have h0:=(mem_ready.1 h).1
 rcases YV i L.size with h'|h'
 ·simp [h']at h0⊢;exact h0
 ·simp [Array.getElem?_eq_none h']
theorem Ykp{L:Array Bool}{i j:Nat}(h:L.getD j false=true):(L.setIfInBounds i true).getD j false=true:=getD_set_true h
theorem Ycv{b:Nat}{x:SV}(h:EN x=true):Ko b x=false:=by cases x <;> first|rfl|cases h
theorem Lp:∀(l:List SV)(n:Nat),YH l<=n->Kn l n= .junk
 | [],_,_=>rfl
 |_::_,0,h=>by simp [YH]at h
 |_::l,n+1,h=>Lp l n (by simpa [YH]using h)
theorem YaK{n:Nat}:∀{l:List X},.tm n∈l->n∈Ku l
 |x::l,h=>by
  rcases K4.1 h with rfl|h
  ·simp [Ku,X.slot]
  ·simp [Ku,YaK h]
theorem Lz{i:Nat}{chk:List (Nat×X)}{x:X}(h:OO i chk x=true):(i,x)∈chk:=by
 obtain⟨c,hc,h⟩:=List.any_eq_true.1 h
 simp only[YS]at h
 have h1:=JE h.1
 have h2:=YeW h.2
 rw[<-h1,<-h2];exact hc
theorem YjT{v u:VOp}{s:S}(hv:v.op.quiet=true){r:Prop×SV}
 (hap:u.op.isAppend=true->∀b,blk (s.x (QX u.xs))=some b->(∀y∈v.xs,Ko b (s.x y)=false)/\(∀g pol,v.g=some (g,pol)->Ko b (Kn s.fr g)=false)/\Ko b r.2=false)
 (hst:u.op.isStore=true->v.op.readsHp=true->HA (s.x (QX v.xs)) (s.x (QX u.xs))){e:Ef}
 (hq:u.op.quiet=false)(hbad:u.op.bad=false)(he:eff s.hp (Yi s.hp) u.op (s.args u.xs)=some e)(hf:JK v s=some r):(s.put v.dst r.2).upd e.upd=(s.upd e.upd).put v.dst r.2/\JK v (s.upd e.upd)=some r:=by
 cases hs:u.op.isStore with
 |true=>
  obtain⟨k,ho,h1,h2⟩:=Ydo hs he
  rw[h1]
  refine⟨RC trivial,?_⟩
  rw[YjU hv]
  ·exact hf
  ·intro hr b hb hbk
   subst hbk
   have:=hst hs hr
   rw[MI]at h2
   simp [HA,Ee,hb,h2]at this
 |false=>
  cases ha:u.op.isAppend with
  |false=>
   obtain⟨ho,h1⟩:=YaZ hq hs ha hbad he
   rw[h1]
   exact⟨RC trivial,Bp (s:=s) hv rfl (OK _ _) hf⟩
  |true=>
   rcases Tx ha he with⟨ho,h1⟩ | ⟨b,ho,h1,h2⟩
   ·rw[h1]
    exact⟨RC trivial,Bp (s:=s) hv rfl (OK _ _) hf⟩
   ·rw[h1]
    rw[MI]at h2
    obtain⟨k1,k2,k3⟩:=hap ha b h2
    refine⟨Yib fun n hn=>?_,YjS hv k1 k2 k3 hf⟩
    rcases YV n (YH s.fr)with hl|hl
    ·rw[hn];simp only[S.put];rw[BD _ _ _ hl];exact k3
    ·rw[hn];simp only[S.put];rw[NA _ _ _ hl,Lp _ _ hl];rfl
theorem Yq8(hc:Cs md ops clo){i:Nat}{v:VOp}(hi:tab[i]? =some (.op v []))(hv:v.op.quiet=true)(hcomm:∀(j:Nat) (t:DT),tab[j]? =some t->Md clo i v j t=true)
 (j:Nat)(L:Array Bool)(s:S)(A:S->Prop)(hd:Down md ops L)(hri:i∈Region.ready md ops L)(hrj:j∈Region.ready md ops L)(hji:j≠i)
 (h:Kv E G tab i L (Kv E G tab j (L.setIfInBounds i true) A) s):Kv E G tab j L (Kv E G tab i (L.setIfInBounds j true) A) s:=by
 have hstepi:∀(L:Array Bool)(A:S->Prop)(s:S),Kv E G tab i L A s↔Qa E v A s:=by
  intro L A s
  unfold Kv
  rw[hi]
  exact⟨fun h=>h.2,fun h=>⟨fun c hc=>(by cases hc),h⟩⟩
 rw[hstepi]at h
 have hmono:∀{B C:S->Prop}{t:S},(∀s,B s->C s)->Qa E v B t->Qa E v C t:=fun hbc hh=>VD hbc hh
 cases ht:tab[j]? with
 |none=>
  have:Qa E v (fun _=>False) s:=hmono (fun s' hs'=>by unfold Kv at hs';rw[ht]at hs';exact hs') h
  exact(IE hv this).elim
 |some t=>
  have hcm:=hcomm j t ht
  unfold Md at hcm
  have e1:YL i j=false:=by
   cases hb:YL i j with
   |false=>rfl
   |true=>exact absurd (JE hb).symm hji
  have e2:clo j i=false:=by
   cases hb:clo j i with
   |false=>rfl
   |true=>have:=hc.ready L j i hd hrj hb;rw[Nt hri]at this;cases this
  have e3:clo i j=false:=by
   cases hb:clo i j with
   |false=>rfl
   |true=>have:=hc.ready L i j hd hri hb;rw[Nt hrj]at this;cases this
  rw[e1,e2,e3]at hcm
  simp only[Bool.false_or]at hcm
  cases t with
  |silent d=>
   have hsj:∀(L:Array Bool)(A:S->Prop)(s:S),Kv E G tab j L A s=A s:=by
    intro L A s;unfold Kv;rw[ht]
   rw[hsj,hstepi]
   exact hmono (fun s' hs'=>by rw[hsj]at hs';exact hs') h
  |loud u=>simp at hcm
  |op u chk=>
   simp only[YS,Qt,Z6,Vn]at hcm
   obtain⟨⟨⟨⟨⟨c1,c2⟩,c3⟩,c4⟩,c5⟩,c6⟩:=hcm
   have hsj:∀(L:Array Bool)(A:S->Prop)(s:S),Kv E G tab j L A s=((∀c∈chk,L.getD c.1 false=true->Dz u.op.isAppend (s.x c.2) (s.x (QX u.xs)))/\Qa E u A s):=by
    intro L A s;unfold Kv;rw[ht]
   have d1:=HI c1
   have d3:=HI c3
   have d2:∀n,v.dst=some n->u.dst≠some n:=fun n hn hu=>HI c2 n hn (by simp [hu])
   rw[hsj]
   unfold Qa at h
   rw[hv]at h
   simp only[Hd]at h
   cases hf:JK v s with
   |none=>rw[hf]at h;exact h.elim
   |some r=>
    obtain⟨p,x⟩:=r
    rw[hf]at h
    obtain⟨hp,h⟩:=h
    rw[hsj]at h
    obtain⟨hchk,h⟩:=h
    have htgt:(s.put v.dst x).x (QX u.xs)=s.x (QX u.xs):=by
     refine FE fun n hn hm=>d1 n hn ?_
     cases hx:u.xs with
     |nil=>rw[hx]at hm;simp [QX,X.slot]at hm
     |cons y l=>rw[hx]at hm;simp only[VOp.reads,hx,Ku,KE];exact .inl (.inl hm)
    refine⟨fun c hcm hcl=>?_,?_⟩
    ·have:=hchk c hcm (Ykp hcl)
     rw[htgt]at this
     rcases c5 c hcm with(hh|hh) |hh
     ·rw[FE (HI hh)]at this;exact this
     ·have:=hc.listed L c.1 i hd hcl hh
      rw[Nt hri]at this;cases this
     ·rw[JE hh,Nt hri]at hcl;cases hcl
    ·have hlt:i<L.size:=by
      obtain⟨_,o,ho,_⟩:=mem_ready.1 hri
      rw[hd.1];exact(Xh.1 ho).1
     have hli:(L.setIfInBounds i true).getD i false=true:=by simp [hlt]
     refine VD (fun s' hs'=>?_) (Yjm hv d1 d2 d3 (fun e hq hbad hcl he=>YjT (r:=(p,x)) hv (fun hap b hb=>?_) (fun hst hrd=>?_) hq hbad he hf) hf h)
     ·rw[hstepi]
      unfold Qa
      rw[hv]
      simp only[Hd]
      rw[hs'.1]
      exact⟨hp,hs'.2⟩
     ·rcases c4 with c4|c4
      ·rw[hap]at c4;cases c4
      simp only[Tt,YS,Vn]at c4
      obtain⟨⟨⟨e1,e2⟩,e3⟩,e4⟩:=c4
      have dv:=HI e1
      have at1:∀y:X,(i,y)∈chk->Ko b ((s.put v.dst x).x y)=false/\Rp ((s.put v.dst x).x y)=true:=by
       intro y hy
       have:=hchk (i,y) hy hli
       rw[hap,htgt]at this
       simp only[Dz,MZ,L7,hb]at this
       exact this
      refine⟨fun y hy=>?_,fun g pol hg=>?_,?_⟩
      ·have h1:=e2 y hy
       cases y with
       |cn c=>exact Ycv h1
       |tm n=>
        have h2:=(at1 _ (Lz h1)).1
        rwa [FE (fun m hm hmm=>dv m hm (by
         simp only[X.slot,JD]at hmm
         subst hmm
         simp only[VOp.reads,KE]
         exact .inl (YaK hy)))]at h2
      ·rw[hg]at e3
       have h2:=(at1 _ (Lz e3)).1
       rwa [FE (fun m hm hmm=>dv m hm (by
        simp only[X.slot,JD]at hmm
        subst hmm
        simp [VOp.reads,hg]))]at h2
      ·cases hdst:v.dst with
       |none=>rw[hdst]at e4;cases e4
       |some d=>
        rw[hdst]at e4
        obtain⟨h1,h2⟩:=at1 _ (Lz e4)
        rw[hdst]at h1 h2
        simp only[S.x,S.put]at h1 h2
        rcases YV d (YH s.fr)with hl|hl
        ·rw[BD _ _ _ hl]at h1;exact h1
        ·rw[Lp _ _ (by rw[NA _ _ _ hl];exact hl)]at h2;cases h2
     ·rcases c6 with(h6|h6) |h6
      ·rw[hst]at h6;cases h6
      ·rw[hrd]at h6;cases h6
      ·obtain⟨c,hcm,hcb⟩:=List.any_eq_true.1 h6.2
       simp only[YS]at hcb
       have hci:=JE hcb.1
       have hcx:=YeW hcb.2
       have:=hchk c hcm (by rw[hci];exact hli)
       have hna:u.op.isAppend=false:=by cases hu:u.op <;> rw[hu]at hst <;> first|rfl|cases hst
       rw[htgt,hcx,FE (HI h6.1),hna]at this
       exact this
end
end Go.Vx
namespace Go.Vx
section
variable {md:Region.Mode} {ops:Array Oper}
theorem Ydz{i k:Nat}:(2^i).testBit k=decide (i=k):=Nat.testBit_two_pow
theorem maskL_spec{i:Nat}:∀{l:List Edge},(Gh md l).testBit i=true↔∃e∈l,Region.binds md e=true/\e.on=i
 | []=>by simp [Gh]
 |e::l=>by
  unfold Gh
  cases hb:Region.binds md e with
  |false=>simp [maskL_spec (l:=l),hb]
  |true=>simp [maskL_spec (l:=l),hb,Nat.testBit_or,Ydz]
theorem DL{i:Nat}{o:Oper}(h:ops[i]? =some o):(K9 md ops).getD i 0=Gh md o.after.toList:=by
 simp [K9,h]
theorem Pr{cl:List Nat}{m i:Nat}:∀{j:Nat},(Gn cl m j).testBit i=true->∃k,k<j/\m.testBit k=true/\(cl.getD k 0).testBit i=true
 |0,h=>by simp [Gn]at h
 |j+1,h=>by
  unfold Gn at h
  cases hb:m.testBit j with
  |false=>
   rw[hb]at h
   obtain⟨k,h1,h2⟩:=Pr (j:=j) h
   exact⟨k,by omega,h2⟩
  |true=>
   rw[hb]at h
   simp only[cond_true,Nat.testBit_or,Qt]at h
   rcases h with h|h
   ·exact⟨j,by omega,hb,h⟩
   ·obtain⟨k,h1,h2⟩:=Pr (j:=j) h
    exact⟨k,by omega,h2⟩
theorem Ih{dm cl:List Nat}:∀{n:Nat},UV dm cl n=true->∀j,j<n->cl.getD j 0=dm.getD j 0||| Gn cl (dm.getD j 0) j
 |n+1,h,j,hj=>by
  simp only[UV,YS]at h
  rcases YV j n with h'|h'
  ·exact Ih h.2 j h'
  ·obtain rfl:j=n:=by omega
   exact JE h.1
theorem Yja{cl:List Nat}(hl:cl.length=ops.size)(h:UV (K9 md ops) cl ops.size=true):Cs md ops (Jg cl):=by
 have small:∀(j i:Nat),Jg cl j i=true->j<ops.size:=by
  intro j i hc
  rcases YV j ops.size with h'|h'
  ·exact h'
  ·simp [Jg,Kp,List.getElem?_eq_none (show cl.length<=j by omega)]at hc
 have main:∀(L:Array Bool),Down md ops L->∀(N j i:Nat),j<N->(∀(o:Oper),ops[j]? =some o->∀e∈o.after,Region.binds md e=true->L.getD e.on false=true)->Jg cl j i=true->L.getD i false=true:=by
  intro L hd N
  induction N with
  |zero=>intro j i hj;omega
  |succ N ih=>
   intro j i hj hs hc
   have hjn:=small j i hc
   have ho:ops[j]? =some ops[j]:=Array.getElem?_eq_getElem hjn
   unfold Jg at hc
   rw[Ih h j hjn,Nat.testBit_or,Qt]at hc
   have hdir:∀k,((K9 md ops).getD j 0).testBit k=true->L.getD k false=true:=by
    intro k hk
    rw[DL ho]at hk
    obtain⟨e,he,hb,rfl⟩:=maskL_spec.1 hk
    exact hs _ ho e (by simpa using he) hb
   rcases hc with hc|hc
   ·exact hdir i hc
   ·obtain⟨k,h1,h2,h3⟩:=Pr hc
    exact ih k i (by omega) (fun o hok e he hb=>hd.2 k o hok (hdir k h2) e he hb) h3
 refine⟨fun L j i hd hr hc=>?_,fun L j i hd hl hc=>?_⟩
 ·obtain⟨_,o,ho,hall⟩:=mem_ready.1 hr
  exact main L hd (j+1) j i (by omega) (fun o' ho' e he hb=>by rw[ho]at ho';cases ho';exact hall e he hb) hc
 ·exact main L hd (j+1) j i (by omega) (fun o ho e he hb=>hd.2 j o ho hl e he hb) hc
def Hr(ops:Array Oper)(L:Array Bool)(m:Nat):Prop:=L.size=ops.size/\∀i,L.getD i false=m.testBit i
theorem and_eq_left{a m:Nat}:(a&&&m)=a↔∀k,a.testBit k=true->m.testBit k=true:=by
 constructor
 ·intro h k hk
  have:(a&&&m).testBit k=true:=by rw[h];exact hk
  rw[Nat.testBit_and,YS]at this
  exact this.2
 ·intro h
  apply Nat.eq_of_testBit_eq
  intro k
  rw[Nat.testBit_and]
  cases hk:a.testBit k with
  |false=>rfl
  |true=>rw[h k hk];rfl
theorem Gu{L:Array Bool}{m i:Nat}(hc:Hr ops L m):i∈Region.ready md ops L↔i<ops.size/\XP (K9 md ops) m i=true:=by
 rw[mem_ready]
 constructor
 ·rintro⟨h0,o,ho,hall⟩
  have hi:i<ops.size:=(Xh.1 ho).1
  refine⟨hi,?_⟩
  simp only[XP,YS,Z6]
  have hL:i<L.size:=by rw[hc.1];exact hi
  refine⟨?_,?_⟩
  ·rw[<-hc.2 i];simp [hL]at h0⊢;exact h0
  ·rw[DL ho]
   rw[and_eq_left.2 (fun k hk=>?_)]
   ·exact Nat.beq_refl _
   ·obtain⟨e,he,hb,rfl⟩:=maskL_spec.1 hk
    rw[<-hc.2];exact hall e (by simpa using he) hb
 ·rintro⟨hi,hr⟩
  simp only[XP,YS,Z6]at hr
  have ho:ops[i]? =some ops[i]:=Array.getElem?_eq_getElem hi
  have hL:i<L.size:=by rw[hc.1];exact hi
  refine⟨?_,_,ho,fun e he hb=>?_⟩
  ·have:=hr.1
   rw[<-hc.2 i]at this
   simp [hL]at this⊢;exact this
  ·have:=and_eq_left.1 (JE hr.2)
   rw[hc.2]
   refine this e.on ?_
   rw[DL ho]
   exact maskL_spec.2 ⟨e,by simpa using he,hb,rfl⟩
theorem Io{L:Array Bool}{m i:Nat}(hc:Hr ops L m)(hi:i<ops.size):Hr ops (L.setIfInBounds i true) (m||| 2^i):=by
 refine⟨by simp [hc.1],fun k=>?_⟩
 rw[Nat.testBit_or,Ydz]
 by_cases h:i=k
 ·subst h
  simp [hc.1,hi]
 ·rw[getD_set_ne false h,hc.2];simp [h]
theorem Pf{dm:List Nat}{m:Nat}:∀{n:Nat},M3 dm m n=true->∀k,k<n->XP dm m k=false
 |n+1,h,k,hk=>by
  simp only[M3,YS,Z6]at h
  rcases YV k n with h'|h'
  ·exact Pf h.2 k h'
  ·obtain rfl:k=n:=by omega
   exact h.1
theorem Pq{dm:List Nat}{m i:Nat}:∀{n:Nat},M4 dm m i n=true->∀k,k<n->XP dm m k=true->k=i
 |n+1,h,k,hk,hr=>by
  simp only[M4,YS,Qt,Z6]at h
  rcases YV k n with h'|h'
  ·exact Pq h.2 k h' hr
  ·obtain rfl:k=n:=by omega
   rcases h.1 with h1|h1
   ·exact JE h1
   ·rw[hr]at h1;cases h1
def AO{σ:Type}(step:Nat->Array Bool->(σ->Prop)->σ->Prop)(K:σ->Prop):List Nat->Array Bool->σ->Prop
 | [],_,s=>K s
 |i::l,L,s=>step i L (AO step K l (L.setIfInBounds i true)) s
theorem YcQ{σ:Type}{step:Nat->Array Bool->(σ->Prop)->σ->Prop}{K:σ->Prop}{free:Nat->Bool}
 (mono:∀(j:Nat) (L:Array Bool) (s:σ) (A B:σ->Prop),(∀s,A s->B s)->step j L A s->step j L B s)
 (strict:∀i L s,free i=true->¬step i L (fun _=>False) s)
 (exch:∀(i:Nat),free i=true->∀(j:Nat) (L:Array Bool) (s:σ) (A:σ->Prop),Down md ops L->i∈Region.ready md ops L->j∈Region.ready md ops L->j≠i->step i L (step j (L.setIfInBounds i true) A) s->step j L (step i (L.setIfInBounds j true) A) s):
 ∀(l:List Nat)(m:Nat)(L:Array Bool)(s:σ),Fq free (K9 md ops) ops.size l m=true->Hr ops L m->Down md ops L->AO step K l L s->Wx step K md ops l.length L s
 | [],m,L,s,hb,hc,hd,h=>by
   refine⟨?_,h⟩
   cases hr:Region.ready md ops L with
   |nil=>rfl
   |cons x r=>
    have hx:x∈Region.ready md ops L:=by rw[hr];exact KF
    have:=(Gu hc).1 hx
    rw[Pf hb x this.1]at this
    exact absurd this.2 (by simp)
 |i::l,m,L,s,hb,hc,hd,h=>by
  simp only[Fq,YS,Qt]at hb
  obtain⟨⟨⟨h1,h2⟩,h3⟩,h4⟩:=hb
  have hin:i<ops.size:=by have:=KI h1;omega
  have hri:i∈Region.ready md ops L:=(Gu hc).2 ⟨hin,h2⟩
  have hrest:=mono i L s _ _ (fun s' hs'=>YcQ mono strict exch l _ _ s' h4 (Io hc hin) (hd.set hri) hs') h
  rcases h3 with h3|h3
  ·exact Ts mono (fun L s=>strict i L s h3) (exch i h3) _ L s hd hri hrest
  ·refine⟨fun h0=>(by rw[h0]at hri;cases hri),fun j hj=>?_⟩
   obtain⟨hjn,hrj⟩:=(Gu hc).1 hj
   obtain rfl:=Pq h3 j hjn hrj
   exact hrest
def Fx{σ:Type}(step:Nat->Array Bool->(σ->Prop)->σ->Prop)(K:σ->Prop):OT->Array Bool->σ->Prop
 | .nil,_,s=>K s
 | .op i t,L,s=>step i L (Fx step K t (L.setIfInBounds i true)) s
 | .br a b,L,s=>Fx step K a L s/\Fx step K b L s
theorem Ip{dm:List Nat}{m:Nat}{hs:List Nat}:∀{n:Nat},DH dm m hs n=true->∀k,k<n->XP dm m k=true->k∈hs
 |n+1,h,k,hk,hr=>by
  simp only[DH,YS,Qt,Z6]at h
  rcases YV k n with h'|h'
  ·exact Ip h.2 k h' hr
  ·obtain rfl:k=n:=by omega
   rcases h.1 with h1|h1
   ·exact List.contains_iff_mem.1 h1
   ·rw[hr]at h1;cases h1
theorem LA{free:Nat->Bool}{dm:List Nat}{n:Nat}:∀{t:OT}{m:Nat}{ex:Bool},QL free dm n t m ex=true->∀i∈t.heads,i<n/\XP dm m i=true
 | .nil,_,_,_,i,hi=>by cases hi
 | .op j t,m,ex,h,i,hi=>by
   simp only[QL,YS]at h
   obtain rfl:i=j:=by simpa [OT.heads]using hi
   exact⟨by have:=KI h.1.1.1;omega,h.1.1.2⟩
 | .br a b,m,ex,h,i,hi=>by
   simp only[QL,YS]at h
   rcases KE.1 hi with hi|hi
   ·exact LA h.1.2 i hi
   ·exact LA h.2 i hi
theorem OR{free:Nat->Bool}{dm:List Nat}{n:Nat}:∀{t:OT}{m:Nat},QL free dm n t m true=true->∃i,i∈t.heads
 | .nil,_,h=>by simp [QL]at h
 | .op j t,_,_=>⟨j,by simp [OT.heads]⟩
 | .br a b,m,h=>by
   simp only[QL,YS]at h
   obtain⟨i,hi⟩:=OR h.1.2
   exact⟨i,List.mem_append_left _ hi⟩
theorem Yay{free:Nat->Bool}{dm:List Nat}{n:Nat}:∀{t:OT}{m:Nat},QL free dm n t m true=true->∃k,t.len=k+1
 | .nil,_,h=>by simp [QL]at h
 | .op j t,_,_=>⟨t.len,rfl⟩
 | .br a b,m,h=>by
   simp only[QL,YS]at h
   show∃k,a.len=k+1
   exact Yay h.1.2
theorem Cd{σ:Type}{step:Nat->Array Bool->(σ->Prop)->σ->Prop}{K:σ->Prop}{free:Nat->Bool}
 (mono:∀(j:Nat) (L:Array Bool) (s:σ) (A B:σ->Prop),(∀s,A s->B s)->step j L A s->step j L B s)
 (strict:∀i L s,free i=true->¬step i L (fun _=>False) s)
 (exch:∀(i:Nat),free i=true->∀(j:Nat) (L:Array Bool) (s:σ) (A:σ->Prop),Down md ops L->i∈Region.ready md ops L->j∈Region.ready md ops L->j≠i->step i L (step j (L.setIfInBounds i true) A) s->step j L (step i (L.setIfInBounds j true) A) s):
 ∀(t:OT)(m:Nat)(ex:Bool)(L:Array Bool)(s:σ),QL free (K9 md ops) ops.size t m ex=true->Hr ops L m->Down md ops L->Fx step K t L s->
  (ex=false->Wx step K md ops t.len L s)/\∀i∈t.heads,∀k,t.len=k+1->step i L (Wx step K md ops k (L.setIfInBounds i true)) s
 | .nil,m,ex,L,s,hb,hc,hd,h=>by
   simp only[QL,YS]at hb
   refine⟨fun _=>⟨?_,h⟩,fun i hi=>by cases hi⟩
   cases hr:Region.ready md ops L with
   |nil=>rfl
   |cons x r=>
    have hx:x∈Region.ready md ops L:=by rw[hr];exact KF
    have:=(Gu hc).1 hx
    rw[Pf hb.2 x this.1]at this
    exact absurd this.2 (by simp)
 | .op i t,m,ex,L,s,hb,hc,hd,h=>by
   have hb0:=hb
   simp only[QL,YS,Qt]at hb
   obtain⟨⟨⟨h1,h2⟩,h3⟩,h4⟩:=hb
   have hin:i<ops.size:=by have:=KI h1;omega
   have hri:i∈Region.ready md ops L:=(Gu hc).2 ⟨hin,h2⟩
   have hrest:=mono i L s _ _ (fun s' hs'=>(Cd mono strict exch t _ false _ s' h4 (Io hc hin) (hd.set hri) hs').1 rfl) h
   refine⟨fun hex=>?_,fun j hj k hk=>?_⟩
   ·rcases h3 with(h3|h3) |h3
    ·rw[hex]at h3;cases h3
    ·exact Ts mono (fun L s=>strict i L s h3) (exch i h3) _ L s hd hri hrest
    ·refine⟨fun h0=>(by rw[h0]at hri;cases hri),fun j hj=>?_⟩
     obtain⟨hjn,hrj⟩:=(Gu hc).1 hj
     obtain rfl:=Pq h3 j hjn hrj
     exact hrest
   ·obtain rfl:j=i:=by simpa [OT.heads]using hj
    obtain rfl:t.len=k:=by simpa [OT.len]using hk
    exact hrest
 | .br a b,m,ex,L,s,hb,hc,hd,h=>by
   have hb0:=hb
   simp only[QL,YS,Qt]at hb
   obtain⟨⟨⟨h1,h2⟩,h3⟩,h4⟩:=hb
   have hl:a.len=b.len:=JE h2
   have ha:=(Cd mono strict exch a m true L s h3 hc hd h.1).2
   have hb':=(Cd mono strict exch b m true L s h4 hc hd h.2).2
   have hall:∀i∈(OT.br a b).heads,∀k,(OT.br a b).len=k+1->step i L (Wx step K md ops k (L.setIfInBounds i true)) s:=by
    intro i hi k hk
    rcases KE.1 hi with hi|hi
    ·exact ha i hi k hk
    ·exact hb' i hi k (by rw[<-hl];exact hk)
   refine⟨fun hex=>?_,hall⟩
   rcases h1 with h1|h1
   ·rw[hex]at h1;cases h1
   ·obtain⟨k,hk⟩:=Yay h3
    show Wx step K md ops a.len L s
    rw[hk]
    refine⟨fun h0=>?_,fun j hj=>?_⟩
    ·obtain⟨i,hi⟩:=OR h3
     have:=(Gu hc).2 (LA h3 i hi)
     rw[h0]at this;cases this
    ·obtain⟨hjn,hrj⟩:=(Gu hc).1 hj
     exact hall j (Ip h1 j hjn hrj) k hk
theorem EZ:Down md ops (WS ops.size false):=by
 refine⟨by simp,fun i o _ h=>?_⟩
 exfalso
 rcases YV i ops.size with h'|h'
 ·simp [h']at h
 ·simp [Array.getElem?_eq_none,h']at h
theorem In:Hr ops (WS ops.size false) 0:=by
 refine⟨by simp,fun i=>?_⟩
 rcases YV i ops.size with h'|h'
 ·simp [h']
 ·simp [Array.getElem?_eq_none,h']
end
end Go.Vx
namespace Go.Vx
open Go.RowKit
structure KJ where
 idx:Nat
 slot:Nat
 cells:AL
def Xx:List SV->List KJ->List SV
 |fr,[]=>fr
 |fr,p::l=>Km (Xx fr l) p.slot .junk
def KX:List HO->List KJ->List HO
 |hp,[]=>hp
 |hp,p::l=>Kz (KX hp l) p.idx .gone
theorem AL.ho_ne(z:AL):z.ho≠ .gone:=by cases z <;> (intro h;cases h)
def er(Pd:List KJ)(s:S):S:={ fr:=Xx s.fr Pd,saved:=s.saved,hp:=KX s.hp Pd}
def PR(w0:Cx)(Pd:List KJ)(s:S)(a:Act)(sv:List Act)(w:World):Prop:=
 Rl w0 (er Pd s) a sv w/\∀p∈Pd,Yq s.hp p.idx=p.cells.ho/\Km s.fr p.slot (.ptr p.idx 0)=s.fr
section
variable {Pd:List KJ} {hp:List HO} {fr:List SV}
theorem Gb:∀(Pd:List KJ),Yi (KX hp Pd)=Yi hp
 | []=>rfl
 |p::l=>by rw[KX,G6,Gb l]
theorem Lq:∀{Pd:List KJ}{n:Nat},(∀p∈Pd,p.slot≠n)->Kn (Xx fr Pd) n=Kn fr n
 | [],_,_=>rfl
 |p::l,n,h=>by
  rw[Xx,ME _ _ _ _ (h p KF),Lq fun q hq=>h q (KH _ hq)]
theorem Ln:∀{Pd:List KJ}{n:Nat},(∀p∈Pd,p.idx≠n)->Yq (KX hp Pd) n=Yq hp n
 | [],_,_=>rfl
 |p::l,n,h=>by
  rw[KX,WC _ _ _ _ (h p KF),Ln fun q hq=>h q (KH _ hq)]
theorem Ll:∀{Pd:List KJ}{p:KJ},p∈Pd->Yq (KX hp Pd) p.idx= .gone
 |q::l,p,h=>by
  rw[KX]
  by_cases he:q.idx=p.idx
  ·rw[he]
   rcases YV p.idx (Yi (KX hp l))with hl|hl
   ·rw[HW _ _ _ hl]
   ·rw[WB _ _ (by rw[G6];exact hl)]
  ·rw[WC _ _ _ _ he]
   rcases K4.1 h with rfl|h
   ·exact absurd rfl he
   ·exact Ll h
theorem BN:∀{Pd:List KJ}{n:Nat}{x:SV},(∀p∈Pd,p.slot≠n)->Xx (Km fr n x) Pd=Km (Xx fr Pd) n x
 | [],_,_,_=>rfl
 |p::l,n,x,h=>by
  rw[Xx,Xx,BN (fun q hq=>h q (KH _ hq)),Fs _ _ _ _ _ (fun e=>h p KF e.symm)]
theorem P7:∀(l:List HO)(n m:Nat)(x y:HO),n≠m->Kz (Kz l n x) m y=Kz (Kz l m y) n x
 | [],_,_,_,_,_=>rfl
 |_::_,0,0,_,_,h=>absurd rfl h
 |_::_,0,_+1,_,_,_=>rfl
 |_::_,_+1,0,_,_,_=>rfl
 |a::l,n+1,m+1,x,y,h=>congrArg (a::·) (P7 l n m x y (fun e=>h (by rw[e])))
theorem Lu:∀{Pd:List KJ}{n:Nat}{x:HO},(∀p∈Pd,p.idx≠n)->KX (Kz hp n x) Pd=Kz (KX hp Pd) n x
 | [],_,_,_=>rfl
 |p::l,n,x,h=>by
  rw[KX,KX,Lu (fun q hq=>h q (KH _ hq)),P7 _ _ _ _ _ (fun e=>h p KF e.symm)]
theorem YcW:∀(a b:List HO)(n:Nat)(x:HO),n<Yi a->Kz (a++b) n x=Kz a n x++b
 | [],_,_,_,h=>by simp [Yi]at h
 |_::_,_,0,_,_=>rfl
 |y::a,b,n+1,x,h=>congrArg (y::·) (YcW a b n x (by simpa [Yi]using h))
theorem Rd:∀(a:List HO)(x:HO),J6 a x=a++[x]
 | [],_=>rfl
 |y::a,x=>congrArg (y::·) (Rd a x)
theorem BG{hs:List HO}:∀{Pd:List KJ},(∀p∈Pd,p.idx<Yi hp)->KX (hp++hs) Pd=KX hp Pd++hs
 | [],_=>rfl
 |p::l,h=>by
  rw[KX,KX,BG (fun q hq=>h q (KH _ hq)),YcW _ _ _ _ (by rw[Gb];exact h p KF)]
theorem Lv{x:HO}(h:∀p∈Pd,p.idx<Yi hp):KX (J6 hp x) Pd=J6 (KX hp Pd) x:=by
 rw[Rd,Rd,BG h]
theorem LY{w:World}{bs:List BK}{B:Bd}{i:Nat}{x:BK}(hH:Hp w bs B (KX hp Pd))(hb:bs[i]? =some x)(hx:x≠ .gone):(∀p∈Pd,p.idx≠i)/\Yq (KX hp Pd) i=Yq hp i:=by
 have:∀p∈Pd,p.idx≠i:=by
  rintro p hp rfl
  have:=hH.ent p.idx
  rw[Ll hp]at this
  rcases this with h|h
  ·rw[hb]at h;cases h;exact hx rfl
  ·rw[hb]at h;cases h
 exact⟨this,Ln this⟩
theorem hpV{w:World}{bs:List BK}{B:Bd}(hH:Hp w bs B (KX hp Pd)):HpV w bs B hp:=
 ⟨fun i x hb hx=>by have:=hH.ent i;rw[(LY hH hb hx).2]at this;exact this,fun _ _ _ _ hb=>hH.le hb,hH.lo,fun _ _ _ _ hb=>hH.un hb⟩
theorem EA{w:World}{bs:List BK}{B:Bd}{b:Nat}:∀{x:SV}{v:Value},Rep w bs B x v->blk x=some b->∃y,bs[b]? =some y/\y≠ .gone
 |_,_,.x _ _ h,hb=>by cases h <;> cases hb
 |_,_,.agg _ _ _,hb=>by cases hb
 |_,_,.tup _ _ _,hb=>by cases hb
 |_,_,.fn _ _ _ _ _ _ _,hb=>by cases hb
 |_,_,.iface _ _ _ _,hb=>by cases hb
 |_,_,.ptr i off b' n h,hb=>by cases hb;exact⟨_,h,by simp⟩
 |_,_,.own i lo n size b' cap m ad h hl ha,hb=>by cases hb;exact⟨_,h,by simp⟩
 |_,_,.ownNil i size h,hb=>by cases hb;exact⟨_,h,by simp⟩
 |_,_,.elem i k off size b' cap m h hk,hb=>by cases hb;exact⟨_,h,by simp⟩
 |_,_,.smp _ _ _,hb=>by cases hb
 |_,_,.optT _ _ _,hb=>by cases hb
 |_,_,.optF _,hb=>by cases hb
 |_,_,.cut _ _ _ _ h,hb=>EA h hb
theorem YkB{w:World}{bs:List BK}{B:Bd}{xs:List SV}{vs:List Value}(h:RepL w bs B xs vs):∃v,Rep w bs B (QW xs) v:=by
 cases h with
 |nil=>exact⟨undef,.x _ _ (.junk _)⟩
 |cons x v l vs h h'=>exact⟨v,h⟩
theorem BI{w:World}{bs:List BK}{B:Bd}{b:Nat}{xs:List SV}{vs:List Value}(hH:Hp w bs B (KX hp Pd))(h:RepL w bs B xs vs)(hb:blk (QW xs)=some b):(∀p∈Pd,p.idx≠b)/\Yq (KX hp Pd) b=Yq hp b:=by
 obtain⟨v,hv⟩:=YkB h
 obtain⟨y,h1,h2⟩:=EA hv hb
 exact LY hH h1 h2
theorem Yrf{hp hp':List HO}{n n':Nat}{o:VO}(ho:o.isStore=true){xs:List SV}(h:∀b,blk (QW xs)=some b->Yq hp' b=Yq hp b):eff hp' n' o xs=eff hp n o xs:=by
 cases o <;> simp only[VO.isStore,reduceCtorEq]at ho
 rename_i size
 rcases xs with _| ⟨a,_| ⟨v,_| ⟨c,l⟩⟩⟩ <;> try rfl
 have key:storeAt hp' size (ZM v) a=storeAt hp size (ZM v) a:=by
  cases a <;> try rfl
  case ptr i off=>have:=h i rfl;simp only[storeAt,this]
  case elem i k off sz=>have:=h i rfl;simp only[storeAt,this]
 simp only[eff,HN,key]
theorem YkC{hp hp':List HO}{n:Nat}{o:VO}(hq:o.quiet=false)(ha:o.isAppend=false)(hbad:o.bad=false){xs:List SV}(h:∀b,blk (QW xs)=some b->Yq hp' b=Yq hp b):eff hp' n o xs=eff hp n o xs:=by
 cases hs:o.isStore with
 |true=>exact Yrf hs h
 |false=>cases o <;> simp only[VO.quiet,VO.isStore,VO.isAppend,VO.bad,reduceCtorEq]at hq hs ha hbad <;> rfl
end
end Go.Vx
namespace Go.Vx
open Go.RowKit
open Go.MapKept (run_setObj_map modify_keys)
section
variable {P:Program} {ρ:Operand->Value} {w w':World} {bs bs':List BK} {B:Bd} {hp:List HO}
def Bd.cx(B:Bd)(w:World):Cx0:={ toWorld:=w,F:=fun b=>B.I b=none,I:=B.I,up:=fun _ _ h=>h,ex:=fun _ h=>h}
def bdZ:Bd:=⟨0,fun _=>True,fun _=>none,fun _ _ _=>trivial,fun _ _=>rfl⟩
theorem Yly{kk:List IntKind}:∀{l l':List Int},l.length=kk.length->l'.length=kk.length->Jh kk l=Jh kk l'->l=l':=by
 intro l l' h1 h2 h
 simp only[Jh,Value.agg.injEq]at h
 have h:(kk.zip l).map (fun p=>Value.int p.1 p.2)=(kk.zip l').map (fun p=>Value.int p.1 p.2):=by simpa using congrArg Array.toList h
 induction kk generalizing l l' with
 |nil=>cases l <;> cases l' <;> simp at h1 h2⊢
 |cons k kk ih=>
  cases l with
  |nil=>simp at h1
  |cons x l=>
   cases l' with
   |nil=>simp at h2
   |cons y l'=>
    simp only[List.zip_cons_cons,KD,List.cons.injEq,Value.int.injEq,true_and]at h
    rw[h.1,ih (by simpa using h1) (by simpa using h2) (by simp [Jh,h.2]) h.2]
def WD(kk:List IntKind)(l:List Int):List Value:=(kk.zip l).map fun p=> .int p.1 p.2
def HY(kk:List IntKind)(l:List Int):List SV:=(kk.zip l).map fun p=> .int p.1 p.2
theorem O0{kk:List IntKind}{l:List Int}:RepL w bs B (HY kk l) (WD kk l):=by
 unfold HY WD
 induction kk.zip l with
 |nil=>exact .nil
 |cons p r ih=>exact .cons _ _ _ _ (.x _ _ (.int _ _)) ih
theorem Yag:∀{fs:List Field}{k:Nat}{kk:List IntKind},W6 P k fs=some kk->G4 P k fs=some (kk.map fun _=>true)
 | [],k,kk,h=>by simp only[W6,Option.some.injEq]at h;subst h;rfl
 |f::fs,k,kk,h=>by
  simp only[W6]at h
  split at h
  ·rename_i hc
   split at h
   ·rename_i kd hu
    obtain⟨kk',h1,rfl⟩:=YO.1 h
    simp only[G4]
    rw[if_pos hc]
    simp [U8,hu,Yag h1]
   ·cases h
  ·cases h
theorem Th:∀{kk:List IntKind}{l l':List Int},l.length=kk.length->l'.length=kk.length->∃p,Qh (kk.map fun _=>true) (HY kk l) (HY kk l')=some (p,decide (l=l'))/\p
 | [],l,l',h1,h2=>by
   cases l <;> cases l' <;> simp at h1 h2
   exact⟨True,by simp [HY,Qh],trivial⟩
 |k::kk,l,l',h1,h2=>by
  cases l with
  |nil=>simp at h1
  |cons x l=>
   cases l' with
   |nil=>simp at h2
   |cons y l'=>
    obtain⟨p,h3,h4⟩:=Th (kk:=kk) (l:=l) (l':=l') (by simpa using h1) (by simpa using h2)
    refine⟨k=k/\p,?_,rfl,h4⟩
    simp only[HY,KD,List.zip_cons_cons,Qh]
    have h3':Qh (kk.map fun _=>true) ((kk.zip l).map fun p=> .int p.1 p.2) ((kk.zip l').map fun p=> .int p.1 p.2)=some (p,decide (l=l')):=h3
    rw[h3']
    simp
theorem YaI{t:TypeId}{kk:List IntKind}(h:VN P t=some kk):∃k e fs,P.underlying t=some (.map k e)/\P.underlying k=some (.struct fs)/\P.stoodInHeld k=false/\W6 P 0 fs.toList=some kk/\(∀w:World,(zeroValue e).run P w= .ok (.int .i64 0) w):=by
 unfold VN at h
 split at h
 ·rename_i k e hu
  split at h
  ·rename_i fs hk
   split at h
   ·rename_i hc
    simp only[YS,Z6]at hc
    refine⟨k,e,fs,hu,hk,hc.2,h,fun w=>?_⟩
    have hz:=hc.1
    unfold YeY at hz
    split at hz
    ·rename_i i hi
     split at hz
     ·rename_i hz0
      simp [zeroValue,typeInfo,hi,hz0]
     ·cases hz
    ·cases hz
   ·cases h
  ·cases h
 ·cases h
theorem Yqv{k:TypeId}{fs:Array Field}{kk:List IntKind}(hk:P.underlying k=some (.struct fs))(hs:P.stoodInHeld k=false)(hi:W6 P 0 fs.toList=some kk){l l':List Int}(h1:l.length=kk.length)(h2:l'.length=kk.length):
 (Op.equal k (Jh kk l) (Jh kk l')).run P w= .ok (decide (l=l')) w:=by
 obtain⟨p,h3,h4⟩:=Th h1 h2
 have hu':P.underlying k=some (.struct (P.fieldsOf k)):=by simp [Program.fieldsOf,hk]
 have hf:(P.fieldsOf k).toList=fs.toList:=by simp [Program.fieldsOf,hk]
 have hrun:=run_equalIn_struct (P:=P) w 9999 k (WD kk l).toArray (WD kk l').toArray hu' hs
 rw[hf,E7 (d:=9998) (X:=WD kk l) (Y:=WD kk l') (bs:=[]) (B:=bdZ) (Yag hi) h3 h4 (by simpa using O0) (by simpa using O0)]at hrun
 simpa [Op.equal,Op.maxDepth,Jh,WD]using hrun
theorem PY{k:TypeId}{fs:Array Field}{kk:List IntKind}(hk:P.underlying k=some (.struct fs))(hs:P.stoodInHeld k=false)(hi:W6 P 0 fs.toList=some kk){l:List Int}(h1:l.length=kk.length):
 ∀(es:List MapEntry)(i:Nat),(∀e∈es,∃l,l.length=kk.length/\e.key=Jh kk l)->
  ((Instr.findAsking k (Jh kk l) es i).run P w= .ok none w)\/∃j e,(Instr.findAsking k (Jh kk l) es i).run P w= .ok (some (i+j,e.val)) w/\es[j]? =some e/\e.key=Jh kk l
 | [],i,_=> .inl rfl
 |e::es,i,h=>by
  obtain⟨l',h2,h3⟩:=h e KF
  have hq:=Yqv (w:=w) hk hs hi h1 h2
  unfold Instr.findAsking
  rw[h3]
  simp only[Sem.run_bind,hq,Result.andThen_ok]
  by_cases hl:l=l'
  ·right
   refine⟨0,e,by simp [hl],rfl,by rw[h3,hl]⟩
  ·simp only[hl,decide_false,XD,if_false]
   rcases PY hk hs hi h1 es (i+1) (fun e he=>h e (KH _ he))with h4| ⟨j,e',h4,h5,h6⟩
   ·exact .inl h4
   ·exact .inr ⟨j+1,e',by rw[h4,show i+1+j=i+(j+1)by omega],by simpa using h5,h6⟩
theorem AI{kk:List IntKind}{l:List Int}{k:TypeId}{fs:Array Field}(hk:P.underlying k=some (.struct fs))(hi:W6 P 0 fs.toList=some kk)(h1:l.length=kk.length)(em:Bool):(Instr.checkKey em 10000 k (Jh kk l)).run P w= .ok () w:=by
 have key:∀(gs:List Field)(j:Nat)(kj:List IntKind)(lj:List Int)(X:List Value),W6 P j gs=some kj->lj.length=kj.length->X.drop j=WD kj lj->
  (forIn gs PUnit.unit (fun(f:Field) (_:PUnit)=>(if f.name≠ "_" then do let a<-part f.type X.toArray f.offset;Instr.checkKey em 9999 f.type a;pure (ForInStep.yield PUnit.unit)else pure (ForInStep.yield PUnit.unit):Sem (ForInStep PUnit)))).run P w= .ok PUnit.unit w:=by
  intro gs
  induction gs with
  |nil=>intro j kj lj X _ _ _;simp
  |cons f gs ih=>
   intro j kj lj X hkj hlj hX
   simp only[W6]at hkj
   split at hkj
   ·rename_i hc
    simp only[YS,beq_iff_eq,bne_iff_ne,ne_eq]at hc
    obtain⟨⟨c1,c2⟩,c3⟩:=hc
    split at hkj
    ·rename_i kd hu
     obtain⟨kj',hk',rfl⟩:=YO.1 hkj
     cases lj with
     |nil=>simp at hlj
     |cons x lj=>
      have hX':X.drop j= .int kd x::WD kj' lj:=by rw[hX];rfl
      obtain⟨d1,d2⟩:=Uf hX'
      have hp:(part f.type X.toArray f.offset).run P w= .ok (.int kd x) w:=by
       rw[c2]
       exact Nw (b:=true) (by simp [U8,hu]) d1
      have hck:(Instr.checkKey em 9999 f.type (.int kd x)).run P w= .ok () w:=by
       unfold Instr.checkKey
       simp [run_underlying hu,Result.andThen]
      have ih':=ih (j+1) kj' lj X hk' (by simpa using hlj) d2
      simp only[List.forIn_cons,Sem.run_bind,ne_eq,c3,not_false_eq_true,if_true,hp,Result.andThen_ok,hck,Sem.run_pure]
      exact ih'
    ·cases hkj
   ·cases hkj
 have:=key fs.toList 0 kk l (WD kk l) hi h1 rfl
 unfold Instr.checkKey
 simp only[Sem.run_bind,run_underlying hk,Result.andThen_ok,Jh]
 rw[<-Array.forIn_toList]
 simp [WD]at this⊢
 rw[this]
 rfl
theorem YqE{kk:List IntKind}{l:List Int}:Instr.sameBits 10000 (Jh kk l) (Jh kk l)=true:=by
 have h:∀(vs:List (IntKind×Int)),((vs.map fun p=>Value.int p.1 p.2).zip (vs.map fun p=>Value.int p.1 p.2)).all (fun(x,y)=>Instr.sameBits 9999 x y)=true:=by
  intro vs
  induction vs with
  |nil=>rfl
  |cons p r ih=>simp only[KD,List.zip_cons_cons,List.all_cons,ih,Bool.and_true];simp [Instr.sameBits]
 unfold Jh Instr.sameBits
 simp only[beq_self_eq_true,Bool.true_and]
 exact h (kk.zip l)
theorem LH:∀{kk:List IntKind}{cs:List SV}{p:Prop}{l:List Int}{vs:List Value},Uo kk cs=some (p,l)->p->RepL w bs B cs vs->vs=WD kk l/\l.length=kk.length
 | [],cs,p,l,vs,h,hp,hr=>by
   cases cs with
   |nil=>simp only[Uo,Option.some.injEq,Prod.mk.injEq]at h;obtain⟨_,rfl⟩:=h;cases hr;exact⟨rfl,rfl⟩
   |cons=>simp [Uo]at h
 |k::kk,cs,p,l,vs,h,hp,hr=>by
  cases cs with
  |nil=>simp [Uo]at h
  |cons c cs=>
   cases c <;> simp only[Uo,reduceCtorEq]at h
   rename_i k' x
   obtain⟨⟨q,r⟩,h1,h2⟩:=YO.1 h
   simp only[Prod.mk.injEq]at h2
   obtain⟨rfl,rfl⟩:=h2
   obtain⟨rfl,hq⟩:=hp
   obtain⟨v,vs',rfl,g1,g2⟩:=hr.cons_inv
   obtain⟨rfl,hl⟩:=LH h1 hq g2
   rw[g1.int_inv]
   exact⟨rfl,by simp [hl]⟩
theorem hp0{z:Cx0}{w':World}{J:Nat->Option IK}{hJ:Ext z J}(h:∀(b:Nat) (K:IK),J b=some K->∃o,w'.heap[b]? =some o/\K.ok o):Hp w' [] (z.wI J hJ).bd []:=
 ⟨rfl,fun i=> .inr (by simp),fun _ _ _ _ _ _ _ h=>by simp at h,fun _ _ _ _ h=>by simp at h,fun b K hb=>⟨VH,h b K hb⟩⟩
theorem Ql(z:Cx0):Ext z z.I:=⟨fun _ _=>rfl,fun _ _ h=>h⟩
def POk(P:Program)(ρ:Operand->Value)(op:Op)(w:World)(B:Bd)(k:SV->List HO->Prop):Prop:=
 ∃r v w' x J,∃hJ:Ext (B.cx w) J,(∀dst type pos after guard,(execOp ρ ⟨dst,op,type,pos,after,guard⟩).run P w= .ok r w')/\(r= .value v\/(r= .skip/\v=undef))/\k x []/\
  Rep w' [] ((B.cx w).wI J hJ).bd x v/\Hp w' [] ((B.cx w).wI J hJ).bd []/\BelowI (B.cx w).bd w w'/\Y0 x
theorem YeS{b:Nat}{o:Obj}{K:IK}(hw:Wrote w w' b o)(hI:B.I b=some K):BelowI (B.cx w).bd w w':=
 ⟨hw.os,hw.tape,hw.output,YB hw.size.symm,fun k hk hIk=>hw.other k (by rintro rfl;have h:B.I k=none:=hIk;rw[hI]at h;cases h)⟩
theorem YeT(hH:Hp w bs B hp){b:Nat}{o:Obj}{K:IK}(hw:Wrote w w' b o)(hI:B.I b=some K)(ho:K.ok o):∀(b:Nat)(K:IK),B.I b=some K->∃o,w'.heap[b]? =some o/\K.ok o:=by
 intro b' K' hI'
 by_cases hb:b'=b
 ·subst hb
  rw[hI]at hI';cases hI'
  exact⟨o,hw.at_,ho⟩
 ·obtain⟨_,o',h1,h2⟩:=hH.reg b' K' hI'
  exact⟨o',by rw[hw.other b' hb];exact h1,h2⟩
theorem Yc0{b:Nat}{o o':Obj}(hb:w.heap[b]? =some o):Wrote w { w with heap:=w.heap.setIfInBounds b o'} b o':=by
 have hbl:b<w.heap.size:=(Xh.1 hb).1
 exact⟨rfl,rfl,rfl,by simp,by simp [hbl],fun r hr=>by simp [Ne.symm hr]⟩
inductive Ht (P:Program):Op->VO->List Operand->Prop where
 |load (t:TypeId) (a:Operand) (g:Bool) (s:Nat) (hg:X1 P t=some g) (hs:sizeOf? P t=some s) (hc:chk g s=true):Ht P (.load t a) (.load g s) [a]
 |store (t:TypeId) (a x:Operand) (s:Nat) (hs:sizeOf? P t=some s):Ht P (.store t a x) (.store s) [a,x]
 |mk (t:TypeId) (kk:List IntKind) (h:VN P t=some kk):Ht P (.makeMap t none) (.mkMap kk) []
 |get (t:TypeId) (m k:Operand) (kk:List IntKind) (h:VN P t=some kk):Ht P (.lookup t m k true) (.mapGet kk) [m,k]
 |put (t:TypeId) (m k x:Operand) (kk:List IntKind) (h:VN P t=some kk):Ht P (.mapUpdate t m k x) (.mapPut kk) [m,k,x]
theorem YtR{op:BinOp}{t:TypeId}{v:VO}(hv:NM P op t=some v)(xs:List SV):psd v xs=none:=by
 cases op <;> simp only[NM]at hv
 ·split at hv <;> cases hv;rfl
 ·split at hv <;> cases hv;rfl
 ·cases hv;rfl
 ·cases hv;rfl
 ·cases hv;rfl
 ·cases hv;rfl
 ·cases hv;rfl
 ·cases hv;rfl
 ·cases hv;rfl
 ·cases hv;rfl
 ·cases hv;rfl
 ·split at hv
  ·cases hv;rfl
  ·split at hv
   ·cases hv;rfl
   split at hv
   ·cases hv;rfl
   ·obtain⟨ks,hk,rfl⟩:=YO.1 hv
    rfl
 ·split at hv
  ·cases hv;rfl
  ·split at hv
   ·cases hv;rfl
   split at hv
   ·cases hv;rfl
   ·obtain⟨ks,hk,rfl⟩:=YO.1 hv
    rfl
 ·cases hv;rfl
 ·cases hv;rfl
 ·cases hv;rfl
 ·cases hv;rfl
theorem YtW{o:Oper}{vo:VO}{ops:List Operand}(hv:vop P o=some (vo,ops)):Ht P o.op vo ops\/∀xs,psd vo xs=none:=by
 obtain⟨dst,op,type,pos,after,guard⟩:=o
 unfold vop at hv
 simp only at hv
 split at hv
 ·cases hv;exact .inr fun _=>rfl
 ·cases hv;exact .inr fun _=>rfl
 ·cases hv;exact .inr fun _=>rfl
 ·split at hv
  ·obtain⟨kk,hk,hv⟩:=YO.1 hv
   cases hv;exact .inl (.mk _ kk hk)
  ·split at hv <;> cases hv
   exact .inr fun _=>rfl
 ·split at hv
  ·cases hv;exact .inr fun _=>rfl
  ·obtain⟨kk,hk,hv⟩:=YO.1 hv
   cases hv;exact .inl (.put _ _ _ _ kk hk)
 ·obtain⟨kk,hk,hv⟩:=YO.1 hv
  cases hv;exact .inl (.get _ _ _ kk hk)
 ·cases hv;exact .inr fun _=>rfl
 ·cases hv;exact .inr fun _=>rfl
 ·split at hv
  ·obtain⟨z,hz,hv⟩:=YC.1 hv
   obtain⟨s,hs,hv⟩:=YO.1 hv
   cases hv;exact .inr fun _=>rfl
  ·obtain⟨z,hz,hv⟩:=YO.1 hv
   cases hv;exact .inr fun _=>rfl
 ·cases hv;exact .inr fun _=>rfl
 ·obtain⟨z,hz,hv⟩:=YC.1 hv
  obtain⟨pl,hpl,hv⟩:=YC.1 hv
  split at hv <;> cases hv
  exact .inr fun _=>rfl
 ·obtain⟨g,hg,hv⟩:=YC.1 hv
  obtain⟨s,hs,hv⟩:=YC.1 hv
  split at hv <;> cases hv
  exact .inl (.load _ _ g s hg hs ‹_›)
 ·obtain⟨s,hs,hv⟩:=YO.1 hv
  cases hv
  exact .inl (.store _ _ _ s hs)
 ·split at hv <;> cases hv
  exact .inr fun _=>rfl
 ·split at hv <;> cases hv
  exact .inr fun _=>rfl
 ·obtain⟨v,hb,hv⟩:=YO.1 hv
  cases hv
  exact .inr (YtR hb)
 ·cases hv;exact .inr fun _=>rfl
 ·cases hv;exact .inr fun _=>rfl
 ·split at hv <;> cases hv
  exact .inr fun _=>rfl
 ·obtain⟨fs,hfs,hv⟩:=YC.1 hv
  obtain⟨fd,hfd,hv⟩:=YC.1 hv
  obtain⟨z,hz,hv⟩:=YC.1 hv
  split at hv <;> cases hv
  exact .inr fun _=>rfl
 ·obtain⟨fs,hfs,hv⟩:=YC.1 hv
  obtain⟨fd,hfd,hv⟩:=YC.1 hv
  obtain⟨z,hz,hv⟩:=YC.1 hv
  obtain⟨g,hg,hv⟩:=YC.1 hv
  split at hv <;> cases hv
  exact .inr fun _=>rfl
 ·split at hv
  ·obtain⟨s,hs,hv⟩:=YO.1 hv
   cases hv;exact .inr fun _=>rfl
  ·obtain⟨s,hs,hv⟩:=YO.1 hv
   cases hv;exact .inr fun _=>rfl
  ·cases hv
 ·split at hv
  ·obtain⟨s,hs,hv⟩:=YC.1 hv
   obtain⟨g,hg,hv⟩:=YC.1 hv
   split at hv <;> cases hv
   exact .inr fun _=>rfl
  ·cases hv;exact .inr fun _=>rfl
  ·cases hv
 ·split at hv
  ·obtain⟨s,hs,hv⟩:=YO.1 hv
   cases hv;exact .inr fun _=>rfl
  ·obtain⟨s,hs,hv⟩:=YO.1 hv
   cases hv;exact .inr fun _=>rfl
  ·cases hv
 ·split at hv
  ·obtain⟨s,hs,hv⟩:=YO.1 hv
   cases hv;exact .inr fun _=>rfl
  ·cases hv
 ·split at hv
  ·obtain⟨s,hs,hv⟩:=YC.1 hv
   obtain⟨b,hb,hv⟩:=YC.1 hv
   obtain⟨z,hz,hv⟩:=YC.1 hv
   split at hv <;> cases hv
   exact .inr fun _=>rfl
  ·cases hv
 ·split at hv
  ·obtain⟨s,hs,hv⟩:=YC.1 hv
   obtain⟨z,hz,hv⟩:=YC.1 hv
   split at hv <;> cases hv
   exact .inr fun _=>rfl
  ·cases hv
 ·cases hv;exact .inr fun _=>rfl
 ·split at hv
  ·cases hv
  ·cases hv;exact .inr fun _=>rfl
  ·cases hv
 ·cases hv;exact .inr fun _=>rfl
 ·rename_i c
  split at hv
  ·split at hv
   ·cases hv;exact .inr fun _=>rfl
   ·cases hv;exact .inr fun _=>rfl
  ·cases hv;exact .inr fun _=>rfl
  ·cases hv;exact .inr fun _=>rfl
  ·split at hv
   ·cases hv;exact .inr fun _=>rfl
   ·cases hv;exact .inr fun _=>rfl
   ·cases hv;exact .inr fun _=>rfl
   ·cases hv;exact .inr fun _=>rfl
   ·cases hv
  ·cases hv;exact .inr fun _=>rfl
  ·cases hv;exact .inr fun _=>rfl
  ·split at hv
   ·obtain⟨s,hs,hv⟩:=YC.1 hv
    obtain⟨b,hb,hv⟩:=YC.1 hv
    obtain⟨z,hz,hv⟩:=YC.1 hv
    split at hv <;> cases hv
    exact .inr fun _=>rfl
   ·cases hv
  ·cases hv
 ·cases hv
theorem Ymp{t:TypeId}{a:Operand}{C:Int->Prop}{k:SV->List HO->Prop}(hg:X1 P t=some false)(hc:∀v,C v->k (.int .i64 v) [])(hx:Rep w bs B (.rcell C) (ρ a))(hH:Hp w bs B hp):POk P ρ (.load t a) w B k:=by
 obtain⟨n,D,j,b,rfl,hI,hj,hv⟩:=hx.rcell_inv
 obtain⟨_,o,ho,vs,T,rfl,hn,hall⟩:=hH.reg b _ hI
 obtain⟨v,hvv,hC⟩:=hall j hj
 refine⟨.value (.int .i64 v),.int .i64 v,w,.int .i64 v,B.I,Ql (B.cx w),fun dst type pos after guard=>?_,.inl rfl,hc v hC,.x _ _ (.int _ _),hp0 fun b K h=>(hH.reg b K h).2,BelowI.refl _ _,trivial⟩
 simp only[execOp,Instr.loadAt,hv,Instr.sureAddr,loadVar,Sem.run_bind,Sem.run_pure,Result.andThen_ok,Fm hg,XD,if_false,run_load]
 have hcell:w.cell? ⟨b,j,none⟩=some (.int .i64 v):=by
  have h1:Cells w b 0 vs.toList:=⟨vs,T,(0,0),ho,fun q u hq=>by simpa using hq⟩
  have:=h1.cell (j:=j) (v:= .int .i64 v) (by simpa using hvv)
  simpa using this
 rw[hcell];rfl
theorem Yre{t:TypeId}{a x:Operand}{C:Int->Prop}{v:Int}{k:SV->List HO->Prop}(hs:sizeOf? P t=some 1)(hC:C v)(hc:k .junk [])(hx:Rep w bs B (.rcell C) (ρ a))(hy:ρ x= .int .i64 v)(hH:Hp w bs B hp):POk P ρ (.store t a x) w B k:=by
 obtain⟨n,D,j,b,rfl,hI,hj,hv⟩:=hx.rcell_inv
 obtain⟨_,o,ho,vs,T,rfl,hn,hall⟩:=hH.reg b _ hI
 obtain⟨w',cs',hrun,hw,hcs⟩:=AK (P:=P) (ρ:=ρ) (x:=a) (y:=x) hs hv ho (by rw[hy];rfl) (by omega) (by rw[hy];simp [Value.cells,Value.oneCell'])
 have hcs':cs'.toList=vs.toList.set j (.int .i64 v):=by
  rw[hcs,hy]
  simp only[Value.cells,JA,Xr,ZI]
  rw[List.set_eq_take_append_cons_drop,if_pos (by simp;omega)]
  simp
 have hok:(IK.ints n D).ok (.cells cs' T (0,0)):=by
  refine⟨cs',T,rfl,?_,fun q hq=>?_⟩
  ·rw[<-V4,hcs'];simpa using hn
  ·rw[<-Array.getElem?_toList,hcs',Vp]
   split
   ·rename_i he
    subst he
    rw[if_pos (by simp;omega)]
    exact⟨v,rfl,hC⟩
   ·obtain⟨u,h1,h2⟩:=hall q hq
    exact⟨u,by rw[Array.getElem?_toList];exact h1,h2⟩
 exact⟨.skip,undef,w',.junk,B.I,Ql (B.cx w),hrun,.inr ⟨rfl,rfl⟩,hc,.x _ _ (.junk _),hp0 (YeT hH hw hI hok),YeS hw hI,trivial⟩
theorem YmK{t:TypeId}{kk:List IntKind}{k:SV->List HO->Prop}{C:List Int->Int->Prop}(hc:k (.imap kk C) [])(hH:Hp w bs B hp):POk P ρ (.makeMap t none) w B k:=by
 let J:Nat->Option IK:=fun b=>if b=w.heap.size then some (.map kk C)else B.I b
 have hJ:Ext (B.cx w) J:=⟨fun b hb=>by show(if b=w.heap.size then _ else _)=_;rw[if_neg (by have h:b<w.heap.size:=hb;omega)];rfl,fun b K hK=>by
  show(if b=w.heap.size then _ else _)=_
  have hK:B.I b=some K:=hK
  obtain⟨_,o,ho,_⟩:=hH.reg b K hK
  have:=(Xh.1 ho).1
  rw[if_neg (by omega)];exact hK⟩
 refine⟨.value (.map (some w.heap.size)),_,World.push w (.map #[] 0),.imap kk C,J,hJ,fun dst type pos after guard=>?_,.inl rfl,hc,.x _ _ (.imap _ _ _ (by show J _=_;simp [J])),hp0 fun b K hK=>?_,.of (Vc (B:=(B.cx w).bd) _ (Yr _)),trivial⟩
 ·simp [execOp,Instr.makeMap,Result.andThen,run_newObj,World.push]
 ·by_cases hb:b=w.heap.size
  ·subst hb
   have:K= .map kk C:=by have h:J w.heap.size=some K:=hK;simp [J]at h;exact h.symm
   subst this
   exact⟨_,VU, #[],0,rfl,fun e he=>by simp at he⟩
  ·have h:J b=some K:=hK
   simp only[J,if_neg hb]at h
   obtain⟨_,o,ho,hok⟩:=hH.reg b K h
   exact⟨o,Ax ho,hok⟩
theorem YmF{t:TypeId}{m y:Operand}{kk:List IntKind}{C:List Int->Int->Prop}{l:List Int}{k:SV->List HO->Prop}(ht:VN P t=some kk)(hc:∀r:Option Int,(∀v,r=some v->C l v)->k (.tup [.int .i64 (r.getD 0),.bool r.isSome]) [])
 (hx:Rep w bs B (.imap kk C) (ρ m))(hy:ρ y=Jh kk l)(hl:l.length=kk.length)(hH:Hp w bs B hp):POk P ρ (.lookup t m y true) w B k:=by
 obtain⟨b,hI,hv⟩:=hx.imap_inv
 obtain⟨_,o,ho,es,clock,rfl,hall⟩:=hH.reg b _ hI
 obtain⟨kt,et,fs,hu,hk,hst,hki,hz⟩:=YaI ht
 have hkeys:∀e∈es.toList,∃l,l.length=kk.length/\e.key=Jh kk l:=fun e he=>by
  obtain⟨l,v,h1,h2,_⟩:=hall e he;exact⟨l,h1,h2⟩
 have hwide:(match P.underlying kt with|some (.array _ _) |some (.struct _)=>true|_=>false)=true:=by rw[hk]
 have hfin:∀a,(Instr.findAsking kt (Jh kk l) es.toList 0).run P w= .ok a w->(Instr.findKey kt (Jh kk l) es.toList).run P w= .ok a w:=fun a h=>by rw[run_findKey_eq w hwide];exact h
 have fin:∀r:Option Int,(∀v,r=some v->C l v)->(∀dst type pos after guard,(execOp ρ ⟨dst,.lookup t m y true,type,pos,after,guard⟩).run P w= .ok (.value (.tuple #[.int .i64 (r.getD 0),.bool r.isSome])) w)->POk P ρ (.lookup t m y true) w B k:=fun r hr hrun=>
  ⟨_,.tuple #[.int .i64 (r.getD 0),.bool r.isSome],w,_,B.I,Ql (B.cx w),hrun,.inl rfl,hc r hr,.x _ _ (.tup _ _ (.cons _ _ _ _ (.int _ _) (.cons _ _ _ _ (.bool _) .nil))),hp0 fun b K h=>(hH.reg b K h).2,BelowI.refl _ _,by simp [Y0,Y4]⟩
 rcases PY (w:=w) hk hst hki hl es.toList 0 hkeys with h| ⟨j,e,h,h2,h3⟩
 ·refine fin none (fun _ h=>by cases h) fun dst type pos after guard=>?_
  simp [execOp,Instr.lookup,run_underlying hu,hv,hy,MapKept.run_getObj_map ho,AI hk hki hl,hfin _ h,Result.andThen,hz w]
 ·obtain⟨l',v,g1,g2,g3,g4⟩:=hall e (List.mem_of_getElem? h2)
  have:l'=l:=Yly g1 hl (by rw[<-g2,h3])
  subst this
  refine fin (some v) (fun u hu=>by cases hu;exact g4) fun dst type pos after guard=>?_
  simp [execOp,Instr.lookup,run_underlying hu,hv,hy,MapKept.run_getObj_map ho,AI hk hki hl,hfin _ h,Result.andThen,g3]
theorem YmG{t:TypeId}{m y x:Operand}{kk:List IntKind}{C:List Int->Int->Prop}{l:List Int}{v:Int}{k:SV->List HO->Prop}(ht:VN P t=some kk)(hC:C l v)(hc:k .junk [])
 (hx:Rep w bs B (.imap kk C) (ρ m))(hy:ρ y=Jh kk l)(hl:l.length=kk.length)(hxv:ρ x= .int .i64 v)(hH:Hp w bs B hp):POk P ρ (.mapUpdate t m y x) w B k:=by
 obtain⟨b,hI,hv⟩:=hx.imap_inv
 obtain⟨_,o,ho,es,clock,rfl,hall⟩:=hH.reg b _ hI
 obtain⟨kt,et,fs,hu,hk,hst,hki,hz⟩:=YaI ht
 have hkeys:∀e∈es.toList,∃l,l.length=kk.length/\e.key=Jh kk l:=fun e he=>by
  obtain⟨l,v,h1,h2,_⟩:=hall e he;exact⟨l,h1,h2⟩
 have hwide:(match P.underlying kt with|some (.array _ _) |some (.struct _)=>true|_=>false)=true:=by rw[hk]
 have hfin:∀a,(Instr.findAsking kt (Jh kk l) es.toList 0).run P w= .ok a w->(Instr.findKey kt (Jh kk l) es.toList).run P w= .ok a w:=fun a h=>by rw[run_findKey_eq w hwide];exact h
 have fin:∀(es':Array MapEntry)(clock':Nat),(∀dst type pos after guard,(execOp ρ ⟨dst,.mapUpdate t m y x,type,pos,after,guard⟩).run P w= .ok .skip { w with heap:=w.heap.setIfInBounds b (.map es' clock')})->(∀e∈es'.toList,∃l v,l.length=kk.length/\e.key=Jh kk l/\e.val= .int .i64 v/\C l v)->POk P ρ (.mapUpdate t m y x) w B k:=fun es' clock' hrun hall'=>
  ⟨.skip,undef,_,.junk,B.I,Ql (B.cx w),hrun,.inr ⟨rfl,rfl⟩,hc,.x _ _ (.junk _),hp0 (YeT hH (Yc0 ho) hI ⟨es',clock',rfl,hall'⟩),YeS (Yc0 ho) hI,trivial⟩
 rcases PY (w:=w) hk hst hki hl es.toList 0 hkeys with h| ⟨j,e,h,h2,h3⟩
 ·refine fin (es.push { key:=Jh kk l,val:= .int .i64 v,born:=clock}) (clock+1) (fun dst type pos after guard=>?_) fun e he=>?_
  ·simp [execOp,Instr.mapUpdate,run_underlying hu,hv,hy,hxv,MapKept.run_getObj_map ho,AI hk hki hl,hfin _ h,Result.andThen,run_setObj_map _ ho]
  ·simp only[Array.toList_push,KE,JD]at he
   rcases he with he|rfl
   ·exact hall e he
   ·exact⟨l,v,hl,rfl,rfl,hC⟩
 ·have hj:es[j]? =some e:=by simpa using h2
  have hks:(Instr.keyThatStays (Jh kk l) (Jh kk l)).run P w= .ok (Jh kk l) w:=by simp [Instr.keyThatStays,YqE]
  refine fin (es.modify j fun e=>{ e with key:=Jh kk l,val:= .int .i64 v}) clock (fun dst type pos after guard=>?_) fun e' he=>?_
  ·simp [execOp,Instr.mapUpdate,run_underlying hu,hv,hy,hxv,MapKept.run_getObj_map ho,AI hk hki hl,hfin _ h,hj,h3,hks,Result.andThen,run_setObj_map _ ho]
  ·obtain⟨q,hq⟩:=List.mem_iff_getElem?.1 he
   rw[Array.getElem?_toList,Array.getElem?_modify]at hq
   split at hq
   ·obtain⟨e0,_,rfl⟩:=YO.1 hq
    exact⟨l,v,hl,rfl,rfl,hC⟩
   ·exact hall e' (List.mem_of_getElem? (by rw[Array.getElem?_toList];exact hq))
theorem YbR{o:Oper}{vo:VO}{ops:List Operand}{xs:List SV}{c:CRes}{k:SV->List HO->Prop}(hv:vop P o=some (vo,ops))(hp1:psd vo xs=some c)(hc:CSat c k)(hx:RepL w bs B xs (ops.map ρ))(hH:Hp w bs B hp):POk P ρ o.op w B k:=by
 have hcase:=YtW hv
 generalize o.op=op at hcase
 rcases hcase with h|h
 ·cases h with
  |load t a g s hg hs hck=>
   unfold psd at hp1
   cases g with
   |true=>cases hp1
   |false=>
    simp only at hp1
    split at hp1 <;> cases hp1
    exact Ymp hg hc (ZY hx) hH
  |store t a x s hs=>
   unfold psd at hp1
   simp only at hp1
   split at hp1 <;> cases hp1
   obtain⟨h1,h2⟩:=two hx
   obtain⟨⟨rfl,hC⟩,hc⟩:=hc
   exact Yre hs hC hc h1 h2.int_inv hH
  |mk t kk ht=>
   unfold psd at hp1
   simp only at hp1
   split at hp1 <;> cases hp1
   obtain⟨C,hC⟩:=hc
   exact YmK hC hH
  |get t m y kk ht=>
   unfold psd at hp1
   simp only at hp1
   split at hp1
   ·rename_i ks C cs
    obtain⟨⟨p,l⟩,hk,heq⟩:=YO.1 hp1
    simp only at heq
    subst heq
    obtain⟨⟨rfl,hpp⟩,hc⟩:=hc
    obtain⟨h1,h2⟩:=two hx
    obtain⟨vs,h3,h4⟩:=h2.agg_inv
    obtain⟨rfl,h5⟩:=LH hk hpp h4
    exact YmF ht hc h1 h3 h5 hH
   ·cases hp1
  |put t m y x kk ht=>
   unfold psd at hp1
   simp only at hp1
   split at hp1
   ·rename_i ks C cs v
    obtain⟨⟨p,l⟩,hk,heq⟩:=YO.1 hp1
    simp only at heq
    subst heq
    obtain⟨⟨⟨rfl,hpp⟩,hC⟩,hc⟩:=hc
    obtain⟨v1,l1,e1,h1,hx⟩:=hx.cons_inv
    obtain⟨v2,l2,e2,h2,hx⟩:=hx.cons_inv
    obtain⟨v3,l3,e3,h3,hx⟩:=hx.cons_inv
    simp only[KD,List.map_nil,List.cons.injEq]at e1
    obtain⟨r1,rfl⟩:=e1
    simp only[List.cons.injEq]at e2
    obtain⟨r2,rfl⟩:=e2
    simp only[List.cons.injEq]at e3
    obtain⟨r3,rfl⟩:=e3
    obtain⟨vs,h5,h6⟩:=h2.agg_inv
    obtain⟨rfl,h7⟩:=LH hk hpp h6
    exact YmG ht hC hc (r1▸h1) (r2.trans h5) h7 (r3.trans h3.int_inv) hH
   ·cases hp1
 ·rw[h xs]at hp1;cases hp1
end
end Go.Vx
namespace Go.Vx
open Go.RowKit
section
variable {P:Program} {E:Env} {w0:Cx} {rd:Option Nat} {Pd:List KJ} {A:S->Prop} {s:S}
theorem W4{d:Option Nat}{x:SV}(hd:∀p∈Pd,d≠some p.slot):er Pd (s.put d x)=(er Pd s).put d x:=by
 cases d with
 |none=>rfl
 |some n=>simp only[er,S.put];rw[BN fun p hp e=>hd p hp (by rw[e])]
theorem I9:∀{xs:List X},(∀p∈Pd,p.slot∉Ku xs)->(er Pd s).args xs=s.args xs
 | [],_=>rfl
 |x::l,h=>by
  simp only[S.args]
  rw[I9 fun p hp hm=>h p hp (by simp [Ku,hm])]
  cases x with
  |cn _=>rfl
  |tm n=>simp only[S.x,er];rw[Lq fun p hp e=>h p hp (by simp [Ku,X.slot,e])]
theorem Vb{d:Option Nat}{x:SV}(hd:∀p∈Pd,d≠some p.slot)(h:∀p∈Pd,Yq s.hp p.idx=p.cells.ho/\Km s.fr p.slot (.ptr p.idx 0)=s.fr):
 ∀p∈Pd,Yq (s.put d x).hp p.idx=p.cells.ho/\Km (s.put d x).fr p.slot (.ptr p.idx 0)=(s.put d x).fr:=fun p hp=>by
 refine⟨by rw[Vd];exact(h p hp).1,?_⟩
 cases d with
 |none=>exact(h p hp).2
 |some n=>
  show Km (Km s.fr n x) p.slot _=Km s.fr n x
  rw[Fs _ _ _ _ _ (fun e=>hd p hp (by rw[e])),(h p hp).2]
theorem H9(h:∀p∈Pd,Yq s.hp p.idx=p.cells.ho/\Km s.fr p.slot (.ptr p.idx 0)=s.fr):∀p∈Pd,p.idx<Yi s.hp:=fun p hp=>by
 rcases YV p.idx (Yi s.hp)with h'|h'
 ·exact h'
 ·have:=(h p hp).1
  rw[WB _ _ h']at this;exact absurd this.symm (AL.ho_ne _)
theorem GC{ops:Array Oper}{κ:Kh}{i:Nat}{o:Oper}{a:Act}{w:World}{K:Act->World->Prop}(hi:ops[i]? =some o)(hw:Region.wanted o (yielded ops a.tmps)=true)(h:o.wpIn (Wd rd) 0 P a w K κ):wpOpIn (Wd rd) 0 P ops κ i K a w:=by
 unfold wpOpIn;simp only[hi,hw,if_true];exact h
theorem YeR{ops:Array Oper}{κ:Kh}{i:Nat}{o:Oper}{a:Act}{w:World}{K:Act->World->Prop}(hi:ops[i]? =some o)(hw:Region.wanted o (yielded ops a.tmps)=false)(h:K (a.put o.dst undef) w):wpOpIn (Wd rd) 0 P ops κ i K a w:=by
 unfold wpOpIn;simp only[hi,hw];exact⟨fun _ _=>trivial,h⟩
theorem RH{all:Array Oper}{o:Oper}{v:VOp}(h:WR P all o=some v):∃ops,vop P o=some (v.op,ops)/\X.ofs P ops=some v.xs/\(v.op.isCall=true->Ut o.op=true)/\v.dst=o.dst/\
 ((o.guard=none/\v.g=none)\/∃j b g,o.guard=some (j,b)/\NC all j=some g/\v.g=some (g,b)):=by
 unfold WR at h
 obtain⟨⟨vo,ops⟩,h1,h⟩:=YC.1 h
 obtain⟨xs,h2,h⟩:=YC.1 h
 split at h
 ·cases h
 ·rename_i hne
  have hne:vo.isCall=true->Ut o.op=true:=by simpa using hne
  split at h
  ·cases h;exact⟨ops,h1,h2,hne,rfl,.inl ⟨‹_›,rfl⟩⟩
  ·obtain⟨g,hg,rfl⟩:=YO.1 h
   exact⟨ops,h1,h2,hne,rfl,.inr ⟨_,_,g,‹_›,hg,rfl⟩⟩
theorem YkX{o:VO}{xs:List SV}{r:FuncId×List SV}(h:callee E o xs=some r):o.isCall=true:=by
 unfold callee at h
 split at h <;> first|rfl|cases h
theorem Yiq{m n o:Nat}(h:m≠n):Ko n (.ptr m o)=false:=by
 show YL m n=false
 cases hb:YL m n with
 |false=>rfl
 |true=>exact absurd (JE hb) h
theorem PG{b:Nat}:∀{l:List SV},GW l=true->YZ b l=l
 | [],_=>rfl
 |x::l,h=>by
  simp only[GW,YS]at h
  simp only[YZ,Ff (Ycv h.1),PG h.2]
theorem Yn8{b:Nat}{z:AL}(h:z.clean=true):Uv b z.ho=z.ho:=by
 cases z with
 |box c=>simp only[AL.ho,Uv,PG (show GW c=true from h)]
 |arr n sz c=>
  have:(fun k=>YZ b (Jp sz c k))=Jp sz c:=by
   funext k
   unfold Jp
   rw[<-PI,<-At,PG (show GW c=true from h)]
  simp only[AL.ho,Uv,this]
theorem YbV(b:Nat):∀(hp:List HO)(i:Nat)(h:HO),Xb b (Kz hp i h)=Kz (Xb b hp) i (Uv b h)
 | [],_,_=>rfl
 |x::l,0,h=>by cases x <;> cases h <;> rfl
 |x::l,i+1,h=>by
  have:=YbV b l i h
  cases x <;> simp only[Kz,Xb,this]
theorem Yab(b:Nat)(fr:List SV):∀(Pd:List KJ),Xx (YZ b fr) Pd=YZ b (Xx fr Pd)
 | []=>rfl
 |p::l=>by rw[Xx,Xx,Yab b fr l,Av];rfl
theorem OJ(b:Nat)(hp:List HO):∀(Pd:List KJ),KX (Xb b hp) Pd=Xb b (KX hp Pd)
 | []=>rfl
 |p::l=>by rw[KX,KX,OJ b hp l,YbV];rfl
theorem YjH{b:Nat}{ho:HO}(hne:∀p∈Pd,p.idx≠b):er Pd (s.upd (.app b ho))=(er Pd s).upd (.app b ho):=by
 simp only[er,S.upd]
 rw[Yab,Lu hne,OJ]
theorem Ycq{hp hp':List HO}{x:SV}(h:∀b,blk x=some b->Yq hp' b=Yq hp b):Xo hp' x=Xo hp x:=by
 cases x <;> try rfl
 case own i lo n sz=>simp only[Xo,h i rfl]
theorem Yid{hp hp':List HO}{n n':Nat}(hn:n'=n){o:VO}(ha:o.isAppend=true){xs:List SV}(h:∀y∈xs,∀b,blk y=some b->Yq hp' b=Yq hp b):eff hp' n' o xs=eff hp n o xs:=by
 subst hn
 cases o <;> simp only[VO.isAppend,reduceCtorEq]at ha
 rcases xs with _| ⟨a,_| ⟨x,_| ⟨c,l⟩⟩⟩ <;> try rfl
 have h1:=Ycq (h x (by simp))
 have h2:=h a (by simp)
 cases a <;> try rfl
 ·simp only[eff,W2,h1]
 ·rename_i i lo n sz
  have:=h2 i rfl
  cases lo with
  |zero=>simp only[eff,W2,h1,this]
  |succ _=>rfl
 ·rename_i y
  have:=Ycq (x:=y) (fun b hb=>h2 b hb)
  simp only[eff,W2,h1,this]
theorem Ycz{w:World}{bs:List BK}{B:Bd}:∀{xs:List SV}{vs:List Value},RepL w bs B xs vs->∀{y:SV},y∈xs->∃v,Rep w bs B y v
 |_,_,.nil,y,hy=>by cases hy
 |_,_,.cons x v l vs h h',y,hy=>by
  rcases K4.1 hy with rfl|hy
  ·exact⟨v,h⟩
  ·exact Ycz h' hy
theorem IF(hE:YE P E){c0:Cx0}(hS:UI P c0){all:Array Oper}{o:Oper}{v:VOp}{i:Nat}(hi:all[i]? =some o)(hv:WR P all o=some v)(hs1:∀p∈Pd,p.slot∉v.reads)(hs2:∀p∈Pd,v.dst≠some p.slot)
 (hs3:v.op.isAppend=true->∀p∈Pd,p.cells.clean=true){κ:Kh}{a:Act}{sv:List Act}{w:World}(h:Qa E v A s){ks:List (Nat×Obj)}{J:Nat->Option IK}{hJ:Ext c0 J}(hR:PR ⟨c0.wI J hJ,ks⟩ Pd s a sv w):
 wpOpIn (Wd rd) 0 P all κ i (fun a' w'=> ∃s',A s'/\∃J',∃hJ':Ext c0 J',PR ⟨c0.wI J' hJ',ks⟩ Pd s' a' sv w') a w:=by
 obtain⟨ops,h1,h2,h3,h4,h5⟩:=RH hv
 obtain⟨hRl,hPd⟩:=hR
 obtain⟨bs,hf,hsv,hH,hb,hoth⟩:=id hRl
 have hB:c0.heap.size<=w.heap.size:=hb.size
 have hargs:(er Pd s).args v.xs=s.args v.xs:=I9 fun p hp hm=>hs1 p hp (by simp [VOp.reads,hm])
 have hx:RepL w bs (c0.wI J hJ).bd (s.args v.xs) (ops.map a.eval):=by rw[<-hargs];exact Dj (Vg hS hb hH) hf h2
 have hlen:Yi (er Pd s).hp=Yi s.hp:=Gb Pd
 have hgs:∀g pol,v.g=some (g,pol)->Kn (er Pd s).fr g=Kn s.fr g:=fun g pol hg=>Lq fun p hp e=>hs1 p hp (by simp [VOp.reads,hg,e])
 have heq:∀(xs:List SV)(vs:List Value),v.op.quiet=true->RepL w bs (c0.wI J hJ).bd xs vs->eff (er Pd s).hp (Yi (er Pd s).hp) v.op xs=eff s.hp (Yi s.hp) v.op xs:=
  fun xs vs hq hxs=>IV hq fun b hb=>(BI hH hxs hb).2
 unfold Qa at h
 cases hq:v.op.quiet with
 |true=>
  rw[hq]at h
  simp only[Hd]at h
  cases hfe:JK v s with
  |none=>rw[hfe]at h;exact h.elim
  |some r=>
   obtain⟨p,x⟩:=r
   rw[hfe]at h
   obtain⟨hp,hA⟩:=h
   unfold JK at hfe
   rcases h5 with⟨hg,hvg⟩ | ⟨j,pol,g,hg,hsl,hvg⟩
   ·rw[hvg]at hfe
    simp only at hfe
    cases he:eff s.hp (Yi s.hp) v.op (s.args v.xs)with
    |none=>rw[he]at hfe;cases hfe
    |some e=>
     obtain⟨q,y,u⟩:=e
     rw[he]at hfe
     cases u <;> try cases hfe
     rw[<-heq _ _ hq hx]at he
     obtain⟨r',val,w',bs',hrn,hr,k1,k2,k3,k4,k5⟩:=NN (ρ:=a.eval) h1 he hp hx (fun _=>rfl) (fun _=>rfl) hH hB
     refine GC hi (by simp [Region.wanted,hg]) (GD (UD h1) (hrn o.dst o.type o.pos o.after o.guard) hr ?_)
     refine⟨_,hA,J,hJ,?_,Vb hs2 hPd⟩
     rw[W4 hs2,<-h4]
     exact NH (e:=⟨p,x,.no⟩) (op:=o.op) hf hsv hb hoth k1 k2 k3 k4 k5 v.dst
   ·rw[hvg]at hfe
    simp only at hfe
    cases hgb:Xw (Kn s.fr g) pol with
    |none=>rw[hgb]at hfe;cases hfe
    |some gb=>
     rw[hgb]at hfe
     simp only at hfe
     have hw:=Ly (w:=w) hf hg hsl (by rw[hgs g pol hvg];exact hgb)
     cases he:eff s.hp (Yi s.hp) v.op (J7 v.op gb (s.args v.xs)).2 with
     |none=>rw[he]at hfe;cases hfe
     |some e=>
      obtain⟨q,y,u⟩:=e
      rw[he]at hfe
      cases u <;> try cases hfe
      obtain⟨hp1,hp2⟩:=hp
      cases gb with
      |true=>
       have hx':=NF rfl hx hp1
       rw[<-heq _ _ hq hx']at he
       obtain⟨r',val,w',bs',hrn,hr,k1,k2,k3,k4,k5⟩:=NN (ρ:=a.eval) h1 he (hp2 rfl) hx' (fun _=>rfl) (fun _=>rfl) hH hB
       refine GC hi hw (GD (UD h1) (hrn o.dst o.type o.pos o.after o.guard) hr ?_)
       refine⟨_,hA,J,hJ,?_,Vb hs2 hPd⟩
       rw[W4 hs2,<-h4]
       exact NH (e:=⟨q,.opt true y,.no⟩) (op:=o.op) hf hsv hb hoth (.optT _ _ k1) k2 k3 k4 k5 v.dst
      |false=>
       refine YeR hi hw ⟨_,hA,J,hJ,?_,Vb hs2 hPd⟩
       rw[W4 hs2,<-h4]
       exact Gt hRl v.dst fun _ _ _=> .optF _
 |false=>
  rw[hq]at h
  simp only at h
  rcases h5 with⟨hg,hvg⟩ | ⟨j,pol,g,hg,hsl,hvg⟩
  ·rw[hvg]at h
   simp only at h
   unfold MK at h
   cases hc:callee E v.op (s.args v.xs)with
   |none=>
    rw[hc]at h
    simp only[Nj]at h
    have hlt:=H9 hPd
    cases hps:psd v.op (s.args v.xs)with
    |some c=>
     rw[hps]at h
     obtain⟨r,val,w',x,J2,hJ2,hrn,hr,hA,k1,k2,k3,k4⟩:=YbR (ρ:=a.eval) h1 hps h hx hH
     refine GC hi (by simp [Region.wanted,hg]) (GD (UD h1) (hrn o.dst o.type o.pos o.after o.guard) hr ?_)
     obtain⟨hJ3,hcr⟩:=HF (al:=false) (z:=Bd.cx (c0.wI J hJ).bd w) (w0:=c0) (J1:=J) (hJ1:=hJ) (hJ:=hJ2) rfl hf hsv hH hb hoth v.dst k1 k2 k3 (fun _=>⟨k4,trivial⟩) (fun h=>by cases h)
     have hcr:=hcr _ fun _ h=>h
     have hPd':∀p∈Pd,Yq ({ fr:=s.fr,saved:=s.saved,hp:=s.hp++Jl (Yi s.hp) []}:S).hp p.idx=p.cells.ho/\Km ({ fr:=s.fr,saved:=s.saved,hp:=s.hp++Jl (Yi s.hp) []}:S).fr p.slot (.ptr p.idx 0)=({ fr:=s.fr,saved:=s.saved,hp:=s.hp++Jl (Yi s.hp) []}:S).fr:=fun p hp=>
      ⟨by rw[<-(hPd p hp).1];exact BH _ _ _ (by rw[(hPd p hp).1];exact AL.ho_ne _),(hPd p hp).2⟩
     refine⟨_,hA,J2,hJ3,?_,Vb hs2 hPd'⟩
     rw[W4 hs2,<-h4]
     have:er Pd { fr:=s.fr,saved:=s.saved,hp:=s.hp++Jl (Yi s.hp) []}= { fr:=(er Pd s).fr,saved:=(er Pd s).saved,hp:=(er Pd s).hp++Jl (Yi (er Pd s).hp) []}:=by
      rw[hlen];simp only[er];rw[BG hlt]
     rw[this]
     rw[hlen]at hcr⊢
     exact hcr
    |none=>
    rw[hps]at h
    simp only at h
    cases hbad:v.op.bad with
    |true=>rw[hbad]at h;exact h.elim
    |false=>
    rw[hbad]at h
    simp only[F1,Mv]at h
    cases he:eff s.hp (Yi s.hp) v.op (s.args v.xs)with
    |none=>rw[he]at h;exact h.elim
    |some e=>
     rw[he]at h
     obtain⟨hp,hA⟩:=h
     have he2:eff (er Pd s).hp (Yi (er Pd s).hp) v.op (s.args v.xs)=some e:=by
      rw[hlen,<-he]
      cases ha:v.op.isAppend with
      |true=>
       exact Yid rfl ha fun y hy b hb=>by
        obtain⟨z,hz⟩:=Ycz hx hy
        obtain⟨k,h1,h2⟩:=EA hz hb
        exact(LY hH h1 h2).2
      |false=>exact YkC hq ha hbad fun b hb=>(BI hH hx hb).2
     obtain⟨r',val,w',bs',hrn,hr,k1,k2,k3,k4,k5⟩:=NN (ρ:=a.eval) h1 he2 hp hx (fun _=>rfl) (fun _=>rfl) hH hB
     refine GC hi (by simp [Region.wanted,hg]) (GD (UD h1) (hrn o.dst o.type o.pos o.after o.guard) hr ?_)
     have hrel:=NH (e:=e) (op:=o.op) hf hsv hb hoth k1 k2 k3 k4 k5 v.dst
     refine⟨_,hA,J,hJ,?_⟩
     cases ha:v.op.isAppend with
     |true=>
      have hcl:=hs3 ha
      rcases Tx ha he with⟨ho,hu⟩ | ⟨b,ho,hu,hk⟩
      ·rw[hu]at hrel⊢
       have hlt:=H9 hPd
       have hPd':∀p∈Pd,Yq (s.upd (.new ho)).hp p.idx=p.cells.ho/\Km (s.upd (.new ho)).fr p.slot (.ptr p.idx 0)=(s.upd (.new ho)).fr:=fun p hp=>
        ⟨by rw[<-(hPd p hp).1];exact U4 _ _ _ (hlt p hp),(hPd p hp).2⟩
       refine⟨?_,Vb hs2 hPd'⟩
       rw[W4 hs2,<-h4]
       have:er Pd (s.upd (.new ho))=(er Pd s).upd (.new ho):=by
        simp only[er,S.upd];rw[Lv hlt]
       rw[this];exact hrel
      ·have hne:=(BI hH hx hk).1
       rw[hu]at hrel⊢
       have hPd':∀p∈Pd,Yq (s.upd (.app b ho)).hp p.idx=p.cells.ho/\Km (s.upd (.app b ho)).fr p.slot (.ptr p.idx 0)=(s.upd (.app b ho)).fr:=fun p hp=>by
        refine⟨?_,?_⟩
        ·show Yq (Kz (Xb b s.hp) b ho) p.idx=_
         rw[WC _ _ _ _ (fun e=>hne p hp e.symm),BC,(hPd p hp).1,Yn8 (hcl p hp)]
        ·show Km (YZ b s.fr) p.slot (.ptr p.idx 0)=YZ b s.fr
         have e:=congrArg (YZ b) (hPd p hp).2
         rw[Av,Ff (Yiq (hne p hp))]at e
         exact e
       refine⟨?_,Vb hs2 hPd'⟩
       rw[W4 hs2,<-h4]
       have:er Pd (s.upd (.app b ho))=(er Pd s).upd (.app b ho):=YjH hne
       rw[this];exact hrel
     |false=>
      cases hst:v.op.isStore with
      |true=>
       obtain⟨k,ho,hu,hk⟩:=Ydo hst he
       have hne:=(BI hH hx hk).1
       rw[hu]at hrel⊢
       have hPd':∀p∈Pd,Yq (s.upd (.set k ho)).hp p.idx=p.cells.ho/\Km (s.upd (.set k ho)).fr p.slot (.ptr p.idx 0)=(s.upd (.set k ho)).fr:=fun p hp=>
        ⟨by rw[<-(hPd p hp).1];exact WC _ _ _ _ (fun e=>hne p hp e.symm),(hPd p hp).2⟩
       refine⟨?_,Vb hs2 hPd'⟩
       rw[W4 hs2,<-h4]
       have:er Pd (s.upd (.set k ho))=(er Pd s).upd (.set k ho):=by
        simp only[er,S.upd];rw[Lu hne]
       rw[this];exact hrel
      |false=>
       obtain⟨ho,hu⟩:=YaZ hq hst ha hbad he
       rw[hu]at hrel⊢
       have hlt:=H9 hPd
       have hPd':∀p∈Pd,Yq (s.upd (.new ho)).hp p.idx=p.cells.ho/\Km (s.upd (.new ho)).fr p.slot (.ptr p.idx 0)=(s.upd (.new ho)).fr:=fun p hp=>
        ⟨by rw[<-(hPd p hp).1];exact U4 _ _ _ (hlt p hp),(hPd p hp).2⟩
       refine⟨?_,Vb hs2 hPd'⟩
       rw[W4 hs2,<-h4]
       have:er Pd (s.upd (.new ho))=(er Pd s).upd (.new ho):=by
        simp only[er,S.upd];rw[Lv hlt]
       rw[this];exact hrel
   |some fy=>
    obtain⟨f,ys⟩:=fy
    rw[hc]at h
    simp only[ctW]at h
    cases hct:E.ct f with
    |none=>rw[hct]at h;exact h.elim
    |some c=>
     rw[hct]at h
     obtain⟨hok,hen⟩:=hE.ct f c hct
     obtain⟨vs,hys,hrun⟩:=HE hE.meth h1 (h3 (YkX hc)) hc hx (fun _=>rfl) hen
     refine GC hi (by simp [Region.wanted,hg]) (FD (UD h1) hrun ?_)
     obtain⟨z,hzw,hzI,hargs2,hal,hzF⟩:=Dv c.alias (hpV hH) hB 3 hys h.1
     subst hzw
     refine(hok _ vs z _ ⟨fun b K hb=>(hH.reg b K (by rw[hzI]at hb;exact hb)).2,AM (Vg (hJ:=hJ) hS hb hH) rfl hzF⟩ hargs2 h.2).mono ?_
     rintro e w' ⟨r,hs,val,bs2,J2,hJ2,hA,rfl,k1,k2,k3,k4⟩
     obtain⟨hJ3,hcr⟩:=HF (w0:=c0) (J1:=J) (hJ1:=hJ) (hJ:=hJ2) hzI hf hsv hH hb hoth v.dst k1 k2 k3 k4 hal
     have hcr:=hcr _ fun _ h=>h
     have hlt:=H9 hPd
     have hPd':∀p∈Pd,Yq ({ fr:=s.fr,saved:=s.saved,hp:=s.hp++Jl (Yi s.hp) hs}:S).hp p.idx=p.cells.ho/\Km ({ fr:=s.fr,saved:=s.saved,hp:=s.hp++Jl (Yi s.hp) hs}:S).fr p.slot (.ptr p.idx 0)=({ fr:=s.fr,saved:=s.saved,hp:=s.hp++Jl (Yi s.hp) hs}:S).fr:=fun p hp=>
      ⟨by rw[<-(hPd p hp).1];exact BH _ _ _ (by rw[(hPd p hp).1];exact AL.ho_ne _),(hPd p hp).2⟩
     refine⟨_,hA,J2,hJ3,?_,Vb hs2 hPd'⟩
     rw[W4 hs2,<-h4]
     have:er Pd { fr:=s.fr,saved:=s.saved,hp:=s.hp++Jl (Yi s.hp) hs}= { fr:=(er Pd s).fr,saved:=(er Pd s).saved,hp:=(er Pd s).hp++Jl (Yi (er Pd s).hp) hs}:=by
      rw[hlen];simp only[er];rw[BG hlt]
     rw[this]
     rw[hlen]at hcr⊢
     exact hcr
  ·rw[hvg]at h
   simp only at h
   unfold MJ at h
   cases hgb:Xw (Kn s.fr g) pol with
   |none=>rw[hgb]at h;exact h.elim
   |some gb=>
    rw[hgb]at h
    simp only[Me]at h
    have hw:=Ly (w:=w) hf hg hsl (by rw[hgs g pol hvg];exact hgb)
    cases hct:Wh E v.op (J7 v.op gb (s.args v.xs)).2 with
    |none=>rw[hct]at h;exact h.elim
    |some c=>
     rw[hct]at h
     obtain⟨c,ys⟩:=c
     obtain⟨hp1,hno,r,hA,hcs⟩:=h
     cases gb with
     |false=>
      refine YeR hi hw ⟨_,hA,J,hJ,?_,Vb hs2 hPd⟩
      rw[W4 hs2,<-h4]
      exact Gt hRl v.dst fun _ _ _=> .optF _
     |true=>
      obtain⟨f,hcl,hct',hic⟩:=Iq hct
      obtain⟨hok,hen⟩:=hE.ct f c hct'
      obtain⟨vs,hys,hrn⟩:=HE hE.meth h1 (h3 hic) hcl (NF rfl hx hp1) (fun _=>rfl) hen
      refine GC hi hw (FD (UD h1) hrn ?_)
      obtain⟨z,hzw,hzI,hargs2,hal,hzF⟩:=Dv c.alias (hpV hH) hB 3 hys hno
      subst hzw
      refine(hok _ vs z _ ⟨fun b K hb=>(hH.reg b K (by rw[hzI]at hb;exact hb)).2,AM (Vg (hJ:=hJ) hS hb hH) rfl hzF⟩ hargs2 (hcs rfl)).mono ?_
      rintro e w' ⟨r',hs,val,bs2,J2,hJ2,⟨rfl,rfl⟩,rfl,k1,k2,k3,k4⟩
      obtain⟨hJ3,hcr⟩:=HF (w0:=c0) (J1:=J) (hJ1:=hJ) (hJ:=hJ2) hzI hf hsv hH hb hoth v.dst k1 k2 k3 k4 hal
      have hcr:=hcr (.opt true (shift (Yi (er Pd s).hp) r')) fun _ h=> .optT _ _ h
      have e0:({ fr:=(er Pd s).fr,saved:=(er Pd s).saved,hp:=(er Pd s).hp++Jl (Yi (er Pd s).hp) []}:S)=er Pd s:=by simp [Jl]
      rw[e0]at hcr
      refine⟨_,hA,J2,hJ3,?_,Vb hs2 hPd⟩
      rw[W4 hs2,<-h4,<-hlen]
      exact hcr
end
end Go.Vx
namespace Go.Vx
open Go.RowKit
section
variable {P:Program} {E:Env} {w:World} {w0:Cx} {rd:Option Nat} {Pd:List KJ} {A:S->Prop} {s:S} {bs:List BK} {B:Bd} {hp hp':List HO}
theorem Hg{cs:Array Value}{T:TypeId}{cap n i:Nat}:Keeps w bs (World.push w (.cells cs T (0,0))) (bs.set i (.blk w.heap.size cap n)):=by
 intro b hf o ho
 refine⟨Ax ho,fun j b' c m h=>?_⟩
 have hb:b<w.heap.size:=(Xh.1 ho).1
 rw[Vp]at h
 split at h
 ·split at h
  ·cases h;omega
  ·cases h
 ·exact hf j b' c m h
theorem YcZ{i:Nat}{x:BK}{e:Option Nat}(hg:bs[i]? =some .gone\/bs[i]? =none):Stays e bs (bs.set i x):=by
 intro j y _ h hy
 rw[Vp]
 split
 ·rename_i hij
  subst hij
  rcases hg with hg|hg
  ·rw[hg]at h;cases h;exact absurd rfl hy
  ·rw[hg]at h;cases h
 ·exact h
theorem Yj3(hH:Hp w bs B hp)(hB:B<=w.heap.size){cs:Array Value}{T:TypeId}{i:Nat}{c0 m0:Nat}(hi:i<Yi hp)(hg:Yq hp i= .gone)(hl:Yi hp'=Yi hp)(hne:∀j,j≠i->Yq hp' j=Yq hp j)
 (h:HRep (World.push w (.cells cs T (0,0))) (bs.set i (.blk w.heap.size c0 m0)) B i (Yq hp' i)):
 Hp (World.push w (.cells cs T (0,0))) (bs.set i (.blk w.heap.size c0 m0)) B hp':=by
 have hlt:∀(i b c m:Nat),bs[i]? =some (.blk b c m)->b<w.heap.size:=fun i b c m h=>(hH.lo i b c m h).2
 have hgo:bs[i]? =some .gone\/bs[i]? =none:=by have:=hH.ent i;rw[hg]at this;exact this
 have hib:i<bs.length:=by rw[hH.len];exact hi
 refine⟨by simp [hH.len,hl],fun j=>?_,fun j k b c m c' m' h1 h2=>?_,fun j b c m h1=>?_,Ve Hg hH.reg⟩
 ·by_cases hij:j=i
  ·subst hij;exact h
  ·rw[hne j hij]
   refine(hH.ent j).keep Hg (YcZ hgo) ?_ ?_
   ·rw[Vp,if_neg (Ne.symm hij)]
   ·intro b c m hb
    have:=hlt j b c m hb
    simp only[World.push,Array.getElem?_push]
    rw[if_neg (by omega)]
 ·rw[Vp]at h1 h2
  split at h1 <;> split at h2
  ·omega
  ·first| (rw[if_pos hib]at h1;cases h1) |cases h1
   have:=hlt k _ _ _ h2;omega
  ·first| (rw[if_pos hib]at h2;cases h2) |cases h2
   have:=hlt j _ _ _ h1;omega
  ·exact hH.inj j k b c m c' m' h1 h2
 ·have hs:(World.push w (.cells cs T (0,0))).heap.size=w.heap.size+1:=by simp [World.push]
  rw[Vp]at h1
  split at h1
  ·first| (rw[if_pos hib]at h1;cases h1) |cases h1;omega
  ·have:=hH.lo j b c m h1;omega
theorem AR:∀(l:List SV)(n:Nat)(x y:SV),Km (Km l n x) n y=Km l n y
 | [],_,_,_=>rfl
 |_::_,0,_,_=>rfl
 |a::l,n+1,x,y=>congrArg (a::·) (AR l n x y)
def AL.is(P:Program)(elem:TypeId):AL->Prop
 | .box z=>Qe P elem=some z
 | .arr n size z=>Qe P elem=some z/\YH z=n*size
def AL.z:AL->List SV
 | .box z=>z
 | .arr _ _ z=>z
def AL.n:AL->Nat
 | .box _=>0
 | .arr n _ _=>n
theorem AL.is_z{elem:TypeId}:∀{x:AL},x.is P elem->Qe P elem=some x.z
 | .box _,h=>h
 | .arr _ _ _,h=>h.1
theorem Yh1{p:KJ}{o:Oper}{elem:TypeId}{i:Nat}{all:Array Oper}(hi:all[i]? =some o)(hop:o.op= .alloc elem)(hgd:o.guard=none)(hz:p.cells.is P elem)(hdst:o.dst=some p.slot)
 (hidx:∀q∈Pd,q.idx≠p.idx)(hslot:∀q∈Pd,q.slot≠p.slot){κ:Kh}{a:Act}{sv:List Act}{K:Act->World->Prop}
 (hR:PR w0 (p::Pd) s a sv w)(h:∀a' w',PR w0 Pd s a' sv w'->K a' w'):wpOpIn (Wd rd) 0 P all κ i K a w:=by
 obtain⟨⟨bs,hf,hsv,hH,hb,hoth⟩,hPd⟩:=hR
 have hB:w0.heap.size<=w.heap.size:=hb.size
 obtain⟨v,hv,hr⟩:=Hf (P:=P) (w:=w) (bs:=bs) (B:=w0.bd) (AL.is_z hz)
 obtain⟨hp1,hp2⟩:=hPd p KF
 have hlt:p.idx<Yi s.hp:=H9 hPd p KF
 have hg:Yq (KX s.hp (p::Pd)) p.idx= .gone:=Ll KF
 have hgo:bs[p.idx]? =some .gone\/bs[p.idx]? =none:=by have:=hH.ent p.idx;simp only[er]at this;rw[hg]at this;exact this
 have hlen:bs.length=Yi s.hp:=by rw[hH.len];exact Gb _
 have hget:(bs.set p.idx (BK.blk w.heap.size p.cells.n p.cells.n))[p.idx]? =some (.blk w.heap.size p.cells.n p.cells.n):=by
  rw[Vp,if_pos rfl,if_pos (by omega)]
 have hst:∀e,Stays e bs (bs.set p.idx (.blk w.heap.size p.cells.n p.cells.n)):=fun e=>YcZ hgo
 have hrun:(execOp a.eval o).run P w= .ok (.value (.pointer (some ⟨w.heap.size,0,none⟩))) (World.push w (.cells v.cells elem (0,0))):=by
  obtain⟨dst,op,type,pos,after,guard⟩:=o
  simp only at hop
  subst hop
  simp [execOp,Instr.alloc,hv,newVar,newRow,World.push]
 refine GC hi (by simp [Region.wanted,hgd]) (GD (by rw[hop];intro c h;cases h) hrun (.inl rfl) (h _ _ ⟨⟨bs.set p.idx (.blk w.heap.size p.cells.n p.cells.n),?_,?_,?_,?_,by rw[KD,Nq];exact hoth.keep Hg⟩,fun q hq=>hPd q (KH _ hq)⟩))
 ·have hfr:(er Pd s).fr=(S.put (er (p::Pd) s) (some p.slot) (.ptr p.idx 0)).fr:=by
   simp only[er,S.put,Xx,AR]
   rw[<-BN hslot,hp2]
  rw[hfr,hdst]
  exact Nr (hf.keep Hg (hst none) Jt) (.ptr _ _ _ _ hget)
 ·exact RepLL.keep Hg (hst none) hsv
 ·refine Yj3 hH hB (by simp only[er];rw[Gb];exact hlt) hg (by simp only[er];rw[Gb,Gb]) (fun j hj=>?_) ?_
  ·simp only[er,KX]
   rw[WC _ _ _ _ (Ne.symm hj)]
  ·simp only[er]
   rw[Ln hidx,hp1]
   revert hget hst hz hr
   cases p.cells with
   |box z=>exact fun hz hr hget hst=>⟨_,_,_,hget,VU,hr.keep Hg (hst none) Jt⟩
   |arr n size z=>
    intro hz hr hget hst
    refine .inr ⟨_,n,_,_,hget,rfl,VU,?_,Yr _,fun k _=>DF (hr.keep Hg (hst none) Jt) size k⟩
    show _=n*size
    have hl:=hz.2
    have hl2:=hr.length
    simp only[AL.z]at hl2
    rw[<-hl,hl2];simp
 ·exact hb.trans (.of (Vc (B:=w0.bd) _ hB))
end
end Go.Vx
namespace Go.Vx
open Go.RowKit
section
variable {P:Program} {E:Env} {w:World} {w0:Cx} {rd:Option Nat} {Pd Pd':List KJ} {A:S->Prop} {s:S} {bs:List BK} {B:Bd} {hp hp':List HO}
theorem MR:Keeps w bs w (bs++[.gone]):=by
 intro b hf o ho
 refine⟨ho,fun i b' c m h=>?_⟩
 rw[Wa]at h
 split at h
 ·exact hf i b' c m h
 ·rw[V5]at h;split at h <;> cases h
theorem Yku(hH:Hp w bs B hp):Hp w (bs++[.gone]) B (J6 hp .gone):=by
 have hst:∀e,Stays e bs (bs++[.gone]):=fun e=>Qn _ _
 have hget:∀(i b c m:Nat),(bs++[BK.gone])[i]? =some (.blk b c m)->bs[i]? =some (.blk b c m):=by
  intro i b c m h
  rw[Wa]at h
  split at h
  ·exact h
  ·rw[V5]at h;split at h <;> cases h
 refine⟨by simp [hH.len,Gc],fun i=>?_,fun i j b c m c' m' h1 h2=>hH.inj i j b c m c' m' (hget _ _ _ _ h1) (hget _ _ _ _ h2),fun i b c m h1=>hH.lo i b c m (hget _ _ _ _ h1),Ve MR hH.reg⟩
 rcases We i (Yi hp)with hi|hi|hi
 ·rw[U4 _ _ _ hi]
  exact(hH.ent i).keep MR (hst _) (by rw[XE (by rw[hH.len];exact hi)]) (fun _ _ _ _=>rfl)
 ·subst hi;rw[MD];exact .inl (Zb hH)
 ·rw[WB _ _ (by rw[Gc];omega)]
  right
  rw[List.getElem?_eq_none];simp [hH.len];omega
theorem RepL.junkAt:∀{l:List SV}{vs:List Value}(_:RepL w bs B l vs)(n:Nat),RepL w bs B (Km l n .junk) vs
 |_,_,.nil,n=>by cases n <;> exact .nil
 |_,_,.cons _ _ _ _ _ h',0=> .cons _ _ _ _ (.x _ _ (.junk _)) h'
 |_,_,.cons _ _ _ _ h h',n+1=> .cons _ _ _ _ h (RepL.junkAt h' n)
theorem YcX:∀(l:List HO)(x y:HO),Kz (J6 l x) (Yi l) y=J6 l y
 | [],_,_=>rfl
 |a::l,x,y=>congrArg (a::·) (YcX l x y)
theorem YnR{a:Act}{sv:List Act}(hR:PR w0 Pd s a sv w){d:Nat}{z:AL}(hd:∀q∈Pd,q.slot≠d):
 PR w0 (⟨Yi s.hp,d,z⟩::Pd) ((s.upd (.new z.ho)).put (some d) (.ptr (Yi s.hp) 0)) a sv w:=by
 obtain⟨⟨bs,hf,hsv,hH,hb,hoth⟩,hPd⟩:=hR
 have hlt:=H9 hPd
 refine⟨⟨bs++[.gone],?_,?_,?_,hb,hoth.keep MR⟩,fun p hp=>?_⟩
 ·have e:(er (⟨Yi s.hp,d,z⟩::Pd) ((s.upd (.new z.ho)).put (some d) (.ptr (Yi s.hp) 0))).fr=Km (er Pd s).fr d .junk:=by
   show Km (Xx (Km s.fr d (.ptr (Yi s.hp) 0)) Pd) d .junk=Km (Xx s.fr Pd) d .junk
   rw[BN hd,AR]
  rw[e]
  exact(hf.junkAt d).keep MR (Qn _ none) Jt
 ·exact RepLL.keep MR (Qn _ none) hsv
 ·have e:(er (⟨Yi s.hp,d,z⟩::Pd) ((s.upd (.new z.ho)).put (some d) (.ptr (Yi s.hp) 0))).hp=J6 (er Pd s).hp .gone:=by
   show Kz (KX (J6 s.hp z.ho) Pd) (Yi s.hp) .gone=J6 (KX s.hp Pd) .gone
   rw[Lv hlt]
   have:=YcX (KX s.hp Pd) z.ho .gone
   rw[Gb]at this
   exact this
  rw[e]
  exact Yku hH
 ·rcases K4.1 hp with rfl|hp
  ·exact⟨MD _ _,AR _ _ _ _⟩
  ·refine⟨?_,?_⟩
   ·show Yq (J6 s.hp z.ho) p.idx=_
    rw[U4 _ _ _ (hlt p hp)];exact(hPd p hp).1
   ·show Km (Km s.fr d _) p.slot _=Km s.fr d _
    rw[Fs _ _ _ _ _ (fun e=>hd p hp e.symm),(hPd p hp).2]
def Ac:Nat->List (Nat×AL)->List KJ->List KJ
 |_,[],Pd=>Pd
 |n,(d,z)::l,Pd=>Ac (n+1) l (⟨n,d,z⟩::Pd)
def Mm:List (Nat×AL)->List Nat->Bool
 | [],_=>true
 | (d,_)::l,ds=>!ds.contains d&&Mm l (d::ds)
theorem Yby{a:Act}{sv:List Act}:∀(al:List (Nat×AL))(Pd:List KJ)(s:S),Mm al (Pd.map (·.slot))=true->PR w0 Pd s a sv w->PR w0 (Ac (Yi s.hp) al Pd) (VX s al) a sv w
 | [],_,_,_,h=>h
 | (d,z)::l,Pd,s,hdis,h=>by
   simp only[Mm,YS,Z6]at hdis
   have hd:∀q∈Pd,q.slot≠d:=by
    intro q hq he
    have:(Pd.map (·.slot)).contains d=true:=by
     rw[List.contains_iff_mem,QO];exact⟨q,hq,he⟩
    rw[hdis.1]at this;cases this
   have:=Yby l (⟨Yi s.hp,d,z⟩::Pd) _ (by simpa using hdis.2) (YnR h (z:=z) hd)
   have hl:Yi ((s.upd (.new z.ho)).put (some d) (.ptr (Yi s.hp) 0)).hp=Yi s.hp+1:=Gc _ _
   rw[hl]at this
   exact this
theorem YbG{a:Act}{sv:List Act}(h:Rl w0 s a sv w):PR w0 [] s a sv w:=⟨h,fun _ hp=>by cases hp⟩
theorem YjK(p q:KJ)(l:List KJ):er (p::q::l) s=er (q::p::l) s:=by
 have h1:∀(fr:List SV),Km (Km fr q.slot .junk) p.slot .junk=Km (Km fr p.slot .junk) q.slot .junk:=fun fr=>by
  by_cases h:q.slot=p.slot
  ·rw[h]
  ·exact Fs _ _ _ _ _ h
 have h2:∀(hp:List HO),Kz (Kz hp q.idx .gone) p.idx .gone=Kz (Kz hp p.idx .gone) q.idx .gone:=fun hp=>by
  by_cases h:q.idx=p.idx
  ·rw[h]
  ·exact P7 _ _ _ _ _ h
 simp only[er,Xx,KX,h1,h2]
theorem YjI(p:KJ){l l':List KJ}(h:er l s=er l' s):er (p::l) s=er (p::l') s:=by
 simp only[er,S.mk.injEq,true_and]at h
 simp only[er,Xx,KX,h.1,h.2]
theorem YjJ(h:Pd.Perm Pd'):er Pd s=er Pd' s:=by
 induction h with
 |nil=>rfl
 |cons p _ ih=>exact YjI p ih
 |swap p q l=>exact YjK q p l
 |trans _ _ ih1 ih2=>exact ih1.trans ih2
theorem YbH{a:Act}{sv:List Act}(h:Pd.Perm Pd')(hR:PR w0 Pd s a sv w):PR w0 Pd' s a sv w:=
 ⟨by rw[<-YjJ h];exact hR.1,fun p hp=>hR.2 p (h.mem_iff.2 hp)⟩
end
end Go.Vx
namespace Go.Vx
open Go.RowKit
def Qb(sil:List (Nat×KJ))(L:Array Bool):List KJ:=
 match sil with
 | []=>[]
 |x::r=>bif L.getD x.1 false then Qb r L else x.2::Qb r L
theorem mem_pendOf{p:KJ}{L:Array Bool}:∀{sil:List (Nat×KJ)},p∈Qb sil L↔∃k,(k,p)∈sil/\L.getD k false=false
 | []=>by simp [Qb]
 |x::r=>by
  unfold Qb
  cases hl:L.getD x.1 false with
  |true=>
   simp only[cond_true]
   rw[mem_pendOf (sil:=r)]
   constructor
   ·rintro⟨k,h1,h2⟩;exact⟨k,KH _ h1,h2⟩
   ·rintro⟨k,h1,h2⟩
    rcases K4.1 h1 with rfl|h1
    ·rw[hl]at h2;cases h2
    ·exact⟨k,h1,h2⟩
  |false=>
   simp only[cond_false,K4]
   rw[mem_pendOf (sil:=r)]
   constructor
   ·rintro(rfl| ⟨k,h1,h2⟩)
    ·exact⟨x.1,.inl rfl,hl⟩
    ·exact⟨k,.inr h1,h2⟩
   ·rintro⟨k,rfl|h1,h2⟩
    ·exact .inl rfl
    ·exact .inr ⟨k,h1,h2⟩
theorem Pw{L:Array Bool}{i:Nat}:∀{sil:List (Nat×KJ)},(∀p,(i,p)∉sil)->Qb sil (L.setIfInBounds i true)=Qb sil L
 | [],_=>rfl
 |x::r,h=>by
  unfold Qb
  have hx:i≠x.1:=by
   intro e
   exact h x.2 (by rw[e];exact KF)
  rw[getD_set_ne false hx,Pw (sil:=r) fun p hp=>h p (KH _ hp)]
theorem Ybx{L:Array Bool}{i:Nat}{p:KJ}(hi:i<L.size)(hl:L.getD i false=false):∀{sil:List (Nat×KJ)},(sil.map (·.1)).Nodup->(i,p)∈sil->(Qb sil L).Perm (p::Qb sil (L.setIfInBounds i true))
 |x::r,hn,hm=>by
  rw[KD,List.nodup_cons]at hn
  by_cases hx:x.1=i
  ·have hp:x=(i,p):=by
    rcases K4.1 hm with rfl|hm
    ·rfl
    ·exact absurd (QO.2 ⟨_,hm,hx.symm⟩) hn.1
   subst hp
   have hr:∀q,(i,q)∉r:=fun q hq=>hn.1 (QO.2 ⟨_,hq,rfl⟩)
   unfold Qb
   simp only[hl,cond_false]
   have:(L.setIfInBounds i true).getD i false=true:=by simp [hi]
   rw[this,Pw hr]
   exact List.Perm.refl _
  ·have hm':(i,p)∈r:=by
    rcases K4.1 hm with rfl|hm
    ·exact absurd rfl hx
    ·exact hm
   have ih:=Ybx hi hl hn.2 hm'
   unfold Qb
   rw[getD_set_ne false (Ne.symm hx)]
   cases L.getD x.1 false with
   |true=>exact ih
   |false=>exact(List.Perm.cons _ ih).trans (List.Perm.swap _ _ _)
theorem Ybw{n:Nat}:∀{sil:List (Nat×KJ)},Qb sil (WS n false)=sil.map (·.2)
 | []=>rfl
 |x::r=>by
  unfold Qb
  have:(WS n false).getD x.1 false=false:=by
   rcases YV x.1 n with h'|h'
   ·simp [h']
   ·simp [Array.getElem?_eq_none,h']
  rw[this,Ybw (sil:=r)]
  rfl
theorem Tk{md:Region.Mode}{ops:Array Oper}(hb:∀(i:Nat) (o:Oper),ops[i]? =some o->∀e∈o.after,Region.binds md e=true->e.on<i){L:Array Bool}(hd:Down md ops L)(hr:Region.ready md ops L=[]):
 ∀(N i:Nat),i<N->i<ops.size->L.getD i false=true
 |N+1,i,hi,hn=>by
  cases hl:L.getD i false with
  |true=>rfl
  |false=>
   have ho:ops[i]? =some ops[i]:=Array.getElem?_eq_getElem hn
   have hL:i<L.size:=by rw[hd.1];exact hn
   have:i∈Region.ready md ops L:=mem_ready.2 ⟨by simp [hL]at hl⊢;exact hl,_,ho,fun e he hbi=>by
    have:=hb i _ ho e he hbi
    exact Tk hb hd hr N e.on (by omega) (by omega)⟩
   rw[hr]at this;cases this
section
variable {P:Program} {E:Env} {G:VOp->(S->Prop)->S->Prop} {w0:Cx} {rd:Option Nat} {all:Array Oper} {tab:List DT} {sil:List (Nat×KJ)} {clo:Nat->Nat->Bool} {md:Region.Mode}
structure CH (P:Program) (all:Array Oper) (tab:List DT) (sil:List (Nat×KJ)) (clo:Nat->Nat->Bool):Prop where
 nodup:(sil.map (·.1)).Nodup
 apart:∀x∈sil,∀y∈sil,x.1≠y.1->x.2.slot≠y.2.slot/\x.2.idx≠y.2.idx
 silent:∀(i d:Nat),tab[i]? =some (.silent d)->∃p o elem,(i,p)∈sil/\all[i]? =some o/\o.op= .alloc elem/\o.guard=none/\p.cells.is P elem/\o.dst=some p.slot
 op:∀(i:Nat)(v:VOp)(chk:List (Nat×X)),tab[i]? =some (.op v chk)->(∀p,(i,p)∉sil)/\(∃o,all[i]? =some o/\WR P all o=some v)/\
  ∀x∈sil,(clo i x.1=true\/(x.2.slot∉v.reads/\(v.op.isAppend=true->x.2.cells.clean=true)))/\v.dst≠some x.2.slot
 loud:∀(i:Nat)(v:VOp),tab[i]? =some (.loud v)->sil=[]/\∃o,all[i]? =some o/\WR P all o=some v
structure Hs (P:Program) (G:VOp->(S->Prop)->S->Prop) (rd:Option Nat) (all:Array Oper) (κ:Kh) (c0:Cx0) (ks:List (Nat×Obj)) (sv:List Act):Prop where
 sat:UI P c0
 mono:∀v (A B:S->Prop) s,(∀s,A s->B s)->G v A s->G v B s
 ok:∀{i:Nat}{o:Oper}{v:VOp}{A:S->Prop}{s:S},all[i]? =some o->WR P all o=some v->G v A s->∀{J:Nat->Option IK}{hJ:Ext c0 J}{a:Act}{w:World},Rl ⟨c0.wI J hJ,ks⟩ s a sv w->
  wpOpIn (Wd rd) 0 P all κ i (fun a' w'=> ∃s',A s'/\∃J',∃hJ':Ext c0 J',Rl ⟨c0.wI J' hJ',ks⟩ s' a' sv w') a w
theorem hop(hE:YE P E)(hc:Cs md all clo)(hr:CH P all tab sil clo){c0:Cx0}{ks:List (Nat×Obj)}{κ:Kh}{sv:List Act}(hG:Hs P G rd all κ c0 ks sv)(i:Nat)(L:Array Bool)(s:S)(A:S->Prop)(a:Act)(w:World)
 (hi:i∈Region.ready md all L)(h:Kv E G tab i L A s)(hR:Down md all L/\∃J,∃hJ:Ext c0 J,PR ⟨c0.wI J hJ,ks⟩ (Qb sil L) s a sv w):
 wpOpIn (Wd rd) 0 P all κ i (fun a' w'=> ∃s',A s'/\(Down md all (L.setIfInBounds i true)/\∃J,∃hJ:Ext c0 J,PR ⟨c0.wI J hJ,ks⟩ (Qb sil (L.setIfInBounds i true)) s' a' sv w')) a w:=by
 obtain⟨hd,J,hJ,hR⟩:=hR
 have hd':=hd.set hi
 unfold Kv at h
 cases ht:tab[i]? with
 |none=>rw[ht]at h;exact h.elim
 |some t=>
  rw[ht]at h
  cases t with
  |silent d=>
   obtain⟨p,o,elem,hm,ho,hop,hg,hz,hdst⟩:=hr.silent i d ht
   have hsz:i<L.size:=by rw[hd.1];exact(Xh.1 ho).1
   have hR':=YbH (Ybx hsz (Nt hi) hr.nodup hm) hR
   have hap:∀q∈Qb sil (L.setIfInBounds i true),q.slot≠p.slot/\q.idx≠p.idx:=by
    intro q hq
    obtain⟨k,hk,hkl⟩:=mem_pendOf.1 hq
    refine hr.apart (k,q) hk (i,p) hm ?_
    rintro(rfl:k=i)
    simp [hsz]at hkl
   exact Yh1 ho hop hg hz hdst (fun q hq=>(hap q hq).2) (fun q hq=>(hap q hq).1) hR' fun a' w' h'=>⟨s,h,hd',J,hJ,h'⟩
  |op v chk=>
   obtain⟨hns,⟨o,ho,hv⟩,hst⟩:=hr.op i v chk ht
   have hpend:∀p∈Qb sil L,(p.slot∉v.reads/\(v.op.isAppend=true->p.cells.clean=true))/\v.dst≠some p.slot:=by
    intro p hp
    obtain⟨k,hk,hkl⟩:=mem_pendOf.1 hp
    obtain⟨h1,h2⟩:=hst (k,p) hk
    refine⟨h1.resolve_left fun hck=>?_,h2⟩
    have:=hc.ready L i k hd hi hck
    rw[hkl]at this;cases this
   refine wpOpIn_mono (fun a' w' ⟨s',h1,J',hJ',h2⟩=>⟨s',h1,hd',J',hJ',by rw[Pw hns];exact h2⟩) (IF hE hG.sat ho hv (fun p hp=>(hpend p hp).1.1) (fun p hp=>(hpend p hp).2) (fun ha p hp=>(hpend p hp).1.2 ha) h.2 hR)
  |loud v=>
   obtain⟨hsil,o,ho,hv⟩:=hr.loud i v ht
   have hpe:∀L,Qb sil L=[]:=fun L=>by rw[hsil];rfl
   rw[hpe]at hR
   simp only[hpe]
   rcases h with h|h
   ·exact wpOpIn_mono (fun a' w' ⟨s',h1,J',hJ',h2⟩=>⟨s',h1,hd',J',hJ',h2⟩) (IF hE hG.sat ho hv (fun p hp=>(by cases hp)) (fun p hp=>(by cases hp)) (fun ha p hp=>(by cases hp)) h hR)
   ·exact wpOpIn_mono (fun a' w' ⟨s',h1,J',hJ',h2⟩=>⟨s',h1,hd',J',hJ',YbG h2⟩) (hG.ok ho hv h hR.1)
theorem Yp3(hE:YE P E)(hm:P.follows .mixedOrders=true){cl:List Nat}(hl:cl.length=all.size)(hcl:UV (K9 .any all) cl all.size=true)(hr:CH P all tab sil (Jg cl)){free:Nat->Bool}
 (hfree:∀i,free i=true->(∃d,tab[i]? =some (.silent d))\/∃v,tab[i]? =some (.op v [])/\v.op.quiet=true/\∀(j:Nat) (t:DT),tab[j]? =some t->Md (Jg cl) i v j t=true)
 {K:S->Prop}{κ:Kh}{s:S}{a:Act}{sv:List Act}{w:World}{id:Nat}
 (h:(∀(j:Nat) (L:Array Bool) (s:S) (A B:S->Prop),(∀s,A s->B s)->Kv E G tab j L A s->Kv E G tab j L B s)->(∀i L s,free i=true->¬Kv E G tab i L (fun _=>False) s)->
   (∀(i:Nat),free i=true->∀(j:Nat) (L:Array Bool) (s:S) (A:S->Prop),Down .any all L->i∈Region.ready .any all L->j∈Region.ready .any all L->j≠i->Kv E G tab i L (Kv E G tab j (L.setIfInBounds i true) A) s->Kv E G tab j L (Kv E G tab i (L.setIfInBounds j true) A) s)->
   Wx (Kv E G tab) K .any all all.size (WS all.size false) s){c0:Cx0}{ks:List (Nat×Obj)}{J:Nat->Option IK}{hJ:Ext c0 J}(hG:Hs P G rd all κ c0 ks sv)(hR:PR ⟨c0.wI J hJ,ks⟩ (sil.map (·.2)) s a sv { w with drawn:=w.drawn+1}) (hK:∀s a w J (hJ:Ext c0 J),K s->Rl ⟨c0.wI J hJ,ks⟩ s a sv w->κ .normal a w) (hall:∀x∈sil,x.1<all.size) (hbel:∀(i:Nat)(o:Oper),all[i]? =some o->∀e∈o.after,Region.binds .any e=true->e.on<i):(Code.region id all true).wpIn (Wd rd) 0 P κ a w:=by
 have hc:=Yja hl hcl
 refine wpIn_region_any hm ?_
 have hany:=h (Ydm hG.mono) ?_ ?_
 ·refine Yh9 (step:=Kv E G tab) (K:=K) (P:=P) (Q:=κ) (fun L s a w=>Down .any all L/\∃J,∃hJ:Ext c0 J,PR ⟨c0.wI J hJ,ks⟩ (Qb sil L) s a sv w) (fun i L s A a w hi hs hR=>hop hE hc hr hG i L s A a w hi hs hR) ?_ _ _ s a _ hany ⟨EZ,J,hJ,?_⟩
  ·rintro L s a w hr0 hKs ⟨hd,J,hJ,hPR⟩
   have:Qb sil L=[]:=by
    cases hp:Qb sil L with
    |nil=>rfl
    |cons p r=>
     obtain⟨k,hk,hkl⟩:=mem_pendOf.1 (show p∈Qb sil L by rw[hp];exact KF)
     have:=Tk hbel hd hr0 (k+1) k (by omega) (hall _ hk)
     rw[hkl]at this;cases this
   rw[this]at hPR
   exact hK s a w J hJ hKs hPR.1
  ·rw[Ybw];exact hR
 ·intro i L s hf hstep
  rcases hfree i hf with⟨d,ht⟩ | ⟨v,ht,hq,_⟩
  ·unfold Kv at hstep;rw[ht]at hstep;exact hstep
  ·unfold Kv at hstep;rw[ht]at hstep;exact IE hq hstep.2
 ·intro i hf j L s A hd hri hrj hji hs
  rcases hfree i hf with⟨d,ht⟩ | ⟨v,ht,hq,hcm⟩
  ·have hsi:∀(L:Array Bool)(A:S->Prop)(s:S),Kv E G tab i L A s=A s:=by
    intro L A s;unfold Kv;rw[ht]
   rw[hsi]at hs
   refine Ydm hG.mono j L s _ _ (fun s' hs'=>by rw[hsi];exact hs') ?_
   unfold Kv at hs⊢
   cases htj:tab[j]? with
   |none=>rw[htj]at hs;exact hs
   |some t=>
    rw[htj]at hs
    cases t with
    |silent d=>exact hs
    |op u chk=>exact⟨fun c hcm hcl=>hs.1 c hcm (getD_set_true hcl),hs.2⟩
    |loud u=>exact hs
  ·exact Yq8 hc ht hq hcm j L s A hd hri hrj hji hs
theorem Yqe{s:S}{a:Act}{sv:List Act}{w:World}(h:Rl w0 s a sv w)(n:Nat):Rl w0 s a sv { w with drawn:=n}:=by
 obtain⟨bs,hf,hsv,hH,hb,hoth⟩:=h
 have hk:Keeps w bs { w with drawn:=n} bs:=fun b hf o ho=>⟨ho,hf⟩
 have hst:Stays none bs bs:=fun _ _ _ h _=>h
 exact⟨bs,hf.keep hk hst Jt,hsv.keep hk hst,⟨hH.len,fun i=>(hH.ent i).keep hk hst rfl (fun _ _ _ _=>rfl),hH.inj,hH.lo,Ve hk hH.reg⟩,⟨hb.os,hb.tape,hb.output,hb.size,hb.block⟩,hoth.keep hk⟩
end
end Go.Vx
namespace Go.Vx
open Go.RowKit
def GZ(lf:FuncId->Bool)(clo:Nat->Nat->Bool)(all:List VOp)(v:VOp)(j:Nat):DT:=
 match XS v with
 |some (d,_)=> .silent d
 |none=>bif W7 lf v then .loud v else .op v (bif v.op.isStore then DA clo j all 0 else bif v.op.isAppend then Dn clo j all 0 else [])
theorem Fw{lf:FuncId->Bool}{clo:Nat->Nat->Bool}{all:List VOp}:∀(l:List VOp)(j i:Nat),(JU lf clo all l j)[i]? =(l[i]?).map fun v=>GZ lf clo all v (j+i)
 | [],_,_=>by simp [JU]
 |v::l,j,0=>by
  simp only[JU,Vo,Option.map_some,Kw,GZ]
  cases XS v <;> rfl
 |v::l,j,i+1=>by
  simp only[JU,List.getElem?_cons_succ]
  rw[Fw l (j+1) i]
  congr 1
  funext v
  rw[show j+1+i=j+(i+1)by omega]
theorem mem_silOf{k d:Nat}{z:AL}:∀{l:List VOp}{j:Nat},(k,d,z)∈Xp l j↔∃i v,l[i]? =some v/\k=j+i/\XS v=some (d,z)
 | [],j=>by simp [Xp]
 |v::l,j=>by
  have ih:=mem_silOf (k:=k) (d:=d) (z:=z) (l:=l) (j:=j+1)
  unfold Xp
  cases hs:XS v with
  |none=>
   simp only
   rw[ih]
   constructor
   ·rintro⟨i,u,h1,h2,h3⟩;exact⟨i+1,u,by simpa using h1,by omega,h3⟩
   ·rintro⟨i,u,h1,h2,h3⟩
    cases i with
    |zero=>simp only[Vo,Option.some.injEq]at h1;subst h1;rw[hs]at h3;cases h3
    |succ i=>exact⟨i,u,by simpa using h1,by omega,h3⟩
  |some r=>
   obtain⟨d',z'⟩:=r
   simp only[K4]
   rw[ih]
   constructor
   ·rintro(h| ⟨i,u,h1,h2,h3⟩)
    ·cases h;exact⟨0,v,rfl,rfl,hs⟩
    ·exact⟨i+1,u,by simpa using h1,by omega,h3⟩
   ·rintro⟨i,u,h1,h2,h3⟩
    cases i with
    |zero=>simp only[Vo,Option.some.injEq]at h1;subst h1;rw[hs]at h3;cases h3;left;rw[h2];rfl
    |succ i=>exact .inr ⟨i,u,by simpa using h1,by omega,h3⟩
theorem YeC{P:Program}{all:Array Oper}:∀{rest:List Oper}{vs:List VOp},Xg P all rest=some vs->∀(i:Nat)(v:VOp),vs[i]? =some v->∃o,rest[i]? =some o/\WR P all o=some v
 | [],vs,h,i,v,hv=>by simp only[Xg,Option.some.injEq]at h;subst h;simp at hv
 |o::l,vs,h,i,v,hv=>by
  simp only[Xg]at h
  obtain⟨x,hx,h⟩:=YC.1 h
  obtain⟨y,hy,rfl⟩:=YO.1 h
  cases i with
  |zero=>simp only[Vo,Option.some.injEq]at hv;subst hv;exact⟨o,rfl,hx⟩
  |succ i=>exact YeC hy i v (by simpa using hv)
theorem Ij{clo:Nat->Nat->Bool}{i:Nat}{v:VOp}:∀{l:List DT}{j:Nat},Mc clo i v l j=true->∀(k:Nat)(t:DT),l[k]? =some t->Md clo i v (j+k) t=true
 |t::l,j,h,0,u,hu=>by
  simp only[Mc,YS]at h
  simp only[Vo,Option.some.injEq]at hu;subst hu;exact h.1
 |t::l,j,h,k+1,u,hu=>by
  simp only[Mc,YS]at h
  have:=Ij h.2 k u (by simpa using hu)
  rw[show j+1+k=j+(k+1)by omega]at this
  exact this
end Go.Vx
namespace Go.Vx
open Go.RowKit
theorem Yau:∀l:List SV,BW l=YH l
 | []=>rfl
 |_::l=>congrArg (·+1) (Yau l)
def AL.op:AL->VO
 | .box z=> .alloc z
 | .arr n size z=> .allocArr n size z
def AL.ok:AL->Prop
 | .box _=>True
 | .arr n size z=>YH z=n*size
theorem YqR{v:VOp}{d:Nat}{z:AL}(h:XS v=some (d,z)):v.dst=some d/\v.g=none/\v.op=z.op/\z.ok:=by
 unfold XS at h
 split at h
 ·cases h;exact⟨rfl,rfl,rfl,trivial⟩
 ·rename_i n size z' _
  cases hb:YL (BW z') (n*size)with
  |true=>rw[hb]at h;cases h;exact⟨rfl,rfl,rfl,(Yau z').symm.trans (JE hb)⟩
  |false=>rw[hb]at h;cases h
 ·cases h
theorem YtV{P:Program}{o:Oper}{z:AL}{ops:List Operand}{elem:TypeId}(ho:o.op= .alloc elem)(h:vop P o=some (AL.op z,ops))(hk:AL.ok z):z.is P elem:=by
 obtain⟨dst,op,type,pos,after,guard⟩:=o
 simp only at ho
 subst ho
 unfold vop at h
 simp only at h
 split at h
 ·obtain⟨_,hz,h⟩:=YC.1 h
  obtain⟨_,_,h⟩:=YO.1 h
  cases z <;> cases h
  exact⟨hz,hk⟩
 ·obtain⟨_,hz,h⟩:=YO.1 h
  cases z <;> cases h
  exact hz
theorem Tl:∀{os:List Oper}{vs:List VOp},GO os vs=true->∀(i:Nat)(o:Oper)(v:VOp),os[i]? =some o->vs[i]? =some v->(XS v).isSome=true->∃e,o.op= .alloc e
 | [],_,_,i,o,v,h,_,_=>by simp at h
 |_::_,[],_,i,o,v,_,h,_=>by simp at h
 |o'::os,v'::vs,h,0,o,v,h1,h2,h3=>by
  simp only[Vo,Option.some.injEq]at h1 h2
  subst h1;subst h2
  simp only[GO,YS]at h
  have h:=h.1
  cases hs:XS v' with
  |none=>rw[hs]at h3;cases h3
  |some x=>
   rw[hs]at h
   simp only at h
   split at h
   ·exact⟨_,‹_›⟩
   ·cases h
 |o'::os,v'::vs,h,i+1,o,v,h1,h2,h3=>by
  simp only[GO,YS]at h
  exact Tl h.2 i o v (by simpa using h1) (by simpa using h2) h3
def Vh:Nat->List (Nat×Nat×AL)->List (Nat×KJ)
 |_,[]=>[]
 |n,(j,d,z)::l=>(j,⟨n,d,z⟩)::Vh (n+1) l
theorem MW{j:Nat}{p:KJ}:∀{l:List (Nat×Nat×AL)}{n:Nat},(j,p)∈Vh n l->n<=p.idx/\(j,p.slot,p.cells)∈l
 | [],_,h=>by cases h
 | (j',d,z)::l,n,h=>by
   rcases K4.1 h with h|h
   ·cases h;exact⟨Yr _,KF⟩
   ·have:=MW h;exact⟨by omega,KH _ this.2⟩
theorem Ydc{j d:Nat}{z:AL}:∀{l:List (Nat×Nat×AL)}{n:Nat},(j,d,z)∈l->∃p,(j,p)∈Vh n l/\p.slot=d/\p.cells=z
 | [],_,h=>by cases h
 | (j',d',z')::l,n,h=>by
   rcases K4.1 h with h|h
   ·cases h;exact⟨_,KF,rfl,rfl⟩
   ·obtain⟨p,h1,h2⟩:=Ydc (n:=n+1) h
    exact⟨p,KH _ h1,h2⟩
theorem Ydb:∀{l:List (Nat×Nat×AL)}{n:Nat},(Vh n l).map (·.1)=l.map (·.1)
 | [],_=>rfl
 | (j,d,z)::l,n=>by simp only[Vh,KD,Ydb]
theorem YqQ{x:Nat×Nat×AL}{l:List VOp}{j:Nat}(h:x∈Xp l j):j<=x.1:=by
 obtain⟨k,d,z⟩:=x
 obtain⟨i,v,_,h2,_⟩:=mem_silOf.1 h
 simp only;omega
theorem Rb:∀{l:List VOp}{j:Nat},((Xp l j).map (·.1)).Nodup
 | [],_=> .nil
 |v::l,j=>by
  unfold Xp
  cases XS v with
  |none=>exact Rb
  |some r=>
   obtain⟨d,z⟩:=r
   simp only[KD,List.nodup_cons]
   refine⟨fun h=>?_,Rb⟩
   obtain⟨x,hx,h⟩:=QO.1 h
   have:=YqQ hx;omega
theorem IA:∀{l:List Nat},HJ l=true->l.Nodup
 | [],_=> .nil
 |d::l,h=>by
  simp only[HJ,YS,Z6]at h
  rw[List.nodup_cons]
  refine⟨fun hm=>?_,IA h.2⟩
  have:l.contains d=true:=by rw[List.contains_iff_mem];exact hm
  rw[h.1]at this;cases this
theorem Yda:∀{l:List (Nat×Nat×AL)}{n:Nat},(l.map (·.2.1)).Nodup->∀x∈Vh n l,∀y∈Vh n l,x.1≠y.1->x.2.slot≠y.2.slot/\x.2.idx≠y.2.idx
 | [],_,_,x,hx,_,_,_=>by cases hx
 | (j,d,z)::l,n,hn,x,hx,y,hy,hxy=>by
   simp only[KD,List.nodup_cons]at hn
   have key:∀u∈Vh (n+1) l,u.2.slot≠d/\u.2.idx≠n:=by
    rintro⟨k,p⟩ hu
    obtain⟨h1,h2⟩:=MW hu
    refine⟨fun e=>hn.1 (QO.2 ⟨_,h2,e⟩),?_⟩
    simp only;omega
   rcases K4.1 hx with rfl|hx <;> rcases K4.1 hy with rfl|hy
   ·exact absurd rfl hxy
   ·exact⟨fun e=>(key y hy).1 e.symm,fun e=>(key y hy).2 e.symm⟩
   ·exact key x hx
   ·exact Yda hn.2 x hx y hy hxy
theorem pends_perm:∀{l:List (Nat×Nat×AL)}{n:Nat}{Pd:List KJ},(Ac n (l.map (·.2)) Pd).Perm ((Vh n l).map (·.2)++Pd)
 | [],_,_=>List.Perm.refl _
 | (j,d,z)::l,n,Pd=>by
   simp only[KD,Ac,Vh,ZH]
   exact pends_perm.trans List.perm_middle
theorem Yjj{al:List (Nat×AL)}:∀{ds:List Nat},(al.map (·.1)).Nodup->(∀d∈al.map (·.1),d∉ds)->Mm al ds=true:=by
 induction al with
 |nil=>intros;rfl
 |cons x al ih=>
  obtain⟨d,z⟩:=x
  intro ds hn hd
  simp only[KD,List.nodup_cons]at hn
  simp only[Mm,YS,Z6]
  refine⟨?_,ih hn.2 fun e he hm=>?_⟩
  ·cases hc:ds.contains d with
   |false=>rfl
   |true=>rw[List.contains_iff_mem]at hc;exact absurd hc (hd d (by simp))
  ·rcases K4.1 hm with rfl|hm
   ·exact hn.1 he
   ·exact hd e (by simp only[KD,K4];exact .inr he) hm
theorem AX{clo:Nat->Nat->Bool}{sil:List (Nat×Nat×AL)}:∀{l:List DT}{j:Nat},Z4 clo sil l j=true->∀(k:Nat)(v:VOp)(chk:List (Nat×X)),l[k]? =some (.op v chk)->
 ∀x∈sil,(clo (j+k) x.1=true\/(x.2.1∉v.reads/\(v.op.isAppend=true->x.2.2.clean=true)))/\v.dst≠some x.2.1
 | [],_,_,k,v,chk,h,_,_=>by simp at h
 | .silent _::l,j,h,0,v,chk,hk,_,_=>by simp at hk
 | .silent _::l,j,h,k+1,v,chk,hk,x,hx=>by
   have:=AX (l:=l) (j:=j+1) h k v chk (by simpa using hk) x hx
   rwa [show j+1+k=j+(k+1)by omega]at this
 | .loud _::l,j,h,0,v,chk,hk,_,_=>by simp at hk
 | .loud _::l,j,h,k+1,v,chk,hk,x,hx=>by
   simp only[Z4,YS]at h
   have:=AX (l:=l) (j:=j+1) h.2 k v chk (by simpa using hk) x hx
   rwa [show j+1+k=j+(k+1)by omega]at this
 | .op u c::l,j,h,0,v,chk,hk,x,hx=>by
   simp only[Vo,Option.some.injEq,DT.op.injEq]at hk
   obtain⟨rfl,rfl⟩:=hk
   simp only[Z4,YS,Vn]at h
   have:=h.1 x hx
   simp only[Qt,YS,Z6]at this
   refine⟨?_,?_⟩
   ·rcases this.1 with h1| ⟨h1,h2⟩
    ·exact .inl h1
    ·exact .inr ⟨fun hm=>absurd ((List.contains_iff_mem (a:=x.2.1)).2 hm) (by rw[h1];simp),fun ha=>by rcases h2 with h2|h2;(rw[ha]at h2;cases h2);exact h2⟩
   ·intro e
    have:=this.2
    rw[e]at this
    simp at this
 | .op u c::l,j,h,k+1,v,chk,hk,x,hx=>by
   simp only[Z4,YS]at h
   have:=AX (l:=l) (j:=j+1) h.2 k v chk (by simpa using hk) x hx
   rwa [show j+1+k=j+(k+1)by omega]at this
theorem AY{clo:Nat->Nat->Bool}{sil:List (Nat×Nat×AL)}:∀{l:List DT}{j:Nat},Z4 clo sil l j=true->∀(k:Nat)(v:VOp),l[k]? =some (.loud v)->sil=[]
 | [],_,_,k,v,h=>by simp at h
 | .silent _::l,j,h,0,v,hk=>by simp at hk
 | .silent _::l,j,h,k+1,v,hk=>AY (l:=l) (j:=j+1) h k v (by simpa using hk)
 | .op u c::l,j,h,0,v,hk=>by simp at hk
 | .op u c::l,j,h,k+1,v,hk=>by
   simp only[Z4,YS]at h
   exact AY (l:=l) (j:=j+1) h.2 k v (by simpa using hk)
 | .loud _::l,j,h,0,v,hk=>by
   simp only[Z4,YS]at h
   have h:=h.1
   split at h
   ·rfl
   ·cases h
 | .loud _::l,j,h,k+1,v,hk=>by
   simp only[Z4,YS]at h
   exact AY (l:=l) (j:=j+1) h.2 k v (by simpa using hk)
theorem TG:∀{l:List Nat}{j:Nat},GS l j=true->∀k,l.getD k 0<2^(j+k)
 | [],j,_,k=>by simp;exact Qv _
 |m::l,j,h,0=>by
  simp only[GS,YS]at h
  have:=h.1
  simp only[Nat.blt_eq]at this
  simpa using this
 |m::l,j,h,k+1=>by
  simp only[GS,YS]at h
  have:=TG h.2 k
  rw[show j+1+k=j+(k+1)by omega]at this
  simpa using this
theorem Ot{clo:Nat->Nat->Bool}{tab:List DT}:∀(n j i:Nat),(VI clo tab n j).getD i false=true->Ld clo tab (j+i)=true
 |0,_,_,h=>by simp [VI]at h
 |n+1,j,0,h=>by simpa [VI]using h
 |n+1,j,i+1,h=>by
  have:=Ot (clo:=clo) (tab:=tab) n (j+1) i (by simpa [VI]using h)
  rwa [show j+1+i=j+(i+1)by omega]at this
theorem Ck{P:Program}{all:Array Oper}:∀{rest:List Oper}{vs:List VOp},Xg P all rest=some vs->vs.length=rest.length
 | [],vs,h=>by simp only[Xg,Option.some.injEq]at h;subst h;rfl
 |o::l,vs,h=>by
  simp only[Xg]at h
  obtain⟨x,hx,h⟩:=YC.1 h
  obtain⟨y,hy,rfl⟩:=YO.1 h
  simp [Ck hy]
def OT.all:OT->List Nat
 | .nil=>[]
 | .op i t=>i::t.all
 | .br a b=>a.all++b.all
def WZ(E:Env)(G:VOp->(S->Prop)->S->Prop)(A:S->Prop):List DOp->S->Prop
 | [],s=>A s
 | ⟨v,chk⟩::l,s=>UU v.op.isAppend s (s.x (QX v.xs)) chk/\(Qa E v (WZ E G A l) s\/G v (WZ E G A l) s)
def Ui(E:Env)(G:VOp->(S->Prop)->S->Prop)(A:S->Prop):DTr->S->Prop
 | .leaf,s=>A s
 | .ops l t,s=>WZ E G (Ui E G A t) l s
 | .br a b,s=>Ui E G A a s/\Ui E G A b s
theorem T9{s:S}{y:SV}:∀{l:List X},Ma s y l->∀x∈l,MZ (s.x x) y
 |x::l,h,z,hz=>by
  rcases K4.1 hz with rfl|hz
  ·exact h.1
  ·exact T9 h.2 z hz
theorem Ib{s:S}{y:SV}:∀{l:List X},Mb s y l->∀x∈l,HA (s.x x) y
 |x::l,h,z,hz=>by
  rcases K4.1 hz with rfl|hz
  ·exact h.1
  ·exact Ib h.2 z hz
theorem Ia{ap:Bool}{s:S}{y:SV}{l:List X}(h:UU ap s y l)(x:X)(hx:x∈l):Dz ap (s.x x) y:=by
 cases ap with
 |false=>exact Ib h x hx
 |true=>exact T9 h x hx
theorem Nx{E:Env}{G:VOp->(S->Prop)->S->Prop}{A:S->Prop}{tab:List DT}(hGm:∀v (A B:S->Prop) s,(∀s,A s->B s)->G v A s->G v B s)(hGn:∀(i:Nat) (v:VOp) (chk:List (Nat×X)) (A:S->Prop) (s:S),tab[i]? =some (.op v chk)->¬G v A s):
 ∀{order:List Nat}{L:Array Bool}{s:S},(∀i∈order,i<tab.length)->WZ E G A (UZ tab order) s->AO (Kv E G tab) A order L s
 | [],_,_,_,h=>h
 |i::order,L,s,hi,h=>by
  have hlt:=hi i KF
  unfold UZ at h
  unfold AO Kv
  cases ht:tab[i]? with
  |none=>rw[List.getElem?_eq_none_iff]at ht;omega
  |some t=>
   rw[ht]at h
   cases t with
   |silent d=>exact Nx hGm hGn (fun j hj=>hi j (KH _ hj)) h
   |op v chk=>
    simp only at h⊢
    refine⟨fun c hc _=>Ia h.1 c.2 (QO.2 ⟨c,hc,rfl⟩),VD (fun s' h'=>Nx hGm hGn (fun j hj=>hi j (KH _ hj)) h') (h.2.resolve_right (hGn i v chk _ _ ht))⟩
   |loud v=>
    simp only at h⊢
    exact h.2.imp (VD fun s' h'=>Nx hGm hGn (fun j hj=>hi j (KH _ hj)) h') (hGm v _ _ s fun s' h'=>Nx hGm hGn (fun j hj=>hi j (KH _ hj)) h')
theorem Hl{E:Env}{G:VOp->(S->Prop)->S->Prop}{A:S->Prop}{tab:List DT}(hGm:∀v (A B:S->Prop) s,(∀s,A s->B s)->G v A s->G v B s)(hGn:∀(i:Nat) (v:VOp) (chk:List (Nat×X)) (A:S->Prop) (s:S),tab[i]? =some (.op v chk)->¬G v A s):
 ∀{t:OT}{L:Array Bool}{s:S},(∀i∈t.all,i<tab.length)->Ui E G A (HL tab t) s->Fx (Kv E G tab) A t L s
 | .nil,_,_,_,h=>h
 | .op i t,L,s,hi,h=>by
   have hlt:=hi i (by simp [OT.all])
   have hr:∀j∈t.all,j<tab.length:=fun j hj=>hi j (by simp [OT.all,hj])
   unfold HL Ui UZ at h
   unfold Fx Kv
   cases ht:tab[i]? with
   |none=>rw[List.getElem?_eq_none_iff]at ht;omega
   |some x=>
    rw[ht]at h
    cases x with
    |silent d=>exact Hl hGm hGn hr h
    |op v chk=>
     simp only[WZ]at h⊢
     refine⟨fun c hc _=>Ia h.1 c.2 (QO.2 ⟨c,hc,rfl⟩),VD (fun s' h'=>Hl hGm hGn hr h') (h.2.resolve_right (hGn i v chk _ _ ht))⟩
    |loud v=>
     simp only[WZ]at h⊢
     exact h.2.imp (VD fun s' h'=>Hl hGm hGn hr h') (hGm v _ _ s fun s' h'=>Hl hGm hGn hr h')
 | .br a b,L,s,hi,h=>⟨Hl hGm hGn (fun j hj=>hi j (by simp [OT.all,hj])) h.1,Hl hGm hGn (fun j hj=>hi j (by simp [OT.all,hj])) h.2⟩
theorem Cc{free:Nat->Bool}{dm:List Nat}{n:Nat}:∀{t:OT}{m:Nat}{ex:Bool},QL free dm n t m ex=true->∀i∈t.all,i<n
 | .op i t,m,ex,h,j,hj=>by
   simp only[QL,YS]at h
   rcases K4.1 hj with rfl|hj
   ·have:=KI h.1.1.1;omega
   ·exact Cc h.2 j hj
 | .br a b,m,ex,h,j,hj=>by
   simp only[QL,YS]at h
   rcases KE.1 hj with hj|hj
   ·exact Cc h.1.2 j hj
   ·exact Cc h.2 j hj
theorem YcP{free:Nat->Bool}{dm:List Nat}{n:Nat}:∀{l:List Nat}{m:Nat},Fq free dm n l m=true->∀i∈l,i<n
 |i::l,m,h,j,hj=>by
  simp only[Fq,YS]at h
  rcases K4.1 hj with rfl|hj
  ·have:=KI h.1.1.1;omega
  ·exact YcP h.2 j hj
section
variable {P:Program} {E:Env} {G:VOp->(S->Prop)->S->Prop} {w0:Cx} {rd:Option Nat}
theorem II(hE:YE P E)(hm:P.follows .mixedOrders=true){ops:Array Oper}{vs:List VOp}(hvs:Xg P ops ops.toList=some vs)(c0:GO ops.toList vs=true)(c1:YL (Qj (K9 .any ops)).length ops.size=true)(c2:UV (K9 .any ops) (Qj (K9 .any ops)) ops.size=true)(c3:GS (K9 .any ops) 0=true)
 (c4:Z4 (Jg (Qj (K9 .any ops))) (Xp vs 0) (JU (J4 P) (Jg (Qj (K9 .any ops))) vs vs 0) 0=true)(c5:HJ ((Xp vs 0).map (·.2.1))=true) {A:S->Prop} {κ:Kh} {s:S} {a:Act} {sv:List Act} {w:World} {id:Nat}
 (h:∀s0,s0=VX s ((Xp vs 0).map (·.2))->(∀(j:Nat)(L:Array Bool)(s:S)(A B:S->Prop),(∀s,A s->B s)->Kv E G (JU (J4 P) (Jg (Qj (K9 .any ops))) vs vs 0) j L A s->Kv E G (JU (J4 P) (Jg (Qj (K9 .any ops))) vs vs 0) j L B s)->
   (∀i L s,(VI (Jg (Qj (K9 .any ops))) (JU (J4 P) (Jg (Qj (K9 .any ops))) vs vs 0) ops.size 0).getD i false=true->¬Kv E G (JU (J4 P) (Jg (Qj (K9 .any ops))) vs vs 0) i L (fun _=>False) s)->
   (∀(i:Nat),(VI (Jg (Qj (K9 .any ops))) (JU (J4 P) (Jg (Qj (K9 .any ops))) vs vs 0) ops.size 0).getD i false=true->∀(j:Nat)(L:Array Bool)(s:S)(A:S->Prop),Down .any ops L->i∈Region.ready .any ops L->j∈Region.ready .any ops L->j≠i->Kv E G (JU (J4 P) (Jg (Qj (K9 .any ops))) vs vs 0) i L (Kv E G (JU (J4 P) (Jg (Qj (K9 .any ops))) vs vs 0) j (L.setIfInBounds i true) A) s->Kv E G (JU (J4 P) (Jg (Qj (K9 .any ops))) vs vs 0) j L (Kv E G (JU (J4 P) (Jg (Qj (K9 .any ops))) vs vs 0) i (L.setIfInBounds j true) A) s)->
   Wx (Kv E G (JU (J4 P) (Jg (Qj (K9 .any ops))) vs vs 0)) A .any ops ops.size (WS ops.size false) s0) {cx:Cx0} {ks:List (Nat×Obj)} {J:Nat->Option IK} {hJ:Ext cx J} (hG:Hs P G rd ops κ cx ks sv) (hGn:∀v A s,G v A s->W7 (J4 P) v=true) (hR:Rl ⟨cx.wI J hJ,ks⟩ s a sv w) (hK:∀s a w J (hJ:Ext cx J),A s->Rl ⟨cx.wI J hJ,ks⟩ s a sv w->κ .normal a w):(Code.region id ops true).wpIn (Wd rd) 0 P κ a w:=by
 have hlen:vs.length=ops.size:=by rw[Ck hvs];simp
 have htl:∀(clo:Nat->Nat->Bool)(l:List VOp)(j:Nat),(JU (J4 P) clo vs l j).length=l.length:=by
  intro clo l
  induction l with
  |nil=>intro j;rfl
  |cons v l ih=>intro j;simp only[JU,Xr,ih]
 have hsn:((Xp vs 0).map (·.2.1)).Nodup:=IA c5
 have hget:∀(i:Nat)(v:VOp),vs[i]? =some v->∃o,ops[i]? =some o/\WR P ops o=some v:=by
  intro i v hv
  obtain⟨o,h1,h2⟩:=YeC hvs i v hv
  exact⟨o,by simpa using h1,h2⟩
 have hok:CH P ops (JU (J4 P) (Jg (Qj (K9 .any ops))) vs vs 0) (Vh (Yi s.hp) (Xp vs 0)) (Jg (Qj (K9 .any ops))):=by
  refine⟨by rw[Ydb];exact Rb,Yda hsn,fun i d ht=>?_,fun i v chk ht=>?_,fun i v ht=>?_⟩
  ·rw[Fw]at ht
   obtain⟨v,hv,he⟩:=YO.1 ht
   unfold GZ at he
   cases hs:XS v with
   |none=>rw[hs]at he;simp only at he;cases hl:W7 (J4 P) v <;> rw[hl]at he <;> cases he
   |some x=>
    obtain⟨d',z⟩:=x
    rw[hs]at he;cases he
    obtain⟨o,ho,hvo⟩:=hget i v hv
    obtain⟨e,hop⟩:=Tl c0 i o v (by simpa using ho) hv (by rw[hs];rfl)
    obtain⟨g1,g2,g3,g4⟩:=YqR hs
    obtain⟨xs,k1,k2,k3,k4,k5⟩:=RH hvo
    obtain⟨p,hp,hp1,hp2⟩:=Ydc (n:=Yi s.hp) (mem_silOf.2 ⟨i,v,hv,by omega,hs⟩:(i,d,z)∈Xp vs 0)
    refine⟨p,o,e,hp,ho,hop,?_,?_,?_⟩
    ·rcases k5 with k5| ⟨_,_,_,_,_,k5⟩
     ·exact k5.1
     ·rw[g2]at k5;cases k5
    ·rw[g3]at k1;rw[hp2];exact YtV hop k1 g4
    ·rw[<-k4,g1,hp1]
  ·rw[Fw]at ht
   obtain⟨u,hu,he⟩:=YO.1 ht
   unfold GZ at he
   cases hs:XS u with
   |some x=>rw[hs]at he;cases he
   |none=>
    rw[hs]at he
    simp only at he
    cases hl:W7 (J4 P) u with
    |true=>rw[hl]at he;cases he
    |false=>
    rw[hl]at he
    simp only[cond_false,DT.op.injEq]at he
    obtain⟨rfl,hchk⟩:=he
    refine⟨fun p hp=>?_,hget i u hu,fun x hx=>?_⟩
    ·obtain⟨_,hm⟩:=MW hp
     obtain⟨i',v',h1,h2,h3⟩:=mem_silOf.1 hm
     have:i'=i:=by omega
     subst this
     rw[hu]at h1;cases h1
     rw[hs]at h3;cases h3
    ·obtain⟨k,p⟩:=x
     have:=AX c4 i u chk (by rw[Fw,hu];simp [GZ,hs,hl,<-hchk]) (k,p.slot,p.cells) (MW hx).2
     simpa using this
  ·have hsl:=AY c4 i v ht
   rw[Fw]at ht
   obtain⟨u,hu,he⟩:=YO.1 ht
   refine⟨by rw[hsl];rfl,?_⟩
   have:u=v:=by
    unfold GZ at he
    cases hs:XS u with
    |some x=>rw[hs]at he;cases he
    |none=>
     rw[hs]at he
     simp only at he
     cases hl:W7 (J4 P) u <;> rw[hl]at he <;> cases he
     rfl
   subst this
   exact hget i u hu
 refine Yp3 (J:=J) (hJ:=hJ) (free:=fun i=>(VI (Jg (Qj (K9 .any ops))) (JU (J4 P) (Jg (Qj (K9 .any ops))) vs vs 0) ops.size 0).getD i false) hE hm (JE c1) c2 hok (fun i hi=>?_)
  (h _ rfl) hG ?_ hK (fun x hx=>?_) (fun i o ho e he hb=>?_)
 ·have:=Ot _ _ _ hi
  rw[KL]at this
  unfold Ld at this
  split at this
  ·exact .inl ⟨_,‹_›⟩
  ·rename_i v hv
   simp only[YS]at this
   refine .inr ⟨v,hv,this.1,fun j t ht=>?_⟩
   have:=Ij this.2 j t ht
   rwa [KL]at this
  ·cases this
 ·have h0:=Yby (w0:=⟨cx.wI J hJ,ks⟩) ((Xp vs 0).map (·.2)) [] s (Yjj (by rw[List.map_map];exact hsn) (fun _ _=>by simp)) (YbG (Yqe hR (w.drawn+1)))
  have:=pends_perm (l:=Xp vs 0) (n:=Yi s.hp) (Pd:=[])
  rw[Z9]at this
  exact YbH this h0
 ·obtain⟨k,p⟩:=x
  obtain⟨i,v,h1,h2,_⟩:=mem_silOf.1 (MW hx).2
  have:=(UG.1 h1).1
  simp only;omega
 ·have hlt:=TG c3 i
  rw[DL ho,KL]at hlt
  have hbit:(Gh .any o.after.toList).testBit e.on=true:=maskL_spec.2 ⟨e,by simpa using he,hb,rfl⟩
  rcases YV e.on i with h'|h'
  ·exact h'
  ·have:=Nat.testBit_lt_two_pow (Qf hlt (Kl (by omega) h'))
   rw[this]at hbit;cases hbit
theorem Rm{lf:FuncId->Bool}{clo:Nat->Nat->Bool}{vs:List VOp}:∀(l:List VOp)(j:Nat),(JU lf clo vs l j).length=l.length
 | [],_=>rfl
 |_::l,j=>by simp only[JU,Xr,Rm l]
theorem Ybo{lf:FuncId->Bool}{clo:Nat->Nat->Bool}{vs:List VOp}(hGn:∀v A s,G v A s->W7 lf v=true)(i:Nat)(v:VOp)(chk:List (Nat×X))(A:S->Prop)(s:S)(h:(JU lf clo vs vs 0)[i]? =some (.op v chk)):¬G v A s:=fun hg=>by
 rw[Fw]at h
 obtain⟨u,hu,he⟩:=YO.1 h
 unfold GZ at he
 cases hs:XS u with
 |some x=>rw[hs]at he;cases he
 |none=>
  rw[hs]at he
  simp only at he
  cases hl:W7 lf u with
  |true=>rw[hl]at he;cases he
  |false=>
   rw[hl]at he
   cases he
   rw[hGn _ _ _ hg]at hl;cases hl
theorem Yjt(hE:YE P E)(hm:P.follows .mixedOrders=true){ops:Array Oper}{al:List (Nat×AL)}{dl:List DOp}(hd:DN P ops=some (al,dl)){A:S->Prop}{κ:Kh}{s:S}{a:Act}{sv:List Act}{w:World}{id:Nat}
 (h:WZ E G A dl (VX s al)){cx:Cx0}{ks:List (Nat×Obj)}{J:Nat->Option IK}{hJ:Ext cx J}(hG:Hs P G rd ops κ cx ks sv)(hGn:∀v A s,G v A s->W7 (J4 P) v=true)(hR:Rl ⟨cx.wI J hJ,ks⟩ s a sv w)(hK:∀s a w J (hJ:Ext cx J),A s->Rl ⟨cx.wI J hJ,ks⟩ s a sv w->κ .normal a w):(Code.region id ops true).wpIn (Wd rd) 0 P κ a w:=by
 unfold DN at hd
 obtain⟨vs,hvs,hd⟩:=YC.1 hd
 simp only at hd
 split at hd
 ·rename_i hc
  simp only[Option.some.injEq,Prod.mk.injEq]at hd
  obtain⟨rfl,rfl⟩:=hd
  simp only[YS]at hc
  obtain⟨⟨⟨⟨⟨⟨⟨c0,c1⟩,c2⟩,c3⟩,c4⟩,c5⟩,c6⟩,c7⟩:=hc
  have hlen:vs.length=ops.size:=by rw[Ck hvs];simp
  refine II hE hm hvs c0 c1 c2 c3 c4 c5 (fun s0 hs0 m1 m2 m3=>?_) hG hGn hR hK
  subst hs0
  rw[<-JE c6]
  have:=YcQ m1 m2 m3 _ 0 (WS ops.size false) _ c7 In EZ (Nx hG.mono (Ybo hGn) (fun i hi=>by rw[Rm,hlen];exact YcP c7 i hi) h)
  rw[JE c6]at this⊢
  exact this
 ·cases hd
theorem Yjs(hE:YE P E)(hm:P.follows .mixedOrders=true){ops:Array Oper}{al:List (Nat×AL)}{t:DTr}(hd:DO P ops=some (al,t)){A:S->Prop}{κ:Kh}{s:S}{a:Act}{sv:List Act}{w:World}{id:Nat}
 (h:Ui E G A t (VX s al)){cx:Cx0}{ks:List (Nat×Obj)}{J:Nat->Option IK}{hJ:Ext cx J}(hG:Hs P G rd ops κ cx ks sv)(hGn:∀v A s,G v A s->W7 (J4 P) v=true)(hR:Rl ⟨cx.wI J hJ,ks⟩ s a sv w)(hK:∀s a w J (hJ:Ext cx J),A s->Rl ⟨cx.wI J hJ,ks⟩ s a sv w->κ .normal a w):(Code.region id ops true).wpIn (Wd rd) 0 P κ a w:=by
 unfold DO at hd
 obtain⟨vs,hvs,hd⟩:=YC.1 hd
 simp only at hd
 split at hd
 ·rename_i hc
  simp only[Option.some.injEq,Prod.mk.injEq]at hd
  obtain⟨rfl,rfl⟩:=hd
  simp only[YS]at hc
  obtain⟨⟨⟨⟨⟨⟨⟨c0,c1⟩,c2⟩,c3⟩,c4⟩,c5⟩,c6⟩,c7⟩:=hc
  have hlen:vs.length=ops.size:=by rw[Ck hvs];simp
  refine II hE hm hvs c0 c1 c2 c3 c4 c5 (fun s0 hs0 m1 m2 m3=>?_) hG hGn hR hK
  subst hs0
  have:=(Cd m1 m2 m3 _ 0 false (WS ops.size false) _ c7 In EZ (Hl hG.mono (Ybo hGn) (fun i hi=>by rw[Rm,hlen];exact Cc c7 i hi) h)).1 rfl
  rw[JE c6]at this
  exact this
 ·cases hd
end
end Go.Vx
namespace Go.Vx
open Go.RowKit
section
variable {P:Program} {E:Env} {Q:SV->List HO->Prop} {vr:List VR} {w0:Cx0} {rd:Option Nat} {ks:List (Nat×Obj)}
def inG(E:Env)(Q:SV->List HO->Prop)(vr:List VR)(N:Nat)(K0:List It)(v:VOp)(A:S->Prop)(s:S):Prop:=
 ∃f d xs ys vf,∃B:S->Prop,v=⟨d,none,.call f,xs⟩/\E.lo f=true/\callee E (.call f) (s.args xs)=some (f,ys)/\E.ct f=none/\E.fn f=some vf/\
  (∃m,m<=N/\run E Q vr m (.code vf.body:: .frame d vf.res:: .inLoop B::K0) { fr:=XM vf.ntmps ys,saved:=s.fr::s.saved,hp:=s.hp})/\∀s',B s'->A s'
theorem LC{N:Nat}{K0:List It}(v:VOp)(A B:S->Prop)(s:S)(h:∀s,A s->B s)(hg:inG E Q vr N K0 v A s):inG E Q vr N K0 v B s:=by
 obtain⟨f,d,xs,ys,vf,C,h1,h2,h3,h4,h5,h6,h7⟩:=hg
 exact⟨f,d,xs,ys,vf,C,h1,h2,h3,h4,h5,h6,fun s' hs=>h _ (h7 s' hs)⟩
theorem YiX{f g:FuncId}{xs ys:List SV}(h:callee E (.call f) xs=some (g,ys)):g=f:=by
 simp only[callee,Option.some.injEq,Prod.mk.injEq]at h
 exact h.1.symm
theorem Yjn{n N:Nat}(hN:n<=N){v:VOp}{K K0:List It}(hK:Hj K=K0){s:S}(h:dop E (run E Q vr n) v K s):Qa E v (fun s'=> ∃m,m<=n/\run E Q vr m K s') s\/inG E Q vr N K0 v (fun s'=> ∃m,m<=n/\run E Q vr m K s') s:=by
 obtain⟨d,g,op,xs⟩:=v
 cases g with
 |none=>
  simp only[dop]at h
  unfold Qa
  simp only
  cases hq:op.quiet with
  |true=>
   left
   rw[hq]at h
   simp only[dpl,dq]at h
   simp only[JK]
   cases he:eff s.hp (Yi s.hp) op (s.args xs)with
   |none=>rw[he]at h;exact h.elim
   |some e=>
    obtain⟨p,x,u⟩:=e
    rw[he]at h
    cases u <;> try exact h.elim
    exact⟨h.1,n,Yr _,h.2⟩
  |false=>
   rw[hq]at h
   simp only[dpl,dcl]at h
   simp only[MK]
   cases hc:callee E op (s.args xs)with
   |none=>
    left
    rw[hc]at h
    simp only[Nh]at h
    simp only[Nj]
    cases hps:psd op (s.args xs)with
    |some c=>
     rw[hps]at h
     exact(Gw n h).mono fun r hs ⟨m,hm,h2⟩=>⟨m,by omega,h2⟩
    |none=>
    rw[hps]at h
    simp only at h⊢
    cases hbad:op.bad with
    |true=>rw[hbad]at h;exact h.elim
    |false=>
    rw[hbad]at h
    simp only[Bn,U0]at h
    simp only[F1,Mv]
    cases he:eff s.hp (Yi s.hp) op (s.args xs)with
    |none=>rw[he]at h;exact h.elim
    |some e=>rw[he]at h;exact⟨h.1,n,Yr _,h.2⟩
   |some fy=>
    obtain⟨f,ys⟩:=fy
    rw[hc]at h
    simp only[dct]at h
    simp only[ctW]
    cases hct:E.ct f with
    |none=>
     right
     rw[hct]at h
     simp only[Ml]at h
     split at h
     ·rename_i g
      split at h
      ·rename_i hlo
       split at h
       ·rename_i vf hfn
        obtain⟨B,h1,h2⟩:=h
        obtain rfl:=YiX hc
        rw[hK]at h1
        exact⟨_,d,xs,ys,vf,B,rfl,hlo,hc,hct,hfn,⟨n,hN,h1⟩,fun s' hs=>⟨n,Yr _,h2 s' hs⟩⟩
       ·exact h.elim
      ·exact h.elim
     ·exact h.elim
    |some c=>
     left
     rw[hct]at h
     exact⟨h.1,(Gw n h.2).mono fun r hs ⟨m,hm,h2⟩=>⟨m,by omega,h2⟩⟩
 |some gp=>
  left
  obtain⟨g,pol⟩:=gp
  simp only[dop,dgd]at h
  unfold Qa
  simp only
  cases hgd:Xw (Kn s.fr g) pol with
  |none=>rw[hgd]at h;exact h.elim
  |some gb=>
   rw[hgd]at h
   simp only[dgq]at h
   cases hq:op.quiet with
   |true=>
    rw[hq]at h
    simp only[Mu]at h
    simp only[JK,hgd]
    cases he:eff s.hp (Yi s.hp) op (J7 op gb (s.args xs)).2 with
    |none=>rw[he]at h;exact h.elim
    |some e=>
     obtain⟨p,x,u⟩:=e
     rw[he]at h
     cases u <;> try exact h.elim
     exact⟨⟨h.1,h.2.1⟩,n,Yr _,h.2.2⟩
   |false=>
    rw[hq]at h
    simp only[DK]at h
    simp only[MJ,hgd,Me]
    cases hct:Wh E op (J7 op gb (s.args xs)).2 with
    |none=>rw[hct]at h;exact h.elim
    |some c=>
     rw[hct]at h
     obtain⟨c,ys⟩:=c
     obtain⟨hp,hno,h⟩:=h
     obtain⟨m,r,hm,h1,h2⟩:=AJ n h
     exact⟨hp,hno,r,⟨m,by omega,h1⟩,h2⟩
theorem Mn{N:Nat}{K0:List It}{A B:S->Prop}:∀(l:List DOp),(∀s,A s->B s)->∀{s:S},WZ E (inG E Q vr N K0) A l s->WZ E (inG E Q vr N K0) B l s
 | [],h,_,hs=>h _ hs
 | ⟨_,_⟩::l,h,_,hs=>⟨hs.1,hs.2.imp (VD (fun _ h'=>Mn l h h')) (LC _ _ _ _ fun _ h'=>Mn l h h')⟩
theorem EY{N:Nat}{K0:List It}:∀(l:List DOp)(n:Nat)(hn:n<=N){K:List It}(hK:Hj K=K0){s:S},run E Q vr n (.dops l::K) s->WZ E (inG E Q vr N K0) (fun s'=> ∃m,m<n/\run E Q vr m K s') l s
 |_,0,_,_,_,_,h=>h.elim
 | [],n+1,_,_,_,_,h=>⟨n,Nat.lt_succ_self _,h⟩
 | ⟨v,chk⟩::l,n+1,hn,K,hK,_,h=>by
   refine⟨h.1,?_⟩
   have key:∀(s:S),(∃m,m<=n/\run E Q vr m (.dops l::K) s)->WZ E (inG E Q vr N K0) (fun s'=> ∃m,m<n+1/\run E Q vr m K s') l s:=fun s ⟨m,hm,h'⟩=>
    Mn l (fun _ ⟨m',hm',h''⟩=>⟨m',by omega,h''⟩) (EY l m (by omega) hK h')
   exact(Yjn (n:=n) (N:=N) (by omega) (K:= .dops l::K) (K0:=K0) hK h.2).imp (VD key) (LC _ _ _ _ key)
theorem HM{N:Nat}{K0:List It}{A B:S->Prop}:∀(t:DTr),(∀s,A s->B s)->∀{s:S},Ui E (inG E Q vr N K0) A t s->Ui E (inG E Q vr N K0) B t s
 | .leaf,h,_,hs=>h _ hs
 | .ops l t,h,_,hs=>Mn l (fun _ h'=>HM t h h') hs
 | .br a b,h,_,hs=>⟨HM a h hs.1,HM b h hs.2⟩
theorem DR{N:Nat}{K0:List It}:∀(t:DTr)(n:Nat)(hn:n<=N){K:List It}(hK:Hj K=K0){s:S},run E Q vr n (.dtr t::K) s->Ui E (inG E Q vr N K0) (fun s'=> ∃m,m<n/\run E Q vr m K s') t s
 |_,0,_,_,_,_,h=>h.elim
 | .leaf,n+1,_,_,_,_,h=>⟨n,Nat.lt_succ_self _,h⟩
 | .ops l t,n+1,hn,K,hK,_,h=>Mn l (fun _ ⟨m,hm,h'⟩=>HM t (fun _ ⟨m',hm',h''⟩=>⟨m',by omega,h''⟩) (DR t m (by omega) hK h')) (EY l n (by omega) (K:= .dtr t::K) hK h)
 | .br a b,n+1,hn,K,hK,_,h=>⟨HM a (fun _ ⟨m',hm',h''⟩=>⟨m',by omega,h''⟩) (DR a n (by omega) hK h.1),HM b (fun _ ⟨m',hm',h''⟩=>⟨m',by omega,h''⟩) (DR b n (by omega) hK h.2)⟩
theorem HX{fn:Func}{c:Code}{b:VC}{f:FuncId}(hf:P.funcs[f]? =some fn)(hbody:fn.body=some c){R:Ending->World->Prop}{args:Array Value}{w:World}
 (h:(Exit.then (c.wpIn (Wd none) 0 P (bodyPostM (Wd none) 0 P fn R)) (bodyPostM (Wd none) 0 P fn R)) .normal { tmps:=args++WS (fn.ntmps-args.size) undef,defers:=[]} w):CallsIn (Wd none) 0 P f args w R:=
 callsIn_of_wp_marks hf hbody trivial h
theorem FA{fn:Func}{vf:VF}(h:Yn P fn=some vf):∃c,fn.body=some c/\QM P c=some vf.body/\V3 P fn.results.toList=some vf.res/\vf.ntmps=fn.ntmps:=by
 unfold Yn at h
 obtain⟨c,hbody,h⟩:=YC.1 h
 obtain⟨b,hcode,h⟩:=YC.1 h
 obtain⟨res,hres,rfl⟩:=YO.1 h
 exact⟨c,hbody,hcode,hres,rfl⟩
theorem Yb0{w:World}{bs:List BK}{B:Bd}:∀{ps:List Nat}{ys fr:List SV}{vs:List Value}{tmps:Array Value},RepL w bs B fr tmps.toList->RepL w bs B ys vs->RepL w bs B (Gs fr ps ys) ((ps.zip vs).foldl (fun t (p:Nat×Value)=>t.setIfInBounds p.1 p.2) tmps).toList
 | [],ys,fr,vs,tmps,h,_=>by cases ys <;> simpa [Gs]using h
 |p::ps,_,fr,_,tmps,h,.nil=>by simpa [Gs]using h
 |p::ps,_,fr,_,tmps,h,.cons y v ys vs h1 h2=>by
  simp only[Gs,List.zip_cons_cons,List.foldl_cons]
  refine Yb0 ?_ h2
  rw[Array.toList_setIfInBounds]
  exact h.set p h1
theorem Ybp(hE:YE P E)(hS:UI P w0){fn0:Func}{R0:Ending->World->Prop}{n:Nat}(ih:∀m,m<=n->∀(K:List It) (s:S),run E Q vr m K s->∀(sv:List Act) (ks:List (Nat×Obj)) (rd:Option Nat) (κ:Kh) (a:Act) (w:World),KRel P w0 (bodyPostM (Wd none) 0 P fn0 R0) K sv ks rd κ->∀ {D:Nat->Option IK} {hD:Ext w0 D},Rl ⟨w0.wI D hD,ks⟩ s a sv w->κ .normal a w)
 {all:Array Oper}{o:Oper}{rest:List Oper}{l:List VOp}{vo:VO}{ops:List Operand}{xs:List SV}{K:List It}{s:S}{sv:List Act}{κ:Kh}{a:Act}{w:World}
 (hv:vop P o=some (vo,ops))(hcc:vo.isCall=true->Ut o.op=true)(hrest:Xg P all rest=some l){D:Nat->Option IK}{hD:Ext w0 D}(hx:∀bs,GlW P w bs (w0.wI D hD).bd->RepL w bs (w0.wI D hD).bd s.fr a.tmps.toList->RepL w bs (w0.wI D hD).bd xs (ops.map a.eval))
 (h:Fl E (run E Q vr n) o.dst vo xs (.ops l::K) s)(hk:KRel P w0 (bodyPostM (Wd none) 0 P fn0 R0) K sv ks rd κ)(hR:Rl ⟨w0.wI D hD,ks⟩ s a sv w):o.wpIn (Wd rd) 0 P a w (wpListIn (Wd rd) 0 P all κ rest) κ:=by
 have hK:KRel P w0 (bodyPostM (Wd none) 0 P fn0 R0) (.ops l::K) sv ks rd (Exit.then (wpListIn (Wd rd) 0 P all κ rest) κ):= .ops all rest l K sv ks rd κ hrest hk
 obtain⟨bs,hf,hsv,hH,hb,hoth⟩:=id hR
 have hxx:=hx bs (Vg hS hb hH) hf
 have hB:w0.heap.size<=w.heap.size:=hb.size
 have hnd:=UD hv
 unfold Fl at h
 cases hc:callee E vo xs with
 |none=>
  rw[hc]at h
  simp only[opK]at h
  cases hy:yld vo xs with
  |some ly=>
   obtain⟨l',ys⟩:=ly
   rw[hy]at h
   simp only[FF]at h
   have hvo:vo= .callv/\xs= .fn (.yield l') [] []::ys:=by
    unfold yld at hy
    split at hy
    ·split at hy
     ·cases hy;exact⟨rfl,rfl⟩
     ·cases hy
    ·cases hy
   obtain⟨rfl,rfl⟩:=hvo
   cases hfr:X8 (.ops l::K)with
   |none=>rw[hfr]at h;exact h.elim
   |some x=>
    obtain⟨l2,ps,va,vb⟩:=x
    rw[hfr]at h
    cases hss:s.saved with
    |nil=>rw[hss]at h;exact h.elim
    |cons fr svs=>
     rw[hss]at h
     obtain⟨⟨rfl,hlen⟩,hrun⟩:=h
     obtain⟨q,sa,sv',ks',rfl,rfl,rfl,rfl,htm,hva,hvb⟩:=HR hfr hK
     obtain⟨c,hop,hcall⟩:=YeB hv (hcc rfl) rfl
     rcases hcall with⟨_,h1,_⟩ | ⟨x,_,hcal,rfl⟩ | ⟨_,_,h1,_⟩
     ·cases h1
     ·obtain⟨v,vs,hvs,g1,g2⟩:=hxx.cons_inv
      simp only[KD,List.cons.injEq]at hvs
      obtain⟨hv1,rfl⟩:=hvs
      obtain⟨us,us',rfl,g3,g4⟩:=g1.fn_inv
      cases g3.nil_inv;cases g4.nil_inv
      have hrec:=Nv hR
      have hsz:(#[]++c.args.map a.eval++ #[]:Array Value).size=q.ps.length:=by
       have:=g2.length
       simp only[Vq,V4]at this
       have e2:∀l:List Nat,H0 l=l.length:=fun l=>by induction l with|nil=>rfl|cons _ l ih=>simp [H0,ih]
       rw[e2]at hlen
       simp;omega
      have hex:(execOp a.eval o).run P w= .ok (.round l' q.fn ((q.ps.toArray.zip (#[]++c.args.map a.eval++ #[])).foldl (fun tmps (t,a)=>tmps.setIfInBounds t a) q.tmps) q.ca q.cb) w:=by
       obtain⟨dst,op,type,pos,after,guard⟩:=o
       simp only at hop
       subst hop
       simp only[execOp,resolve,hcal,hv1,Deferred.ofValue,Sem.run_bind,Sem.run_pure,Result.andThen_ok,invoke]
       exact run_yield hrec (by simpa [Rec.at]using hsz)
      unfold Oper.wpIn
      rw[Oper.semAt_eq _ _ _ hnd,hex]
      refine⟨fun _ _=>trivial,fun h=>(by cases h),?_⟩
      refine roundIn_of_wpIn trivial ?_
      refine ih n (Yr _) _ _ hrun (a::sa::sv') _ _ _ { tmps:=_,defers:=[]} _ (.code q.ca va _ _ _ (some l') _ hva (.rbeg l' q _ _ ks' _ (.code q.cb vb _ _ _ (some l') _ hvb (.rend o.dst l' q a _ _ ks' _ _ (fun v w h=>h) hK)))) (D:=D) (hD:=hD) ?_
      rw[hss]at hsv
      cases hsv with
      |cons _ _ _ _ k1 k2=>
       refine⟨bs,?_,.cons _ _ _ _ hf (by rw[hss];exact .cons _ _ _ _ k1 k2),hH,hb,hoth.push⟩
       have:=Yb0 (ps:=q.ps) k1 g2
       rw[htm]
       have e:q.ps.toArray.zip (#[]++c.args.map a.eval++ #[])=(q.ps.zip (c.args.toList.map a.eval)).toArray:=by apply Array.ext';simp
       rw[e]
       simpa using this
     ·cases h1
  |none=>
  rw[hy]at h
  simp only[FF,Ni]at h
  cases hps:psd vo xs with
  |some c=>
   rw[hps]at h
   obtain⟨r,val,w',x,D2,hD2,hrn,hr,⟨m,hm,hrun⟩,k1,k2,k3,k4⟩:=YbR (ρ:=a.eval) hv hps (Gw n h) hxx hH
   refine GD hnd (hrn o.dst o.type o.pos o.after o.guard) hr ?_
   obtain⟨hD3,hcr⟩:=HF (al:=false) (z:=Bd.cx (w0.wI D hD).bd w) (w0:=w0) (J1:=D) (hJ1:=hD) (hJ:=hD2) rfl hf hsv hH hb hoth o.dst k1 k2 k3 (fun _=>⟨k4,trivial⟩) (fun h=>by cases h)
   exact ih m (by omega) _ _ hrun sv _ _ _ _ _ hK (hcr _ fun _ h=>h)
  |none=>
  rw[hps]at h
  simp only[U0]at h
  cases he:eff s.hp (Yi s.hp) vo xs with
  |none=>rw[he]at h;exact h.elim
  |some e=>
   rw[he]at h
   obtain⟨r,v,w',bs',hrun,hr,h1,h2,h3,h4,h5⟩:=NN (ρ:=a.eval) hv he h.1 hxx (fun _=>rfl) (fun _=>rfl) hH hB
   refine GD hnd (hrun o.dst o.type o.pos o.after o.guard) hr ?_
   exact ih n (Yr _) _ _ h.2 sv _ _ _ _ _ hK (NH (op:=o.op) hf hsv hb hoth h1 h2 h3 h4 h5 o.dst)
 |some fy=>
  obtain⟨f,ys⟩:=fy
  rw[hc]at h
  have hcall:vo.isCall=true:=by
   unfold callee at hc
   split at hc <;> first|rfl|cases hc
  simp only[opK,F7]at h
  cases hct:E.ct f with
  |some c=>
   rw[hct]at h
   obtain⟨hok,hen⟩:=hE.ct f c hct
   obtain⟨vs,hys,hrun⟩:=HE hE.meth hv (hcc hcall) hc hxx (fun _=>rfl) hen
   refine FD hnd hrun ?_
   obtain⟨z,hzw,hzI,hargs2,hal,hzF⟩:=Dv c.alias hH.v hB 3 hys h.1
   subst hzw
   refine(hok _ vs z _ ⟨fun b K hb=>(hH.reg b K (by rw[hzI]at hb;exact hb)).2,AM (Vg (hJ:=hD) hS hb hH) rfl hzF⟩ hargs2 (Gw n h.2)).mono ?_
   rintro e w' ⟨r,hs,v,bs2,D2,hD2,⟨m,hm,hrun'⟩,rfl,h1,h2,h3,h4⟩
   obtain⟨hD3,hcr⟩:=HF (w0:=w0) (J1:=D) (hJ1:=hD) (hJ:=hD2) hzI hf hsv hH hb hoth o.dst h1 h2 h3 h4 hal
   exact ih m (by omega) _ _ hrun' sv _ _ _ _ _ hK (hcr _ fun _ h=>h)
  |none=>
   rw[hct]at h
   simp only[BL]at h
   cases hfn:E.fn f with
   |none=>rw[hfn]at h;exact h.elim
   |some vf=>
    rw[hfn]at h
    obtain⟨fn,hfs,hvf,hen⟩:=hE.fn f vf hfn
    obtain⟨vs,hys,hrun⟩:=HE hE.meth hv (hcc hcall) hc hxx (fun _=>rfl) hen
    refine FD hnd hrun ?_
    obtain⟨c,hbody,hcode,hres,hnt⟩:=FA hvf
    refine F8 (n:=0) (HX (b:=vf.body) hfs hbody ?_)
    refine ih n (Yr _) _ _ h (a::sv) _ _ _ _ _ (.code c vf.body _ _ _ _ _ hcode (.frame o.dst vf.res fn a _ _ _ _ _ _ hres (fun v w h=>h) hK)) (D:=D) (hD:=hD) ?_
    refine⟨bs,?_,.cons _ _ _ _ hf hsv,hH,hb,hoth.push⟩
    have:=Ha (n:=fn.ntmps) hys
    rw[hnt]
    simpa using this
theorem YtX{all:Array Oper}{rest:List Oper}{v:VOp}{l:List VOp}(h:Xg P all rest=some (v::l)):∃o r,rest=o::r/\WR P all o=some v/\Xg P all r=some l:=by
 cases rest with
 |nil=>cases h
 |cons o r=>
  simp only[Xg]at h
  obtain⟨x,hx,h⟩:=YC.1 h
  obtain⟨y,hy,h⟩:=YO.1 h
  cases h
  exact⟨o,r,rfl,hx,hy⟩
theorem YtY{all:Array Oper}{rest:List Oper}(h:Xg P all rest=some []):rest=[]:=by
 cases rest with
 |nil=>rfl
 |cons o r=>
  simp only[Xg]at h
  obtain⟨x,hx,h⟩:=YC.1 h
  obtain⟨y,hy,h⟩:=YO.1 h
  cases h
theorem YtU{all:Array Oper}{o:Oper}{v:VOp}(h:WR P all o=some v):∃ops,vop P o=some (v.op,ops)/\X.ofs P ops=some v.xs/\(v.op.isCall=true->Ut o.op=true)/\v.dst=o.dst/\
 ((o.guard=none/\v.g=none)\/∃j b g,o.guard=some (j,b)/\NC all j=some g/\v.g=some (g,b)):=by
 unfold WR at h
 obtain⟨⟨vo,ops⟩,h1,h⟩:=YC.1 h
 obtain⟨xs,h2,h⟩:=YC.1 h
 split at h
 ·cases h
 ·rename_i hne
  have hne:vo.isCall=true->Ut o.op=true:=by simpa using hne
  split at h
  ·cases h;exact⟨ops,h1,h2,hne,rfl,.inl ⟨‹_›,rfl⟩⟩
  ·obtain⟨g,hg,rfl⟩:=YO.1 h
   exact⟨ops,h1,h2,hne,rfl,.inr ⟨_,_,g,‹_›,hg,rfl⟩⟩
theorem Yah{κ0:Kh}{K:List It}{sv:List Act}{ks:List (Nat×Obj)}{r:Option Nat}{κ:Kh}(h:KRel P w0 κ0 K sv ks r κ):Hj K=K:=by
 cases h <;> rfl
theorem YaF(hE:YE P E){n:Nat}{K:List It}{v:VOp}{A:S->Prop}{s:S}(h:inG E Q vr n K v A s):W7 (J4 P) v=true:=by
 obtain⟨f,d,xs,ys,vf,B,rfl,hlo,_⟩:=h
 exact hE.lo f hlo
theorem YaG(hE:YE P E)(hS:UI P w0){fn0:Func}{R0:Ending->World->Prop}{n:Nat}(ih:∀m,m<=n->∀(K:List It) (s:S),run E Q vr m K s->∀(sv:List Act) (ks:List (Nat×Obj)) (rd:Option Nat) (κ:Kh) (a:Act) (w:World),KRel P w0 (bodyPostM (Wd none) 0 P fn0 R0) K sv ks rd κ->∀ {D:Nat->Option IK} {hD:Ext w0 D},Rl ⟨w0.wI D hD,ks⟩ s a sv w->κ .normal a w)
 {all:Array Oper}{K:List It}{sv:List Act}{ks:List (Nat×Obj)}{rd:Option Nat}{κ:Kh}(hk:KRel P w0 (bodyPostM (Wd none) 0 P fn0 R0) K sv ks rd κ):Hs P (inG E Q vr n K) rd all κ w0 ks sv:=by
 refine⟨hS,LC,?_⟩
 intro i o v A s hi hv hg J hJ a w hR
 obtain⟨f,d,xs,ys,vf,B,rfl,hlo,hc,hct,hfn,⟨m,hm,hrun'⟩,hB⟩:=hg
 obtain⟨ops,h1,h2,h3,h4,h5⟩:=RH hv
 obtain⟨bs,hf,hsv,hH,hb,hoth⟩:=id hR
 have hx:RepL w bs (w0.wI J hJ).bd (s.args xs) (ops.map a.eval):=Dj (Vg hS hb hH) hf h2
 obtain⟨fn,hfs,hvf,hen⟩:=hE.fn f vf hfn
 obtain⟨vs,hys,hrun⟩:=HE hE.meth h1 (h3 rfl) hc hx (fun _=>rfl) hen
 rcases h5 with⟨hg0,_⟩ | ⟨_,_,_,_,_,hvg⟩
 ·refine GC hi (by simp [Region.wanted,hg0]) (FD (UD h1) hrun ?_)
  obtain⟨c,hbody,hcode,hres,hnt⟩:=FA hvf
  refine F8 (n:=0) (HX (b:=vf.body) hfs hbody ?_)
  have h4:d=o.dst:=h4
  subst h4
  refine ih m hm _ _ hrun' (a::sv) _ _ _ _ _ (.code c vf.body _ _ _ _ _ hcode (.frame o.dst vf.res fn a _ _ _ _ _ _ hres (fun v w h=>h) (.inLoop B (fun a' w'=> ∃s',A s'/\∃J',∃hJ':Ext w0 J',Rl ⟨w0.wI J' hJ',ks⟩ s' a' sv w') K sv ks rd κ (fun s' a' w' D hD hBs hR'=>⟨s',hB s' hBs,D,hD,hR'⟩) hk))) (D:=J) (hD:=hJ) ?_
  refine⟨bs,?_,.cons _ _ _ _ hf hsv,hH,hb,hoth.push⟩
  have:=Ha (n:=fn.ntmps) hys
  rw[hnt]
  simpa using this
 ·cases hvg
theorem P0(hE:YE P E)(hS:UI P w0){fn0:Func}{R0:Ending->World->Prop}(hres:V3 P fn0.results.toList=some vr)
 (hR0:∀r hp v w' bs D (hD:Ext w0 D),Q r hp->Rep w' bs (w0.wI D hD).bd r v->Hp w' bs (w0.wI D hD).bd hp->BelowI w0.bd w0.toWorld w'->R0 (.returned v) w'):
 ∀(n:Nat)(K:List It)(s:S),run E Q vr n K s->∀(sv:List Act)(ks:List (Nat×Obj))(rd:Option Nat)(κ:Kh)(a:Act)(w:World),KRel P w0 (bodyPostM (Wd none) 0 P fn0 R0) K sv ks rd κ->∀{D:Nat->Option IK}{hD:Ext w0 D},Rl ⟨w0.wI D hD,ks⟩ s a sv w->κ .normal a w:=by
 have main:∀(N n:Nat),n<=N->∀(K:List It)(s:S),run E Q vr n K s->∀(sv:List Act)(ks:List (Nat×Obj))(rd:Option Nat)(κ:Kh)(a:Act)(w:World),KRel P w0 (bodyPostM (Wd none) 0 P fn0 R0) K sv ks rd κ->∀{D:Nat->Option IK}{hD:Ext w0 D},Rl ⟨w0.wI D hD,ks⟩ s a sv w->κ .normal a w:=by
  intro N
  induction N with
  |zero=>
   intro n hn K s h
   have:n=0:=by omega
   subst this;exact h.elim
  |succ N ihN=>
   intro n hn K s h sv ks rd κ a w hk D hD hR
   cases n with
   |zero=>exact h.elim
   |succ n=>
   have ih:∀m,m<=n->∀(K:List It)(s:S),run E Q vr m K s->∀(sv:List Act)(ks:List (Nat×Obj))(rd:Option Nat)(κ:Kh)(a:Act)(w:World),KRel P w0 (bodyPostM (Wd none) 0 P fn0 R0) K sv ks rd κ->∀{D:Nat->Option IK}{hD:Ext w0 D},Rl ⟨w0.wI D hD,ks⟩ s a sv w->κ .normal a w:=fun m hm=>ihN m (by omega)
   have ihn:=ih n (Yr _)
   have hjump:∀{K':List It}{d:Option Nat}{f:Act->World->Prop},Fh (run E Q vr n) d false K' s.hp s.saved->Cu P w0 (bodyPostM (Wd none) 0 P fn0 R0) K' d sv ks rd f->f a w:=by
    rintro K' d f hr ⟨c,q,l,ita,sv',ks',κ',rfl,rfl,rfl,hk',hf⟩
    cases hs:s.saved with
    |nil=>rw[hs]at hr;exact hr.elim
    |cons fr svs=>
     rw[hs]at hr
     have hat:=Nv hR
     have hend:=run_endRound (P:=P) (some c) hat
     have h2:=Fk hs (Nu (lp':=q.at .done (some c)) hR)
     exact hf a w _ _ hend (ihn _ _ hr sv' _ _ _ _ _ hk' (Gt h2 d fun _ _ _=> .x _ _ (.bool _)))
   cases K with
   |nil=>
    cases hk
    rw[Ych]at h
    cases hv:ZB s vr with
    |none=>rw[hv]at h;exact h.elim
    |some x=>
     obtain⟨p,vs⟩:=x
     rw[hv]at h
     obtain⟨ms,hms⟩:=PS hR
     refine BV ms hms hR fun w' hR'=>?_
     obtain⟨bs,hf,hsv,hH,hb,hoth⟩:=hR'
     obtain⟨v,h1,h2⟩:=PP (P:=P) hf hH hres hv h.1
     exact⟨v,h1,hR0 _ _ _ _ _ D hD h.2 h2 hH ⟨hb.os,hb.tape,hb.output,hb.size,fun k hk hI=>hb.block k hk ((hD.old k hk).trans hI)⟩⟩
   |cons x K=>
   cases x with
   |inBlock i=>
    cases hk with|inBlock _ _ _ _ _ κ hk=>exact ihn _ _ h sv _ _ κ a w hk hR
   |inScope=>
    cases hk with|inScope _ _ _ _ κ hk=>exact ihn _ _ h sv _ _ κ a w hk hR
   |inLoop I=>
    cases hk with|inLoop _ J _ _ _ _ κ hJ hk=>exact hJ s a w D hD h hR
   |frame d res=>
    cases hk with
    |frame _ _ fn sa _ sv _ rd κ R hr hRR hk=>
     rw[Ycj]at h
     cases hv:ZB s res with
     |none=>rw[hv]at h;exact h.elim
     |some x=>
      obtain⟨p,vs⟩:=x
      rw[hv]at h
      cases hs:s.saved with
      |nil=>rw[hs]at h;exact h.elim
      |cons fr sv'=>
       rw[hs]at h
       obtain⟨ms,hms⟩:=PS hR
       refine BV ms hms hR fun w' hR'=>?_
       obtain⟨bs,hf,hsv,hH,hb,hoth⟩:=id hR'
       obtain⟨v,h1,h2⟩:=PP (P:=P) hf hH hr hv h.1
       refine⟨v,h1,hRR v w' (ihn _ _ h.2 sv _ _ κ _ w' hk (D:=D) (hD:=hD) ?_)⟩
       obtain⟨bs2,k1,k2,k3,k4,k5⟩:=Fk hs hR'
       rw[hs]at hsv
       cases hsv with
       |cons _ _ _ _ g1 g2=>
        have hp:=Fk hs hR'
        refine⟨bs,Nr (s:={ fr:=fr,saved:=sv',hp:=s.hp}) (a:=sa) g1 h2,?_,?_,hb,?_⟩
        ·rw[Ay];exact g2
        ·rw[Vd];exact hH
        ·rw[KD,Nq]
         exact hoth.pop
   |rfrm res l ps va vb j=>
    cases hk with
    |rfrm _ _ q lp _ _ _ fn sa _ sv ks rd κ hr _ hps htm hva hvb hj hk=>
     rw[Ycp]at h
     cases hv:ZB s res with
     |none=>rw[hv]at h;exact h.elim
     |some x=>
      obtain⟨p,vs⟩:=x
      rw[hv]at h
      cases hs:s.saved with
      |nil=>rw[hs]at h;exact h.elim
      |cons fr sv'=>
       rw[hs]at h
       obtain⟨hp,h⟩:=h
       obtain⟨ms,hms⟩:=PS hR
       refine BV ms hms hR fun w' hR'=>?_
       obtain⟨bs,hf,hsv,hH,hb,hoth⟩:=id hR'
       obtain⟨v,h1,h2⟩:=PP (P:=P) hf hH hr hv hp
       have hat:=Nv hR'
       cases hj with
       |none=>
        refine⟨v,h1,none,_,run_endLoop hat (by simp [Rec.at]),?_⟩
        exact ihn _ _ h sv _ _ κ sa _ hk (YcC (Nu (Fk hs hR')))
       |some c vc hc=>
        refine⟨v,h1,some c,_,run_endLoop hat (by simp [Rec.at]),?_⟩
        exact ihn _ _ h sv _ _ _ sa _ (.code c vc K sv ks rd κ hc hk) (YcC (Nu (Fk hs hR')))
   |rbeg=>
    cases hk with
    |rbeg l q _ _ ks κ hk=>
     exact⟨_,run_beginRound (Nv hR) rfl,ihn _ _ h sv _ _ κ a _ hk (Nu hR)⟩
   |rend d=>
    cases hk with
    |rend _ l q ita _ sv ks κ R hRR hk=>
     rw[Ycn]at h
     cases hs:s.saved with
     |nil=>rw[hs]at h;exact h.elim
     |cons fr sv'=>
      rw[hs]at h
      refine⟨_,_,run_endRound none (Nv hR),hRR _ _ (ihn _ _ h sv _ _ κ _ _ hk (D:=D) (hD:=hD) ?_)⟩
      exact Gt (Fk hs (Nu (lp':=q.at .ready none) hR)) d fun _ _ _=> .x _ _ (.bool _)
   |dops l=>cases hk
   |dtr t=>cases hk
   |res g al d c=>cases hk
   |ops l=>
    cases hk with
    |ops all rest _ _ _ _ _ κ hl hk=>
    show wpListIn (Wd rd) 0 P all κ rest a w
    cases l with
    |nil=>rw[YtY hl];exact ihn _ _ h sv _ _ κ a w hk hR
    |cons v l=>
     obtain⟨o,r,rfl,hvo,hlr⟩:=YtX hl
     obtain⟨ops,h1,h2,h3,h4,h5⟩:=YtU hvo
     obtain⟨dst,g,op,xs⟩:=v
     simp only at h1 h2 h3 h4 h5
     subst h4
     have hnd:=UD h1
     have hx:∀bs,GlW P w bs (w0.wI D hD).bd->RepL w bs (w0.wI D hD).bd s.fr a.tmps.toList->RepL w bs (w0.wI D hD).bd (s.args xs) (ops.map a.eval):=fun bs hg hf=>Dj hg hf h2
     rcases h5 with⟨hg,rfl⟩ | ⟨j,pol,gs,hg,hsl,rfl⟩
     ·rw[Yck]at h
      exact Cn (by simp [Region.wanted,hg]) (Ybp hE hS ih h1 h3 hlr hx h hk hR)
     ·rw[Ycl]at h
      have hKr:KRel P w0 (bodyPostM (Wd none) 0 P fn0 R0) (.ops l::K) sv ks rd (Exit.then (wpListIn (Wd rd) 0 P all κ r) κ):= .ops all r l K sv ks rd κ hlr hk
      cases hgd:Xw (Kn s.fr gs) pol with
      |none=>rw[hgd]at h;exact h.elim
      |some gb=>
       rw[hgd,r_g]at h
       obtain⟨bs,hf,hsv,hH,hb,hoth⟩:=id hR
       have hw:=Ly (w:=w) hf hg hsl hgd
       have hB:w0.heap.size<=w.heap.size:=hb.size
       cases hq:op.quiet with
       |true=>
        rw[hq]at h
        simp only[gK]at h
        cases he:eff s.hp (Yi s.hp) op (J7 op gb (s.args xs)).2 with
        |none=>
         rw[he]at h
         obtain⟨rfl,v,hrun⟩:=h
         exact Cm hw (ihn _ _ hrun sv _ _ _ _ _ hKr (Gt hR o.dst fun _ _ _=> .optF _))
        |some e=>
         rw[he]at h
         obtain⟨q,val,u⟩:=e
         cases u <;> try exact h.elim
         obtain⟨hp1,hp2,hrun⟩:=h
         cases gb with
         |true=>
          obtain⟨r',v,w',bs',hrn,hr,k1,k2,k3,k4,k5⟩:=NN (ρ:=a.eval) h1 he (hp2 rfl) (NF rfl (hx bs (Vg hS hb hH) hf) hp1) (fun _=>rfl) (fun _=>rfl) hH hB
          refine Cn hw (GD hnd (hrn o.dst o.type o.pos o.after o.guard) hr ?_)
          refine ihn _ _ hrun sv _ _ _ _ _ hKr (D:=D) (hD:=hD) ?_
          exact NH (e:=⟨q,.opt true val,.no⟩) (op:=o.op) hf hsv hb hoth (.optT _ _ k1) k2 k3 k4 k5 o.dst
         |false=>
          exact Cm hw (ihn _ _ hrun sv _ _ _ _ _ hKr (Gt hR o.dst fun _ _ _=> .optF _))
       |false=>
        rw[hq]at h
        simp only[gK,F6]at h
        cases hct:Wh E op (J7 op gb (s.args xs)).2 with
        |none=>
         rw[hct]at h
         obtain⟨hp1,ht,hfl⟩:=h
         cases gb with
         |true=>exact Cn hw (Ybp hE hS ih h1 h3 hlr (fun bs hg hf=>NF rfl (hx bs hg hf) hp1) (ht rfl) hk hR)
         |false=>exact Cm hw (ihn _ _ (hfl rfl) sv _ _ _ _ _ hKr (Gt hR o.dst fun _ _ _=> .x _ _ (.junk _)))
        |some c=>
         rw[hct]at h
         obtain⟨c,ys⟩:=c
         obtain⟨hp1,hno,hrun⟩:=h
         obtain⟨m,rr,hm,hrun',hcs⟩:=AJ n hrun
         cases gb with
         |false=>exact Cm hw (ih m (by omega) _ _ hrun' sv _ _ _ _ _ hKr (Gt hR o.dst fun _ _ _=> .optF _))
         |true=>
          obtain⟨f,hcl,hct',hic⟩:=Iq hct
          obtain⟨hok,hen⟩:=hE.ct f c hct'
          obtain⟨vs,hys,hrn⟩:=HE hE.meth h1 (h3 hic) hcl (NF rfl (hx bs (Vg hS hb hH) hf) hp1) (fun _=>rfl) hen
          refine Cn hw (FD hnd hrn ?_)
          obtain⟨z,hzw,hzI,hargs2,hal,hzF⟩:=Dv c.alias hH.v hB 3 hys hno
          subst hzw
          refine(hok _ vs z _ ⟨fun b K hb=>(hH.reg b K (by rw[hzI]at hb;exact hb)).2,AM (Vg (hJ:=hD) hS hb hH) rfl hzF⟩ hargs2 (hcs rfl)).mono ?_
          rintro e w' ⟨r',hs,v,bs2,D2,hD2,⟨rfl,rfl⟩,rfl,k1,k2,k3,k4⟩
          obtain⟨hD3,hcr⟩:=HF (w0:=w0) (J1:=D) (hJ1:=hD) (hJ:=hD2) (d:=o.dst) hzI hf hsv hH hb hoth k1 k2 k3 k4 hal
          have hcr:=hcr (.opt true (shift (Yi s.hp) r')) fun _ h=> .optT _ _ h
          refine ih m (by omega) _ _ hrun' sv _ _ _ _ _ hKr (D:=D2) (hD:=hD3) ?_
          have e0:({ fr:=s.fr,saved:=s.saved,hp:=s.hp++Jl (Yi s.hp) []}:S)=s:=by simp [Jl]
          rw[e0]at hcr
          exact hcr
   |code c=>
    cases hk with
    |code cc _ _ _ _ _ κ hcode hk=>
    show cc.wpIn (Wd rd) 0 P κ a w
    cases cc <;> simp only[QM,reduceCtorEq]at hcode <;> try (cases hcode;exact h.elim)
    case skip=>cases hcode;exact wpIn_skip (ihn _ _ h sv _ _ κ a w hk hR)
    case region id ops draw=>
     cases draw with
     |true=>
      simp only[if_true]at hcode
      unfold IH at hcode
      cases hd:DN P ops with
      |none=>
       rw[hd]at hcode
       simp only at hcode
       cases hdt:DO P ops with
       |none=>rw[hdt]at hcode;cases hcode;exact h.elim
       |some r=>
        obtain⟨al,t⟩:=r
        rw[hdt]at hcode
        cases hcode
        exact Yjs hE hE.mix hdt (DR (N:=n) (K0:=K) t n (Yr _) (Yah hk) h) (YaG hE hS ih hk) (fun v A s hg=>YaF hE hg) hR fun s' a' w' D' hD' ⟨m,hm,hrun⟩ hR'=>ih m (by omega) _ _ hrun sv _ _ κ a' w' hk hR'
      |some r=>
      obtain⟨al,dl⟩:=r
      rw[hd]at hcode
      cases hcode
      exact Yjt hE hE.mix hd (EY (N:=n) (K0:=K) dl n (Yr _) (Yah hk) h) (YaG hE hS ih hk) (fun v A s hg=>YaF hE hg) hR fun s' a' w' D' hD' ⟨m,hm,hrun⟩ hR'=>ih m (by omega) _ _ hrun sv _ _ κ a' w' hk hR'
     |false=>
      simp only[XD,if_false]at hcode
      cases hl:Xg P ops ops.toList with
      |none=>rw[hl]at hcode;cases hcode;exact h.elim
      |some l=>
      rw[hl]at hcode
      cases hcode
      exact wpIn_region_list (ihn _ _ h sv _ _ _ a w (.ops ops ops.toList l K sv ks rd κ hl hk) hR)
    case seq x y=>
     obtain⟨vx,hx,hcode⟩:=YC.1 hcode
     obtain⟨vy,hy,rfl⟩:=YO.1 hcode
     exact wpIn_seq (ihn _ _ h sv _ _ _ a w (.code x vx _ sv ks rd _ hx (.code y vy K sv ks rd κ hy hk)) hR)
    case cond cnd x y=>
     obtain⟨z,hz,hcode⟩:=YC.1 hcode
     obtain⟨vx,hx,hcode⟩:=YC.1 hcode
     obtain⟨vy,hy,rfl⟩:=YO.1 hcode
     rw[Ycg]at h
     obtain⟨bs,hf,hsv,hH,hb,hoth⟩:=id hR
     have hrep:=C6 (w:=w) (Vg (hJ:=hD) hS hb hH) hf hz
     generalize s.x z=v at h hrep
     cases v <;> try exact h.elim
     rename_i b
     have hb1:=hrep.bool_inv
     obtain⟨ht,hfl⟩:=h
     refine wpIn_cond_split hb1 (fun hb=>ihn _ _ (ht hb) sv _ _ _ a w (.code x vx K sv ks rd κ hx hk) hR) (fun hb=>ihn _ _ (hfl hb) sv _ _ _ a w (.code y vy K sv ks rd κ hy hk) hR)
    case block id c=>
     obtain⟨vc,hc,rfl⟩:=YO.1 hcode
     exact wpIn_block (ihn _ _ h sv _ _ _ a w (.code c vc _ sv ks rd _ hc (.inBlock id K sv ks rd κ hk)) hR)
    case scope c=>
     obtain⟨vc,hc,rfl⟩:=YO.1 hcode
     exact Yuc (ihn _ _ h sv _ _ _ a w (.code c vc _ sv ks rd _ hc (.inScope K sv ks rd κ hk)) hR)
    case label l=>cases hcode;exact wpIn_label (ihn _ _ h sv _ _ κ a w hk hR)
    case loop c=>
     obtain⟨vc,hc,rfl⟩:=YO.1 hcode
     obtain⟨σ,head,inv,μ,lf,hlf,⟨x0,hx0,hle0⟩,hround⟩:=h
     obtain⟨D0,hD0,hR0'⟩:=Yao (hlf _ _ hle0) hR
     refine wpIn_loop_ghost (fun k a w=> ∃x D,∃hD:Ext w0 D,μ x=k/\inv x/\Rl ⟨w0.wI D hD,ks⟩ (head x) a sv w) (μ x0) ⟨x0,D0,hD0,rfl,hx0,hR0'⟩ ?_
     rintro k a w ⟨x,D,hD,rfl,hx,hRx⟩
     exact ihn _ _ (hround x hx) sv _ _ _ a w (.code c vc _ sv ks rd _ hc (.inLoop _ _ K sv ks rd κ (by
      rintro s' a' w' D' hD' ⟨y,hy,hlt,hle⟩ hR'
      obtain⟨D1,hD1,hR1⟩:=Yao (hlf _ _ hle) hR'
      exact⟨μ y,hlt,y,D1,hD1,rfl,hy,hR1⟩) hk)) hRx
    case exit id=>
     cases hcode
     rw[Yci]at h
     cases hp:Qd id K with
     |no=>rw[hp]at h;exact h.elim
     |go K'=>
      rw[hp]at h
      obtain⟨κ',h1,h2⟩:=Fe hp hk
      exact wpIn_exit (h2 _ _ (ihn _ _ h sv _ _ κ' a w h1 hR))
     |jump d K'=>
      rw[hp]at h
      exact wpIn_exit (hjump h (Fd hp hk))
    case ret=>
     cases hcode
     rw[Yco]at h
     cases hp:Qc K with
     |no=>rw[hp]at h;exact h.elim
     |go K'=>
      rw[hp]at h
      obtain⟨κ',h1,h2⟩:=Fc hp hk
      exact wpIn_ret (h2 _ _ (ihn _ _ h sv _ _ κ' a w h1 hR))
     |jump d K'=>
      rw[hp]at h
      exact wpIn_ret (hjump h (Fb hp hk))
    case rangeFunc g ps ca cb=>
     obtain⟨z,hz,hcode⟩:=YC.1 hcode
     obtain⟨va,hva,hcode⟩:=YC.1 hcode
     obtain⟨vb,hvb,rfl⟩:=YO.1 hcode
     rw[Ycm]at h
     obtain⟨bs,hf,hsv,hH,hb,hoth⟩:=id hR
     have hrep:=C6 (w:=w) (Vg (hJ:=hD) hS hb hH) hf hz
     generalize s.x z=v at h hrep
     unfold AC at h
     split at h
     ·rename_i gf us cs
      unfold AB at h
      cases hfn:E.fn gf with
      |none=>rw[hfn]at h;exact h.elim
      |some vf=>
       rw[hfn]at h
       obtain⟨hnr,h⟩:=h
       have hrd:=H6 hnr hk
       subst hrd
       obtain⟨fn,hfs,hvf,hen⟩:=hE.fn gf vf hfn
       obtain⟨c,hbody,hcode,hres',hnt⟩:=FA hvf
       obtain⟨uv,cv,hgv,g1,g2⟩:=hrep.fn_inv
       refine wpIn_rangeFunc fun fr _=>?_
       have hB:w0.heap.size<=w.heap.size:=hb.size
       obtain⟨q,hq⟩:∃q:Rec,q= { fn:=fr,ps:=ps.toList,ca:=ca,cb:=cb,D:=w.heap.size,tmps:=a.tmps}:=⟨_,rfl⟩
       obtain⟨W1,hW1⟩:∃W1,W1=(w.alloc (.deferred (some []))).alloc (.loop (q.at .ready none)):=⟨_,rfl⟩
       have hent:(Instr.enterLoop fr a.tmps ps ca cb (Wd none).round).run P w= .ok (w.heap.size+1,[WG w.heap.size]) W1:=by
        rw[hW1,hq]
        exact run_enterLoop_outer _ _ _ _ _
       refine⟨w.heap.size+1,[WG w.heap.size],W1,{ target:= .fn (.func gf) cv.toArray,args:=uv.toArray++ #[.func (.yield (w.heap.size+1)) #[] #[]]},W1,gf,(uv++(.func (.yield (w.heap.size+1)) #[] #[]::cv)).toArray,W1,
        hent,?_,fun _ _=>trivial,?_,fun h=>(by cases h),?_⟩
       ·simp only[resolve,hgv,Deferred.ofValue,Sem.run_bind,Sem.run_pure,Result.andThen_ok]
        simp [Act.eval]
       ·simp only[invoke,AH hen]
        simp
       ·refine HX (b:=vf.body) hfs hbody ?_
        refine ihn _ _ (h (w.heap.size+1)) ({ a with defers:=[WG w.heap.size]++a.defers}::sv) _ _ _ { tmps:=_,defers:=[]} _ (.code c vf.body _ _ _ _ _ hcode (.rfrm vf.res _ q (q.at .ready none) va vb none fn _ _ _ _ _ _ hres' ps.toList (by rw[hq]) (by rw[hq]) (by rw[hq];exact hva) (by rw[hq];exact hvb) .none hk)) (D:=D) (hD:=hD) ?_
        rw[hW1]
        refine Yqf hf hsv hH hb hoth ?_
        have hy:Rep w bs (w0.wI D hD).bd (.fn (.yield (w.heap.size+1)) [] []) (.func (.yield (w.heap.size+1)) #[] #[]):= .x _ _ (.fn _ [] [] [] [] .nil .nil)
        have:=Ha (n:=fn.ntmps) (g1.append (.cons _ _ _ _ hy g2))
        rw[hnt]
        simpa using this
     ·exact h.elim
 exact fun n=>main n n (Yr _)
end
end Go.Vx
namespace Go.Vx
open Go.RowKit
section
variable {P:Program} {E:Env}
def Jv(al:Bool)(k:SV->List HO->Prop)(r:SV)(hp:List HO):Prop:=
 ∃r',k r' []/\le 0 0 (QE hp r) r'/\(al=false->Y0 r')
theorem DI:Cut [] [] 0 0:=⟨rfl,rfl,fun _ _ h=>absurd h (QC _),fun _ _ h=>absurd h (QC _)⟩
theorem XRepL.up{w:World}{bs:List BK}{B:Bd}{l:List SV}{vs:List Value}(h:XRepL w bs B l vs):RepL w bs B l vs:=h.rep
theorem Yv{f:FuncId}{fn:Func}{vf:VF}(hf:P.funcs[f]? =some fn)(hvf:Yn P fn=some vf)(hE:YE P E)(n:Nat)(c:Ctr)
 (h:∀(args:List SV) (k:SV->List HO->Prop),CSat (c.of args) k->∃args',leL 0 0 args args'/\run E (Jv c.alias k) vf.res n [.code vf.body] { fr:=XM vf.ntmps args',saved:=[],hp:=[]}):c.ok P f:=by
 intro args vs z k hsat hx hc
 obtain⟨args',hle,hrun⟩:=h args k hc
 have hk0:XZ z.toWorld [] z.bd z.toWorld [] (z.wI z.I (Ql z)).bd:=⟨rfl,fun _ _ h=>h,fun b hf cs T fz ho=>⟨ho,VH,hf.2,z.ex b hf.2⟩⟩
 have hx2:RepL z.toWorld [] (z.wI z.I (Ql z)).bd args' vs:=VM DI _ _ hle (XRepL.keepG hk0 hx).rep
 obtain⟨body,hbody,hcode,hres,hnt⟩:=FA hvf
 refine F8 (n:=0) (HX (b:=vf.body) hf hbody ?_)
 refine P0 (w0:=z) (fn0:=fn) (R0:=fun e w'=> ∃r hs v bs,∃J,∃hJ:Ext z J,k r hs/\e= .returned v/\Rep w' bs (z.wI J hJ).bd r v/\Hp w' bs (z.wI J hJ).bd hs/\BelowI z.bd z.toWorld w'/\(c.alias=false->Y0 r/\QV hs)) hE hsat.2 hres (by
  rintro r hp v w' bs D hD ⟨r',hk,hle,hfr⟩ hr hH hb
  refine⟨r',[],v,[],D,hD,hk,rfl,Yas DI _ _ hle (.x _ _ (YjQ hH hr)),hp0 fun b K hb=>(hH.reg b K hb).2,hb,fun ha=>⟨hfr ha,trivial⟩⟩) n _ _ hrun [] [] none _
  {tmps:=vs.toArray++WS (fn.ntmps-vs.toArray.size) undef,defers:=[]} z.toWorld (.code body vf.body [] [] [] none _ hcode .nil) (D:=z.I) (hD:=Ql z) ?_
 refine⟨[],?_,.nil,hp0 (hJ:=Ql z) hsat.1,BelowI.refl _ _,⟨fun _ h=>(by cases h),.nil,[[]],rfl,by simp,fun _ h=>(by simp at h)⟩⟩
 have:=Ha (n:=fn.ntmps) hx2
 rw[hnt]
 simpa using this
def Cp:List VOp->List Nat
 | []=>[]
 | ⟨some d,_,_,_⟩::l=>d::Cp l
 | ⟨none,_,_,_⟩::l=>Cp l
def Co:List (Nat×AL)->List Nat
 | []=>[]
 | (d,_)::l=>d::Co l
def NP:List DOp->List Nat
 | []=>[]
 | ⟨⟨some d,_,_,_⟩,_⟩::l=>d::NP l
 | ⟨⟨none,_,_,_⟩,_⟩::l=>NP l
def NQ:DTr->List Nat
 | .leaf=>[]
 | .ops l t=>NP l++NQ t
 | .br a b=>NQ a++NQ b
def wrC:VC->List Nat
 | .region l=>Cp l
 | .draw al l=>Co al++NP l
 | .drawT al t=>Co al++NQ t
 | .seq a b=>wrC a++wrC b
 | .cond _ a b=>wrC a++wrC b
 | .block _ c=>wrC c
 | .loop c=>wrC c
 |_=>[]
def junkAt:List SV->List Nat->List SV
 |fr,[]=>fr
 |fr,n::l=>junkAt (Km fr n .junk) l
def Nn:List SV->List (Nat×SV)->List SV
 |fr,[]=>fr
 |fr,(n,v)::l=>Nn (Km fr n v) l
def No:List HO->List (Nat×HO)->List HO
 |hp,[]=>hp
 |hp,(n,v)::l=>No (Kz hp n v) l
def MG(s:S)(body:VC)(ghosts:List HO)(Ku:List (Nat×SV))(blocks:List (Nat×HO)):S:=
 {fr:=Nn (junkAt s.fr (wrC body)) Ku,saved:=s.saved,hp:=No (s.hp++ghosts) blocks}
theorem Loop.at{r:List It->S->Prop}{body:VC}{K:List It}{s:S}(σ:Type)(Ku:σ->List (Nat×SV))(blocks:σ->List (Nat×HO))(ghosts:List HO)(inv:σ->Prop)(μ:σ->Nat)
 (h0:∃x,inv x/\leS s (MG s body ghosts (Ku x) (blocks x)))
 (h:∀x,inv x->r (.code body:: .inLoop (fun s'=> ∃y,inv y/\μ y<μ x/\leS s' (MG s body ghosts (Ku y) (blocks y)))::K) (MG s body ghosts (Ku x) (blocks x))):Loop r body K s leP:=
 ⟨σ,fun x=>MG s body ghosts (Ku x) (blocks x),inv,μ,leS,fun _ _ h=>⟨[],trivial,[],trivial,h⟩,h0,h⟩
def keepG:List Nat->List SV->List SV
 | [],l=>MQ l
 |_,[]=>[]
 |0::ks,x::l=>x::keepG ks l
 | (k+1)::ks,_::l=> .junk::keepG (k::ks) l
def Wl(s:S)(keep:List Nat)(ghosts:List HO)(Ku:List (Nat×SV))(blocks:List (Nat×HO)):S:=
 {fr:=Nn (keepG keep s.fr) Ku,saved:=s.saved,hp:=No (s.hp++ghosts) blocks}
theorem Loop.keep{r:List It->S->Prop}{body:VC}{K:List It}{s:S}(keep:List Nat)(σ:Type)(Ku:σ->List (Nat×SV))(blocks:σ->List (Nat×HO))(ghosts:List HO)(inv:σ->Prop)(μ:σ->Nat)
 (h0:∃x,inv x/\leS s (Wl s keep ghosts (Ku x) (blocks x)))
 (h:∀x,inv x->r (.code body:: .inLoop (fun s'=> ∃y,inv y/\μ y<μ x/\leS s' (Wl s keep ghosts (Ku y) (blocks y)))::K) (Wl s keep ghosts (Ku x) (blocks x))):Loop r body K s leP:=
 ⟨σ,fun x=>Wl s keep ghosts (Ku x) (blocks x),inv,μ,leS,fun _ _ h=>⟨[],trivial,[],trivial,h⟩,h0,h⟩
end
end Go.Vx
namespace Go.Vx
variable {al:Bool} {k:SV->List HO->Prop} {hp:List HO} {m n:Nat}
theorem YX{κ:IntKind}{x:Int}(h:k (.int κ x) []):Jv al k (.int κ x) hp:=⟨_,h,by simp [QE,Qr,le],fun _=>by simp [Y0]⟩
theorem Qi{b:Bool}(h:k (.bool b) []):Jv al k (.bool b) hp:=⟨_,h,by simp [QE,Qr,le],fun _=>by simp [Y0]⟩
theorem Ky{x r':SV}(h:k r' [])(hl:le 0 0 (QE hp x) r')(hf:al=false->Y0 r'):Jv al k x hp:=⟨_,h,hl,hf⟩
theorem YlZ{x:SV}:le m n x .junk=True:=by cases x <;> simp [le]
theorem BS{κ κ':IntKind}{x y:Int}:le m n (.int κ x) (.int κ' y)=(κ=κ'/\x=y):=by simp [le]
theorem YlV{x y:Bool}:le m n (.bool x) (.bool y)=(x=y):=by simp [le]
theorem Yl0:le m n .nil .nil=True:=by simp [le,bnd]
theorem Yaq{a b:List SV}:le m n (.agg a) (.agg b)=leL m n a b:=by simp [le]
theorem Yma{a b:List SV}:le m n (.tup a) (.tup b)=leL m n a b:=by simp [le]
theorem LO{t t' z z':Bool}{l l' sz sz':Nat}{g g':Nat->List SV}:le m n (.vs t z l sz g) (.vs t' z' l' sz' g')=((t'=true->t=true)/\z=z'/\l=l'/\sz=sz'/\∀k,k<l->Qz (g k) (g' k)):=by simp [le]
theorem Yl5{i o i' o':Nat}:le m n (.ptr i o) (.ptr i' o')=(i=i'/\o=o'/\i'<n):=by simp [le,bnd,and_assoc]
theorem Yl4{i lo l sz i' lo' l' sz':Nat}:le m n (.own i lo l sz) (.own i' lo' l' sz')=(i=i'/\lo=lo'/\l=l'/\sz=sz'/\i<n):=by simp [le]
theorem LP{t t':Bool}{c c':List SV}:le m n (.xp t c) (.xp t' c')=((t'=true->t=true)/\Qz c c'):=by simp [le]
theorem YlX{f f':Fn}{a b a' b':List SV}:le m n (.fn f a b) (.fn f' a' b')=(f=f'/\a=a'/\b=b'/\Je n a'/\Je n b'):=by simp [le,bnd,and_assoc]
theorem Yl3{b b':Bool}{x y:SV}:le m n (.opt b x) (.opt b' y)=(b=b'/\x=y/\bnd n y):=by simp [le,bnd,and_assoc]
theorem Ymb{x y:Value}:le m n (.val x) (.val y)=(x=y):=by simp [le,bnd]
theorem YlW{i k o sz i' k' o' sz':Nat}:le m n (.elem i k o sz) (.elem i' k' o' sz')=(i=i'/\k=k'/\o=o'/\sz=sz'/\i'<n):=by simp [le,bnd,and_assoc]
theorem YlS{x:List SV}:Qz x x=True:=eq_true (Y1 x)
theorem Yl1{i lo l sz:Nat}:le m n .nil (.own i lo l sz)=(m<=i/\i<n/\lo=0/\l=0):=by simp [le]
theorem Yl2{t z:Bool}{l sz:Nat}{g:Nat->List SV}:le m n .nil (.vs t z l sz g)=(z=true/\l=0):=by simp [le]
theorem YlM{z:Bool}{sz l:Nat}{g:Nat->List SV}{r:List HO}:leH m n [] (.own z sz l g::r)=(z=true/\l=0/\leH m n [] r):=rfl
theorem Yme:Yi []=0:=rfl
theorem Ymd{x:HO}{a:List HO}:Yi (x::a)=Yi a+1:=rfl
theorem BR:leL m n [] []=True:=by simp [leL]
theorem BQ{x y:SV}{a b:List SV}:leL m n (x::a) (y::b)=(le m n x y/\leL m n a b):=by simp [leL]
theorem YlP:Uq m n [] []=True:=by simp [Uq]
theorem YlO{x y:List SV}{a b:List (List SV)}:Uq m n (x::a) (y::b)=(leL m n x y/\Uq m n a b):=by simp [Uq]
theorem YlN{h:List HO}:leH m n h []=True:=by cases h <;> simp [leH]
theorem YlI{a b:List SV}:Wm m n (.box a) (.box b)=leL m n a b:=by simp [Wm]
theorem Yl8{a:Nat}{C:Nat->Int->Prop}:le m n (.row a C) (.row a C)=True:=eq_true ⟨rfl,trivial⟩
theorem Yl7{C:Int->Prop}:le m n (.rcell C) (.rcell C)=True:=eq_true ⟨rfl,trivial⟩
theorem YlY{kk:List IntKind}{C:List Int->Int->Prop}:le m n (.imap kk C) (.imap kk C)=True:=eq_true ⟨rfl,trivial⟩
theorem Yl9{i:Nat}:le m n (.smp i) (.smp i)=(i<n):=propext ⟨fun h=>h.2,fun h=>⟨rfl,h⟩⟩
theorem YiL{a:Nat}{C:Nat->Int->Prop}:bnd n (.row a C)=True:=rfl
theorem YiK{C:Int->Prop}:bnd n (.rcell C)=True:=rfl
theorem YiD{kk:List IntKind}{C:List Int->Int->Prop}:bnd n (.imap kk C)=True:=rfl
theorem YiM{i:Nat}:bnd n (.smp i)=(i<n):=rfl
theorem YlL{l l':List (List UInt8)}:Wm m n (.smap l) (.smap l')=(l=l'):=rfl
theorem YlJ:Wm m n .gone .gone=True:=by simp [Wm]
theorem YlK{z z':Bool}{sz sz' l l':Nat}{g g':Nat->List SV}:Wm m n (.own z sz l g) (.own z' sz' l' g')=(z=z'/\sz=sz'/\l=l'/\∀k,k<l->leL m n (g k) (g' k)):=by simp [Wm]
theorem YlR{fr fr':List SV}{sv sv':List (List SV)}{h h':List HO}:leS ⟨fr,sv,h⟩ ⟨fr',sv',h'⟩=(leL (Yi h) (Yi h') fr fr'/\Uq (Yi h) (Yi h') sv sv'/\leH (Yi h) (Yi h') h h'):=rfl
theorem YiE{k:IntKind}{x:Int}:bnd n (.int k x)=True:=rfl
theorem Yiz{b:Bool}:bnd n (.bool b)=True:=rfl
theorem YiO{v:Value}:bnd n (.val v)=True:=rfl
theorem YiG:bnd n .nil=True:=rfl
theorem YiF:bnd n .junk=True:=rfl
theorem YiP{t z:Bool}{l sz:Nat}{g:Nat->List SV}:bnd n (.vs t z l sz g)=True:=rfl
theorem YiQ{t:Bool}{c:List SV}:bnd n (.xp t c)=True:=rfl
theorem Yiy{c:List SV}:bnd n (.agg c)=Je n c:=rfl
theorem YiN{c:List SV}:bnd n (.tup c)=Je n c:=rfl
theorem YiJ{i o:Nat}:bnd n (.ptr i o)=(i<n):=rfl
theorem YiI{i a b c:Nat}:bnd n (.own i a b c)=(i<n):=rfl
theorem YiA{i a b c:Nat}:bnd n (.elem i a b c)=(i<n):=rfl
theorem YiB{f:Fn}{a b:List SV}:bnd n (.fn f a b)=(Je n a/\Je n b):=rfl
theorem YiC{t:TypeId}{v:SV}:bnd n (.iface t v)=bnd n v:=rfl
theorem YiH{b:Bool}{v:SV}:bnd n (.opt b v)=bnd n v:=rfl
theorem Yix:Je n []=True:=rfl
theorem Yiw{x:SV}{l:List SV}:Je n (x::l)=(bnd n x/\Je n l):=rfl
mutual
theorem Jq:∀(x:SV),bnd n x->le m n x x
 | .int _ _,_=>⟨rfl,rfl⟩
 | .bool _,_=>rfl
 | .val _,h=>⟨rfl,h⟩
 | .nil,h=>⟨rfl,h⟩
 | .agg cs,h=>YU cs h
 | .tup cs,h=>YU cs h
 | .vs _ _ _ _ get,_=>⟨id,rfl,rfl,rfl,fun k _=>Y1 (get k)⟩
 | .xp _ cs,_=>⟨id,Y1 cs⟩
 | .ptr _ _,h=>⟨rfl,h⟩
 | .own _ _ _ _,h=>⟨rfl,rfl,rfl,rfl,h⟩
 | .elem _ _ _ _,h=>⟨rfl,h⟩
 | .fn _ _ _,h=>⟨rfl,h⟩
 | .iface _ _,h=>⟨rfl,h⟩
 | .opt _ _,h=>⟨rfl,h⟩
 | .cut _,h=>⟨rfl,h⟩
 | .row _ _,h=>⟨rfl,h⟩
 | .rcell _,h=>⟨rfl,h⟩
 | .imap _ _,h=>⟨rfl,h⟩
 | .smp _,h=>⟨rfl,h⟩
 | .junk,_=>trivial
theorem YU:∀(x:List SV),Je n x->leL m n x x
 | [],_=>trivial
 |x::l,h=>⟨Jq x h.1,YU l h.2⟩
end
theorem TS:∀(k:Nat)(l:List SV),Je n l->Je n (YR k l)
 |0,_,_=>trivial
 |_+1,[],_=>trivial
 |k+1,_::l,h=>⟨h.1,TS k l h.2⟩
theorem TR:∀(k:Nat)(l:List SV),Je n l->Je n (YK k l)
 |0,_,h=>h
 |_+1,[],_=>trivial
 |k+1,_::l,h=>TR k l h.2
theorem YlQ{sz k:Nat}{cs:List SV}(h:Je n cs=True):leL m n (Jp sz cs k) (Jp sz cs k)=True:=
 eq_true (YU _ (TS _ _ (TR _ _ (of_eq_true h))))
theorem Yri(n:Nat):Vi n 0=n:=rfl
theorem C8(k:Nat):Qx 0 k=k:=rfl
theorem Yrh(n:Nat):Vi n (Xi 1)=n-1:=rfl
theorem YhW(k:Nat):Qx (Xi 1) k=1+k:=rfl
end Go.Vx
