/- Operations of a region that draws its order: what exchanges. -/
import Derived.Test.YtlhmikjnholpnaaGreatDoorMgX53b
import Derived.MapKept
import Derived.WideKeyRuns
open Array renaming getElem?_eq_some_iff->Xr,length_toList->Um,replicate->Ve
open Bool renaming and_eq_true->YS,false_eq_true->XQ,not_eq_true'->ZY,or_eq_false_iff->K5,or_eq_true->Qj
open Int renaming toNat->Xs
open List renaming all_eq_true->VJ,append_nil->Wr,cons_append->Ws,getD_eq_getElem?_getD->Kh,getElem?_append->Wt,getElem?_append_left->QY,getElem?_cons_zero->VK,getElem?_eq_some_iff->UY,getElem?_set->VM,getElem?_singleton->Uo,length_cons->XS,length_map->VN,length_nil->Z1,map_cons->KH,map_nil->Vf,mem_append->Ky,mem_cons->Kz,mem_cons_of_mem->KX,mem_cons_self->KR,mem_map->QM,mem_singleton->Jj
open Nat renaming add_zero->KO,beq->YJ,eq_of_beq_eq_true->Jy,le_of_ble_eq_true->KC,le_of_eq->Yx,le_refl->Yt,lt_of_lt_of_le->Qt,lt_or_ge->YY,lt_trichotomy->Ww,not_lt_zero->J8,pow_le_pow_right->Kp,two_pow_pos->QC,zero_add->KJ
open Option renaming bind_eq_some_iff->YE,map_eq_some_iff->YQ
set_option linter.all false
namespace Go.Vx
theorem ME:∀(l:List SV)(n m:Nat)(x:SV),n≠m->Kr (Kq l n x) m=Kr l m
 | [],_,_,_,_=>rfl
 |_::_,0,0,_,h=>absurd rfl h
 |_::_,0,_+1,_,_=>rfl
 |_::_,_+1,0,_,_=>rfl
 |_::l,n+1,m+1,x,h=>ME l n m x (fun e=>h (by rw[e]))
theorem FG:∀(l:List SV)(n m:Nat)(x y:SV),n≠m->Kq (Kq l n x) m y=Kq (Kq l m y) n x
 | [],_,_,_,_,_=>rfl
 |_::_,0,0,_,_,h=>absurd rfl h
 |_::_,0,_+1,_,_,_=>rfl
 |_::_,_+1,0,_,_,_=>rfl
 |a::l,n+1,m+1,x,y,h=>congrArg (a::·) (FG l n m x y (fun e=>h (by rw[e])))
section
variable {s:S} {d d':Option Nat} {v u:SV}
theorem FU{x:X}(h:∀n,d=some n->n∉x.slot):(s.put d v).x x=s.x x:=by
 cases d with
 |none=>rfl
 |some n=>
  cases x with
  |cn _=>rfl
  |tm m=>exact ME _ _ _ _ (fun e=>h n rfl (by simp [X.slot,e]))
theorem CL:∀{xs:List X},(∀n,d=some n->n∉KA xs)->(s.put d v).args xs=s.args xs
 | [],_=>rfl
 |x::l,h=>by
  simp only[S.args]
  rw[FU (fun n e hm=>h n e (by simp [KA,hm])),CL (fun n e hm=>h n e (by simp [KA,hm]))]
theorem Np(h:∀n,d=some n->d'≠some n):(s.put d v).put d' u=(s.put d' u).put d v:=by
 cases d with
 |none=>cases d' <;> rfl
 |some n=>
  cases d' with
  |none=>rfl
  |some m=>simp only[S.put];rw[FG _ _ _ _ _ (fun e=>h n rfl (by rw[e]))]
end
def FW(hp hp':List HO):Prop:=∀i,Ys hp i≠ .gone->Ys hp' i=Ys hp i
theorem Yf1{hp hp':List HO}(hg:FW hp hp'){x:SV}{r:Prop×List SV}(h:ZL hp x=some r):ZL hp' x=some r:=by
 cases x <;> simp only[ZL]at h⊢ <;> try exact h
 case ptr i off=>rw[hg i (by intro e;rw[e]at h;cases h)];exact h
 case elem i k off sz=>rw[hg i (by intro e;rw[e]at h;cases h)];exact h
theorem Ty{hp hp':List HO}(hg:FW hp hp'){n n':Nat}{o:VO}(hq:o.quiet=true){xs:List SV}{e:Ef}(h:eff hp n o xs=some e):eff hp' n' o xs=some e:=by
 cases o <;> simp only[VO.quiet,reduceCtorEq]at hq <;> try exact h
 case load agg size=>
  simp only[eff,V2]at h⊢
  split at h
  ·rename_i a
   obtain⟨r,hr,h⟩:=YE.1 h
   simp only[Yf1 hg hr,Option.bind_some]
   exact h
  ·cases h
 case idxArr n size=>
  simp only[eff,Vk]at h⊢
  split at h
  ·rename_i j k i
   rw[hg j (by intro e;rw[e]at h;cases h)];exact h
  ·rename_i j o k i
   rw[hg j (by intro e;rw[e]at h;cases h)];exact h
  ·exact h
  ·cases h
 case sliceArr n size lo hi=>
  simp only[eff]at h⊢
  unfold Hf at h⊢
  split at h
  ·rename_i j
   rw[hg j (by intro e;rw[e]at h;cases h)];exact h
  ·cases h
 case isNil neg=>
  simp only[eff]at h⊢
  unfold He at h⊢
  split at h
  ·rename_i x
   split at h <;> try exact h
   rename_i i _ _ _
   rw[hg i (by intro e;rw[e]at h;cases h)];exact h
  ·cases h
def JU(v:VOp)(s:S):Option (Prop×SV):=
 match v.g with
 |none=>match eff s.hp (Yi s.hp) v.op (s.args v.xs)with
  |some ⟨p,x,.no⟩=>some (p,x)
  |_=>none
 |some (g,pol)=>match XK (Kr s.fr g) pol with
  |none=>none
  |some gb=>match eff s.hp (Yi s.hp) v.op (Qh v.op gb (s.args v.xs)).2 with
   |some ⟨q,x,.no⟩=>some ((Qh v.op gb (s.args v.xs)).1/\(gb=true->q),.opt gb x)
   |_=>none
def Ht(o:Option (Prop×SV))(d:Option Nat)(A:S->Prop)(s:S):Prop:=
 match o with
 |some (p,x)=>p/\A (s.put d x)
 |none=>False
def ctW(d:Option Nat)(A:S->Prop)(s:S)(ys:List SV)(c:Option Ctr):Prop:=
 match c with
 |some c=>(c.alias=true->QR ys=true)/\CSat (c.of (viewN false s.hp 3 ys)) fun r hs=>A (S.put { fr:=s.fr,saved:=s.saved,hp:=s.hp++Js (Yi s.hp) hs} d (shift (Yi s.hp) r))
 |none=>False
def Mx(d:Option Nat)(A:S->Prop)(s:S)(e:Option Ef):Prop:=
 match e with
 |some e=>e.pre/\A ((s.upd e.upd).put d e.val)
 |none=>False
def F1(b:Bool)(p:Prop):Prop:=
 match b with
 |true=>False
 |false=>p
def Nj(v:VOp)(A:S->Prop)(s:S)(c:Option CRes):Prop:=
 match c with
 |some c=>CSat c fun r hs=>A (S.put { fr:=s.fr,saved:=s.saved,hp:=s.hp++Js (Yi s.hp) hs} v.dst (shift (Yi s.hp) r))
 |none=>F1 v.op.bad (Mx v.dst A s (eff s.hp (Yi s.hp) v.op (s.args v.xs)))
def MK(E:Env)(v:VOp)(A:S->Prop)(s:S)(c:Option (FuncId×List SV)):Prop:=
 match c with
 |some (f,ys)=>ctW v.dst A s ys (E.ct f)
 |none=>Nj v A s (psd v.op (s.args v.xs))
def Mf(gb:Bool)(d:Option Nat)(A:S->Prop)(s:S)(p:Prop)(c:Option (Ctr×List SV)):Prop:=
 match c with
 |some (c,ys)=>p/\(c.alias=true->QR ys=true)/\∃r,A (s.put d (.opt gb r))/\(gb=true->CSat (c.of (viewN false s.hp 3 ys)) fun r' hs=>r=shift (Yi s.hp) r'/\hs=[])
 |none=>False
def MJ(E:Env)(v:VOp)(A:S->Prop)(s:S)(g:Option Bool):Prop:=
 match g with
 |some gb=>Mf gb v.dst A s (Qh v.op gb (s.args v.xs)).1 (Wy E v.op (Qh v.op gb (s.args v.xs)).2)
 |none=>False
def Ql(E:Env)(v:VOp)(A:S->Prop)(s:S):Prop:=
 match v.op.quiet with
 |true=>Ht (JU v s) v.dst A s
 |false=>match v.g with
  |none=>MK E v A s (callee E v.op (s.args v.xs))
  |some (g,pol)=>MJ E v A s (XK (Kr s.fr g) pol)
section
variable {E:Env} {v:VOp} {A B:S->Prop} {s:S}
theorem V0(h:∀s,A s->B s)(hd:Ql E v A s):Ql E v B s:=by
 unfold Ql at*
 split
 ·rename_i hq
  rw[hq]at hd
  simp only[Ht]at*
  cases hf:JU v s with
  |none=>rw[hf]at hd;exact hd
  |some r=>rw[hf]at hd;exact⟨hd.1,h _ hd.2⟩
 ·rename_i hq
  rw[hq]at hd
  simp only at hd
  split
  ·rename_i hg
   rw[hg]at hd
   simp only at hd
   unfold MK at*
   split
   ·rename_i f ys hc
    rw[hc]at hd
    simp only[ctW]at*
    cases hct:E.ct f with
    |none=>rw[hct]at hd;exact hd
    |some c=>rw[hct]at hd;exact⟨hd.1,hd.2.mono fun r hs hh=>h _ hh⟩
   ·rename_i hc
    rw[hc]at hd
    simp only[Nj]at*
    cases hps:psd v.op (s.args v.xs)with
    |some c=>rw[hps]at hd;exact CSat.mono hd fun r hs hh=>h _ hh
    |none=>
    rw[hps]at hd
    simp only at*
    cases hbd:v.op.bad with
    |true=>rw[hbd]at hd;exact hd
    |false=>
    rw[hbd]at hd
    simp only[F1,Mx]at*
    cases he:eff s.hp (Yi s.hp) v.op (s.args v.xs)with
    |none=>rw[he]at hd;exact hd
    |some e=>rw[he]at hd;exact⟨hd.1,h _ hd.2⟩
  ·rename_i g pol hg
   rw[hg]at hd
   simp only at hd
   unfold MJ at*
   split
   ·rename_i gb hgb
    rw[hgb]at hd
    simp only[Mf]at*
    cases hct:Wy E v.op (Qh v.op gb (s.args v.xs)).2 with
    |none=>rw[hct]at hd;exact hd
    |some c=>rw[hct]at hd;obtain⟨h1,h0,r,h2,h3⟩:=hd;exact⟨h1,h0,r,h _ h2,h3⟩
   ·rename_i hgb
    rw[hgb]at hd;exact hd
theorem Tj(hq:v.op.quiet=true):¬Ql E v (fun _=>False) s:=by
 unfold Ql
 rw[hq]
 simp only[Ht]
 cases JU v s with
 |none=>exact id
 |some r=>exact fun h=>h.2
theorem H3{d:Option Nat}{x:SV}(h:∀n,d=some n->n∉v.reads):JU v (s.put d x)=JU v s:=by
 have ha:(s.put d x).args v.xs=s.args v.xs:=CL fun n e hm=>h n e (by simp [VOp.reads,hm])
 unfold JU
 cases hg:v.g with
 |none=>simp only[ha,Vv]
 |some gp=>
  obtain⟨g,pol⟩:=gp
  have hgg:Kr (s.put d x).fr g=Kr s.fr g:=by
   cases d with
   |none=>rfl
   |some n=>exact ME _ _ _ _ (fun e=>h n rfl (by simp [VOp.reads,hg,e]))
  simp only[ha,Vv,hgg]
theorem CK{s s':S}(hf:s'.fr=s.fr):∀(xs:List X),s'.args xs=s.args xs
 | []=>rfl
 |x::l=>by
  simp only[S.args]
  rw[CK hf l]
  cases x <;> simp [S.x,hf]
theorem Bi{s':S}{r:Prop×SV}(hq:v.op.quiet=true)(hf:s'.fr=s.fr)(hg:FW s.hp s'.hp)(h:JU v s=some r):JU v s'=some r:=by
 unfold JU at*
 simp only[CK hf,hf]
 cases hgd:v.g with
 |none=>
  rw[hgd]at h
  simp only at h⊢
  cases he:eff s.hp (Yi s.hp) v.op (s.args v.xs)with
  |none=>rw[he]at h;cases h
  |some e=>rw[he]at h;rw[Ty hg hq he];exact h
 |some gp=>
  obtain⟨g,pol⟩:=gp
  rw[hgd]at h
  simp only at h⊢
  cases hgb:XK (Kr s.fr g) pol with
  |none=>rw[hgb]at h;cases h
  |some gb=>
   rw[hgb]at h
   simp only at h⊢
   cases he:eff s.hp (Yi s.hp) v.op (Qh v.op gb (s.args v.xs)).2 with
   |none=>rw[he]at h;cases h
   |some e=>rw[he]at h;rw[Ty hg hq he];exact h
def Ykk:Upd->Prop
 | .app _ _=>False
 |_=>True
theorem Rd{d:Option Nat}{x:SV}{u:Upd}(h:Ykk u):(s.put d x).upd u=(s.upd u).put d x:=by
 cases u <;> first|exact h.elim| (cases d <;> rfl)
theorem IA{d:Option Nat}{x:SV}{hp:List HO}:({ fr:=(s.put d x).fr,saved:=(s.put d x).saved,hp:=hp}:S)=S.put { fr:=s.fr,saved:=s.saved,hp:=hp} d x:=by
 cases d <;> rfl
theorem BC(hp hs:List HO):FW hp (hp++hs):=fun i hi=>by
 rw[EN]
 split
 ·rfl
 ·rename_i hlt
  exact absurd (WU hp i (by omega)) hi
theorem In(hp:List HO)(x:HO):FW hp (Qg hp x):=fun i hi=>by
 rcases YY i (Yi hp)with h|h
 ·exact Gi hp x i h
 ·exact absurd (WU hp i h) hi
variable {i j:VOp} {p:Prop} {x:SV}
theorem Ygp(hi:i.op.quiet=true)(h1:∀n,i.dst=some n->n∉j.reads)(h2:∀n,i.dst=some n->j.dst≠some n)(h3:∀n,j.dst=some n->n∉i.reads)
 (hh:∀e,j.op.quiet=false->j.op.bad=false->callee E j.op (s.args j.xs)=none->eff s.hp (Yi s.hp) j.op (s.args j.xs)=some e->(s.put i.dst x).upd e.upd=(s.upd e.upd).put i.dst x/\JU i (s.upd e.upd)=some (p,x))
 (hf:JU i s=some (p,x))(h:Ql E j A (s.put i.dst x)):Ql E j (fun s'=>JU i s'=some (p,x)/\A (s'.put i.dst x)) s:=by
 have ha:(s.put i.dst x).args j.xs=s.args j.xs:=CL fun n e hm=>h1 n e (by simp [VOp.reads,hm])
 unfold Ql at*
 split
 ·rename_i hq
  rw[hq]at h
  simp only[H3 h1]at h
  simp only[Ht]at*
  cases hfj:JU j s with
  |none=>rw[hfj]at h;exact h
  |some r=>rw[hfj]at h;exact⟨h.1,by rw[H3 h3];exact hf,by rw[<-Np h2];exact h.2⟩
 ·rename_i hq
  rw[hq]at h
  simp only at h
  split
  ·rename_i hg
   rw[hg]at h
   simp only[ha]at h
   unfold MK at*
   split
   ·rename_i f ys hc
    rw[hc]at h
    simp only[ctW,Vv]at*
    cases hct:E.ct f with
    |none=>rw[hct]at h;exact h
    |some c=>
     rw[hct]at h
     refine⟨h.1,CSat.mono h.2 fun r hs hr=>⟨?_,?_⟩⟩
     ·rw[H3 h3]
      exact Bi (s:=s) hi rfl (BC _ _) hf
     ·have hr2:=hr
      rw[IA,Np h2]at hr2;exact hr2
   ·rename_i hc
    rw[hc]at h
    simp only[Nj,Vv,ha]at*
    cases hps:psd j.op (s.args j.xs)with
    |some c=>
     rw[hps]at h
     refine CSat.mono h fun r hs hr=>⟨?_,?_⟩
     ·rw[H3 h3]
      exact Bi (s:=s) hi rfl (BC _ _) hf
     ·have hr2:=hr
      rw[IA,Np h2]at hr2;exact hr2
    |none=>
    rw[hps]at h
    simp only at*
    cases hbd:j.op.bad with
    |true=>rw[hbd]at h;exact h
    |false=>
    rw[hbd]at h
    simp only[F1,Mx,Vv]at*
    cases he:eff s.hp (Yi s.hp) j.op (s.args j.xs)with
    |none=>rw[he]at h;exact h
    |some e=>
     rw[he]at h
     obtain⟨k1,k2⟩:=hh e hq hbd hc he
     refine⟨h.1,?_,?_⟩
     ·rw[H3 h3];exact k2
     ·rw[<-Np h2,<-k1];exact h.2
  ·rename_i g pol hg
   rw[hg]at h
   have hgg:Kr (s.put i.dst x).fr g=Kr s.fr g:=by
    cases hd:i.dst with
    |none=>rfl
    |some n=>exact ME _ _ _ _ (fun e=>h1 n hd (by simp [VOp.reads,hg,e]))
   simp only[ha,hgg]at h
   unfold MJ at*
   split
   ·rename_i gb hgb
    rw[hgb]at h
    simp only[Mf,Vv,ha]at*
    cases hct:Wy E j.op (Qh j.op gb (s.args j.xs)).2 with
    |none=>rw[hct]at h;exact h
    |some c=>
     rw[hct]at h
     obtain⟨k1,k0,r,k2,k3⟩:=h
     exact⟨k1,k0,r,⟨by rw[H3 h3];exact hf,by rw[<-Np h2];exact k2⟩,k3⟩
   ·rename_i hgb
    rw[hgb]at h;exact h
end
end Go.Vx
namespace Go.Vx
theorem Et{hp hp':List HO}{n n':Nat}{o:VO}(hq:o.quiet=true)(hr:o.readsHp=false)(xs:List SV):eff hp' n' o xs=eff hp n o xs:=by
 cases o <;> simp only[VO.quiet,VO.readsHp,reduceCtorEq]at hq hr <;> rfl
def Xg:List SV->SV
 | []=> .junk
 |x::_=>x
theorem Yf0{hp hp':List HO}{x:SV}(h:∀b,blk x=some b->Ys hp' b=Ys hp b):ZL hp' x=ZL hp x:=by
 cases x <;> try rfl
 case ptr i off=>simp only[ZL,h i rfl]
 case elem i k off sz=>simp only[ZL,h i rfl]
theorem Tx{hp hp':List HO}{n n':Nat}{o:VO}(hq:o.quiet=true){xs:List SV}(h:∀b,blk (Xg xs)=some b->Ys hp' b=Ys hp b):eff hp' n' o xs=eff hp n o xs:=by
 cases hr:o.readsHp with
 |false=>exact Et hq hr xs
 |true=>
  cases o <;> simp only[VO.readsHp,reduceCtorEq]at hr
  case load agg size=>
   cases xs with
   |nil=>rfl
   |cons a l=>
    cases l with
    |nil=>
     have:=Yf0 (x:=a) h
     simp only[eff,V2,this]
    |cons _ _=>rfl
  case idxArr m size=>
   rcases xs with _| ⟨a,_| ⟨b,_| ⟨c,l⟩⟩⟩ <;> try rfl
   ·cases a <;> try rfl
    case ptr j off=>cases off <;> rfl
   ·cases a <;> try rfl
    case ptr j off=>
     have:=h j rfl
     cases off <;> cases b <;> try rfl
     all_goals simp only[eff,Vk,this]
    case xp t cs=>cases b <;> rfl
   ·cases a <;> try rfl
    case ptr j off=>cases off <;> cases b <;> rfl
    case xp t cs=>cases b <;> rfl
  case sliceArr m size lo hi=>
   rcases xs with _| ⟨a,_| ⟨b,l⟩⟩
   ·cases lo <;> cases hi <;> rfl
   ·cases lo <;> cases hi <;> try rfl
    cases a <;> try rfl
    case ptr j off=>
     have:=h j rfl
     cases off <;> try rfl
     simp only[eff,Hf,this]
   ·cases lo <;> cases hi <;> try rfl
    cases a <;> try rfl
    case ptr j off=>cases off <;> rfl
  case isNil neg=>
   rcases xs with _| ⟨a,_| ⟨b,l⟩⟩
   ·rfl
   ·rfl
   ·rcases l with _| ⟨c,l⟩
    ·cases b <;> try rfl
     cases a <;> try rfl
     case own i lo m sz=>
      have:=h i rfl
      simp only[eff,He,this]
    ·cases b <;> rfl
theorem Ycg{hp:List HO}{n:Nat}{o:VO}(ho:o.isStore=true){xs:List SV}{e:Ef}(h:eff hp n o xs=some e):∃k ho,e.upd= .set k ho/\blk (Xg xs)=some k:=by
 cases o <;> simp only[VO.isStore,reduceCtorEq]at ho
 simp only[eff,H1]at h
 split at h
 ·rename_i a v
  obtain⟨e',h',rfl⟩:=YQ.1 h
  cases a <;> simp only[storeAt,reduceCtorEq]at h'
  ·rename_i i off
   split at h'
   ·cases h';exact⟨_,_,rfl,rfl⟩
   ·split at h'
    ·cases h';exact⟨_,_,rfl,rfl⟩
    ·cases h'
   ·cases h'
   ·cases h'
  ·rename_i i k off sz
   split at h'
   ·cases h';exact⟨_,_,rfl,rfl⟩
   ·cases h'
 ·cases h
theorem ON{hp:List HO}{n:Nat}{o:VO}(hq:o.quiet=false)(ho:o.isStore=false)(ha:o.isAppend=false)(hb:o.bad=false){xs:List SV}{e:Ef}(h:eff hp n o xs=some e):∃ho,e.upd= .new ho:=by
 cases o <;> simp only[VO.quiet,VO.isStore,VO.isAppend,VO.bad,reduceCtorEq]at hq ho ha hb <;> simp only[eff]at h
 ·cases h;exact⟨_,rfl⟩
 ·cases h;exact⟨_,rfl⟩
 ·unfold Mr at h;split at h
  ·cases h;exact⟨_,rfl⟩
  ·cases h
 ·obtain⟨⟨p,cs⟩,h',h⟩:=YE.1 h
  cases h;exact⟨_,rfl⟩
 ·unfold Mt at h;split at h
  ·cases h;exact⟨_,rfl⟩
  ·cases h
 all_goals cases h
theorem MI(s:S):∀(xs:List X),Xg (s.args xs)=s.x (Xh xs)
 | []=>rfl
 |_::_=>rfl
theorem Iu(gb:Bool):∀(xs:List SV),Xg (GS gb xs).2=FI (Xg xs)
 | []=>rfl
 |x::_=>by cases x <;> rfl
theorem Iw(o:VO)(gb:Bool)(xs:List SV):Xg (Qh o gb xs).2=FI (Xg xs):=by
 unfold Qh A9
 split
 ·exact Iu gb xs
 ·split
  ·rename_i x y
   cases x <;> rfl
  ·exact Iu gb _
theorem YgX{v:VOp}{s:S}{k:Nat}{ho:HO}(hq:v.op.quiet=true)(h:v.op.readsHp=true->∀b,blk (FI (s.x (Xh v.xs)))=some b->b≠k):JU v (s.upd (.set k ho))=JU v s:=by
 have key:∀xs:List SV,(v.op.readsHp=true->∀b,blk (Xg xs)=some b->b≠k)->eff (s.upd (.set k ho)).hp (Yi (s.upd (.set k ho)).hp) v.op xs=eff s.hp (Yi s.hp) v.op xs:=by
  intro xs hx
  cases hr:v.op.readsHp with
  |false=>exact Et hq hr xs
  |true=>exact Tx hq fun b hb=>WV _ _ _ _ (fun e=>hx hr b hb e.symm)
 have hfr:(s.upd (.set k ho)).fr=s.fr:=rfl
 have ha:(s.upd (.set k ho)).args v.xs=s.args v.xs:=CK hfr _
 unfold JU
 cases hg:v.g with
 |none=>
  simp only[ha]
  rw[key]
  intro hr b hb
  refine h hr b ?_
  rw[MI]at hb
  cases hx:s.x (Xh v.xs) <;> rw[hx]at hb <;> first|exact hb|cases hb
 |some gp=>
  obtain⟨g,pol⟩:=gp
  simp only[ha,hfr]
  cases XK (Kr s.fr g) pol with
  |none=>rfl
  |some gb=>
   simp only
   rw[key]
   intro hr b hb
   refine h hr b ?_
   rw[Iw,MI]at hb
   exact hb
theorem Fu{b:Nat}{v:SV}(h:Ku b v=false):Wi b v=v:=by unfold Wi;rw[h];rfl
theorem YaP{b:Nat}:∀{l:List SV},Vy b l=false->YU b l=l
 | [],_=>rfl
 |x::l,h=>by
  simp only[Vy,K5]at h
  simp only[YU,Fu h.1,YaP h.2]
theorem Aq(b:Nat):∀(n:Nat)(l:List SV),YF n (YU b l)=YU b (YF n l)
 |0,_=>rfl
 |_+1,[]=>rfl
 |n+1,_::l=>Aq b n l
theorem Ph(b:Nat):∀(n:Nat)(l:List SV),YP n (YU b l)=YU b (YP n l)
 |0,_=>rfl
 |_+1,[]=>rfl
 |n+1,x::l=>congrArg (Wi b x::·) (Ph b n l)
theorem Ar(b:Nat):∀(l:List SV),YK (YU b l)=YK l
 | []=>rfl
 |_::l=>congrArg (·+1) (Ar b l)
theorem YaO(b:Nat):∀(l r:List SV),YU b (l++r)=YU b l++YU b r
 | [],_=>rfl
 |x::l,r=>congrArg (Wi b x::·) (YaO b l r)
theorem TT(b:Nat)(get:Nat->List SV):∀(n k:Nat),WA n k (fun j=>YU b (get j))=YU b (WA n k get)
 |0,_=>rfl
 |n+1,k=>by simp only[WA,YaO,TT b get n (k+1)]
theorem Yf2{hp hp':List HO}{b:Nat}(hg:∀i,i≠b->Ys hp' i=UM b (Ys hp i)){x:SV}(hx:Ku b x=false){p:Prop}{cs:List SV}(h:ZL hp x=some (p,cs)):∃cs',ZL hp' x=some (p,cs')/\(cs'=cs\/cs'=YU b cs):=by
 cases x <;> simp only[ZL,reduceCtorEq]at h⊢
 case xp t c=>exact⟨cs,h,.inl rfl⟩
 case ptr i off=>
  have hne:i≠b:=by rintro rfl;simp [Ku]at hx
  rw[hg i hne]
  cases hh:Ys hp i with
  |gone=>rw[hh]at h;cases h
  |smap l=>rw[hh]at h;cases h
  |box c=>
   rw[hh]at h;cases h
   exact⟨_,rfl,.inr (Aq b off c)⟩
  |own z sz n get=>
   rw[hh]at h
   simp only at h
   cases off with
   |zero=>
    cases h
    exact⟨_,rfl,.inr (TT b get n 0)⟩
   |succ k=>cases h
 case elem i k off sz=>
  have hne:i≠b:=by rintro rfl;simp [Ku]at hx
  rw[hg i hne]
  cases hh:Ys hp i with
  |gone=>rw[hh]at h;cases h
  |smap l=>rw[hh]at h;cases h
  |box c=>rw[hh]at h;cases h
  |own z sz' n get=>
   rw[hh]at h;cases h
   exact⟨_,rfl,.inr (Aq b off (get k))⟩
theorem YjJ{b:Nat}{agg:Bool}{l:List SV}(h:Ku b (W4 agg l)=false):W4 agg (YU b l)=W4 agg l:=by
 cases agg with
 |true=>simp only[W4,Ku]at h⊢;rw[YaP h]
 |false=>
  rcases l with _| ⟨x,_| ⟨y,l⟩⟩
  ·rfl
  ·simp only[W4,YU]at h⊢;exact Fu h
  ·rfl
theorem Tz{hp hp':List HO}{n n' b:Nat}(hg:∀i,i≠b->Ys hp' i=UM b (Ys hp i)){o:VO}(hq:o.quiet=true){xs:List SV}(hx:Ku b (Xg xs)=false){e:Ef}(hr:Ku b e.val=false)(h:eff hp n o xs=some e):eff hp' n' o xs=some e:=by
 cases hrd:o.readsHp with
 |false=>rw[Et hq hrd xs (hp:=hp) (n:=n)];exact h
 |true=>
  cases o <;> simp only[VO.readsHp,reduceCtorEq]at hrd
  case load agg size=>
   simp only[eff,V2]at h⊢
   split at h
   ·rename_i a
    obtain⟨⟨p,cs⟩,hc,h⟩:=YE.1 h
    obtain⟨cs',hc',hor⟩:=Yf2 hg hx hc
    have hc':ZL hp' a=some (p,cs'):=hc'
    simp only[hc',Option.bind_some]
    cases h
    rcases hor with rfl|rfl
    ·rfl
    ·simp only[Kc,Ar,Ph,YjJ hr]
   ·cases h
  case idxArr m size=>
   simp only[eff,Vk]at h⊢
   split at h
   ·rename_i j k i
    have hne:j≠b:=by rintro rfl;simp [Xg,Ku]at hx
    rw[hg j hne]
    cases hh:Ys hp j with
    |gone=>rw[hh]at h;cases h
    |smap l=>rw[hh]at h;cases h
    |box c=>rw[hh]at h;exact h
    |own z sz' n get=>rw[hh]at h;exact h
   ·rename_i j o k i
    have hne:j≠b:=by rintro rfl;simp [Xg,Ku]at hx
    rw[hg j hne]
    cases hh:Ys hp j with
    |gone=>rw[hh]at h;cases h
    |smap l=>rw[hh]at h;cases h
    |box c=>rw[hh]at h;exact h
    |own z sz' n get=>rw[hh]at h;cases h
   ·exact h
   ·cases h
  case sliceArr m size lo hi=>
   simp only[eff]at h⊢
   unfold Hf at h⊢
   split at h
   ·rename_i j
    have hne:j≠b:=by rintro rfl;simp [Xg,Ku]at hx
    rw[hg j hne]
    cases hh:Ys hp j with
    |gone=>rw[hh]at h;cases h
    |smap l=>rw[hh]at h;cases h
    |box c=>rw[hh]at h;cases h
    |own z sz' n get=>rw[hh]at h;exact h
   ·cases h
  case isNil neg=>
   simp only[eff]at h⊢
   unfold He at h⊢
   split at h
   ·rename_i x
    split at h <;> try exact h
    rename_i i _ _ _
    have hne:i≠b:=by rintro rfl;simp [Xg,Ku]at hx
    rw[hg i hne]
    cases hh:Ys hp i with
    |gone=>rw[hh]at h;cases h
    |smap l=>rw[hh]at h;cases h
    |box c=>rw[hh]at h;cases h
    |own z sz' n get=>rw[hh]at h;exact h
   ·cases h
theorem Sb{hp:List HO}{n:Nat}{o:VO}(ha:o.isAppend=true){xs:List SV}{e:Ef}(h:eff hp n o xs=some e):(∃ho,e.upd= .new ho)\/∃b ho,e.upd= .app b ho/\blk (Xg xs)=some b:=by
 cases o <;> simp only[VO.isAppend,reduceCtorEq]at ha
 simp only[eff,Vj]at h
 split at h
 ·rename_i a x
  split at h
  ·obtain⟨⟨m,gx⟩,_,h⟩:=YE.1 h
   cases h;exact .inl ⟨_,rfl⟩
  ·split at h
   ·obtain⟨⟨m,gx⟩,_,rfl⟩:=YQ.1 h
    exact .inr ⟨_,_,rfl,rfl⟩
   ·cases h
  ·obtain⟨⟨k,gy⟩,_,h⟩:=YE.1 h
   obtain⟨⟨m,gx⟩,_,h⟩:=YE.1 h
   cases h;exact .inl ⟨_,rfl⟩
  ·cases h
 ·cases h
theorem Il(b:Nat):∀(l:List SV)(n:Nat),Kr (YU b l) n=Wi b (Kr l n)
 | [],_=>rfl
 |_::_,0=>rfl
 |_::l,n+1=>Il b l n
theorem As(b:Nat):∀(l:List SV)(n:Nat)(x:SV),YU b (Kq l n x)=Kq (YU b l) n (Wi b x)
 | [],_,_=>rfl
 |_::_,0,_=>rfl
 |y::l,n+1,x=>congrArg (Wi b y::·) (As b l n x)
theorem By:∀(l:List SV)(n:Nat)(x:SV),n<YK l->Kr (Kq l n x) n=x
 |_::_,0,_,_=>rfl
 |_::l,n+1,x,h=>By l n x (by simpa [YK]using h)
theorem NF:∀(l:List SV)(n:Nat)(x:SV),YK l<=n->Kq l n x=l
 | [],_,_,_=>rfl
 |_::l,0,_,h=>by simp [YK]at h
 |y::l,n+1,x,h=>congrArg (y::·) (NF l n x (by simpa [YK]using h))
theorem Yfb{s:S}{d:Option Nat}{x:SV}{b:Nat}{ho:HO}(h:∀n,d=some n->Ku b (Kr (s.put d x).fr n)=false):(s.put d x).upd (.app b ho)=(s.upd (.app b ho)).put d x:=by
 cases d with
 |none=>rfl
 |some n=>
  have h:=h n rfl
  simp only[S.put,S.upd]at h⊢
  rw[As]
  rcases YY n (YK s.fr)with hn|hn
  ·rw[By _ _ _ hn]at h
   rw[Fu h]
  ·rw[NF _ _ _ (by rw[Ar];exact hn),NF _ _ _ (by rw[Ar];exact hn)]
theorem YdD{s:S}{b:Nat}{ho:HO}{y:X}(h:Ku b (s.x y)=false):(s.upd (.app b ho)).x y=s.x y:=by
 cases y with
 |cn v=>rfl
 |tm n=>
  show Kr (YU b s.fr) n=Kr s.fr n
  rw[Il];exact Fu h
theorem Sd{s:S}{b:Nat}{ho:HO}:∀{xs:List X},(∀y∈xs,Ku b (s.x y)=false)->(s.upd (.app b ho)).args xs=s.args xs
 | [],_=>rfl
 |y::l,h=>by
  simp only[S.args]
  rw[YdD (h y KR),Sd fun z hz=>h z (KX _ hz)]
theorem Ym2{b:Nat}{x:SV}:Ku b (FI x)=Ku b x:=by cases x <;> rfl
theorem YgV{v:VOp}{s:S}{b:Nat}{ho:HO}(hq:v.op.quiet=true)(hxs:∀y∈v.xs,Ku b (s.x y)=false)(hgd:∀g pol,v.g=some (g,pol)->Ku b (Kr s.fr g)=false){r:Prop×SV}(hr:Ku b r.2=false)(h:JU v s=some r):JU v (s.upd (.app b ho))=some r:=by
 have hgg:∀i,i≠b->Ys (s.upd (.app b ho)).hp i=UM b (Ys s.hp i):=by
  intro i hi
  show Ys (KL (Xl b s.hp) b ho) i=_
  rw[WV _ _ _ _ hi.symm,Bx]
 have ha:(s.upd (.app b ho)).args v.xs=s.args v.xs:=Sd hxs
 have hh:Ku b (Xg (s.args v.xs))=false:=by
  rw[MI]
  cases hx:v.xs with
  |nil=>rfl
  |cons y l=>exact hxs y (by rw[hx];exact KR)
 unfold JU at h⊢
 cases hg:v.g with
 |none=>
  rw[hg]at h
  simp only at h⊢
  rw[ha]
  cases he:eff s.hp (Yi s.hp) v.op (s.args v.xs)with
  |none=>rw[he]at h;cases h
  |some e=>
   rw[he]at h
   obtain⟨p,x,u⟩:=e
   cases u <;> cases h
   rw[Tz hgg hq hh (e:=⟨p,x,.no⟩) hr he]
 |some gp=>
  obtain⟨g,pol⟩:=gp
  rw[hg]at h
  simp only at h⊢
  have hgv:Kr (s.upd (.app b ho)).fr g=Kr s.fr g:=YdD (y:= .tm g) (hgd g pol hg)
  rw[ha,hgv]
  cases hgb:XK (Kr s.fr g) pol with
  |none=>rw[hgb]at h;cases h
  |some gb=>
   rw[hgb]at h
   simp only at h⊢
   cases he:eff s.hp (Yi s.hp) v.op (Qh v.op gb (s.args v.xs)).2 with
   |none=>rw[he]at h;cases h
   |some e=>
    rw[he]at h
    obtain⟨p,x,u⟩:=e
    cases u <;> cases h
    rw[Tz hgg hq (by rw[Iw,Ym2];exact hh) (e:=⟨p,x,.no⟩) (by simpa [Ku]using hr) he]
end Go.Vx
namespace Go.Vx
def Dp(ap:Bool)(x y:SV):Prop:=
 match ap with
 |false=>HM x y
 |true=>MY x y
def KF(E:Env)(G:VOp->(S->Prop)->S->Prop)(tab:List DT)(i:Nat)(L:Array Bool)(A:S->Prop)(s:S):Prop:=
 match tab[i]? with
 |some (.silent _)=>A s
 |some (.op v chk)=>(∀c∈chk,L.getD c.1 false=true->Dp v.op.isAppend (s.x c.2) (s.x (Xh v.xs)))/\Ql E v A s
 |some (.loud v)=>Ql E v A s\/G v A s
 |none=>False
theorem HW{d:Option Nat}{l:List Nat}(h:Gd d l=true):∀n,d=some n->n∉l:=by
 rintro n rfl hm
 simp [Gd,hm]at h
theorem YdE{x y:X}(h:xeq x y=true):x=y:=by
 cases x <;> cases y <;> simp only[xeq,XQ]at h
 rw[Jy h]
section
variable {E:Env} {G:VOp->(S->Prop)->S->Prop} {tab:List DT} {ops:Array Oper} {md:Region.Mode} {clo:Nat->Nat->Bool}
theorem Yce(hG:∀v (A B:S->Prop) s,(∀s,A s->B s)->G v A s->G v B s)(j:Nat)(L:Array Bool)(s:S)(A B:S->Prop)(h:∀s,A s->B s)(hs:KF E G tab j L A s):KF E G tab j L B s:=by
 unfold KF at*
 split
 ·rename_i d hd;rw[hd]at hs;exact h _ hs
 ·rename_i v chk hd;rw[hd]at hs;exact⟨hs.1,V0 h hs.2⟩
 ·rename_i v hd;rw[hd]at hs;exact hs.imp (V0 h) (hG v A B s h)
 ·rename_i hd;rw[hd]at hs;exact hs
structure Cn (md:Region.Mode) (ops:Array Oper) (clo:Nat->Nat->Bool):Prop where
 ready:∀(L:Array Bool)(j i:Nat),Down md ops L->j∈Region.ready md ops L->clo j i=true->L.getD i false=true
 listed:∀(L:Array Bool)(j i:Nat),Down md ops L->L.getD j false=true->clo j i=true->L.getD i false=true
theorem Nu{L:Array Bool}{i:Nat}(h:i∈Region.ready md ops L):L.getD i false=false:=by
 have h0:=(mem_ready.1 h).1
 rcases YY i L.size with h'|h'
 ·simp [h']at h0⊢;exact h0
 ·simp [Array.getElem?_eq_none h']
theorem Yhq{L:Array Bool}{i j:Nat}(h:L.getD j false=true):(L.setIfInBounds i true).getD j false=true:=getD_set_true h
theorem Ybk{b:Nat}{x:SV}(h:Ed x=true):Ku b x=false:=by cases x <;> first|rfl|cases h
theorem ER:∀(l:List SV)(n:Nat),YK l<=n->Kr l n= .junk
 | [],_,_=>rfl
 |_::_,0,h=>by simp [YK]at h
 |_::l,n+1,h=>ER l n (by simpa [YK]using h)
theorem Ow{n:Nat}:∀{l:List X},.tm n∈l->n∈KA l
 |x::l,h=>by
  rcases Kz.1 h with rfl|h
  ·simp [KA,X.slot]
  ·simp [KA,Ow h]
theorem E1{i:Nat}{chk:List (Nat×X)}{x:X}(h:Is i chk x=true):(i,x)∈chk:=by
 obtain⟨c,hc,h⟩:=List.any_eq_true.1 h
 simp only[YS]at h
 have h1:=Jy h.1
 have h2:=YdE h.2
 rw[<-h1,<-h2];exact hc
theorem YgW{v u:VOp}{s:S}(hv:v.op.quiet=true){r:Prop×SV}
 (hap:u.op.isAppend=true->∀b,blk (s.x (Xh u.xs))=some b->(∀y∈v.xs,Ku b (s.x y)=false)/\(∀g pol,v.g=some (g,pol)->Ku b (Kr s.fr g)=false)/\Ku b r.2=false)
 (hst:u.op.isStore=true->v.op.readsHp=true->HM (s.x (Xh v.xs)) (s.x (Xh u.xs))){e:Ef}
 (hq:u.op.quiet=false)(hbad:u.op.bad=false)(he:eff s.hp (Yi s.hp) u.op (s.args u.xs)=some e)(hf:JU v s=some r):(s.put v.dst r.2).upd e.upd=(s.upd e.upd).put v.dst r.2/\JU v (s.upd e.upd)=some r:=by
 cases hs:u.op.isStore with
 |true=>
  obtain⟨k,ho,h1,h2⟩:=Ycg hs he
  rw[h1]
  refine⟨Rd trivial,?_⟩
  rw[YgX hv]
  ·exact hf
  ·intro hr b hb hbk
   subst hbk
   have:=hst hs hr
   rw[MI]at h2
   simp [HM,CG,hb,h2]at this
 |false=>
  cases ha:u.op.isAppend with
  |false=>
   obtain⟨ho,h1⟩:=ON hq hs ha hbad he
   rw[h1]
   exact⟨Rd trivial,Bi (s:=s) hv rfl (In _ _) hf⟩
  |true=>
   rcases Sb ha he with⟨ho,h1⟩ | ⟨b,ho,h1,h2⟩
   ·rw[h1]
    exact⟨Rd trivial,Bi (s:=s) hv rfl (In _ _) hf⟩
   ·rw[h1]
    rw[MI]at h2
    obtain⟨k1,k2,k3⟩:=hap ha b h2
    refine⟨Yfb fun n hn=>?_,YgV hv k1 k2 k3 hf⟩
    rcases YY n (YK s.fr)with hl|hl
    ·rw[hn];simp only[S.put];rw[By _ _ _ hl];exact k3
    ·rw[hn];simp only[S.put];rw[NF _ _ _ hl,ER _ _ hl];rfl
theorem Yoh(hc:Cn md ops clo){i:Nat}{v:VOp}(hi:tab[i]? =some (.op v []))(hv:v.op.quiet=true)(hcomm:∀(j:Nat) (t:DT),tab[j]? =some t->Me clo i v j t=true)
 (j:Nat)(L:Array Bool)(s:S)(A:S->Prop)(hd:Down md ops L)(hri:i∈Region.ready md ops L)(hrj:j∈Region.ready md ops L)(hji:j≠i)
 (h:KF E G tab i L (KF E G tab j (L.setIfInBounds i true) A) s):KF E G tab j L (KF E G tab i (L.setIfInBounds j true) A) s:=by
 have hstepi:∀(L:Array Bool)(A:S->Prop)(s:S),KF E G tab i L A s↔Ql E v A s:=by
  intro L A s
  unfold KF
  rw[hi]
  exact⟨fun h=>h.2,fun h=>⟨fun c hc=>(by cases hc),h⟩⟩
 rw[hstepi]at h
 have hmono:∀{B C:S->Prop}{t:S},(∀s,B s->C s)->Ql E v B t->Ql E v C t:=fun hbc hh=>V0 hbc hh
 cases ht:tab[j]? with
 |none=>
  have:Ql E v (fun _=>False) s:=hmono (fun s' hs'=>by unfold KF at hs';rw[ht]at hs';exact hs') h
  exact(Tj hv this).elim
 |some t=>
  have hcm:=hcomm j t ht
  unfold Me at hcm
  have e1:YJ i j=false:=by
   cases hb:YJ i j with
   |false=>rfl
   |true=>exact absurd (Jy hb).symm hji
  have e2:clo j i=false:=by
   cases hb:clo j i with
   |false=>rfl
   |true=>have:=hc.ready L j i hd hrj hb;rw[Nu hri]at this;cases this
  have e3:clo i j=false:=by
   cases hb:clo i j with
   |false=>rfl
   |true=>have:=hc.ready L i j hd hri hb;rw[Nu hrj]at this;cases this
  rw[e1,e2,e3]at hcm
  simp only[Bool.false_or]at hcm
  cases t with
  |silent d=>
   have hsj:∀(L:Array Bool)(A:S->Prop)(s:S),KF E G tab j L A s=A s:=by
    intro L A s;unfold KF;rw[ht]
   rw[hsj,hstepi]
   exact hmono (fun s' hs'=>by rw[hsj]at hs';exact hs') h
  |loud u=>simp at hcm
  |op u chk=>
   simp only[YS,Qj,ZY,VJ]at hcm
   obtain⟨⟨⟨⟨⟨c1,c2⟩,c3⟩,c4⟩,c5⟩,c6⟩:=hcm
   have hsj:∀(L:Array Bool)(A:S->Prop)(s:S),KF E G tab j L A s=((∀c∈chk,L.getD c.1 false=true->Dp u.op.isAppend (s.x c.2) (s.x (Xh u.xs)))/\Ql E u A s):=by
    intro L A s;unfold KF;rw[ht]
   have d1:=HW c1
   have d3:=HW c3
   have d2:∀n,v.dst=some n->u.dst≠some n:=fun n hn hu=>HW c2 n hn (by simp [hu])
   rw[hsj]
   unfold Ql at h
   rw[hv]at h
   simp only[Ht]at h
   cases hf:JU v s with
   |none=>rw[hf]at h;exact h.elim
   |some r=>
    obtain⟨p,x⟩:=r
    rw[hf]at h
    obtain⟨hp,h⟩:=h
    rw[hsj]at h
    obtain⟨hchk,h⟩:=h
    have htgt:(s.put v.dst x).x (Xh u.xs)=s.x (Xh u.xs):=by
     refine FU fun n hn hm=>d1 n hn ?_
     cases hx:u.xs with
     |nil=>rw[hx]at hm;simp [Xh,X.slot]at hm
     |cons y l=>rw[hx]at hm;simp only[VOp.reads,hx,KA,Ky];exact .inl (.inl hm)
    refine⟨fun c hcm hcl=>?_,?_⟩
    ·have:=hchk c hcm (Yhq hcl)
     rw[htgt]at this
     rcases c5 c hcm with(hh|hh) |hh
     ·rw[FU (HW hh)]at this;exact this
     ·have:=hc.listed L c.1 i hd hcl hh
      rw[Nu hri]at this;cases this
     ·rw[Jy hh,Nu hri]at hcl;cases hcl
    ·have hlt:i<L.size:=by
      obtain⟨_,o,ho,_⟩:=mem_ready.1 hri
      rw[hd.1];exact(Xr.1 ho).1
     have hli:(L.setIfInBounds i true).getD i false=true:=by simp [hlt]
     refine V0 (fun s' hs'=>?_) (Ygp hv d1 d2 d3 (fun e hq hbad hcl he=>YgW (r:=(p,x)) hv (fun hap b hb=>?_) (fun hst hrd=>?_) hq hbad he hf) hf h)
     ·rw[hstepi]
      unfold Ql
      rw[hv]
      simp only[Ht]
      rw[hs'.1]
      exact⟨hp,hs'.2⟩
     ·rcases c4 with c4|c4
      ·rw[hap]at c4;cases c4
      simp only[R7,YS,VJ]at c4
      obtain⟨⟨⟨e1,e2⟩,e3⟩,e4⟩:=c4
      have dv:=HW e1
      have at1:∀y:X,(i,y)∈chk->Ku b ((s.put v.dst x).x y)=false/\P2 ((s.put v.dst x).x y)=true:=by
       intro y hy
       have:=hchk (i,y) hy hli
       rw[hap,htgt]at this
       simp only[Dp,MY,LC,hb]at this
       exact this
      refine⟨fun y hy=>?_,fun g pol hg=>?_,?_⟩
      ·have h1:=e2 y hy
       cases y with
       |cn c=>exact Ybk h1
       |tm n=>
        have h2:=(at1 _ (E1 h1)).1
        rwa [FU (fun m hm hmm=>dv m hm (by
         simp only[X.slot,Jj]at hmm
         subst hmm
         simp only[VOp.reads,Ky]
         exact .inl (Ow hy)))]at h2
      ·rw[hg]at e3
       have h2:=(at1 _ (E1 e3)).1
       rwa [FU (fun m hm hmm=>dv m hm (by
        simp only[X.slot,Jj]at hmm
        subst hmm
        simp [VOp.reads,hg]))]at h2
      ·cases hdst:v.dst with
       |none=>rw[hdst]at e4;cases e4
       |some d=>
        rw[hdst]at e4
        obtain⟨h1,h2⟩:=at1 _ (E1 e4)
        rw[hdst]at h1 h2
        simp only[S.x,S.put]at h1 h2
        rcases YY d (YK s.fr)with hl|hl
        ·rw[By _ _ _ hl]at h1;exact h1
        ·rw[ER _ _ (by rw[NF _ _ _ hl];exact hl)]at h2;cases h2
     ·rcases c6 with(h6|h6) |h6
      ·rw[hst]at h6;cases h6
      ·rw[hrd]at h6;cases h6
      ·obtain⟨c,hcm,hcb⟩:=List.any_eq_true.1 h6.2
       simp only[YS]at hcb
       have hci:=Jy hcb.1
       have hcx:=YdE hcb.2
       have:=hchk c hcm (by rw[hci];exact hli)
       have hna:u.op.isAppend=false:=by cases hu:u.op <;> rw[hu]at hst <;> first|rfl|cases hst
       rw[htgt,hcx,FU (HW h6.1),hna]at this
       exact this
end
end Go.Vx
namespace Go.Vx
section
variable {md:Region.Mode} {ops:Array Oper}
theorem Ycp{i k:Nat}:(2^i).testBit k=decide (i=k):=Nat.testBit_two_pow
theorem maskL_spec{i:Nat}:∀{l:List Edge},(Gy md l).testBit i=true↔∃e∈l,Region.binds md e=true/\e.on=i
 | []=>by simp [Gy]
 |e::l=>by
  unfold Gy
  cases hb:Region.binds md e with
  |false=>simp [maskL_spec (l:=l),hb]
  |true=>simp [maskL_spec (l:=l),hb,Nat.testBit_or,Ycp]
theorem DB{i:Nat}{o:Oper}(h:ops[i]? =some o):(Je md ops).getD i 0=Gy md o.after.toList:=by
 simp [Je,h]
theorem LZ{cl:List Nat}{m i:Nat}:∀{j:Nat},(GE cl m j).testBit i=true->∃k,k<j/\m.testBit k=true/\(cl.getD k 0).testBit i=true
 |0,h=>by simp [GE]at h
 |j+1,h=>by
  unfold GE at h
  cases hb:m.testBit j with
  |false=>
   rw[hb]at h
   obtain⟨k,h1,h2⟩:=LZ (j:=j) h
   exact⟨k,by omega,h2⟩
  |true=>
   rw[hb]at h
   simp only[cond_true,Nat.testBit_or,Qj]at h
   rcases h with h|h
   ·exact⟨j,by omega,hb,h⟩
   ·obtain⟨k,h1,h2⟩:=LZ (j:=j) h
    exact⟨k,by omega,h2⟩
theorem SX{dm cl:List Nat}:∀{n:Nat},Ga dm cl n=true->∀j,j<n->cl.getD j 0=dm.getD j 0||| GE cl (dm.getD j 0) j
 |n+1,h,j,hj=>by
  simp only[Ga,YS]at h
  rcases YY j n with h'|h'
  ·exact SX h.2 j h'
  ·obtain rfl:j=n:=by omega
   exact Jy h.1
theorem Yf5{cl:List Nat}(hl:cl.length=ops.size)(h:Ga (Je md ops) cl ops.size=true):Cn md ops (Jn cl):=by
 have small:∀(j i:Nat),Jn cl j i=true->j<ops.size:=by
  intro j i hc
  rcases YY j ops.size with h'|h'
  ·exact h'
  ·simp [Jn,Kh,List.getElem?_eq_none (show cl.length<=j by omega)]at hc
 have main:∀(L:Array Bool),Down md ops L->∀(N j i:Nat),j<N->(∀(o:Oper),ops[j]? =some o->∀e∈o.after,Region.binds md e=true->L.getD e.on false=true)->Jn cl j i=true->L.getD i false=true:=by
  intro L hd N
  induction N with
  |zero=>intro j i hj;omega
  |succ N ih=>
   intro j i hj hs hc
   have hjn:=small j i hc
   have ho:ops[j]? =some ops[j]:=Array.getElem?_eq_getElem hjn
   unfold Jn at hc
   rw[SX h j hjn,Nat.testBit_or,Qj]at hc
   have hdir:∀k,((Je md ops).getD j 0).testBit k=true->L.getD k false=true:=by
    intro k hk
    rw[DB ho]at hk
    obtain⟨e,he,hb,rfl⟩:=maskL_spec.1 hk
    exact hs _ ho e (by simpa using he) hb
   rcases hc with hc|hc
   ·exact hdir i hc
   ·obtain⟨k,h1,h2,h3⟩:=LZ hc
    exact ih k i (by omega) (fun o hok e he hb=>hd.2 k o hok (hdir k h2) e he hb) h3
 refine⟨fun L j i hd hr hc=>?_,fun L j i hd hl hc=>?_⟩
 ·obtain⟨_,o,ho,hall⟩:=mem_ready.1 hr
  exact main L hd (j+1) j i (by omega) (fun o' ho' e he hb=>by rw[ho]at ho';cases ho';exact hall e he hb) hc
 ·exact main L hd (j+1) j i (by omega) (fun o ho e he hb=>hd.2 j o ho hl e he hb) hc
def HE(ops:Array Oper)(L:Array Bool)(m:Nat):Prop:=L.size=ops.size/\∀i,L.getD i false=m.testBit i
theorem and_eq_left{a m:Nat}:(a&&&m)=a↔∀k,a.testBit k=true->m.testBit k=true:=by
 constructor
 ·intro h k hk
  have:(a&&&m).testBit k=true:=by rw[h];exact hk
  rw[Nat.testBit_and,YS]at this
  exact this.2
 ·intro h
  apply Nat.eq_of_testBit_eq
  intro k
  rw[Nat.testBit_and]
  cases hk:a.testBit k with
  |false=>rfl
  |true=>rw[h k hk];rfl
theorem GM{L:Array Bool}{m i:Nat}(hc:HE ops L m):i∈Region.ready md ops L↔i<ops.size/\X4 (Je md ops) m i=true:=by
 rw[mem_ready]
 constructor
 ·rintro⟨h0,o,ho,hall⟩
  have hi:i<ops.size:=(Xr.1 ho).1
  refine⟨hi,?_⟩
  simp only[X4,YS,ZY]
  have hL:i<L.size:=by rw[hc.1];exact hi
  refine⟨?_,?_⟩
  ·rw[<-hc.2 i];simp [hL]at h0⊢;exact h0
  ·rw[DB ho]
   rw[and_eq_left.2 (fun k hk=>?_)]
   ·exact Nat.beq_refl _
   ·obtain⟨e,he,hb,rfl⟩:=maskL_spec.1 hk
    rw[<-hc.2];exact hall e (by simpa using he) hb
 ·rintro⟨hi,hr⟩
  simp only[X4,YS,ZY]at hr
  have ho:ops[i]? =some ops[i]:=Array.getElem?_eq_getElem hi
  have hL:i<L.size:=by rw[hc.1];exact hi
  refine⟨?_,_,ho,fun e he hb=>?_⟩
  ·have:=hr.1
   rw[<-hc.2 i]at this
   simp [hL]at this⊢;exact this
  ·have:=and_eq_left.1 (Jy hr.2)
   rw[hc.2]
   refine this e.on ?_
   rw[DB ho]
   exact maskL_spec.2 ⟨e,by simpa using he,hb,rfl⟩
theorem S4{L:Array Bool}{m i:Nat}(hc:HE ops L m)(hi:i<ops.size):HE ops (L.setIfInBounds i true) (m||| 2^i):=by
 refine⟨by simp [hc.1],fun k=>?_⟩
 rw[Nat.testBit_or,Ycp]
 by_cases h:i=k
 ·subst h
  simp [hc.1,hi]
 ·rw[getD_set_ne false h,hc.2];simp [h]
theorem LJ{dm:List Nat}{m:Nat}:∀{n:Nat},M2 dm m n=true->∀k,k<n->X4 dm m k=false
 |n+1,h,k,hk=>by
  simp only[M2,YS,ZY]at h
  rcases YY k n with h'|h'
  ·exact LJ h.2 k h'
  ·obtain rfl:k=n:=by omega
   exact h.1
theorem LY{dm:List Nat}{m i:Nat}:∀{n:Nat},M4 dm m i n=true->∀k,k<n->X4 dm m k=true->k=i
 |n+1,h,k,hk,hr=>by
  simp only[M4,YS,Qj,ZY]at h
  rcases YY k n with h'|h'
  ·exact LY h.2 k h' hr
  ·obtain rfl:k=n:=by omega
   rcases h.1 with h1|h1
   ·exact Jy h1
   ·rw[hr]at h1;cases h1
def AJ{σ:Type}(step:Nat->Array Bool->(σ->Prop)->σ->Prop)(K:σ->Prop):List Nat->Array Bool->σ->Prop
 | [],_,s=>K s
 |i::l,L,s=>step i L (AJ step K l (L.setIfInBounds i true)) s
theorem YbJ{σ:Type}{step:Nat->Array Bool->(σ->Prop)->σ->Prop}{K:σ->Prop}{free:Nat->Bool}
 (mono:∀(j:Nat) (L:Array Bool) (s:σ) (A B:σ->Prop),(∀s,A s->B s)->step j L A s->step j L B s)
 (strict:∀i L s,free i=true->¬step i L (fun _=>False) s)
 (exch:∀(i:Nat),free i=true->∀(j:Nat) (L:Array Bool) (s:σ) (A:σ->Prop),Down md ops L->i∈Region.ready md ops L->j∈Region.ready md ops L->j≠i->step i L (step j (L.setIfInBounds i true) A) s->step j L (step i (L.setIfInBounds j true) A) s):
 ∀(l:List Nat)(m:Nat)(L:Array Bool)(s:σ),FF free (Je md ops) ops.size l m=true->HE ops L m->Down md ops L->AJ step K l L s->WN step K md ops l.length L s
 | [],m,L,s,hb,hc,hd,h=>by
   refine⟨?_,h⟩
   cases hr:Region.ready md ops L with
   |nil=>rfl
   |cons x r=>
    have hx:x∈Region.ready md ops L:=by rw[hr];exact KR
    have:=(GM hc).1 hx
    rw[LJ hb x this.1]at this
    exact absurd this.2 (by simp)
 |i::l,m,L,s,hb,hc,hd,h=>by
  simp only[FF,YS,Qj]at hb
  obtain⟨⟨⟨h1,h2⟩,h3⟩,h4⟩:=hb
  have hin:i<ops.size:=by have:=KC h1;omega
  have hri:i∈Region.ready md ops L:=(GM hc).2 ⟨hin,h2⟩
  have hrest:=mono i L s _ _ (fun s' hs'=>YbJ mono strict exch l _ _ s' h4 (S4 hc hin) (hd.set hri) hs') h
  rcases h3 with h3|h3
  ·exact R6 mono (fun L s=>strict i L s h3) (exch i h3) _ L s hd hri hrest
  ·refine⟨fun h0=>(by rw[h0]at hri;cases hri),fun j hj=>?_⟩
   obtain⟨hjn,hrj⟩:=(GM hc).1 hj
   obtain rfl:=LY h3 j hjn hrj
   exact hrest
def FL{σ:Type}(step:Nat->Array Bool->(σ->Prop)->σ->Prop)(K:σ->Prop):OT->Array Bool->σ->Prop
 | .nil,_,s=>K s
 | .op i t,L,s=>step i L (FL step K t (L.setIfInBounds i true)) s
 | .br a b,L,s=>FL step K a L s/\FL step K b L s
theorem S5{dm:List Nat}{m:Nat}{hs:List Nat}:∀{n:Nat},Dw dm m hs n=true->∀k,k<n->X4 dm m k=true->k∈hs
 |n+1,h,k,hk,hr=>by
  simp only[Dw,YS,Qj,ZY]at h
  rcases YY k n with h'|h'
  ·exact S5 h.2 k h' hr
  ·obtain rfl:k=n:=by omega
   rcases h.1 with h1|h1
   ·exact List.contains_iff_mem.1 h1
   ·rw[hr]at h1;cases h1
theorem E2{free:Nat->Bool}{dm:List Nat}{n:Nat}:∀{t:OT}{m:Nat}{ex:Bool},QW free dm n t m ex=true->∀i∈t.heads,i<n/\X4 dm m i=true
 | .nil,_,_,_,i,hi=>by cases hi
 | .op j t,m,ex,h,i,hi=>by
   simp only[QW,YS]at h
   obtain rfl:i=j:=by simpa [OT.heads]using hi
   exact⟨by have:=KC h.1.1.1;omega,h.1.1.2⟩
 | .br a b,m,ex,h,i,hi=>by
   simp only[QW,YS]at h
   rcases Ky.1 hi with hi|hi
   ·exact E2 h.1.2 i hi
   ·exact E2 h.2 i hi
theorem Ix{free:Nat->Bool}{dm:List Nat}{n:Nat}:∀{t:OT}{m:Nat},QW free dm n t m true=true->∃i,i∈t.heads
 | .nil,_,h=>by simp [QW]at h
 | .op j t,_,_=>⟨j,by simp [OT.heads]⟩
 | .br a b,m,h=>by
   simp only[QW,YS]at h
   obtain⟨i,hi⟩:=Ix h.1.2
   exact⟨i,List.mem_append_left _ hi⟩
theorem Oe{free:Nat->Bool}{dm:List Nat}{n:Nat}:∀{t:OT}{m:Nat},QW free dm n t m true=true->∃k,t.len=k+1
 | .nil,_,h=>by simp [QW]at h
 | .op j t,_,_=>⟨t.len,rfl⟩
 | .br a b,m,h=>by
   simp only[QW,YS]at h
   show∃k,a.len=k+1
   exact Oe h.1.2
theorem A7{σ:Type}{step:Nat->Array Bool->(σ->Prop)->σ->Prop}{K:σ->Prop}{free:Nat->Bool}
 (mono:∀(j:Nat) (L:Array Bool) (s:σ) (A B:σ->Prop),(∀s,A s->B s)->step j L A s->step j L B s)
 (strict:∀i L s,free i=true->¬step i L (fun _=>False) s)
 (exch:∀(i:Nat),free i=true->∀(j:Nat) (L:Array Bool) (s:σ) (A:σ->Prop),Down md ops L->i∈Region.ready md ops L->j∈Region.ready md ops L->j≠i->step i L (step j (L.setIfInBounds i true) A) s->step j L (step i (L.setIfInBounds j true) A) s):
 ∀(t:OT)(m:Nat)(ex:Bool)(L:Array Bool)(s:σ),QW free (Je md ops) ops.size t m ex=true->HE ops L m->Down md ops L->FL step K t L s->
  (ex=false->WN step K md ops t.len L s)/\∀i∈t.heads,∀k,t.len=k+1->step i L (WN step K md ops k (L.setIfInBounds i true)) s
 | .nil,m,ex,L,s,hb,hc,hd,h=>by
   simp only[QW,YS]at hb
   refine⟨fun _=>⟨?_,h⟩,fun i hi=>by cases hi⟩
   cases hr:Region.ready md ops L with
   |nil=>rfl
   |cons x r=>
    have hx:x∈Region.ready md ops L:=by rw[hr];exact KR
    have:=(GM hc).1 hx
    rw[LJ hb.2 x this.1]at this
    exact absurd this.2 (by simp)
 | .op i t,m,ex,L,s,hb,hc,hd,h=>by
   have hb0:=hb
   simp only[QW,YS,Qj]at hb
   obtain⟨⟨⟨h1,h2⟩,h3⟩,h4⟩:=hb
   have hin:i<ops.size:=by have:=KC h1;omega
   have hri:i∈Region.ready md ops L:=(GM hc).2 ⟨hin,h2⟩
   have hrest:=mono i L s _ _ (fun s' hs'=>(A7 mono strict exch t _ false _ s' h4 (S4 hc hin) (hd.set hri) hs').1 rfl) h
   refine⟨fun hex=>?_,fun j hj k hk=>?_⟩
   ·rcases h3 with(h3|h3) |h3
    ·rw[hex]at h3;cases h3
    ·exact R6 mono (fun L s=>strict i L s h3) (exch i h3) _ L s hd hri hrest
    ·refine⟨fun h0=>(by rw[h0]at hri;cases hri),fun j hj=>?_⟩
     obtain⟨hjn,hrj⟩:=(GM hc).1 hj
     obtain rfl:=LY h3 j hjn hrj
     exact hrest
   ·obtain rfl:j=i:=by simpa [OT.heads]using hj
    obtain rfl:t.len=k:=by simpa [OT.len]using hk
    exact hrest
 | .br a b,m,ex,L,s,hb,hc,hd,h=>by
   have hb0:=hb
   simp only[QW,YS,Qj]at hb
   obtain⟨⟨⟨h1,h2⟩,h3⟩,h4⟩:=hb
   have hl:a.len=b.len:=Jy h2
   have ha:=(A7 mono strict exch a m true L s h3 hc hd h.1).2
   have hb':=(A7 mono strict exch b m true L s h4 hc hd h.2).2
   have hall:∀i∈(OT.br a b).heads,∀k,(OT.br a b).len=k+1->step i L (WN step K md ops k (L.setIfInBounds i true)) s:=by
    intro i hi k hk
    rcases Ky.1 hi with hi|hi
    ·exact ha i hi k hk
    ·exact hb' i hi k (by rw[<-hl];exact hk)
   refine⟨fun hex=>?_,hall⟩
   rcases h1 with h1|h1
   ·rw[hex]at h1;cases h1
   ·obtain⟨k,hk⟩:=Oe h3
    show WN step K md ops a.len L s
    rw[hk]
    refine⟨fun h0=>?_,fun j hj=>?_⟩
    ·obtain⟨i,hi⟩:=Ix h3
     have:=(GM hc).2 (E2 h3 i hi)
     rw[h0]at this;cases this
    ·obtain⟨hjn,hrj⟩:=(GM hc).1 hj
     exact hall j (S5 h1 j hjn hrj) k hk
theorem Er:Down md ops (Ve ops.size false):=by
 refine⟨by simp,fun i o _ h=>?_⟩
 exfalso
 rcases YY i ops.size with h'|h'
 ·simp [h']at h
 ·simp [Array.getElem?_eq_none,h']at h
theorem S3:HE ops (Ve ops.size false) 0:=by
 refine⟨by simp,fun i=>?_⟩
 rcases YY i ops.size with h'|h'
 ·simp [h']
 ·simp [Array.getElem?_eq_none,h']
end
end Go.Vx
namespace Go.Vx
open Go.RowKit
structure KT where
 idx:Nat
 slot:Nat
 cells:AL
def XL:List SV->List KT->List SV
 |fr,[]=>fr
 |fr,p::l=>Kq (XL fr l) p.slot .junk
def K4:List HO->List KT->List HO
 |hp,[]=>hp
 |hp,p::l=>KL (K4 hp l) p.idx .gone
theorem AL.ho_ne(z:AL):z.ho≠ .gone:=by cases z <;> (intro h;cases h)
def er(Pd:List KT)(s:S):S:={ fr:=XL s.fr Pd,saved:=s.saved,hp:=K4 s.hp Pd}
def PR(w0:Cx)(Pd:List KT)(s:S)(a:Act)(sv:List Act)(w:World):Prop:=
 Rl w0 (er Pd s) a sv w/\∀p∈Pd,Ys s.hp p.idx=p.cells.ho/\Kq s.fr p.slot (.ptr p.idx 0)=s.fr
section
variable {Pd:List KT} {hp:List HO} {fr:List SV}
theorem Gr:∀(Pd:List KT),Yi (K4 hp Pd)=Yi hp
 | []=>rfl
 |p::l=>by rw[K4,Hn,Gr l]
theorem ES:∀{Pd:List KT}{n:Nat},(∀p∈Pd,p.slot≠n)->Kr (XL fr Pd) n=Kr fr n
 | [],_,_=>rfl
 |p::l,n,h=>by
  rw[XL,ME _ _ _ _ (h p KR),ES fun q hq=>h q (KX _ hq)]
theorem EP:∀{Pd:List KT}{n:Nat},(∀p∈Pd,p.idx≠n)->Ys (K4 hp Pd) n=Ys hp n
 | [],_,_=>rfl
 |p::l,n,h=>by
  rw[K4,WV _ _ _ _ (h p KR),EP fun q hq=>h q (KX _ hq)]
theorem EO:∀{Pd:List KT}{p:KT},p∈Pd->Ys (K4 hp Pd) p.idx= .gone
 |q::l,p,h=>by
  rw[K4]
  by_cases he:q.idx=p.idx
  ·rw[he]
   rcases YY p.idx (Yi (K4 hp l))with hl|hl
   ·rw[H9 _ _ _ hl]
   ·rw[WU _ _ (by rw[Hn];exact hl)]
  ·rw[WV _ _ _ _ he]
   rcases Kz.1 h with rfl|h
   ·exact absurd rfl he
   ·exact EO h
theorem BH:∀{Pd:List KT}{n:Nat}{x:SV},(∀p∈Pd,p.slot≠n)->XL (Kq fr n x) Pd=Kq (XL fr Pd) n x
 | [],_,_,_=>rfl
 |p::l,n,x,h=>by
  rw[XL,XL,BH (fun q hq=>h q (KX _ hq)),FG _ _ _ _ _ (fun e=>h p KR e.symm)]
theorem PE:∀(l:List HO)(n m:Nat)(x y:HO),n≠m->KL (KL l n x) m y=KL (KL l m y) n x
 | [],_,_,_,_,_=>rfl
 |_::_,0,0,_,_,h=>absurd rfl h
 |_::_,0,_+1,_,_,_=>rfl
 |_::_,_+1,0,_,_,_=>rfl
 |a::l,n+1,m+1,x,y,h=>congrArg (a::·) (PE l n m x y (fun e=>h (by rw[e])))
theorem EW:∀{Pd:List KT}{n:Nat}{x:HO},(∀p∈Pd,p.idx≠n)->K4 (KL hp n x) Pd=KL (K4 hp Pd) n x
 | [],_,_,_=>rfl
 |p::l,n,x,h=>by
  rw[K4,K4,EW (fun q hq=>h q (KX _ hq)),PE _ _ _ _ _ (fun e=>h p KR e.symm)]
theorem YbP:∀(a b:List HO)(n:Nat)(x:HO),n<Yi a->KL (a++b) n x=KL a n x++b
 | [],_,_,_,h=>by simp [Yi]at h
 |_::_,_,0,_,_=>rfl
 |y::a,b,n+1,x,h=>congrArg (y::·) (YbP a b n x (by simpa [Yi]using h))
theorem PM:∀(a:List HO)(x:HO),Qg a x=a++[x]
 | [],_=>rfl
 |y::a,x=>congrArg (y::·) (PM a x)
theorem BB{hs:List HO}:∀{Pd:List KT},(∀p∈Pd,p.idx<Yi hp)->K4 (hp++hs) Pd=K4 hp Pd++hs
 | [],_=>rfl
 |p::l,h=>by
  rw[K4,K4,BB (fun q hq=>h q (KX _ hq)),YbP _ _ _ _ (by rw[Gr];exact h p KR)]
theorem EX{x:HO}(h:∀p∈Pd,p.idx<Yi hp):K4 (Qg hp x) Pd=Qg (K4 hp Pd) x:=by
 rw[PM,PM,BB h]
theorem Ls{w:World}{bs:List BK}{B:Bd}{i:Nat}{x:BK}(hH:Hp w bs B (K4 hp Pd))(hb:bs[i]? =some x)(hx:x≠ .gone):(∀p∈Pd,p.idx≠i)/\Ys (K4 hp Pd) i=Ys hp i:=by
 have:∀p∈Pd,p.idx≠i:=by
  rintro p hp rfl
  have:=hH.ent p.idx
  rw[EO hp]at this
  rcases this with h|h
  ·rw[hb]at h;cases h;exact hx rfl
  ·rw[hb]at h;cases h
 exact⟨this,EP this⟩
theorem hpV{w:World}{bs:List BK}{B:Bd}(hH:Hp w bs B (K4 hp Pd)):HpV w bs B hp:=
 ⟨fun i x hb hx=>by have:=hH.ent i;rw[(Ls hH hb hx).2]at this;exact this,fun _ _ _ _ hb=>hH.le hb,hH.lo,fun _ _ _ _ hb=>hH.un hb⟩
theorem CY{w:World}{bs:List BK}{B:Bd}{b:Nat}:∀{x:SV}{v:Value},Rep w bs B x v->blk x=some b->∃y,bs[b]? =some y/\y≠ .gone
 |_,_,.x _ _ h,hb=>by cases h <;> cases hb
 |_,_,.agg _ _ _,hb=>by cases hb
 |_,_,.tup _ _ _,hb=>by cases hb
 |_,_,.fn _ _ _ _ _ _ _,hb=>by cases hb
 |_,_,.iface _ _ _ _,hb=>by cases hb
 |_,_,.ptr i off b' n h,hb=>by cases hb;exact⟨_,h,by simp⟩
 |_,_,.own i lo n size b' cap m ad h hl ha,hb=>by cases hb;exact⟨_,h,by simp⟩
 |_,_,.ownNil i size h,hb=>by cases hb;exact⟨_,h,by simp⟩
 |_,_,.elem i k off size b' cap m h hk,hb=>by cases hb;exact⟨_,h,by simp⟩
 |_,_,.smp _ _ _,hb=>by cases hb
 |_,_,.optT _ _ _,hb=>by cases hb
 |_,_,.optF _,hb=>by cases hb
 |_,_,.cut _ _ _ _ h,hb=>CY h hb
theorem YhB{w:World}{bs:List BK}{B:Bd}{xs:List SV}{vs:List Value}(h:RepL w bs B xs vs):∃v,Rep w bs B (Xg xs) v:=by
 cases h with
 |nil=>exact⟨undef,.x _ _ (.junk _)⟩
 |cons x v l vs h h'=>exact⟨v,h⟩
theorem BD{w:World}{bs:List BK}{B:Bd}{b:Nat}{xs:List SV}{vs:List Value}(hH:Hp w bs B (K4 hp Pd))(h:RepL w bs B xs vs)(hb:blk (Xg xs)=some b):(∀p∈Pd,p.idx≠b)/\Ys (K4 hp Pd) b=Ys hp b:=by
 obtain⟨v,hv⟩:=YhB h
 obtain⟨y,h1,h2⟩:=CY hv hb
 exact Ls hH h1 h2
theorem Yoo{hp hp':List HO}{n n':Nat}{o:VO}(ho:o.isStore=true){xs:List SV}(h:∀b,blk (Xg xs)=some b->Ys hp' b=Ys hp b):eff hp' n' o xs=eff hp n o xs:=by
 cases o <;> simp only[VO.isStore,reduceCtorEq]at ho
 rename_i size
 rcases xs with _| ⟨a,_| ⟨v,_| ⟨c,l⟩⟩⟩ <;> try rfl
 have key:storeAt hp' size (Z5 v) a=storeAt hp size (Z5 v) a:=by
  cases a <;> try rfl
  case ptr i off=>have:=h i rfl;simp only[storeAt,this]
  case elem i k off sz=>have:=h i rfl;simp only[storeAt,this]
 simp only[eff,H1,key]
theorem YhC{hp hp':List HO}{n:Nat}{o:VO}(hq:o.quiet=false)(ha:o.isAppend=false)(hbad:o.bad=false){xs:List SV}(h:∀b,blk (Xg xs)=some b->Ys hp' b=Ys hp b):eff hp' n o xs=eff hp n o xs:=by
 cases hs:o.isStore with
 |true=>exact Yoo hs h
 |false=>cases o <;> simp only[VO.quiet,VO.isStore,VO.isAppend,VO.bad,reduceCtorEq]at hq hs ha hbad <;> rfl
end
end Go.Vx
namespace Go.Vx
open Go.RowKit
open Go.MapKept (run_setObj_map modify_keys)
section
variable {P:Program} {ρ:Operand->Value} {w w':World} {bs bs':List BK} {B:Bd} {hp:List HO}
def Bd.cx(B:Bd)(w:World):Cx0:={ toWorld:=w,F:=fun b=>B.I b=none,I:=B.I,up:=fun _ _ h=>h,ex:=fun _ h=>h}
def bdZ:Bd:=⟨0,fun _=>True,fun _=>none,fun _ _ _=>trivial,fun _ _=>rfl⟩
theorem Yiw{kk:List IntKind}:∀{l l':List Int},l.length=kk.length->l'.length=kk.length->Jo kk l=Jo kk l'->l=l':=by
 intro l l' h1 h2 h
 simp only[Jo,Value.agg.injEq]at h
 have h:(kk.zip l).map (fun p=>Value.int p.1 p.2)=(kk.zip l').map (fun p=>Value.int p.1 p.2):=by simpa using congrArg Array.toList h
 induction kk generalizing l l' with
 |nil=>cases l <;> cases l' <;> simp at h1 h2⊢
 |cons k kk ih=>
  cases l with
  |nil=>simp at h1
  |cons x l=>
   cases l' with
   |nil=>simp at h2
   |cons y l'=>
    simp only[List.zip_cons_cons,KH,List.cons.injEq,Value.int.injEq,true_and]at h
    rw[h.1,ih (by simpa using h1) (by simpa using h2) (by simp [Jo,h.2]) h.2]
def WW(kk:List IntKind)(l:List Int):List Value:=(kk.zip l).map fun p=> .int p.1 p.2
def Fb(kk:List IntKind)(l:List Int):List SV:=(kk.zip l).map fun p=> .int p.1 p.2
theorem IF{kk:List IntKind}{l:List Int}:RepL w bs B (Fb kk l) (WW kk l):=by
 unfold Fb WW
 induction kk.zip l with
 |nil=>exact .nil
 |cons p r ih=>exact .cons _ _ _ _ (.x _ _ (.int _ _)) ih
theorem IX:∀{fs:List Field}{k:Nat}{kk:List IntKind},Vn P k fs=some kk->Hl P k fs=some (kk.map fun _=>true)
 | [],k,kk,h=>by simp only[Vn,Option.some.injEq]at h;subst h;rfl
 |f::fs,k,kk,h=>by
  simp only[Vn]at h
  split at h
  ·rename_i hc
   split at h
   ·rename_i kd hu
    obtain⟨kk',h1,rfl⟩:=YQ.1 h
    simp only[Hl]
    rw[if_pos hc]
    simp [Gn,hu,IX h1]
   ·cases h
  ·cases h
theorem RS:∀{kk:List IntKind}{l l':List Int},l.length=kk.length->l'.length=kk.length->∃p,Qu (kk.map fun _=>true) (Fb kk l) (Fb kk l')=some (p,decide (l=l'))/\p
 | [],l,l',h1,h2=>by
   cases l <;> cases l' <;> simp at h1 h2
   exact⟨True,by simp [Fb,Qu],trivial⟩
 |k::kk,l,l',h1,h2=>by
  cases l with
  |nil=>simp at h1
  |cons x l=>
   cases l' with
   |nil=>simp at h2
   |cons y l'=>
    obtain⟨p,h3,h4⟩:=RS (kk:=kk) (l:=l) (l':=l') (by simpa using h1) (by simpa using h2)
    refine⟨k=k/\p,?_,rfl,h4⟩
    simp only[Fb,KH,List.zip_cons_cons,Qu]
    have h3':Qu (kk.map fun _=>true) ((kk.zip l).map fun p=> .int p.1 p.2) ((kk.zip l').map fun p=> .int p.1 p.2)=some (p,decide (l=l')):=h3
    rw[h3']
    simp
theorem Ou{t:TypeId}{kk:List IntKind}(h:V9 P t=some kk):∃k e fs,P.underlying t=some (.map k e)/\P.underlying k=some (.struct fs)/\P.stoodInHeld k=false/\Vn P 0 fs.toList=some kk/\(∀w:World,(zeroValue e).run P w= .ok (.int .i64 0) w):=by
 unfold V9 at h
 split at h
 ·rename_i k e hu
  split at h
  ·rename_i fs hk
   split at h
   ·rename_i hc
    simp only[YS,ZY]at hc
    refine⟨k,e,fs,hu,hk,hc.2,h,fun w=>?_⟩
    have hz:=hc.1
    unfold YdG at hz
    split at hz
    ·rename_i i hi
     split at hz
     ·rename_i hz0
      simp [zeroValue,typeInfo,hi,hz0]
     ·cases hz
    ·cases hz
   ·cases h
  ·cases h
 ·cases h
theorem YnA{k:TypeId}{fs:Array Field}{kk:List IntKind}(hk:P.underlying k=some (.struct fs))(hs:P.stoodInHeld k=false)(hi:Vn P 0 fs.toList=some kk){l l':List Int}(h1:l.length=kk.length)(h2:l'.length=kk.length):
 (Op.equal k (Jo kk l) (Jo kk l')).run P w= .ok (decide (l=l')) w:=by
 obtain⟨p,h3,h4⟩:=RS h1 h2
 have hu':P.underlying k=some (.struct (P.fieldsOf k)):=by simp [Program.fieldsOf,hk]
 have hf:(P.fieldsOf k).toList=fs.toList:=by simp [Program.fieldsOf,hk]
 have hrun:=run_equalIn_struct (P:=P) w 9999 k (WW kk l).toArray (WW kk l').toArray hu' hs
 rw[hf,Ey (d:=9998) (X:=WW kk l) (Y:=WW kk l') (bs:=[]) (B:=bdZ) (IX hi) h3 h4 (by simpa using IF) (by simpa using IF)]at hrun
 simpa [Op.equal,Op.maxDepth,Jo,WW]using hrun
theorem Pw{k:TypeId}{fs:Array Field}{kk:List IntKind}(hk:P.underlying k=some (.struct fs))(hs:P.stoodInHeld k=false)(hi:Vn P 0 fs.toList=some kk){l:List Int}(h1:l.length=kk.length):
 ∀(es:List MapEntry)(i:Nat),(∀e∈es,∃l,l.length=kk.length/\e.key=Jo kk l)->
  ((Instr.findAsking k (Jo kk l) es i).run P w= .ok none w)\/∃j e,(Instr.findAsking k (Jo kk l) es i).run P w= .ok (some (i+j,e.val)) w/\es[j]? =some e/\e.key=Jo kk l
 | [],i,_=> .inl rfl
 |e::es,i,h=>by
  obtain⟨l',h2,h3⟩:=h e KR
  have hq:=YnA (w:=w) hk hs hi h1 h2
  unfold Instr.findAsking
  rw[h3]
  simp only[Sem.run_bind,hq,Result.andThen_ok]
  by_cases hl:l=l'
  ·right
   refine⟨0,e,by simp [hl],rfl,by rw[h3,hl]⟩
  ·simp only[hl,decide_false,XQ,if_false]
   rcases Pw hk hs hi h1 es (i+1) (fun e he=>h e (KX _ he))with h4| ⟨j,e',h4,h5,h6⟩
   ·exact .inl h4
   ·exact .inr ⟨j+1,e',by rw[h4,show i+1+j=i+(j+1)by omega],by simpa using h5,h6⟩
theorem AE{kk:List IntKind}{l:List Int}{k:TypeId}{fs:Array Field}(hk:P.underlying k=some (.struct fs))(hi:Vn P 0 fs.toList=some kk)(h1:l.length=kk.length)(em:Bool):(Instr.checkKey em 10000 k (Jo kk l)).run P w= .ok () w:=by
 have key:∀(gs:List Field)(j:Nat)(kj:List IntKind)(lj:List Int)(X:List Value),Vn P j gs=some kj->lj.length=kj.length->X.drop j=WW kj lj->
  (forIn gs PUnit.unit (fun(f:Field) (_:PUnit)=>(if f.name≠ "_" then do let a<-part f.type X.toArray f.offset;Instr.checkKey em 9999 f.type a;pure (ForInStep.yield PUnit.unit)else pure (ForInStep.yield PUnit.unit):Sem (ForInStep PUnit)))).run P w= .ok PUnit.unit w:=by
  intro gs
  induction gs with
  |nil=>intro j kj lj X _ _ _;simp
  |cons f gs ih=>
   intro j kj lj X hkj hlj hX
   simp only[Vn]at hkj
   split at hkj
   ·rename_i hc
    simp only[YS,beq_iff_eq,bne_iff_ne,ne_eq]at hc
    obtain⟨⟨c1,c2⟩,c3⟩:=hc
    split at hkj
    ·rename_i kd hu
     obtain⟨kj',hk',rfl⟩:=YQ.1 hkj
     cases lj with
     |nil=>simp at hlj
     |cons x lj=>
      have hX':X.drop j= .int kd x::WW kj' lj:=by rw[hX];rfl
      obtain⟨d1,d2⟩:=Uy hX'
      have hp:(part f.type X.toArray f.offset).run P w= .ok (.int kd x) w:=by
       rw[c2]
       exact Ny (b:=true) (by simp [Gn,hu]) d1
      have hck:(Instr.checkKey em 9999 f.type (.int kd x)).run P w= .ok () w:=by
       unfold Instr.checkKey
       simp [run_underlying hu,Result.andThen]
      have ih':=ih (j+1) kj' lj X hk' (by simpa using hlj) d2
      simp only[List.forIn_cons,Sem.run_bind,ne_eq,c3,not_false_eq_true,if_true,hp,Result.andThen_ok,hck,Sem.run_pure]
      exact ih'
    ·cases hkj
   ·cases hkj
 have:=key fs.toList 0 kk l (WW kk l) hi h1 rfl
 unfold Instr.checkKey
 simp only[Sem.run_bind,run_underlying hk,Result.andThen_ok,Jo]
 rw[<-Array.forIn_toList]
 simp [WW]at this⊢
 rw[this]
 rfl
theorem YnJ{kk:List IntKind}{l:List Int}:Instr.sameBits 10000 (Jo kk l) (Jo kk l)=true:=by
 have h:∀(vs:List (IntKind×Int)),((vs.map fun p=>Value.int p.1 p.2).zip (vs.map fun p=>Value.int p.1 p.2)).all (fun(x,y)=>Instr.sameBits 9999 x y)=true:=by
  intro vs
  induction vs with
  |nil=>rfl
  |cons p r ih=>simp only[KH,List.zip_cons_cons,List.all_cons,ih,Bool.and_true];simp [Instr.sameBits]
 unfold Jo Instr.sameBits
 simp only[beq_self_eq_true,Bool.true_and]
 exact h (kk.zip l)
theorem La:∀{kk:List IntKind}{cs:List SV}{p:Prop}{l:List Int}{vs:List Value},UH kk cs=some (p,l)->p->RepL w bs B cs vs->vs=WW kk l/\l.length=kk.length
 | [],cs,p,l,vs,h,hp,hr=>by
   cases cs with
   |nil=>simp only[UH,Option.some.injEq,Prod.mk.injEq]at h;obtain⟨_,rfl⟩:=h;cases hr;exact⟨rfl,rfl⟩
   |cons=>simp [UH]at h
 |k::kk,cs,p,l,vs,h,hp,hr=>by
  cases cs with
  |nil=>simp [UH]at h
  |cons c cs=>
   cases c <;> simp only[UH,reduceCtorEq]at h
   rename_i k' x
   obtain⟨⟨q,r⟩,h1,h2⟩:=YQ.1 h
   simp only[Prod.mk.injEq]at h2
   obtain⟨rfl,rfl⟩:=h2
   obtain⟨rfl,hq⟩:=hp
   obtain⟨v,vs',rfl,g1,g2⟩:=hr.cons_inv
   obtain⟨rfl,hl⟩:=La h1 hq g2
   rw[g1.int_inv]
   exact⟨rfl,by simp [hl]⟩
theorem hp0{z:Cx0}{w':World}{J:Nat->Option IK}{hJ:Ext z J}(h:∀(b:Nat) (K:IK),J b=some K->∃o,w'.heap[b]? =some o/\K.ok o):Hp w' [] (z.wI J hJ).bd []:=
 ⟨rfl,fun i=> .inr (by simp),fun _ _ _ _ _ _ _ h=>by simp at h,fun _ _ _ _ h=>by simp at h,fun b K hb=>⟨V4,h b K hb⟩⟩
theorem Xw(z:Cx0):Ext z z.I:=⟨fun _ _=>rfl,fun _ _ h=>h⟩
def POk(P:Program)(ρ:Operand->Value)(op:Op)(w:World)(B:Bd)(k:SV->List HO->Prop):Prop:=
 ∃r v w' x J,∃hJ:Ext (B.cx w) J,(∀dst type pos after guard,(execOp ρ ⟨dst,op,type,pos,after,guard⟩).run P w= .ok r w')/\(r= .value v\/(r= .skip/\v=undef))/\k x []/\
  Rep w' [] ((B.cx w).wI J hJ).bd x v/\Hp w' [] ((B.cx w).wI J hJ).bd []/\BelowI (B.cx w).bd w w'/\Y3 x
theorem YdB{b:Nat}{o:Obj}{K:IK}(hw:Wrote w w' b o)(hI:B.I b=some K):BelowI (B.cx w).bd w w':=
 ⟨hw.os,hw.tape,hw.output,Yx hw.size.symm,fun k hk hIk=>hw.other k (by rintro rfl;have h:B.I k=none:=hIk;rw[hI]at h;cases h)⟩
theorem YdC(hH:Hp w bs B hp){b:Nat}{o:Obj}{K:IK}(hw:Wrote w w' b o)(hI:B.I b=some K)(ho:K.ok o):∀(b:Nat)(K:IK),B.I b=some K->∃o,w'.heap[b]? =some o/\K.ok o:=by
 intro b' K' hI'
 by_cases hb:b'=b
 ·subst hb
  rw[hI]at hI';cases hI'
  exact⟨o,hw.at_,ho⟩
 ·obtain⟨_,o',h1,h2⟩:=hH.reg b' K' hI'
  exact⟨o',by rw[hw.other b' hb];exact h1,h2⟩
theorem YbT{b:Nat}{o o':Obj}(hb:w.heap[b]? =some o):Wrote w { w with heap:=w.heap.setIfInBounds b o'} b o':=by
 have hbl:b<w.heap.size:=(Xr.1 hb).1
 exact⟨rfl,rfl,rfl,by simp,by simp [hbl],fun r hr=>by simp [Ne.symm hr]⟩
inductive HG (P:Program):Op->VO->List Operand->Prop where
 |load (t:TypeId) (a:Operand) (g:Bool) (s:Nat) (hg:ZI P t=some g) (hs:sizeOf? P t=some s) (hc:chk g s=true):HG P (.load t a) (.load g s) [a]
 |store (t:TypeId) (a x:Operand) (s:Nat) (hs:sizeOf? P t=some s):HG P (.store t a x) (.store s) [a,x]
 |mk (t:TypeId) (kk:List IntKind) (h:V9 P t=some kk):HG P (.makeMap t none) (.mkMap kk) []
 |get (t:TypeId) (m k:Operand) (kk:List IntKind) (h:V9 P t=some kk):HG P (.lookup t m k true) (.mapGet kk) [m,k]
 |put (t:TypeId) (m k x:Operand) (kk:List IntKind) (h:V9 P t=some kk):HG P (.mapUpdate t m k x) (.mapPut kk) [m,k,x]
theorem YqX{op:BinOp}{t:TypeId}{v:VO}(hv:NP P op t=some v)(xs:List SV):psd v xs=none:=by
 cases op <;> simp only[NP]at hv
 ·split at hv <;> cases hv;rfl
 ·split at hv <;> cases hv;rfl
 ·cases hv;rfl
 ·cases hv;rfl
 ·cases hv;rfl
 ·cases hv;rfl
 ·cases hv;rfl
 ·cases hv;rfl
 ·cases hv;rfl
 ·cases hv;rfl
 ·cases hv;rfl
 ·split at hv
  ·cases hv;rfl
  ·split at hv
   ·cases hv;rfl
   split at hv
   ·cases hv;rfl
   ·obtain⟨ks,hk,rfl⟩:=YQ.1 hv
    rfl
 ·split at hv
  ·cases hv;rfl
  ·split at hv
   ·cases hv;rfl
   split at hv
   ·cases hv;rfl
   ·obtain⟨ks,hk,rfl⟩:=YQ.1 hv
    rfl
 ·cases hv;rfl
 ·cases hv;rfl
 ·cases hv;rfl
 ·cases hv;rfl
theorem Yq2{o:Oper}{vo:VO}{ops:List Operand}(hv:vop P o=some (vo,ops)):HG P o.op vo ops\/∀xs,psd vo xs=none:=by
 obtain⟨dst,op,type,pos,after,guard⟩:=o
 unfold vop at hv
 simp only at hv
 split at hv
 ·cases hv;exact .inr fun _=>rfl
 ·cases hv;exact .inr fun _=>rfl
 ·cases hv;exact .inr fun _=>rfl
 ·split at hv
  ·obtain⟨kk,hk,hv⟩:=YQ.1 hv
   cases hv;exact .inl (.mk _ kk hk)
  ·split at hv <;> cases hv
   exact .inr fun _=>rfl
 ·split at hv
  ·cases hv;exact .inr fun _=>rfl
  ·obtain⟨kk,hk,hv⟩:=YQ.1 hv
   cases hv;exact .inl (.put _ _ _ _ kk hk)
 ·obtain⟨kk,hk,hv⟩:=YQ.1 hv
  cases hv;exact .inl (.get _ _ _ kk hk)
 ·cases hv;exact .inr fun _=>rfl
 ·cases hv;exact .inr fun _=>rfl
 ·split at hv
  ·obtain⟨z,hz,hv⟩:=YE.1 hv
   obtain⟨s,hs,hv⟩:=YQ.1 hv
   cases hv;exact .inr fun _=>rfl
  ·obtain⟨z,hz,hv⟩:=YQ.1 hv
   cases hv;exact .inr fun _=>rfl
 ·cases hv;exact .inr fun _=>rfl
 ·obtain⟨z,hz,hv⟩:=YE.1 hv
  obtain⟨pl,hpl,hv⟩:=YE.1 hv
  split at hv <;> cases hv
  exact .inr fun _=>rfl
 ·obtain⟨g,hg,hv⟩:=YE.1 hv
  obtain⟨s,hs,hv⟩:=YE.1 hv
  split at hv <;> cases hv
  exact .inl (.load _ _ g s hg hs ‹_›)
 ·obtain⟨s,hs,hv⟩:=YQ.1 hv
  cases hv
  exact .inl (.store _ _ _ s hs)
 ·split at hv <;> cases hv
  exact .inr fun _=>rfl
 ·split at hv <;> cases hv
  exact .inr fun _=>rfl
 ·obtain⟨v,hb,hv⟩:=YQ.1 hv
  cases hv
  exact .inr (YqX hb)
 ·cases hv;exact .inr fun _=>rfl
 ·cases hv;exact .inr fun _=>rfl
 ·split at hv <;> cases hv
  exact .inr fun _=>rfl
 ·obtain⟨fs,hfs,hv⟩:=YE.1 hv
  obtain⟨fd,hfd,hv⟩:=YE.1 hv
  obtain⟨z,hz,hv⟩:=YE.1 hv
  split at hv <;> cases hv
  exact .inr fun _=>rfl
 ·obtain⟨fs,hfs,hv⟩:=YE.1 hv
  obtain⟨fd,hfd,hv⟩:=YE.1 hv
  obtain⟨z,hz,hv⟩:=YE.1 hv
  obtain⟨g,hg,hv⟩:=YE.1 hv
  split at hv <;> cases hv
  exact .inr fun _=>rfl
 ·split at hv
  ·obtain⟨s,hs,hv⟩:=YQ.1 hv
   cases hv;exact .inr fun _=>rfl
  ·obtain⟨s,hs,hv⟩:=YQ.1 hv
   cases hv;exact .inr fun _=>rfl
  ·cases hv
 ·split at hv
  ·obtain⟨s,hs,hv⟩:=YE.1 hv
   obtain⟨g,hg,hv⟩:=YE.1 hv
   split at hv <;> cases hv
   exact .inr fun _=>rfl
  ·cases hv;exact .inr fun _=>rfl
  ·cases hv
 ·split at hv
  ·obtain⟨s,hs,hv⟩:=YQ.1 hv
   cases hv;exact .inr fun _=>rfl
  ·obtain⟨s,hs,hv⟩:=YQ.1 hv
   cases hv;exact .inr fun _=>rfl
  ·cases hv
 ·split at hv
  ·obtain⟨s,hs,hv⟩:=YQ.1 hv
   cases hv;exact .inr fun _=>rfl
  ·cases hv
 ·split at hv
  ·obtain⟨s,hs,hv⟩:=YE.1 hv
   obtain⟨b,hb,hv⟩:=YE.1 hv
   obtain⟨z,hz,hv⟩:=YE.1 hv
   split at hv <;> cases hv
   exact .inr fun _=>rfl
  ·cases hv
 ·split at hv
  ·obtain⟨s,hs,hv⟩:=YE.1 hv
   obtain⟨z,hz,hv⟩:=YE.1 hv
   split at hv <;> cases hv
   exact .inr fun _=>rfl
  ·cases hv
 ·cases hv;exact .inr fun _=>rfl
 ·split at hv
  ·cases hv
  ·cases hv;exact .inr fun _=>rfl
  ·cases hv
 ·cases hv;exact .inr fun _=>rfl
 ·rename_i c
  split at hv
  ·split at hv
   ·cases hv;exact .inr fun _=>rfl
   ·cases hv;exact .inr fun _=>rfl
  ·cases hv;exact .inr fun _=>rfl
  ·cases hv;exact .inr fun _=>rfl
  ·split at hv
   ·cases hv;exact .inr fun _=>rfl
   ·cases hv;exact .inr fun _=>rfl
   ·cases hv;exact .inr fun _=>rfl
   ·cases hv;exact .inr fun _=>rfl
   ·cases hv
  ·cases hv;exact .inr fun _=>rfl
  ·cases hv;exact .inr fun _=>rfl
  ·split at hv
   ·obtain⟨s,hs,hv⟩:=YE.1 hv
    obtain⟨b,hb,hv⟩:=YE.1 hv
    obtain⟨z,hz,hv⟩:=YE.1 hv
    split at hv <;> cases hv
    exact .inr fun _=>rfl
   ·cases hv
  ·cases hv
 ·cases hv
theorem Yjo{t:TypeId}{a:Operand}{C:Int->Prop}{k:SV->List HO->Prop}(hg:ZI P t=some false)(hc:∀v,C v->k (.int .i64 v) [])(hx:Rep w bs B (.rcell C) (ρ a))(hH:Hp w bs B hp):POk P ρ (.load t a) w B k:=by
 obtain⟨n,D,j,b,rfl,hI,hj,hv⟩:=hx.rcell_inv
 obtain⟨_,o,ho,vs,T,rfl,hn,hall⟩:=hH.reg b _ hI
 obtain⟨v,hvv,hC⟩:=hall j hj
 refine⟨.value (.int .i64 v),.int .i64 v,w,.int .i64 v,B.I,Xw (B.cx w),fun dst type pos after guard=>?_,.inl rfl,hc v hC,.x _ _ (.int _ _),hp0 fun b K h=>(hH.reg b K h).2,BelowI.refl _ _,trivial⟩
 simp only[execOp,Instr.loadAt,hv,Instr.sureAddr,loadVar,Sem.run_bind,Sem.run_pure,Result.andThen_ok,FC hg,XQ,if_false,run_load]
 have hcell:w.cell? ⟨b,j,none⟩=some (.int .i64 v):=by
  have h1:Cells w b 0 vs.toList:=⟨vs,T,(0,0),ho,fun q u hq=>by simpa using hq⟩
  have:=h1.cell (j:=j) (v:= .int .i64 v) (by simpa using hvv)
  simpa using this
 rw[hcell];rfl
theorem Yon{t:TypeId}{a x:Operand}{C:Int->Prop}{v:Int}{k:SV->List HO->Prop}(hs:sizeOf? P t=some 1)(hC:C v)(hc:k .junk [])(hx:Rep w bs B (.rcell C) (ρ a))(hy:ρ x= .int .i64 v)(hH:Hp w bs B hp):POk P ρ (.store t a x) w B k:=by
 obtain⟨n,D,j,b,rfl,hI,hj,hv⟩:=hx.rcell_inv
 obtain⟨_,o,ho,vs,T,rfl,hn,hall⟩:=hH.reg b _ hI
 obtain⟨w',cs',hrun,hw,hcs⟩:=AG (P:=P) (ρ:=ρ) (x:=a) (y:=x) hs hv ho (by rw[hy];rfl) (by omega) (by rw[hy];simp [Value.cells,Value.oneCell'])
 have hcs':cs'.toList=vs.toList.set j (.int .i64 v):=by
  rw[hcs,hy]
  simp only[Value.cells,JH,XS,Z1]
  rw[List.set_eq_take_append_cons_drop,if_pos (by simp;omega)]
  simp
 have hok:(IK.ints n D).ok (.cells cs' T (0,0)):=by
  refine⟨cs',T,rfl,?_,fun q hq=>?_⟩
  ·rw[<-Um,hcs'];simpa using hn
  ·rw[<-Array.getElem?_toList,hcs',VM]
   split
   ·rename_i he
    subst he
    rw[if_pos (by simp;omega)]
    exact⟨v,rfl,hC⟩
   ·obtain⟨u,h1,h2⟩:=hall q hq
    exact⟨u,by rw[Array.getElem?_toList];exact h1,h2⟩
 exact⟨.skip,undef,w',.junk,B.I,Xw (B.cx w),hrun,.inr ⟨rfl,rfl⟩,hc,.x _ _ (.junk _),hp0 (YdC hH hw hI hok),YdB hw hI,trivial⟩
theorem YjM{t:TypeId}{kk:List IntKind}{k:SV->List HO->Prop}{C:List Int->Int->Prop}(hc:k (.imap kk C) [])(hH:Hp w bs B hp):POk P ρ (.makeMap t none) w B k:=by
 let J:Nat->Option IK:=fun b=>if b=w.heap.size then some (.map kk C)else B.I b
 have hJ:Ext (B.cx w) J:=⟨fun b hb=>by show(if b=w.heap.size then _ else _)=_;rw[if_neg (by have h:b<w.heap.size:=hb;omega)];rfl,fun b K hK=>by
  show(if b=w.heap.size then _ else _)=_
  have hK:B.I b=some K:=hK
  obtain⟨_,o,ho,_⟩:=hH.reg b K hK
  have:=(Xr.1 ho).1
  rw[if_neg (by omega)];exact hK⟩
 refine⟨.value (.map (some w.heap.size)),_,World.push w (.map #[] 0),.imap kk C,J,hJ,fun dst type pos after guard=>?_,.inl rfl,hc,.x _ _ (.imap _ _ _ (by show J _=_;simp [J])),hp0 fun b K hK=>?_,.of (Vu (B:=(B.cx w).bd) _ (Yt _)),trivial⟩
 ·simp [execOp,Instr.makeMap,Result.andThen,run_newObj,World.push]
 ·by_cases hb:b=w.heap.size
  ·subst hb
   have:K= .map kk C:=by have h:J w.heap.size=some K:=hK;simp [J]at h;exact h.symm
   subst this
   exact⟨_,Ue, #[],0,rfl,fun e he=>by simp at he⟩
  ·have h:J b=some K:=hK
   simp only[J,if_neg hb]at h
   obtain⟨_,o,ho,hok⟩:=hH.reg b K h
   exact⟨o,Au ho,hok⟩
theorem YjF{t:TypeId}{m y:Operand}{kk:List IntKind}{C:List Int->Int->Prop}{l:List Int}{k:SV->List HO->Prop}(ht:V9 P t=some kk)(hc:∀r:Option Int,(∀v,r=some v->C l v)->k (.tup [.int .i64 (r.getD 0),.bool r.isSome]) [])
 (hx:Rep w bs B (.imap kk C) (ρ m))(hy:ρ y=Jo kk l)(hl:l.length=kk.length)(hH:Hp w bs B hp):POk P ρ (.lookup t m y true) w B k:=by
 obtain⟨b,hI,hv⟩:=hx.imap_inv
 obtain⟨_,o,ho,es,clock,rfl,hall⟩:=hH.reg b _ hI
 obtain⟨kt,et,fs,hu,hk,hst,hki,hz⟩:=Ou ht
 have hkeys:∀e∈es.toList,∃l,l.length=kk.length/\e.key=Jo kk l:=fun e he=>by
  obtain⟨l,v,h1,h2,_⟩:=hall e he;exact⟨l,h1,h2⟩
 have hwide:(match P.underlying kt with|some (.array _ _) |some (.struct _)=>true|_=>false)=true:=by rw[hk]
 have hfin:∀a,(Instr.findAsking kt (Jo kk l) es.toList 0).run P w= .ok a w->(Instr.findKey kt (Jo kk l) es.toList).run P w= .ok a w:=fun a h=>by rw[run_findKey_eq w hwide];exact h
 have fin:∀r:Option Int,(∀v,r=some v->C l v)->(∀dst type pos after guard,(execOp ρ ⟨dst,.lookup t m y true,type,pos,after,guard⟩).run P w= .ok (.value (.tuple #[.int .i64 (r.getD 0),.bool r.isSome])) w)->POk P ρ (.lookup t m y true) w B k:=fun r hr hrun=>
  ⟨_,.tuple #[.int .i64 (r.getD 0),.bool r.isSome],w,_,B.I,Xw (B.cx w),hrun,.inl rfl,hc r hr,.x _ _ (.tup _ _ (.cons _ _ _ _ (.int _ _) (.cons _ _ _ _ (.bool _) .nil))),hp0 fun b K h=>(hH.reg b K h).2,BelowI.refl _ _,by simp [Y3,Y5]⟩
 rcases Pw (w:=w) hk hst hki hl es.toList 0 hkeys with h| ⟨j,e,h,h2,h3⟩
 ·refine fin none (fun _ h=>by cases h) fun dst type pos after guard=>?_
  simp [execOp,Instr.lookup,run_underlying hu,hv,hy,MapKept.run_getObj_map ho,AE hk hki hl,hfin _ h,Result.andThen,hz w]
 ·obtain⟨l',v,g1,g2,g3,g4⟩:=hall e (List.mem_of_getElem? h2)
  have:l'=l:=Yiw g1 hl (by rw[<-g2,h3])
  subst this
  refine fin (some v) (fun u hu=>by cases hu;exact g4) fun dst type pos after guard=>?_
  simp [execOp,Instr.lookup,run_underlying hu,hv,hy,MapKept.run_getObj_map ho,AE hk hki hl,hfin _ h,Result.andThen,g3]
theorem YjG{t:TypeId}{m y x:Operand}{kk:List IntKind}{C:List Int->Int->Prop}{l:List Int}{v:Int}{k:SV->List HO->Prop}(ht:V9 P t=some kk)(hC:C l v)(hc:k .junk [])
 (hx:Rep w bs B (.imap kk C) (ρ m))(hy:ρ y=Jo kk l)(hl:l.length=kk.length)(hxv:ρ x= .int .i64 v)(hH:Hp w bs B hp):POk P ρ (.mapUpdate t m y x) w B k:=by
 obtain⟨b,hI,hv⟩:=hx.imap_inv
 obtain⟨_,o,ho,es,clock,rfl,hall⟩:=hH.reg b _ hI
 obtain⟨kt,et,fs,hu,hk,hst,hki,hz⟩:=Ou ht
 have hkeys:∀e∈es.toList,∃l,l.length=kk.length/\e.key=Jo kk l:=fun e he=>by
  obtain⟨l,v,h1,h2,_⟩:=hall e he;exact⟨l,h1,h2⟩
 have hwide:(match P.underlying kt with|some (.array _ _) |some (.struct _)=>true|_=>false)=true:=by rw[hk]
 have hfin:∀a,(Instr.findAsking kt (Jo kk l) es.toList 0).run P w= .ok a w->(Instr.findKey kt (Jo kk l) es.toList).run P w= .ok a w:=fun a h=>by rw[run_findKey_eq w hwide];exact h
 have fin:∀(es':Array MapEntry)(clock':Nat),(∀dst type pos after guard,(execOp ρ ⟨dst,.mapUpdate t m y x,type,pos,after,guard⟩).run P w= .ok .skip { w with heap:=w.heap.setIfInBounds b (.map es' clock')})->(∀e∈es'.toList,∃l v,l.length=kk.length/\e.key=Jo kk l/\e.val= .int .i64 v/\C l v)->POk P ρ (.mapUpdate t m y x) w B k:=fun es' clock' hrun hall'=>
  ⟨.skip,undef,_,.junk,B.I,Xw (B.cx w),hrun,.inr ⟨rfl,rfl⟩,hc,.x _ _ (.junk _),hp0 (YdC hH (YbT ho) hI ⟨es',clock',rfl,hall'⟩),YdB (YbT ho) hI,trivial⟩
 rcases Pw (w:=w) hk hst hki hl es.toList 0 hkeys with h| ⟨j,e,h,h2,h3⟩
 ·refine fin (es.push { key:=Jo kk l,val:= .int .i64 v,born:=clock}) (clock+1) (fun dst type pos after guard=>?_) fun e he=>?_
  ·simp [execOp,Instr.mapUpdate,run_underlying hu,hv,hy,hxv,MapKept.run_getObj_map ho,AE hk hki hl,hfin _ h,Result.andThen,run_setObj_map _ ho]
  ·simp only[Array.toList_push,Ky,Jj]at he
   rcases he with he|rfl
   ·exact hall e he
   ·exact⟨l,v,hl,rfl,rfl,hC⟩
 ·have hj:es[j]? =some e:=by simpa using h2
  have hks:(Instr.keyThatStays (Jo kk l) (Jo kk l)).run P w= .ok (Jo kk l) w:=by simp [Instr.keyThatStays,YnJ]
  refine fin (es.modify j fun e=>{ e with key:=Jo kk l,val:= .int .i64 v}) clock (fun dst type pos after guard=>?_) fun e' he=>?_
  ·simp [execOp,Instr.mapUpdate,run_underlying hu,hv,hy,hxv,MapKept.run_getObj_map ho,AE hk hki hl,hfin _ h,hj,h3,hks,Result.andThen,run_setObj_map _ ho]
  ·obtain⟨q,hq⟩:=List.mem_iff_getElem?.1 he
   rw[Array.getElem?_toList,Array.getElem?_modify]at hq
   split at hq
   ·obtain⟨e0,_,rfl⟩:=YQ.1 hq
    exact⟨l,v,hl,rfl,rfl,hC⟩
   ·exact hall e' (List.mem_of_getElem? (by rw[Array.getElem?_toList];exact hq))
theorem YaG{o:Oper}{vo:VO}{ops:List Operand}{xs:List SV}{c:CRes}{k:SV->List HO->Prop}(hv:vop P o=some (vo,ops))(hp1:psd vo xs=some c)(hc:CSat c k)(hx:RepL w bs B xs (ops.map ρ))(hH:Hp w bs B hp):POk P ρ o.op w B k:=by
 have hcase:=Yq2 hv
 generalize o.op=op at hcase
 rcases hcase with h|h
 ·cases h with
  |load t a g s hg hs hck=>
   unfold psd at hp1
   cases g with
   |true=>cases hp1
   |false=>
    simp only at hp1
    split at hp1 <;> cases hp1
    exact Yjo hg hc (Wf hx) hH
  |store t a x s hs=>
   unfold psd at hp1
   simp only at hp1
   split at hp1 <;> cases hp1
   obtain⟨h1,h2⟩:=two hx
   obtain⟨⟨rfl,hC⟩,hc⟩:=hc
   exact Yon hs hC hc h1 h2.int_inv hH
  |mk t kk ht=>
   unfold psd at hp1
   simp only at hp1
   split at hp1 <;> cases hp1
   obtain⟨C,hC⟩:=hc
   exact YjM hC hH
  |get t m y kk ht=>
   unfold psd at hp1
   simp only at hp1
   split at hp1
   ·rename_i ks C cs
    obtain⟨⟨p,l⟩,hk,heq⟩:=YQ.1 hp1
    simp only at heq
    subst heq
    obtain⟨⟨rfl,hpp⟩,hc⟩:=hc
    obtain⟨h1,h2⟩:=two hx
    obtain⟨vs,h3,h4⟩:=h2.agg_inv
    obtain⟨rfl,h5⟩:=La hk hpp h4
    exact YjF ht hc h1 h3 h5 hH
   ·cases hp1
  |put t m y x kk ht=>
   unfold psd at hp1
   simp only at hp1
   split at hp1
   ·rename_i ks C cs v
    obtain⟨⟨p,l⟩,hk,heq⟩:=YQ.1 hp1
    simp only at heq
    subst heq
    obtain⟨⟨⟨rfl,hpp⟩,hC⟩,hc⟩:=hc
    obtain⟨v1,l1,e1,h1,hx⟩:=hx.cons_inv
    obtain⟨v2,l2,e2,h2,hx⟩:=hx.cons_inv
    obtain⟨v3,l3,e3,h3,hx⟩:=hx.cons_inv
    simp only[KH,Vf,List.cons.injEq]at e1
    obtain⟨r1,rfl⟩:=e1
    simp only[List.cons.injEq]at e2
    obtain⟨r2,rfl⟩:=e2
    simp only[List.cons.injEq]at e3
    obtain⟨r3,rfl⟩:=e3
    obtain⟨vs,h5,h6⟩:=h2.agg_inv
    obtain⟨rfl,h7⟩:=La hk hpp h6
    exact YjG ht hC hc (r1▸h1) (r2.trans h5) h7 (r3.trans h3.int_inv) hH
   ·cases hp1
 ·rw[h xs]at hp1;cases hp1
end
end Go.Vx
namespace Go.Vx
open Go.RowKit
section
variable {P:Program} {E:Env} {w0:Cx} {rd:Option Nat} {Pd:List KT} {A:S->Prop} {s:S}
theorem Vl{d:Option Nat}{x:SV}(hd:∀p∈Pd,d≠some p.slot):er Pd (s.put d x)=(er Pd s).put d x:=by
 cases d with
 |none=>rfl
 |some n=>simp only[er,S.put];rw[BH fun p hp e=>hd p hp (by rw[e])]
theorem TL:∀{xs:List X},(∀p∈Pd,p.slot∉KA xs)->(er Pd s).args xs=s.args xs
 | [],_=>rfl
 |x::l,h=>by
  simp only[S.args]
  rw[TL fun p hp hm=>h p hp (by simp [KA,hm])]
  cases x with
  |cn _=>rfl
  |tm n=>simp only[S.x,er];rw[ES fun p hp e=>h p hp (by simp [KA,X.slot,e])]
theorem Vt{d:Option Nat}{x:SV}(hd:∀p∈Pd,d≠some p.slot)(h:∀p∈Pd,Ys s.hp p.idx=p.cells.ho/\Kq s.fr p.slot (.ptr p.idx 0)=s.fr):
 ∀p∈Pd,Ys (s.put d x).hp p.idx=p.cells.ho/\Kq (s.put d x).fr p.slot (.ptr p.idx 0)=(s.put d x).fr:=fun p hp=>by
 refine⟨by rw[Vv];exact(h p hp).1,?_⟩
 cases d with
 |none=>exact(h p hp).2
 |some n=>
  show Kq (Kq s.fr n x) p.slot _=Kq s.fr n x
  rw[FG _ _ _ _ _ (fun e=>hd p hp (by rw[e])),(h p hp).2]
theorem Fm(h:∀p∈Pd,Ys s.hp p.idx=p.cells.ho/\Kq s.fr p.slot (.ptr p.idx 0)=s.fr):∀p∈Pd,p.idx<Yi s.hp:=fun p hp=>by
 rcases YY p.idx (Yi s.hp)with h'|h'
 ·exact h'
 ·have:=(h p hp).1
  rw[WU _ _ h']at this;exact absurd this.symm (AL.ho_ne _)
theorem GX{ops:Array Oper}{κ:Km}{i:Nat}{o:Oper}{a:Act}{w:World}{K:Act->World->Prop}(hi:ops[i]? =some o)(hw:Region.wanted o (yielded ops a.tmps)=true)(h:o.wpIn (Wd rd) 0 P a w K κ):wpOpIn (Wd rd) 0 P ops κ i K a w:=by
 unfold wpOpIn;simp only[hi,hw,if_true];exact h
theorem YdA{ops:Array Oper}{κ:Km}{i:Nat}{o:Oper}{a:Act}{w:World}{K:Act->World->Prop}(hi:ops[i]? =some o)(hw:Region.wanted o (yielded ops a.tmps)=false)(h:K (a.put o.dst undef) w):wpOpIn (Wd rd) 0 P ops κ i K a w:=by
 unfold wpOpIn;simp only[hi,hw];exact⟨fun _ _=>trivial,h⟩
theorem Rm{all:Array Oper}{o:Oper}{v:VOp}(h:Vd P all o=some v):∃ops,vop P o=some (v.op,ops)/\X.ofs P ops=some v.xs/\(v.op.isCall=true->UK o.op=true)/\v.dst=o.dst/\
 ((o.guard=none/\v.g=none)\/∃j b g,o.guard=some (j,b)/\NI all j=some g/\v.g=some (g,b)):=by
 unfold Vd at h
 obtain⟨⟨vo,ops⟩,h1,h⟩:=YE.1 h
 obtain⟨xs,h2,h⟩:=YE.1 h
 split at h
 ·cases h
 ·rename_i hne
  have hne:vo.isCall=true->UK o.op=true:=by simpa using hne
  split at h
  ·cases h;exact⟨ops,h1,h2,hne,rfl,.inl ⟨‹_›,rfl⟩⟩
  ·obtain⟨g,hg,rfl⟩:=YQ.1 h
   exact⟨ops,h1,h2,hne,rfl,.inr ⟨_,_,g,‹_›,hg,rfl⟩⟩
theorem YhX{o:VO}{xs:List SV}{r:FuncId×List SV}(h:callee E o xs=some r):o.isCall=true:=by
 unfold callee at h
 split at h <;> first|rfl|cases h
theorem Yfr{m n o:Nat}(h:m≠n):Ku n (.ptr m o)=false:=by
 show YJ m n=false
 cases hb:YJ m n with
 |false=>rfl
 |true=>exact absurd (Jy hb) h
theorem Pg{b:Nat}:∀{l:List SV},Hc l=true->YU b l=l
 | [],_=>rfl
 |x::l,h=>by
  simp only[Hc,YS]at h
  simp only[YU,Fu (Ybk h.1),Pg h.2]
theorem Yk5{b:Nat}{z:AL}(h:z.clean=true):UM b z.ho=z.ho:=by
 cases z with
 |box c=>simp only[AL.ho,UM,Pg (show Hc c=true from h)]
 |arr n sz c=>
  have:(fun k=>YU b (Jt sz c k))=Jt sz c:=by
   funext k
   unfold Jt
   rw[<-Ph,<-Aq,Pg (show Hc c=true from h)]
  simp only[AL.ho,UM,this]
theorem YaN(b:Nat):∀(hp:List HO)(i:Nat)(h:HO),Xl b (KL hp i h)=KL (Xl b hp) i (UM b h)
 | [],_,_=>rfl
 |x::l,0,h=>by cases x <;> cases h <;> rfl
 |x::l,i+1,h=>by
  have:=YaN b l i h
  cases x <;> simp only[KL,Xl,this]
theorem IS(b:Nat)(fr:List SV):∀(Pd:List KT),XL (YU b fr) Pd=YU b (XL fr Pd)
 | []=>rfl
 |p::l=>by rw[XL,XL,IS b fr l,As];rfl
theorem Im(b:Nat)(hp:List HO):∀(Pd:List KT),K4 (Xl b hp) Pd=Xl b (K4 hp Pd)
 | []=>rfl
 |p::l=>by rw[K4,K4,Im b hp l,YaN];rfl
theorem YgK{b:Nat}{ho:HO}(hne:∀p∈Pd,p.idx≠b):er Pd (s.upd (.app b ho))=(er Pd s).upd (.app b ho):=by
 simp only[er,S.upd]
 rw[IS,EW hne,Im]
theorem Ybi{hp hp':List HO}{x:SV}(h:∀b,blk x=some b->Ys hp' b=Ys hp b):XA hp' x=XA hp x:=by
 cases x <;> try rfl
 case own i lo n sz=>simp only[XA,h i rfl]
theorem Yfd{hp hp':List HO}{n n':Nat}(hn:n'=n){o:VO}(ha:o.isAppend=true){xs:List SV}(h:∀y∈xs,∀b,blk y=some b->Ys hp' b=Ys hp b):eff hp' n' o xs=eff hp n o xs:=by
 subst hn
 cases o <;> simp only[VO.isAppend,reduceCtorEq]at ha
 rcases xs with _| ⟨a,_| ⟨x,_| ⟨c,l⟩⟩⟩ <;> try rfl
 have h1:=Ybi (h x (by simp))
 have h2:=h a (by simp)
 cases a <;> try rfl
 ·simp only[eff,Vj,h1]
 ·rename_i i lo n sz
  have:=h2 i rfl
  cases lo with
  |zero=>simp only[eff,Vj,h1,this]
  |succ _=>rfl
 ·rename_i y
  have:=Ybi (x:=y) (fun b hb=>h2 b hb)
  simp only[eff,Vj,h1,this]
theorem Ybp{w:World}{bs:List BK}{B:Bd}:∀{xs:List SV}{vs:List Value},RepL w bs B xs vs->∀{y:SV},y∈xs->∃v,Rep w bs B y v
 |_,_,.nil,y,hy=>by cases hy
 |_,_,.cons x v l vs h h',y,hy=>by
  rcases Kz.1 hy with rfl|hy
  ·exact⟨v,h⟩
  ·exact Ybp h' hy
theorem Tk(hE:YD P E){c0:Cx0}(hS:UZ P c0){all:Array Oper}{o:Oper}{v:VOp}{i:Nat}(hi:all[i]? =some o)(hv:Vd P all o=some v)(hs1:∀p∈Pd,p.slot∉v.reads)(hs2:∀p∈Pd,v.dst≠some p.slot)
 (hs3:v.op.isAppend=true->∀p∈Pd,p.cells.clean=true){κ:Km}{a:Act}{sv:List Act}{w:World}(h:Ql E v A s){ks:List (Nat×Obj)}{J:Nat->Option IK}{hJ:Ext c0 J}(hR:PR ⟨c0.wI J hJ,ks⟩ Pd s a sv w):
 wpOpIn (Wd rd) 0 P all κ i (fun a' w'=> ∃s',A s'/\∃J',∃hJ':Ext c0 J',PR ⟨c0.wI J' hJ',ks⟩ Pd s' a' sv w') a w:=by
 obtain⟨ops,h1,h2,h3,h4,h5⟩:=Rm hv
 obtain⟨hRl,hPd⟩:=hR
 obtain⟨bs,hf,hsv,hH,hb,hoth⟩:=id hRl
 have hB:c0.heap.size<=w.heap.size:=hb.size
 have hargs:(er Pd s).args v.xs=s.args v.xs:=TL fun p hp hm=>hs1 p hp (by simp [VOp.reads,hm])
 have hx:RepL w bs (c0.wI J hJ).bd (s.args v.xs) (ops.map a.eval):=by rw[<-hargs];exact N8 (VB hS hb hH) hf h2
 have hlen:Yi (er Pd s).hp=Yi s.hp:=Gr Pd
 have hgs:∀g pol,v.g=some (g,pol)->Kr (er Pd s).fr g=Kr s.fr g:=fun g pol hg=>ES fun p hp e=>hs1 p hp (by simp [VOp.reads,hg,e])
 have heq:∀(xs:List SV)(vs:List Value),v.op.quiet=true->RepL w bs (c0.wI J hJ).bd xs vs->eff (er Pd s).hp (Yi (er Pd s).hp) v.op xs=eff s.hp (Yi s.hp) v.op xs:=
  fun xs vs hq hxs=>Tx hq fun b hb=>(BD hH hxs hb).2
 unfold Ql at h
 cases hq:v.op.quiet with
 |true=>
  rw[hq]at h
  simp only[Ht]at h
  cases hfe:JU v s with
  |none=>rw[hfe]at h;exact h.elim
  |some r=>
   obtain⟨p,x⟩:=r
   rw[hfe]at h
   obtain⟨hp,hA⟩:=h
   unfold JU at hfe
   rcases h5 with⟨hg,hvg⟩ | ⟨j,pol,g,hg,hsl,hvg⟩
   ·rw[hvg]at hfe
    simp only at hfe
    cases he:eff s.hp (Yi s.hp) v.op (s.args v.xs)with
    |none=>rw[he]at hfe;cases hfe
    |some e=>
     obtain⟨q,y,u⟩:=e
     rw[he]at hfe
     cases u <;> try cases hfe
     rw[<-heq _ _ hq hx]at he
     obtain⟨r',val,w',bs',hrn,hr,k1,k2,k3,k4,k5⟩:=NQ (ρ:=a.eval) h1 he hp hx (fun _=>rfl) (fun _=>rfl) hH hB
     refine GX hi (by simp [Region.wanted,hg]) (GY (UV h1) (hrn o.dst o.type o.pos o.after o.guard) hr ?_)
     refine⟨_,hA,J,hJ,?_,Vt hs2 hPd⟩
     rw[Vl hs2,<-h4]
     exact NO (e:=⟨p,x,.no⟩) (op:=o.op) hf hsv hb hoth k1 k2 k3 k4 k5 v.dst
   ·rw[hvg]at hfe
    simp only at hfe
    cases hgb:XK (Kr s.fr g) pol with
    |none=>rw[hgb]at hfe;cases hfe
    |some gb=>
     rw[hgb]at hfe
     simp only at hfe
     have hw:=E0 (w:=w) hf hg hsl (by rw[hgs g pol hvg];exact hgb)
     cases he:eff s.hp (Yi s.hp) v.op (Qh v.op gb (s.args v.xs)).2 with
     |none=>rw[he]at hfe;cases hfe
     |some e=>
      obtain⟨q,y,u⟩:=e
      rw[he]at hfe
      cases u <;> try cases hfe
      obtain⟨hp1,hp2⟩:=hp
      cases gb with
      |true=>
       have hx':=NM rfl hx hp1
       rw[<-heq _ _ hq hx']at he
       obtain⟨r',val,w',bs',hrn,hr,k1,k2,k3,k4,k5⟩:=NQ (ρ:=a.eval) h1 he (hp2 rfl) hx' (fun _=>rfl) (fun _=>rfl) hH hB
       refine GX hi hw (GY (UV h1) (hrn o.dst o.type o.pos o.after o.guard) hr ?_)
       refine⟨_,hA,J,hJ,?_,Vt hs2 hPd⟩
       rw[Vl hs2,<-h4]
       exact NO (e:=⟨q,.opt true y,.no⟩) (op:=o.op) hf hsv hb hoth (.optT _ _ k1) k2 k3 k4 k5 v.dst
      |false=>
       refine YdA hi hw ⟨_,hA,J,hJ,?_,Vt hs2 hPd⟩
       rw[Vl hs2,<-h4]
       exact GK hRl v.dst fun _ _ _=> .optF _
 |false=>
  rw[hq]at h
  simp only at h
  rcases h5 with⟨hg,hvg⟩ | ⟨j,pol,g,hg,hsl,hvg⟩
  ·rw[hvg]at h
   simp only at h
   unfold MK at h
   cases hc:callee E v.op (s.args v.xs)with
   |none=>
    rw[hc]at h
    simp only[Nj]at h
    have hlt:=Fm hPd
    cases hps:psd v.op (s.args v.xs)with
    |some c=>
     rw[hps]at h
     obtain⟨r,val,w',x,J2,hJ2,hrn,hr,hA,k1,k2,k3,k4⟩:=YaG (ρ:=a.eval) h1 hps h hx hH
     refine GX hi (by simp [Region.wanted,hg]) (GY (UV h1) (hrn o.dst o.type o.pos o.after o.guard) hr ?_)
     obtain⟨hJ3,hcr⟩:=HR (al:=false) (z:=Bd.cx (c0.wI J hJ).bd w) (w0:=c0) (J1:=J) (hJ1:=hJ) (hJ:=hJ2) rfl hf hsv hH hb hoth v.dst k1 k2 k3 (fun _=>⟨k4,trivial⟩) (fun h=>by cases h)
     have hcr:=hcr _ fun _ h=>h
     have hPd':∀p∈Pd,Ys ({ fr:=s.fr,saved:=s.saved,hp:=s.hp++Js (Yi s.hp) []}:S).hp p.idx=p.cells.ho/\Kq ({ fr:=s.fr,saved:=s.saved,hp:=s.hp++Js (Yi s.hp) []}:S).fr p.slot (.ptr p.idx 0)=({ fr:=s.fr,saved:=s.saved,hp:=s.hp++Js (Yi s.hp) []}:S).fr:=fun p hp=>
      ⟨by rw[<-(hPd p hp).1];exact BC _ _ _ (by rw[(hPd p hp).1];exact AL.ho_ne _),(hPd p hp).2⟩
     refine⟨_,hA,J2,hJ3,?_,Vt hs2 hPd'⟩
     rw[Vl hs2,<-h4]
     have:er Pd { fr:=s.fr,saved:=s.saved,hp:=s.hp++Js (Yi s.hp) []}= { fr:=(er Pd s).fr,saved:=(er Pd s).saved,hp:=(er Pd s).hp++Js (Yi (er Pd s).hp) []}:=by
      rw[hlen];simp only[er];rw[BB hlt]
     rw[this]
     rw[hlen]at hcr⊢
     exact hcr
    |none=>
    rw[hps]at h
    simp only at h
    cases hbad:v.op.bad with
    |true=>rw[hbad]at h;exact h.elim
    |false=>
    rw[hbad]at h
    simp only[F1,Mx]at h
    cases he:eff s.hp (Yi s.hp) v.op (s.args v.xs)with
    |none=>rw[he]at h;exact h.elim
    |some e=>
     rw[he]at h
     obtain⟨hp,hA⟩:=h
     have he2:eff (er Pd s).hp (Yi (er Pd s).hp) v.op (s.args v.xs)=some e:=by
      rw[hlen,<-he]
      cases ha:v.op.isAppend with
      |true=>
       exact Yfd rfl ha fun y hy b hb=>by
        obtain⟨z,hz⟩:=Ybp hx hy
        obtain⟨k,h1,h2⟩:=CY hz hb
        exact(Ls hH h1 h2).2
      |false=>exact YhC hq ha hbad fun b hb=>(BD hH hx hb).2
     obtain⟨r',val,w',bs',hrn,hr,k1,k2,k3,k4,k5⟩:=NQ (ρ:=a.eval) h1 he2 hp hx (fun _=>rfl) (fun _=>rfl) hH hB
     refine GX hi (by simp [Region.wanted,hg]) (GY (UV h1) (hrn o.dst o.type o.pos o.after o.guard) hr ?_)
     have hrel:=NO (e:=e) (op:=o.op) hf hsv hb hoth k1 k2 k3 k4 k5 v.dst
     refine⟨_,hA,J,hJ,?_⟩
     cases ha:v.op.isAppend with
     |true=>
      have hcl:=hs3 ha
      rcases Sb ha he with⟨ho,hu⟩ | ⟨b,ho,hu,hk⟩
      ·rw[hu]at hrel⊢
       have hlt:=Fm hPd
       have hPd':∀p∈Pd,Ys (s.upd (.new ho)).hp p.idx=p.cells.ho/\Kq (s.upd (.new ho)).fr p.slot (.ptr p.idx 0)=(s.upd (.new ho)).fr:=fun p hp=>
        ⟨by rw[<-(hPd p hp).1];exact Gi _ _ _ (hlt p hp),(hPd p hp).2⟩
       refine⟨?_,Vt hs2 hPd'⟩
       rw[Vl hs2,<-h4]
       have:er Pd (s.upd (.new ho))=(er Pd s).upd (.new ho):=by
        simp only[er,S.upd];rw[EX hlt]
       rw[this];exact hrel
      ·have hne:=(BD hH hx hk).1
       rw[hu]at hrel⊢
       have hPd':∀p∈Pd,Ys (s.upd (.app b ho)).hp p.idx=p.cells.ho/\Kq (s.upd (.app b ho)).fr p.slot (.ptr p.idx 0)=(s.upd (.app b ho)).fr:=fun p hp=>by
        refine⟨?_,?_⟩
        ·show Ys (KL (Xl b s.hp) b ho) p.idx=_
         rw[WV _ _ _ _ (fun e=>hne p hp e.symm),Bx,(hPd p hp).1,Yk5 (hcl p hp)]
        ·show Kq (YU b s.fr) p.slot (.ptr p.idx 0)=YU b s.fr
         have e:=congrArg (YU b) (hPd p hp).2
         rw[As,Fu (Yfr (hne p hp))]at e
         exact e
       refine⟨?_,Vt hs2 hPd'⟩
       rw[Vl hs2,<-h4]
       have:er Pd (s.upd (.app b ho))=(er Pd s).upd (.app b ho):=YgK hne
       rw[this];exact hrel
     |false=>
      cases hst:v.op.isStore with
      |true=>
       obtain⟨k,ho,hu,hk⟩:=Ycg hst he
       have hne:=(BD hH hx hk).1
       rw[hu]at hrel⊢
       have hPd':∀p∈Pd,Ys (s.upd (.set k ho)).hp p.idx=p.cells.ho/\Kq (s.upd (.set k ho)).fr p.slot (.ptr p.idx 0)=(s.upd (.set k ho)).fr:=fun p hp=>
        ⟨by rw[<-(hPd p hp).1];exact WV _ _ _ _ (fun e=>hne p hp e.symm),(hPd p hp).2⟩
       refine⟨?_,Vt hs2 hPd'⟩
       rw[Vl hs2,<-h4]
       have:er Pd (s.upd (.set k ho))=(er Pd s).upd (.set k ho):=by
        simp only[er,S.upd];rw[EW hne]
       rw[this];exact hrel
      |false=>
       obtain⟨ho,hu⟩:=ON hq hst ha hbad he
       rw[hu]at hrel⊢
       have hlt:=Fm hPd
       have hPd':∀p∈Pd,Ys (s.upd (.new ho)).hp p.idx=p.cells.ho/\Kq (s.upd (.new ho)).fr p.slot (.ptr p.idx 0)=(s.upd (.new ho)).fr:=fun p hp=>
        ⟨by rw[<-(hPd p hp).1];exact Gi _ _ _ (hlt p hp),(hPd p hp).2⟩
       refine⟨?_,Vt hs2 hPd'⟩
       rw[Vl hs2,<-h4]
       have:er Pd (s.upd (.new ho))=(er Pd s).upd (.new ho):=by
        simp only[er,S.upd];rw[EX hlt]
       rw[this];exact hrel
   |some fy=>
    obtain⟨f,ys⟩:=fy
    rw[hc]at h
    simp only[ctW]at h
    cases hct:E.ct f with
    |none=>rw[hct]at h;exact h.elim
    |some c=>
     rw[hct]at h
     obtain⟨hok,hen⟩:=hE.ct f c hct
     obtain⟨vs,hys,hrun⟩:=HQ hE.meth h1 (h3 (YhX hc)) hc hx (fun _=>rfl) hen
     refine GX hi (by simp [Region.wanted,hg]) (FT (UV h1) hrun ?_)
     obtain⟨z,hzw,hzI,hargs2,hal,hzF⟩:=Dl c.alias (hpV hH) hB 3 hys h.1
     subst hzw
     refine(hok _ vs z _ ⟨fun b K hb=>(hH.reg b K (by rw[hzI]at hb;exact hb)).2,AH (VB (hJ:=hJ) hS hb hH) rfl hzF⟩ hargs2 h.2).mono ?_
     rintro e w' ⟨r,hs,val,bs2,J2,hJ2,hA,rfl,k1,k2,k3,k4⟩
     obtain⟨hJ3,hcr⟩:=HR (w0:=c0) (J1:=J) (hJ1:=hJ) (hJ:=hJ2) hzI hf hsv hH hb hoth v.dst k1 k2 k3 k4 hal
     have hcr:=hcr _ fun _ h=>h
     have hlt:=Fm hPd
     have hPd':∀p∈Pd,Ys ({ fr:=s.fr,saved:=s.saved,hp:=s.hp++Js (Yi s.hp) hs}:S).hp p.idx=p.cells.ho/\Kq ({ fr:=s.fr,saved:=s.saved,hp:=s.hp++Js (Yi s.hp) hs}:S).fr p.slot (.ptr p.idx 0)=({ fr:=s.fr,saved:=s.saved,hp:=s.hp++Js (Yi s.hp) hs}:S).fr:=fun p hp=>
      ⟨by rw[<-(hPd p hp).1];exact BC _ _ _ (by rw[(hPd p hp).1];exact AL.ho_ne _),(hPd p hp).2⟩
     refine⟨_,hA,J2,hJ3,?_,Vt hs2 hPd'⟩
     rw[Vl hs2,<-h4]
     have:er Pd { fr:=s.fr,saved:=s.saved,hp:=s.hp++Js (Yi s.hp) hs}= { fr:=(er Pd s).fr,saved:=(er Pd s).saved,hp:=(er Pd s).hp++Js (Yi (er Pd s).hp) hs}:=by
      rw[hlen];simp only[er];rw[BB hlt]
     rw[this]
     rw[hlen]at hcr⊢
     exact hcr
  ·rw[hvg]at h
   simp only at h
   unfold MJ at h
   cases hgb:XK (Kr s.fr g) pol with
   |none=>rw[hgb]at h;exact h.elim
   |some gb=>
    rw[hgb]at h
    simp only[Mf]at h
    have hw:=E0 (w:=w) hf hg hsl (by rw[hgs g pol hvg];exact hgb)
    cases hct:Wy E v.op (Qh v.op gb (s.args v.xs)).2 with
    |none=>rw[hct]at h;exact h.elim
    |some c=>
     rw[hct]at h
     obtain⟨c,ys⟩:=c
     obtain⟨hp1,hno,r,hA,hcs⟩:=h
     cases gb with
     |false=>
      refine YdA hi hw ⟨_,hA,J,hJ,?_,Vt hs2 hPd⟩
      rw[Vl hs2,<-h4]
      exact GK hRl v.dst fun _ _ _=> .optF _
     |true=>
      obtain⟨f,hcl,hct',hic⟩:=S6 hct
      obtain⟨hok,hen⟩:=hE.ct f c hct'
      obtain⟨vs,hys,hrn⟩:=HQ hE.meth h1 (h3 hic) hcl (NM rfl hx hp1) (fun _=>rfl) hen
      refine GX hi hw (FT (UV h1) hrn ?_)
      obtain⟨z,hzw,hzI,hargs2,hal,hzF⟩:=Dl c.alias (hpV hH) hB 3 hys hno
      subst hzw
      refine(hok _ vs z _ ⟨fun b K hb=>(hH.reg b K (by rw[hzI]at hb;exact hb)).2,AH (VB (hJ:=hJ) hS hb hH) rfl hzF⟩ hargs2 (hcs rfl)).mono ?_
      rintro e w' ⟨r',hs,val,bs2,J2,hJ2,⟨rfl,rfl⟩,rfl,k1,k2,k3,k4⟩
      obtain⟨hJ3,hcr⟩:=HR (w0:=c0) (J1:=J) (hJ1:=hJ) (hJ:=hJ2) hzI hf hsv hH hb hoth v.dst k1 k2 k3 k4 hal
      have hcr:=hcr (.opt true (shift (Yi (er Pd s).hp) r')) fun _ h=> .optT _ _ h
      have e0:({ fr:=(er Pd s).fr,saved:=(er Pd s).saved,hp:=(er Pd s).hp++Js (Yi (er Pd s).hp) []}:S)=er Pd s:=by simp [Js]
      rw[e0]at hcr
      refine⟨_,hA,J2,hJ3,?_,Vt hs2 hPd⟩
      rw[Vl hs2,<-h4,<-hlen]
      exact hcr
end
end Go.Vx
namespace Go.Vx
open Go.RowKit
section
variable {P:Program} {E:Env} {w:World} {w0:Cx} {rd:Option Nat} {Pd:List KT} {A:S->Prop} {s:S} {bs:List BK} {B:Bd} {hp hp':List HO}
theorem Hv{cs:Array Value}{T:TypeId}{cap n i:Nat}:Keeps w bs (World.push w (.cells cs T (0,0))) (bs.set i (.blk w.heap.size cap n)):=by
 intro b hf o ho
 refine⟨Au ho,fun j b' c m h=>?_⟩
 have hb:b<w.heap.size:=(Xr.1 ho).1
 rw[VM]at h
 split at h
 ·split at h
  ·cases h;omega
  ·cases h
 ·exact hf j b' c m h
theorem YbS{i:Nat}{x:BK}{e:Option Nat}(hg:bs[i]? =some .gone\/bs[i]? =none):Stays e bs (bs.set i x):=by
 intro j y _ h hy
 rw[VM]
 split
 ·rename_i hij
  subst hij
  rcases hg with hg|hg
  ·rw[hg]at h;cases h;exact absurd rfl hy
  ·rw[hg]at h;cases h
 ·exact h
theorem Yg6(hH:Hp w bs B hp)(hB:B<=w.heap.size){cs:Array Value}{T:TypeId}{i:Nat}{c0 m0:Nat}(hi:i<Yi hp)(hg:Ys hp i= .gone)(hl:Yi hp'=Yi hp)(hne:∀j,j≠i->Ys hp' j=Ys hp j)
 (h:HRep (World.push w (.cells cs T (0,0))) (bs.set i (.blk w.heap.size c0 m0)) B i (Ys hp' i)):
 Hp (World.push w (.cells cs T (0,0))) (bs.set i (.blk w.heap.size c0 m0)) B hp':=by
 have hlt:∀(i b c m:Nat),bs[i]? =some (.blk b c m)->b<w.heap.size:=fun i b c m h=>(hH.lo i b c m h).2
 have hgo:bs[i]? =some .gone\/bs[i]? =none:=by have:=hH.ent i;rw[hg]at this;exact this
 have hib:i<bs.length:=by rw[hH.len];exact hi
 refine⟨by simp [hH.len,hl],fun j=>?_,fun j k b c m c' m' h1 h2=>?_,fun j b c m h1=>?_,Vz Hv hH.reg⟩
 ·by_cases hij:j=i
  ·subst hij;exact h
  ·rw[hne j hij]
   refine(hH.ent j).keep Hv (YbS hgo) ?_ ?_
   ·rw[VM,if_neg (Ne.symm hij)]
   ·intro b c m hb
    have:=hlt j b c m hb
    simp only[World.push,Array.getElem?_push]
    rw[if_neg (by omega)]
 ·rw[VM]at h1 h2
  split at h1 <;> split at h2
  ·omega
  ·first| (rw[if_pos hib]at h1;cases h1) |cases h1
   have:=hlt k _ _ _ h2;omega
  ·first| (rw[if_pos hib]at h2;cases h2) |cases h2
   have:=hlt j _ _ _ h1;omega
  ·exact hH.inj j k b c m c' m' h1 h2
 ·have hs:(World.push w (.cells cs T (0,0))).heap.size=w.heap.size+1:=by simp [World.push]
  rw[VM]at h1
  split at h1
  ·first| (rw[if_pos hib]at h1;cases h1) |cases h1;omega
  ·have:=hH.lo j b c m h1;omega
theorem AN:∀(l:List SV)(n:Nat)(x y:SV),Kq (Kq l n x) n y=Kq l n y
 | [],_,_,_=>rfl
 |_::_,0,_,_=>rfl
 |a::l,n+1,x,y=>congrArg (a::·) (AN l n x y)
def AL.is(P:Program)(elem:TypeId):AL->Prop
 | .box z=>Qq P elem=some z
 | .arr n size z=>Qq P elem=some z/\YK z=n*size
def AL.z:AL->List SV
 | .box z=>z
 | .arr _ _ z=>z
def AL.n:AL->Nat
 | .box _=>0
 | .arr n _ _=>n
theorem AL.is_z{elem:TypeId}:∀{x:AL},x.is P elem->Qq P elem=some x.z
 | .box _,h=>h
 | .arr _ _ _,h=>h.1
theorem Ye2{p:KT}{o:Oper}{elem:TypeId}{i:Nat}{all:Array Oper}(hi:all[i]? =some o)(hop:o.op= .alloc elem)(hgd:o.guard=none)(hz:p.cells.is P elem)(hdst:o.dst=some p.slot)
 (hidx:∀q∈Pd,q.idx≠p.idx)(hslot:∀q∈Pd,q.slot≠p.slot){κ:Km}{a:Act}{sv:List Act}{K:Act->World->Prop}
 (hR:PR w0 (p::Pd) s a sv w)(h:∀a' w',PR w0 Pd s a' sv w'->K a' w'):wpOpIn (Wd rd) 0 P all κ i K a w:=by
 obtain⟨⟨bs,hf,hsv,hH,hb,hoth⟩,hPd⟩:=hR
 have hB:w0.heap.size<=w.heap.size:=hb.size
 obtain⟨v,hv,hr⟩:=Hu (P:=P) (w:=w) (bs:=bs) (B:=w0.bd) (AL.is_z hz)
 obtain⟨hp1,hp2⟩:=hPd p KR
 have hlt:p.idx<Yi s.hp:=Fm hPd p KR
 have hg:Ys (K4 s.hp (p::Pd)) p.idx= .gone:=EO KR
 have hgo:bs[p.idx]? =some .gone\/bs[p.idx]? =none:=by have:=hH.ent p.idx;simp only[er]at this;rw[hg]at this;exact this
 have hlen:bs.length=Yi s.hp:=by rw[hH.len];exact Gr _
 have hget:(bs.set p.idx (BK.blk w.heap.size p.cells.n p.cells.n))[p.idx]? =some (.blk w.heap.size p.cells.n p.cells.n):=by
  rw[VM,if_pos rfl,if_pos (by omega)]
 have hst:∀e,Stays e bs (bs.set p.idx (.blk w.heap.size p.cells.n p.cells.n)):=fun e=>YbS hgo
 have hrun:(execOp a.eval o).run P w= .ok (.value (.pointer (some ⟨w.heap.size,0,none⟩))) (World.push w (.cells v.cells elem (0,0))):=by
  obtain⟨dst,op,type,pos,after,guard⟩:=o
  simp only at hop
  subst hop
  simp [execOp,Instr.alloc,hv,newVar,newRow,World.push]
 refine GX hi (by simp [Region.wanted,hgd]) (GY (by rw[hop];intro c h;cases h) hrun (.inl rfl) (h _ _ ⟨⟨bs.set p.idx (.blk w.heap.size p.cells.n p.cells.n),?_,?_,?_,?_,by rw[KH,Nq];exact hoth.keep Hv⟩,fun q hq=>hPd q (KX _ hq)⟩))
 ·have hfr:(er Pd s).fr=(S.put (er (p::Pd) s) (some p.slot) (.ptr p.idx 0)).fr:=by
   simp only[er,S.put,XL,AN]
   rw[<-BH hslot,hp2]
  rw[hfr,hdst]
  exact Nr (hf.keep Hv (hst none) JA) (.ptr _ _ _ _ hget)
 ·exact RepLL.keep Hv (hst none) hsv
 ·refine Yg6 hH hB (by simp only[er];rw[Gr];exact hlt) hg (by simp only[er];rw[Gr,Gr]) (fun j hj=>?_) ?_
  ·simp only[er,K4]
   rw[WV _ _ _ _ (Ne.symm hj)]
  ·simp only[er]
   rw[EP hidx,hp1]
   revert hget hst hz hr
   cases p.cells with
   |box z=>exact fun hz hr hget hst=>⟨_,_,_,hget,Ue,hr.keep Hv (hst none) JA⟩
   |arr n size z=>
    intro hz hr hget hst
    refine .inr ⟨_,n,_,_,hget,rfl,Ue,?_,Yt _,fun k _=>Du (hr.keep Hv (hst none) JA) size k⟩
    show _=n*size
    have hl:=hz.2
    have hl2:=hr.length
    simp only[AL.z]at hl2
    rw[<-hl,hl2];simp
 ·exact hb.trans (.of (Vu (B:=w0.bd) _ hB))
end
end Go.Vx
namespace Go.Vx
open Go.RowKit
section
variable {P:Program} {E:Env} {w:World} {w0:Cx} {rd:Option Nat} {Pd Pd':List KT} {A:S->Prop} {s:S} {bs:List BK} {B:Bd} {hp hp':List HO}
theorem MQ:Keeps w bs w (bs++[.gone]):=by
 intro b hf o ho
 refine⟨ho,fun i b' c m h=>?_⟩
 rw[Wt]at h
 split at h
 ·exact hf i b' c m h
 ·rw[Uo]at h;split at h <;> cases h
theorem Yhv(hH:Hp w bs B hp):Hp w (bs++[.gone]) B (Qg hp .gone):=by
 have hst:∀e,Stays e bs (bs++[.gone]):=fun e=>Qx _ _
 have hget:∀(i b c m:Nat),(bs++[BK.gone])[i]? =some (.blk b c m)->bs[i]? =some (.blk b c m):=by
  intro i b c m h
  rw[Wt]at h
  split at h
  ·exact h
  ·rw[Uo]at h;split at h <;> cases h
 refine⟨by simp [hH.len,Gs],fun i=>?_,fun i j b c m c' m' h1 h2=>hH.inj i j b c m c' m' (hget _ _ _ _ h1) (hget _ _ _ _ h2),fun i b c m h1=>hH.lo i b c m (hget _ _ _ _ h1),Vz MQ hH.reg⟩
 rcases Ww i (Yi hp)with hi|hi|hi
 ·rw[Gi _ _ _ hi]
  exact(hH.ent i).keep MQ (hst _) (by rw[QY (by rw[hH.len];exact hi)]) (fun _ _ _ _=>rfl)
 ·subst hi;rw[MD];exact .inl (ZQ hH)
 ·rw[WU _ _ (by rw[Gs];omega)]
  right
  rw[List.getElem?_eq_none];simp [hH.len];omega
theorem RepL.junkAt:∀{l:List SV}{vs:List Value}(_:RepL w bs B l vs)(n:Nat),RepL w bs B (Kq l n .junk) vs
 |_,_,.nil,n=>by cases n <;> exact .nil
 |_,_,.cons _ _ _ _ _ h',0=> .cons _ _ _ _ (.x _ _ (.junk _)) h'
 |_,_,.cons _ _ _ _ h h',n+1=> .cons _ _ _ _ h (RepL.junkAt h' n)
theorem YbQ:∀(l:List HO)(x y:HO),KL (Qg l x) (Yi l) y=Qg l y
 | [],_,_=>rfl
 |a::l,x,y=>congrArg (a::·) (YbQ l x y)
theorem YkU{a:Act}{sv:List Act}(hR:PR w0 Pd s a sv w){d:Nat}{z:AL}(hd:∀q∈Pd,q.slot≠d):
 PR w0 (⟨Yi s.hp,d,z⟩::Pd) ((s.upd (.new z.ho)).put (some d) (.ptr (Yi s.hp) 0)) a sv w:=by
 obtain⟨⟨bs,hf,hsv,hH,hb,hoth⟩,hPd⟩:=hR
 have hlt:=Fm hPd
 refine⟨⟨bs++[.gone],?_,?_,?_,hb,hoth.keep MQ⟩,fun p hp=>?_⟩
 ·have e:(er (⟨Yi s.hp,d,z⟩::Pd) ((s.upd (.new z.ho)).put (some d) (.ptr (Yi s.hp) 0))).fr=Kq (er Pd s).fr d .junk:=by
   show Kq (XL (Kq s.fr d (.ptr (Yi s.hp) 0)) Pd) d .junk=Kq (XL s.fr Pd) d .junk
   rw[BH hd,AN]
  rw[e]
  exact(hf.junkAt d).keep MQ (Qx _ none) JA
 ·exact RepLL.keep MQ (Qx _ none) hsv
 ·have e:(er (⟨Yi s.hp,d,z⟩::Pd) ((s.upd (.new z.ho)).put (some d) (.ptr (Yi s.hp) 0))).hp=Qg (er Pd s).hp .gone:=by
   show KL (K4 (Qg s.hp z.ho) Pd) (Yi s.hp) .gone=Qg (K4 s.hp Pd) .gone
   rw[EX hlt]
   have:=YbQ (K4 s.hp Pd) z.ho .gone
   rw[Gr]at this
   exact this
  rw[e]
  exact Yhv hH
 ·rcases Kz.1 hp with rfl|hp
  ·exact⟨MD _ _,AN _ _ _ _⟩
  ·refine⟨?_,?_⟩
   ·show Ys (Qg s.hp z.ho) p.idx=_
    rw[Gi _ _ _ (hlt p hp)];exact(hPd p hp).1
   ·show Kq (Kq s.fr d _) p.slot _=Kq s.fr d _
    rw[FG _ _ _ _ _ (fun e=>hd p hp e.symm),(hPd p hp).2]
def B9:Nat->List (Nat×AL)->List KT->List KT
 |_,[],Pd=>Pd
 |n,(d,z)::l,Pd=>B9 (n+1) l (⟨n,d,z⟩::Pd)
def Mn:List (Nat×AL)->List Nat->Bool
 | [],_=>true
 | (d,_)::l,ds=>!ds.contains d&&Mn l (d::ds)
theorem Yal{a:Act}{sv:List Act}:∀(al:List (Nat×AL))(Pd:List KT)(s:S),Mn al (Pd.map (·.slot))=true->PR w0 Pd s a sv w->PR w0 (B9 (Yi s.hp) al Pd) (Ug s al) a sv w
 | [],_,_,_,h=>h
 | (d,z)::l,Pd,s,hdis,h=>by
   simp only[Mn,YS,ZY]at hdis
   have hd:∀q∈Pd,q.slot≠d:=by
    intro q hq he
    have:(Pd.map (·.slot)).contains d=true:=by
     rw[List.contains_iff_mem,QM];exact⟨q,hq,he⟩
    rw[hdis.1]at this;cases this
   have:=Yal l (⟨Yi s.hp,d,z⟩::Pd) _ (by simpa using hdis.2) (YkU h (z:=z) hd)
   have hl:Yi ((s.upd (.new z.ho)).put (some d) (.ptr (Yi s.hp) 0)).hp=Yi s.hp+1:=Gs _ _
   rw[hl]at this
   exact this
theorem Yau{a:Act}{sv:List Act}(h:Rl w0 s a sv w):PR w0 [] s a sv w:=⟨h,fun _ hp=>by cases hp⟩
theorem YgN(p q:KT)(l:List KT):er (p::q::l) s=er (q::p::l) s:=by
 have h1:∀(fr:List SV),Kq (Kq fr q.slot .junk) p.slot .junk=Kq (Kq fr p.slot .junk) q.slot .junk:=fun fr=>by
  by_cases h:q.slot=p.slot
  ·rw[h]
  ·exact FG _ _ _ _ _ h
 have h2:∀(hp:List HO),KL (KL hp q.idx .gone) p.idx .gone=KL (KL hp p.idx .gone) q.idx .gone:=fun hp=>by
  by_cases h:q.idx=p.idx
  ·rw[h]
  ·exact PE _ _ _ _ _ h
 simp only[er,XL,K4,h1,h2]
theorem YgL(p:KT){l l':List KT}(h:er l s=er l' s):er (p::l) s=er (p::l') s:=by
 simp only[er,S.mk.injEq,true_and]at h
 simp only[er,XL,K4,h.1,h.2]
theorem YgM(h:Pd.Perm Pd'):er Pd s=er Pd' s:=by
 induction h with
 |nil=>rfl
 |cons p _ ih=>exact YgL p ih
 |swap p q l=>exact YgN q p l
 |trans _ _ ih1 ih2=>exact ih1.trans ih2
theorem Yav{a:Act}{sv:List Act}(h:Pd.Perm Pd')(hR:PR w0 Pd s a sv w):PR w0 Pd' s a sv w:=
 ⟨by rw[<-YgM h];exact hR.1,fun p hp=>hR.2 p (h.mem_iff.2 hp)⟩
end
end Go.Vx
namespace Go.Vx
open Go.RowKit
def Qm(sil:List (Nat×KT))(L:Array Bool):List KT:=
 match sil with
 | []=>[]
 |x::r=>bif L.getD x.1 false then Qm r L else x.2::Qm r L
theorem mem_pendOf{p:KT}{L:Array Bool}:∀{sil:List (Nat×KT)},p∈Qm sil L↔∃k,(k,p)∈sil/\L.getD k false=false
 | []=>by simp [Qm]
 |x::r=>by
  unfold Qm
  cases hl:L.getD x.1 false with
  |true=>
   simp only[cond_true]
   rw[mem_pendOf (sil:=r)]
   constructor
   ·rintro⟨k,h1,h2⟩;exact⟨k,KX _ h1,h2⟩
   ·rintro⟨k,h1,h2⟩
    rcases Kz.1 h1 with rfl|h1
    ·rw[hl]at h2;cases h2
    ·exact⟨k,h1,h2⟩
  |false=>
   simp only[cond_false,Kz]
   rw[mem_pendOf (sil:=r)]
   constructor
   ·rintro(rfl| ⟨k,h1,h2⟩)
    ·exact⟨x.1,.inl rfl,hl⟩
    ·exact⟨k,.inr h1,h2⟩
   ·rintro⟨k,rfl|h1,h2⟩
    ·exact .inl rfl
    ·exact .inr ⟨k,h1,h2⟩
theorem L5{L:Array Bool}{i:Nat}:∀{sil:List (Nat×KT)},(∀p,(i,p)∉sil)->Qm sil (L.setIfInBounds i true)=Qm sil L
 | [],_=>rfl
 |x::r,h=>by
  unfold Qm
  have hx:i≠x.1:=by
   intro e
   exact h x.2 (by rw[e];exact KR)
  rw[getD_set_ne false hx,L5 (sil:=r) fun p hp=>h p (KX _ hp)]
theorem Yak{L:Array Bool}{i:Nat}{p:KT}(hi:i<L.size)(hl:L.getD i false=false):∀{sil:List (Nat×KT)},(sil.map (·.1)).Nodup->(i,p)∈sil->(Qm sil L).Perm (p::Qm sil (L.setIfInBounds i true))
 |x::r,hn,hm=>by
  rw[KH,List.nodup_cons]at hn
  by_cases hx:x.1=i
  ·have hp:x=(i,p):=by
    rcases Kz.1 hm with rfl|hm
    ·rfl
    ·exact absurd (QM.2 ⟨_,hm,hx.symm⟩) hn.1
   subst hp
   have hr:∀q,(i,q)∉r:=fun q hq=>hn.1 (QM.2 ⟨_,hq,rfl⟩)
   unfold Qm
   simp only[hl,cond_false]
   have:(L.setIfInBounds i true).getD i false=true:=by simp [hi]
   rw[this,L5 hr]
   exact List.Perm.refl _
  ·have hm':(i,p)∈r:=by
    rcases Kz.1 hm with rfl|hm
    ·exact absurd rfl hx
    ·exact hm
   have ih:=Yak hi hl hn.2 hm'
   unfold Qm
   rw[getD_set_ne false (Ne.symm hx)]
   cases L.getD x.1 false with
   |true=>exact ih
   |false=>exact(List.Perm.cons _ ih).trans (List.Perm.swap _ _ _)
theorem Yaj{n:Nat}:∀{sil:List (Nat×KT)},Qm sil (Ve n false)=sil.map (·.2)
 | []=>rfl
 |x::r=>by
  unfold Qm
  have:(Ve n false).getD x.1 false=false:=by
   rcases YY x.1 n with h'|h'
   ·simp [h']
   ·simp [Array.getElem?_eq_none,h']
  rw[this,Yaj (sil:=r)]
  rfl
theorem RV{md:Region.Mode}{ops:Array Oper}(hb:∀(i:Nat) (o:Oper),ops[i]? =some o->∀e∈o.after,Region.binds md e=true->e.on<i){L:Array Bool}(hd:Down md ops L)(hr:Region.ready md ops L=[]):
 ∀(N i:Nat),i<N->i<ops.size->L.getD i false=true
 |N+1,i,hi,hn=>by
  cases hl:L.getD i false with
  |true=>rfl
  |false=>
   have ho:ops[i]? =some ops[i]:=Array.getElem?_eq_getElem hn
   have hL:i<L.size:=by rw[hd.1];exact hn
   have:i∈Region.ready md ops L:=mem_ready.2 ⟨by simp [hL]at hl⊢;exact hl,_,ho,fun e he hbi=>by
    have:=hb i _ ho e he hbi
    exact RV hb hd hr N e.on (by omega) (by omega)⟩
   rw[hr]at this;cases this
section
variable {P:Program} {E:Env} {G:VOp->(S->Prop)->S->Prop} {w0:Cx} {rd:Option Nat} {all:Array Oper} {tab:List DT} {sil:List (Nat×KT)} {clo:Nat->Nat->Bool} {md:Region.Mode}
structure Cu (P:Program) (all:Array Oper) (tab:List DT) (sil:List (Nat×KT)) (clo:Nat->Nat->Bool):Prop where
 nodup:(sil.map (·.1)).Nodup
 apart:∀x∈sil,∀y∈sil,x.1≠y.1->x.2.slot≠y.2.slot/\x.2.idx≠y.2.idx
 silent:∀(i d:Nat),tab[i]? =some (.silent d)->∃p o elem,(i,p)∈sil/\all[i]? =some o/\o.op= .alloc elem/\o.guard=none/\p.cells.is P elem/\o.dst=some p.slot
 op:∀(i:Nat)(v:VOp)(chk:List (Nat×X)),tab[i]? =some (.op v chk)->(∀p,(i,p)∉sil)/\(∃o,all[i]? =some o/\Vd P all o=some v)/\
  ∀x∈sil,(clo i x.1=true\/(x.2.slot∉v.reads/\(v.op.isAppend=true->x.2.cells.clean=true)))/\v.dst≠some x.2.slot
 loud:∀(i:Nat)(v:VOp),tab[i]? =some (.loud v)->sil=[]/\∃o,all[i]? =some o/\Vd P all o=some v
structure HF (P:Program) (G:VOp->(S->Prop)->S->Prop) (rd:Option Nat) (all:Array Oper) (κ:Km) (c0:Cx0) (ks:List (Nat×Obj)) (sv:List Act):Prop where
 sat:UZ P c0
 mono:∀v (A B:S->Prop) s,(∀s,A s->B s)->G v A s->G v B s
 ok:∀{i:Nat}{o:Oper}{v:VOp}{A:S->Prop}{s:S},all[i]? =some o->Vd P all o=some v->G v A s->∀{J:Nat->Option IK}{hJ:Ext c0 J}{a:Act}{w:World},Rl ⟨c0.wI J hJ,ks⟩ s a sv w->
  wpOpIn (Wd rd) 0 P all κ i (fun a' w'=> ∃s',A s'/\∃J',∃hJ':Ext c0 J',Rl ⟨c0.wI J' hJ',ks⟩ s' a' sv w') a w
theorem hop(hE:YD P E)(hc:Cn md all clo)(hr:Cu P all tab sil clo){c0:Cx0}{ks:List (Nat×Obj)}{κ:Km}{sv:List Act}(hG:HF P G rd all κ c0 ks sv)(i:Nat)(L:Array Bool)(s:S)(A:S->Prop)(a:Act)(w:World)
 (hi:i∈Region.ready md all L)(h:KF E G tab i L A s)(hR:Down md all L/\∃J,∃hJ:Ext c0 J,PR ⟨c0.wI J hJ,ks⟩ (Qm sil L) s a sv w):
 wpOpIn (Wd rd) 0 P all κ i (fun a' w'=> ∃s',A s'/\(Down md all (L.setIfInBounds i true)/\∃J,∃hJ:Ext c0 J,PR ⟨c0.wI J hJ,ks⟩ (Qm sil (L.setIfInBounds i true)) s' a' sv w')) a w:=by
 obtain⟨hd,J,hJ,hR⟩:=hR
 have hd':=hd.set hi
 unfold KF at h
 cases ht:tab[i]? with
 |none=>rw[ht]at h;exact h.elim
 |some t=>
  rw[ht]at h
  cases t with
  |silent d=>
   obtain⟨p,o,elem,hm,ho,hop,hg,hz,hdst⟩:=hr.silent i d ht
   have hsz:i<L.size:=by rw[hd.1];exact(Xr.1 ho).1
   have hR':=Yav (Yak hsz (Nu hi) hr.nodup hm) hR
   have hap:∀q∈Qm sil (L.setIfInBounds i true),q.slot≠p.slot/\q.idx≠p.idx:=by
    intro q hq
    obtain⟨k,hk,hkl⟩:=mem_pendOf.1 hq
    refine hr.apart (k,q) hk (i,p) hm ?_
    rintro(rfl:k=i)
    simp [hsz]at hkl
   exact Ye2 ho hop hg hz hdst (fun q hq=>(hap q hq).2) (fun q hq=>(hap q hq).1) hR' fun a' w' h'=>⟨s,h,hd',J,hJ,h'⟩
  |op v chk=>
   obtain⟨hns,⟨o,ho,hv⟩,hst⟩:=hr.op i v chk ht
   have hpend:∀p∈Qm sil L,(p.slot∉v.reads/\(v.op.isAppend=true->p.cells.clean=true))/\v.dst≠some p.slot:=by
    intro p hp
    obtain⟨k,hk,hkl⟩:=mem_pendOf.1 hp
    obtain⟨h1,h2⟩:=hst (k,p) hk
    refine⟨h1.resolve_left fun hck=>?_,h2⟩
    have:=hc.ready L i k hd hi hck
    rw[hkl]at this;cases this
   refine wpOpIn_mono (fun a' w' ⟨s',h1,J',hJ',h2⟩=>⟨s',h1,hd',J',hJ',by rw[L5 hns];exact h2⟩) (Tk hE hG.sat ho hv (fun p hp=>(hpend p hp).1.1) (fun p hp=>(hpend p hp).2) (fun ha p hp=>(hpend p hp).1.2 ha) h.2 hR)
  |loud v=>
   obtain⟨hsil,o,ho,hv⟩:=hr.loud i v ht
   have hpe:∀L,Qm sil L=[]:=fun L=>by rw[hsil];rfl
   rw[hpe]at hR
   simp only[hpe]
   rcases h with h|h
   ·exact wpOpIn_mono (fun a' w' ⟨s',h1,J',hJ',h2⟩=>⟨s',h1,hd',J',hJ',h2⟩) (Tk hE hG.sat ho hv (fun p hp=>(by cases hp)) (fun p hp=>(by cases hp)) (fun ha p hp=>(by cases hp)) h hR)
   ·exact wpOpIn_mono (fun a' w' ⟨s',h1,J',hJ',h2⟩=>⟨s',h1,hd',J',hJ',Yau h2⟩) (hG.ok ho hv h hR.1)
theorem Ym4(hE:YD P E)(hm:P.follows .mixedOrders=true){cl:List Nat}(hl:cl.length=all.size)(hcl:Ga (Je .any all) cl all.size=true)(hr:Cu P all tab sil (Jn cl)){free:Nat->Bool}
 (hfree:∀i,free i=true->(∃d,tab[i]? =some (.silent d))\/∃v,tab[i]? =some (.op v [])/\v.op.quiet=true/\∀(j:Nat) (t:DT),tab[j]? =some t->Me (Jn cl) i v j t=true)
 {K:S->Prop}{κ:Km}{s:S}{a:Act}{sv:List Act}{w:World}{id:Nat}
 (h:(∀(j:Nat) (L:Array Bool) (s:S) (A B:S->Prop),(∀s,A s->B s)->KF E G tab j L A s->KF E G tab j L B s)->(∀i L s,free i=true->¬KF E G tab i L (fun _=>False) s)->
   (∀(i:Nat),free i=true->∀(j:Nat) (L:Array Bool) (s:S) (A:S->Prop),Down .any all L->i∈Region.ready .any all L->j∈Region.ready .any all L->j≠i->KF E G tab i L (KF E G tab j (L.setIfInBounds i true) A) s->KF E G tab j L (KF E G tab i (L.setIfInBounds j true) A) s)->
   WN (KF E G tab) K .any all all.size (Ve all.size false) s){c0:Cx0}{ks:List (Nat×Obj)}{J:Nat->Option IK}{hJ:Ext c0 J}(hG:HF P G rd all κ c0 ks sv)(hR:PR ⟨c0.wI J hJ,ks⟩ (sil.map (·.2)) s a sv { w with drawn:=w.drawn+1}) (hK:∀s a w J (hJ:Ext c0 J),K s->Rl ⟨c0.wI J hJ,ks⟩ s a sv w->κ .normal a w) (hall:∀x∈sil,x.1<all.size) (hbel:∀(i:Nat)(o:Oper),all[i]? =some o->∀e∈o.after,Region.binds .any e=true->e.on<i):(Code.region id all true).wpIn (Wd rd) 0 P κ a w:=by
 have hc:=Yf5 hl hcl
 refine wpIn_region_any hm ?_
 have hany:=h (Yce hG.mono) ?_ ?_
 ·refine Ye9 (step:=KF E G tab) (K:=K) (P:=P) (Q:=κ) (fun L s a w=>Down .any all L/\∃J,∃hJ:Ext c0 J,PR ⟨c0.wI J hJ,ks⟩ (Qm sil L) s a sv w) (fun i L s A a w hi hs hR=>hop hE hc hr hG i L s A a w hi hs hR) ?_ _ _ s a _ hany ⟨Er,J,hJ,?_⟩
  ·rintro L s a w hr0 hKs ⟨hd,J,hJ,hPR⟩
   have:Qm sil L=[]:=by
    cases hp:Qm sil L with
    |nil=>rfl
    |cons p r=>
     obtain⟨k,hk,hkl⟩:=mem_pendOf.1 (show p∈Qm sil L by rw[hp];exact KR)
     have:=RV hbel hd hr0 (k+1) k (by omega) (hall _ hk)
     rw[hkl]at this;cases this
   rw[this]at hPR
   exact hK s a w J hJ hKs hPR.1
  ·rw[Yaj];exact hR
 ·intro i L s hf hstep
  rcases hfree i hf with⟨d,ht⟩ | ⟨v,ht,hq,_⟩
  ·unfold KF at hstep;rw[ht]at hstep;exact hstep
  ·unfold KF at hstep;rw[ht]at hstep;exact Tj hq hstep.2
 ·intro i hf j L s A hd hri hrj hji hs
  rcases hfree i hf with⟨d,ht⟩ | ⟨v,ht,hq,hcm⟩
  ·have hsi:∀(L:Array Bool)(A:S->Prop)(s:S),KF E G tab i L A s=A s:=by
    intro L A s;unfold KF;rw[ht]
   rw[hsi]at hs
   refine Yce hG.mono j L s _ _ (fun s' hs'=>by rw[hsi];exact hs') ?_
   unfold KF at hs⊢
   cases htj:tab[j]? with
   |none=>rw[htj]at hs;exact hs
   |some t=>
    rw[htj]at hs
    cases t with
    |silent d=>exact hs
    |op u chk=>exact⟨fun c hcm hcl=>hs.1 c hcm (getD_set_true hcl),hs.2⟩
    |loud u=>exact hs
  ·exact Yoh hc ht hq hcm j L s A hd hri hrj hji hs
theorem Yng{s:S}{a:Act}{sv:List Act}{w:World}(h:Rl w0 s a sv w)(n:Nat):Rl w0 s a sv { w with drawn:=n}:=by
 obtain⟨bs,hf,hsv,hH,hb,hoth⟩:=h
 have hk:Keeps w bs { w with drawn:=n} bs:=fun b hf o ho=>⟨ho,hf⟩
 have hst:Stays none bs bs:=fun _ _ _ h _=>h
 exact⟨bs,hf.keep hk hst JA,hsv.keep hk hst,⟨hH.len,fun i=>(hH.ent i).keep hk hst rfl (fun _ _ _ _=>rfl),hH.inj,hH.lo,Vz hk hH.reg⟩,⟨hb.os,hb.tape,hb.output,hb.size,hb.block⟩,hoth.keep hk⟩
end
end Go.Vx
namespace Go.Vx
open Go.RowKit
def Hg(lf:FuncId->Bool)(clo:Nat->Nat->Bool)(all:List VOp)(v:VOp)(j:Nat):DT:=
 match X7 v with
 |some (d,_)=> .silent d
 |none=>bif Vo lf v then .loud v else .op v (bif v.op.isStore then Dq clo j all 0 else bif v.op.isAppend then Dc clo j all 0 else [])
theorem FJ{lf:FuncId->Bool}{clo:Nat->Nat->Bool}{all:List VOp}:∀(l:List VOp)(j i:Nat),(J7 lf clo all l j)[i]? =(l[i]?).map fun v=>Hg lf clo all v (j+i)
 | [],_,_=>by simp [J7]
 |v::l,j,0=>by
  simp only[J7,VK,Option.map_some,KO,Hg]
  cases X7 v <;> rfl
 |v::l,j,i+1=>by
  simp only[J7,List.getElem?_cons_succ]
  rw[FJ l (j+1) i]
  congr 1
  funext v
  rw[show j+1+i=j+(i+1)by omega]
theorem mem_silOf{k d:Nat}{z:AL}:∀{l:List VOp}{j:Nat},(k,d,z)∈XB l j↔∃i v,l[i]? =some v/\k=j+i/\X7 v=some (d,z)
 | [],j=>by simp [XB]
 |v::l,j=>by
  have ih:=mem_silOf (k:=k) (d:=d) (z:=z) (l:=l) (j:=j+1)
  unfold XB
  cases hs:X7 v with
  |none=>
   simp only
   rw[ih]
   constructor
   ·rintro⟨i,u,h1,h2,h3⟩;exact⟨i+1,u,by simpa using h1,by omega,h3⟩
   ·rintro⟨i,u,h1,h2,h3⟩
    cases i with
    |zero=>simp only[VK,Option.some.injEq]at h1;subst h1;rw[hs]at h3;cases h3
    |succ i=>exact⟨i,u,by simpa using h1,by omega,h3⟩
  |some r=>
   obtain⟨d',z'⟩:=r
   simp only[Kz]
   rw[ih]
   constructor
   ·rintro(h| ⟨i,u,h1,h2,h3⟩)
    ·cases h;exact⟨0,v,rfl,rfl,hs⟩
    ·exact⟨i+1,u,by simpa using h1,by omega,h3⟩
   ·rintro⟨i,u,h1,h2,h3⟩
    cases i with
    |zero=>simp only[VK,Option.some.injEq]at h1;subst h1;rw[hs]at h3;cases h3;left;rw[h2];rfl
    |succ i=>exact .inr ⟨i,u,by simpa using h1,by omega,h3⟩
theorem Ydu{P:Program}{all:Array Oper}:∀{rest:List Oper}{vs:List VOp},Xq P all rest=some vs->∀(i:Nat)(v:VOp),vs[i]? =some v->∃o,rest[i]? =some o/\Vd P all o=some v
 | [],vs,h,i,v,hv=>by simp only[Xq,Option.some.injEq]at h;subst h;simp at hv
 |o::l,vs,h,i,v,hv=>by
  simp only[Xq]at h
  obtain⟨x,hx,h⟩:=YE.1 h
  obtain⟨y,hy,rfl⟩:=YQ.1 h
  cases i with
  |zero=>simp only[VK,Option.some.injEq]at hv;subst hv;exact⟨o,rfl,hx⟩
  |succ i=>exact Ydu hy i v (by simpa using hv)
theorem SZ{clo:Nat->Nat->Bool}{i:Nat}{v:VOp}:∀{l:List DT}{j:Nat},Md clo i v l j=true->∀(k:Nat)(t:DT),l[k]? =some t->Me clo i v (j+k) t=true
 |t::l,j,h,0,u,hu=>by
  simp only[Md,YS]at h
  simp only[VK,Option.some.injEq]at hu;subst hu;exact h.1
 |t::l,j,h,k+1,u,hu=>by
  simp only[Md,YS]at h
  have:=SZ h.2 k u (by simpa using hu)
  rw[show j+1+k=j+(k+1)by omega]at this
  exact this
end Go.Vx
namespace Go.Vx
open Go.RowKit
theorem Oa:∀l:List SV,BR l=YK l
 | []=>rfl
 |_::l=>congrArg (·+1) (Oa l)
def AL.op:AL->VO
 | .box z=> .alloc z
 | .arr n size z=> .allocArr n size z
def AL.ok:AL->Prop
 | .box _=>True
 | .arr n size z=>YK z=n*size
theorem YnX{v:VOp}{d:Nat}{z:AL}(h:X7 v=some (d,z)):v.dst=some d/\v.g=none/\v.op=z.op/\z.ok:=by
 unfold X7 at h
 split at h
 ·cases h;exact⟨rfl,rfl,rfl,trivial⟩
 ·rename_i n size z' _
  cases hb:YJ (BR z') (n*size)with
  |true=>rw[hb]at h;cases h;exact⟨rfl,rfl,rfl,(Oa z').symm.trans (Jy hb)⟩
  |false=>rw[hb]at h;cases h
 ·cases h
theorem Yq1{P:Program}{o:Oper}{z:AL}{ops:List Operand}{elem:TypeId}(ho:o.op= .alloc elem)(h:vop P o=some (AL.op z,ops))(hk:AL.ok z):z.is P elem:=by
 obtain⟨dst,op,type,pos,after,guard⟩:=o
 simp only at ho
 subst ho
 unfold vop at h
 simp only at h
 split at h
 ·obtain⟨_,hz,h⟩:=YE.1 h
  obtain⟨_,_,h⟩:=YQ.1 h
  cases z <;> cases h
  exact⟨hz,hk⟩
 ·obtain⟨_,hz,h⟩:=YQ.1 h
  cases z <;> cases h
  exact hz
theorem RY:∀{os:List Oper}{vs:List VOp},G5 os vs=true->∀(i:Nat)(o:Oper)(v:VOp),os[i]? =some o->vs[i]? =some v->(X7 v).isSome=true->∃e,o.op= .alloc e
 | [],_,_,i,o,v,h,_,_=>by simp at h
 |_::_,[],_,i,o,v,_,h,_=>by simp at h
 |o'::os,v'::vs,h,0,o,v,h1,h2,h3=>by
  simp only[VK,Option.some.injEq]at h1 h2
  subst h1;subst h2
  simp only[G5,YS]at h
  have h:=h.1
  cases hs:X7 v' with
  |none=>rw[hs]at h3;cases h3
  |some x=>
   rw[hs]at h
   simp only at h
   split at h
   ·exact⟨_,‹_›⟩
   ·cases h
 |o'::os,v'::vs,h,i+1,o,v,h1,h2,h3=>by
  simp only[G5,YS]at h
  exact RY h.2 i o v (by simpa using h1) (by simpa using h2) h3
def VD:Nat->List (Nat×Nat×AL)->List (Nat×KT)
 |_,[]=>[]
 |n,(j,d,z)::l=>(j,⟨n,d,z⟩)::VD (n+1) l
theorem MU{j:Nat}{p:KT}:∀{l:List (Nat×Nat×AL)}{n:Nat},(j,p)∈VD n l->n<=p.idx/\(j,p.slot,p.cells)∈l
 | [],_,h=>by cases h
 | (j',d,z)::l,n,h=>by
   rcases Kz.1 h with h|h
   ·cases h;exact⟨Yt _,KR⟩
   ·have:=MU h;exact⟨by omega,KX _ this.2⟩
theorem Yb4{j d:Nat}{z:AL}:∀{l:List (Nat×Nat×AL)}{n:Nat},(j,d,z)∈l->∃p,(j,p)∈VD n l/\p.slot=d/\p.cells=z
 | [],_,h=>by cases h
 | (j',d',z')::l,n,h=>by
   rcases Kz.1 h with h|h
   ·cases h;exact⟨_,KR,rfl,rfl⟩
   ·obtain⟨p,h1,h2⟩:=Yb4 (n:=n+1) h
    exact⟨p,KX _ h1,h2⟩
theorem Yb3:∀{l:List (Nat×Nat×AL)}{n:Nat},(VD n l).map (·.1)=l.map (·.1)
 | [],_=>rfl
 | (j,d,z)::l,n=>by simp only[VD,KH,Yb3]
theorem YnW{x:Nat×Nat×AL}{l:List VOp}{j:Nat}(h:x∈XB l j):j<=x.1:=by
 obtain⟨k,d,z⟩:=x
 obtain⟨i,v,_,h2,_⟩:=mem_silOf.1 h
 simp only;omega
theorem PJ:∀{l:List VOp}{j:Nat},((XB l j).map (·.1)).Nodup
 | [],_=> .nil
 |v::l,j=>by
  unfold XB
  cases X7 v with
  |none=>exact PJ
  |some r=>
   obtain⟨d,z⟩:=r
   simp only[KH,List.nodup_cons]
   refine⟨fun h=>?_,PJ⟩
   obtain⟨x,hx,h⟩:=QM.1 h
   have:=YnW hx;omega
theorem Tf:∀{l:List Nat},HX l=true->l.Nodup
 | [],_=> .nil
 |d::l,h=>by
  simp only[HX,YS,ZY]at h
  rw[List.nodup_cons]
  refine⟨fun hm=>?_,Tf h.2⟩
  have:l.contains d=true:=by rw[List.contains_iff_mem];exact hm
  rw[h.1]at this;cases this
theorem Yb2:∀{l:List (Nat×Nat×AL)}{n:Nat},(l.map (·.2.1)).Nodup->∀x∈VD n l,∀y∈VD n l,x.1≠y.1->x.2.slot≠y.2.slot/\x.2.idx≠y.2.idx
 | [],_,_,x,hx,_,_,_=>by cases hx
 | (j,d,z)::l,n,hn,x,hx,y,hy,hxy=>by
   simp only[KH,List.nodup_cons]at hn
   have key:∀u∈VD (n+1) l,u.2.slot≠d/\u.2.idx≠n:=by
    rintro⟨k,p⟩ hu
    obtain⟨h1,h2⟩:=MU hu
    refine⟨fun e=>hn.1 (QM.2 ⟨_,h2,e⟩),?_⟩
    simp only;omega
   rcases Kz.1 hx with rfl|hx <;> rcases Kz.1 hy with rfl|hy
   ·exact absurd rfl hxy
   ·exact⟨fun e=>(key y hy).1 e.symm,fun e=>(key y hy).2 e.symm⟩
   ·exact key x hx
   ·exact Yb2 hn.2 x hx y hy hxy
theorem pends_perm:∀{l:List (Nat×Nat×AL)}{n:Nat}{Pd:List KT},(B9 n (l.map (·.2)) Pd).Perm ((VD n l).map (·.2)++Pd)
 | [],_,_=>List.Perm.refl _
 | (j,d,z)::l,n,Pd=>by
   simp only[KH,B9,VD,Ws]
   exact pends_perm.trans List.perm_middle
theorem Ygl{al:List (Nat×AL)}:∀{ds:List Nat},(al.map (·.1)).Nodup->(∀d∈al.map (·.1),d∉ds)->Mn al ds=true:=by
 induction al with
 |nil=>intros;rfl
 |cons x al ih=>
  obtain⟨d,z⟩:=x
  intro ds hn hd
  simp only[KH,List.nodup_cons]at hn
  simp only[Mn,YS,ZY]
  refine⟨?_,ih hn.2 fun e he hm=>?_⟩
  ·cases hc:ds.contains d with
   |false=>rfl
   |true=>rw[List.contains_iff_mem]at hc;exact absurd hc (hd d (by simp))
  ·rcases Kz.1 hm with rfl|hm
   ·exact hn.1 he
   ·exact hd e (by simp only[KH,Kz];exact .inr he) hm
theorem AU{clo:Nat->Nat->Bool}{sil:List (Nat×Nat×AL)}:∀{l:List DT}{j:Nat},Wl clo sil l j=true->∀(k:Nat)(v:VOp)(chk:List (Nat×X)),l[k]? =some (.op v chk)->
 ∀x∈sil,(clo (j+k) x.1=true\/(x.2.1∉v.reads/\(v.op.isAppend=true->x.2.2.clean=true)))/\v.dst≠some x.2.1
 | [],_,_,k,v,chk,h,_,_=>by simp at h
 | .silent _::l,j,h,0,v,chk,hk,_,_=>by simp at hk
 | .silent _::l,j,h,k+1,v,chk,hk,x,hx=>by
   have:=AU (l:=l) (j:=j+1) h k v chk (by simpa using hk) x hx
   rwa [show j+1+k=j+(k+1)by omega]at this
 | .loud _::l,j,h,0,v,chk,hk,_,_=>by simp at hk
 | .loud _::l,j,h,k+1,v,chk,hk,x,hx=>by
   simp only[Wl,YS]at h
   have:=AU (l:=l) (j:=j+1) h.2 k v chk (by simpa using hk) x hx
   rwa [show j+1+k=j+(k+1)by omega]at this
 | .op u c::l,j,h,0,v,chk,hk,x,hx=>by
   simp only[VK,Option.some.injEq,DT.op.injEq]at hk
   obtain⟨rfl,rfl⟩:=hk
   simp only[Wl,YS,VJ]at h
   have:=h.1 x hx
   simp only[Qj,YS,ZY]at this
   refine⟨?_,?_⟩
   ·rcases this.1 with h1| ⟨h1,h2⟩
    ·exact .inl h1
    ·exact .inr ⟨fun hm=>absurd ((List.contains_iff_mem (a:=x.2.1)).2 hm) (by rw[h1];simp),fun ha=>by rcases h2 with h2|h2;(rw[ha]at h2;cases h2);exact h2⟩
   ·intro e
    have:=this.2
    rw[e]at this
    simp at this
 | .op u c::l,j,h,k+1,v,chk,hk,x,hx=>by
   simp only[Wl,YS]at h
   have:=AU (l:=l) (j:=j+1) h.2 k v chk (by simpa using hk) x hx
   rwa [show j+1+k=j+(k+1)by omega]at this
theorem AV{clo:Nat->Nat->Bool}{sil:List (Nat×Nat×AL)}:∀{l:List DT}{j:Nat},Wl clo sil l j=true->∀(k:Nat)(v:VOp),l[k]? =some (.loud v)->sil=[]
 | [],_,_,k,v,h=>by simp at h
 | .silent _::l,j,h,0,v,hk=>by simp at hk
 | .silent _::l,j,h,k+1,v,hk=>AV (l:=l) (j:=j+1) h k v (by simpa using hk)
 | .op u c::l,j,h,0,v,hk=>by simp at hk
 | .op u c::l,j,h,k+1,v,hk=>by
   simp only[Wl,YS]at h
   exact AV (l:=l) (j:=j+1) h.2 k v (by simpa using hk)
 | .loud _::l,j,h,0,v,hk=>by
   simp only[Wl,YS]at h
   have h:=h.1
   split at h
   ·rfl
   ·cases h
 | .loud _::l,j,h,k+1,v,hk=>by
   simp only[Wl,YS]at h
   exact AV (l:=l) (j:=j+1) h.2 k v (by simpa using hk)
theorem Sl:∀{l:List Nat}{j:Nat},G9 l j=true->∀k,l.getD k 0<2^(j+k)
 | [],j,_,k=>by simp;exact QC _
 |m::l,j,h,0=>by
  simp only[G9,YS]at h
  have:=h.1
  simp only[Nat.blt_eq]at this
  simpa using this
 |m::l,j,h,k+1=>by
  simp only[G9,YS]at h
  have:=Sl h.2 k
  rw[show j+1+k=j+(k+1)by omega]at this
  simpa using this
theorem T2{clo:Nat->Nat->Bool}{tab:List DT}:∀(n j i:Nat),(V5 clo tab n j).getD i false=true->EF clo tab (j+i)=true
 |0,_,_,h=>by simp [V5]at h
 |n+1,j,0,h=>by simpa [V5]using h
 |n+1,j,i+1,h=>by
  have:=T2 (clo:=clo) (tab:=tab) n (j+1) i (by simpa [V5]using h)
  rwa [show j+1+i=j+(i+1)by omega]at this
theorem Cf{P:Program}{all:Array Oper}:∀{rest:List Oper}{vs:List VOp},Xq P all rest=some vs->vs.length=rest.length
 | [],vs,h=>by simp only[Xq,Option.some.injEq]at h;subst h;rfl
 |o::l,vs,h=>by
  simp only[Xq]at h
  obtain⟨x,hx,h⟩:=YE.1 h
  obtain⟨y,hy,rfl⟩:=YQ.1 h
  simp [Cf hy]
def OT.all:OT->List Nat
 | .nil=>[]
 | .op i t=>i::t.all
 | .br a b=>a.all++b.all
def Vi(E:Env)(G:VOp->(S->Prop)->S->Prop)(A:S->Prop):List DOp->S->Prop
 | [],s=>A s
 | ⟨v,chk⟩::l,s=>U9 v.op.isAppend s (s.x (Xh v.xs)) chk/\(Ql E v (Vi E G A l) s\/G v (Vi E G A l) s)
def UB(E:Env)(G:VOp->(S->Prop)->S->Prop)(A:S->Prop):DTr->S->Prop
 | .leaf,s=>A s
 | .ops l t,s=>Vi E G (UB E G A t) l s
 | .br a b,s=>UB E G A a s/\UB E G A b s
theorem SO{s:S}{y:SV}:∀{l:List X},Mb s y l->∀x∈l,MY (s.x x) y
 |x::l,h,z,hz=>by
  rcases Kz.1 hz with rfl|hz
  ·exact h.1
  ·exact SO h.2 z hz
theorem SR{s:S}{y:SV}:∀{l:List X},Mc s y l->∀x∈l,HM (s.x x) y
 |x::l,h,z,hz=>by
  rcases Kz.1 hz with rfl|hz
  ·exact h.1
  ·exact SR h.2 z hz
theorem SQ{ap:Bool}{s:S}{y:SV}{l:List X}(h:U9 ap s y l)(x:X)(hx:x∈l):Dp ap (s.x x) y:=by
 cases ap with
 |false=>exact SR h x hx
 |true=>exact SO h x hx
theorem NC{E:Env}{G:VOp->(S->Prop)->S->Prop}{A:S->Prop}{tab:List DT}(hGm:∀v (A B:S->Prop) s,(∀s,A s->B s)->G v A s->G v B s)(hGn:∀(i:Nat) (v:VOp) (chk:List (Nat×X)) (A:S->Prop) (s:S),tab[i]? =some (.op v chk)->¬G v A s):
 ∀{order:List Nat}{L:Array Bool}{s:S},(∀i∈order,i<tab.length)->Vi E G A (Ge tab order) s->AJ (KF E G tab) A order L s
 | [],_,_,_,h=>h
 |i::order,L,s,hi,h=>by
  have hlt:=hi i KR
  unfold Ge at h
  unfold AJ KF
  cases ht:tab[i]? with
  |none=>rw[List.getElem?_eq_none_iff]at ht;omega
  |some t=>
   rw[ht]at h
   cases t with
   |silent d=>exact NC hGm hGn (fun j hj=>hi j (KX _ hj)) h
   |op v chk=>
    simp only at h⊢
    refine⟨fun c hc _=>SQ h.1 c.2 (QM.2 ⟨c,hc,rfl⟩),V0 (fun s' h'=>NC hGm hGn (fun j hj=>hi j (KX _ hj)) h') (h.2.resolve_right (hGn i v chk _ _ ht))⟩
   |loud v=>
    simp only at h⊢
    exact h.2.imp (V0 fun s' h'=>NC hGm hGn (fun j hj=>hi j (KX _ hj)) h') (hGm v _ _ s fun s' h'=>NC hGm hGn (fun j hj=>hi j (KX _ hj)) h')
theorem Hz{E:Env}{G:VOp->(S->Prop)->S->Prop}{A:S->Prop}{tab:List DT}(hGm:∀v (A B:S->Prop) s,(∀s,A s->B s)->G v A s->G v B s)(hGn:∀(i:Nat) (v:VOp) (chk:List (Nat×X)) (A:S->Prop) (s:S),tab[i]? =some (.op v chk)->¬G v A s):
 ∀{t:OT}{L:Array Bool}{s:S},(∀i∈t.all,i<tab.length)->UB E G A (HZ tab t) s->FL (KF E G tab) A t L s
 | .nil,_,_,_,h=>h
 | .op i t,L,s,hi,h=>by
   have hlt:=hi i (by simp [OT.all])
   have hr:∀j∈t.all,j<tab.length:=fun j hj=>hi j (by simp [OT.all,hj])
   unfold HZ UB Ge at h
   unfold FL KF
   cases ht:tab[i]? with
   |none=>rw[List.getElem?_eq_none_iff]at ht;omega
   |some x=>
    rw[ht]at h
    cases x with
    |silent d=>exact Hz hGm hGn hr h
    |op v chk=>
     simp only[Vi]at h⊢
     refine⟨fun c hc _=>SQ h.1 c.2 (QM.2 ⟨c,hc,rfl⟩),V0 (fun s' h'=>Hz hGm hGn hr h') (h.2.resolve_right (hGn i v chk _ _ ht))⟩
    |loud v=>
     simp only[Vi]at h⊢
     exact h.2.imp (V0 fun s' h'=>Hz hGm hGn hr h') (hGm v _ _ s fun s' h'=>Hz hGm hGn hr h')
 | .br a b,L,s,hi,h=>⟨Hz hGm hGn (fun j hj=>hi j (by simp [OT.all,hj])) h.1,Hz hGm hGn (fun j hj=>hi j (by simp [OT.all,hj])) h.2⟩
theorem A6{free:Nat->Bool}{dm:List Nat}{n:Nat}:∀{t:OT}{m:Nat}{ex:Bool},QW free dm n t m ex=true->∀i∈t.all,i<n
 | .op i t,m,ex,h,j,hj=>by
   simp only[QW,YS]at h
   rcases Kz.1 hj with rfl|hj
   ·have:=KC h.1.1.1;omega
   ·exact A6 h.2 j hj
 | .br a b,m,ex,h,j,hj=>by
   simp only[QW,YS]at h
   rcases Ky.1 hj with hj|hj
   ·exact A6 h.1.2 j hj
   ·exact A6 h.2 j hj
theorem YbI{free:Nat->Bool}{dm:List Nat}{n:Nat}:∀{l:List Nat}{m:Nat},FF free dm n l m=true->∀i∈l,i<n
 |i::l,m,h,j,hj=>by
  simp only[FF,YS]at h
  rcases Kz.1 hj with rfl|hj
  ·have:=KC h.1.1.1;omega
  ·exact YbI h.2 j hj
section
variable {P:Program} {E:Env} {G:VOp->(S->Prop)->S->Prop} {w0:Cx} {rd:Option Nat}
theorem To(hE:YD P E)(hm:P.follows .mixedOrders=true){ops:Array Oper}{vs:List VOp}(hvs:Xq P ops ops.toList=some vs)(c0:G5 ops.toList vs=true)(c1:YJ (Qv (Je .any ops)).length ops.size=true)(c2:Ga (Je .any ops) (Qv (Je .any ops)) ops.size=true)(c3:G9 (Je .any ops) 0=true)
 (c4:Wl (Jn (Qv (Je .any ops))) (XB vs 0) (J7 (Qd P) (Jn (Qv (Je .any ops))) vs vs 0) 0=true)(c5:HX ((XB vs 0).map (·.2.1))=true) {A:S->Prop} {κ:Km} {s:S} {a:Act} {sv:List Act} {w:World} {id:Nat}
 (h:∀s0,s0=Ug s ((XB vs 0).map (·.2))->(∀(j:Nat)(L:Array Bool)(s:S)(A B:S->Prop),(∀s,A s->B s)->KF E G (J7 (Qd P) (Jn (Qv (Je .any ops))) vs vs 0) j L A s->KF E G (J7 (Qd P) (Jn (Qv (Je .any ops))) vs vs 0) j L B s)->
   (∀i L s,(V5 (Jn (Qv (Je .any ops))) (J7 (Qd P) (Jn (Qv (Je .any ops))) vs vs 0) ops.size 0).getD i false=true->¬KF E G (J7 (Qd P) (Jn (Qv (Je .any ops))) vs vs 0) i L (fun _=>False) s)->
   (∀(i:Nat),(V5 (Jn (Qv (Je .any ops))) (J7 (Qd P) (Jn (Qv (Je .any ops))) vs vs 0) ops.size 0).getD i false=true->∀(j:Nat)(L:Array Bool)(s:S)(A:S->Prop),Down .any ops L->i∈Region.ready .any ops L->j∈Region.ready .any ops L->j≠i->KF E G (J7 (Qd P) (Jn (Qv (Je .any ops))) vs vs 0) i L (KF E G (J7 (Qd P) (Jn (Qv (Je .any ops))) vs vs 0) j (L.setIfInBounds i true) A) s->KF E G (J7 (Qd P) (Jn (Qv (Je .any ops))) vs vs 0) j L (KF E G (J7 (Qd P) (Jn (Qv (Je .any ops))) vs vs 0) i (L.setIfInBounds j true) A) s)->
   WN (KF E G (J7 (Qd P) (Jn (Qv (Je .any ops))) vs vs 0)) A .any ops ops.size (Ve ops.size false) s0) {cx:Cx0} {ks:List (Nat×Obj)} {J:Nat->Option IK} {hJ:Ext cx J} (hG:HF P G rd ops κ cx ks sv) (hGn:∀v A s,G v A s->Vo (Qd P) v=true) (hR:Rl ⟨cx.wI J hJ,ks⟩ s a sv w) (hK:∀s a w J (hJ:Ext cx J),A s->Rl ⟨cx.wI J hJ,ks⟩ s a sv w->κ .normal a w):(Code.region id ops true).wpIn (Wd rd) 0 P κ a w:=by
 have hlen:vs.length=ops.size:=by rw[Cf hvs];simp
 have htl:∀(clo:Nat->Nat->Bool)(l:List VOp)(j:Nat),(J7 (Qd P) clo vs l j).length=l.length:=by
  intro clo l
  induction l with
  |nil=>intro j;rfl
  |cons v l ih=>intro j;simp only[J7,XS,ih]
 have hsn:((XB vs 0).map (·.2.1)).Nodup:=Tf c5
 have hget:∀(i:Nat)(v:VOp),vs[i]? =some v->∃o,ops[i]? =some o/\Vd P ops o=some v:=by
  intro i v hv
  obtain⟨o,h1,h2⟩:=Ydu hvs i v hv
  exact⟨o,by simpa using h1,h2⟩
 have hok:Cu P ops (J7 (Qd P) (Jn (Qv (Je .any ops))) vs vs 0) (VD (Yi s.hp) (XB vs 0)) (Jn (Qv (Je .any ops))):=by
  refine⟨by rw[Yb3];exact PJ,Yb2 hsn,fun i d ht=>?_,fun i v chk ht=>?_,fun i v ht=>?_⟩
  ·rw[FJ]at ht
   obtain⟨v,hv,he⟩:=YQ.1 ht
   unfold Hg at he
   cases hs:X7 v with
   |none=>rw[hs]at he;simp only at he;cases hl:Vo (Qd P) v <;> rw[hl]at he <;> cases he
   |some x=>
    obtain⟨d',z⟩:=x
    rw[hs]at he;cases he
    obtain⟨o,ho,hvo⟩:=hget i v hv
    obtain⟨e,hop⟩:=RY c0 i o v (by simpa using ho) hv (by rw[hs];rfl)
    obtain⟨g1,g2,g3,g4⟩:=YnX hs
    obtain⟨xs,k1,k2,k3,k4,k5⟩:=Rm hvo
    obtain⟨p,hp,hp1,hp2⟩:=Yb4 (n:=Yi s.hp) (mem_silOf.2 ⟨i,v,hv,by omega,hs⟩:(i,d,z)∈XB vs 0)
    refine⟨p,o,e,hp,ho,hop,?_,?_,?_⟩
    ·rcases k5 with k5| ⟨_,_,_,_,_,k5⟩
     ·exact k5.1
     ·rw[g2]at k5;cases k5
    ·rw[g3]at k1;rw[hp2];exact Yq1 hop k1 g4
    ·rw[<-k4,g1,hp1]
  ·rw[FJ]at ht
   obtain⟨u,hu,he⟩:=YQ.1 ht
   unfold Hg at he
   cases hs:X7 u with
   |some x=>rw[hs]at he;cases he
   |none=>
    rw[hs]at he
    simp only at he
    cases hl:Vo (Qd P) u with
    |true=>rw[hl]at he;cases he
    |false=>
    rw[hl]at he
    simp only[cond_false,DT.op.injEq]at he
    obtain⟨rfl,hchk⟩:=he
    refine⟨fun p hp=>?_,hget i u hu,fun x hx=>?_⟩
    ·obtain⟨_,hm⟩:=MU hp
     obtain⟨i',v',h1,h2,h3⟩:=mem_silOf.1 hm
     have:i'=i:=by omega
     subst this
     rw[hu]at h1;cases h1
     rw[hs]at h3;cases h3
    ·obtain⟨k,p⟩:=x
     have:=AU c4 i u chk (by rw[FJ,hu];simp [Hg,hs,hl,<-hchk]) (k,p.slot,p.cells) (MU hx).2
     simpa using this
  ·have hsl:=AV c4 i v ht
   rw[FJ]at ht
   obtain⟨u,hu,he⟩:=YQ.1 ht
   refine⟨by rw[hsl];rfl,?_⟩
   have:u=v:=by
    unfold Hg at he
    cases hs:X7 u with
    |some x=>rw[hs]at he;cases he
    |none=>
     rw[hs]at he
     simp only at he
     cases hl:Vo (Qd P) u <;> rw[hl]at he <;> cases he
     rfl
   subst this
   exact hget i u hu
 refine Ym4 (J:=J) (hJ:=hJ) (free:=fun i=>(V5 (Jn (Qv (Je .any ops))) (J7 (Qd P) (Jn (Qv (Je .any ops))) vs vs 0) ops.size 0).getD i false) hE hm (Jy c1) c2 hok (fun i hi=>?_)
  (h _ rfl) hG ?_ hK (fun x hx=>?_) (fun i o ho e he hb=>?_)
 ·have:=T2 _ _ _ hi
  rw[KJ]at this
  unfold EF at this
  split at this
  ·exact .inl ⟨_,‹_›⟩
  ·rename_i v hv
   simp only[YS]at this
   refine .inr ⟨v,hv,this.1,fun j t ht=>?_⟩
   have:=SZ this.2 j t ht
   rwa [KJ]at this
  ·cases this
 ·have h0:=Yal (w0:=⟨cx.wI J hJ,ks⟩) ((XB vs 0).map (·.2)) [] s (Ygl (by rw[List.map_map];exact hsn) (fun _ _=>by simp)) (Yau (Yng hR (w.drawn+1)))
  have:=pends_perm (l:=XB vs 0) (n:=Yi s.hp) (Pd:=[])
  rw[Wr]at this
  exact Yav this h0
 ·obtain⟨k,p⟩:=x
  obtain⟨i,v,h1,h2,_⟩:=mem_silOf.1 (MU hx).2
  have:=(UY.1 h1).1
  simp only;omega
 ·have hlt:=Sl c3 i
  rw[DB ho,KJ]at hlt
  have hbit:(Gy .any o.after.toList).testBit e.on=true:=maskL_spec.2 ⟨e,by simpa using he,hb,rfl⟩
  rcases YY e.on i with h'|h'
  ·exact h'
  ·have:=Nat.testBit_lt_two_pow (Qt hlt (Kp (by omega) h'))
   rw[this]at hbit;cases hbit
theorem PY{lf:FuncId->Bool}{clo:Nat->Nat->Bool}{vs:List VOp}:∀(l:List VOp)(j:Nat),(J7 lf clo vs l j).length=l.length
 | [],_=>rfl
 |_::l,j=>by simp only[J7,XS,PY l]
theorem Yab{lf:FuncId->Bool}{clo:Nat->Nat->Bool}{vs:List VOp}(hGn:∀v A s,G v A s->Vo lf v=true)(i:Nat)(v:VOp)(chk:List (Nat×X))(A:S->Prop)(s:S)(h:(J7 lf clo vs vs 0)[i]? =some (.op v chk)):¬G v A s:=fun hg=>by
 rw[FJ]at h
 obtain⟨u,hu,he⟩:=YQ.1 h
 unfold Hg at he
 cases hs:X7 u with
 |some x=>rw[hs]at he;cases he
 |none=>
  rw[hs]at he
  simp only at he
  cases hl:Vo lf u with
  |true=>rw[hl]at he;cases he
  |false=>
   rw[hl]at he
   cases he
   rw[hGn _ _ _ hg]at hl;cases hl
theorem Ygw(hE:YD P E)(hm:P.follows .mixedOrders=true){ops:Array Oper}{al:List (Nat×AL)}{dl:List DOp}(hd:DE P ops=some (al,dl)){A:S->Prop}{κ:Km}{s:S}{a:Act}{sv:List Act}{w:World}{id:Nat}
 (h:Vi E G A dl (Ug s al)){cx:Cx0}{ks:List (Nat×Obj)}{J:Nat->Option IK}{hJ:Ext cx J}(hG:HF P G rd ops κ cx ks sv)(hGn:∀v A s,G v A s->Vo (Qd P) v=true)(hR:Rl ⟨cx.wI J hJ,ks⟩ s a sv w)(hK:∀s a w J (hJ:Ext cx J),A s->Rl ⟨cx.wI J hJ,ks⟩ s a sv w->κ .normal a w):(Code.region id ops true).wpIn (Wd rd) 0 P κ a w:=by
 unfold DE at hd
 obtain⟨vs,hvs,hd⟩:=YE.1 hd
 simp only at hd
 split at hd
 ·rename_i hc
  simp only[Option.some.injEq,Prod.mk.injEq]at hd
  obtain⟨rfl,rfl⟩:=hd
  simp only[YS]at hc
  obtain⟨⟨⟨⟨⟨⟨⟨c0,c1⟩,c2⟩,c3⟩,c4⟩,c5⟩,c6⟩,c7⟩:=hc
  have hlen:vs.length=ops.size:=by rw[Cf hvs];simp
  refine To hE hm hvs c0 c1 c2 c3 c4 c5 (fun s0 hs0 m1 m2 m3=>?_) hG hGn hR hK
  subst hs0
  rw[<-Jy c6]
  have:=YbJ m1 m2 m3 _ 0 (Ve ops.size false) _ c7 S3 Er (NC hG.mono (Yab hGn) (fun i hi=>by rw[PY,hlen];exact YbI c7 i hi) h)
  rw[Jy c6]at this⊢
  exact this
 ·cases hd
theorem Ygv(hE:YD P E)(hm:P.follows .mixedOrders=true){ops:Array Oper}{al:List (Nat×AL)}{t:DTr}(hd:DF P ops=some (al,t)){A:S->Prop}{κ:Km}{s:S}{a:Act}{sv:List Act}{w:World}{id:Nat}
 (h:UB E G A t (Ug s al)){cx:Cx0}{ks:List (Nat×Obj)}{J:Nat->Option IK}{hJ:Ext cx J}(hG:HF P G rd ops κ cx ks sv)(hGn:∀v A s,G v A s->Vo (Qd P) v=true)(hR:Rl ⟨cx.wI J hJ,ks⟩ s a sv w)(hK:∀s a w J (hJ:Ext cx J),A s->Rl ⟨cx.wI J hJ,ks⟩ s a sv w->κ .normal a w):(Code.region id ops true).wpIn (Wd rd) 0 P κ a w:=by
 unfold DF at hd
 obtain⟨vs,hvs,hd⟩:=YE.1 hd
 simp only at hd
 split at hd
 ·rename_i hc
  simp only[Option.some.injEq,Prod.mk.injEq]at hd
  obtain⟨rfl,rfl⟩:=hd
  simp only[YS]at hc
  obtain⟨⟨⟨⟨⟨⟨⟨c0,c1⟩,c2⟩,c3⟩,c4⟩,c5⟩,c6⟩,c7⟩:=hc
  have hlen:vs.length=ops.size:=by rw[Cf hvs];simp
  refine To hE hm hvs c0 c1 c2 c3 c4 c5 (fun s0 hs0 m1 m2 m3=>?_) hG hGn hR hK
  subst hs0
  have:=(A7 m1 m2 m3 _ 0 false (Ve ops.size false) _ c7 S3 Er (Hz hG.mono (Yab hGn) (fun i hi=>by rw[PY,hlen];exact A6 c7 i hi) h)).1 rfl
  rw[Jy c6]at this
  exact this
 ·cases hd
end
end Go.Vx
namespace Go.Vx
open Go.RowKit
section
variable {P:Program} {E:Env} {Q:SV->List HO->Prop} {vr:List VR} {w0:Cx0} {rd:Option Nat} {ks:List (Nat×Obj)}
def inG(E:Env)(Q:SV->List HO->Prop)(vr:List VR)(N:Nat)(K0:List It)(v:VOp)(A:S->Prop)(s:S):Prop:=
 ∃f d xs ys vf,∃B:S->Prop,v=⟨d,none,.call f,xs⟩/\E.lo f=true/\callee E (.call f) (s.args xs)=some (f,ys)/\E.ct f=none/\E.fn f=some vf/\
  (∃m,m<=N/\run E Q vr m (.code vf.body:: .frame d vf.res:: .inLoop B::K0) { fr:=X1 vf.ntmps ys,saved:=s.fr::s.saved,hp:=s.hp})/\∀s',B s'->A s'
theorem E3{N:Nat}{K0:List It}(v:VOp)(A B:S->Prop)(s:S)(h:∀s,A s->B s)(hg:inG E Q vr N K0 v A s):inG E Q vr N K0 v B s:=by
 obtain⟨f,d,xs,ys,vf,C,h1,h2,h3,h4,h5,h6,h7⟩:=hg
 exact⟨f,d,xs,ys,vf,C,h1,h2,h3,h4,h5,h6,fun s' hs=>h _ (h7 s' hs)⟩
theorem YfU{f g:FuncId}{xs ys:List SV}(h:callee E (.call f) xs=some (g,ys)):g=f:=by
 simp only[callee,Option.some.injEq,Prod.mk.injEq]at h
 exact h.1.symm
theorem Ygq{n N:Nat}(hN:n<=N){v:VOp}{K K0:List It}(hK:Hx K=K0){s:S}(h:dop E (run E Q vr n) v K s):Ql E v (fun s'=> ∃m,m<=n/\run E Q vr m K s') s\/inG E Q vr N K0 v (fun s'=> ∃m,m<=n/\run E Q vr m K s') s:=by
 obtain⟨d,g,op,xs⟩:=v
 cases g with
 |none=>
  simp only[dop]at h
  unfold Ql
  simp only
  cases hq:op.quiet with
  |true=>
   left
   rw[hq]at h
   simp only[dpl,dq]at h
   simp only[JU]
   cases he:eff s.hp (Yi s.hp) op (s.args xs)with
   |none=>rw[he]at h;exact h.elim
   |some e=>
    obtain⟨p,x,u⟩:=e
    rw[he]at h
    cases u <;> try exact h.elim
    exact⟨h.1,n,Yt _,h.2⟩
  |false=>
   rw[hq]at h
   simp only[dpl,dcl]at h
   simp only[MK]
   cases hc:callee E op (s.args xs)with
   |none=>
    left
    rw[hc]at h
    simp only[Nh]at h
    simp only[Nj]
    cases hps:psd op (s.args xs)with
    |some c=>
     rw[hps]at h
     exact(GQ n h).mono fun r hs ⟨m,hm,h2⟩=>⟨m,by omega,h2⟩
    |none=>
    rw[hps]at h
    simp only at h⊢
    cases hbad:op.bad with
    |true=>rw[hbad]at h;exact h.elim
    |false=>
    rw[hbad]at h
    simp only[Bg,Gf]at h
    simp only[F1,Mx]
    cases he:eff s.hp (Yi s.hp) op (s.args xs)with
    |none=>rw[he]at h;exact h.elim
    |some e=>rw[he]at h;exact⟨h.1,n,Yt _,h.2⟩
   |some fy=>
    obtain⟨f,ys⟩:=fy
    rw[hc]at h
    simp only[dct]at h
    simp only[ctW]
    cases hct:E.ct f with
    |none=>
     right
     rw[hct]at h
     simp only[Mm]at h
     split at h
     ·rename_i g
      split at h
      ·rename_i hlo
       split at h
       ·rename_i vf hfn
        obtain⟨B,h1,h2⟩:=h
        obtain rfl:=YfU hc
        rw[hK]at h1
        exact⟨_,d,xs,ys,vf,B,rfl,hlo,hc,hct,hfn,⟨n,hN,h1⟩,fun s' hs=>⟨n,Yt _,h2 s' hs⟩⟩
       ·exact h.elim
      ·exact h.elim
     ·exact h.elim
    |some c=>
     left
     rw[hct]at h
     exact⟨h.1,(GQ n h.2).mono fun r hs ⟨m,hm,h2⟩=>⟨m,by omega,h2⟩⟩
 |some gp=>
  left
  obtain⟨g,pol⟩:=gp
  simp only[dop,dgd]at h
  unfold Ql
  simp only
  cases hgd:XK (Kr s.fr g) pol with
  |none=>rw[hgd]at h;exact h.elim
  |some gb=>
   rw[hgd]at h
   simp only[dgq]at h
   cases hq:op.quiet with
   |true=>
    rw[hq]at h
    simp only[Mw]at h
    simp only[JU,hgd]
    cases he:eff s.hp (Yi s.hp) op (Qh op gb (s.args xs)).2 with
    |none=>rw[he]at h;exact h.elim
    |some e=>
     obtain⟨p,x,u⟩:=e
     rw[he]at h
     cases u <;> try exact h.elim
     exact⟨⟨h.1,h.2.1⟩,n,Yt _,h.2.2⟩
   |false=>
    rw[hq]at h
    simp only[DA]at h
    simp only[MJ,hgd,Mf]
    cases hct:Wy E op (Qh op gb (s.args xs)).2 with
    |none=>rw[hct]at h;exact h.elim
    |some c=>
     rw[hct]at h
     obtain⟨c,ys⟩:=c
     obtain⟨hp,hno,h⟩:=h
     obtain⟨m,r,hm,h1,h2⟩:=AF n h
     exact⟨hp,hno,r,⟨m,by omega,h1⟩,h2⟩
theorem Mo{N:Nat}{K0:List It}{A B:S->Prop}:∀(l:List DOp),(∀s,A s->B s)->∀{s:S},Vi E (inG E Q vr N K0) A l s->Vi E (inG E Q vr N K0) B l s
 | [],h,_,hs=>h _ hs
 | ⟨_,_⟩::l,h,_,hs=>⟨hs.1,hs.2.imp (V0 (fun _ h'=>Mo l h h')) (E3 _ _ _ _ fun _ h'=>Mo l h h')⟩
theorem Ep{N:Nat}{K0:List It}:∀(l:List DOp)(n:Nat)(hn:n<=N){K:List It}(hK:Hx K=K0){s:S},run E Q vr n (.dops l::K) s->Vi E (inG E Q vr N K0) (fun s'=> ∃m,m<n/\run E Q vr m K s') l s
 |_,0,_,_,_,_,h=>h.elim
 | [],n+1,_,_,_,_,h=>⟨n,Nat.lt_succ_self _,h⟩
 | ⟨v,chk⟩::l,n+1,hn,K,hK,_,h=>by
   refine⟨h.1,?_⟩
   have key:∀(s:S),(∃m,m<=n/\run E Q vr m (.dops l::K) s)->Vi E (inG E Q vr N K0) (fun s'=> ∃m,m<n+1/\run E Q vr m K s') l s:=fun s ⟨m,hm,h'⟩=>
    Mo l (fun _ ⟨m',hm',h''⟩=>⟨m',by omega,h''⟩) (Ep l m (by omega) hK h')
   exact(Ygq (n:=n) (N:=N) (by omega) (K:= .dops l::K) (K0:=K0) hK h.2).imp (V0 key) (E3 _ _ _ _ key)
theorem H0{N:Nat}{K0:List It}{A B:S->Prop}:∀(t:DTr),(∀s,A s->B s)->∀{s:S},UB E (inG E Q vr N K0) A t s->UB E (inG E Q vr N K0) B t s
 | .leaf,h,_,hs=>h _ hs
 | .ops l t,h,_,hs=>Mo l (fun _ h'=>H0 t h h') hs
 | .br a b,h,_,hs=>⟨H0 a h hs.1,H0 b h hs.2⟩
theorem DI{N:Nat}{K0:List It}:∀(t:DTr)(n:Nat)(hn:n<=N){K:List It}(hK:Hx K=K0){s:S},run E Q vr n (.dtr t::K) s->UB E (inG E Q vr N K0) (fun s'=> ∃m,m<n/\run E Q vr m K s') t s
 |_,0,_,_,_,_,h=>h.elim
 | .leaf,n+1,_,_,_,_,h=>⟨n,Nat.lt_succ_self _,h⟩
 | .ops l t,n+1,hn,K,hK,_,h=>Mo l (fun _ ⟨m,hm,h'⟩=>H0 t (fun _ ⟨m',hm',h''⟩=>⟨m',by omega,h''⟩) (DI t m (by omega) hK h')) (Ep l n (by omega) (K:= .dtr t::K) hK h)
 | .br a b,n+1,hn,K,hK,_,h=>⟨H0 a (fun _ ⟨m',hm',h''⟩=>⟨m',by omega,h''⟩) (DI a n (by omega) hK h.1),H0 b (fun _ ⟨m',hm',h''⟩=>⟨m',by omega,h''⟩) (DI b n (by omega) hK h.2)⟩
theorem Fa{fn:Func}{c:Code}{b:VC}{f:FuncId}(hf:P.funcs[f]? =some fn)(hbody:fn.body=some c){R:Ending->World->Prop}{args:Array Value}{w:World}
 (h:(Exit.then (c.wpIn (Wd none) 0 P (bodyPostM (Wd none) 0 P fn R)) (bodyPostM (Wd none) 0 P fn R)) .normal { tmps:=args++Ve (fn.ntmps-args.size) undef,defers:=[]} w):CallsIn (Wd none) 0 P f args w R:=
 callsIn_of_wp_marks hf hbody trivial h
theorem FO{fn:Func}{vf:VF}(h:Yn P fn=some vf):∃c,fn.body=some c/\QX P c=some vf.body/\Ul P fn.results.toList=some vf.res/\vf.ntmps=fn.ntmps:=by
 unfold Yn at h
 obtain⟨c,hbody,h⟩:=YE.1 h
 obtain⟨b,hcode,h⟩:=YE.1 h
 obtain⟨res,hres,rfl⟩:=YQ.1 h
 exact⟨c,hbody,hcode,hres,rfl⟩
theorem YaS{w:World}{bs:List BK}{B:Bd}:∀{ps:List Nat}{ys fr:List SV}{vs:List Value}{tmps:Array Value},RepL w bs B fr tmps.toList->RepL w bs B ys vs->RepL w bs B (GJ fr ps ys) ((ps.zip vs).foldl (fun t (p:Nat×Value)=>t.setIfInBounds p.1 p.2) tmps).toList
 | [],ys,fr,vs,tmps,h,_=>by cases ys <;> simpa [GJ]using h
 |p::ps,_,fr,_,tmps,h,.nil=>by simpa [GJ]using h
 |p::ps,_,fr,_,tmps,h,.cons y v ys vs h1 h2=>by
  simp only[GJ,List.zip_cons_cons,List.foldl_cons]
  refine YaS ?_ h2
  rw[Array.toList_setIfInBounds]
  exact h.set p h1
theorem Yac(hE:YD P E)(hS:UZ P w0){fn0:Func}{R0:Ending->World->Prop}{n:Nat}(ih:∀m,m<=n->∀(K:List It) (s:S),run E Q vr m K s->∀(sv:List Act) (ks:List (Nat×Obj)) (rd:Option Nat) (κ:Km) (a:Act) (w:World),KRel P w0 (bodyPostM (Wd none) 0 P fn0 R0) K sv ks rd κ->∀ {D:Nat->Option IK} {hD:Ext w0 D},Rl ⟨w0.wI D hD,ks⟩ s a sv w->κ .normal a w)
 {all:Array Oper}{o:Oper}{rest:List Oper}{l:List VOp}{vo:VO}{ops:List Operand}{xs:List SV}{K:List It}{s:S}{sv:List Act}{κ:Km}{a:Act}{w:World}
 (hv:vop P o=some (vo,ops))(hcc:vo.isCall=true->UK o.op=true)(hrest:Xq P all rest=some l){D:Nat->Option IK}{hD:Ext w0 D}(hx:∀bs,GlW P w bs (w0.wI D hD).bd->RepL w bs (w0.wI D hD).bd s.fr a.tmps.toList->RepL w bs (w0.wI D hD).bd xs (ops.map a.eval))
 (h:FB E (run E Q vr n) o.dst vo xs (.ops l::K) s)(hk:KRel P w0 (bodyPostM (Wd none) 0 P fn0 R0) K sv ks rd κ)(hR:Rl ⟨w0.wI D hD,ks⟩ s a sv w):o.wpIn (Wd rd) 0 P a w (wpListIn (Wd rd) 0 P all κ rest) κ:=by
 have hK:KRel P w0 (bodyPostM (Wd none) 0 P fn0 R0) (.ops l::K) sv ks rd (Exit.then (wpListIn (Wd rd) 0 P all κ rest) κ):= .ops all rest l K sv ks rd κ hrest hk
 obtain⟨bs,hf,hsv,hH,hb,hoth⟩:=id hR
 have hxx:=hx bs (VB hS hb hH) hf
 have hB:w0.heap.size<=w.heap.size:=hb.size
 have hnd:=UV hv
 unfold FB at h
 cases hc:callee E vo xs with
 |none=>
  rw[hc]at h
  simp only[opK]at h
  cases hy:yld vo xs with
  |some ly=>
   obtain⟨l',ys⟩:=ly
   rw[hy]at h
   simp only[FV]at h
   have hvo:vo= .callv/\xs= .fn (.yield l') [] []::ys:=by
    unfold yld at hy
    split at hy
    ·split at hy
     ·cases hy;exact⟨rfl,rfl⟩
     ·cases hy
    ·cases hy
   obtain⟨rfl,rfl⟩:=hvo
   cases hfr:ZO (.ops l::K)with
   |none=>rw[hfr]at h;exact h.elim
   |some x=>
    obtain⟨l2,ps,va,vb⟩:=x
    rw[hfr]at h
    cases hss:s.saved with
    |nil=>rw[hss]at h;exact h.elim
    |cons fr svs=>
     rw[hss]at h
     obtain⟨⟨rfl,hlen⟩,hrun⟩:=h
     obtain⟨q,sa,sv',ks',rfl,rfl,rfl,rfl,htm,hva,hvb⟩:=H4 hfr hK
     obtain⟨c,hop,hcall⟩:=Ydt hv (hcc rfl) rfl
     rcases hcall with⟨_,h1,_⟩ | ⟨x,_,hcal,rfl⟩ | ⟨_,_,h1,_⟩
     ·cases h1
     ·obtain⟨v,vs,hvs,g1,g2⟩:=hxx.cons_inv
      simp only[KH,List.cons.injEq]at hvs
      obtain⟨hv1,rfl⟩:=hvs
      obtain⟨us,us',rfl,g3,g4⟩:=g1.fn_inv
      cases g3.nil_inv;cases g4.nil_inv
      have hrec:=Nw hR
      have hsz:(#[]++c.args.map a.eval++ #[]:Array Value).size=q.ps.length:=by
       have:=g2.length
       simp only[VN,Um]at this
       have e2:∀l:List Nat,Fd l=l.length:=fun l=>by induction l with|nil=>rfl|cons _ l ih=>simp [Fd,ih]
       rw[e2]at hlen
       simp;omega
      have hex:(execOp a.eval o).run P w= .ok (.round l' q.fn ((q.ps.toArray.zip (#[]++c.args.map a.eval++ #[])).foldl (fun tmps (t,a)=>tmps.setIfInBounds t a) q.tmps) q.ca q.cb) w:=by
       obtain⟨dst,op,type,pos,after,guard⟩:=o
       simp only at hop
       subst hop
       simp only[execOp,resolve,hcal,hv1,Deferred.ofValue,Sem.run_bind,Sem.run_pure,Result.andThen_ok,invoke]
       exact run_yield hrec (by simpa [Rec.at]using hsz)
      unfold Oper.wpIn
      rw[Oper.semAt_eq _ _ _ hnd,hex]
      refine⟨fun _ _=>trivial,fun h=>(by cases h),?_⟩
      refine roundIn_of_wpIn trivial ?_
      refine ih n (Yt _) _ _ hrun (a::sa::sv') _ _ _ { tmps:=_,defers:=[]} _ (.code q.ca va _ _ _ (some l') _ hva (.rbeg l' q _ _ ks' _ (.code q.cb vb _ _ _ (some l') _ hvb (.rend o.dst l' q a _ _ ks' _ _ (fun v w h=>h) hK)))) (D:=D) (hD:=hD) ?_
      rw[hss]at hsv
      cases hsv with
      |cons _ _ _ _ k1 k2=>
       refine⟨bs,?_,.cons _ _ _ _ hf (by rw[hss];exact .cons _ _ _ _ k1 k2),hH,hb,hoth.push⟩
       have:=YaS (ps:=q.ps) k1 g2
       rw[htm]
       have e:q.ps.toArray.zip (#[]++c.args.map a.eval++ #[])=(q.ps.zip (c.args.toList.map a.eval)).toArray:=by apply Array.ext';simp
       rw[e]
       simpa using this
     ·cases h1
  |none=>
  rw[hy]at h
  simp only[FV,Ni]at h
  cases hps:psd vo xs with
  |some c=>
   rw[hps]at h
   obtain⟨r,val,w',x,D2,hD2,hrn,hr,⟨m,hm,hrun⟩,k1,k2,k3,k4⟩:=YaG (ρ:=a.eval) hv hps (GQ n h) hxx hH
   refine GY hnd (hrn o.dst o.type o.pos o.after o.guard) hr ?_
   obtain⟨hD3,hcr⟩:=HR (al:=false) (z:=Bd.cx (w0.wI D hD).bd w) (w0:=w0) (J1:=D) (hJ1:=hD) (hJ:=hD2) rfl hf hsv hH hb hoth o.dst k1 k2 k3 (fun _=>⟨k4,trivial⟩) (fun h=>by cases h)
   exact ih m (by omega) _ _ hrun sv _ _ _ _ _ hK (hcr _ fun _ h=>h)
  |none=>
  rw[hps]at h
  simp only[Gf]at h
  cases he:eff s.hp (Yi s.hp) vo xs with
  |none=>rw[he]at h;exact h.elim
  |some e=>
   rw[he]at h
   obtain⟨r,v,w',bs',hrun,hr,h1,h2,h3,h4,h5⟩:=NQ (ρ:=a.eval) hv he h.1 hxx (fun _=>rfl) (fun _=>rfl) hH hB
   refine GY hnd (hrun o.dst o.type o.pos o.after o.guard) hr ?_
   exact ih n (Yt _) _ _ h.2 sv _ _ _ _ _ hK (NO (op:=o.op) hf hsv hb hoth h1 h2 h3 h4 h5 o.dst)
 |some fy=>
  obtain⟨f,ys⟩:=fy
  rw[hc]at h
  have hcall:vo.isCall=true:=by
   unfold callee at hc
   split at hc <;> first|rfl|cases hc
  simp only[opK,F8]at h
  cases hct:E.ct f with
  |some c=>
   rw[hct]at h
   obtain⟨hok,hen⟩:=hE.ct f c hct
   obtain⟨vs,hys,hrun⟩:=HQ hE.meth hv (hcc hcall) hc hxx (fun _=>rfl) hen
   refine FT hnd hrun ?_
   obtain⟨z,hzw,hzI,hargs2,hal,hzF⟩:=Dl c.alias hH.v hB 3 hys h.1
   subst hzw
   refine(hok _ vs z _ ⟨fun b K hb=>(hH.reg b K (by rw[hzI]at hb;exact hb)).2,AH (VB (hJ:=hD) hS hb hH) rfl hzF⟩ hargs2 (GQ n h.2)).mono ?_
   rintro e w' ⟨r,hs,v,bs2,D2,hD2,⟨m,hm,hrun'⟩,rfl,h1,h2,h3,h4⟩
   obtain⟨hD3,hcr⟩:=HR (w0:=w0) (J1:=D) (hJ1:=hD) (hJ:=hD2) hzI hf hsv hH hb hoth o.dst h1 h2 h3 h4 hal
   exact ih m (by omega) _ _ hrun' sv _ _ _ _ _ hK (hcr _ fun _ h=>h)
  |none=>
   rw[hct]at h
   simp only[BF]at h
   cases hfn:E.fn f with
   |none=>rw[hfn]at h;exact h.elim
   |some vf=>
    rw[hfn]at h
    obtain⟨fn,hfs,hvf,hen⟩:=hE.fn f vf hfn
    obtain⟨vs,hys,hrun⟩:=HQ hE.meth hv (hcc hcall) hc hxx (fun _=>rfl) hen
    refine FT hnd hrun ?_
    obtain⟨c,hbody,hcode,hres,hnt⟩:=FO hvf
    refine F9 (n:=0) (Fa (b:=vf.body) hfs hbody ?_)
    refine ih n (Yt _) _ _ h (a::sv) _ _ _ _ _ (.code c vf.body _ _ _ _ _ hcode (.frame o.dst vf.res fn a _ _ _ _ _ _ hres (fun v w h=>h) hK)) (D:=D) (hD:=hD) ?_
    refine⟨bs,?_,.cons _ _ _ _ hf hsv,hH,hb,hoth.push⟩
    have:=Hr (n:=fn.ntmps) hys
    rw[hnt]
    simpa using this
theorem Yq3{all:Array Oper}{rest:List Oper}{v:VOp}{l:List VOp}(h:Xq P all rest=some (v::l)):∃o r,rest=o::r/\Vd P all o=some v/\Xq P all r=some l:=by
 cases rest with
 |nil=>cases h
 |cons o r=>
  simp only[Xq]at h
  obtain⟨x,hx,h⟩:=YE.1 h
  obtain⟨y,hy,h⟩:=YQ.1 h
  cases h
  exact⟨o,r,rfl,hx,hy⟩
theorem Yq4{all:Array Oper}{rest:List Oper}(h:Xq P all rest=some []):rest=[]:=by
 cases rest with
 |nil=>rfl
 |cons o r=>
  simp only[Xq]at h
  obtain⟨x,hx,h⟩:=YE.1 h
  obtain⟨y,hy,h⟩:=YQ.1 h
  cases h
theorem Yq0{all:Array Oper}{o:Oper}{v:VOp}(h:Vd P all o=some v):∃ops,vop P o=some (v.op,ops)/\X.ofs P ops=some v.xs/\(v.op.isCall=true->UK o.op=true)/\v.dst=o.dst/\
 ((o.guard=none/\v.g=none)\/∃j b g,o.guard=some (j,b)/\NI all j=some g/\v.g=some (g,b)):=by
 unfold Vd at h
 obtain⟨⟨vo,ops⟩,h1,h⟩:=YE.1 h
 obtain⟨xs,h2,h⟩:=YE.1 h
 split at h
 ·cases h
 ·rename_i hne
  have hne:vo.isCall=true->UK o.op=true:=by simpa using hne
  split at h
  ·cases h;exact⟨ops,h1,h2,hne,rfl,.inl ⟨‹_›,rfl⟩⟩
  ·obtain⟨g,hg,rfl⟩:=YQ.1 h
   exact⟨ops,h1,h2,hne,rfl,.inr ⟨_,_,g,‹_›,hg,rfl⟩⟩
theorem IY{κ0:Km}{K:List It}{sv:List Act}{ks:List (Nat×Obj)}{r:Option Nat}{κ:Km}(h:KRel P w0 κ0 K sv ks r κ):Hx K=K:=by
 cases h <;> rfl
theorem Ol(hE:YD P E){n:Nat}{K:List It}{v:VOp}{A:S->Prop}{s:S}(h:inG E Q vr n K v A s):Vo (Qd P) v=true:=by
 obtain⟨f,d,xs,ys,vf,B,rfl,hlo,_⟩:=h
 exact hE.lo f hlo
theorem Om(hE:YD P E)(hS:UZ P w0){fn0:Func}{R0:Ending->World->Prop}{n:Nat}(ih:∀m,m<=n->∀(K:List It) (s:S),run E Q vr m K s->∀(sv:List Act) (ks:List (Nat×Obj)) (rd:Option Nat) (κ:Km) (a:Act) (w:World),KRel P w0 (bodyPostM (Wd none) 0 P fn0 R0) K sv ks rd κ->∀ {D:Nat->Option IK} {hD:Ext w0 D},Rl ⟨w0.wI D hD,ks⟩ s a sv w->κ .normal a w)
 {all:Array Oper}{K:List It}{sv:List Act}{ks:List (Nat×Obj)}{rd:Option Nat}{κ:Km}(hk:KRel P w0 (bodyPostM (Wd none) 0 P fn0 R0) K sv ks rd κ):HF P (inG E Q vr n K) rd all κ w0 ks sv:=by
 refine⟨hS,E3,?_⟩
 intro i o v A s hi hv hg J hJ a w hR
 obtain⟨f,d,xs,ys,vf,B,rfl,hlo,hc,hct,hfn,⟨m,hm,hrun'⟩,hB⟩:=hg
 obtain⟨ops,h1,h2,h3,h4,h5⟩:=Rm hv
 obtain⟨bs,hf,hsv,hH,hb,hoth⟩:=id hR
 have hx:RepL w bs (w0.wI J hJ).bd (s.args xs) (ops.map a.eval):=N8 (VB hS hb hH) hf h2
 obtain⟨fn,hfs,hvf,hen⟩:=hE.fn f vf hfn
 obtain⟨vs,hys,hrun⟩:=HQ hE.meth h1 (h3 rfl) hc hx (fun _=>rfl) hen
 rcases h5 with⟨hg0,_⟩ | ⟨_,_,_,_,_,hvg⟩
 ·refine GX hi (by simp [Region.wanted,hg0]) (FT (UV h1) hrun ?_)
  obtain⟨c,hbody,hcode,hres,hnt⟩:=FO hvf
  refine F9 (n:=0) (Fa (b:=vf.body) hfs hbody ?_)
  have h4:d=o.dst:=h4
  subst h4
  refine ih m hm _ _ hrun' (a::sv) _ _ _ _ _ (.code c vf.body _ _ _ _ _ hcode (.frame o.dst vf.res fn a _ _ _ _ _ _ hres (fun v w h=>h) (.inLoop B (fun a' w'=> ∃s',A s'/\∃J',∃hJ':Ext w0 J',Rl ⟨w0.wI J' hJ',ks⟩ s' a' sv w') K sv ks rd κ (fun s' a' w' D hD hBs hR'=>⟨s',hB s' hBs,D,hD,hR'⟩) hk))) (D:=J) (hD:=hJ) ?_
  refine⟨bs,?_,.cons _ _ _ _ hf hsv,hH,hb,hoth.push⟩
  have:=Hr (n:=fn.ntmps) hys
  rw[hnt]
  simpa using this
 ·cases hvg
theorem Py(hE:YD P E)(hS:UZ P w0){fn0:Func}{R0:Ending->World->Prop}(hres:Ul P fn0.results.toList=some vr)
 (hR0:∀r hp v w' bs D (hD:Ext w0 D),Q r hp->Rep w' bs (w0.wI D hD).bd r v->Hp w' bs (w0.wI D hD).bd hp->BelowI w0.bd w0.toWorld w'->R0 (.returned v) w'):
 ∀(n:Nat)(K:List It)(s:S),run E Q vr n K s->∀(sv:List Act)(ks:List (Nat×Obj))(rd:Option Nat)(κ:Km)(a:Act)(w:World),KRel P w0 (bodyPostM (Wd none) 0 P fn0 R0) K sv ks rd κ->∀{D:Nat->Option IK}{hD:Ext w0 D},Rl ⟨w0.wI D hD,ks⟩ s a sv w->κ .normal a w:=by
 have main:∀(N n:Nat),n<=N->∀(K:List It)(s:S),run E Q vr n K s->∀(sv:List Act)(ks:List (Nat×Obj))(rd:Option Nat)(κ:Km)(a:Act)(w:World),KRel P w0 (bodyPostM (Wd none) 0 P fn0 R0) K sv ks rd κ->∀{D:Nat->Option IK}{hD:Ext w0 D},Rl ⟨w0.wI D hD,ks⟩ s a sv w->κ .normal a w:=by
  intro N
  induction N with
  |zero=>
   intro n hn K s h
   have:n=0:=by omega
   subst this;exact h.elim
  |succ N ihN=>
   intro n hn K s h sv ks rd κ a w hk D hD hR
   cases n with
   |zero=>exact h.elim
   |succ n=>
   have ih:∀m,m<=n->∀(K:List It)(s:S),run E Q vr m K s->∀(sv:List Act)(ks:List (Nat×Obj))(rd:Option Nat)(κ:Km)(a:Act)(w:World),KRel P w0 (bodyPostM (Wd none) 0 P fn0 R0) K sv ks rd κ->∀{D:Nat->Option IK}{hD:Ext w0 D},Rl ⟨w0.wI D hD,ks⟩ s a sv w->κ .normal a w:=fun m hm=>ihN m (by omega)
   have ihn:=ih n (Yt _)
   have hjump:∀{K':List It}{d:Option Nat}{f:Act->World->Prop},Fw (run E Q vr n) d false K' s.hp s.saved->Cp P w0 (bodyPostM (Wd none) 0 P fn0 R0) K' d sv ks rd f->f a w:=by
    rintro K' d f hr ⟨c,q,l,ita,sv',ks',κ',rfl,rfl,rfl,hk',hf⟩
    cases hs:s.saved with
    |nil=>rw[hs]at hr;exact hr.elim
    |cons fr svs=>
     rw[hs]at hr
     have hat:=Nw hR
     have hend:=run_endRound (P:=P) (some c) hat
     have h2:=Fz hs (Nv (lp':=q.at .done (some c)) hR)
     exact hf a w _ _ hend (ihn _ _ hr sv' _ _ _ _ _ hk' (GK h2 d fun _ _ _=> .x _ _ (.bool _)))
   cases K with
   |nil=>
    cases hk
    rw[Ya9]at h
    cases hv:ZV s vr with
    |none=>rw[hv]at h;exact h.elim
    |some x=>
     obtain⟨p,vs⟩:=x
     rw[hv]at h
     obtain⟨ms,hms⟩:=Ps hR
     refine BQ ms hms hR fun w' hR'=>?_
     obtain⟨bs,hf,hsv,hH,hb,hoth⟩:=hR'
     obtain⟨v,h1,h2⟩:=Pq (P:=P) hf hH hres hv h.1
     exact⟨v,h1,hR0 _ _ _ _ _ D hD h.2 h2 hH ⟨hb.os,hb.tape,hb.output,hb.size,fun k hk hI=>hb.block k hk ((hD.old k hk).trans hI)⟩⟩
   |cons x K=>
   cases x with
   |inBlock i=>
    cases hk with|inBlock _ _ _ _ _ κ hk=>exact ihn _ _ h sv _ _ κ a w hk hR
   |inScope=>
    cases hk with|inScope _ _ _ _ κ hk=>exact ihn _ _ h sv _ _ κ a w hk hR
   |inLoop I=>
    cases hk with|inLoop _ J _ _ _ _ κ hJ hk=>exact hJ s a w D hD h hR
   |frame d res=>
    cases hk with
    |frame _ _ fn sa _ sv _ rd κ R hr hRR hk=>
     rw[Ybb]at h
     cases hv:ZV s res with
     |none=>rw[hv]at h;exact h.elim
     |some x=>
      obtain⟨p,vs⟩:=x
      rw[hv]at h
      cases hs:s.saved with
      |nil=>rw[hs]at h;exact h.elim
      |cons fr sv'=>
       rw[hs]at h
       obtain⟨ms,hms⟩:=Ps hR
       refine BQ ms hms hR fun w' hR'=>?_
       obtain⟨bs,hf,hsv,hH,hb,hoth⟩:=id hR'
       obtain⟨v,h1,h2⟩:=Pq (P:=P) hf hH hr hv h.1
       refine⟨v,h1,hRR v w' (ihn _ _ h.2 sv _ _ κ _ w' hk (D:=D) (hD:=hD) ?_)⟩
       obtain⟨bs2,k1,k2,k3,k4,k5⟩:=Fz hs hR'
       rw[hs]at hsv
       cases hsv with
       |cons _ _ _ _ g1 g2=>
        have hp:=Fz hs hR'
        refine⟨bs,Nr (s:={ fr:=fr,saved:=sv',hp:=s.hp}) (a:=sa) g1 h2,?_,?_,hb,?_⟩
        ·rw[Av];exact g2
        ·rw[Vv];exact hH
        ·rw[KH,Nq]
         exact hoth.pop
   |rfrm res l ps va vb j=>
    cases hk with
    |rfrm _ _ q lp _ _ _ fn sa _ sv ks rd κ hr _ hps htm hva hvb hj hk=>
     rw[Ybh]at h
     cases hv:ZV s res with
     |none=>rw[hv]at h;exact h.elim
     |some x=>
      obtain⟨p,vs⟩:=x
      rw[hv]at h
      cases hs:s.saved with
      |nil=>rw[hs]at h;exact h.elim
      |cons fr sv'=>
       rw[hs]at h
       obtain⟨hp,h⟩:=h
       obtain⟨ms,hms⟩:=Ps hR
       refine BQ ms hms hR fun w' hR'=>?_
       obtain⟨bs,hf,hsv,hH,hb,hoth⟩:=id hR'
       obtain⟨v,h1,h2⟩:=Pq (P:=P) hf hH hr hv hp
       have hat:=Nw hR'
       cases hj with
       |none=>
        refine⟨v,h1,none,_,run_endLoop hat (by simp [Rec.at]),?_⟩
        exact ihn _ _ h sv _ _ κ sa _ hk (Ybs (Nv (Fz hs hR')))
       |some c vc hc=>
        refine⟨v,h1,some c,_,run_endLoop hat (by simp [Rec.at]),?_⟩
        exact ihn _ _ h sv _ _ _ sa _ (.code c vc K sv ks rd κ hc hk) (Ybs (Nv (Fz hs hR')))
   |rbeg=>
    cases hk with
    |rbeg l q _ _ ks κ hk=>
     exact⟨_,run_beginRound (Nw hR) rfl,ihn _ _ h sv _ _ κ a _ hk (Nv hR)⟩
   |rend d=>
    cases hk with
    |rend _ l q ita _ sv ks κ R hRR hk=>
     rw[Ybf]at h
     cases hs:s.saved with
     |nil=>rw[hs]at h;exact h.elim
     |cons fr sv'=>
      rw[hs]at h
      refine⟨_,_,run_endRound none (Nw hR),hRR _ _ (ihn _ _ h sv _ _ κ _ _ hk (D:=D) (hD:=hD) ?_)⟩
      exact GK (Fz hs (Nv (lp':=q.at .ready none) hR)) d fun _ _ _=> .x _ _ (.bool _)
   |dops l=>cases hk
   |dtr t=>cases hk
   |res g al d c=>cases hk
   |ops l=>
    cases hk with
    |ops all rest _ _ _ _ _ κ hl hk=>
    show wpListIn (Wd rd) 0 P all κ rest a w
    cases l with
    |nil=>rw[Yq4 hl];exact ihn _ _ h sv _ _ κ a w hk hR
    |cons v l=>
     obtain⟨o,r,rfl,hvo,hlr⟩:=Yq3 hl
     obtain⟨ops,h1,h2,h3,h4,h5⟩:=Yq0 hvo
     obtain⟨dst,g,op,xs⟩:=v
     simp only at h1 h2 h3 h4 h5
     subst h4
     have hnd:=UV h1
     have hx:∀bs,GlW P w bs (w0.wI D hD).bd->RepL w bs (w0.wI D hD).bd s.fr a.tmps.toList->RepL w bs (w0.wI D hD).bd (s.args xs) (ops.map a.eval):=fun bs hg hf=>N8 hg hf h2
     rcases h5 with⟨hg,rfl⟩ | ⟨j,pol,gs,hg,hsl,rfl⟩
     ·rw[Ybc]at h
      exact Ci (by simp [Region.wanted,hg]) (Yac hE hS ih h1 h3 hlr hx h hk hR)
     ·rw[Ybd]at h
      have hKr:KRel P w0 (bodyPostM (Wd none) 0 P fn0 R0) (.ops l::K) sv ks rd (Exit.then (wpListIn (Wd rd) 0 P all κ r) κ):= .ops all r l K sv ks rd κ hlr hk
      cases hgd:XK (Kr s.fr gs) pol with
      |none=>rw[hgd]at h;exact h.elim
      |some gb=>
       rw[hgd,r_g]at h
       obtain⟨bs,hf,hsv,hH,hb,hoth⟩:=id hR
       have hw:=E0 (w:=w) hf hg hsl hgd
       have hB:w0.heap.size<=w.heap.size:=hb.size
       cases hq:op.quiet with
       |true=>
        rw[hq]at h
        simp only[gK]at h
        cases he:eff s.hp (Yi s.hp) op (Qh op gb (s.args xs)).2 with
        |none=>
         rw[he]at h
         obtain⟨rfl,v,hrun⟩:=h
         exact Ch hw (ihn _ _ hrun sv _ _ _ _ _ hKr (GK hR o.dst fun _ _ _=> .optF _))
        |some e=>
         rw[he]at h
         obtain⟨q,val,u⟩:=e
         cases u <;> try exact h.elim
         obtain⟨hp1,hp2,hrun⟩:=h
         cases gb with
         |true=>
          obtain⟨r',v,w',bs',hrn,hr,k1,k2,k3,k4,k5⟩:=NQ (ρ:=a.eval) h1 he (hp2 rfl) (NM rfl (hx bs (VB hS hb hH) hf) hp1) (fun _=>rfl) (fun _=>rfl) hH hB
          refine Ci hw (GY hnd (hrn o.dst o.type o.pos o.after o.guard) hr ?_)
          refine ihn _ _ hrun sv _ _ _ _ _ hKr (D:=D) (hD:=hD) ?_
          exact NO (e:=⟨q,.opt true val,.no⟩) (op:=o.op) hf hsv hb hoth (.optT _ _ k1) k2 k3 k4 k5 o.dst
         |false=>
          exact Ch hw (ihn _ _ hrun sv _ _ _ _ _ hKr (GK hR o.dst fun _ _ _=> .optF _))
       |false=>
        rw[hq]at h
        simp only[gK,F7]at h
        cases hct:Wy E op (Qh op gb (s.args xs)).2 with
        |none=>
         rw[hct]at h
         obtain⟨hp1,ht,hfl⟩:=h
         cases gb with
         |true=>exact Ci hw (Yac hE hS ih h1 h3 hlr (fun bs hg hf=>NM rfl (hx bs hg hf) hp1) (ht rfl) hk hR)
         |false=>exact Ch hw (ihn _ _ (hfl rfl) sv _ _ _ _ _ hKr (GK hR o.dst fun _ _ _=> .x _ _ (.junk _)))
        |some c=>
         rw[hct]at h
         obtain⟨c,ys⟩:=c
         obtain⟨hp1,hno,hrun⟩:=h
         obtain⟨m,rr,hm,hrun',hcs⟩:=AF n hrun
         cases gb with
         |false=>exact Ch hw (ih m (by omega) _ _ hrun' sv _ _ _ _ _ hKr (GK hR o.dst fun _ _ _=> .optF _))
         |true=>
          obtain⟨f,hcl,hct',hic⟩:=S6 hct
          obtain⟨hok,hen⟩:=hE.ct f c hct'
          obtain⟨vs,hys,hrn⟩:=HQ hE.meth h1 (h3 hic) hcl (NM rfl (hx bs (VB hS hb hH) hf) hp1) (fun _=>rfl) hen
          refine Ci hw (FT hnd hrn ?_)
          obtain⟨z,hzw,hzI,hargs2,hal,hzF⟩:=Dl c.alias hH.v hB 3 hys hno
          subst hzw
          refine(hok _ vs z _ ⟨fun b K hb=>(hH.reg b K (by rw[hzI]at hb;exact hb)).2,AH (VB (hJ:=hD) hS hb hH) rfl hzF⟩ hargs2 (hcs rfl)).mono ?_
          rintro e w' ⟨r',hs,v,bs2,D2,hD2,⟨rfl,rfl⟩,rfl,k1,k2,k3,k4⟩
          obtain⟨hD3,hcr⟩:=HR (w0:=w0) (J1:=D) (hJ1:=hD) (hJ:=hD2) (d:=o.dst) hzI hf hsv hH hb hoth k1 k2 k3 k4 hal
          have hcr:=hcr (.opt true (shift (Yi s.hp) r')) fun _ h=> .optT _ _ h
          refine ih m (by omega) _ _ hrun' sv _ _ _ _ _ hKr (D:=D2) (hD:=hD3) ?_
          have e0:({ fr:=s.fr,saved:=s.saved,hp:=s.hp++Js (Yi s.hp) []}:S)=s:=by simp [Js]
          rw[e0]at hcr
          exact hcr
   |code c=>
    cases hk with
    |code cc _ _ _ _ _ κ hcode hk=>
    show cc.wpIn (Wd rd) 0 P κ a w
    cases cc <;> simp only[QX,reduceCtorEq]at hcode <;> try (cases hcode;exact h.elim)
    case skip=>cases hcode;exact wpIn_skip (ihn _ _ h sv _ _ κ a w hk hR)
    case region id ops draw=>
     cases draw with
     |true=>
      simp only[if_true]at hcode
      unfold Tn at hcode
      cases hd:DE P ops with
      |none=>
       rw[hd]at hcode
       simp only at hcode
       cases hdt:DF P ops with
       |none=>rw[hdt]at hcode;cases hcode;exact h.elim
       |some r=>
        obtain⟨al,t⟩:=r
        rw[hdt]at hcode
        cases hcode
        exact Ygv hE hE.mix hdt (DI (N:=n) (K0:=K) t n (Yt _) (IY hk) h) (Om hE hS ih hk) (fun v A s hg=>Ol hE hg) hR fun s' a' w' D' hD' ⟨m,hm,hrun⟩ hR'=>ih m (by omega) _ _ hrun sv _ _ κ a' w' hk hR'
      |some r=>
      obtain⟨al,dl⟩:=r
      rw[hd]at hcode
      cases hcode
      exact Ygw hE hE.mix hd (Ep (N:=n) (K0:=K) dl n (Yt _) (IY hk) h) (Om hE hS ih hk) (fun v A s hg=>Ol hE hg) hR fun s' a' w' D' hD' ⟨m,hm,hrun⟩ hR'=>ih m (by omega) _ _ hrun sv _ _ κ a' w' hk hR'
     |false=>
      simp only[XQ,if_false]at hcode
      cases hl:Xq P ops ops.toList with
      |none=>rw[hl]at hcode;cases hcode;exact h.elim
      |some l=>
      rw[hl]at hcode
      cases hcode
      exact wpIn_region_list (ihn _ _ h sv _ _ _ a w (.ops ops ops.toList l K sv ks rd κ hl hk) hR)
    case seq x y=>
     obtain⟨vx,hx,hcode⟩:=YE.1 hcode
     obtain⟨vy,hy,rfl⟩:=YQ.1 hcode
     exact wpIn_seq (ihn _ _ h sv _ _ _ a w (.code x vx _ sv ks rd _ hx (.code y vy K sv ks rd κ hy hk)) hR)
    case cond cnd x y=>
     obtain⟨z,hz,hcode⟩:=YE.1 hcode
     obtain⟨vx,hx,hcode⟩:=YE.1 hcode
     obtain⟨vy,hy,rfl⟩:=YQ.1 hcode
     rw[Ya8]at h
     obtain⟨bs,hf,hsv,hH,hb,hoth⟩:=id hR
     have hrep:=Cy (w:=w) (VB (hJ:=hD) hS hb hH) hf hz
     generalize s.x z=v at h hrep
     cases v <;> try exact h.elim
     rename_i b
     have hb1:=hrep.bool_inv
     obtain⟨ht,hfl⟩:=h
     refine wpIn_cond_split hb1 (fun hb=>ihn _ _ (ht hb) sv _ _ _ a w (.code x vx K sv ks rd κ hx hk) hR) (fun hb=>ihn _ _ (hfl hb) sv _ _ _ a w (.code y vy K sv ks rd κ hy hk) hR)
    case block id c=>
     obtain⟨vc,hc,rfl⟩:=YQ.1 hcode
     exact wpIn_block (ihn _ _ h sv _ _ _ a w (.code c vc _ sv ks rd _ hc (.inBlock id K sv ks rd κ hk)) hR)
    case scope c=>
     obtain⟨vc,hc,rfl⟩:=YQ.1 hcode
     exact Yrh (ihn _ _ h sv _ _ _ a w (.code c vc _ sv ks rd _ hc (.inScope K sv ks rd κ hk)) hR)
    case label l=>cases hcode;exact wpIn_label (ihn _ _ h sv _ _ κ a w hk hR)
    case loop c=>
     obtain⟨vc,hc,rfl⟩:=YQ.1 hcode
     obtain⟨σ,head,inv,μ,lf,hlf,⟨x0,hx0,hle0⟩,hround⟩:=h
     obtain⟨D0,hD0,hR0'⟩:=I4 (hlf _ _ hle0) hR
     refine wpIn_loop_ghost (fun k a w=> ∃x D,∃hD:Ext w0 D,μ x=k/\inv x/\Rl ⟨w0.wI D hD,ks⟩ (head x) a sv w) (μ x0) ⟨x0,D0,hD0,rfl,hx0,hR0'⟩ ?_
     rintro k a w ⟨x,D,hD,rfl,hx,hRx⟩
     exact ihn _ _ (hround x hx) sv _ _ _ a w (.code c vc _ sv ks rd _ hc (.inLoop _ _ K sv ks rd κ (by
      rintro s' a' w' D' hD' ⟨y,hy,hlt,hle⟩ hR'
      obtain⟨D1,hD1,hR1⟩:=I4 (hlf _ _ hle) hR'
      exact⟨μ y,hlt,y,D1,hD1,rfl,hy,hR1⟩) hk)) hRx
    case exit id=>
     cases hcode
     rw[Yba]at h
     cases hp:Qo id K with
     |no=>rw[hp]at h;exact h.elim
     |go K'=>
      rw[hp]at h
      obtain⟨κ',h1,h2⟩:=Ft hp hk
      exact wpIn_exit (h2 _ _ (ihn _ _ h sv _ _ κ' a w h1 hR))
     |jump d K'=>
      rw[hp]at h
      exact wpIn_exit (hjump h (Fs hp hk))
    case ret=>
     cases hcode
     rw[Ybg]at h
     cases hp:Qn K with
     |no=>rw[hp]at h;exact h.elim
     |go K'=>
      rw[hp]at h
      obtain⟨κ',h1,h2⟩:=Fq hp hk
      exact wpIn_ret (h2 _ _ (ihn _ _ h sv _ _ κ' a w h1 hR))
     |jump d K'=>
      rw[hp]at h
      exact wpIn_ret (hjump h (Fp hp hk))
    case rangeFunc g ps ca cb=>
     obtain⟨z,hz,hcode⟩:=YE.1 hcode
     obtain⟨va,hva,hcode⟩:=YE.1 hcode
     obtain⟨vb,hvb,rfl⟩:=YQ.1 hcode
     rw[Ybe]at h
     obtain⟨bs,hf,hsv,hH,hb,hoth⟩:=id hR
     have hrep:=Cy (w:=w) (VB (hJ:=hD) hS hb hH) hf hz
     generalize s.x z=v at h hrep
     unfold Ay at h
     split at h
     ·rename_i gf us cs
      unfold Ax at h
      cases hfn:E.fn gf with
      |none=>rw[hfn]at h;exact h.elim
      |some vf=>
       rw[hfn]at h
       obtain⟨hnr,h⟩:=h
       have hrd:=Fk hnr hk
       subst hrd
       obtain⟨fn,hfs,hvf,hen⟩:=hE.fn gf vf hfn
       obtain⟨c,hbody,hcode,hres',hnt⟩:=FO hvf
       obtain⟨uv,cv,hgv,g1,g2⟩:=hrep.fn_inv
       refine wpIn_rangeFunc fun fr _=>?_
       have hB:w0.heap.size<=w.heap.size:=hb.size
       obtain⟨q,hq⟩:∃q:Rec,q= { fn:=fr,ps:=ps.toList,ca:=ca,cb:=cb,D:=w.heap.size,tmps:=a.tmps}:=⟨_,rfl⟩
       obtain⟨W1,hW1⟩:∃W1,W1=(w.alloc (.deferred (some []))).alloc (.loop (q.at .ready none)):=⟨_,rfl⟩
       have hent:(Instr.enterLoop fr a.tmps ps ca cb (Wd none).round).run P w= .ok (w.heap.size+1,[W3 w.heap.size]) W1:=by
        rw[hW1,hq]
        exact run_enterLoop_outer _ _ _ _ _
       refine⟨w.heap.size+1,[W3 w.heap.size],W1,{ target:= .fn (.func gf) cv.toArray,args:=uv.toArray++ #[.func (.yield (w.heap.size+1)) #[] #[]]},W1,gf,(uv++(.func (.yield (w.heap.size+1)) #[] #[]::cv)).toArray,W1,
        hent,?_,fun _ _=>trivial,?_,fun h=>(by cases h),?_⟩
       ·simp only[resolve,hgv,Deferred.ofValue,Sem.run_bind,Sem.run_pure,Result.andThen_ok]
        simp [Act.eval]
       ·simp only[invoke,AD hen]
        simp
       ·refine Fa (b:=vf.body) hfs hbody ?_
        refine ihn _ _ (h (w.heap.size+1)) ({ a with defers:=[W3 w.heap.size]++a.defers}::sv) _ _ _ { tmps:=_,defers:=[]} _ (.code c vf.body _ _ _ _ _ hcode (.rfrm vf.res _ q (q.at .ready none) va vb none fn _ _ _ _ _ _ hres' ps.toList (by rw[hq]) (by rw[hq]) (by rw[hq];exact hva) (by rw[hq];exact hvb) .none hk)) (D:=D) (hD:=hD) ?_
        rw[hW1]
        refine Ynh hf hsv hH hb hoth ?_
        have hy:Rep w bs (w0.wI D hD).bd (.fn (.yield (w.heap.size+1)) [] []) (.func (.yield (w.heap.size+1)) #[] #[]):= .x _ _ (.fn _ [] [] [] [] .nil .nil)
        have:=Hr (n:=fn.ntmps) (g1.append (.cons _ _ _ _ hy g2))
        rw[hnt]
        simpa using this
     ·exact h.elim
 exact fun n=>main n n (Yt _)
end
end Go.Vx
namespace Go.Vx
open Go.RowKit
section
variable {P:Program} {E:Env}
def Jz(al:Bool)(k:SV->List HO->Prop)(r:SV)(hp:List HO):Prop:=
 ∃r',k r' []/\le 0 0 (JT hp r) r'/\(al=false->Y3 r')
theorem Dx:Cut [] [] 0 0:=⟨rfl,rfl,fun _ _ h=>absurd h (J8 _),fun _ _ h=>absurd h (J8 _)⟩
theorem XRepL.up{w:World}{bs:List BK}{B:Bd}{l:List SV}{vs:List Value}(h:XRepL w bs B l vs):RepL w bs B l vs:=h.rep
theorem Yy{f:FuncId}{fn:Func}{vf:VF}(hf:P.funcs[f]? =some fn)(hvf:Yn P fn=some vf)(hE:YD P E)(n:Nat)(c:Ctr)
 (h:∀(args:List SV) (k:SV->List HO->Prop),CSat (c.of args) k->∃args',leL 0 0 args args'/\run E (Jz c.alias k) vf.res n [.code vf.body] { fr:=X1 vf.ntmps args',saved:=[],hp:=[]}):c.ok P f:=by
 intro args vs z k hsat hx hc
 obtain⟨args',hle,hrun⟩:=h args k hc
 have hk0:ZG z.toWorld [] z.bd z.toWorld [] (z.wI z.I (Xw z)).bd:=⟨rfl,fun _ _ h=>h,fun b hf cs T fz ho=>⟨ho,V4,hf.2,z.ex b hf.2⟩⟩
 have hx2:RepL z.toWorld [] (z.wI z.I (Xw z)).bd args' vs:=V8 Dx _ _ hle (XRepL.keepG hk0 hx).rep
 obtain⟨body,hbody,hcode,hres,hnt⟩:=FO hvf
 refine F9 (n:=0) (Fa (b:=vf.body) hf hbody ?_)
 refine Py (w0:=z) (fn0:=fn) (R0:=fun e w'=> ∃r hs v bs,∃J,∃hJ:Ext z J,k r hs/\e= .returned v/\Rep w' bs (z.wI J hJ).bd r v/\Hp w' bs (z.wI J hJ).bd hs/\BelowI z.bd z.toWorld w'/\(c.alias=false->Y3 r/\Xf hs)) hE hsat.2 hres (by
  rintro r hp v w' bs D hD ⟨r',hk,hle,hfr⟩ hr hH hb
  refine⟨r',[],v,[],D,hD,hk,rfl,I8 Dx _ _ hle (.x _ _ (YgT hH hr)),hp0 fun b K hb=>(hH.reg b K hb).2,hb,fun ha=>⟨hfr ha,trivial⟩⟩) n _ _ hrun [] [] none _
  {tmps:=vs.toArray++Ve (fn.ntmps-vs.toArray.size) undef,defers:=[]} z.toWorld (.code body vf.body [] [] [] none _ hcode .nil) (D:=z.I) (hD:=Xw z) ?_
 refine⟨[],?_,.nil,hp0 (hJ:=Xw z) hsat.1,BelowI.refl _ _,⟨fun _ h=>(by cases h),.nil,[[]],rfl,by simp,fun _ h=>(by simp at h)⟩⟩
 have:=Hr (n:=fn.ntmps) hx2
 rw[hnt]
 simpa using this
def Ck:List VOp->List Nat
 | []=>[]
 | ⟨some d,_,_,_⟩::l=>d::Ck l
 | ⟨none,_,_,_⟩::l=>Ck l
def Cj:List (Nat×AL)->List Nat
 | []=>[]
 | (d,_)::l=>d::Cj l
def NS:List DOp->List Nat
 | []=>[]
 | ⟨⟨some d,_,_,_⟩,_⟩::l=>d::NS l
 | ⟨⟨none,_,_,_⟩,_⟩::l=>NS l
def NT:DTr->List Nat
 | .leaf=>[]
 | .ops l t=>NS l++NT t
 | .br a b=>NT a++NT b
def wrC:VC->List Nat
 | .region l=>Ck l
 | .draw al l=>Cj al++NS l
 | .drawT al t=>Cj al++NT t
 | .seq a b=>wrC a++wrC b
 | .cond _ a b=>wrC a++wrC b
 | .block _ c=>wrC c
 | .loop c=>wrC c
 |_=>[]
def junkAt:List SV->List Nat->List SV
 |fr,[]=>fr
 |fr,n::l=>junkAt (Kq fr n .junk) l
def Nn:List SV->List (Nat×SV)->List SV
 |fr,[]=>fr
 |fr,(n,v)::l=>Nn (Kq fr n v) l
def No:List HO->List (Nat×HO)->List HO
 |hp,[]=>hp
 |hp,(n,v)::l=>No (KL hp n v) l
def MG(s:S)(body:VC)(ghosts:List HO)(KA:List (Nat×SV))(blocks:List (Nat×HO)):S:=
 {fr:=Nn (junkAt s.fr (wrC body)) KA,saved:=s.saved,hp:=No (s.hp++ghosts) blocks}
theorem Loop.at{r:List It->S->Prop}{body:VC}{K:List It}{s:S}(σ:Type)(KA:σ->List (Nat×SV))(blocks:σ->List (Nat×HO))(ghosts:List HO)(inv:σ->Prop)(μ:σ->Nat)
 (h0:∃x,inv x/\leS s (MG s body ghosts (KA x) (blocks x)))
 (h:∀x,inv x->r (.code body:: .inLoop (fun s'=> ∃y,inv y/\μ y<μ x/\leS s' (MG s body ghosts (KA y) (blocks y)))::K) (MG s body ghosts (KA x) (blocks x))):Loop r body K s leP:=
 ⟨σ,fun x=>MG s body ghosts (KA x) (blocks x),inv,μ,leS,fun _ _ h=>⟨[],trivial,[],trivial,h⟩,h0,h⟩
def keepG:List Nat->List SV->List SV
 | [],l=>MP l
 |_,[]=>[]
 |0::ks,x::l=>x::keepG ks l
 | (k+1)::ks,_::l=> .junk::keepG (k::ks) l
def WB(s:S)(keep:List Nat)(ghosts:List HO)(KA:List (Nat×SV))(blocks:List (Nat×HO)):S:=
 {fr:=Nn (keepG keep s.fr) KA,saved:=s.saved,hp:=No (s.hp++ghosts) blocks}
theorem Loop.keep{r:List It->S->Prop}{body:VC}{K:List It}{s:S}(keep:List Nat)(σ:Type)(KA:σ->List (Nat×SV))(blocks:σ->List (Nat×HO))(ghosts:List HO)(inv:σ->Prop)(μ:σ->Nat)
 (h0:∃x,inv x/\leS s (WB s keep ghosts (KA x) (blocks x)))
 (h:∀x,inv x->r (.code body:: .inLoop (fun s'=> ∃y,inv y/\μ y<μ x/\leS s' (WB s keep ghosts (KA y) (blocks y)))::K) (WB s keep ghosts (KA x) (blocks x))):Loop r body K s leP:=
 ⟨σ,fun x=>WB s keep ghosts (KA x) (blocks x),inv,μ,leS,fun _ _ h=>⟨[],trivial,[],trivial,h⟩,h0,h⟩
end
end Go.Vx
namespace Go.Vx
variable {al:Bool} {k:SV->List HO->Prop} {hp:List HO} {m n:Nat}
theorem Kb{κ:IntKind}{x:Int}(h:k (.int κ x) []):Jz al k (.int κ x) hp:=⟨_,h,by simp [JT,JX,le],fun _=>by simp [Y3]⟩
theorem QF{b:Bool}(h:k (.bool b) []):Jz al k (.bool b) hp:=⟨_,h,by simp [JT,JX,le],fun _=>by simp [Y3]⟩
theorem Kv{x r':SV}(h:k r' [])(hl:le 0 0 (JT hp x) r')(hf:al=false->Y3 r'):Jz al k x hp:=⟨_,h,hl,hf⟩
theorem YiW{x:SV}:le m n x .junk=True:=by cases x <;> simp [le]
theorem BN{κ κ':IntKind}{x y:Int}:le m n (.int κ x) (.int κ' y)=(κ=κ'/\x=y):=by simp [le]
theorem YiS{x y:Bool}:le m n (.bool x) (.bool y)=(x=y):=by simp [le]
theorem YiX:le m n .nil .nil=True:=by simp [le,bnd]
theorem I6{a b:List SV}:le m n (.agg a) (.agg b)=leL m n a b:=by simp [le]
theorem Yi7{a b:List SV}:le m n (.tup a) (.tup b)=leL m n a b:=by simp [le]
theorem Li{t t' z z':Bool}{l l' sz sz':Nat}{g g':Nat->List SV}:le m n (.vs t z l sz g) (.vs t' z' l' sz' g')=((t'=true->t=true)/\z=z'/\l=l'/\sz=sz'/\∀k,k<l->QK (g k) (g' k)):=by simp [le]
theorem Yi2{i o i' o':Nat}:le m n (.ptr i o) (.ptr i' o')=(i=i'/\o=o'/\i'<n):=by simp [le,bnd,and_assoc]
theorem Yi1{i lo l sz i' lo' l' sz':Nat}:le m n (.own i lo l sz) (.own i' lo' l' sz')=(i=i'/\lo=lo'/\l=l'/\sz=sz'/\i<n):=by simp [le]
theorem Lj{t t':Bool}{c c':List SV}:le m n (.xp t c) (.xp t' c')=((t'=true->t=true)/\QK c c'):=by simp [le]
theorem YiU{f f':Fn}{a b a' b':List SV}:le m n (.fn f a b) (.fn f' a' b')=(f=f'/\a=a'/\b=b'/\Jl n a'/\Jl n b'):=by simp [le,bnd,and_assoc]
theorem Yi0{b b':Bool}{x y:SV}:le m n (.opt b x) (.opt b' y)=(b=b'/\x=y/\bnd n y):=by simp [le,bnd,and_assoc]
theorem Yi8{x y:Value}:le m n (.val x) (.val y)=(x=y):=by simp [le,bnd]
theorem YiT{i k o sz i' k' o' sz':Nat}:le m n (.elem i k o sz) (.elem i' k' o' sz')=(i=i'/\k=k'/\o=o'/\sz=sz'/\i'<n):=by simp [le,bnd,and_assoc]
theorem YiP{x:List SV}:QK x x=True:=eq_true (YW x)
theorem YiY{i lo l sz:Nat}:le m n .nil (.own i lo l sz)=(m<=i/\i<n/\lo=0/\l=0):=by simp [le]
theorem YiZ{t z:Bool}{l sz:Nat}{g:Nat->List SV}:le m n .nil (.vs t z l sz g)=(z=true/\l=0):=by simp [le]
theorem YiJ{z:Bool}{sz l:Nat}{g:Nat->List SV}{r:List HO}:leH m n [] (.own z sz l g::r)=(z=true/\l=0/\leH m n [] r):=rfl
theorem Yjb:Yi []=0:=rfl
theorem Yja{x:HO}{a:List HO}:Yi (x::a)=Yi a+1:=rfl
theorem BM:leL m n [] []=True:=by simp [leL]
theorem BL{x y:SV}{a b:List SV}:leL m n (x::a) (y::b)=(le m n x y/\leL m n a b):=by simp [leL]
theorem YiM:UI m n [] []=True:=by simp [UI]
theorem YiL{x y:List SV}{a b:List (List SV)}:UI m n (x::a) (y::b)=(leL m n x y/\UI m n a b):=by simp [UI]
theorem YiK{h:List HO}:leH m n h []=True:=by cases h <;> simp [leH]
theorem YiF{a b:List SV}:WC m n (.box a) (.box b)=leL m n a b:=by simp [WC]
theorem Yi5{a:Nat}{C:Nat->Int->Prop}:le m n (.row a C) (.row a C)=True:=eq_true ⟨rfl,trivial⟩
theorem Yi4{C:Int->Prop}:le m n (.rcell C) (.rcell C)=True:=eq_true ⟨rfl,trivial⟩
theorem YiV{kk:List IntKind}{C:List Int->Int->Prop}:le m n (.imap kk C) (.imap kk C)=True:=eq_true ⟨rfl,trivial⟩
theorem Yi6{i:Nat}:le m n (.smp i) (.smp i)=(i<n):=propext ⟨fun h=>h.2,fun h=>⟨rfl,h⟩⟩
theorem YfI{a:Nat}{C:Nat->Int->Prop}:bnd n (.row a C)=True:=rfl
theorem YfH{C:Int->Prop}:bnd n (.rcell C)=True:=rfl
theorem YfA{kk:List IntKind}{C:List Int->Int->Prop}:bnd n (.imap kk C)=True:=rfl
theorem YfJ{i:Nat}:bnd n (.smp i)=(i<n):=rfl
theorem YiI{l l':List (List UInt8)}:WC m n (.smap l) (.smap l')=(l=l'):=rfl
theorem YiG:WC m n .gone .gone=True:=by simp [WC]
theorem YiH{z z':Bool}{sz sz' l l':Nat}{g g':Nat->List SV}:WC m n (.own z sz l g) (.own z' sz' l' g')=(z=z'/\sz=sz'/\l=l'/\∀k,k<l->leL m n (g k) (g' k)):=by simp [WC]
theorem YiO{fr fr':List SV}{sv sv':List (List SV)}{h h':List HO}:leS ⟨fr,sv,h⟩ ⟨fr',sv',h'⟩=(leL (Yi h) (Yi h') fr fr'/\UI (Yi h) (Yi h') sv sv'/\leH (Yi h) (Yi h') h h'):=rfl
theorem YfB{k:IntKind}{x:Int}:bnd n (.int k x)=True:=rfl
theorem Yfw{b:Bool}:bnd n (.bool b)=True:=rfl
theorem YfL{v:Value}:bnd n (.val v)=True:=rfl
theorem YfD:bnd n .nil=True:=rfl
theorem YfC:bnd n .junk=True:=rfl
theorem YfM{t z:Bool}{l sz:Nat}{g:Nat->List SV}:bnd n (.vs t z l sz g)=True:=rfl
theorem YfN{t:Bool}{c:List SV}:bnd n (.xp t c)=True:=rfl
theorem Yfv{c:List SV}:bnd n (.agg c)=Jl n c:=rfl
theorem YfK{c:List SV}:bnd n (.tup c)=Jl n c:=rfl
theorem YfG{i o:Nat}:bnd n (.ptr i o)=(i<n):=rfl
theorem YfF{i a b c:Nat}:bnd n (.own i a b c)=(i<n):=rfl
theorem Yfx{i a b c:Nat}:bnd n (.elem i a b c)=(i<n):=rfl
theorem Yfy{f:Fn}{a b:List SV}:bnd n (.fn f a b)=(Jl n a/\Jl n b):=rfl
theorem Yfz{t:TypeId}{v:SV}:bnd n (.iface t v)=bnd n v:=rfl
theorem YfE{b:Bool}{v:SV}:bnd n (.opt b v)=bnd n v:=rfl
theorem Yfu:Jl n []=True:=rfl
theorem Yft{x:SV}{l:List SV}:Jl n (x::l)=(bnd n x/\Jl n l):=rfl
mutual
theorem JG:∀(x:SV),bnd n x->le m n x x
 | .int _ _,_=>⟨rfl,rfl⟩
 | .bool _,_=>rfl
 | .val _,h=>⟨rfl,h⟩
 | .nil,h=>⟨rfl,h⟩
 | .agg cs,h=>YN cs h
 | .tup cs,h=>YN cs h
 | .vs _ _ _ _ get,_=>⟨id,rfl,rfl,rfl,fun k _=>YW (get k)⟩
 | .xp _ cs,_=>⟨id,YW cs⟩
 | .ptr _ _,h=>⟨rfl,h⟩
 | .own _ _ _ _,h=>⟨rfl,rfl,rfl,rfl,h⟩
 | .elem _ _ _ _,h=>⟨rfl,h⟩
 | .fn _ _ _,h=>⟨rfl,h⟩
 | .iface _ _,h=>⟨rfl,h⟩
 | .opt _ _,h=>⟨rfl,h⟩
 | .cut _,h=>⟨rfl,h⟩
 | .row _ _,h=>⟨rfl,h⟩
 | .rcell _,h=>⟨rfl,h⟩
 | .imap _ _,h=>⟨rfl,h⟩
 | .smp _,h=>⟨rfl,h⟩
 | .junk,_=>trivial
theorem YN:∀(x:List SV),Jl n x->leL m n x x
 | [],_=>trivial
 |x::l,h=>⟨JG x h.1,YN l h.2⟩
end
theorem Sz:∀(k:Nat)(l:List SV),Jl n l->Jl n (YP k l)
 |0,_,_=>trivial
 |_+1,[],_=>trivial
 |k+1,_::l,h=>⟨h.1,Sz k l h.2⟩
theorem Sy:∀(k:Nat)(l:List SV),Jl n l->Jl n (YF k l)
 |0,_,h=>h
 |_+1,[],_=>trivial
 |k+1,_::l,h=>Sy k l h.2
theorem YiN{sz k:Nat}{cs:List SV}(h:Jl n cs=True):leL m n (Jt sz cs k) (Jt sz cs k)=True:=
 eq_true (YN _ (Sz _ _ (Sy _ _ (of_eq_true h))))
theorem Yor(n:Nat):VE n 0=n:=rfl
theorem CA(k:Nat):QE 0 k=k:=rfl
theorem Yoq(n:Nat):VE n (Xs 1)=n-1:=rfl
theorem YeX(k:Nat):QE (Xs 1) k=1+k:=rfl
end Go.Vx
