/- Logarithms of lists of terms as linear sums; terms joined, in plain Lean. -/
import Derived.Test.YtfjodiojchknmaaGreatDoorMgX38h
import Derived.Test.YtfjodiojchknmaaGreatDoorMgX38d
import Derived.LaidMore
import Derived.OpenShut
import Derived.Stop.Joined
import Derived.Deep.Slices
import Derived.Test.YtfjodiojchknmaaGreatDoorRows
import Derived.Test.YtfjodiojchknmaaGreatDoorCards
import Derived.Test.YtfjodiojchknmaaGreatDoorTie
import Derived.ProofKit
import Derived.SevenTiedAt
open Array renaming getElem?_eq_some_iff->YE6
open Bool renaming and_eq_true->YEI,not_eq_true'->YFC,or_eq_true->YFn
open Int renaming le_of_lt->YFG,mul_le_mul_of_nonneg_left->YEM,mul_le_mul_of_nonneg_right->YE1,mul_nonneg->YEL,natCast_add->YFH,natCast_mul->YFe,toNat_natCast->YEB
open Go.IntWalk renaming i64_in->YED
open List renaming length_append->YE8,length_cons->YFb,map_cons->YE0,mem_append->YE3,mem_cons->YE5,mem_cons_of_mem->YEN,mem_cons_self->YES,mem_map->YFz,mem_singleton->YFg
open Nat renaming add_mul->YE4,div_add_mod->YFB,le_of_lt->YFJ,le_of_mul_le_mul_right->YEY,le_refl->YEK,le_trans->YEQ,lt_of_le_of_lt->YFp,lt_of_lt_of_le->YFq,mod_lt->YFD,mul_add->YFw,mul_assoc->YEH,mul_comm->YEJ,mul_le_mul->YEV,mul_le_mul_left->YEG,mul_le_mul_right->YEF,mul_left_comm->YEX,mul_one->YFI,mul_pow->YEZ,pow_add->YEO,pow_le_pow_left->YEP,pow_mul->YET,pow_pos->YFj,reduceAdd->YEx,reduceEqDiff->YEy,reduceLeDiff->YEz,zero_add->YFv
open Go.Proofs.Tryz renaming prog->YEC
set_option linter.all false
namespace Go.Proofs.YtfjodiojchknmaaGreatDoor
open Go Go.Vx
set_option maxRecDepth 100000
def lam:List (Int×Int)->Int
 | []=>0
 |x::l=>x.2*loN x.1.toNat+lam l
def wid(l:List (Int×Int)):Nat:=upS wP l+dnS wP l
theorem Yre:∀l,lam l=(upS loN l:Int)-dnS loN l
 | []=>rfl
 |x::l=>by
   have ih:=Yre l
   rw[lam,upS,dnS,ih]
   by_cases c:x.2<0
   . rw[if_pos c,if_pos c,YFH,YFH,YFe,show((-x.2).toNat:Int)= -x.2 by omega,Int.mul_neg,Int.mul_comm]
     omega
   . rw[if_neg c,if_neg c,YFH,YFH,YFe,show(x.2.toNat:Int)=x.2 by omega,Int.mul_comm]
     omega
theorem Ysr{l:List (Int×Int)}(hl:∀x,x∈l->okU x)(hn:l.length<=20):(0<=Yaz l-> -((wid l:Int)*DD)<=lam l)/\(¬0<=Yaz l->lam l<0):=by
 obtain⟨s1,s2⟩:=Ytf (g:=loN) (h:=hiN) (w:=wP) (c:=DD) l (fun x hx=>Yvt (YbP (hl x hx)).1 (YnY (hl x hx)))
 have s3:=(Ygo (g:=loN) (h:=hiN) (fun n a b=>(Yjt a b).1) l hl).1
 rw[Yre,Yhk hl hn]
 unfold wid
 rw[YFH,Int.add_mul,<-YFe,<-YFe]
 constructor <;> intro h <;> omega
theorem Yjm(b:List (Int×Int)):∀a,lam (a++b)=lam a+lam b
 | []=>by simp [lam]
 |x::a=>by
   rw[List.cons_append,lam,lam,Yjm b a];omega
theorem Ymp(a b:List (Int×Int)):wid (a++b)=wid a+wid b:=by
 unfold wid
 rw[(Y7 wP a b).1,(Y7 wP a b).2];omega
theorem YaM(x:Int×Int)(l:List (Int×Int)):wid (x::l)=wP x.1.toNat*x.2.natAbs+wid l:=by
 unfold wid
 rw[upS,dnS]
 by_cases c:x.2<0
 . rw[if_pos c,if_pos c,show(-x.2).toNat=x.2.natAbs by omega];omega
 . rw[if_neg c,if_neg c,show x.2.toNat=x.2.natAbs by omega];omega
theorem YkV:∀l,(∀x,x∈l->okU x)->lam (l.map ngT)= -lam l
 | [],_=>rfl
 |x::l,h=>by
   rw[YE0,Ydi (h x (YES ..)),lam,lam,YkV l fun y hy=>h y (YEN _ hy)]
   simp only[Int.neg_mul]
   omega
theorem YsV(l:List (Int×Int))(h:∀x,x∈l->okU x):wid (l.map ngT)=wid l:=by
 unfold wid
 rw[(ng_S wP l h).1,(ng_S wP l h).2];omega
theorem Yrf(s:Int):∀l,lam (l.map (sclT s))=s*lam l
 | []=>by simp [lam]
 |x::l=>by
   rw[YE0,lam,lam,Yrf s l,Int.mul_add]
   unfold sclT
   simp only
   rw[Int.mul_assoc,Int.mul_left_comm]
theorem YsW(s:Int):∀l,wid (l.map (sclT s))=s.natAbs*wid l
 | []=>by simp [wid,upS,dnS]
 |x::l=>by
   rw[YE0,YaM,YaM,YsW s l,YFw]
   unfold sclT
   simp only
   rw[Int.natAbs_mul,YEJ x.2.natAbs,YEX]
def kS(n:Int):List (Int×Int)->Nat
 | []=>0
 |x::l=>(if x.1=n then x.2.natAbs else 0)+kS n l
theorem Yv3{n:Int}:∀{l:List (Int×Int)}{x},x∈l->x.1=n->x.2.natAbs<=kS n l
 |y::l,x,h,e=>by
   rw[kS]
   rcases YE5.1 h with rfl|h
   . rw[if_pos e];omega
   . have:=Yv3 h e;omega
theorem YgV(n:Int)(b:List (Int×Int)):∀a,kS n (a++b)=kS n a+kS n b
 | []=>by simp [kS]
 |x::a=>by rw[List.cons_append,kS,kS,YgV n b a];omega
theorem YvG{n num:Int}:∀{o:List (Int×Int)},kS n o+num.natAbs<=1000000000000->lam (addJ n num o)=lam o+num*loN n.toNat/\wid (addJ n num o)<=wid o+wP n.toNat*num.natAbs/\∀m,kS m (addJ n num o)<=kS m o+(if n=m then num.natAbs else 0)
 | [],_=>by
   refine⟨by simp [addJ,lam],by
     rw[addJ,YaM]
     simp only
     omega,fun m=>by
     rw[addJ,kS]
     simp only[kS]
     omega⟩
 |y::o,h=>by
   rw[kS]at h
   rw[addJ]
   by_cases c:y.1=n
   . rw[if_pos c]at h
     rw[if_pos c,YED (y.2+num) (by omega)]
     refine⟨?_,?_,fun m=>?_⟩
     . rw[lam,lam,c]
       simp only[Int.add_mul]
       omega
     . rw[YaM,YaM,c]
       simp only
       have:(y.2+num).natAbs<=y.2.natAbs+num.natAbs:=by omega
       have:=YEG (wP n.toNat) this
       rw[YFw]at this
       omega
     . rw[kS,kS,c]
       simp only
       split <;> omega
   . rw[if_neg c]at h
     rw[if_neg c]
     obtain⟨h1,h2,h3⟩:=YvG (o:=o) (n:=n) (num:=num) (by omega)
     refine⟨?_,?_,fun m=>?_⟩
     . rw[lam,lam,h1];omega
     . rw[YaM,YaM];omega
     . have:=h3 m
       rw[kS,kS];omega
theorem YxO{x:Int}{B:Nat}(hx:x.natAbs<=2000):∀{a o:List (Int×Int)},(∀m,kS m o+x.natAbs*kS m a<=B)->B<=1000000000000->(∀y,y∈a->y.2.natAbs<=1000000000)->
   lam (jnL x a o)=lam o+x*lam a/\wid (jnL x a o)<=wid o+x.natAbs*wid a/\∀m,kS m (jnL x a o)<=kS m o+x.natAbs*kS m a
 | [],o,_,_,_=>by simp [jnL,lam,wid,upS,dnS,kS]
 |t::a,o,h,hB,hb=>by
   have ht:=hb t (YES ..)
   have hxt:(x*t.2).natAbs=x.natAbs*t.2.natAbs:=Int.natAbs_mul ..
   have hm:=YEV hx ht
   have ew:IntKind.i64.wrap (x*t.2)=x*t.2:=YED _ (by omega)
   have h0:=h t.1
   rw[kS,if_pos rfl,YFw]at h0
   obtain⟨a1,a2,a3⟩:=YvG (o:=o) (n:=t.1) (num:=x*t.2) (by omega)
   have hstep:∀m,kS m (addJ t.1 (x*t.2) o)+x.natAbs*kS m a<=B:=fun m=>by
     have k1:=a3 m
     have k2:=h m
     rw[kS,YFw]at k2
     by_cases e:t.1=m
     . rw[if_pos e]at k1 k2
       omega
     . rw[if_neg e]at k1 k2
       omega
   obtain⟨b1,b2,b3⟩:=YxO hx hstep hB fun y hy=>hb y (YEN _ hy)
   have e:jnL x (t::a) o=jnL x a (addJ t.1 (x*t.2) o):=by
     show jnL x a (addJ t.1 (IntKind.i64.wrap (x*t.2)) o)=_
     rw[ew]
   rw[e]
   refine⟨?_,?_,fun m=>?_⟩
   . rw[b1,a1,lam,Int.mul_add,Int.mul_assoc];omega
   . rw[YaM,YFw]
     rw[hxt,YEX]at a2
     omega
   . have k1:=a3 m
     have k2:=b3 m
     rw[kS,YFw]
     by_cases e:t.1=m
     . rw[if_pos e]at k1⊢
       omega
     . rw[if_neg e]at k1⊢
       omega
def Dis(l:List (Int×Int)):Prop:=l.Pairwise fun a b=>a.1≠b.1
theorem YlH{n num:Int}:∀{o:List (Int×Int)}{y},y∈addJ n num o->y.1=n\/∃z,z∈o/\z.1=y.1
 | [],y,h=>by
   rw[addJ,YFg]at h
   exact Or.inl (by rw[h])
 |z::o,y,h=>by
   rw[addJ]at h
   by_cases c:z.1=n
   . rw[if_pos c]at h
     rcases YE5.1 h with rfl|h
     . exact Or.inl c
     . exact Or.inr ⟨y,YEN _ h,rfl⟩
   . rw[if_neg c]at h
     rcases YE5.1 h with rfl|h
     . exact Or.inr ⟨y,YES ..,rfl⟩
     . rcases YlH h with e| ⟨w,w1,w2⟩
       . exact Or.inl e
       . exact Or.inr ⟨w,YEN _ w1,w2⟩
theorem YpZ{n num:Int}:∀{o:List (Int×Int)},Dis o->Dis (addJ n num o)
 | [],_=>by rw[addJ];exact List.pairwise_singleton ..
 |z::o,h=>by
   obtain⟨h1,h2⟩:=List.pairwise_cons.1 h
   rw[addJ]
   by_cases c:z.1=n
   . rw[if_pos c]
     exact List.pairwise_cons.2 ⟨h1,h2⟩
   . rw[if_neg c]
     refine List.pairwise_cons.2 ⟨fun y hy=>?_,YpZ h2⟩
     rcases YlH hy with e| ⟨w,w1,w2⟩
     . rw[e];exact c
     . rw[<-w2];exact h1 w w1
theorem Yq8{x:Int}:∀{a o:List (Int×Int)},Dis o->Dis (jnL x a o)/\∀y,y∈jnL x a o->∃z,(z∈a\/z∈o)/\z.1=y.1
 | [],o,h=>⟨h,fun y hy=>⟨y,Or.inr hy,rfl⟩⟩
 |t::a,o,h=>by
   obtain⟨h1,h2⟩:=Yq8 (x:=x) (a:=a) (YpZ (n:=t.1) (num:=IntKind.i64.wrap (x*t.2)) h)
   refine⟨h1,fun y hy=>?_⟩
   obtain⟨z,z1,z2⟩:=h2 y hy
   rcases z1 with z1|z1
   . exact⟨z,Or.inl (YEN _ z1),z2⟩
   . rcases YlH z1 with e| ⟨w,w1,w2⟩
     . exact⟨t,Or.inl (YES ..),by rw[<-z2,e]⟩
     . exact⟨w,Or.inr w1,by rw[w2,z2]⟩
theorem YqC:∀{K:List Int}{o:List (Int×Int)},Dis o->(∀y,y∈o->y.1∈K)->o.length<=K.length
 | [],o,_,h=>by
   cases o with
   |nil=>simp
   |cons y o=>exact absurd (h y (YES ..)) (by simp)
 |n::K,o,hd,h=>by
   have key:∀{o:List (Int×Int)},Dis o->(o.filter fun y=>decide (y.1≠n)).length+1≥o.length:=fun {o}=>by
     induction o with
     |nil=>intro _;simp
     |cons y o ih=>
       intro hd
       obtain⟨h1,h2⟩:=List.pairwise_cons.1 hd
       rw[List.filter_cons]
       by_cases c:y.1=n
       . have:(o.filter fun y=>decide (y.1≠n))=o:=List.filter_eq_self.2 fun z hz=>by
           have:=h1 z hz
           rw[c]at this
           simpa using fun hh=>this hh.symm
         rw[if_neg (by simp [c]),this]
         simp
       . rw[if_pos (by simpa using c)]
         have:=ih h2
         simp only[YFb]
         omega
   have h1:=YqC (K:=K) (o:=o.filter fun y=>decide (y.1≠n)) (hd.filter _) fun y hy=>by
     have h2:=List.mem_filter.1 hy
     have h3:=of_decide_eq_true h2.2
     rcases YE5.1 (h y h2.1)with e|e
     . exact absurd e h3
     . exact e
   have h2:=key hd
   simp only[YFb]
   omega
theorem le8{k:Nat}(hk:1<=k):(k+1)^(2*k)<=8*k^(2*k):=by
 have h:=LB.up31 (K:=(k:Int)) (by omega) (2*k) (by omega)
 have h2:(((k+1)^(2*k):Nat):Int)*12<=((k^(2*k):Nat):Int)*92:=by
   push_cast at h⊢
   generalize((k:Int)+1)^(2*k)=x at*
   generalize(k:Int)^(2*k)=y at*
   have hk3:(0:Int)<(k:Int)^3:=Int.pow_pos (by omega)
   refine Int.le_of_mul_le_mul_right (a:=(k:Int)^3) ?_ hk3
   grind
 have h3:(k+1)^(2*k)*12<=k^(2*k)*92:=by exact_mod_cast h2
 omega
theorem Yvl{k K c lo1 hi lo:Nat}(hk:1<=k)(g1:2^lo1<=(k+1)^K)(g2:k^K<=2^hi)(g3:hi<=lo+c):2*k*lo1<=2*k*lo+3*K+2*k*(3+c):=by
 obtain⟨m,hm⟩:∃m,m=K/(2*k)+1:=⟨_,rfl⟩
 have hd:=YFB K (2*k)
 have hl:=YFD K (show 0<2*k by omega)
 have e:2*k*m=2*k*(K/(2*k))+2*k:=by rw[hm,YFw,YFI]
 have h8:=YEP (le8 hk) m
 rw[YEZ,<-YET,<-YET,show(8:Nat)=2^3 from rfl,<-YET]at h8
 obtain⟨r,hr⟩:∃r,2*k*m=K+r:=⟨2*k*m-K,by omega⟩
 rw[hr,YEO,YEO]at h8
 have h9:(k+1)^K<=2^(3*m)*k^K:=by
   have hp:0<k^r:=YFj hk
   have hle:=YEP (Nat.le_succ k) r
   refine YEY (c:=k^r) ?_ hp
   rw[YEH]
   exact YEQ (YEG _ hle) h8
 have h10:2^lo1<=2^(3*m+hi):=by
   rw[YEO]
   exact YEQ g1 (YEQ h9 (YEG _ g2))
 have h11:=LB.pow_of_le h10
 have h12:=YEG (2*k) (show lo1<=3*m+(lo+c)by omega)
 have e2:2*k*(3*m+(lo+c))=3*(2*k*m)+2*k*lo+2*k*c:=by grind
 have e3:2*k*(3+c)=3*(2*k)+2*k*c:=by grind
 generalize 2*k*(K/(2*k))=u at*
 omega
theorem Yx5{k:Nat}(h1:1<=k)(h2:k+1<2^29):2*k*loN (k+1)<=2*k*loN k+3*W2+2*k*(3+C48):=
 Yvl (K:=KB) h1 (Ybt (Nat.le_add_left 1 k) (by omega)).1 (Ybt h1 (by omega)).2 (Yjx (Yge h1 (by omega)))
structure Fx (a t0 t:Int) (T:Tm) (f:Nat):Prop where
 hS:chkS a t0 t=0
 hT:Y4 T=0
 hf:1<=f/\f<2^29
def farN(r:Rt)(n:Nat)(o a t0 t:Int)(f:Nat):List (Int×Int):=(lstF r n o t t0).map ngT++[((f:Int),2*(n:Int)),(a, -(2*(n:Int)))]
theorem Yxr{a t0 t note:Int}{T:Tm}{f:Nat}{r:Rt}{n:Nat}(hr:YcI (Yj T) note=r)(h:NR r n):Y9 (Yj T) a t0 t f note=farN r n (note/12-5) a t0 t f:=by
 have hn:=h.rng
 unfold Y9 farN
 rw[Yd3 hr h]
 simp only
 rw[YED (0-2*(n:Int)) (by omega),show(0-2*(n:Int))= -(2*(n:Int))by omega]
theorem Yus(m:Int):∀l,(∀x,x∈l->okU x)->kS m (l.map ngT)=kS m l
 | [],_=>rfl
 |x::l,h=>by
   rw[YE0,Ydi (h x (YES ..)),kS,kS,Yus m l fun y hy=>h y (YEN _ hy),Int.natAbs_neg]
theorem Yv2(m:Int):∀l,kS m (l.map dblT)=2*kS m l
 | []=>rfl
 |x::l=>by
   rw[YE0,kS,kS,Yv2 m l]
   unfold dblT
   simp only
   split <;> omega
theorem YxP(m p n:Int):kS m (tm1 p n)=if p=m then n.natAbs else 0:=by
 unfold tm1
 split
 . rename_i h
   rw[h];simp [kS]
 . simp [kS]
theorem Yut{L:Int}{r:Rt}{a b c:Int}(h:Rep L r a b c)(m:Int):kS m (Yg r)<=100000:=by
 have z:∀p:Int,tm1 p 0=[]:=fun p=>rfl
 obtain⟨_,b1,b2,b3,_⟩:=Yff h.ok
 have b1:=YbY b1
 have b2:=YbY b2
 have b3:=YbY b3
 unfold Yg
 rw[h.hd,h.he,h.hf,z,z,z]
 simp only[List.append_nil]
 rw[YgV,YgV,YxP,YxP,YxP]
 split <;> split <;> split <;> omega
def keys(a t0 t:Int)(f:Nat):List Int:=[2,3,5,273150+t,273150+t0,f,a]
theorem YsH{L:Int}{r:Rt}{a b c:Int}(h:Rep L r a b c):∀x,x∈Yg r->x.1=2\/x.1=3\/x.1=5:=by
 intro x hx
 have z:∀p:Int,tm1 p 0=[]:=fun p=>rfl
 have key:∀(p n:Int),x∈tm1 p n->x.1=p:=fun p n hx=>by
   unfold tm1 at hx
   split at hx
   . cases hx
   . rw[YFg]at hx;rw[hx]
 unfold Yg at hx
 rw[h.hd,h.he,h.hf,z,z,z]at hx
 simp only[List.append_nil,YE3]at hx
 rcases hx with hx|hx|hx
 . exact Or.inl (key _ _ hx)
 . exact Or.inr (Or.inl (key _ _ hx))
 . exact Or.inr (Or.inr (key _ _ hx))
structure FarOk (l:List (Int×Int)) (a t0 t:Int) (f:Nat):Prop where
 ok:∀x,x∈l->okU x/\x.2.natAbs<=1000000
 ks:∀m,kS m l<=218000
 key:∀x,x∈l->x.1∈keys a t0 t f
theorem YlU{a t0 t:Int}{T:Tm}{f:Nat}{r:Rt}{n:Nat}{o:Int}(hx:Fx a t0 t T f)(h:NR r n)(ho: -5<=o/\o<=6):FarOk (farN r n o a t0 t f) a t0 t f/\
   lam (farN r n o a t0 t f)= -lam (lstF r n o t t0)+loN f*(2*n:Nat)-loN a.toNat*(2*n:Nat)/\wid (farN r n o a t0 t f)<=2*n*2^54:=by
 obtain⟨ha,h0,h1⟩:=Ybi hx.hS
 obtain⟨l1,l2⟩:=YgX h h1 h0 ho
 have hs:=YuI (o:=o) h h1 h0
 have hn:=h.rng
 obtain⟨_,_,_,_,hr⟩:=h.rep
 have hf:=hx.hf
 have hU:∀x,x∈lstF r n o t t0->okU x:=fun x hx=>(l1 x hx).1
 have hm:=Yam (x:=2*(n:Int)) (y:=o) (X:=2000) (Y:=6) (by omega) (by omega)
 refine⟨⟨fun x hx=>?_,fun m=>?_,fun x hx=>?_⟩,?_,?_⟩
 . unfold farN at hx
   rw[YE3,YFz]at hx
   rcases hx with⟨y,hy,rfl⟩ |hx
   . obtain⟨y1,y2,y3,y4⟩:=l1 y hy
     rw[Ydi y1]
     unfold okU at y1⊢
     simp only
     omega
   . simp only[YE5,List.not_mem_nil,or_false]at hx
     unfold okU
     rcases hx with rfl|rfl <;> simp only <;> omega
 . unfold farN
   rw[YgV,Yus _ _ hU]
   unfold lstF
   rw[YgV,Yv2]
   have:=Yut hr m
   simp only[kS]
   have e1:(2*(n:Int)*o).natAbs<=12000:=by omega
   generalize 2*(n:Int)*o=z at*
   split <;> split <;> split <;> split <;> split <;> omega
 . unfold farN at hx
   rw[YE3,YFz]at hx
   unfold keys
   rcases hx with⟨y,hy,rfl⟩ |hx
   . rw[Ydi (hU y hy)]
     unfold lstF at hy
     rw[YE3,YFz]at hy
     rcases hy with⟨z,hz,rfl⟩ |hy
     . have:=YsH hr z hz
       unfold dblT
       simp only[YE5]
       rcases this with e|e|e <;> simp [e]
     . simp only[YE5,List.not_mem_nil,or_false]at hy
       rcases hy with rfl|rfl|rfl <;> simp
   . simp only[YE5,List.not_mem_nil,or_false]at hx
     rcases hx with rfl|rfl <;> simp
 . unfold farN
   rw[Yjm,YkV _ hU]
   simp only[lam,YEB]
   rw[Int.neg_mul,YFe]
   grind
 . unfold farN
   rw[Ymp,YsV _ hU,YaM,YaM]
   simp only[YEB]
   have w1:=YEF (2*n) (Yft (n:=f) (Or.inl hf.2))
   have w2:=YEF (2*n) (Yft (n:=a.toNat) (Or.inl (by omega)))
   rw[show(2*(n:Int)).natAbs=2*n by omega,show(-(2*(n:Int))).natAbs=2*n by omega]
   unfold wid
   have:wid []=0:=rfl
   unfold wid at this
   omega
theorem Yr2{a t0 t:Int}{f:Nat}{l l':List (Int×Int)}{x y:Int}(h:FarOk l a t0 t f)(h':FarOk l' a t0 t f)(hx:x.natAbs<=2000)(hy:y.natAbs<=2000)(ht:YH t=true)(ht0:YH t0=true)(ha:100000<=a/\a<=1000000)(hf:1<=f/\f<2^29):
   lam (pjnF l x l' y)=x*lam l+y*lam l'/\wid (pjnF l x l' y)<=x.natAbs*wid l+y.natAbs*wid l'/\(∀z,z∈pjnF l x l' y->okU z/\z.2.natAbs<=872000000)/\(pjnF l x l' y).length<=7/\Ycx (pjnF l x l' y)=0:=by
 have b:=Yar ht
 have b0:=Yar ht0
 have k1:∀m,x.natAbs*kS m l<=436000000:=fun m=>YEV hx (h.ks m)
 have k2:∀m,y.natAbs*kS m l'<=436000000:=fun m=>YEV hy (h'.ks m)
 obtain⟨a1,a2,a3⟩:=YxO (x:=x) (B:=1000000000000) hx (a:=l) (o:=[]) (fun m=>by have:=k1 m;simp only[kS];omega) (YEK _) (fun z hz=>by have:=(h.ok z hz).2;omega)
 obtain⟨c1,c2,c3⟩:=YxO (x:=y) (B:=1000000000000) hy (a:=l') (o:=jnL x l []) (fun m=>by have:=k2 m;have:=k1 m;have:=a3 m;simp only[kS]at this;omega) (YEK _) (fun z hz=>by have:=(h'.ok z hz).2;omega)
 have hz0:lam ([]:List (Int×Int))=0/\wid []=0:=⟨rfl,rfl⟩
 have d1:=Yq8 (x:=x) (a:=l) (o:=[]) List.Pairwise.nil
 have d2:=Yq8 (x:=y) (a:=l') (o:=jnL x l []) d1.1
 have hkey:∀z,z∈pjnF l x l' y->z.1∈keys a t0 t f:=fun z hz=>by
   obtain⟨w,w1,w2⟩:=d2.2 z hz
   rcases w1 with w1|w1
   . rw[<-w2];exact h'.key w w1
   . obtain⟨v,v1,v2⟩:=d1.2 w w1
     rcases v1 with v1|v1
     . rw[<-w2,<-v2];exact h.key v v1
     . cases v1
 have hok:∀z,z∈pjnF l x l' y->okU z/\z.2.natAbs<=872000000:=fun z hz=>by
   have e1:=Yv3 (n:=z.1) hz rfl
   have e2:=c3 z.1
   have e3:=a3 z.1
   have e4:=k1 z.1
   have e5:=k2 z.1
   simp only[kS]at e3
   have e6:kS z.1 (pjnF l x l' y)=kS z.1 (jnL y l' (jnL x l [])):=rfl
   have e7:=hkey z hz
   simp only[keys,YE5,List.not_mem_nil,or_false]at e7
   unfold okU
   omega
 have hlen:(pjnF l x l' y).length<=7:=YqC (K:=keys a t0 t f) d2.1 hkey
 refine⟨?_,?_,hok,hlen,?_⟩
 . show lam (jnL y l' (jnL x l []))=_
   rw[c1,a1,hz0.1];omega
 . show wid (jnL y l' (jnL x l []))<=_
   rw[hz0.2]at a2
   omega
 . unfold Ycx
   rw[if_neg (by omega),if_neg]
   rw[List.any_eq_true]
   rintro⟨z,hz,ho⟩
   obtain⟨z1,z2⟩:=hok z hz
   have e7:=hkey z hz
   simp only[keys,YE5,List.not_mem_nil,or_false]at e7
   have:=z1.1
   simp only[okT0,YFn,decide_eq_true_eq]at ho
   omega
theorem FarOk.ng{l:List (Int×Int)}{a t0 t:Int}{f:Nat}(h:FarOk l a t0 t f):FarOk (l.map ngT) a t0 t f:=by
 have hU:∀x,x∈l->okU x:=fun x hx=>(h.ok x hx).1
 refine⟨fun x hx=>?_,fun m=>by rw[Yus _ _ hU];exact h.ks m,fun x hx=>?_⟩
 . obtain⟨y,hy,rfl⟩:=YFz.1 hx
   obtain⟨y1,y2⟩:=h.ok y hy
   rw[Ydi y1]
   unfold okU at y1⊢
   simp only
   omega
 . obtain⟨y,hy,rfl⟩:=YFz.1 hx
   rw[Ydi (hU y hy)]
   exact h.key y hy
structure YlC (a t0 t:Int) (T:Tm) (f:Nat) (note:Int) (l0 l:List (Int×Int)) (d:Nat):Prop where
 l0_is:Y9 (Yj T) a t0 t f note=l0
 l_is:farL (Yj T) a t0 t f note=l
 d_is:(Yn (Yj T) t0 t note).2=(d:Int)
 d_rng:2<=d/\d<=2000
 ok0:FarOk l0 a t0 t f
 ok:FarOk l a t0 t f
 wid0:wid l0<=d*2^54
 wid_l:wid l<=d*2^54
 le:lam l<=lam l0\/lam l<= -lam l0
 ge:lam l0<=lam l+2*((wid l0:Int)*DD)/\ -lam l0<=lam l+2*((wid l0:Int)*DD)
theorem YuW{a t0 t note:Int}{T:Tm}{f:Nat}(hx:Fx a t0 t T f)(hn:0<=note/\note<=139):∃r n,YcI (Yj T) note=r/\NR r n/\∃l,YlC a t0 t T f note (farN r n (note/12-5) a t0 t f) l (2*n):=by
 obtain⟨ha,h0,h1⟩:=Ybi hx.hS
 obtain⟨r,n,hr,h⟩:=Yl6 hx.hT hn.1
 have hrn:=h.rng
 obtain⟨k1,k2,k3⟩:=YlU (o:=note/12-5) hx h (by omega)
 have e0:=Yxr (a:=a) (t0:=t0) (t:=t) (f:=f) hr h
 have ed:(Yn (Yj T) t0 t note).2=((2*n:Nat):Int):=by rw[Yd3 hr h];simp only;omega
 have hU:∀x,x∈farN r n (note/12-5) a t0 t f->okU x:=fun x hx=>(k1.ok x hx).1
 have hnil:FarOk ([]:List (Int×Int)) a t0 t f:=⟨fun _ h=>(by cases h),fun _=>Nat.zero_le _,fun _ h=>(by cases h)⟩
 obtain⟨j1,j2,j3,j4,j5⟩:=Yr2 (x:=1) (y:=0) k1 hnil (by decide) (by decide) h1 h0 ha hx.hf
 have hs:(sgnF (pjnF (farN r n (note/12-5) a t0 t f) 1 [] 0)).1=Yaz (pjnF (farN r n (note/12-5) a t0 t f) 1 [] 0):=by
   unfold sgnF
   rw[if_neg (by rw[j5];decide)]
 obtain⟨s1,s2⟩:=Ysr (fun z hz=>(j3 z hz).1) (by omega)
 have hw0:(0:Int)<=(wid (farN r n (note/12-5) a t0 t f):Int)*DD:=YEL (by omega) (by omega)
 have hwj:(wid (pjnF (farN r n (note/12-5) a t0 t f) 1 [] 0):Int)*DD<=(wid (farN r n (note/12-5) a t0 t f):Int)*DD:=by
   refine YE1 ?_ (by omega)
   simp at j2
   omega
 have hlj:lam (pjnF (farN r n (note/12-5) a t0 t f) 1 [] 0)=lam (farN r n (note/12-5) a t0 t f):=by
   rw[j1];simp [lam]
 refine⟨r,n,hr,h,?_⟩
 by_cases c:Yaz (pjnF (farN r n (note/12-5) a t0 t f) 1 [] 0)<0
 . have hneg:=s2 (by omega)
   rw[hlj]at hneg
   refine⟨(farN r n (note/12-5) a t0 t f).map ngT,⟨e0,?_,ed,by omega,k1,k1.ng,k3,by rw[YsV _ hU];exact k3,?_,?_⟩⟩
   . unfold farL
     rw[e0,hs,if_pos c]
   . rw[YkV _ hU];omega
   . rw[YkV _ hU];omega
 . have hpos:=s1 (by omega)
   rw[hlj]at hpos
   refine⟨farN r n (note/12-5) a t0 t f,⟨e0,?_,ed,by omega,k1,k1,k3,k3,?_,?_⟩⟩
   . unfold farL
     rw[e0,hs,if_neg c]
   . omega
   . omega
theorem YoK{x y d:Int}(hd:0<d)(h:x*d<=y*d):x<=y:=Int.le_of_mul_le_mul_right h hd
theorem YuT{a t0 t:Int}{T:Tm}{f:Nat}(hx:Fx a t0 t T f):∀m:Nat,m<=139->∃(b:Nat) (l0 l:List (Int×Int)) (d:Nat),b<=m/\YlC a t0 t T f b l0 l d/\nrL (Yj T) a t0 t f m=⟨b,l,d⟩/\
   ∀(j:Nat)(l0' l':List (Int×Int))(d':Nat),j<=m->YlC a t0 t T f j l0' l' d'->lam l*d'<=lam l'*d+(d:Int)*d'*2^55*DD:=by
 obtain⟨ha,h0,h1⟩:=Ybi hx.hS
 intro m
 induction m with
 |zero=>
   intro _
   obtain⟨r,n,hr,h,l,hN⟩:=YuW (note:=0) hx (by decide)
   refine⟨0,_,l,2*n,YEK _,hN,?_,fun j l0' l' d' hj hN'=>?_⟩
   . rw[nrL,hN.l_is,hN.d_is];rfl
   . obtain rfl:j=0:=by omega
     have e1:l'=l:=by rw[<-hN'.l_is,<-hN.l_is];rfl
     have e2:d'=2*n:=by
       have:=hN'.d_is.symm.trans hN.d_is
       omega
     rw[e1,e2]
     have:(0:Int)<=((2*n:Nat):Int)*((2*n:Nat):Int)*2^55*DD:=YEL (YEL (YEL (by omega) (by omega)) (by decide)) (by omega)
     omega
 |succ m ih=>
   intro hm
   obtain⟨b,l0,l,d,hb,hN,hnr,hall⟩:=ih (by omega)
   obtain⟨r,n,hr,h,l1,hM⟩:=YuW (note:=((m+1:Nat):Int)) hx (by omega)
   obtain⟨e,he⟩:∃e,e=2*n:=⟨_,rfl⟩
   rw[<-he]at hM
   have dr:=hN.d_rng
   have er:=hM.d_rng
   have ew:IntKind.i64.wrap (0-(e:Int))= -(e:Int):=by rw[YED (0-(e:Int)) (by omega)];omega
   obtain⟨j1,j2,j3,j4,j5⟩:=Yr2 (x:=(d:Int)) (y:= -(e:Int)) hM.ok hN.ok (by omega) (by omega) h1 h0 ha hx.hf
   have hs:(sgnF (pjnF l1 d l (-(e:Int)))).1=Yaz (pjnF l1 d l (-(e:Int))):=by
     unfold sgnF
     rw[if_neg (by rw[j5];decide)]
   obtain⟨s1,s2⟩:=Ysr (fun z hz=>(j3 z hz).1) (by omega)
   have hstep:nrL (Yj T) a t0 t f (m+1)=if Yaz (pjnF l1 d l (-(e:Int)))<0 then⟨((m+1:Nat):Int),l1,e⟩else⟨b,l,d⟩:=by
     rw[nrL,hnr]
     simp only
     rw[hM.l_is,hM.d_is,ew,hs]
   have hde:(0:Int)<=(d:Int)*e*2^55*DD:=YEL (YEL (YEL (by omega) (by omega)) (by decide)) (by omega)
   have same:∀(l0' l':List (Int×Int))(d':Nat),YlC a t0 t T f ((m+1:Nat):Int) l0' l' d'->l'=l1/\d'=e:=fun l0' l' d' hN'=>by
     refine⟨by rw[<-hN'.l_is,<-hM.l_is],?_⟩
     have:=hN'.d_is.symm.trans hM.d_is
     omega
   by_cases c:Yaz (pjnF l1 d l (-(e:Int)))<0
   . rw[if_pos c]at hstep
     have hlt:=s2 (by omega)
     rw[j1]at hlt
     refine⟨m+1,_,l1,e,YEK _,hM,hstep,fun j l0' l' d' hj hN'=>?_⟩
     by_cases hjm:j<=m
     . have hr:=hall j l0' l' d' hjm hN'
       have dr':=hN'.d_rng
       refine YoK (d:=(d:Int)) (by omega) ?_
       have k1:=YE1 hr (show(0:Int)<=e by omega)
       have k2:=YE1 (YFG hlt) (show(0:Int)<=d' by omega)
       grind
     . obtain rfl:j=m+1:=by omega
       obtain⟨e1,e2⟩:=same l0' l' d' hN'
       rw[e1,e2]
       have:(0:Int)<=(e:Int)*e*2^55*DD:=YEL (YEL (YEL (by omega) (by omega)) (by decide)) (by omega)
       omega
   . rw[if_neg c]at hstep
     have hge:=s1 (by omega)
     rw[j1]at hge
     refine⟨b,l0,l,d,by omega,hN,hstep,fun j l0' l' d' hj hN'=>?_⟩
     by_cases hjm:j<=m
     . exact hall j l0' l' d' hjm hN'
     . obtain rfl:j=m+1:=by omega
       obtain⟨e1,e2⟩:=same l0' l' d' hN'
       rw[e1,e2]
       have w1:=YEG d hM.wid_l
       have w2:=YEG e hN.wid_l
       have w3:wid (pjnF l1 d l (-(e:Int)))<=d*e*2^55:=by
         rw[show((d:Int)).natAbs=d by omega,show(-(e:Int)).natAbs=e by omega]at j2
         have e3:d*(e*2^54)+e*(d*2^54)=d*e*2^55:=by grind
         omega
       have w4:(wid (pjnF l1 d l (-(e:Int))):Int)*DD<=(d:Int)*e*2^55*DD:=by
         refine YE1 ?_ (by omega)
         exact_mod_cast w3
       have e4:(d:Int)*lam l1+ -(e:Int)*lam l=lam l1*d-lam l*e:=by grind
       rw[e4]at hge
       have e5:((d:Int))*e*2^55*DD=(d:Int)*e*2^55*DD:=rfl
       omega
theorem FarOk.left{l l':List (Int×Int)}{a t0 t:Int}{f:Nat}(h:FarOk (l++l') a t0 t f):FarOk l a t0 t f/\FarOk l' a t0 t f:=
 ⟨⟨fun x hx=>h.ok x (List.mem_append_left _ hx),fun m=>by have:=h.ks m;rw[YgV]at this;omega,fun x hx=>h.key x (List.mem_append_left _ hx)⟩,
   ⟨fun x hx=>h.ok x (List.mem_append_right _ hx),fun m=>by have:=h.ks m;rw[YgV]at this;omega,fun x hx=>h.key x (List.mem_append_right _ hx)⟩⟩
theorem FarOk.of_ng{l:List (Int×Int)}{a t0 t:Int}{f:Nat}(hU:∀x,x∈l->okU x)(h:FarOk (l.map ngT) a t0 t f):FarOk l a t0 t f:=by
 refine⟨fun x hx=>?_,fun m=>by rw[<-Yus m l hU];exact h.ks m,fun x hx=>?_⟩
 . have h1:=h.ok _ (List.mem_map_of_mem hx)
   rw[Ydi (hU x hx)]at h1
   exact⟨hU x hx,by have:=h1.2;simp only at this;omega⟩
 . have h1:=h.key _ (List.mem_map_of_mem hx)
   rw[Ydi (hU x hx)]at h1
   exact h1
theorem Yyt{a t0 t note:Int}{T:Tm}{r:Rt}{n k:Nat}{ex:Bool}(hS:chkS a t0 t=0)(hn:0<=note/\note<=139)(h:NR r n)(hk:1<=k)(p:PowR (lstF r n (note/12-5) t t0) a.toNat (2*n) 160000000 k ex)(hx:Fx a t0 t T k):
   lam (farN r n (note/12-5) a t0 t k)<=(2*n:Nat)*2^54*DD/\2*(k:Int)* -lam (farN r n (note/12-5) a t0 t k)<=(2*n:Nat)*(3*W2+2*k*(3+C48)):=by
 obtain⟨ha,h0,h1⟩:=Ybi hS
 have ho: -5<=note/12-5/\note/12-5<=6:=by omega
 obtain⟨l1,l2⟩:=YgX h h1 h0 ho
 obtain⟨_,q2,_⟩:=YlU hx h ho
 have hs:=YuI (o:=note/12-5) h h1 h0
 have hrn:=h.rng
 have hlt:=p.lt
 have i1:=(p.seg k hk (by omega)).2 (YEK k)
 have i2:¬isS (lstF r n (note/12-5) t t0) a.toNat (2*n) (k+1):=fun hh=>by
   have:=(p.seg (k+1) (by omega) (by omega)).1 hh
   omega
 obtain⟨w1,w2⟩:=Ytf (g:=loN) (h:=hiN) (w:=wP) (c:=DD) (lstF r n (note/12-5) t t0) (fun x hx=>Yvt (YbP (l1 x hx).1).1 (YnY (l1 x hx).1))
 have m3:=(Ygo (g:=loN) (h:=hiN) (fun n a b=>(Yjt a b).1) _ (fun x hx=>(l1 x hx).1)).1
 have wa:=Yvt (n:=a.toNat) (by omega) (by omega)
 have wl:=Yft (n:=a.toNat) (Or.inl (by omega))
 have la:=(Yjt (n:=a.toNat) (by omega) (by omega)).1
 have st:=Yx5 hk hlt
 unfold isS at i1 i2
 rw[q2,Yre]
 generalize upS loN (lstF r n (note/12-5) t t0)=u1 at*
 generalize upS hiN (lstF r n (note/12-5) t t0)=u2 at*
 generalize dnS loN (lstF r n (note/12-5) t t0)=v1 at*
 generalize upS wP (lstF r n (note/12-5) t t0)=x1 at*
 generalize dnS wP (lstF r n (note/12-5) t t0)=x2 at*
 generalize hd:2*n=d at*
 have e1:=YEF d wa
 have e2:=YEF d la
 rw[YE4,Nat.mul_right_comm]at e1
 have e3:(x1+wP a.toNat*d)*DD<=d*2^54*DD:=by
   refine YEF DD ?_
   have:=YEF d wl
   omega
 rw[YE4]at e3
 constructor
 . have e4:v1+loN k*d<=u1+loN a.toNat*d+d*2^54*DD:=by omega
   have e5:((v1+loN k*d:Nat):Int)<=((u1+loN a.toNat*d+d*2^54*DD:Nat):Int):=by exact_mod_cast e4
   rw[YFH,YFH,YFH,YFe,YFe,YFe,YFe]at e5
   have e6:((2^54:Nat):Int)=2^54:=by decide
   rw[e6]at e5
   omega
 . have e4:u1+loN a.toNat*d<=v1+loN (k+1)*d:=by omega
   have e5:=YEG (2*k) e4
   have e6:=YEG d st
   have e7:2*k*(u1+loN a.toNat*d)+d*(2*k*loN (k+1))<=2*k*(v1+loN (k+1)*d)+d*(2*k*loN k+3*W2+2*k*(3+C48)):=by omega
   have e8:2*k*(u1+loN a.toNat*d)<=2*k*v1+2*k*(loN k*d)+d*(3*W2+2*k*(3+C48)):=by
     have f1:2*k*(v1+loN (k+1)*d)=2*k*v1+d*(2*k*loN (k+1)):=by grind
     have f2:d*(2*k*loN k+3*W2+2*k*(3+C48))=2*k*(loN k*d)+d*(3*W2+2*k*(3+C48)):=by grind
     omega
   have e9:((2*k*(u1+loN a.toNat*d):Nat):Int)<=((2*k*v1+2*k*(loN k*d)+d*(3*W2+2*k*(3+C48)):Nat):Int):=by exact_mod_cast e8
   push_cast at e9⊢
   grind
theorem k_pos{a t0 t note:Int}{r:Rt}{n k:Nat}{ex:Bool}(hS:chkS a t0 t=0)(hn:0<=note/\note<=139)(h:NR r n)(p:PowR (lstF r n (note/12-5) t t0) a.toNat (2*n) 160000000 k ex):1<=k:=by
 obtain⟨ha,h0,h1⟩:=Ybi hS
 obtain⟨p1,p2⟩:=YuH (o:=note/12-5) h h1 h0
 have t1:=Yal h1
 have t2:=Yal h0
 refine p.tru 1 (by decide) (by decide) (YFJ ?_)
 rw[p1,p2]
 have hnum:2^9*32^8*(273150+t0).toNat^4*1^8<(273150+t).toNat^4*a.toNat^8:=by
   have h1:=YEP t2.2 4
   have h2:=YEP t1.1 4
   have h3:=YEP (show 100000<=a.toNat by omega) 8
   exact YFp (YEF _ (YEG _ h1)) (YFq (show 2^9*32^8*323150^4*1^8<253150^4*100000^8 by decide+kernel) (YEV h2 h3))
 exact Ymb (s:=1) (B:=a.toNat) h.rng.1 (YaA r.a r.b r.c) (YaA (2*(n:Int)*(note/12-5)) 0 0) h.d (YpH (by omega)) hnum
theorem YxU{k q m D d:Int}(hk:1<=k)(hq:1800000<k*(q+1))(hD:0<D)(hd:0<d)(h:2*k*(m*d*(2^100*D))<=1200000*(d*(3*(2^100*D)+2*k*(2^58*D)))):m<=q+1:=by
 refine Int.not_lt.1 fun hlt=>?_
 have h1:d*D*(2*(k*m)*2^100)<=d*D*(3600000*2^100+2400000*k*2^58):=by grind
 have h2:=Int.le_of_mul_le_mul_left h1 (Int.mul_pos hd hD)
 have h3:k*(q+1)+k<=k*m:=by
   have:=YEM (show q+1+1<=m by omega) (show 0<=k by omega)
   rw[Int.mul_add k (q+1) 1]at this
   omega
 generalize k*m=x at*
 generalize k*(q+1)=y at*
 omega
theorem YxT{k q m D d:Int}(hk:1<=k)(hq:1800000<k*(q+1))(hD:0<D)(hd:0<d)(h: -(1200000*(d*(3*(2^100*D)+2*k*(2^57*D))))<=2*k*((m+1)*d*(2^100*D))): -(q+2)<=m:=by
 refine Int.not_lt.1 fun hlt=>?_
 have h1:d*D* -(3600000*2^100+2400000*k*2^57)<=d*D*(2*(k*(m+1))*2^100):=by grind
 have h2:=Int.le_of_mul_le_mul_left h1 (Int.mul_pos hd hD)
 have h3:k*(m+1)<= -(k*(q+1))-k:=by
   have:=YEM (show m+1<= -(q+1)-1 by omega) (show 0<=k by omega)
   rw[Int.mul_sub,Int.mul_neg]at this
   omega
 generalize k*(m+1)=x at*
 generalize k*(q+1)=y at*
 omega
theorem Yyh{a t0 t note:Int}{T:Tm}{f:Nat}{l0 l0' l l':List (Int×Int)}{d d':Nat}(h:YlC a t0 t T f note l0 l d)(h':YlC a t0 t T f note l0' l' d'):l0=l0'/\l=l'/\d=d':=by
 refine⟨by rw[<-h.l0_is,<-h'.l0_is],by rw[<-h.l_is,<-h'.l_is],?_⟩
 have:=h.d_is.symm.trans h'.d_is
 omega
theorem Yyk{a t0 t note:Int}{T:Tm}{r:Rt}{n k:Nat}{ex:Bool}(hS:chkS a t0 t=0)(hT:Y4 T=0)(hn:0<=note/\note<=139)(hr:YcI (Yj T) note=r)(h:NR r n)(hk:1<=k)(p:PowR (lstF r n (note/12-5) t t0) a.toNat (2*n) 160000000 k ex):
   ∃(b:Nat) (l0 l:List (Int×Int)) (d:Nat),b<=139/\YlC a t0 t T k b l0 l d/\(nrL (Yj T) a t0 t k 139).note=b/\2*(k:Int)*lam l0<=d*(3*W2+2*k*(2^57*DD))/\2*(k:Int)* -lam l0<=d*(3*W2+2*k*(2^57*DD)):=by
 have hx:Fx a t0 t T k:=⟨hS,hT,hk,Nat.lt_of_succ_lt p.lt⟩
 obtain⟨o1,o2⟩:=Yyt hS hn h hk p hx
 obtain⟨r',n',hr',h',l1,hN⟩:=YuW (note:=note) hx hn
 obtain rfl:r'=r:=by rw[<-hr',<-hr]
 obtain rfl:n'=n:=by
   have:=h'.hn.symm.trans h.hn
   omega
 obtain⟨b,l0,l,d,hb,hB,hnr,hall⟩:=YuT hx 139 (YEK _)
 have hm:((note.toNat:Nat):Int)=note:=by omega
 have hle:=hall note.toNat _ l1 (2*n') (by omega) (by rw[hm];exact hN)
 refine⟨b,l0,l,d,hb,hB,by rw[hnr],?_⟩
 have dr:=hB.d_rng
 have er:=hN.d_rng
 obtain⟨D,hD⟩:∃D:Int,D=DD:=⟨_,rfl⟩
 have hD0:0<D:=by
   rw[hD]
   have:0<DD:=by
     refine Nat.pos_of_ne_zero fun hz=>?_
     have h1:=KB_is.1
     rw[hz]at h1
     have:=Ypa
     omega
   omega
 have hW:(W2:Int)=2^100*D:=by
   have h1:W2=2^100*DD:=KB_is.1
   rw[hD,h1,YFe]
   rfl
 have hC:(C48:Int)=2^52*D:=by
   rw[hD,KB_is.2,YFe]
   rfl
 have gB:=hB.ge
 have lN':=hN.le
 rw[<-hD]at o1 hle gB⊢
 rw[hC]at o2
 have w0:(wid l0:Int)*D<=d*2^54*D:=by
   refine YE1 ?_ (YFG hD0)
   exact_mod_cast hB.wid0
 generalize lam (farN r' n' (note/12-5) a t0 t k)=x at*
 generalize lam l1=y at*
 generalize lam l0=z at*
 generalize lam l=w at*
 generalize hW2:(W2:Int)=W at*
 obtain⟨e,he⟩:∃e:Int,e=((2*n':Nat):Int):=⟨_,rfl⟩
 obtain⟨kk,hkk⟩:∃kk:Int,kk=(k:Int):=⟨_,rfl⟩
 obtain⟨dd,hdd⟩:∃dd:Int,dd=(d:Int):=⟨_,rfl⟩
 rw[<-he]at o1 o2 hle
 rw[<-hkk]at o2⊢
 rw[<-hdd]at hle w0⊢
 have he0:0<e:=by omega
 have hk0:0<kk:=by omega
 have hd0:0<dd:=by omega
 have hkD:0<kk*D:=Int.mul_pos hk0 hD0
 --the own note
 have y1:2*kk*y<=e*(3*W+2*kk*(3+2^52*D+2^54*D)):=by
   have hW0:0<=W:=by rw[hW];exact YEL (by decide) (YFG hD0)
   have q1:0<=e*W:=YEL (YFG he0) hW0
   have q2:0<=e*(kk*D):=YEL (YFG he0) (YFG hkD)
   have q3:0<=e*kk:=YEL (YFG he0) (YFG hk0)
   rcases lN' with c|c
   . have q4:=YEM (Int.le_trans c o1) (show 0<=2*kk by omega)
     grind
   . have q4:=YEM c (show 0<=2*kk by omega)
     grind
 have key:∀v,v<=w+2*(dd*2^54*D)->2*kk*v<=dd*(3*W+2*kk*(2^57*D)):=fun v hv=>by
   refine Int.le_of_mul_le_mul_right (a:=e) ?_ he0
   have q1:=YEM hv (show 0<=2*kk*e from YEL (by omega) (YFG he0))
   have q2:=YEM hle (show 0<=2*kk by omega)
   have q3:=YEM y1 (YFG hd0)
   have q4:0<=dd*e*(kk*(D-1)):=YEL (YEL (YFG hd0) (YFG he0)) (YEL (YFG hk0) (by omega))
   have q5:0<=dd*e*(kk*D):=YEL (YEL (YFG hd0) (YFG he0)) (YFG hkD)
   grind
 exact⟨key z (by omega),key (-z) (by omega)⟩
theorem YuU{a t0 t note:Int}{T:Tm}(hS:chkS a t0 t=0)(hT:Y4 T=0)(hn:0<=note/\note<=139):
   ∃k:Nat,(Yc7 (Yj T) t0 t note a).1=k/\1<=k/\k<=160000000/\(0<=(Yg1 (Yj T) a t0 t k).1/\(Yg1 (Yj T) a t0 t k).1<=139)/\ -(1800000/(k:Int)+2)<=(Yg1 (Yj T) a t0 t k).2/\(Yg1 (Yj T) a t0 t k).2<=1800000/(k:Int)+2:=by
 obtain⟨ha,h0,h1⟩:=Ybi hS
 obtain⟨r,n,hr,h⟩:=Yl6 hT hn.1
 obtain⟨k,ex,e1,p⟩:=YqQ hS hn hr h
 have hk:=k_pos hS hn h p
 refine⟨k,by rw[e1];exact(Ygk k ex).1,hk,p.leB,?_⟩
 obtain⟨b,l0,l,d,hb,hB,hnote,u1,u2⟩:=Yyk hS hT hn hr h hk p
 have hx:Fx a t0 t T k:=⟨hS,hT,hk,Nat.lt_of_succ_lt p.lt⟩
 unfold Yg1
 rw[hnote]
 refine⟨⟨by simp only;omega,by simp only;omega⟩,?_⟩
 simp only
 --the list that is rounded
 obtain⟨r',n',hr',h',l',hN⟩:=YuW (note:=(b:Int)) hx (by omega)
 obtain⟨q1,q2,q3⟩:=Yyh hB hN
 have hrn':=h'.rng
 subst q1
 have ho: -5<=(b:Int)/12-5/\(b:Int)/12-5<=6:=by omega
 obtain⟨k1,k2,k3⟩:=YlU (o:=(b:Int)/12-5) hx h' ho
 have hU:∀x,x∈lstF r' n' ((b:Int)/12-5) t t0->okU x:=fun x hx=>((YgX h' h1 h0 ho).1 x hx).1
 have okF:FarOk (lstF r' n' ((b:Int)/12-5) t t0) a t0 t k:=by
   have:FarOk ((lstF r' n' ((b:Int)/12-5) t t0).map ngT++[((k:Int),2*(n':Int)),(a, -(2*(n':Int)))]) a t0 t k:=k1
   exact this.left.1.of_ng hU
 have okT2:FarOk [((k:Int),2*(n':Int)),(a, -(2*(n':Int)))] a t0 t k:=by
   have:FarOk ((lstF r' n' ((b:Int)/12-5) t t0).map ngT++[((k:Int),2*(n':Int)),(a, -(2*(n':Int)))]) a t0 t k:=k1
   exact this.left.2
 obtain⟨j1,j2,j3,j4,j5⟩:=Yr2 (x:= -1) (y:=1) okF okT2 (by decide) (by decide) h1 h0 ha hx.hf
 obtain⟨J,hJ⟩:∃J,J=pjnF (lstF r' n' ((b:Int)/12-5) t t0) (-1) [((k:Int),2*(n':Int)),(a, -(2*(n':Int)))] 1:=⟨_,rfl⟩
 rw[<-hJ]at j1 j2 j3 j4 j5
 have hlam:lam J=lam (farN r' n' ((b:Int)/12-5) a t0 t k):=by
   rw[j1]
   unfold farN
   rw[Yjm,YkV _ hU]
   omega
 have hwid:wid J<=d*2^54:=by
   have e2:wid (farN r' n' ((b:Int)/12-5) a t0 t k)=wid (lstF r' n' ((b:Int)/12-5) t t0)+wid [((k:Int),2*(n':Int)),(a, -(2*(n':Int)))]:=by
     unfold farN
     rw[Ymp,YsV _ hU]
   have e3:(-1:Int).natAbs=1:=rfl
   have e4:(1:Int).natAbs=1:=rfl
   rw[e3,e4]at j2
   rw[q3]
   omega
 have hoff:offL (Yj T) a t0 t k b=(flrF J (d:Int) 1200000).1:=by
   unfold offL
   rw[Yd3 hr' h',hJ,q3]
   simp only
   rw[YED (0-2*(n':Int)) (by omega),show(0-2*(n':Int))= -(2*(n':Int))by omega,show((2*n':Nat):Int)=2*(n':Int)by omega]
 rw[hoff]
 have dr:=hB.d_rng
 have hdiv:=Int.mul_ediv_add_emod 1800000 (k:Int)
 have hmod:=Int.emod_lt_of_pos 1800000 (show 0<(k:Int)by omega)
 have hq0:0<=1800000/(k:Int):=Int.ediv_nonneg (by decide) (by omega)
 obtain⟨q,hq⟩:∃q:Int,q=1800000/(k:Int):=⟨_,rfl⟩
 rw[<-hq]at hdiv hq0⊢
 have hqk:1800000<(k:Int)*(q+1):=by rw[Int.mul_add,Int.mul_one];omega
 unfold flrF
 rw[if_neg (by rw[j5];decide),if_neg (by simp only[YoB,YFn,decide_eq_true_eq];omega)]
 unfold flrG
 split
 . simp only;omega
 . rename_i hg
   simp only[YFn,not_or,Bool.not_eq_true,YFC,Bool.not_eq_false]at hg
   obtain⟨htop,hbot⟩:=hg
   obtain⟨F,hF⟩:∃F,F=isG (J.map (sclT 1200000)) (d:Int):=⟨_,rfl⟩
   rw[<-hF]at htop hbot⊢
   obtain⟨s1,s2⟩:=YdJ (t:=F) 64 (-1000000000000) 1000000000001 (by decide) (by decide)
   have hr:=YeE (t:=F) 64 (-1000000000000) 1000000000001 (by decide)
   simp only
   generalize bisL 64 F (-1000000000000) 1000000000001=m at*
   have hk1:F m=true:=by
     rcases s1 with e|e
     . rw[e];exact hbot
     . exact e
   have hk2:F (m+1)=false:=by
     rcases s2 with e|e
     . rw[e];exact htop
     . exact e
   --what the signs say
   have sgn:∀m:Int, -1000000000000<=m->m<=1000000000001->(F m=true-> -(1200000*(d*2^54)*(DD:Int))<=1200000*lam J-m*d*W2)/\(F m=false->1200000*lam J-m*d*W2<0):=fun m m1 m2=>by
     have okl:∀x,x∈atG (J.map (sclT 1200000)) (d:Int) m->okU x:=by
       intro x hx
       rw[atG,YE3,YFg,YFz]at hx
       rcases hx with⟨y,hy,rfl⟩ |rfl
       . obtain⟨y1,y2⟩:=j3 y hy
         unfold okU sclT at*
         simp only
         omega
       . have:=Yam (x:= -m) (y:=(d:Int)) (X:=1000000000001) (Y:=2000) (by omega) (by omega)
         unfold okU;simp only;omega
     obtain⟨a1,a2⟩:=Ysr okl (by rw[atG,YE8,List.length_map];simp;omega)
     have el:lam (atG (J.map (sclT 1200000)) (d:Int) m)=1200000*lam J-m*d*W2:=by
       rw[atG,Yjm,Yrf]
       simp only[lam]
       have:loN (2:Int).toNat=W2:=lo_2.1
       rw[this,Int.neg_mul,Int.neg_mul]
       omega
     have ew:wid (atG (J.map (sclT 1200000)) (d:Int) m)<=1200000*(d*2^54):=by
       have e1:wid (atG (J.map (sclT 1200000)) (d:Int) m)=1200000*wid J+(wP 2*(-m*d).natAbs+wid []):=by
         rw[atG,Ymp,YsW,YaM]
         rfl
       have z2:wid []=0:=rfl
       rw[e1,z2,wP_2,Nat.zero_mul]
       exact YEG 1200000 hwid
     have ew2:(wid (atG (J.map (sclT 1200000)) (d:Int) m):Int)*DD<=1200000*(d*2^54)*(DD:Int):=by
       refine YE1 ?_ (by omega)
       generalize wid (atG (J.map (sclT 1200000)) (d:Int) m)=w at ew⊢
       omega
     rw[hF,isG,decide_eq_true_eq,decide_eq_false_iff_not,<-el]
     exact⟨fun hh=>by have:=a1 hh;omega,a2⟩
   have v1:=(sgn m hr.1 (by omega)).1 hk1
   have v2:=(sgn (m+1) (by omega) (by omega)).2 hk2
   rw[hlam]at v1 v2
   have hD0:(0:Int)<DD:=by
     have:0<DD:=by
       refine Nat.pos_of_ne_zero fun hz=>?_
       have h1:=KB_is.1
       rw[hz]at h1
       have:=Ypa
       omega
     omega
   have hW:(W2:Int)=2^100*(DD:Int):=by
     have h1:W2=2^100*DD:=KB_is.1
     rw[h1,YFe]
     rfl
   rw[hW]at v1 v2 u1 u2
   generalize lam (farN r' n' ((b:Int)/12-5) a t0 t k)=x at*
   generalize(DD:Int)=D at*
   have hk0:(1:Int)<=(k:Int):=by omega
   have hd0:(0:Int)<(d:Int):=by omega
   generalize(k:Int)=kk at*
   generalize(d:Int)=dd at*
   have up:=YxU (m:=m) hk0 hqk hD0 hd0 (by
     have w1:=YEM v1 (show 0<=2*kk by omega)
     have w2:=YEM u1 (show(0:Int)<=1200000 by decide)
     have w3:0<=dd*(kk*D):=YEL (YFG hd0) (YEL (by omega) (YFG hD0))
     grind)
   have dn:=YxT (m:=m) hk0 hqk hD0 hd0 (by
     have w1:=YEM (YFG v2) (show 0<=2*kk by omega)
     have w2:=YEM u2 (show(0:Int)<=1200000 by decide)
     grind)
   omega
set_option maxHeartbeats 8000000
def v6:VF:=⟨76,[.tmp 4],(ZR [u1 2 .box [.tm 0],u1 4 .mov [.cn (.bool false)]] (.seq (ZR [Zt 11 30 2,Zm 12 1,Zd 13 16 11 12,u1 14 .not [.tm 13]] (ZC 14 (ZR [u1 15 (.call 17) [],Zm 4 15] .ret) .skip)) (ZR [Za 17 0 2,Zt 18 3 17,Za 19 3 2,Zt 20 27 19,Zm 21 1,u1 22 (.call 8) [.tm 18,.tm 20,.tm 21],Zm 16 22,Ze 23 0 16,Ze 24 1 16,Zn 5,Zs 2 5 23,Zm 6 24] (.seq (ZR [Zm 25 6,Zq 26 .neq 25 0,Zm 27 26,Zj 28 27 false 0 5,Zh 29 27 false 1 28,u2 30 27 false (.cmp .lss) [.tm 29,.cn (.int .i64 1)],u1 31 .or [.tm 27,.tm 30],Zm 32 31,Zj 33 32 false 0 5,Zh 34 32 false 1 33,u2 35 32 false (.cmp .gtr) [.tm 34,.cn (.int .i64 1000000000)],u1 36 .or [.tm 32,.tm 35]] (ZC 36 (ZR [u1 4 .mov [.cn (.bool false)]] .ret) .skip)) (ZR [Za 38 0 2,Zt 39 3 38,Za 40 3 2,Zt 41 27 40,Za 42 0 5,Zf 43 1 42,u1 44 (.call 22) [.tm 39,.tm 41,.tm 43],Zm 37 44,Ze 45 0 37,Ze 46 1 37,Ze 47 2 37,Zm 7 45,Zm 8 46,Zm 9 47] (ZR [Za 48 0 5,Zf 49 1 48,u1 50 .quo [.cn (.int .i64 1800000),.tm 49],Zp 51 50 2,Zm 10 51] (ZR [Zm 52 9,Zq 53 .eql 52 0,Zm 54 53,Zg 55 54 true 7,u2 56 54 true (.cmp .geq) [.tm 55,.cn (.int .i64 0)],u1 57 .and [.tm 54,.tm 56],Zm 58 57,Zg 59 58 true 7,u2 60 58 true (.cmp .leq) [.tm 59,.cn (.int .i64 139)],u1 61 .and [.tm 58,.tm 60],Zm 62 61,Zg 63 62 true 8,Zg 64 62 true 10,u2 65 62 true .neg [.tm 64],u2 66 62 true (.cmp .geq) [.tm 63,.tm 65],u1 67 .and [.tm 62,.tm 66],Zm 68 67,Zg 69 68 true 8,Zg 70 68 true 10,u2 71 68 true (.cmp .leq) [.tm 69,.tm 70],u1 72 .and [.tm 68,.tm 71],Zm 73 72,u2 74 73 true (.call 17) [],u1 75 .and [.tm 73,.tm 74],Zm 4 75] .ret)))))))⟩
theorem v6_is:Yi YEC Tryz.f6=some v6:=by kernel_rfl
def UN0:Env:={ ct:=fun n=>match n with|22=>some nearC|44=>some chkSC|45=>some chk5A|8=>some frq6C|17=>some trueC|_=>none,fn:=fun n=>match n with|16=>some v16|_=>none,meth:=fun _ _=>none}
theorem YtH:UN0.ct 22=some nearC:=rfl
theorem YtI:UN0.ct 44=some chkSC:=rfl
theorem YtJ:UN0.ct 45=some chk5A:=rfl
theorem YwM:UN0.ct 8=some frq6C:=rfl
theorem YtG:UN0.ct 17=some trueC:=rfl
theorem YtF:UN0.ct 16=none:=rfl
theorem YtK:UN0.fn 16=some v16:=rfl
theorem YA2:Ys YEC UN0:=by
 refine⟨fun f c h=>?_,fun f vf h=>?_,(fun _ _ _ h=>by cases h),by kernel_rfl,(fun _ h=>by cases h)⟩
 . simp only[UN0]at h
   split at h
   . cases h;exact⟨YCn,Tryz.f22,Tryz.func22,by kernel_rfl,by kernel_rfl⟩
   . cases h;exact⟨YvL,Tryz.f44,Tryz.func44,by kernel_rfl,by kernel_rfl⟩
   . cases h;exact⟨Yqq,Tryz.f45,Tryz.func45,by kernel_rfl,by kernel_rfl⟩
   . cases h;exact⟨YqP,Tryz.f8,Tryz.func8,by kernel_rfl,by kernel_rfl⟩
   . cases h;exact⟨Yne,Tryz.f17,Tryz.func17,by kernel_rfl,by kernel_rfl⟩
   . cases h
 . simp only[UN0]at h
   split at h
   . cases h;exact⟨Tryz.f16,Tryz.func16,Ywv,Tryz.f16,Tryz.func16,by kernel_rfl,by kernel_rfl⟩
   . cases h
theorem YxW:(lawC [⟨true,shp6⟩,⟨false,[.int .i64]⟩]).ok YEC 6:=by
 refine Yc Tryz.func6 v6_is YA2 900 (lawC [⟨true,shp6⟩,⟨false,[.int .i64]⟩]) fun args k h=>?_
 obtain⟨ha,hk⟩:=h
 obtain⟨_,_,rfl,h1,e1⟩:=YaD ha
 obtain⟨cs,rfl,g1⟩:=Yg5 h1
 obtain⟨a,t0,t,T,rfl,hnm⟩:=Ynm g1
 obtain⟨_,_,rfl,h2,e2⟩:=YaD e1
 obtain⟨note,rfl,hw⟩:=YcK (Yeq h2)
 cases YfG e2
 have hk':k (.bool true) []:=hk
 have hm:T.nm.size<=9223372036854775807:=YEQ hnm (by unfold maxLen;decide)
 refine⟨[.agg (Yql a t0 t T),.int .i64 note],?_,?_⟩
 . refine⟨Ye _ ⟨trivial,trivial,trivial,?_⟩,⟨rfl,rfl⟩,trivial⟩
   exact YK T _
 dsimp only[v6,Yql,YfX,lenT,YtH,nearC,YtI,YtJ,YwM,YtG,YtF,YtK,v16,chkSC,chk5A,frq6C,trueC,go_sem,reduceIte,YEx]
 simp only[Yd,YEx,YEz,reduceCtorEq,YEy]
 simp only[sp_T,YfX,lenT,vw_T]
 refine⟨YaO T,YaO T,T,fun _=>⟨rfl,hm⟩,fun _=>YC hk',fun hc=>?_⟩
 simp only[YEI,decide_eq_true_eq]at hc
 obtain⟨⟨⟨hS,hT⟩,n0⟩,n1⟩:=hc
 obtain⟨kk,f1,f2,f3,⟨f4,f5⟩,f6,f7⟩:=YuU hS hT ⟨n0,n1⟩
 refine⟨T,⟨rfl,hm,hS,hT,n0,n1⟩,by decide,by decide,?_⟩
 rw[f1]
 refine⟨fun hb=>?_,fun _=>⟨T,⟨rfl,hm,hS,hT,by omega,by omega⟩,by decide,by decide,by decide,by omega,?_⟩⟩
 . exfalso
   simp only[decide_true,Bool.not_true,Bool.false_or,YFn,decide_eq_true_eq]at hb
   omega
 . have hq0:0<=1800000/(kk:Int):=Int.ediv_nonneg (by decide) (by omega)
   have hq1:1800000/(kk:Int)<=1800000:=Int.ediv_le_self _ (by decide)
   rw[Int.tdiv_eq_ediv_of_nonneg (by decide),YED (1800000/(kk:Int)) (by omega),YED (1800000/(kk:Int)+2) (by omega),YED (0-(1800000/(kk:Int)+2)) (by omega),show 0-(1800000/(kk:Int)+2)= -(1800000/(kk:Int)+2)by omega,decide_eq_true f4,decide_eq_true f5,decide_eq_true f6,decide_eq_true f7]
   exact YC hk'
end Go.Proofs.YtfjodiojchknmaaGreatDoor
namespace Go.Vx
open Go Go.RowKit Go.ChangeShapes Go.WideShapes Go.ChangeAt Go.WideMaps Go.WideElems
def primesL:List Int:=[2,3,5,7,11,13]
def Yb5:DataW Unit:= .agg [.lit (.int .i64 2),.lit (.int .i64 3),.lit (.int .i64 5),.lit (.int .i64 7),.lit (.int .i64 11),.lit (.int .i64 13)]
theorem YkK{P:Program}{W:World}{g:Nat}{T el:TypeId}(hg:P.globalNamed "quintadena/ratios.primes" =some g)(hT:(P.globals[g]?).map (·.type)=some T)
   (hu:P.underlying T=some (.array 6 el)) (he:P.underlying el=some (.int .i64)) (hc:P.cellsOf el=1) (hp:laidMetH P [("quintadena/ratios.primes",Yb5)] W):
   Cells W g 0 (gloV primesL):=by
 rw[MakeChecks.laidMetH_plain _ _ _ (by kernel_rfl)]at hp
 obtain⟨ps,⟨g1,t1,cs1,f1,p1,q1,hg1,ht1,hv1,hd1,h1⟩,h2⟩:=hp
 obtain rfl:=Option.some.inj (hg.symm.trans hg1)
 obtain rfl:=Option.some.inj (hT.symm.trans ht1)
 obtain⟨xs,m1,rfl,hx1,hlen,hn3,hel⟩:=DataW.trod_array hu hd1
 have hcell:∀k,k<6->cs1[k]? =some (.int .i64 (primesL.getD k 0)):=by
   intro k hk
   have h3:=hel k hk
   obtain⟨x,hx⟩:∃x,xs[k]? =some x:=⟨xs[k]'(by omega),by simp⟩
   rw[hx,hc,YFI]at h3
   obtain⟨v,e1,e2,_⟩:=DataW.trod_int he h3
   have e3:(cs1.toList.drop k)[0]? =some (.int .i64 v):=by
     have:((cs1.toList.drop k).take 1)[0]? =some (.int .i64 v):=by rw[e1];rfl
     simpa using this
   have e4:cs1[k]? =some (.int .i64 v):=by simpa using e3
   rw[e4]
   simp only[Prod.mk.injEq]at hx1
   have e5:(DataW.lit (.int .i64 (primesL.getD k 0)):DataW Unit)=x.1:=by
     have e6:(xs.map (·.1))[k]? =some x.1:=by simp [hx]
     have e7:=hx1.1
     simp only[Yb5,DataW.agg.injEq]at e7
     rw[<-e7]at e6
     match k,hk,e6 with
     |0,_,e6|1,_,e6|2,_,e6|3,_,e6|4,_,e6|5,_,e6=>exact Option.some.inj e6
   rw[e2]at e5
   simp only[DataW.lit.injEq,Lit.int.injEq]at e5
   rw[e5.2]
 unfold World.var? at hv1
 rw[hg]at hv1
 simp only[Option.bind_some]at hv1
 split at hv1
 . rename_i cs T' fz ho
   cases hv1
   refine⟨cs1,T',fz,ho,fun j v hj=>?_⟩
   have hj6:j<6:=by
     have:=(List.getElem?_eq_some_iff.1 hj).1
     simpa [gloV,primesL]using this
   rw[YFv,hcell j hj6]
   match j,hj6,hj with
   |0,_,hj|1,_,hj|2,_,hj|3,_,hj|4,_,hj|5,_,hj=>exact hj
 . cases hv1
theorem YfD{g:Nat}{T el:TypeId}{C:Checked}{f:FuncId}{fn:Func}{s:ChangeSpec}{dom:List PathCond}{os:Os}{H:Type}{enc:TypeId×Value->H}{shs:List PSh}{tb:TypeId}
   (own:ownKnob C.prog.godebug=none)(started:os.Started)(noInit:C.prog.inits.idxOf? f=none)(hfn:C.prog.funcs[f]? =some fn)(hl:laidOutB C.prog=true)
   (witness:∃(w:World) (tape:Tape) (i:Input),w.os=os/\(w.forCall tape i).Shaped C.prog/\i.vars=[]/\Input.okWide C.prog (w.forCall tape i) .any w.heap.size f i/\
     ((s.pre enc C.prog fn dom false (w.forCall tape i).memory i.args/\laidMetH C.prog [("quintadena/ratios.primes",Yb5)] (w.forCall tape i).memory)/\sizedMet enc C.prog fn (OpenSpec.ofChange s) false (w.forCall tape i).memory i.args)/\({}:Assume).holds C.prog (lone (Frame.enter C.prog f i.args .normal) [] (w.forCall tape i)))
   (hsh:Ylb C.prog fn.params.toList=some shs)(hread:YyW C.prog fn.params.toList=true)(hres:fn.resultTypes.toList=[tb])(htb:C.prog.underlying tb=some .bool)(hvars:s.vars=[])
   (hspec:∀ds:List (DataW H),ds.length=fn.params.toList.length->(s.fn H ds).results=[.lit (.bool true)]/\(s.fn H ds).args=ds/\(s.fn H ds).vars=[])(hc:(lawC shs).ok C.prog f)(hg:C.prog.globalNamed "quintadena/ratios.primes" =some g)(hT:(C.prog.globals[g]?).map (·.type)=some T) (hu:C.prog.underlying T=some (.array 6 el)) (he:C.prog.underlying el=some (.int .i64)) (hce:C.prog.cellsOf el=1):
   ReturnsInHanded {} C os f .any (fun w args=>(s.pre enc C.prog fn dom false w args/\laidMetH C.prog [("quintadena/ratios.primes",Yb5)] w)/\sizedMet enc C.prog fn (OpenSpec.ofChange s) false w args) (s.post enc C.prog fn false true false false):=by
 refine returnsInHanded_of_change_and (X:=fun w _=>laidMetH C.prog [("quintadena/ratios.primes",Yb5)] w) (fun _ _ _ hh h=>h.of_heap hh) own started noInit hfn witness ?_
 intro W base args ds gs before hval hW hcnd _ hL _
 obtain⟨p,q,hA,hV,hbef,hfz,hnd⟩:=id hW
 have hlen:=Yhn hA
 rw[hvars]at hV
 obtain⟨rfl,rfl⟩:=trodVars_none hV
 obtain⟨svs,k1,k2⟩:=Yib (B:=W.heap.size) hsh (fun j t v ht hv=>hval j t v (by simpa using ht) (by simpa using hv)) hA
 have hcall:=hc svs args.toList (cx0 W) (fun r hs=>r= .bool true) ⟨fun b K h=>(by cases h),fun g' l h=>by
   have hcl:=YkK hg hT hu he hce hL
   unfold glob at h
   split at h
   . rename_i hg'
     cases h
     obtain rfl:=Option.some.inj (hg.symm.trans hg')
     obtain⟨cs,T',fz,ho,_⟩:=id hcl
     exact⟨(YE6.1 ho).1,trivial,hcl⟩
   . cases h⟩ k1 ⟨k2,rfl⟩
 simp only[Array.toArray_toList]at hcall
 refine hcall.mono fun e W' h=>?_
 obtain⟨r,hs,v,bs,J,hJ,rfl,rfl,hr,_,hbI,_⟩:=h
 have hb:Below W.heap.size W W':=⟨hbI.os,hbI.tape,hbI.output,hbI.size,fun k hk=>hbI.block k hk rfl⟩
 have hv:=hr.bool_inv
 subst hv
 obtain⟨s1,s2,s3⟩:=hspec ds hlen
 refine⟨_,rfl,ds,[],before,[],p,[],hW,?_,?_,?_,hb.frame _,fun h=>by cases h⟩
 . rw[List.append_nil,s1,hres]
   have hsz:fn.resultTypes.size=1:=by rw[<-Array.length_toList,hres];rfl
   have:(Value.bool true).resultList fn.resultTypes.size=[.bool true]:=by rw[hsz];rfl
   rw[this]
   exact trodAll_mk1 (shut_bool htb true)
 . rw[List.append_nil,s2]
   exact YfH hl hb hread hA
 . rw[List.append_nil,s3,hvars];rfl
end Go.Vx
namespace Go.Vx
open Go Go.RowKit Go.ChangeShapes Go.WideShapes Go.ChangeAt Go.WideMaps Go.WideElems
end Go.Vx
namespace Go.Proofs.YtfjodiojchknmaaGreatDoor
open Go Go.Vx Go.RowKit
set_option maxRecDepth 100000
theorem Ywh:ownKnob YEC.godebug=none:=by kernel_rfl
theorem Yrd:laidOutB YEC=true:=by kernel_rfl
theorem YBJ:YEC.globalNamed "quintadena/ratios.primes" =some 0:=by kernel_rfl
theorem YDD:(YEC.globals[0]?).map (·.type)=some 167:=by kernel_rfl
theorem YDJ:YEC.underlying 167=some (.array 6 2):=by kernel_rfl
theorem YBB:YEC.underlying 2=some (.int .i64):=by kernel_rfl
theorem YBq:YEC.cellsOf 2=1:=by kernel_rfl
theorem YvP(os:Os)(args:Array Value):laidMetH YEC [("quintadena/ratios.primes",Yb5)] ((World.doorLaid YEC 400 os).forCall (fun _ _=>0) ⟨#[],args,[]⟩).memory:=
 laidMetH_of_parts3 (fuel:=8) (laidMet_of_run' 8 (by kernel_rfl) (by kernel_rfl)) (by kernel_rfl) (by kernel_rfl)
theorem YfT(os:Os)(started:os.Started)(H:Type)(enc:TypeId×Value->H):
   ReturnsInHanded {} Tryz.checked os 5 .any (fun w args=>(Rows.pitchFitsSpec.pre enc YEC Tryz.f5 [] false w args/\laidMetH YEC [("quintadena/ratios.primes",Yb5)] w)/\sizedMet enc YEC Tryz.f5 (OpenSpec.ofChange Rows.pitchFitsSpec) false w args)
     (Rows.pitchFitsSpec.post enc YEC Tryz.f5 false true false false):=
 YfD (C:=Tryz.checked) (tb:=4) Ywh started (by kernel_rfl) Tryz.func5 Yrd
   (ChangeSpec.witness_shaped (enc:=enc) (C:=Tryz.checked) (os:=os) (X:=fun w _=>laidMetH YEC [("quintadena/ratios.primes",Yb5)] w) false (World.doorLaid YEC 400 os) #[.agg #[.int .i64 0,.int .i64 0,.int .i64 0,.string ⟨#[]⟩,.bool false,.int .i64 0,.int .i64 0,.int .i64 0,.int .i64 0,.int .i64 0,.int .i64 0,.int .i64 0,.int .i64 0,.int .i64 0,.int .i64 0,.int .i64 0,.int .i64 0,.int .i64 0,.int .i64 0,.int .i64 0,.int .i64 0,.int .i64 0,.int .i64 0,.int .i64 0,.int .i64 0,.int .i64 0,.int .i64 0,.int .i64 0,.int .i64 0,.int .i64 0],.int .i64 0,.int .i64 0] 8 rfl (World.shaped_of_RefB (by kernel_rfl) (by kernel_rfl)) (by kernel_rfl) (by kernel_rfl) (by kernel_rfl) (YvP os _))
   (by kernel_rfl) (by kernel_rfl) (by kernel_rfl) (by kernel_rfl) rfl (fun ds h=>match ds,h with| [_,_,_],_=>⟨rfl,rfl,rfl⟩) YxV YBJ YDD YDJ YBB YBq
theorem YhA:Rows.PitchFitsSaid:=
 OpenClaim.holds_of_wide 5 Tryz.f5 rfl rfl rfl rfl rfl rfl rfl ⟨rfl,rfl,rfl,rfl,rfl⟩ rfl rfl rfl rfl rfl (by kernel_rfl) Tryz.func5 (by kernel_rfl)
   (of_decide_eq_true (by kernel_rfl)) (by unfold Func.isWrapper;first| (rw[if_pos (by decide+kernel)];kernel_rfl) | (rw[if_neg (by decide+kernel)];exact⟨rfl,rfl⟩))
   (fun os started H enc _=>YfT os started H enc)
theorem pitchFits_holds:Rows.PitchFitsCardSaid:=
 Claim7.holds_tied_plain_at .later [] [.data] true (true, "0c962a7de201b333494358a9e6881a4611c9eb42a14a790af7658f72a7e712a7") false
   YhA (fun _ h=>by cases h) (by kernel_rfl) (fun _ h=>by cases h) pitchFits_row_tie rfl ⟨rfl,rfl⟩ (by kernel_rfl) rfl
   (fun f fn hf hfn=>by
     obtain rfl:f=5:=Option.some.inj ((show YEC.funcNamed Rows.pitchFitsRow.func=some 5 by kernel_rfl).symm.trans hf) |>.symm
     obtain rfl:fn=Tryz.f5:=(Option.some.inj (Tryz.func5.symm.trans hfn)).symm
     exact⟨by kernel_rfl,fun j t ht=>by
       have hall:(Tryz.f5.params.toList.all fun u=>!YEC.wantsStandIn u)=true:=by kernel_rfl
       have hm:t∈Tryz.f5.params.toList:=Array.mem_toList_iff.2 (Array.mem_of_getElem? ht)
       exact(show YEC.wantsStandIn t=false by simpa using List.all_eq_true.1 hall t hm)⟩)
   (by kernel_rfl)
theorem YfU(os:Os)(started:os.Started)(H:Type)(enc:TypeId×Value->H):
   ReturnsInHanded {} Tryz.checked os 6 .any (fun w args=>(Rows.pitchNearSpec.pre enc YEC Tryz.f6 [] false w args/\laidMetH YEC [("quintadena/ratios.primes",Yb5)] w)/\sizedMet enc YEC Tryz.f6 (OpenSpec.ofChange Rows.pitchNearSpec) false w args)
     (Rows.pitchNearSpec.post enc YEC Tryz.f6 false true false false):=
 YfD (C:=Tryz.checked) (tb:=4) Ywh started (by kernel_rfl) Tryz.func6 Yrd
   (ChangeSpec.witness_shaped (enc:=enc) (C:=Tryz.checked) (os:=os) (X:=fun w _=>laidMetH YEC [("quintadena/ratios.primes",Yb5)] w) false (World.doorLaid YEC 400 os) #[.agg #[.int .i64 0,.int .i64 0,.int .i64 0,.string ⟨#[]⟩,.bool false,.int .i64 0,.int .i64 0,.int .i64 0,.int .i64 0,.int .i64 0,.int .i64 0,.int .i64 0,.int .i64 0,.int .i64 0,.int .i64 0,.int .i64 0,.int .i64 0,.int .i64 0,.int .i64 0,.int .i64 0,.int .i64 0,.int .i64 0,.int .i64 0,.int .i64 0,.int .i64 0,.int .i64 0,.int .i64 0,.int .i64 0,.int .i64 0,.int .i64 0],.int .i64 0] 8 rfl (World.shaped_of_RefB (by kernel_rfl) (by kernel_rfl)) (by kernel_rfl) (by kernel_rfl) (by kernel_rfl) (YvP os _))
   (by kernel_rfl) (by kernel_rfl) (by kernel_rfl) (by kernel_rfl) rfl (fun ds h=>match ds,h with| [_,_],_=>⟨rfl,rfl,rfl⟩) YxW YBJ YDD YDJ YBB YBq
theorem YhB:Rows.PitchNearSaid:=
 OpenClaim.holds_of_wide 6 Tryz.f6 rfl rfl rfl rfl rfl rfl rfl ⟨rfl,rfl,rfl,rfl,rfl⟩ rfl rfl rfl rfl rfl (by kernel_rfl) Tryz.func6 (by kernel_rfl)
   (of_decide_eq_true (by kernel_rfl)) (by unfold Func.isWrapper;first| (rw[if_pos (by decide+kernel)];kernel_rfl) | (rw[if_neg (by decide+kernel)];exact⟨rfl,rfl⟩))
   (fun os started H enc _=>YfU os started H enc)
theorem pitchNear_holds:Rows.PitchNearCardSaid:=
 Claim7.holds_tied_plain_at .later [] [.data] true (true, "0c962a7de201b333494358a9e6881a4611c9eb42a14a790af7658f72a7e712a7") false
   YhB (fun _ h=>by cases h) (by kernel_rfl) (fun _ h=>by cases h) pitchNear_row_tie rfl ⟨rfl,rfl⟩ (by kernel_rfl) rfl
   (fun f fn hf hfn=>by
     obtain rfl:f=6:=Option.some.inj ((show YEC.funcNamed Rows.pitchNearRow.func=some 6 by kernel_rfl).symm.trans hf) |>.symm
     obtain rfl:fn=Tryz.f6:=(Option.some.inj (Tryz.func6.symm.trans hfn)).symm
     exact⟨by kernel_rfl,fun j t ht=>by
       have hall:(Tryz.f6.params.toList.all fun u=>!YEC.wantsStandIn u)=true:=by kernel_rfl
       have hm:t∈Tryz.f6.params.toList:=Array.mem_toList_iff.2 (Array.mem_of_getElem? ht)
       exact(show YEC.wantsStandIn t=false by simpa using List.all_eq_true.1 hall t hm)⟩)
   (by kernel_rfl)
end Go.Proofs.YtfjodiojchknmaaGreatDoor
