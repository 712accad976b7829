/- Logarithms of all numbers below 2^19 are known to 2043 places. -/
import Derived.Test.YtmiclogmkfobgaaGreatMgX50g
import Derived.Test.YtmiclogmkfobgaaGreatMgX50h
import Derived.Test.YtmiclogmkfobgaaGreatMgX50f
import Derived.Test.YtmiclogmkfobgaaGreatMgX50e
open Bool renaming false_and->YGi,true_and->YGm
open Int renaming toNat_natCast->YE4
open List renaming mem_cons->YFA,mem_cons_of_mem->YFp,mem_cons_self->YFs
open Nat renaming add->YFD,add_mul->YFw,ble->YGs,div->YGt,eq_zero_or_pos->YFB,gcd->YF1,le_of_ble_eq_true->YFV,le_of_eq->YFr,le_of_not_lt->YGk,le_refl->YFk,le_trans->YFa,lt_of_le_of_lt->YFG,lt_or_ge->YFu,mod->YGo,mul_assoc->YFg,mul_comm->YFc,mul_le_mul_left->YFe,mul_le_mul_right->YE9,mul_one->YGb,mul_pos->YF3,mul_pow->YFo,one_mul->YFR,pow_add->YFi,pow_le_pow_left->YFl,pow_le_pow_right->YFq,pow_mul->YFh,pow_pos->YFF,pow_succ->YFm,pow_zero->YGn,zero_add->YGh
set_option linter.all false
set_option maxRecDepth 100000
namespace Go.Proofs.YtmiclogmkfobgaaGreat.LS
def YxX(l:List Nat):Prop:=match l with| []=>True|a::l=>subL 11 7 a=true/\YxX l
theorem YmW:∀{l:List Nat},YxX l->∀a,a∈l->subL 11 7 a=true
 | [],_,a,h=>by cases h
 |b::l,h,a,ha=>by
  rcases YFA.1 ha with rfl|ha
  ·exact h.1
  ·exact YmW h.2 a ha
def YqJ:List Nat:=[128,129,130,131,132,133,134,135,136,137,138,139,140,141,142,143,144,145,146,147,148,149,150,151,152,153,154,155,156,157,158,159,160,161,162,163,164,165,166,167,168,169,170,171,172,173,174,175,176,177,178,179,180,181,182,183,184,185,186,187,188,189,190,191,192,193,194,195,196,197,198,199,200,201,202,203,204,205,206,207,208,209,210,211,212,213,214,215,216,217,218,219,220,221,222,223,224,225,226,227,228,229,230,231,232,233,234,235,236,237,238,239,240,241,242,243,244,245,246,247,248,249,250,251,252,253,254,255]
theorem YqK:YxX YqJ:=⟨lk128,lk129,lk130,lk131,lk132,lk133,lk134,lk135,lk136,lk137,lk138,lk139,lk140,lk141,lk142,lk143,lk144,lk145,lk146,lk147,lk148,lk149,lk150,lk151,lk152,lk153,lk154,lk155,lk156,lk157,lk158,lk159,lk160,lk161,lk162,lk163,lk164,lk165,lk166,lk167,lk168,lk169,lk170,lk171,lk172,lk173,lk174,lk175,lk176,lk177,lk178,lk179,lk180,lk181,lk182,lk183,lk184,lk185,lk186,lk187,lk188,lk189,lk190,lk191,lk192,lk193,lk194,lk195,lk196,lk197,lk198,lk199,lk200,lk201,lk202,lk203,lk204,lk205,lk206,lk207,lk208,lk209,lk210,lk211,lk212,lk213,lk214,lk215,lk216,lk217,lk218,lk219,lk220,lk221,lk222,lk223,lk224,lk225,lk226,lk227,lk228,lk229,lk230,lk231,lk232,lk233,lk234,lk235,lk236,lk237,lk238,lk239,lk240,lk241,lk242,lk243,lk244,lk245,lk246,lk247,lk248,lk249,lk250,lk251,lk252,lk253,lk254,lk255,trivial⟩
theorem YnR{a:Nat}(h1:128<=a)(h2:a<=255):a∈YqJ:=by
 have h:∀i:Fin 128,(128+i.1)∈YqJ:=by decide
 have:=h ⟨a-128,by omega⟩
 rw[show 128+(a-128)=a by omega]at this
 exact this
theorem Yxq{n:Nat}(h1:3<=n)(h2:n<=524287)(ho:n%2=1):far2 2043 n:=by
 have key:∀j,1<=j->j<=7->n/2^j=1->far2 2043 n:=fun j a b c=>YrX (by decide) lk1 j n a b ho c
 have key2:∀j,1<=j->j<=11->128<=n/2^j->n/2^j<=255->far2 2043 n:=fun j a b c d=>YrX (by omega) (YmW YqK _ (YnR c d)) j n a b ho rfl
 rcases(show(2<=n/\n<4)\/(4<=n/\n<8)\/(8<=n/\n<16)\/(16<=n/\n<32)\/(32<=n/\n<64)\/(64<=n/\n<128)\/(128<=n/\n<256)\/(256<=n/\n<512)\/(512<=n/\n<1024)\/(1024<=n/\n<2048)\/(2048<=n/\n<4096)\/(4096<=n/\n<8192)\/(8192<=n/\n<16384)\/(16384<=n/\n<32768)\/(32768<=n/\n<65536)\/(65536<=n/\n<131072)\/(131072<=n/\n<262144)\/(262144<=n/\n<524288)by omega)with h|h|h|h|h|h|h|h|h|h|h|h|h|h|h|h|h|h
 ·exact key 1 (by decide) (by decide) (by rw[show(2:Nat)^1=2 from rfl];omega)
 ·exact key 2 (by decide) (by decide) (by rw[show(2:Nat)^2=4 from rfl];omega)
 ·exact key 3 (by decide) (by decide) (by rw[show(2:Nat)^3=8 from rfl];omega)
 ·exact key 4 (by decide) (by decide) (by rw[show(2:Nat)^4=16 from rfl];omega)
 ·exact key 5 (by decide) (by decide) (by rw[show(2:Nat)^5=32 from rfl];omega)
 ·exact key 6 (by decide) (by decide) (by rw[show(2:Nat)^6=64 from rfl];omega)
 ·exact key 7 (by decide) (by decide) (by rw[show(2:Nat)^7=128 from rfl];omega)
 ·exact key2 1 (by decide) (by decide) (by rw[show(2:Nat)^1=2 from rfl];omega) (by rw[show(2:Nat)^1=2 from rfl];omega)
 ·exact key2 2 (by decide) (by decide) (by rw[show(2:Nat)^2=4 from rfl];omega) (by rw[show(2:Nat)^2=4 from rfl];omega)
 ·exact key2 3 (by decide) (by decide) (by rw[show(2:Nat)^3=8 from rfl];omega) (by rw[show(2:Nat)^3=8 from rfl];omega)
 ·exact key2 4 (by decide) (by decide) (by rw[show(2:Nat)^4=16 from rfl];omega) (by rw[show(2:Nat)^4=16 from rfl];omega)
 ·exact key2 5 (by decide) (by decide) (by rw[show(2:Nat)^5=32 from rfl];omega) (by rw[show(2:Nat)^5=32 from rfl];omega)
 ·exact key2 6 (by decide) (by decide) (by rw[show(2:Nat)^6=64 from rfl];omega) (by rw[show(2:Nat)^6=64 from rfl];omega)
 ·exact key2 7 (by decide) (by decide) (by rw[show(2:Nat)^7=128 from rfl];omega) (by rw[show(2:Nat)^7=128 from rfl];omega)
 ·exact key2 8 (by decide) (by decide) (by rw[show(2:Nat)^8=256 from rfl];omega) (by rw[show(2:Nat)^8=256 from rfl];omega)
 ·exact key2 9 (by decide) (by decide) (by rw[show(2:Nat)^9=512 from rfl];omega) (by rw[show(2:Nat)^9=512 from rfl];omega)
 ·exact key2 10 (by decide) (by decide) (by rw[show(2:Nat)^10=1024 from rfl];omega) (by rw[show(2:Nat)^10=1024 from rfl];omega)
 ·exact key2 11 (by decide) (by decide) (by rw[show(2:Nat)^11=2048 from rfl];omega) (by rw[show(2:Nat)^11=2048 from rfl];omega)
theorem narrow43{n:Nat}(h1:1<=n)(h2:n<=524287):Yd7 2043 n:=
 narrow_far2 (by decide) h1 (YFG h2 (by decide)) (Yt0 (B:=524287) (fun m a b c=>Yxq a b c) n h1 h2)
end Go.Proofs.YtmiclogmkfobgaaGreat.LS
namespace Go.Proofs.YtmiclogmkfobgaaGreat
open Go Go.Vx
def Dec(l:List (Int×Int)):Prop:=upP l=dnP l\/¬Und l 2048
theorem YlH{l:List (Int×Int)}{J:Nat}{w:Nat->Nat}(hJ:J<=2048)(hl:∀x,x∈l->okT x)(hw:∀x,x∈l->(lN x.1.toNat 2048).2<=(lN x.1.toNat 2048).1+w x.1.toNat*2^(2048-J))(h:Und l 2048):
 upP l^(2^J)<=dnP l^(2^J)*2^(upS w l+dnS w l):=by
 obtain⟨⟨a1,a2⟩,b1,b2⟩:=Yb9 (K:=2^2048) (g:=fun n=>(lN n 2048).1) (h:=fun n=>(lN n 2048).2) (fun n k1 k2=>Yfq k1 k2) l hl
 obtain⟨s1,s2⟩:=Yww (g:=fun n=>(lN n 2048).1) (h:=fun n=>(lN n 2048).2) (w:=w) (c:=2^(2048-J)) l hw
 obtain⟨h1,_⟩:=h
 obtain⟨c,hc⟩:∃c,c=2^(2048-J):=⟨_,rfl⟩
 obtain⟨K,hK⟩:∃K,K=(2:Nat)^2048:=⟨_,rfl⟩
 have hc0:c≠0:=by rw[hc];have:=YF (2048-J);omega
 have hKc:K=2^J*c:=by rw[hK,hc,<-YFi];congr 1;omega
 rw[<-hc]at s1 s2
 rw[<-hK]at a1 a2 b1 b2
 rw[<-Nat.pow_le_pow_iff_left hc0,YFo,<-YFh,<-YFh,<-hKc,<-YFh,YFw]
 refine YFa a2 ?_
 refine YFa (YFq (by decide) (show _<=dnS (fun n=>(lN n 2048).1) l+(upS w l*c+dnS w l*c)by omega)) ?_
 rw[YFi]
 exact YE9 _ b1
theorem Yul{l:List (Int×Int)}(hl:∀x,x∈l->okT x)(hn:l.length<=20)(h:Dec l):0<=YeO l↔dnP l<=upP l:=by
 obtain⟨h1,h2,h3,h4⟩:=Yn3 hl hn
 rcases h4 with h4|h4|h4
 ·have:=h1 h4;omega
 ·have:=h2 h4;omega
 ·have h5:=h3 h4
  rcases h with h|h
  ·omega
  ·rcases h5 with h5|h5
   ·have:=Ykl hl hn h5;omega
   ·exact absurd h5 h
def PthG(P:Nat->Prop)(t:Nat->Bool):Nat->Nat->Nat->Prop
 |0,a,b=>b<=a+1
 |f+1,a,b=>b<=a+1\/(P ((a+b)/2)/\if t ((a+b)/2)=true then PthG P t f ((a+b)/2) b else PthG P t f a ((a+b)/2))
def bisN(t:Nat->Bool):Nat->Nat->Nat->Nat
 |0,a,_=>a
 |f+1,a,b=>if b<=a+1 then a else if t ((a+b)/2)=true then bisN t f ((a+b)/2) b else bisN t f a ((a+b)/2)
theorem YdW{P:Nat->Prop}{t:Nat->Bool}:∀(f a b:Nat),a<b->PthG P t f a b->
 (bisN t f a b=a\/(P (bisN t f a b)/\t (bisN t f a b)=true))/\(bisN t f a b+1=b\/t (bisN t f a b+1)=false)/\a<=bisN t f a b/\bisN t f a b<b
 |0,a,b,h,hp=>by
  have hp:b<=a+1:=hp
  rw[bisN]
  exact⟨Or.inl rfl,Or.inl (by omega),YFk _,h⟩
 |f+1,a,b,h,hp=>by
  rw[bisN]
  by_cases c:b<=a+1
  ·rw[if_pos c]
   exact⟨Or.inl rfl,Or.inl (by omega),YFk _,h⟩
  ·rw[if_neg c]
   rcases hp with hp| ⟨hP,hp⟩
   ·exact absurd hp c
   by_cases d:t ((a+b)/2)=true
   ·rw[if_pos d]at hp⊢
    obtain⟨i1,i2,i3,i4⟩:=YdW f _ _ (by omega) hp
    refine⟨?_,i2,by omega,i4⟩
    rcases i1 with i1|i1
    ·rw[i1];exact Or.inr ⟨hP,d⟩
    ·exact Or.inr i1
   ·rw[if_neg d]at hp⊢
    obtain⟨i1,i2,i3,i4⟩:=YdW f _ _ (by omega) hp
    refine⟨i1,?_,i3,by omega⟩
    rcases i2 with i2|i2
    ·rw[i2];exact Or.inr (by simpa using d)
    ·exact Or.inr i2
theorem YhT{P:Nat->Prop}{t:Nat->Bool}{s:Int->Bool}(hs:∀m:Nat,1<=m->m<=1000000000001->P m->s (m:Int)=t m):∀(f g a b:Nat),a<b->b<=1000000000001->b-a<=2^g->PthG P t f a b->bisL g s (a:Int) (b:Int)=(bisN t f a b:Nat)
 |0,g,a,b,h,hb,hg,hp=>by
  have hp:b<=a+1:=hp
  rw[bisN]
  cases g with
  |zero=>rfl
  |succ g=>rw[bisL,if_neg (by omega)]
 |f+1,g,a,b,h,hb,hg,hp=>by
  rw[bisN]
  by_cases c:b<=a+1
  ·rw[if_pos c]
   cases g with
   |zero=>rfl
   |succ g=>rw[bisL,if_neg (by omega)]
  ·rw[if_neg c]
   rcases hp with hp| ⟨hP,hp⟩
   ·exact absurd hp c
   cases g with
   |zero=>rw[YGn]at hg;omega
   |succ g=>
    rw[YFm]at hg
    have em:(a:Int)+((b:Int)-(a:Int))/2=(((a+b)/2:Nat):Int):=by omega
    rw[bisL,if_pos (by omega),em,hs _ (by omega) (by omega) hP]
    by_cases d:t ((a+b)/2)=true
    ·rw[if_pos d]at hp⊢
     rw[if_pos d]
     exact YhT hs f g _ _ (by omega) hb (by omega) hp
    ·rw[if_neg d]at hp⊢
     rw[if_neg d]
     exact YhT hs f g _ _ (by omega) (by omega) (by omega) hp
end Go.Proofs.YtmiclogmkfobgaaGreat
set_option maxRecDepth 100000
namespace Go.Proofs.YtmiclogmkfobgaaGreat
open Go Go.Vx
theorem Yvj{n:Nat}(h:n%2=1):∀e,n^e%2=1
 |0=>rfl
 |e+1=>by rw[YFm,Nat.mul_mod,Yvj h e,h]
theorem Yyp{E:Nat}(hE:1<=E):∀n m:Nat,n^E=2^m->∃q,n=2^q:=by
 intro n
 induction n using Nat.strongRecOn with
 |_ n ih=>
  intro m h
  by_cases ho:n%2=1
  ·have:=Yvj ho E
   rw[h]at this
   rcases YFB m with rfl|hm
   ·rw[YGn]at h
    refine⟨0,?_⟩
    refine Nat.le_antisymm (YGk fun hh=>?_) (by omega)
    have:=Nat.pow_lt_pow_left hh (show E≠0 by omega)
    rw[YGn,Nat.one_pow]at this
    omega
   ·obtain⟨d,rfl⟩:∃d,m=d+1:=⟨m-1,by omega⟩
    rw[YFm]at this
    omega
  ·obtain⟨j,rfl⟩:∃j,n=2*j:=⟨n/2,by omega⟩
   rcases YFB j with rfl|hj
   ·have:=Nat.two_pow_pos m
    rw[Nat.mul_zero,Nat.zero_pow (by omega)]at h
    omega
   ·rw[YFo]at h
    have hm:E<=m:=by
     refine YGk fun hh=>?_
     have b:(2:Nat)^m<2^E:=(Nat.pow_lt_pow_iff_right (by decide)).2 hh
     have:=Nat.le_mul_of_pos_right (2^E) (YFF (n:=E) hj)
     omega
    obtain⟨d,rfl⟩:∃d,m=E+d:=⟨m-E,by omega⟩
    rw[YFi]at h
    obtain⟨q,hq⟩:=ih j (by omega) d (Nat.eq_of_mul_eq_mul_left (Nat.two_pow_pos E) h)
    exact⟨q+1,by rw[hq,YFm,YFc]⟩
theorem Yxo{n x y d m J s:Nat}(hx:x=y+d)(hd:s*2^J+2<=d)(h2:n<2^s)(hm:Near (2^x) (2^y) J n m):∃q,n=2^q:=by
 obtain⟨a,b⟩:=hm
 have hW:=YF y
 have e:(2:Nat)^x=2^y*2^d:=by rw[hx,YFi]
 rw[e]at a b
 have hE:1<=2^J:=YF J
 generalize 2^J=E at*
 have hnE:n^E<2^(s*E):=by
  have:=Nat.pow_lt_pow_left h2 (show E≠0 by omega)
  rwa [<-YFh]at this
 have hD:(2:Nat)^(s*E+2)<=2^d:=YFq (by decide) hd
 rw[YFi]at hD
 generalize(2:Nat)^(s*E)=T at*
 have h4:(2:Nat)^2=4:=rfl
 rw[h4]at hD
 have key:n^E=2^m:=by
  generalize n^E=N at*
  generalize 2^y=W at*
  generalize(2:Nat)^d=D at*
  generalize(2:Nat)^m=R at*
  have a':R*D<=N*D+R:=by
   refine Nat.le_of_mul_le_mul_left (c:=W) ?_ hW
   grind
  have b':N*D<=R*D+R:=by
   refine Nat.le_of_mul_le_mul_left (c:=W) ?_ hW
   grind
  have hRs:R<2*T:=by
   refine Nat.lt_of_not_le fun hh=>?_
   have k1:=YE9 D (show N+1<=T from hnE)
   have k2:=YE9 D hh
   have k3:2*R<=R*D:=by
    rw[YFc R D];exact YE9 R (by omega)
   have e1:(N+1)*D=N*D+D:=by rw[YFw,YFR]
   have e2:2*T*D=2*(T*D):=YFg ..
   omega
  refine Nat.le_antisymm (YGk fun hh=>?_) (YGk fun hh=>?_)
  ·have:=YE9 D (show R+1<=N from hh)
   rw[YFw,YFR]at this
   omega
  ·have:=YE9 D (show N+1<=R from hh)
   rw[YFw,YFR]at this
   omega
 exact Yyp hE n m key
theorem Yya{n:Nat}(h1:1<=n)(h2:n<2^41):Yd7 5 n:=by
 by_cases h:∃q,n=2^q
 ·exact LS.narrow_far2 (by decide) h1 (Nat.lt_trans h2 (by decide)) (Or.inl h)
 ·rcases YqX h1 (Nat.lt_trans h2 (by decide)) (show 5<=500 by decide)with hn| ⟨_,m,hm⟩
  ·exact hn
  ·exact absurd (Yxo (x:=4160) (y:=2160) (d:=2000) (s:=41) rfl (by decide) h2 hm) h
def rtA(m num den:Nat):List (Int×Int):=[(2, -(num:Int))]++[((m:Int),(den:Int))]
theorem YrD{m num den k:Nat}(hd:1<=den):upP (atF (rtA m num den) den k)=m^den/\dnP (atF (rtA m num den) den k)=2^num*k^den:=by
 have h1:¬((den:Int)<0):=by omega
 have h2:(-(den:Int))<0:=by omega
 unfold rtA atF
 simp only[List.cons_append,List.nil_append,upP,dnP,if_neg h1,if_pos h2,YE4,Int.neg_neg,YGb,YFR]
 by_cases h: -(num:Int)<0
 ·rw[if_pos h,if_pos h,YFR];exact⟨rfl,rfl⟩
 ·rw[if_neg h,if_neg h]
  have:num=0:=by omega
  subst this
  exact⟨by simp,by simp⟩
theorem rtA_S(g:Nat->Nat){m num den k:Nat}(hd:1<=den):upS g (atF (rtA m num den) den k)+dnS g (atF (rtA m num den) den k)=g 2*num+g m*den+g k*den:=by
 have h1:¬((den:Int)<0):=by omega
 have h2:(-(den:Int))<0:=by omega
 unfold rtA atF
 simp only[List.cons_append,List.nil_append,upS,dnS,if_neg h1,if_pos h2,YE4,Int.neg_neg]
 by_cases h: -(num:Int)<0
 ·rw[if_pos h,if_pos h]
  simp only[Int.reduceToNat]
  omega
 ·rw[if_neg h,if_neg h]
  have:num=0:=by omega
  subst this
  simp
theorem YrF{m num den k:Nat}(hm:1<=m/\m<=500000)(hn:num<=1000000000)(hd:1<=den/\den<=1000000)(hk:1<=k/\k<=1000000000001):∀x,x∈atF (rtA m num den) den k->okT x:=by
 intro x hx
 simp only[rtA,atF,List.cons_append,List.nil_append,YFA,List.not_mem_nil,or_false]at hx
 rcases hx with rfl|rfl|rfl <;> simp only[okT] <;> omega
theorem YpX(n:Nat):LB.ePt n=2^n:=rfl
def w38:Nat:=LB.ePt (2043-5)
theorem YEX:w38=2^(2043-5):=by unfold w38;rw[YpX]
def wD(n:Nat):Nat:=if n=2 then 0 else if n<=524287 then 1 else w38
theorem wD_ok{n:Nat}(h1:1<=n)(h2:n<2^41):(lN n 2048).2<=(lN n 2048).1+wD n*2^(2048-2043):=by
 unfold wD
 split
 ·rename_i e
  subst e
  have e:(lN 2 2048).2=(lN 2 2048).1:=by
   unfold lN
   rw[if_pos (by decide)]
  rw[e]
  exact Nat.le_add_right _ _
 ·split
  ·rename_i h
   have:=LS.narrow43 h1 h
   unfold Yd7 at this
   rw[YFR]
   exact this
  ·have h:=YtX (J':=2043) (Yya h1 h2) (by decide) (by decide)
   rw[<-YEX]at h
   exact h
def Thr(num den:Nat):Prop:=∃L d q n,L=d*q/\(1<=d/\d<=53)/\0<q/\(∀e,e∣q->LB.eAll e)/\num*L=n*den
def pwB(n:Nat):Bool:=YGs (Nat.pow 500000 53) (LB.ePt n)
theorem YCL{n:Nat}(h:pwB n=true):500000^53<=LB.ePt n:=YFV h
theorem pw53:pwB 1004=true:=by decide+kernel
theorem pw53'{m d:Nat}(hm:m<=500000)(hd:d<=53):m^d<=LB.eU:=by
 have h1:m^d<=500000^d:=YFl hm d
 have h2:500000^d<=500000^53:=YFq (by decide) hd
 have h3:=YCL pw53
 unfold LB.eU
 exact YFa h1 (YFa h2 h3)
theorem eU_V:2*LB.eU=LB.eV:=by
 have h:=LB.ePt_add 1 1004
 rw[LB.ePt_1,show 1+1004=1005 from rfl]at h
 unfold LB.eU LB.eV
 exact h
theorem QG{S:Nat}(hS:S=256):(2:Nat)^2043=LB.eG*S:=by
 have h8:LB.ePt 8=256:=rfl
 have h:=LB.ePt_add 2035 8
 rw[h8,show 2035+8=2043 from rfl]at h
 rw[hS,<-YpX 2043]
 unfold LB.eG
 exact h.symm
theorem big_k{m k q den X Y Q:Nat}(hm:m<=500000)(hk:524288<=k)(hq:1<=q)(hd:1<=den)(hQ:Q=32*q)(hY:Y=m^den)(hX:k^den<=X)(h:X^Q<=Y^Q*2^(den+q*den)):False:=by
 have h1:(k^den)^Q<=(m^den)^Q*2^(den+q*den):=by rw[<-hY];exact YFa (YFl hX _) h
 have e1:∀w:Nat,(w^den)^Q=((w^32)^q)^den:=fun w=>by rw[hQ,<-YFh,<-YFh,<-YFh];congr 1;ac_rfl
 have e2:2^(den+q*den)=(2^(1+q))^den:=by rw[<-YFh,YFw,YFR]
 rw[e1,e1,e2,<-YFo]at h1
 have h2:=(Nat.pow_le_pow_iff_left (show den≠0 by omega)).1 h1
 have h3:2^(1+q)<=4^q:=by
  rw[show(4:Nat)=2^2 from rfl,<-YFh]
  exact YFq (by decide) (by omega)
 have h4:=YFa h2 (YFe _ h3)
 rw[<-YFo]at h4
 have h5:=(Nat.pow_le_pow_iff_left (show q≠0 by omega)).1 h4
 have h6:m^32<=500000^32:=YFl hm 32
 have h7:524288^32<=k^32:=YFl hk 32
 have h8:500000^32*4<524288^32:=by decide
 omega
theorem YpF{m num den:Nat}(hm:1<=m/\m<=500000)(hn:num<=1000000000)(hd:1<=den/\den<=1000000)(ht:Thr num den):∀k:Nat,1<=k->k<=1000000000001->Dec (atF (rtA m num den) den k):=by
 intro k k1 k2
 obtain⟨P1,P2⟩:=YrD (m:=m) (num:=num) (k:=k) hd.1
 have hok:=YrF hm hn hd ⟨k1,k2⟩
 unfold Dec
 refine Classical.byContradiction fun hcon=>?_
 have hne:¬m^den=2^num*k^den:=fun e=>hcon (Or.inl (by rw[P1,P2];exact e))
 have hu:Und (atF (rtA m num den) den k) 2048:=Classical.byContradiction fun hh=>hcon (Or.inr hh)
 have hw:∀x,x∈atF (rtA m num den) den k->(lN x.1.toNat 2048).2<=(lN x.1.toNat 2048).1+wD x.1.toNat*2^(2048-2043):=fun x hx=>by
  have:=hok x hx
  exact wD_ok (by have:=this.1;omega) (by have:=this.2.1;omega)
 have g1:=YuA (J:=2043) (w:=wD) (by decide) hok hw hu
 have g2:=YlH (J:=2043) (w:=wD) (by decide) hok hw hu
 rw[rtA_S wD hd.1,P1,P2]at g1 g2
 have w2:wD 2=0:=rfl
 have wm:wD m<=1:=by
  unfold wD
  split
  ·decide
  ·first|exact YFk _| (rw[if_pos (by omega)];exact YFk _)
 rw[w2,Nat.zero_mul,YGh]at g1 g2
 have hY:0<m^den:=YFF hm.1
 have hX:0<2^num*k^den:=YF3 (Nat.two_pow_pos _) (YFF k1)
 rcases YFu 524287 k with hk|hk
 ·obtain⟨q,hq⟩:∃q,q=w38:=⟨_,rfl⟩
  have hw2:wD k=q:=by rw[hq];unfold wD;rw[if_neg (by omega),if_neg (by omega)]
  have hQ:(2:Nat)^2043=32*q:=by
   have h5:LB.ePt 5=32:=rfl
   have h:=LB.ePt_add 5 (2043-5)
   rw[h5,show 5+(2043-5)=2043 from rfl]at h
   rw[hq,<-YpX 2043]
   unfold w38
   exact h.symm
  generalize(2:Nat)^2043=Q at*
  have hq1:1<=q:=by
   rw[hq]
   unfold w38
   exact LB.ePt_pos _
  refine big_k (m:=m) (k:=k) (q:=q) (den:=den) hm.2 hk hq1 hd.1 hQ rfl (Nat.le_mul_of_pos_left _ (Nat.two_pow_pos num)) (YFa g1 (YFe _ (YFq (by decide) ?_)))
  rw[hw2]
  exact Nat.add_le_add_right (by have:=YE9 den wm;omega) _
 ·have wk:wD k<=1:=by
   unfold wD
   split
   ·decide
   ·first|exact YFk _| (rw[if_pos hk];exact YFk _)
  have hwid:wD m*den+wD k*den<=den*2:=by
   have a:=YE9 den wm
   have b:=YE9 den wk
   omega
  obtain⟨L,d,q,n,hL,hd53,hq,he,hE⟩:=ht
  have hL0:0<L:=by rw[hL];exact YF3 hd53.1 hq
  have hpw:=pw53' (d:=d) hm.2 hd53.2
  obtain⟨S,hS⟩:∃S:Nat,S=256:=⟨_,rfl⟩
  have hQ43:=QG hS
  generalize(2:Nat)^2043=Q at*
  rw[hQ43]at g1 g2
  have g1:=YFa g1 (YFe _ (YFq (show 1<=2 by decide) hwid))
  have g2:=YFa g2 (YFe _ (YFq (show 1<=2 by decide) hwid))
  have hwS:2*d<S:=by omega
  rcases Nat.lt_or_gt_of_ne hne with hlt|hlt
  ·have hgap:=LB.sep_den (q:=q) (G:=LB.eG) hL0 hd.1 hE hlt (fun h=>by
    rw[hL]at h⊢
    exact LB.sep_L hq he k1 (by rw[<-eU_V];exact YFe 2 hpw) h)
   exact LB.sep_fin hY hL hq hd.1 hwS hgap g1
  ·have hgap:=LB.sep_den2 (q:=q) (G:=LB.eG) hL0 hd.1 hE hlt (fun h=>by
    rw[hL]at h⊢
    exact LB.sep_L2 hq he k1 hpw h)
   exact LB.sep_fin hX hL hq hd.1 hwS hgap g2
end Go.Proofs.YtmiclogmkfobgaaGreat
set_option maxRecDepth 100000
namespace Go.Proofs.YtmiclogmkfobgaaGreat
open Go Go.Vx
theorem Yoh{b:Nat}(e:Nat->Nat):∀{r:List Nat},(∀x,x∈r->YF1 b x=1)->YF1 b (PV e r)=1
 | [],_=>by simp [PV]
 |c::r,h=>by
  have h1:Nat.Coprime b c:=h c (YFs ..)
  have h2:Nat.Coprime b (PV e r):=Yoh e fun x hx=>h x (YFp _ hx)
  exact Nat.Coprime.mul_right (Nat.Coprime.pow_right _ h1) h2
theorem Ygn{b x y P P':Nat}(hb:2<=b)(h1:YF1 b P=1)(hP:0<P)(h:b^x*P=b^y*P'):y<=x:=by
 refine YGk fun hlt=>?_
 obtain⟨d,rfl⟩:∃d,y=x+(d+1):=⟨y-x-1,by omega⟩
 rw[YFi,YFg]at h
 have h2:=Nat.eq_of_mul_eq_mul_left (YFF (by omega)) h
 have h3:b∣P:=by rw[h2,YFm,Nat.mul_right_comm];exact Nat.dvd_mul_left ..
 have h4:b∣YF1 b P:=Nat.dvd_gcd (Nat.dvd_refl b) h3
 rw[h1]at h4
 have:=Nat.le_of_dvd (by decide) h4
 omega
theorem Yi3{e:Nat->Nat}:∀{r:List Nat},(∀x,x∈r->2<=x)->0<PV e r
 | [],_=>by simp [PV]
 |b::r,h=>YF3 (YFF (by have:=h b (YFs ..);omega)) (Yi3 fun x hx=>h x (YFp _ hx))
theorem Yi2{e e':Nat->Nat}:∀{r:List Nat},Cop r->(∀x,x∈r->2<=x)->PV e r=PV e' r->∀b,b∈r->e b=e' b
 | [],_,_,_,b,hb=>by cases hb
 |c::r,hc,h2,h,b,hb=>by
  obtain⟨g1,g2⟩:=List.pairwise_cons.1 hc
  have h2':∀x,x∈r->2<=x:=fun x hx=>h2 x (YFp _ hx)
  have hc2:=h2 c (YFs ..)
  rw[PV,PV]at h
  have l1:=Ygn hc2 (Yoh e g1) (Yi3 h2') h
  have l2:=Ygn hc2 (Yoh e' g1) (Yi3 h2') h.symm
  have he:e c=e' c:=Nat.le_antisymm l2 l1
  rw[he]at h
  have h3:=Nat.eq_of_mul_eq_mul_left (YFF (by omega)) h
  rcases YFA.1 hb with rfl|hb
  ·exact he
  ·exact Yi2 g2 h2' h3 b hb
theorem Yye{l:List (Int×Int)}(hl:∀x,x∈l->okT x)(hn:l.length<=20):oneF l=true↔upP l=dnP l:=by
 refine⟨Ykl hl hn,fun h=>?_⟩
 obtain⟨hc,hs⟩:=Ymh hl hn
 have hr:=YfQ hl hn
 obtain⟨e1,e2⟩:=P_is hc (fun x hx=>(hr x hx).1) l fun x hx=>⟨hl x hx,hs x hx⟩
 rw[e1,e2]at h
 refine List.all_eq_true.2 fun b hb=>decide_eq_true ?_
 have hb2:=hr b hb
 unfold sumB
 rw[Ylz hb2.1 hb2.2 l 0 hl (by omega) (by omega) (by omega),Yi2 hc (fun x hx=>(hr x hx).1) h b hb]
 omega
theorem Ygp{P:Nat->Prop}{t:Nat->Bool}:∀(f a b:Nat),b-a<=2^f->(∀m,a<m->m<b->P m)->PthG P t f a b
 |0,a,b,h,_=>by rw[YGn]at h;exact(by omega:b<=a+1)
 |f+1,a,b,h,hp=>by
  rw[YFm]at h
  by_cases c:b<=a+1
  ·exact Or.inl c
  ·refine Or.inr ⟨hp _ (by omega) (by omega),?_⟩
   split
   ·exact Ygp f _ _ (by omega) fun m h1 h2=>hp m (by omega) h2
   ·exact Ygp f _ _ (by omega) fun m h1 h2=>hp m h1 (by omega)
def tstK(m num den:Nat)(k:Nat):Bool:=decide (2^num*k^den<=m^den)
def rtN(m num den:Nat):Nat:=bisN (tstK m num den) 41 0 1000000000001
def exN(m num den:Nat):Bool:=decide (0<rtN m num den)&&decide (m^den=2^num*rtN m num den^den)
theorem YlB{m num den:Nat}(hm:m<=500000)(hd:1<=den){k:Nat}(hk:500000<k):tstK m num den k=false:=by
 refine decide_eq_false fun h=>?_
 have h1:k^den<=m^den:=YFa (Nat.le_mul_of_pos_left _ (Nat.two_pow_pos num)) h
 have:=(Nat.pow_le_pow_iff_left (show den≠0 by omega)).1 h1
 omega
theorem Ynj{m num den:Nat}(hm:1<=m/\m<=500000)(hd:1<=den):rtN m num den<=500000:=by
 obtain⟨h1,_⟩:=YdW (P:=fun _=>True) (t:=tstK m num den) 41 0 1000000000001 (by decide) (Ygp 41 0 1000000000001 (by decide) fun _ _ _=>trivial)
 refine YGk fun hh=>?_
 unfold rtN at hh
 rcases h1 with h1| ⟨_,h1⟩
 ·rw[h1]at hh;cases hh
 ·rw[YlB hm.2 hd hh]at h1;cases h1
theorem Yzf{m num den g:Nat}(hg:1<=g):tstK m (g*num) (g*den)=tstK m num den:=by
 funext k
 unfold tstK
 rw[YFc g num,YFc g den,YFh,YFh,YFh,<-YFo]
 exact decide_eq_decide.2 (Nat.pow_le_pow_iff_left (show g≠0 by omega))
theorem YDD{m num den g:Nat}(hg:1<=g):rtN m (g*num) (g*den)=rtN m num den/\exN m (g*num) (g*den)=exN m num den:=by
 have h1:rtN m (g*num) (g*den)=rtN m num den:=by unfold rtN;rw[Yzf hg]
 refine⟨h1,?_⟩
 unfold exN
 rw[h1,YFc g num,YFc g den,YFh,YFh,YFh,<-YFo]
 congr 1
 exact decide_eq_decide.2 ⟨fun h=>Nat.le_antisymm ((Nat.pow_le_pow_iff_left (show g≠0 by omega)).1 (YFr h)) ((Nat.pow_le_pow_iff_left (show g≠0 by omega)).1 (YFr h.symm)),fun h=>by rw[h]⟩
theorem YrE(m num den k:Nat):(atF (rtA m num den) den k).length=3:=rfl
theorem YrN{m num den:Nat}(hm:1<=m/\m<=500000)(hn:num<=1000000000)(hd:1<=den/\den<=1000000)(ht:Thr num den){k:Nat}(h1:1<=k)(h2:k<=1000000000001):isF (rtA m num den) den k=tstK m num den k:=by
 have h:=Yul (YrF hm hn hd ⟨h1,h2⟩) (by rw[YrE];decide) (YpF hm hn hd ht k h1 h2)
 obtain⟨P1,P2⟩:=YrD (m:=m) (num:=num) (k:=k) hd.1
 rw[P1,P2]at h
 unfold isF tstK
 rw[decide_eq_false (show¬(k:Int)=0 by omega),Bool.false_or]
 exact decide_eq_decide.2 h
theorem Yyl{m num den:Nat}(hm:1<=m/\m<=500000)(hn:num<=1000000000)(hd:1<=den/\den<=1000000)(ht:Thr num den):
 Ygo (m:Int) [(2, -(num:Int))] (den:Int)=((rtN m num den:Int),exN m num den,0):=by
 have e: [(2, -(num:Int))]++[((m:Int),(den:Int))]=rtA m num den:=rfl
 unfold Ygo
 rw[e]
 have htop:isF (rtA m num den) den 1000000000001=false:=by
  have:=YrN hm hn hd ht (k:=1000000000001) (by decide) (by decide)
  rw[YlB hm.2 hd.1 (by decide)]at this
  exact this
 rw[if_neg (by rw[htop];decide)]
 have hb:=YhT (P:=fun _=>True) (t:=tstK m num den) (s:=isF (rtA m num den) den) (fun k k1 k2 _=>YrN hm hn hd ht k1 k2) 41 64 0 1000000000001 (by decide) (by decide) (by decide) (Ygp 41 0 1000000000001 (by decide) fun _ _ _=>trivial)
 have hb:bisL 64 (isF (rtA m num den) den) 0 1000000000001=((rtN m num den:Nat):Int):=hb
 rw[hb]
 congr 2
 unfold exN
 by_cases h0:0<rtN m num den
 ·rw[decide_eq_true (by omega:(0:Int)<((rtN m num den:Nat):Int)),decide_eq_true h0,YGm,YGm]
  have hle:=Ynj (num:=num) hm hd.1
  have h:=Yye (YrF hm hn hd ⟨h0,by omega⟩) (by rw[YrE];decide)
  obtain⟨P1,P2⟩:=YrD (m:=m) (num:=num) (k:=rtN m num den) hd.1
  rw[P1,P2]at h
  by_cases c:m^den=2^num*rtN m num den^den
  ·rw[decide_eq_true c,h.2 c]
  ·rw[decide_eq_false c]
   exact Bool.eq_false_iff.2 fun hh=>c (h.1 hh)
 ·rw[decide_eq_false (by omega:¬(0:Int)<((rtN m num den:Nat):Int)),decide_eq_false h0,YGi,YGi]
end Go.Proofs.YtmiclogmkfobgaaGreat
set_option maxRecDepth 100000
namespace Go.Proofs.YtmiclogmkfobgaaGreat.LB
def Yf3(z:Nat):Bool:=(fun q r=>eOk q r (Nat.sub (Nat.min (YFD r 1000) q) r)) (YGt z 100) (Nat.succ (Nat.mul 1000 (YGo z 100)))
noncomputable def eC (l:List Nat):Bool:=List.rec true (fun z _ ih=>Bool.casesOn (Yf3 z) false ih) l
theorem YBe:∀{l:List Nat},eC l=true->∀z,z∈l->Yf3 z=true
 | [],_,_,h=>by cases h
 |z::l,h,y,hy=>by
  have h:Bool.casesOn (motive:=fun _=>Bool) (Yf3 z) false (eC l)=true:=h
  cases hb:Yf3 z with
  |false=>rw[hb]at h;cases h
  |true=>
   rw[hb]at h
   rcases YFA.1 hy with rfl|hy
   ·exact hb
   ·exact YBe h y hy
def eGs:List (List Nat)->Prop
 | []=>True
 |g::l=>eC g=true/\eGs l
theorem YuY:∀{l:List (List Nat)},eGs l->∀g,g∈l->∀z,z∈g->Yf3 z=true
 | [],_,_,h,_,_=>by cases h
 |g::l,h,y,hy,z,hz=>by
  rcases YFA.1 hy with rfl|hy
  ·exact YBe h.1 z hz
  ·exact YuY h.2 y hy z hz
theorem Yw9{q:Nat}(h:∀c,1000*c+1<q->Yf3 (100*q+c)=true)(hq:q<=90000):eAll q:=by
 intro r hr hg
 rcases YFB r with h0|h0
 ·exact Or.inl h0
 ·right
  obtain⟨c,hc⟩:∃c,c=(r-1)/1000:=⟨_,rfl⟩
  have hc1:1000*c+1<=r/\r<1000*c+1+1000:=by omega
  have hcq:c<100:=by omega
  have hk:=h c (by omega)
  unfold Yf3 at hk
  have e1:YGt (100*q+c) 100=q:=by show(100*q+c)/100=q;omega
  have e2:YGo (100*q+c) 100=c:=by show(100*q+c)%100=c;omega
  rw[e1,e2]at hk
  have hk:eOk q (1000*c+1) (min (1000*c+1+1000) q-(1000*c+1))=true:=hk
  have:=YBy hk (r-(1000*c+1)) (by omega) (by rw[show 1000*c+1+(r-(1000*c+1))=r by omega];exact hg)
  rw[show 1000*c+1+(r-(1000*c+1))=r by omega]at this
  exact this
end Go.Proofs.YtmiclogmkfobgaaGreat.LB
