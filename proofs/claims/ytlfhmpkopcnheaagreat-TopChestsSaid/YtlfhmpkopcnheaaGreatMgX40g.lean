/- Sheets, walked: Judge. -/
import Derived.Test.YtlfhmpkopcnheaaGreatMgX40f
import Derived.Test.YtlfhmpkopcnheaaGreatMgX40d
open And renaming intro->YHB
open Bool renaming and_eq_true->YHn,false_eq_true->YHG,not_eq_true->YIp,not_eq_true'->YHD,or_eq_false_iff->YHp,or_eq_true->YHS
open Int renaming eq_ofNat_of_zero_le->YHv,le_refl->YIs,toNat->YH0,toNat_natCast->YHj
open Go.IntWalk renaming i64_in->YHi,u64_in->YHJ
open List renaming any_eq_false->YHP,any_eq_true->YIt,foldl_cons->YHX,getD_eq_getElem?_getD->YHo,getElem?_eq_getElem->YH2,length_append->YHM,length_cons->YH8,length_drop->YIg,mem_cons_of_mem->YHu,mem_cons_self->YHw,mem_map->YIr,mem_of_mem_drop->YIm,range->YIc
open Nat renaming beq->YH1,eq_zero_or_pos->YH4,le_refl->YHr,le_trans->YHC,lt_or_ge->YHA,mul_comm->YHq,not_lt_zero->YIf,pow_succ->YHR,reduceAdd->YHf,reduceEqDiff->YHg,reduceLeDiff->YHh,zero_add->YIb,zero_le->YHK
open Go.Proofs.Tryz renaming prog->YHk
set_option linter.all false
namespace Go.Proofs.YtlfhmpkopcnheaaGreat
open Go Go.Vx
set_option maxRecDepth 100000
set_option maxHeartbeats 8000000
def Yi3(s:Spt):List SV:=[.int .i64 s.pl,.int .i64 s.sh,.int .i64 s.x,.int .i64 s.y]
def jdgF(p:Pla)(l:List Cut)(a:List Spt):Int:=
 if YdY p l 200≠0 then YdY p l 200 else if a.length≠l.length then 2 else if(YIc a.length).any (farB p l l.length a)=true then 2 else if(YIc a.length).any (fun i=>(YIc i).any (YsH p l a i))=true then 8 else 0
theorem rng_any{n:Nat}{f:Nat->Bool}:(YIc n).any f=true↔∃i,i<n/\f i=true:=by
 rw[YIt]
 exact⟨fun⟨i,h1,h2⟩=>⟨i,List.mem_range.1 h1,h2⟩,fun⟨i,h1,h2⟩=>⟨i,List.mem_range.2 h1,h2⟩⟩
theorem YdF{n:Nat}{f:Nat->Bool}(h:∀i,i<n->f i=false):(YIc n).any f=false:=by
 rw[Bool.eq_false_iff]
 intro hc
 obtain⟨i,h1,h2⟩:=rng_any.1 hc
 rw[h i h1]at h2;cases h2
def v17:VF:=⟨171,[.tmp 6],(ZR [u1 3 .box [.tm 0],Zi 6 0] (ZR [Zt 16 3 3,Zm 17 1,u1 18 (.build [(.int .i64 0),(.int .i64 0),(.int .i64 0),.nil] [(0,3),(3,1)]) [.tm 16,.tm 17],u1 7 (.alloc [(.int .i64 0),(.int .i64 0),(.int .i64 0),.nil]) [],Zs 4 7 18] (.seq (ZR [Zt 19 4 7,u1 20 (.call 35) [.tm 19,.cn (.int .i64 200)],Zm 8 20] (ZR [Zm 21 8,Zq 22 .neq 21 0] (ZC 22 (ZR [Zm 23 8,Zm 6 23] .ret) .skip))) (ZR [Zm 24 1,Zl 25 24,Zm 9 25] (.seq (ZR [Zm 26 2,Zl 27 26,Zm 28 9,Zr 29 .neq 27 28] (ZC 29 (ZR [Zi 6 2] .ret) .skip)) (.seq (ZR [Zm 30 2,Zl 31 30,Zi 32 0] (.block 0 (.loop (ZR [Zr 33 .lss 32 31] (.seq (ZC 33 .skip (.exit 0)) (.seq (.block 1 (ZR [Zm 34 32,Zx 35 4 30 32,Zt 36 4 35,u1 11 (.alloc [(.int .i64 0),(.int .i64 0),(.int .i64 0),(.int .i64 0)]) [],Zm 10 34,Zs 4 11 36] (.seq (.draw [] [Zy 37 0 11,Zv 38 1 37,w1 39 (.cmp .lss) [.tm 38,.cn (.int .i64 0)],Zu 40 39,⟨Zj 41 40 false 0 11,[]⟩,⟨Zh 42 40 false 1 41,[]⟩,⟨Zg 43 40 false 9,[]⟩,⟨u2 44 40 false (.cmp .geq) [.tm 42,.tm 43],[]⟩,w1 45 .or [.tm 40,.tm 44],Zu 46 45,⟨Zj 47 46 false 1 11,[]⟩,⟨Zh 48 46 false 1 47,[]⟩,⟨u2 49 46 false (.cmp .lss) [.tm 48,.cn (.int .i64 0)],[]⟩,w1 50 .or [.tm 46,.tm 49],Zu 51 50,⟨Zj 52 51 false 1 11,[]⟩,⟨Zh 53 51 false 1 52,[]⟩,⟨Zg 54 51 false 9,[]⟩,⟨u2 55 51 false (.cmp .geq) [.tm 53,.tm 54],[]⟩,w1 56 .or [.tm 51,.tm 55],Zu 57 56,⟨Zj 58 57 false 2 11,[]⟩,⟨Zh 59 57 false 1 58,[]⟩,⟨Zj 60 57 false 0 3,[]⟩,⟨Zh 61 57 false 1 60,[]⟩,⟨Zg 62 57 false 1,[]⟩,⟨Zg 63 57 false 10,[]⟩,⟨u2 64 57 false (.idxAddr 2) [.tm 62,.tm 63],[]⟩,⟨Zj 65 57 false 0 64,[]⟩,⟨Zh 66 57 false 1 65,[]⟩,⟨u2 67 57 false (.ari .sub) [.tm 61,.tm 66],[]⟩,⟨u2 68 57 false (.call 21) [.tm 59,.cn (.int .i64 0),.tm 67],[]⟩,w1 69 .or [.tm 57,.tm 68],Zu 70 69,⟨Zj 71 70 false 3 11,[]⟩,⟨Zh 72 70 false 1 71,[]⟩,⟨Zj 73 70 false 1 3,[]⟩,⟨Zh 74 70 false 1 73,[]⟩,⟨Zg 75 70 false 1,[]⟩,⟨Zg 76 70 false 10,[]⟩,⟨u2 77 70 false (.idxAddr 2) [.tm 75,.tm 76],[]⟩,⟨Zj 78 70 false 1 77,[]⟩,⟨Zh 79 70 false 1 78,[]⟩,⟨u2 80 70 false (.ari .sub) [.tm 74,.tm 79],[]⟩,⟨u2 81 70 false (.call 21) [.tm 72,.cn (.int .i64 0),.tm 80],[]⟩,w1 82 .or [.tm 70,.tm 81]]) (ZC 82 (ZR [Zi 6 2] .ret) .skip)))) (.region [Zp 83 32 1,Zm 32 83]))))))) (.seq (ZR [Zm 84 2,Zl 85 84,Zi 86 0] (.block 2 (.loop (ZR [Zr 87 .lss 86 85] (.seq (ZC 87 .skip (.exit 2)) (.seq (.block 3 (ZR [Zm 88 86,Zx 89 4 84 86,Zt 90 4 89,u1 13 (.alloc [(.int .i64 0),(.int .i64 0),(.int .i64 0),(.int .i64 0)]) [],Zm 12 88,Zs 4 13 90] (ZR [Zm 91 2,Zm 92 12,u1 93 (.slice 4 false true) [.tm 91,.tm 92],Zl 94 93,Zi 95 0] (.block 4 (.loop (ZR [Zr 96 .lss 95 94] (.seq (ZC 96 .skip (.exit 4)) (.seq (.block 5 (ZR [Zm 97 95,Zx 98 4 93 95,Zt 99 4 98,u1 15 (.alloc [(.int .i64 0),(.int .i64 0),(.int .i64 0),(.int .i64 0)]) [],Zm 14 97,Zs 4 15 99] (.seq (.draw [] [Zy 100 0 13,Zv 101 1 100,Zy 102 0 15,Zv 103 1 102,w1 104 (.cmp .eql) [.tm 101,.tm 103],Zu 105 104,⟨Zj 106 105 true 2 13,[]⟩,⟨Zh 107 105 true 1 106,[]⟩,⟨Zj 108 105 true 2 15,[]⟩,⟨Zh 109 105 true 1 108,[]⟩,⟨Zg 110 105 true 1,[]⟩,⟨Zg 111 105 true 14,[]⟩,⟨u2 112 105 true (.idxAddr 2) [.tm 110,.tm 111],[]⟩,⟨Zj 113 105 true 0 112,[]⟩,⟨Zh 114 105 true 1 113,[]⟩,⟨u2 115 105 true (.ari .add) [.tm 109,.tm 114],[]⟩,⟨Zj 116 105 true 2 3,[]⟩,⟨Zh 117 105 true 1 116,[]⟩,⟨u2 118 105 true (.ari .add) [.tm 115,.tm 117],[]⟩,⟨u2 119 105 true (.cmp .lss) [.tm 107,.tm 118],[]⟩,w1 120 .and [.tm 105,.tm 119],Zu 121 120,⟨Zj 122 121 true 2 15,[]⟩,⟨Zh 123 121 true 1 122,[]⟩,⟨Zj 124 121 true 2 13,[]⟩,⟨Zh 125 121 true 1 124,[]⟩,⟨Zg 126 121 true 1,[]⟩,⟨Zg 127 121 true 12,[]⟩,⟨u2 128 121 true (.idxAddr 2) [.tm 126,.tm 127],[]⟩,⟨Zj 129 121 true 0 128,[]⟩,⟨Zh 130 121 true 1 129,[]⟩,⟨u2 131 121 true (.ari .add) [.tm 125,.tm 130],[]⟩,⟨Zj 132 121 true 2 3,[]⟩,⟨Zh 133 121 true 1 132,[]⟩,⟨u2 134 121 true (.ari .add) [.tm 131,.tm 133],[]⟩,⟨u2 135 121 true (.cmp .lss) [.tm 123,.tm 134],[]⟩,w1 136 .and [.tm 121,.tm 135],Zu 137 136,⟨Zj 138 137 true 3 13,[]⟩,⟨Zh 139 137 true 1 138,[]⟩,⟨Zj 140 137 true 3 15,[]⟩,⟨Zh 141 137 true 1 140,[]⟩,⟨Zg 142 137 true 1,[]⟩,⟨Zg 143 137 true 14,[]⟩,⟨u2 144 137 true (.idxAddr 2) [.tm 142,.tm 143],[]⟩,⟨Zj 145 137 true 1 144,[]⟩,⟨Zh 146 137 true 1 145,[]⟩,⟨u2 147 137 true (.ari .add) [.tm 141,.tm 146],[]⟩,⟨Zj 148 137 true 2 3,[]⟩,⟨Zh 149 137 true 1 148,[]⟩,⟨u2 150 137 true (.ari .add) [.tm 147,.tm 149],[]⟩,⟨u2 151 137 true (.cmp .lss) [.tm 139,.tm 150],[]⟩,w1 152 .and [.tm 137,.tm 151],Zu 153 152,⟨Zj 154 153 true 3 15,[]⟩,⟨Zh 155 153 true 1 154,[]⟩,⟨Zj 156 153 true 3 13,[]⟩,⟨Zh 157 153 true 1 156,[]⟩,⟨Zg 158 153 true 1,[]⟩,⟨Zg 159 153 true 12,[]⟩,⟨u2 160 153 true (.idxAddr 2) [.tm 158,.tm 159],[]⟩,⟨Zj 161 153 true 1 160,[]⟩,⟨Zh 162 153 true 1 161,[]⟩,⟨u2 163 153 true (.ari .add) [.tm 157,.tm 162],[]⟩,⟨Zj 164 153 true 2 3,[]⟩,⟨Zh 165 153 true 1 164,[]⟩,⟨u2 166 153 true (.ari .add) [.tm 163,.tm 165],[]⟩,⟨u2 167 153 true (.cmp .lss) [.tm 155,.tm 166],[]⟩,w1 168 .and [.tm 153,.tm 167]]) (ZC 168 (ZR [Zi 6 8] .ret) .skip)))) (.region [Zp 169 95 1,Zm 95 169]))))))))) (.region [Zp 170 86 1,Zm 86 170]))))))) (ZR [Zi 6 0] .ret))))))))⟩
theorem YFN:Ye YHk Tryz.f17=some v17:=by kernel_rfl
def jdgC:Ctr:={ alias:=false,of:=fun l=>match l with
 | [.agg [.int .i64 W,.int .i64 H,.int .i64 K],.vs _ _ n sz get,.vs _ _ n' sz' get']=> .ex (List Cut) fun l=> .ex (List Spt) fun a=> .pre ((lsP 2 encK n sz get l/\n<=1000000000000)/\lsP 4 Yi3 n' sz' get' a/\n'<=1000000000000) (.fin (.int .i64 (jdgF ⟨W,H,K⟩ l a)) [])
 |_=>noC}
def HS6:Env:={ ct:=fun n=>match n with|35=>some chkJC|21=>some soutC|_=>none,fn:=fun _=>none,meth:=fun _ _=>none}
theorem Yus:HS6.ct 35=some chkJC:=rfl
theorem Yur:HS6.ct 21=some soutC:=rfl
theorem YCz:Yn YHk HS6:=by
 refine⟨fun f c h=>?_,fun f vf h=>?_,(fun _ _ _ h=>by cases h),by kernel_rfl,(fun _ h=>by cases h),(fun _ _ h=>by cases h)⟩
 ·simp only[HS6]at h
  split at h
  ·cases h;exact⟨Yrs,Tryz.f35,Tryz.func35,by kernel_rfl,by kernel_rfl⟩
  ·cases h;exact⟨Yol,Tryz.f21,Tryz.func21,by kernel_rfl,by kernel_rfl⟩
  ·cases h
 ·cases h
theorem jdg_c:jdgC.ok YHk 17:=by
 refine Yb Tryz.func17 YFN YCz 600 jdgC fun args k h=>?_
 simp only[jdgC]at h
 split at h
 ·rename_i W H K tt z n sz get tt' z' n' sz' get'
  obtain⟨l,a,⟨⟨⟨rfl,rfl,hg⟩,hn⟩,⟨rfl,rfl,hg'⟩,hn'⟩,h⟩:=h
  have self:lsP 2 encK l.length 2 (fun k=>[SV.int IntKind.i64 (l.getD k default).w,SV.int IntKind.i64 (l.getD k default).h]) l:=⟨rfl,rfl,fun k _=>Yd _⟩
  refine⟨[.agg [.int .i64 W,.int .i64 H,.int .i64 K],.vs tt z l.length 2 (fun k=>encK (l.getD k default)),.vs tt' z' a.length 4 (fun k=>Yi3 (a.getD k default))],⟨⟨⟨rfl,rfl⟩,⟨rfl,rfl⟩,⟨rfl,rfl⟩,trivial⟩,⟨id,rfl,rfl,rfl,hg⟩,⟨id,rfl,rfl,rfl,hg'⟩,trivial⟩,?_⟩
  have h:k (.int .i64 (jdgF ⟨W,H,K⟩ l a)) []:=h
  dsimp only[v17,Yus,chkJC,encK,Yi3,go_sem,reduceIte,YHf]
  try simp only[Yc,YHf,YHh,reduceCtorEq,YHg]
  refine⟨l,⟨self,hn⟩,?_⟩
  (try simp only[Yc,YHf,YHh,reduceCtorEq,YHg])
  refine⟨fun hc=>?_,fun hc=>⟨fun hl=>?_,fun hl=>?_⟩⟩
  ·rw[jdgF,if_pos hc]at h;exact Yj h
  ·rw[jdgF,if_neg (by rw[hc];decide),if_pos (by omega)]at h;exact Yj h
  have hl:a.length=l.length:=by omega
  rw[jdgF,if_neg (by rw[hc];decide),if_neg (by omega)]at h
  obtain⟨h1,h2,h3,h4,h5⟩:=Ygv hc
  simp only at h1 h2 h3 h4 h5
  refine Loop.keep [0,0,0,0,5,20,0] Nat (fun i=>[(32,.int .i64 i)]) (fun _=>[]) [] (fun i=>i<=a.length/\∀j,j<i->farB ⟨W,H,K⟩ l l.length a j=false) (fun i=>a.length-i) ?_ ?_
  ·refine⟨0,⟨YHK _,fun j h=>by omega⟩,?_⟩
   dsimp only[go_sem,reduceIte,YHf]
   simp only[Ya]
   exact⟨by decide,rfl⟩
  rintro i ⟨hi,ha⟩
  dsimp only[Yur,soutC,encK,Yi3,YHj,go_sem,reduceIte,YHf]
  simp only[Yc,YHf,YHh,reduceCtorEq,YHg]
  have w1:i<a.length->IntKind.i64.wrap (W-(l.getD i default).w)=W-(l.getD i default).w:=fun hlt=>YHi _ (by have:=h5 i (by omega);omega)
  have w2:i<a.length->IntKind.i64.wrap (H-(l.getD i default).h)=H-(l.getD i default).h:=fun hlt=>YHi _ (by have:=h5 i (by omega);omega)
  refine⟨fun hlt=>?_,fun hge=>?_⟩
  ·rw[w1 (by omega),w2 (by omega)]
   refine⟨⟨by omega,hlt⟩,fun _=>⟨by omega,by omega⟩,fun _=>⟨by omega,by omega⟩,fun hb=>?_,fun hb=>?_⟩
   ·rw[if_pos (rng_any.2 ⟨i,by omega,hb⟩)]at h;exact Yj h
   ·refine⟨i+1,⟨by omega,fun j hj=>?_⟩,by omega,?_⟩
    ·rcases YHA j i with h'|h'
     ·exact ha j h'
     ·obtain rfl:j=i:=by omega
      exact hb
    ·rw[YHi ((i:Int)+1) (by omega)]
     simp only[Ya]
     exact⟨by decide,rfl⟩
  obtain rfl:i=a.length:=by omega
  clear hge w1 w2 hi
  rw[if_neg (by rw[YdF ha];exact Bool.false_ne_true)]at h
  refine Loop.keep [0,0,0,0,80,0] Nat (fun i=>[(86,.int .i64 i)]) (fun _=>[]) [] (fun i=>i<=a.length/\∀j,j<i->∀m,m<j->YsH ⟨W,H,K⟩ l a j m=false) (fun i=>a.length-i) ?_ ?_
  ·refine⟨0,⟨YHK _,fun j h=>by omega⟩,?_⟩
   dsimp only[go_sem,reduceIte,YHf]
   simp only[Ya]
   exact⟨by decide,rfl⟩
  rintro i ⟨hi,hb⟩
  dsimp only[encK,Yi3,YHj,go_sem,reduceIte,YHf]
  simp only[Yc,YHf,YHh,reduceCtorEq,YHg]
  refine⟨fun hlt=>⟨⟨by omega,hlt⟩,⟨by omega,by omega⟩,?_⟩,fun hge=>?_⟩
  ·refine Loop.keep [0,0,0,0,8,0,70,0,0,6,0] Nat (fun m=>[(95,.int .i64 m)]) (fun _=>[]) [] (fun m=>m<=i/\∀q,q<m->YsH ⟨W,H,K⟩ l a i q=false) (fun m=>i-m) ?_ ?_
   ·refine⟨0,⟨YHK _,fun j h=>by omega⟩,?_⟩
    dsimp only[go_sem,reduceIte,YHf]
    simp only[Ya]
    exact⟨by decide,by decide,rfl⟩
   rintro m ⟨hm,hq⟩
   have bx:∀j,j<a.length->(0<=(a.getD j default).x/\(a.getD j default).x<=20000000)/\0<=(a.getD j default).y/\(a.getD j default).y<=20000000:=fun j hj=>by
    have h6:=ha j hj
    have h7:=h5 j (by omega)
    unfold farB at h6
    simp only[YHp,decide_eq_false_iff_not]at h6
    omega
   have wv:∀x w:Int,0<=x->x<=20000000->1<=w->w<=20000000->IntKind.i64.wrap (IntKind.i64.wrap (x+w)+K)=x+w+K:=fun x w a1 a2 a3 a4=>by
    rw[YHi (x+w) (by omega),YHi _ (by omega)]
   dsimp only[encK,Yi3,YHj,go_sem,reduceIte,YHf]
   simp only[Yc,YHf,YHh,reduceCtorEq,YHg]
   refine⟨fun hmi=>?_,fun hmi=>?_⟩
   ·have b1:=bx i (by omega)
    have b2:=bx m (by omega)
    have c1:=h5 i (by omega)
    have c2:=h5 m (by omega)
    rw[wv _ _ b2.1.1 b2.1.2 c2.1.1 c2.1.2,wv _ _ b1.1.1 b1.1.2 c1.1.1 c1.1.2,wv _ _ b2.2.1 b2.2.2 c2.2.1 c2.2.2,wv _ _ b1.2.1 b1.2.2 c1.2.1 c1.2.2]
    refine⟨⟨by omega,hmi⟩,fun _=>⟨by omega,by omega⟩,fun _=>⟨by omega,by omega⟩,fun _=>⟨by omega,by omega⟩,fun _=>⟨by omega,by omega⟩,fun he=>?_,fun he=>?_⟩
    ·rw[if_pos (rng_any.2 ⟨i,by omega,rng_any.2 ⟨m,by omega,he⟩⟩)]at h;exact Yj h
    ·refine⟨m+1,⟨by omega,fun q hqm=>?_⟩,by omega,?_⟩
     ·rcases YHA q m with h'|h'
      ·exact hq q h'
      ·obtain rfl:q=m:=by omega
       exact he
     ·rw[YHi ((m:Int)+1) (by omega)]
      simp only[Ya]
      exact⟨by decide,by decide,rfl⟩
   ·refine⟨i+1,⟨by omega,fun j hj=>?_⟩,by omega,?_⟩
    ·rcases YHA j i with h'|h'
     ·exact hb j h'
     ·obtain rfl:j=i:=by omega
      intro q hqj
      exact hq q (by omega)
    ·rw[YHi ((i:Int)+1) (by omega)]
     simp only[Ya]
     exact⟨by decide,rfl⟩
  ·obtain rfl:i=a.length:=by omega
   rw[if_neg]at h
   ·exact Yj h
   ·rw[YdF fun i hi=>YdF fun m hm=>hb i hi m hm];exact Bool.false_ne_true
 ·exact h.1.elim
end Go.Proofs.YtlfhmpkopcnheaaGreat
namespace Go.Proofs.YtlfhmpkopcnheaaGreat
open Go Go.Vx Go.Sort
set_option maxRecDepth 100000
set_option maxHeartbeats 4000000
structure Job where
 W:Int
 H:Int
 K:Int
 z:Bool
 l:List Cut
def Job.sv(J:Job):SV:= .agg [.int .i64 J.W,.int .i64 J.H,.int .i64 J.K,.vs false J.z J.l.length 2 (fun k=>encK (J.l.getD k default))]
def cmpV(J:Job):SV:= .fn (.func 38) [J.sv] []
def Rn(J:Job)(d:Array Int):Prop:=d.size<=1000000/\∀k,k<d.size->0<=d[k]! /\d[k]! <J.l.length
theorem Yo7(J:Job):Ylm (cmpV J):=⟨⟨⟨trivial,trivial,trivial,(fun k _=>⟨trivial,trivial,trivial⟩),trivial⟩,trivial⟩,trivial⟩
theorem Rn.swp{J:Job}{d:Array Int}(h:Rn J d){i j:Nat}(hi:i<d.size)(hj:j<d.size):Rn J (swp d i j):=by
 refine⟨by rw[size_swp];exact h.1,fun k hk=>?_⟩
 rw[size_swp]at hk
 rw[swp_get d hi hj]
 split
 ·exact h.2 _ hi
 ·split
  ·exact h.2 _ hj
  ·exact h.2 _ hk
theorem Rn.perm{J:Job}{d d':Array Int}(h:Rn J d){a b:Nat}(hb:b<=d.size)(hp:PermIn a b d d'):Rn J d':=by
 refine⟨by rw[hp.1];exact h.1,fun k hk=>?_⟩
 rw[hp.1]at hk
 by_cases hc:k<a\/b<=k
 ·rw[hp.2.1 k hc];exact h.2 k hk
 ·exact permIn_all d d' a b (fun x=>0<=x/\x<J.l.length) hb hp (fun i _ hi=>h.2 i (by omega)) k (by omega) (by omega)
theorem YU{d:Array Int}{i j:Nat}(hi:i<d.size)(hj:j<d.size)(k:Nat):(if k=j then Y7 (if j=i then [SV.int .i64 d[j]!]else arrC d j) 0 [SV.int .i64 d[i]!]else if k=i then [SV.int .i64 d[j]!]else arrC d k)=arrC (swp d i j) k:=by
 unfold arrC
 rw[swp_get d hi hj]
 split
 ·rename_i h
  split <;> rfl
 ·split <;> rfl
theorem Ydy(J:Job)(n:Nat):bnd n J.sv:=⟨trivial,trivial,trivial,trivial,trivial⟩
theorem YcY(J:Job)(n:Nat):bnd n J.sv=True:=eq_true ⟨trivial,trivial,trivial,trivial,trivial⟩
theorem Yk(m n:Nat)(d:Array Int)(k:Nat):leL m n (arrC d k) (arrC d k)=True:=eq_true ⟨⟨rfl,rfl⟩,trivial⟩
theorem YcN(m n:Nat)(d:Array Int)(k:Nat):leL m n [.int .i64 d[k]!] (arrC d k)=True:=eq_true ⟨⟨rfl,rfl⟩,trivial⟩
def v101:VF:=⟨53,[],(ZR [Zm 10 1,Zp 11 10 1,Zm 8 11] (.block 0 (.loop (.seq (ZR [Zm 12 8,Zm 13 2,Zr 14 .lss 12 13] (ZC 14 .skip (.exit 0))) (.seq (.block 1 (ZR [Zm 17 8,Zm 9 17] (.block 2 (.loop (.seq (.seq (.draw [] [Zu 18 9,Zu 19 1,w1 20 (.cmp .gtr) [.tm 18,.tm 19],Zu 21 20,⟨Zg 22 21 true 3,[]⟩,⟨Zg 23 21 true 0,[]⟩,⟨Zg 24 21 true 9,[]⟩,⟨u2 25 21 true (.idxAddr 1) [.tm 23,.tm 24],[]⟩,⟨Zh 26 21 true 1 25,[]⟩,⟨Zg 27 21 true 0,[]⟩,⟨Zg 28 21 true 9,[]⟩,⟨u2 29 21 true (.ari .sub) [.tm 28,.cn (.int .i64 1)],[]⟩,⟨u2 30 21 true (.idxAddr 1) [.tm 27,.tm 29],[]⟩,⟨Zh 31 21 true 1 30,[]⟩,⟨u2 32 21 true .callv [.tm 22,.tm 26,.tm 31],[]⟩,⟨u2 33 21 true (.cmp .lss) [.tm 32,.cn (.int .i64 0)],[]⟩,w1 34 .and [.tm 21,.tm 33]]) (ZC 34 .skip (.exit 2))) (.seq (.block 3 (.draw [] [Zu 37 0,Zu 38 9,Zu 39 0,Zu 40 9,w1 41 (.ari .sub) [.tm 40,.cn (.int .i64 1)],Zu 42 0,Zu 43 9,w1 44 (.ari .sub) [.tm 43,.cn (.int .i64 1)],ZX 45 1 42 44,Zv 46 1 45,Zu 47 0,Zu 48 9,ZX 49 1 47 48,Zv 50 1 49,ZX 51 1 37 38,ZS 1 51 46,ZX 52 1 39 41,ZS 1 52 50])) (.region [Zm 35 9,u1 36 (.ari .sub) [.tm 35,.cn (.int .i64 1)],Zm 9 36]))))))) (.region [Zm 15 8,Zp 16 15 1,Zm 8 16]))))))⟩
theorem YBi:Ye YHk Tryz.f101=some v101:=by kernel_rfl
def srtA(J:Job)(rest:List SV)(d:Array Int):Prop:=
 match rest with
 | [.int .i64 a,.int .i64 b,f]=>f=cmpV J/\0<=a/\a<=b/\b<=d.size/\Rn J d
 |_=>False
def insR(J:Job)(rest:List SV)(d d':Array Int):Prop:=
 match rest with
 | [.int _ a,.int _ b,_]=>PermIn a.toNat b.toNat d d'/\SortedIn (ltS J.l) a.toNat b.toNat d'
 |_=>True
def insW(J:Job):WCtr:={ ρ:=Unit,res:=fun _=> .tup [],A:=srtA J,R:=fun rest d d' _=>insR J rest d d'}
theorem Yty{J:Job}{rest:List SV}{d:Array Int}(h:srtA J rest d):YbC rest:=by
 unfold srtA at h
 split at h
 ·obtain⟨rfl,_⟩:=h;exact⟨trivial,trivial,Yo7 J,trivial⟩
 ·exact h.elim
def SE1:Env:={ ct:=fun n=>match n with|38=>some befC|_=>none,fn:=fun _=>none,meth:=fun _ _=>none}
theorem Yis:SE1.ct 38=some befC:=rfl
theorem YCQ:Yn YHk SE1:=by
 refine⟨fun f c h=>?_,fun f vf h=>?_,(fun _ _ _ h=>by cases h),by kernel_rfl,(fun _ h=>by cases h),(fun _ _ h=>by cases h)⟩
 ·simp only[SE1]at h
  split at h
  ·cases h;exact⟨YlQ,Tryz.f38,Tryz.func38,by kernel_rfl,by kernel_rfl⟩
  ·cases h
 ·cases h
theorem ins_w(J:Job):(insW J).ok YHk 101:=by
 refine Yag Tryz.func101 YBi YCQ 600 (insW J) (fun _=>rfl) (fun rest d h=>Yty h) fun rest d z hA=>?_
 replace hA:srtA J rest d:=hA
 unfold srtA at hA
 split at hA
 ·rename_i a b f
  obtain⟨rfl,ha,hab,hb,hR⟩:=hA
  obtain⟨a,rfl⟩:=YHv ha
  obtain⟨b,rfl⟩:=YHv (show(0:Int)<=b by omega)
  dsimp only[v101,Yis,cmpV,insW,go_sem,reduceIte,YHf]
  simp only[Yc,YHf,YHh,reduceCtorEq,YHg]
  refine Loop.keep [0,0,0,0] (Nat×Array Int) (fun s=>[(8,.int .i64 s.1)]) (fun s=>[(0,.own z 1 d.size (arrC s.2))]) [] (fun s=>a<s.1/\s.1<=d.size+1/\s.2.size=d.size/\Rn J s.2/\insOuter (ltS J.l) a b s.1 s.2=insertionSort (ltS J.l) d a b) (fun s=>d.size+1-s.1) ?_ ?_
  ·refine⟨(a+1,d),⟨by omega,by omega,rfl,hR,rfl⟩,?_⟩
   dsimp only[go_sem,reduceIte,YHf]
   simp only[Ya]
   rw[YcY,YHi ((a:Int)+1) (by have:=hR.1;omega)]
   exact⟨⟨by decide,trivial,rfl⟩,by decide,fun k hk=>of_eq_true (Yk _ _ _ _)⟩
  rintro⟨i,e⟩ ⟨hai,hin,hes,hRe,heq⟩
  replace hai:a<i:=hai
  replace hin:i<=d.size+1:=hin
  replace hes:e.size=d.size:=hes
  replace hRe:Rn J e:=hRe
  replace heq:insOuter (ltS J.l) a b i e=insertionSort (ltS J.l) d a b:=heq
  dsimp only[Yis,go_sem,reduceIte,YHf]
  simp only[Yc,YHf,YHh,reduceCtorEq,YHg]
  refine⟨fun hib=>?_,fun hib=>?_⟩
  ·refine Loop.keep [0,0,0,0,4] (Nat×Array Int) (fun s=>[(9,.int .i64 s.1)]) (fun s=>[(0,.own z 1 d.size (arrC s.2))]) [] (fun s=>s.1<=i/\s.2.size=d.size/\Rn J s.2/\insInner (ltS J.l) a s.1 s.2=insInner (ltS J.l) a i e) (fun s=>s.1) ?_ ?_
   ·refine⟨(i,e),⟨YHr _,hes,hRe,rfl⟩,?_⟩
    dsimp only[go_sem,reduceIte,YHf]
    simp only[Ya]
    rw[YcY]
    exact⟨⟨by decide,trivial⟩,by decide,fun k hk=>of_eq_true (Yk _ _ _ _)⟩
   rintro⟨j,g⟩ ⟨hji,hgs,hRg,hgq⟩
   replace hji:j<=i:=hji
   replace hgs:g.size=d.size:=hgs
   replace hRg:Rn J g:=hRg
   replace hgq:insInner (ltS J.l) a j g=insInner (ltS J.l) a i e:=hgq
   have hN:=hR.1
   have hin':i<d.size:=by omega
   have hw:a<j->IntKind.i64.wrap ((j:Int)-1)=((j-1:Nat):Int):=fun h=>by rw[YHi ((j:Int)-1) (by omega)];omega
   dsimp only[arrC,Yis,befC,Job.sv,encK,YHj,go_sem,reduceIte,YHf]
   simp only[Yc,YHf,YHh,reduceCtorEq,YHg]
   refine⟨fun h=>⟨by omega,by omega⟩,fun h=>by omega,fun h=>by rw[hw (by omega)];omega,fun h=>by rw[hw (by omega)];omega,J.l,fun h=>⟨⟨rfl,rfl,fun k _=>⟨⟨rfl,rfl⟩,⟨rfl,rfl⟩,trivial⟩⟩,?_,?_⟩,fun hc=>?_,fun hc=>?_⟩
   ·exact hRg.2 j (by omega)
   ·rw[hw (by omega)];exact hRg.2 (j-1) (by omega)
   ·simp only[YHn,decide_eq_true_eq]at hc
    obtain⟨hc1,hc2⟩:=hc
    have hja:a<j:=by omega
    rw[hw hja]at hc2⊢
    rw[YHj]at hc2⊢
    obtain⟨m,rfl⟩:∃m,j=m+1:=⟨j-1,by omega⟩
    rw[Nat.add_sub_cancel]at hc2⊢
    refine⟨⟨by omega,by omega⟩,by omega,⟨by omega,by omega⟩,by omega,⟨by omega,by omega⟩,by omega,⟨by omega,by omega⟩,by omega,(m,swp g (m+1) m),⟨by omega,by rw[size_swp];exact hgs,hRg.swp (by omega) (by omega),?_⟩,by show m<m+1;omega,?_⟩
    ·rw[<-hgq]
     show _=if m+1>a&&ltS J.l g[m+1]! g[m]! then insInner (ltS J.l) a m (swp g (m+1) m)else g
     rw[if_pos (by rw[YHn];exact⟨decide_eq_true hja,decide_eq_true hc2⟩)]
    ·simp only[Ya]
     refine⟨by decide,by decide,fun k hk=>?_⟩
     have:=YU (d:=g) (i:=m+1) (j:=m) (by omega) (by omega) k
     unfold arrC at this
     rw[this]
     exact of_eq_true (YcN _ _ _ _)
   ·have hst:insInner (ltS J.l) a j g=g:=by
     cases j with
     |zero=>rfl
     |succ m=>
      show(if m+1>a&&ltS J.l g[m+1]! g[m]! then insInner (ltS J.l) a m (swp g (m+1) m)else g)=g
      rw[if_neg]
      intro hcc
      rw[YHn,decide_eq_true_eq]at hcc
      have hja:a<m+1:=hcc.1
      rw[hw hja,YHj,Nat.add_sub_cancel]at hc
      rw[Bool.and_eq_false_iff,decide_eq_false_iff_not]at hc
      rcases hc with hc|hc
      ·omega
      ·have h2:decide (befS J.l g[m+1]! g[m]! <0)=true:=hcc.2
       rw[h2]at hc;cases hc
    refine⟨(i+1,g),⟨by show a<i+1;omega,by show i+1<=_;omega,hgs,hRg,?_⟩,by show d.size+1-(i+1)<_;omega,?_⟩
    ·rw[<-heq,insOuter.eq_def (ltS J.l) a b i e,if_pos (by omega),<-hgq,hst]
    ·rw[YHi ((i:Int)+1) (by omega)]
     simp only[Ya]
     exact⟨⟨by decide,rfl⟩,by decide,fun k hk=>of_eq_true (Yk _ _ _ _)⟩
  ·rw[insOuter.eq_def,if_neg (by omega)]at heq
   refine⟨e,(),arrC e,[],rfl,fun _ _=>rfl,hes,?_⟩
   show PermIn (YH0 a) (YH0 b) d e/\SortedIn (ltS J.l) (YH0 a) (YH0 b) e
   rw[heq]
   exact insertionSort_holds (Y5 J.l) d a b (by omega) (by omega)
 ·exact hA.elim
def v107:VF:=⟨90,[.tmp 10],(ZR [Zi 10 0] (.seq (.draw [] [Zu 13 0,Zu 14 1,Zu 15 0,Zu 16 3,Zu 17 0,Zu 18 3,ZX 19 1 17 18,Zv 20 1 19,Zu 21 0,Zu 22 1,ZX 23 1 21 22,Zv 24 1 23,ZX 25 1 13 14,ZS 1 25 20,ZX 26 1 15 16,ZS 1 26 24]) (ZR [Zm 27 1,Zp 28 27 1,Zm 29 2,u1 30 (.ari .sub) [.tm 29,.cn (.int .i64 1)],Zm 11 28,Zm 12 30] (.seq (.block 0 (.loop (.block 1 (.seq (.block 2 (.loop (.seq (.seq (.draw [] [Zu 31 11,Zu 32 12,w1 33 (.cmp .leq) [.tm 31,.tm 32],Zu 34 33,⟨Zg 35 34 true 4,[]⟩,⟨Zg 36 34 true 0,[]⟩,⟨Zg 37 34 true 1,[]⟩,⟨u2 38 34 true (.idxAddr 1) [.tm 36,.tm 37],[]⟩,⟨Zh 39 34 true 1 38,[]⟩,⟨Zg 40 34 true 0,[]⟩,⟨Zg 41 34 true 11,[]⟩,⟨u2 42 34 true (.idxAddr 1) [.tm 40,.tm 41],[]⟩,⟨Zh 43 34 true 1 42,[]⟩,⟨u2 44 34 true .callv [.tm 35,.tm 39,.tm 43],[]⟩,⟨u2 45 34 true (.cmp .lss) [.tm 44,.cn (.int .i64 0)],[]⟩,⟨u2 46 34 true .not [.tm 45],[]⟩,w1 47 .and [.tm 34,.tm 46]]) (ZC 47 .skip (.exit 2))) (.block 3 (.region [Zm 48 11,Zp 49 48 1,Zm 11 49]))))) (.seq (.block 4 (.loop (.seq (.seq (.draw [] [Zu 50 11,Zu 51 12,w1 52 (.cmp .leq) [.tm 50,.tm 51],Zu 53 52,⟨Zg 54 53 true 4,[]⟩,⟨Zg 55 53 true 0,[]⟩,⟨Zg 56 53 true 1,[]⟩,⟨u2 57 53 true (.idxAddr 1) [.tm 55,.tm 56],[]⟩,⟨Zh 58 53 true 1 57,[]⟩,⟨Zg 59 53 true 0,[]⟩,⟨Zg 60 53 true 12,[]⟩,⟨u2 61 53 true (.idxAddr 1) [.tm 59,.tm 60],[]⟩,⟨Zh 62 53 true 1 61,[]⟩,⟨u2 63 53 true .callv [.tm 54,.tm 58,.tm 62],[]⟩,⟨u2 64 53 true (.cmp .lss) [.tm 63,.cn (.int .i64 0)],[]⟩,w1 65 .and [.tm 53,.tm 64]]) (ZC 65 .skip (.exit 4))) (.block 5 (.region [Zm 66 12,u1 67 (.ari .sub) [.tm 66,.cn (.int .i64 1)],Zm 12 67]))))) (.seq (ZR [Zm 68 11,Zm 69 12,Zr 70 .gtr 68 69] (ZC 70 (.exit 0) .skip)) (.seq (.draw [] [Zu 71 0,Zu 72 11,Zu 73 0,Zu 74 12,Zu 75 0,Zu 76 12,ZX 77 1 75 76,Zv 78 1 77,Zu 79 0,Zu 80 11,ZX 81 1 79 80,Zv 82 1 81,ZX 83 1 71 72,ZS 1 83 78,ZX 84 1 73 74,ZS 1 84 82]) (ZR [Zm 85 11,Zp 86 85 1,Zm 11 86] (.region [Zm 87 12,u1 88 (.ari .sub) [.tm 87,.cn (.int .i64 1)],Zm 12 88]))))))))) (ZR [Zm 89 11,Zm 10 89] .ret)))))⟩
theorem YBo:Ye YHk Tryz.f107=some v107:=by kernel_rfl
def parA(J:Job)(rest:List SV)(d:Array Int):Prop:=
 match rest with
 | [.int .i64 a,.int .i64 b,.int .i64 p,f]=>f=cmpV J/\0<=a/\a<=p/\p<b/\b<=d.size/\Rn J d
 |_=>False
theorem YxD{J:Job}{rest:List SV}{d:Array Int}(h:parA J rest d):YbC rest:=by
 unfold parA at h
 split at h
 ·obtain⟨rfl,_⟩:=h;exact⟨trivial,trivial,trivial,Yo7 J,trivial⟩
 ·exact h.elim
def peqR(J:Job)(rest:List SV)(d d':Array Int)(x:Nat):Prop:=
 match rest with
 | [.int _ a,.int _ b,.int _ p,_]=>partitionEqual (ltS J.l) d a.toNat b.toNat p.toNat=(x,d')/\Rn J d'
 |_=>True
def peqW(J:Job):WCtr:={ ρ:=Nat,res:=fun x=> .int .i64 x,A:=parA J,R:=peqR J}
theorem Yeb{p:Int->Bool}{d:Array Int}{j i:Nat}(h:i<=j)(hp:p d[i]! =true):scanUp p d j i=scanUp p d j (i+1):=by
 rw[scanUp.eq_def,if_pos (by rw[hp,Bool.and_true];exact decide_eq_true h)]
theorem Yec{p:Int->Bool}{d:Array Int}{j i:Nat}(h:(decide (i<=j)&&p d[i]!)=false):scanUp p d j i=i:=by
 rw[scanUp.eq_def,if_neg (by rw[h];exact Bool.false_ne_true)]
theorem YcK{p:Int->Bool}{d:Array Int}{j i:Nat}(h:i<=j+1)(hp:p d[j+1]! =true):scanDown p d i (j+1)=scanDown p d i j:=by
 rw[scanDown,if_pos (by rw[hp,Bool.and_true];exact decide_eq_true h)]
theorem YcL{p:Int->Bool}{d:Array Int}{j i:Nat}(h:(decide (i<=j)&&p d[j]!)=false):scanDown p d i j=j:=by
 cases j with
 |zero=>rfl
 |succ j=>rw[scanDown,if_neg (by rw[h];exact Bool.false_ne_true)]
theorem YfE(i j:Nat):decide ((i:Int)<=(j:Int))=decide (i<=j):=by simp
def SE3:Env:={ ct:=fun n=>match n with|38=>some befC|_=>none,fn:=fun _=>none,meth:=fun _ _=>none}
theorem YmS:SE3.ct 38=some befC:=rfl
theorem YCS:Yn YHk SE3:=by
 refine⟨fun f c h=>?_,fun f vf h=>?_,(fun _ _ _ h=>by cases h),by kernel_rfl,(fun _ h=>by cases h),(fun _ _ h=>by cases h)⟩
 ·simp only[SE3]at h
  split at h
  ·cases h;exact⟨YlQ,Tryz.f38,Tryz.func38,by kernel_rfl,by kernel_rfl⟩
  ·cases h
 ·cases h
theorem peq_w(J:Job):(peqW J).ok YHk 107:=by
 refine Yag Tryz.func107 YBo YCS 600 (peqW J) (fun _=>rfl) (fun rest d h=>YxD h) fun rest d z hA=>?_
 replace hA:parA J rest d:=hA
 unfold parA at hA
 split at hA
 ·rename_i a b p f
  obtain⟨rfl,ha,hap,hpb,hb,hR⟩:=hA
  obtain⟨a,rfl⟩:=YHv ha
  obtain⟨p,rfl⟩:=YHv (show(0:Int)<=p by omega)
  obtain⟨b,rfl⟩:=YHv (show(0:Int)<=b by omega)
  have hN:=hR.1
  dsimp only[v107,cmpV,peqW,arrC,YHj,go_sem,reduceIte,YHf]
  simp only[Yc,YHf,YHh,reduceCtorEq,YHg]
  refine⟨⟨by omega,by omega⟩,by omega,⟨by omega,by omega⟩,by omega,⟨by omega,by omega⟩,by omega,⟨by omega,by omega⟩,by omega,?_⟩
  refine Loop.keep [0,0,0,1] (Nat×Nat×Array Int) (fun s=>[(11,.int .i64 s.1),(12,.int .i64 s.2.1)]) (fun s=>[(0,.own z 1 d.size (arrC s.2.2))]) [] (fun s=>a<s.1/\s.1<=b/\s.2.1<b/\s.2.2.size=d.size/\Rn J s.2.2/\partEqLoop (ltS J.l) a s.1 s.2.1 s.2.2=partitionEqual (ltS J.l) d a b p) (fun s=>s.2.1+1-s.1) ?_ ?_
  ·refine⟨(a+1,b-1,swp d a p),⟨by show a<a+1;omega,by show a+1<=b;omega,by show b-1<b;omega,size_swp _ _ _,hR.swp (by omega) (by omega),rfl⟩,?_⟩
   rw[YHi ((b:Int)-1) (by omega),YHi ((a:Int)+1) (by omega)]
   dsimp only[go_sem,reduceIte,YHf]
   simp only[Ya]
   rw[YcY]
   refine⟨⟨by decide,trivial,by omega,by omega⟩,by decide,fun k hk=>?_⟩
   have:=YU (d:=d) (i:=a) (j:=p) (by omega) (by omega) k
   unfold arrC at this
   rw[this]
   exact of_eq_true (YcN _ _ _ _)
  rintro⟨i,j,e⟩ ⟨hai,hib,hjb,hes,hRe,heq⟩
  replace hai:a<i:=hai
  replace hib:i<=b:=hib
  replace hjb:j<b:=hjb
  replace hes:e.size=d.size:=hes
  replace hRe:Rn J e:=hRe
  replace heq:partEqLoop (ltS J.l) a i j e=partitionEqual (ltS J.l) d a b p:=heq
  dsimp only[go_sem,reduceIte,YHf]
  try simp only[Yc,YHf,YHh,reduceCtorEq,YHg]
  refine Loop.keep [0,0,0,1,7] Nat (fun s=>[(11,.int .i64 s)]) (fun s=>[(0,.own z 1 d.size (arrC e))]) [] (fun s=>i<=s/\s<=b/\scanUp (fun x=>!ltS J.l e[a]! x) e j s=scanUp (fun x=>!ltS J.l e[a]! x) e j i) (fun s=>b-s) ?_ ?_
  ·refine⟨i,⟨YHr _,hib,rfl⟩,?_⟩
   dsimp only[go_sem,reduceIte,YHf]
   simp only[Ya]
   rw[YcY]
   exact⟨⟨by decide,trivial⟩,by decide,fun k hk=>of_eq_true (Yk _ _ _ _)⟩
  rintro i' ⟨hii,hib',hsu⟩
  dsimp only[arrC,YmS,befC,Job.sv,encK,YHj,go_sem,reduceIte,YHf]
  simp only[Yc,YHf,YHh,reduceCtorEq,YHg]
  refine⟨fun h=>⟨by omega,by omega⟩,fun h=>by omega,fun h=>⟨by omega,by omega⟩,fun h=>by omega,J.l,fun h=>⟨⟨rfl,rfl,fun k _=>⟨⟨rfl,rfl⟩,⟨rfl,rfl⟩,trivial⟩⟩,hRe.2 a (by omega),hRe.2 i' (by omega)⟩,fun hc=>?_,fun hc=>?_⟩
  ·rw[YfE]at hc
   have hc2:=hc
   simp only[YHn,decide_eq_true_eq]at hc2
   refine⟨i'+1,⟨by omega,by omega,by rw[<-hsu];exact(Yeb hc2.1 hc2.2).symm⟩,by omega,?_⟩
   rw[YHi ((i':Int)+1) (by omega)]
   simp only[Ya]
   exact⟨⟨by decide,rfl⟩,by decide,fun k hk=>of_eq_true (Yk _ _ _ _)⟩
  ·rw[YfE]at hc
   have hi2:scanUp (fun x=>!ltS J.l e[a]! x) e j i=i':=by rw[<-hsu];exact Yec hc
   clear hsu hc
   refine Loop.keep [0,0,0,1,6] Nat (fun s=>[(12,.int .i64 s)]) (fun s=>[(0,.own z 1 d.size (arrC e))]) [] (fun s=>s<=j/\scanDown (fun x=>ltS J.l e[a]! x) e i' s=scanDown (fun x=>ltS J.l e[a]! x) e i' j) (fun s=>s) ?_ ?_
   ·refine⟨j,⟨YHr _,rfl⟩,?_⟩
    dsimp only[go_sem,reduceIte,YHf]
    simp only[Ya]
    exact⟨by decide,by decide,fun k hk=>of_eq_true (Yk _ _ _ _)⟩
   rintro j' ⟨hjj,hsd⟩
   dsimp only[arrC,YmS,befC,Job.sv,encK,YHj,go_sem,reduceIte,YHf]
   simp only[Yc,YHf,YHh,reduceCtorEq,YHg]
   refine⟨fun h=>⟨by omega,by omega⟩,fun h=>by omega,fun h=>⟨by omega,by omega⟩,fun h=>by omega,J.l,fun h=>⟨⟨rfl,rfl,fun k _=>⟨⟨rfl,rfl⟩,⟨rfl,rfl⟩,trivial⟩⟩,hRe.2 a (by omega),hRe.2 j' (by omega)⟩,fun hc=>?_,fun hc=>?_⟩
   ·rw[YfE]at hc
    have hc2:=hc
    simp only[YHn,decide_eq_true_eq]at hc2
    obtain⟨m,rfl⟩:∃m,j'=m+1:=⟨j'-1,by omega⟩
    refine⟨m,⟨by omega,by rw[<-hsd];exact(YcK hc2.1 (decide_eq_true hc2.2)).symm⟩,by omega,?_⟩
    rw[YHi (((m+1:Nat):Int)-1) (by omega)]
    simp only[Ya]
    refine⟨⟨by decide,?_⟩,by decide,fun k hk=>of_eq_true (Yk _ _ _ _)⟩
    omega
   ·rw[YfE]at hc
    have hj2:scanDown (fun x=>ltS J.l e[a]! x) e i' j=j':=by rw[<-hsd];exact YcL hc
    clear hsd hc
    have hst:=partEqLoop_eq (lt:=ltS J.l) a i j e
    rw[hi2,hj2]at hst
    have hii':i<=i':=by rw[<-hi2];exact scanUp_ge _ _ _ _
    have hjj':j'<=j:=hjj
    refine⟨fun hlt=>⟨e,i',arrC e,[],rfl,rfl,fun _ _=>rfl,hes,?_⟩,fun hge=>⟨⟨by omega,by omega⟩,by omega,⟨by omega,by omega⟩,by omega,⟨by omega,by omega⟩,by omega,⟨by omega,by omega⟩,by omega,(i'+1,j'-1,swp e i' j'),⟨by show a<i'+1;omega,by show i'+1<=b;omega,by show j'-1<b;omega,by rw[size_swp];exact hes,hRe.swp (by omega) (by omega),?_⟩,by show(j'-1)+1-(i'+1)<j+1-i;omega,?_⟩⟩
    ·refine⟨?_,hRe⟩
     show partitionEqual (ltS J.l) d (YH0 a) (YH0 b) (YH0 p)=(i',e)
     rw[YHj,YHj,YHj,<-heq,hst,if_pos (by omega)]
    ·rw[<-heq,hst,if_neg (by omega)]
    ·rw[YHi ((i':Int)+1) (by omega),YHi ((j':Int)-1) (by omega)]
     simp only[Ya]
     refine⟨⟨by decide,by omega,by omega⟩,by decide,fun k hk=>?_⟩
     have:=YU (d:=e) (i:=i') (j:=j') (by omega) (by omega) k
     unfold arrC at this
     rw[this]
     exact of_eq_true (YcN _ _ _ _)
 ·exact hA.elim
def v106:VF:=⟨141,[.tmp 8],(ZR [u1 8 .mov [.cn (.bool false)]] (ZR [Zm 13 1,Zp 14 13 1,Zm 9 14] (.seq (ZR [Zi 10 0] (.block 0 (.loop (.seq (ZR [Zm 15 10,Zq 16 .lss 15 5] (ZC 16 .skip (.exit 0))) (.seq (.block 1 (.seq (.block 2 (.loop (.seq (.seq (.draw [] [Zu 19 9,Zu 20 2,w1 21 (.cmp .lss) [.tm 19,.tm 20],Zu 22 21,⟨Zg 23 22 true 3,[]⟩,⟨Zg 24 22 true 0,[]⟩,⟨Zg 25 22 true 9,[]⟩,⟨u2 26 22 true (.idxAddr 1) [.tm 24,.tm 25],[]⟩,⟨Zh 27 22 true 1 26,[]⟩,⟨Zg 28 22 true 0,[]⟩,⟨Zg 29 22 true 9,[]⟩,⟨u2 30 22 true (.ari .sub) [.tm 29,.cn (.int .i64 1)],[]⟩,⟨u2 31 22 true (.idxAddr 1) [.tm 28,.tm 30],[]⟩,⟨Zh 32 22 true 1 31,[]⟩,⟨u2 33 22 true .callv [.tm 23,.tm 27,.tm 32],[]⟩,⟨u2 34 22 true (.cmp .lss) [.tm 33,.cn (.int .i64 0)],[]⟩,⟨u2 35 22 true .not [.tm 34],[]⟩,w1 36 .and [.tm 22,.tm 35]]) (ZC 36 .skip (.exit 2))) (.block 3 (.region [Zm 37 9,Zp 38 37 1,Zm 9 38]))))) (.seq (ZR [Zm 39 9,Zm 40 2,Zr 41 .eql 39 40] (ZC 41 (ZR [u1 8 .mov [.cn (.bool true)]] .ret) .skip)) (.seq (ZR [Zm 42 2,Zm 43 1,Zo 44 .sub 42 43,Zq 45 .lss 44 50] (ZC 45 (ZR [u1 8 .mov [.cn (.bool false)]] .ret) .skip)) (.seq (.draw [] [Zu 46 0,Zu 47 9,Zu 48 0,Zu 49 9,w1 50 (.ari .sub) [.tm 49,.cn (.int .i64 1)],Zu 51 0,Zu 52 9,w1 53 (.ari .sub) [.tm 52,.cn (.int .i64 1)],ZX 54 1 51 53,Zv 55 1 54,Zu 56 0,Zu 57 9,ZX 58 1 56 57,Zv 59 1 58,ZX 60 1 46 47,ZS 1 60 55,ZX 61 1 48 50,ZS 1 61 59]) (.seq (ZR [Zm 62 9,Zm 63 1,Zo 64 .sub 62 63,Zq 65 .geq 64 2] (ZC 65 (ZR [Zm 66 9,u1 67 (.ari .sub) [.tm 66,.cn (.int .i64 1)],Zm 11 67] (.block 4 (.loop (.seq (ZR [Zm 68 11,Zq 69 .geq 68 1] (ZC 69 .skip (.exit 4))) (.seq (.block 5 (.seq (.seq (.draw [] [Zu 72 3,Zu 73 0,Zu 74 11,ZX 75 1 73 74,Zv 76 1 75,Zu 77 0,Zu 78 11,w1 79 (.ari .sub) [.tm 78,.cn (.int .i64 1)],ZX 80 1 77 79,Zv 81 1 80,w1 82 .callv [.tm 72,.tm 76,.tm 81],w1 83 (.cmp .lss) [.tm 82,.cn (.int .i64 0)],w1 84 .not [.tm 83]]) (ZC 84 (.exit 4) .skip)) (.draw [] [Zu 85 0,Zu 86 11,Zu 87 0,Zu 88 11,w1 89 (.ari .sub) [.tm 88,.cn (.int .i64 1)],Zu 90 0,Zu 91 11,w1 92 (.ari .sub) [.tm 91,.cn (.int .i64 1)],ZX 93 1 90 92,Zv 94 1 93,Zu 95 0,Zu 96 11,ZX 97 1 95 96,Zv 98 1 97,ZX 99 1 85 86,ZS 1 99 94,ZX 100 1 87 89,ZS 1 100 98]))) (.region [Zm 70 11,u1 71 (.ari .sub) [.tm 70,.cn (.int .i64 1)],Zm 11 71])))))) .skip)) (ZR [Zm 101 2,Zm 102 9,Zo 103 .sub 101 102,Zq 104 .geq 103 2] (ZC 104 (ZR [Zm 105 9,Zp 106 105 1,Zm 12 106] (.block 6 (.loop (.seq (ZR [Zm 107 12,Zm 108 2,Zr 109 .lss 107 108] (ZC 109 .skip (.exit 6))) (.seq (.block 7 (.seq (.seq (.draw [] [Zu 112 3,Zu 113 0,Zu 114 12,ZX 115 1 113 114,Zv 116 1 115,Zu 117 0,Zu 118 12,w1 119 (.ari .sub) [.tm 118,.cn (.int .i64 1)],ZX 120 1 117 119,Zv 121 1 120,w1 122 .callv [.tm 112,.tm 116,.tm 121],w1 123 (.cmp .lss) [.tm 122,.cn (.int .i64 0)],w1 124 .not [.tm 123]]) (ZC 124 (.exit 6) .skip)) (.draw [] [Zu 125 0,Zu 126 12,Zu 127 0,Zu 128 12,w1 129 (.ari .sub) [.tm 128,.cn (.int .i64 1)],Zu 130 0,Zu 131 12,w1 132 (.ari .sub) [.tm 131,.cn (.int .i64 1)],ZX 133 1 130 132,Zv 134 1 133,Zu 135 0,Zu 136 12,ZX 137 1 135 136,Zv 138 1 137,ZX 139 1 125 126,ZS 1 139 134,ZX 140 1 127 129,ZS 1 140 138]))) (.region [Zm 110 12,Zp 111 110 1,Zm 12 111])))))) .skip)))))))) (.region [Zm 17 10,Zp 18 17 1,Zm 10 18])))))) (ZR [u1 8 .mov [.cn (.bool false)]] .ret))))⟩
theorem YBn:Ye YHk Tryz.f106=some v106:=by kernel_rfl
def v104:VF:=⟨63,[.tmp 8,.tmp 9],(ZR [Zi 8 0,Zi 9 0] (ZR [Zm 15 2,Zm 16 1,Zo 17 .sub 15 16,Zm 10 17] (ZR [u1 11 (.alloc [(.int .i64 0)]) []] (ZR [Zm 18 1,Zm 19 10,u1 20 .quo [.tm 19,.cn (.int .i64 4)],u1 21 (.ari .mul) [.tm 20,.cn (.int .i64 1)],Zo 22 .add 18 21,Zm 12 22] (ZR [Zm 23 1,Zm 24 10,u1 25 .quo [.tm 24,.cn (.int .i64 4)],u1 26 (.ari .mul) [.tm 25,.cn (.int .i64 2)],Zo 27 .add 23 26,Zm 13 27] (ZR [Zm 28 1,Zm 29 10,u1 30 .quo [.tm 29,.cn (.int .i64 4)],u1 31 (.ari .mul) [.tm 30,.cn (.int .i64 3)],Zo 32 .add 28 31,Zm 14 32] (.seq (ZR [Zm 33 10,Zq 34 .geq 33 8] (ZC 34 (.seq (ZR [Zm 35 10,Zq 36 .geq 35 50] (ZC 36 (ZR [Zm 37 0,Zm 38 12,Zm 39 3,u1 40 (.call 124) [.tm 37,.tm 38,.tm 11,.tm 39],Zm 12 40] (ZR [Zm 41 0,Zm 42 13,Zm 43 3,u1 44 (.call 124) [.tm 41,.tm 42,.tm 11,.tm 43],Zm 13 44] (.region [Zm 45 0,Zm 46 14,Zm 47 3,u1 48 (.call 124) [.tm 45,.tm 46,.tm 11,.tm 47],Zm 14 48]))) .skip)) (.region [Zm 49 0,Zm 50 12,Zm 51 13,Zm 52 14,Zm 53 3,u1 54 (.call 125) [.tm 49,.tm 50,.tm 51,.tm 52,.tm 11,.tm 53],Zm 13 54])) .skip)) (ZR [Zf 55 1 11] (.block 0 (ZR [Zq 58 .eql 55 0,Zm 57 58] (ZC 57 (ZR [Zm 59 13,Zm 8 59,Zi 9 1] .ret) (ZR [Zq 61 .eql 55 12,Zm 60 61] (ZC 60 (ZR [Zm 62 13,Zm 8 62,Zi 9 2] .ret) (ZR [Zm 56 13,Zm 8 56,Zi 9 0] .ret))))))))))))))⟩
theorem YBl:Ye YHk Tryz.f104=some v104:=by kernel_rfl
def v125:VF:=⟨41,[.tmp 12],(ZR [Zi 12 0] (ZR [Zm 14 0,Zm 15 1,Zm 16 2,Zm 17 4,Zm 18 5,u1 19 (.call 137) [.tm 14,.tm 15,.tm 16,.tm 17,.tm 18],Zm 13 19,Ze 20 0 13,Ze 21 1 13,Zm 1 20,Zm 2 21] (ZR [Zm 23 0,Zm 24 2,Zm 25 3,Zm 26 4,Zm 27 5,u1 28 (.call 137) [.tm 23,.tm 24,.tm 25,.tm 26,.tm 27],Zm 22 28,Ze 29 0 22,Ze 30 1 22,Zm 2 29,Zm 3 30] (ZR [Zm 32 0,Zm 33 1,Zm 34 2,Zm 35 4,Zm 36 5,u1 37 (.call 137) [.tm 32,.tm 33,.tm 34,.tm 35,.tm 36],Zm 31 37,Ze 38 0 31,Ze 39 1 31,Zm 1 38,Zm 2 39] (ZR [Zm 40 2,Zm 12 40] .ret)))))⟩
theorem YBC:Ye YHk Tryz.f125=some v125:=by kernel_rfl
def v137:VF:=⟨32,[.tmp 10,.tmp 11],(ZR [Zi 10 0,Zi 11 0] (.seq (.seq (.draw [] [Zu 12 4,Zu 13 0,Zu 14 2,ZX 15 1 13 14,Zv 16 1 15,Zu 17 0,Zu 18 1,ZX 19 1 17 18,Zv 20 1 19,w1 21 .callv [.tm 12,.tm 16,.tm 20],w1 22 (.cmp .lss) [.tm 21,.cn (.int .i64 0)]]) (ZC 22 (ZR [Zm 23 3,u1 24 .nilCheck [.tm 23],Zf 25 1 24,Zp 26 25 1,u1 27 .nilCheck [.tm 23],Zs 1 27 26] (ZR [Zm 28 2,Zm 29 1,Zm 10 28,Zm 11 29] .ret)) .skip)) (ZR [Zm 30 1,Zm 31 2,Zm 10 30,Zm 11 31] .ret)))⟩
theorem YBN:Ye YHk Tryz.f137=some v137:=by kernel_rfl
def shA'(J:Job)(rest:List SV)(d:Array Int):Prop:=
 match rest with
 | [.int .i64 a,.int .i64 b,f]=>f=cmpV J/\0<=a/\a<b/\b<=d.size/\b-a<50/\Rn J d
 |_=>False
theorem YA8{J:Job}{rest:List SV}{d:Array Int}(h:shA' J rest d):YbC rest:=by
 unfold shA' at h
 split at h
 ·obtain⟨rfl,_⟩:=h;exact⟨trivial,trivial,Yo7 J,trivial⟩
 ·exact h.elim
def pinR(J:Job)(rest:List SV)(d d':Array Int)(x:Bool):Prop:=
 match rest with
 | [.int _ a,.int _ b,_]=>d'=d/\(x=true->SortedIn (ltS J.l) a.toNat b.toNat d)
 |_=>True
def pinW(J:Job):WCtr:={ ρ:=Bool,res:=fun x=> .bool x,A:=shA' J,R:=pinR J}
def SE7:Env:={ ct:=fun n=>match n with|38=>some befC|_=>none,fn:=fun _=>none,meth:=fun _ _=>none}
theorem YuU:SE7.ct 38=some befC:=rfl
theorem YCW:Yn YHk SE7:=by
 refine⟨fun f c h=>?_,fun f vf h=>?_,(fun _ _ _ h=>by cases h),by kernel_rfl,(fun _ h=>by cases h),(fun _ _ h=>by cases h)⟩
 ·simp only[SE7]at h
  split at h
  ·cases h;exact⟨YlQ,Tryz.f38,Tryz.func38,by kernel_rfl,by kernel_rfl⟩
  ·cases h
 ·cases h
theorem pin_w(J:Job):(pinW J).ok YHk 106:=by
 refine Yag Tryz.func106 YBn YCW 900 (pinW J) (fun _=>rfl) (fun rest d h=>YA8 h) fun rest d z hA=>?_
 replace hA:shA' J rest d:=hA
 unfold shA' at hA
 split at hA
 ·rename_i a b f
  obtain⟨rfl,ha,hab,hb,hlen,hR⟩:=hA
  obtain⟨a,rfl⟩:=YHv ha
  obtain⟨b,rfl⟩:=YHv (show(0:Int)<=b by omega)
  have hN:=hR.1
  dsimp only[v106,cmpV,pinW,go_sem,reduceIte,YHf]
  try simp only[Yc,YHf,YHh,reduceCtorEq,YHg]
  refine Loop.keep [0,0,0,0] Unit (fun _=>[(9,.int .i64 ((a+1:Nat):Int)),(10,.int .i64 0)]) (fun _=>[(0,.own z 1 d.size (arrC d))]) [] (fun _=>True) (fun _=>0) ?_ ?_
  ·refine⟨(),trivial,?_⟩
   rw[YHi ((a:Int)+1) (by omega)]
   dsimp only[go_sem,reduceIte,YHf]
   simp only[Ya]
   exact⟨⟨by decide,Ydy J 1,by omega⟩,by decide,fun k hk=>of_eq_true (Yk _ _ _ _)⟩
  rintro⟨⟩ -
  dsimp only[go_sem,reduceIte,YHf]
  try simp only[Yc,YHf,YHh,reduceCtorEq,YHg]
  refine⟨fun _=>?_,fun h=>absurd (show(0:Int)<5 by decide) h⟩
  refine Loop.keep [0,0,0,0,6] Nat (fun s=>[(9,.int .i64 s)]) (fun _=>[(0,.own z 1 d.size (arrC d))]) [] (fun i=>a<i/\i<=b/\SortedIn (ltS J.l) a i d) (fun i=>b-i) ?_ ?_
  ·refine⟨a+1,⟨by omega,by omega,fun i j h1 h2 h3=>by omega⟩,?_⟩
   dsimp only[go_sem,reduceIte,YHf]
   simp only[Ya]
   exact⟨⟨by decide,Ydy J 1⟩,by decide,fun k hk=>of_eq_true (Yk _ _ _ _)⟩
  rintro i ⟨hai,hib,hs⟩
  have w1:IntKind.i64.wrap ((i:Int)-1)=((i-1:Nat):Int):=by rw[YHi _ (by omega)];omega
  have w2:IntKind.i64.wrap ((b:Int)-(a:Int))=((b-a:Nat):Int):=by rw[YHi _ (by omega)];omega
  dsimp only[arrC,YuU,befC,Job.sv,encK,YHj,go_sem,reduceIte,YHf]
  simp only[Yc,YHf,YHh,reduceCtorEq,YHg]
  rw[w1,YHj]
  refine⟨fun h=>⟨by omega,by omega⟩,fun h=>by omega,fun h=>⟨by omega,by omega⟩,fun h=>by omega,J.l,fun h=>⟨⟨rfl,rfl,fun k _=>⟨⟨rfl,rfl⟩,⟨rfl,rfl⟩,trivial⟩⟩,hR.2 _ (by omega),hR.2 _ (by omega)⟩,fun hc=>?_,fun hc=>?_⟩
  ·rw[YHn,decide_eq_true_eq,YHD]at hc
   refine⟨i+1,⟨by omega,by omega,hs.snoc (Y5 J.l) hc.2⟩,by omega,?_⟩
   rw[YHi ((i:Int)+1) (by omega)]
   simp only[Ya]
   exact⟨⟨by decide,rfl⟩,by decide,fun k hk=>of_eq_true (Yk _ _ _ _)⟩
  ·rw[w2]
   refine⟨fun he=>?_,fun he=>⟨fun _=>?_,fun h=>?_⟩⟩
   ·obtain rfl:i=b:=by omega
    refine⟨d,true,arrC d,[],rfl,rfl,fun _ _=>rfl,rfl,?_⟩
    show d=d/\(true=true->SortedIn (ltS J.l) (YH0 a) (YH0 i) d)
    exact⟨rfl,fun _=>hs⟩
   ·refine⟨d,false,arrC d,[],rfl,rfl,fun _ _=>rfl,rfl,?_⟩
    show d=d/\(false=true->SortedIn (ltS J.l) (YH0 a) (YH0 b) d)
    exact⟨rfl,fun h=>by cases h⟩
   ·omega
 ·exact hA.elim
def pivR(rest:List SV)(d d':Array Int)(x:Nat×Int):Prop:=
 match rest with
 | [.int _ a,.int _ b,_]=>d'=d/\a.toNat<=x.1/\x.1<b.toNat
 |_=>True
def pivW(J:Job):WCtr:={ ρ:=Nat×Int,res:=fun x=> .tup [.int .i64 x.1,.int .i64 x.2],A:=shA' J,R:=pivR}
def SE8:Env:={ ct:=fun n=>match n with|38=>some befC|_=>none,fn:=fun n=>match n with|125=>some v125|137=>some v137|_=>none,meth:=fun _ _=>none}
theorem YuV:SE8.ct 38=some befC:=rfl
theorem Yqo:SE8.ct 125=none:=rfl
theorem Yqq:SE8.fn 125=some v125:=rfl
theorem Yqp:SE8.ct 137=none:=rfl
theorem Yqr:SE8.fn 137=some v137:=rfl
theorem YCX:Yn YHk SE8:=by
 refine⟨fun f c h=>?_,fun f vf h=>?_,(fun _ _ _ h=>by cases h),by kernel_rfl,(fun _ h=>by cases h),(fun _ _ h=>by cases h)⟩
 ·simp only[SE8]at h
  split at h
  ·cases h;exact⟨YlQ,Tryz.f38,Tryz.func38,by kernel_rfl,by kernel_rfl⟩
  ·cases h
 ·simp only[SE8]at h
  split at h
  ·cases h;exact⟨Tryz.f125,Tryz.func125,YBC,Tryz.f125,Tryz.func125,by kernel_rfl,by kernel_rfl⟩
  ·cases h;exact⟨Tryz.f137,Tryz.func137,YBN,Tryz.f137,Tryz.func137,by kernel_rfl,by kernel_rfl⟩
  ·cases h
theorem piv_w(J:Job):(pivW J).ok YHk 104:=by
 refine Yag Tryz.func104 YBl YCX 900 (pivW J) (fun _=>rfl) (fun rest d h=>YA8 h) fun rest d z hA=>?_
 replace hA:shA' J rest d:=hA
 unfold shA' at hA
 split at hA
 ·rename_i a b f
  obtain⟨rfl,ha,hab,hb,hlen,hR⟩:=hA
  obtain⟨a,rfl⟩:=YHv ha
  obtain⟨b,rfl⟩:=YHv (show(0:Int)<=b by omega)
  have hN:=hR.1
  dsimp only[v104,v125,v137,YuV,Yqo,Yqq,Yqp,Yqr,befC,cmpV,Job.sv,encK,arrC,pivW,go_sem,reduceIte,YHf]
  try simp only[Yc,YHf,YHh,reduceCtorEq,YHg]
  obtain⟨L,hL⟩:∃L,L=b-a:=⟨_,rfl⟩
  have w0:IntKind.i64.wrap ((b:Int)-(a:Int))=(L:Int):=by rw[YHi _ (by omega)];omega
  have w4:IntKind.i64.wrap ((L:Int).tdiv 4)=((L/4:Nat):Int):=by
   rw[Int.tdiv_eq_ediv_of_nonneg (by omega),YHi _ (by omega)];omega
  rw[w0,w4]
  obtain⟨i1,h1⟩:∃i1,i1=a+L/4*1:=⟨_,rfl⟩
  obtain⟨i2,h2⟩:∃i2,i2=a+L/4*2:=⟨_,rfl⟩
  obtain⟨i3,h3⟩:∃i3,i3=a+L/4*3:=⟨_,rfl⟩
  have w1:IntKind.i64.wrap ((a:Int)+IntKind.i64.wrap (((L/4:Nat):Int)*1))=(i1:Int):=by rw[YHi (((L/4:Nat):Int)*1) (by omega),YHi _ (by omega)];omega
  have w2:IntKind.i64.wrap ((a:Int)+IntKind.i64.wrap (((L/4:Nat):Int)*2))=(i2:Int):=by rw[YHi (((L/4:Nat):Int)*2) (by omega),YHi _ (by omega)];omega
  have w3:IntKind.i64.wrap ((a:Int)+IntKind.i64.wrap (((L/4:Nat):Int)*3))=(i3:Int):=by rw[YHi (((L/4:Nat):Int)*3) (by omega),YHi _ (by omega)];omega
  rw[w1,w2,w3]
  simp only[YHj]
  have b1:a<=i1/\i1<b:=by omega
  have b2:a<=i2/\i2<b:=by omega
  have b3:a<=i3/\i3<b:=by omega
  clear w0 w1 w2 w3 w4 h1 h2 h3
  have hend:∀(i:Nat)(c:Int)(hs:List HO),a<=i/\i<b->∃(a':Array Int) (x:Nat×Int) (get':Nat->List SV) (hs':List HO),[SV.own 0 0 d.size 1,SV.tup [SV.int .i64 i,SV.int .i64 c]]=[SV.own 0 0 d.size 1,SV.tup [SV.int .i64 x.1,SV.int .i64 x.2]]/\HO.own z 1 d.size (arrC d)::hs=HO.own z 1 d.size get'::hs'/\(∀k,k<d.size->get' k=[SV.int .i64 a'[k]!])/\a'.size=d.size/\pivR [.int .i64 a,.int .i64 b,cmpV J] d a' x:=fun i c hs hi=>
   ⟨d,(i,c),arrC d,hs,rfl,rfl,fun _ _=>rfl,rfl,rfl,by show YH0 a<=i;omega,by show i<YH0 b;omega⟩
  refine⟨by decide,by decide,by decide,fun h8=>⟨fun h50=>by omega,fun h50=>?_⟩,fun h8=>?_⟩
  ·repeat' (first| (refine hend _ _ _ ?_;omega) |apply YHB| (intro _;skip) |refine⟨J.l,⟨⟨rfl,rfl,fun k _=>⟨⟨rfl,rfl⟩,⟨rfl,rfl⟩,trivial⟩⟩,hR.2 _ (by omega),hR.2 _ (by omega)⟩,?_⟩ |omega)
  ·repeat' (first| (refine hend _ _ _ ?_;omega) |apply YHB| (intro _;skip) |omega)
 ·exact hA.elim
def v105:VF:=⟨34,[],(ZR [Zm 10 1,Zm 8 10] (ZR [Zm 11 2,u1 12 (.ari .sub) [.tm 11,.cn (.int .i64 1)],Zm 9 12] (.block 0 (.loop (.seq (ZR [Zm 13 8,Zm 14 9,Zr 15 .lss 13 14] (ZC 15 .skip (.exit 0))) (.block 1 (.seq (.draw [] [Zu 16 0,Zu 17 8,Zu 18 0,Zu 19 9,Zu 20 0,Zu 21 9,ZX 22 1 20 21,Zv 23 1 22,Zu 24 0,Zu 25 8,ZX 26 1 24 25,Zv 27 1 26,ZX 28 1 16 17,ZS 1 28 23,ZX 29 1 18 19,ZS 1 29 27]) (ZR [Zm 30 8,Zp 31 30 1,Zm 8 31] (.region [Zm 32 9,u1 33 (.ari .sub) [.tm 32,.cn (.int .i64 1)],Zm 9 33])))))))))⟩
theorem YBm:Ye YHk Tryz.f105=some v105:=by kernel_rfl
def prmR(rest:List SV)(d d':Array Int):Prop:=
 match rest with
 | [.int _ a,.int _ b,_]=>PermIn a.toNat b.toNat d d'
 |_=>True
def revW(J:Job):WCtr:={ ρ:=Unit,res:=fun _=> .tup [],A:=srtA J,R:=fun rest d d' _=>prmR rest d d'}
def SE2:Env:={ ct:=fun _=>none,fn:=fun _=>none,meth:=fun _ _=>none}
theorem YCR:Yn YHk SE2:=by
 refine⟨fun f c h=>?_,fun f vf h=>?_,(fun _ _ _ h=>by cases h),by kernel_rfl,(fun _ h=>by cases h),(fun _ _ h=>by cases h)⟩
 ·cases h
 ·cases h
theorem rev_w(J:Job):(revW J).ok YHk 105:=by
 refine Yag Tryz.func105 YBm YCR 600 (revW J) (fun _=>rfl) (fun rest d h=>Yty h) fun rest d z hA=>?_
 replace hA:srtA J rest d:=hA
 unfold srtA at hA
 split at hA
 ·rename_i a b f
  obtain⟨rfl,ha,hab,hb,hR⟩:=hA
  obtain⟨a,rfl⟩:=YHv ha
  obtain⟨b,rfl⟩:=YHv (show(0:Int)<=b by omega)
  have hN:=hR.1
  dsimp only[v105,cmpV,revW,go_sem,reduceIte,YHf]
  simp only[Yc,YHf,YHh,reduceCtorEq,YHg]
  refine Loop.keep [0,0,0] (Nat×Int×Array Int) (fun s=>[(8,.int .i64 s.1),(9,.int .i64 s.2.1)]) (fun s=>[(0,.own z 1 d.size (arrC s.2.2))]) [] (fun s=>a<=s.1/\s.1<=b/\s.2.1<b/\ -1<=s.2.1/\s.2.2.size=d.size/\PermIn a b d s.2.2) (fun s=>d.size+1-s.1) ?_ ?_
  ·refine⟨(a,(b:Int)-1,d),⟨YHr _,by show a<=b;omega,by show(b:Int)-1<b;omega,by show -1<=(b:Int)-1;omega,rfl,permIn_refl _ _ _⟩,?_⟩
   rw[YHi ((b:Int)-1) (by omega)]
   dsimp only[go_sem,reduceIte,YHf]
   simp only[Ya]
   exact⟨by decide,by decide,fun k hk=>of_eq_true (Yk _ _ _ _)⟩
  rintro⟨i,j,e⟩ ⟨hai,hib,hjb,hj0,hes,hp⟩
  replace hai:a<=i:=hai
  replace hib:i<=b:=hib
  replace hjb:j<b:=hjb
  replace hj0: -1<=j:=hj0
  replace hes:e.size=d.size:=hes
  replace hp:PermIn a b d e:=hp
  dsimp only[arrC,YHj,go_sem,reduceIte,YHf]
  simp only[Yc,YHf,YHh,reduceCtorEq,YHg]
  refine⟨fun hij=>?_,fun hij=>?_⟩
  ·obtain⟨j,rfl⟩:=YHv (show(0:Int)<=j by omega)
   rw[YHj,YHi ((i:Int)+1) (by omega),YHi ((j:Int)-1) (by omega)]
   refine⟨⟨by omega,by omega⟩,by omega,⟨by omega,by omega⟩,by omega,⟨by omega,by omega⟩,by omega,⟨by omega,by omega⟩,by omega,(i+1,(j:Int)-1,swp e i j),⟨by show a<=i+1;omega,by show i+1<=b;omega,by show(j:Int)-1<b;omega,by show -1<=(j:Int)-1;omega,by rw[size_swp];exact hes,permIn_trans _ _ _ _ _ hp (swp_permIn e a b i j hai (by omega) (by omega) (by omega) (by omega))⟩,by show d.size+1-(i+1)<_;omega,?_⟩
   simp only[Ya]
   refine⟨⟨by decide,by simp⟩,by decide,fun k hk=>?_⟩
   have:=YU (d:=e) (i:=i) (j:=j) (by omega) (by omega) k
   unfold arrC at this
   rw[this]
   exact of_eq_true (YcN _ _ _ _)
  ·exact⟨e,(),arrC e,[],rfl,fun _ _=>rfl,hes,hp⟩
 ·exact hA.elim
def v103:VF:=⟨67,[],(ZR [Zm 13 2,Zm 14 1,Zo 15 .sub 13 14,Zm 8 15] (ZR [Zm 16 8,Zq 17 .geq 16 8] (ZC 17 (ZR [Zm 18 8,u1 19 (.conv .u64) [.tm 18],u1 9 (.alloc [(.int .u64 0)]) [],Zs 1 9 19] (ZR [Zm 20 8,Zc 21 122 20,Zm 10 21] (ZR [Zm 22 1,Zm 23 8,u1 24 .quo [.tm 23,.cn (.int .i64 4)],u1 25 (.ari .mul) [.tm 24,.cn (.int .i64 2)],Zo 26 .add 22 25,u1 27 (.ari .sub) [.tm 26,.cn (.int .i64 1)],Zm 11 27] (.block 0 (.loop (.seq (ZR [Zm 28 11,Zm 29 1,Zm 30 8,u1 31 .quo [.tm 30,.cn (.int .i64 4)],u1 32 (.ari .mul) [.tm 31,.cn (.int .i64 2)],Zo 33 .add 29 32,Zp 34 33 1,Zr 35 .leq 28 34] (ZC 35 .skip (.exit 0))) (.seq (.block 1 (ZR [Zc 38 123 9,Zm 39 10,u1 40 (.ari .sub) [.tm 39,.cn (.int .u64 1)],u1 41 (.bit .and) [.tm 38,.tm 40],u1 42 (.conv .i64) [.tm 41],Zm 12 42] (.seq (ZR [Zm 43 12,Zm 44 8,Zr 45 .geq 43 44] (ZC 45 (.region [Zm 46 12,Zm 47 8,Zo 48 .sub 46 47,Zm 12 48]) .skip)) (.draw [] [Zu 49 0,Zu 50 11,Zu 51 0,Zu 52 1,Zu 53 12,w1 54 (.ari .add) [.tm 52,.tm 53],Zu 55 0,Zu 56 1,Zu 57 12,w1 58 (.ari .add) [.tm 56,.tm 57],ZX 59 1 55 58,Zv 60 1 59,Zu 61 0,Zu 62 11,ZX 63 1 61 62,Zv 64 1 63,ZX 65 1 49 50,ZS 1 65 60,ZX 66 1 51 54,ZS 1 66 64])))) (.region [Zm 36 11,Zp 37 36 1,Zm 11 37])))))))) .skip)))⟩
theorem YBk:Ye YHk Tryz.f103=some v103:=by kernel_rfl
def v122:VF:=⟨7,[.tmp 2],(ZR [u1 2 .mov [.cn (.int .u64 0)]] (ZR [Zm 3 0,u1 4 (.conv .u64) [.tm 3],Zc 5 73 4,u1 6 .shl [.cn (.int .u64 1),.tm 5],Zm 2 6] .ret))⟩
theorem YBA:Ye YHk Tryz.f122=some v122:=by kernel_rfl
def v123:VF:=⟨33,[.tmp 2],(ZR [u1 2 .mov [.cn (.int .u64 0)]] (.seq (.draw [] [Zu 3 0,w1 4 .nilCheck [.tm 3],Zv 5 1 4,Zu 6 0,w1 7 .nilCheck [.tm 6],Zv 8 1 7,w1 9 .shl [.tm 8,.cn (.int .u64 13)],w1 10 (.bit .xor) [.tm 5,.tm 9],w1 11 .nilCheck [.tm 3],ZS 1 11 10]) (.seq (.draw [] [Zu 12 0,w1 13 .nilCheck [.tm 12],Zv 14 1 13,Zu 15 0,w1 16 .nilCheck [.tm 15],Zv 17 1 16,w1 18 .shr [.tm 17,.cn (.int .u64 7)],w1 19 (.bit .xor) [.tm 14,.tm 18],w1 20 .nilCheck [.tm 12],ZS 1 20 19]) (.seq (.draw [] [Zu 21 0,w1 22 .nilCheck [.tm 21],Zv 23 1 22,Zu 24 0,w1 25 .nilCheck [.tm 24],Zv 26 1 25,w1 27 .shl [.tm 26,.cn (.int .u64 17)],w1 28 (.bit .xor) [.tm 23,.tm 27],w1 29 .nilCheck [.tm 21],ZS 1 29 28]) (ZR [Zm 30 0,u1 31 .nilCheck [.tm 30],Zf 32 1 31,Zm 2 32] .ret)))))⟩
theorem YBB:Ye YHk Tryz.f123=some v123:=by kernel_rfl
def v73:VF:=⟨8,[.tmp 2],(ZR [Zi 2 0] (.seq (.cond (.cn (.bool false)) (ZR [Zm 3 0,u1 4 (.conv .u32) [.tm 3],Zc 5 109 4,Zm 2 5] .ret) .skip) (ZR [Zm 6 0,Zc 7 110 6,Zm 2 7] .ret)))⟩
theorem YGG:Ye YHk Tryz.f73=some v73:=by kernel_rfl
def SE9:Env:={ ct:=fun n=>match n with|110=>some len64C|_=>none,fn:=fun _=>none,meth:=fun _ _=>none}
theorem Yqs:SE9.ct 110=some len64C:=rfl
theorem YCY:Yn YHk SE9:=by
 refine⟨fun f c h=>?_,fun f vf h=>?_,(fun _ _ _ h=>by cases h),by kernel_rfl,(fun _ h=>by cases h),(fun _ _ h=>by cases h)⟩
 ·simp only[SE9]at h
  split at h
  ·cases h;exact⟨Yf3,Tryz.f110,Tryz.func110,by kernel_rfl,by kernel_rfl⟩
  ·cases h
 ·cases h
theorem YnR:len64C.ok YHk 73:=by
 refine Yb Tryz.func73 YGG YCY 100 len64C fun args k h=>?_
 simp only[len64C]at h
 split at h
 ·rename_i x
  obtain⟨hx,h⟩:=h
  refine⟨[.int .u64 x],by simp [leL,le],?_⟩
  have h:k (.int .i64 (Yo x.toNat)) []:=h
  dsimp only[v73,Yqs,len64C,go_sem,reduceIte,YHf]
  simp only[Yc,YHf,YHh,reduceCtorEq,YHg]
  exact⟨hx,Yj h⟩
 ·exact h.1.elim
theorem YyK(x m:Int)(h0:0<=m)(h1:m<18446744073709551616):0<=bitI .and .u64 x m/\bitI .and .u64 x m<=m:=by
 have e:bitI .and .u64 x m=IntKind.u64.wrap ((BitVec.ofInt 64 x&&&BitVec.ofInt 64 m).toNat):=rfl
 have h2:(BitVec.ofInt 64 x&&&BitVec.ofInt 64 m).toNat<=m.toNat:=by
  rw[BitVec.toNat_and]
  refine YHC Nat.and_le_right ?_
  rw[BitVec.toNat_ofInt]
  omega
 rw[e,YHJ _ (by omega)]
 omega
theorem YwN{n:Nat}(h:0<n):2^Yo n<=2*n:=by
 have h1:= @bitsN_le n (Yo n-1)
 have h2:0<Yo n:=by
  rcases YH4 (Yo n)with h0|h0
  ·rw[bitsN_eq0]at h0;omega
  ·exact h0
 have h3:¬n<2^(Yo n-1):=fun hc=>by have:=h1.2 hc;omega
 have h4:2^Yo n=2*2^(Yo n-1):=by
  obtain⟨m,hm⟩:∃m,Yo n=m+1:=⟨Yo n-1,by omega⟩
  rw[hm,Nat.add_sub_cancel,YHR,YHq]
 omega
def brkW(J:Job):WCtr:={ ρ:=Unit,res:=fun _=> .tup [],A:=shA' J,R:=fun rest d d' _=>prmR rest d d'}
def SE10:Env:={ ct:=fun n=>match n with|73=>some len64C|_=>none,fn:=fun n=>match n with|122=>some v122|123=>some v123|_=>none,meth:=fun _ _=>none}
theorem Yqf:SE10.ct 73=some len64C:=rfl
theorem Yor:SE10.ct 122=none:=rfl
theorem Yot:SE10.fn 122=some v122:=rfl
theorem Yos:SE10.ct 123=none:=rfl
theorem You:SE10.fn 123=some v123:=rfl
theorem Yyy:Yn YHk SE10:=by
 refine⟨fun f c h=>?_,fun f vf h=>?_,(fun _ _ _ h=>by cases h),by kernel_rfl,(fun _ h=>by cases h),(fun _ _ h=>by cases h)⟩
 ·simp only[SE10]at h
  split at h
  ·cases h;exact⟨YnR,Tryz.f73,Tryz.func73,by kernel_rfl,by kernel_rfl⟩
  ·cases h
 ·simp only[SE10]at h
  split at h
  ·cases h;exact⟨Tryz.f122,Tryz.func122,YBA,Tryz.f122,Tryz.func122,by kernel_rfl,by kernel_rfl⟩
  ·cases h;exact⟨Tryz.f123,Tryz.func123,YBB,Tryz.f123,Tryz.func123,by kernel_rfl,by kernel_rfl⟩
  ·cases h
theorem brk_w(J:Job):(brkW J).ok YHk 103:=by
 refine Yag Tryz.func103 YBk Yyy 900 (brkW J) (fun _=>rfl) (fun rest d h=>YA8 h) fun rest d z hA=>?_
 replace hA:shA' J rest d:=hA
 unfold shA' at hA
 split at hA
 ·rename_i a b f
  obtain⟨rfl,ha,hab,hb,hlen,hR⟩:=hA
  obtain⟨a,rfl⟩:=YHv ha
  obtain⟨b,rfl⟩:=YHv (show(0:Int)<=b by omega)
  have hN:=hR.1
  dsimp only[v103,v122,Yqf,Yor,Yot,len64C,cmpV,brkW,go_sem,reduceIte,YHf]
  try simp only[Yc,YHf,YHh,reduceCtorEq,YHg]
  obtain⟨L,hL⟩:∃L,L=b-a:=⟨_,rfl⟩
  have w0:IntKind.i64.wrap ((b:Int)-(a:Int))=(L:Int):=by rw[YHi _ (by omega)];omega
  have w4:IntKind.i64.wrap ((L:Int).tdiv 4)=((L/4:Nat):Int):=by
   rw[Int.tdiv_eq_ediv_of_nonneg (by omega),YHi _ (by omega)];omega
  rw[w0,w4]
  refine⟨fun h8=>?_,fun h8=>?_⟩
  ·have u1:IntKind.u64.wrap (L:Int)=(L:Int):=YHJ _ (by omega)
   rw[u1,YHj,YHj]
   have hb2:=YwN (n:=L) (by omega)
   have hb1:=Ydn L
   obtain⟨M,hM⟩:∃M:Int,M=IntKind.u64.wrap (1*2^min (Yo L) 64):=⟨_,rfl⟩
   have hM2:1<=M/\M<=2*L:=by
    have h6:Yo L<=6:=bitsN_le.2 (show L<64 by omega)
    have e1:min (Yo L) 64=Yo L:=by omega
    have e2:((1:Int)*2^Yo L)=((2^Yo L:Nat):Int):=by rw[Int.one_mul];push_cast;rfl
    rw[e1,e2,YHJ _ (by omega)]at hM
    omega
   rw[<-hM]
   clear hM hb1 hb2
   obtain⟨i0,hi0⟩:∃i0,i0=a+L/4*2-1:=⟨_,rfl⟩
   have w1:IntKind.i64.wrap ((a:Int)+IntKind.i64.wrap (((L/4:Nat):Int)*2))=((a+L/4*2:Nat):Int):=by rw[YHi (((L/4:Nat):Int)*2) (by omega),YHi _ (by omega)];omega
   have w2:IntKind.i64.wrap (((a+L/4*2:Nat):Int)-1)=(i0:Int):=by rw[YHi _ (by omega)];omega
   have w3:IntKind.i64.wrap (((a+L/4*2:Nat):Int)+1)=((i0+2:Nat):Int):=by rw[YHi _ (by omega)];omega
   rw[w1,w2]
   refine⟨⟨by omega,by omega⟩,by omega,by decide,?_⟩
   refine Loop.keep [0,0,6,0,0] (Nat×Int×Array Int) (fun s=>[(11,.int .i64 s.1)]) (fun s=>[(0,.own z 1 d.size (arrC s.2.2)),(1,.box [.int .u64 s.2.1])]) [] (fun s=>i0<=s.1/\s.1<=i0+3/\s.2.2.size=d.size/\PermIn a b d s.2.2) (fun s=>i0+3-s.1) ?_ ?_
   ·refine⟨(i0,(L:Int),d),⟨YHr _,by show i0<=i0+3;omega,rfl,permIn_refl _ _ _⟩,?_⟩
    dsimp only[go_sem,reduceIte,YHf]
    simp only[Ya]
    exact⟨by decide,by decide,fun k hk=>of_eq_true (Yk _ _ _ _)⟩
   rintro⟨i,r,e⟩ ⟨hi1,hi2,hes,hp⟩
   replace hi1:i0<=i:=hi1
   replace hi2:i<=i0+3:=hi2
   replace hes:e.size=d.size:=hes
   replace hp:PermIn a b d e:=hp
   dsimp only[v123,Yos,You,arrC,YHj,go_sem,reduceIte,YHf]
   simp only[Yc,YHf,YHh,reduceCtorEq,YHg]
   rw[w4,w1,w3]
   generalize bitI .xor .u64 r (IntKind.u64.wrap (r*2^min (YH0 13) 64))=E1
   generalize bitI .xor .u64 E1 (E1.fdiv (2^min (YH0 7) 64))=E2
   generalize bitI .xor .u64 E2 (IntKind.u64.wrap (E2*2^min (YH0 17) 64))=E3
   have u2:IntKind.u64.wrap (M-1)=M-1:=YHJ _ (by omega)
   rw[u2]
   have hX:=YyK E3 (M-1) (by omega) (by omega)
   generalize bitI .and .u64 E3 (M-1)=X at hX⊢
   obtain⟨X,rfl⟩:=YHv hX.1
   have u3:IntKind.i64.wrap (X:Int)=(X:Int):=YHi _ (by omega)
   rw[u3]
   refine⟨by decide,fun hi3=>⟨by decide,by decide,by decide,fun hXL=>?_,fun hXL=>?_⟩,fun hi3=>?_⟩
   ·have u4:IntKind.i64.wrap ((X:Int)-(L:Int))=((X-L:Nat):Int):=by rw[YHi _ (by omega)];omega
    have u5:IntKind.i64.wrap ((a:Int)+((X-L:Nat):Int))=((a+(X-L):Nat):Int):=by rw[YHi _ (by omega)];omega
    rw[u4,u5,YHj]
    refine⟨⟨by omega,by omega⟩,by omega,⟨by omega,by omega⟩,by omega,⟨by omega,by omega⟩,by omega,⟨by omega,by omega⟩,by omega,(i+1,E3,swp e i (a+(X-L))),⟨by show i0<=i+1;omega,by show i+1<=i0+3;omega,by rw[size_swp];exact hes,permIn_trans _ _ _ _ _ hp (swp_permIn e a b i (a+(X-L)) (by omega) (by omega) (by omega) (by omega) (by omega))⟩,by show i0+3-(i+1)<_;omega,?_⟩
    rw[YHi ((i:Int)+1) (by omega)]
    simp only[Ya]
    refine⟨⟨by decide,by decide,rfl⟩,by decide,fun k hk=>?_⟩
    have:=YU (d:=e) (i:=i) (j:=a+(X-L)) (by omega) (by omega) k
    unfold arrC at this
    rw[this]
    exact of_eq_true (YcN _ _ _ _)
   ·have u5:IntKind.i64.wrap ((a:Int)+(X:Int))=((a+X:Nat):Int):=by rw[YHi _ (by omega)];omega
    rw[u5,YHj]
    refine⟨⟨by omega,by omega⟩,by omega,⟨by omega,by omega⟩,by omega,⟨by omega,by omega⟩,by omega,⟨by omega,by omega⟩,by omega,(i+1,E3,swp e i (a+X)),⟨by show i0<=i+1;omega,by show i+1<=i0+3;omega,by rw[size_swp];exact hes,permIn_trans _ _ _ _ _ hp (swp_permIn e a b i (a+X) (by omega) (by omega) (by omega) (by omega) (by omega))⟩,by show i0+3-(i+1)<_;omega,?_⟩
    rw[YHi ((i:Int)+1) (by omega)]
    simp only[Ya]
    refine⟨⟨by decide,by decide,rfl⟩,by decide,fun k hk=>?_⟩
    have:=YU (d:=e) (i:=i) (j:=a+X) (by omega) (by omega) k
    unfold arrC at this
    rw[this]
    exact of_eq_true (YcN _ _ _ _)
   ·refine⟨e,(),arrC e,_,rfl,fun _ _=>rfl,hes,?_⟩
    exact hp
  ·refine⟨d,(),arrC d,[],rfl,fun _ _=>rfl,rfl,?_⟩
   exact permIn_refl _ _ _
 ·exact hA.elim
def v121:VF:=⟨82,[],(ZR [Zm 12 1,Zm 10 12] (.block 0 (.loop (.block 1 (ZR [Zm 13 10,u1 14 (.ari .mul) [.cn (.int .i64 2),.tm 13],Zp 15 14 1,Zm 11 15] (.seq (ZR [Zm 16 11,Zm 17 2,Zr 18 .geq 16 17] (ZC 18 (.exit 0) .skip)) (.seq (.seq (.draw [] [Zu 19 11,w1 20 (.ari .add) [.tm 19,.cn (.int .i64 1)],Zu 21 2,w1 22 (.cmp .lss) [.tm 20,.tm 21],Zu 23 22,⟨Zg 24 23 true 4,[]⟩,⟨Zg 25 23 true 0,[]⟩,⟨Zg 26 23 true 3,[]⟩,⟨Zg 27 23 true 11,[]⟩,⟨u2 28 23 true (.ari .add) [.tm 26,.tm 27],[]⟩,⟨u2 29 23 true (.idxAddr 1) [.tm 25,.tm 28],[]⟩,⟨Zh 30 23 true 1 29,[]⟩,⟨Zg 31 23 true 0,[]⟩,⟨Zg 32 23 true 3,[]⟩,⟨Zg 33 23 true 11,[]⟩,⟨u2 34 23 true (.ari .add) [.tm 32,.tm 33],[]⟩,⟨u2 35 23 true (.ari .add) [.tm 34,.cn (.int .i64 1)],[]⟩,⟨u2 36 23 true (.idxAddr 1) [.tm 31,.tm 35],[]⟩,⟨Zh 37 23 true 1 36,[]⟩,⟨u2 38 23 true .callv [.tm 24,.tm 30,.tm 37],[]⟩,⟨u2 39 23 true (.cmp .lss) [.tm 38,.cn (.int .i64 0)],[]⟩,w1 40 .and [.tm 23,.tm 39]]) (ZC 40 (.region [Zm 41 11,Zp 42 41 1,Zm 11 42]) .skip)) (.seq (.seq (.draw [] [Zu 43 4,Zu 44 0,Zu 45 3,Zu 46 10,w1 47 (.ari .add) [.tm 45,.tm 46],ZX 48 1 44 47,Zv 49 1 48,Zu 50 0,Zu 51 3,Zu 52 11,w1 53 (.ari .add) [.tm 51,.tm 52],ZX 54 1 50 53,Zv 55 1 54,w1 56 .callv [.tm 43,.tm 49,.tm 55],w1 57 (.cmp .lss) [.tm 56,.cn (.int .i64 0)],w1 58 .not [.tm 57]]) (ZC 58 .ret .skip)) (.seq (.draw [] [Zu 59 0,Zu 60 3,Zu 61 10,w1 62 (.ari .add) [.tm 60,.tm 61],Zu 63 0,Zu 64 3,Zu 65 11,w1 66 (.ari .add) [.tm 64,.tm 65],Zu 67 0,Zu 68 3,Zu 69 11,w1 70 (.ari .add) [.tm 68,.tm 69],ZX 71 1 67 70,Zv 72 1 71,Zu 73 0,Zu 74 3,Zu 75 10,w1 76 (.ari .add) [.tm 74,.tm 75],ZX 77 1 73 76,Zv 78 1 77,ZX 79 1 59 62,ZS 1 79 72,ZX 80 1 63 66,ZS 1 80 78]) (.region [Zm 81 11,Zm 10 81]))))))))))⟩
theorem YBz:Ye YHk Tryz.f121=some v121:=by kernel_rfl
def v102:VF:=⟨60,[],(ZR [Zm 13 1,Zm 8 13] (ZR [Zi 9 0] (ZR [Zm 14 2,Zm 15 1,Zo 16 .sub 14 15,Zm 10 16] (.seq (ZR [Zm 17 10,u1 18 (.ari .sub) [.tm 17,.cn (.int .i64 1)],u1 19 .quo [.tm 18,.cn (.int .i64 2)],Zm 11 19] (.block 0 (.loop (.seq (ZR [Zm 20 11,Zq 21 .geq 20 0] (ZC 21 .skip (.exit 0))) (.seq (.block 1 (.region [Zm 24 0,Zm 25 11,Zm 26 10,Zm 27 8,Zm 28 3,u1 29 (.call 121) [.tm 24,.tm 25,.tm 26,.tm 27,.tm 28]])) (.region [Zm 22 11,u1 23 (.ari .sub) [.tm 22,.cn (.int .i64 1)],Zm 11 23])))))) (ZR [Zm 30 10,u1 31 (.ari .sub) [.tm 30,.cn (.int .i64 1)],Zm 12 31] (.block 2 (.loop (.seq (ZR [Zm 32 12,Zq 33 .geq 32 0] (ZC 33 .skip (.exit 2))) (.seq (.block 3 (.seq (.draw [] [Zu 36 0,Zu 37 8,Zu 38 0,Zu 39 8,Zu 40 12,w1 41 (.ari .add) [.tm 39,.tm 40],Zu 42 0,Zu 43 8,Zu 44 12,w1 45 (.ari .add) [.tm 43,.tm 44],ZX 46 1 42 45,Zv 47 1 46,Zu 48 0,Zu 49 8,ZX 50 1 48 49,Zv 51 1 50,ZX 52 1 36 37,ZS 1 52 47,ZX 53 1 38 41,ZS 1 53 51]) (.region [Zm 54 0,Zm 55 9,Zm 56 12,Zm 57 8,Zm 58 3,u1 59 (.call 121) [.tm 54,.tm 55,.tm 56,.tm 57,.tm 58]]))) (.region [Zm 34 12,u1 35 (.ari .sub) [.tm 34,.cn (.int .i64 1)],Zm 12 35]))))))))))⟩
theorem YBj:Ye YHk Tryz.f102=some v102:=by kernel_rfl
def sifA(J:Job)(rest:List SV)(d:Array Int):Prop:=
 match rest with
 | [.int .i64 lo,.int .i64 hi,.int .i64 F,f]=>f=cmpV J/\0<=lo/\lo<=d.size/\0<=hi/\0<=F/\F+hi<=d.size/\Rn J d
 |_=>False
theorem YFv{J:Job}{rest:List SV}{d:Array Int}(h:sifA J rest d):YbC rest:=by
 unfold sifA at h
 split at h
 ·obtain⟨rfl,_⟩:=h;exact⟨trivial,trivial,trivial,Yo7 J,trivial⟩
 ·exact h.elim
def sifR(J:Job)(rest:List SV)(d d':Array Int):Prop:=
 match rest with
 | [.int _ lo,.int _ hi,.int _ F,_]=>d'=siftDown (ltS J.l) hi.toNat F.toNat lo.toNat d/\Rn J d'
 |_=>True
def sifW(J:Job):WCtr:={ ρ:=Unit,res:=fun _=> .tup [],A:=sifA J,R:=fun rest d d' _=>sifR J rest d d'}
theorem YA9(lt:Int->Int->Bool)(hi F r:Nat)(e:Array Int):siftDown lt hi F r e=if 2*r+1≥hi then e else
 if(decide (2*r+2<hi)&&lt e[F+(2*r+1)]! e[F+(2*r+1)+1]!)=true then(if lt e[F+r]! e[F+(2*r+2)]! =true then siftDown lt hi F (2*r+2) (swp e (F+r) (F+(2*r+2)))else e)
 else(if lt e[F+r]! e[F+(2*r+1)]! =true then siftDown lt hi F (2*r+1) (swp e (F+r) (F+(2*r+1)))else e):=by
 rw[siftDown.eq_def]
 by_cases h1:2*r+1≥hi
 ·rw[dif_pos h1,if_pos h1]
 ·rw[dif_neg h1,if_neg h1]
  by_cases h2:(decide (2*r+2<hi)&&lt e[F+(2*r+1)]! e[F+(2*r+1)+1]!)=true
  ·have h3:2*r+2<hi:=by rw[YHn]at h2;exact of_decide_eq_true h2.1
   rw[if_pos h2,if_pos (show(decide (2*r+1+1<hi)&&lt e[F+(2*r+1)]! e[F+(2*r+1)+1]!)=true from h2)]
   cases lt e[F+r]! e[F+(2*r+2)]! with
   |true=>simp only[Bool.not_true,YHG,if_false,if_true,dif_pos h3]
   |false=>simp
  ·rw[if_neg h2,if_neg (show¬(decide (2*r+1+1<hi)&&lt e[F+(2*r+1)]! e[F+(2*r+1)+1]!)=true from h2)]
   cases lt e[F+r]! e[F+(2*r+1)]! <;> simp
theorem Yxe(i j:Nat):decide ((i:Int)<(j:Int))=decide (i<j):=by simp
def SE5:Env:={ ct:=fun n=>match n with|38=>some befC|_=>none,fn:=fun _=>none,meth:=fun _ _=>none}
theorem YuT:SE5.ct 38=some befC:=rfl
theorem YCU:Yn YHk SE5:=by
 refine⟨fun f c h=>?_,fun f vf h=>?_,(fun _ _ _ h=>by cases h),by kernel_rfl,(fun _ h=>by cases h),(fun _ _ h=>by cases h)⟩
 ·simp only[SE5]at h
  split at h
  ·cases h;exact⟨YlQ,Tryz.f38,Tryz.func38,by kernel_rfl,by kernel_rfl⟩
  ·cases h
 ·cases h
theorem sif_w(J:Job):(sifW J).ok YHk 121:=by
 refine Yag Tryz.func121 YBz YCU 900 (sifW J) (fun _=>rfl) (fun rest d h=>YFv h) fun rest d z hA=>?_
 replace hA:sifA J rest d:=hA
 unfold sifA at hA
 split at hA
 ·rename_i lo hi F f
  obtain⟨rfl,hlo,hlo2,hhi,hF,hFh,hR⟩:=hA
  obtain⟨lo,rfl⟩:=YHv hlo
  obtain⟨hi,rfl⟩:=YHv hhi
  obtain⟨F,rfl⟩:=YHv hF
  have hN:=hR.1
  dsimp only[v121,cmpV,sifW,go_sem,reduceIte,YHf]
  try simp only[Yc,YHf,YHh,reduceCtorEq,YHg]
  refine Loop.keep [0,1,0,0] (Nat×Array Int) (fun s=>[(10,.int .i64 s.1)]) (fun s=>[(0,.own z 1 d.size (arrC s.2))]) [] (fun s=>s.1<=d.size/\s.2.size=d.size/\Rn J s.2/\siftDown (ltS J.l) hi F s.1 s.2=siftDown (ltS J.l) hi F lo d) (fun s=>hi-s.1) ?_ ?_
  ·refine⟨(lo,d),⟨by show lo<=d.size;omega,rfl,hR,rfl⟩,?_⟩
   dsimp only[go_sem,reduceIte,YHf]
   simp only[Ya]
   rw[YcY]
   exact⟨⟨by decide,trivial⟩,by decide,fun k hk=>of_eq_true (Yk _ _ _ _)⟩
  rintro⟨r,e⟩ ⟨hr,hes,hRe,heq⟩
  replace hr:r<=d.size:=hr
  replace hes:e.size=d.size:=hes
  replace hRe:Rn J e:=hRe
  replace heq:siftDown (ltS J.l) hi F r e=siftDown (ltS J.l) hi F lo d:=heq
  have w1:IntKind.i64.wrap (IntKind.i64.wrap (2*(r:Int))+1)=((2*r+1:Nat):Int):=by rw[YHi (2*(r:Int)) (by omega),YHi _ (by omega)];omega
  have w2:IntKind.i64.wrap (((2*r+1:Nat):Int)+1)=((2*r+2:Nat):Int):=by rw[YHi _ (by omega)];omega
  have w3:∀k:Nat,k<=3000000->IntKind.i64.wrap ((F:Int)+(k:Int))=((F+k:Nat):Int):=fun k hk=>by rw[YHi _ (by omega)];omega
  have w4:IntKind.i64.wrap (((F+(2*r+1):Nat):Int)+1)=((F+(2*r+1)+1:Nat):Int):=by rw[YHi _ (by omega)];omega
  dsimp only[arrC,YuT,befC,Job.sv,encK,YHj,go_sem,reduceIte,YHf]
  simp only[Yc,YHf,YHh,reduceCtorEq,YHg]
  rw[w1,w2,w3 (2*r+1) (by omega),w3 r (by omega),w3 (2*r+2) (by omega),w4]
  simp only[YHj]
  have hst:=YA9 (ltS J.l) hi F r e
  have hend:∀e',siftDown (ltS J.l) hi F r e=e'->Rn J e'->sifR J [SV.int IntKind.i64 ↑lo,SV.int IntKind.i64 ↑hi,SV.int IntKind.i64 ↑F,cmpV J] d e':=fun e' he hR'=>by
   refine⟨?_,hR'⟩
   show e'=siftDown (ltS J.l) (YH0 hi) (YH0 F) (YH0 lo) d
   rw[YHj,YHj,YHj,<-heq,he]
  refine⟨fun h1=>⟨e,(),arrC e,[],rfl,fun _ _=>rfl,hes,hend _ (by rw[hst,if_pos (by omega)]) hRe⟩,fun h1=>?_⟩
  rw[if_neg (by omega)]at hst
  refine⟨fun h=>⟨by omega,by omega⟩,fun h=>by omega,fun h=>⟨by omega,by omega⟩,fun h=>by omega,J.l,fun h=>⟨⟨rfl,rfl,fun k _=>⟨⟨rfl,rfl⟩,⟨rfl,rfl⟩,trivial⟩⟩,hRe.2 _ (by omega),hRe.2 _ (by omega)⟩,fun hc=>?_,fun hc=>?_⟩
  ·rw[Yxe]at hc
   rw[if_pos (show(decide (2*r+2<hi)&&ltS J.l e[F+(2*r+1)]! e[F+(2*r+1)+1]!)=true from hc)]at hst
   rw[YHn,decide_eq_true_eq]at hc
   refine⟨⟨by omega,by omega⟩,by omega,⟨by omega,by omega⟩,by omega,J.l,⟨⟨rfl,rfl,fun k _=>⟨⟨rfl,rfl⟩,⟨rfl,rfl⟩,trivial⟩⟩,hRe.2 _ (by omega),hRe.2 _ (by omega)⟩,fun h2=>?_,fun h2=>?_⟩
   ·exact⟨e,(),arrC e,[],rfl,fun _ _=>rfl,hes,hend _ (by rw[hst,if_neg (by unfold ltS;rw[decide_eq_true_eq];exact h2)]) hRe⟩
   ·rw[if_pos (by unfold ltS;rw[decide_eq_true_eq];exact h2)]at hst
    refine⟨⟨by omega,by omega⟩,by omega,⟨by omega,by omega⟩,by omega,⟨by omega,by omega⟩,by omega,⟨by omega,by omega⟩,by omega,(2*r+2,swp e (F+r) (F+(2*r+2))),⟨by show 2*r+2<=d.size;omega,by rw[size_swp];exact hes,hRe.swp (by omega) (by omega),by rw[<-heq,hst]⟩,by show hi-(2*r+2)<hi-r;omega,?_⟩
    simp only[Ya]
    refine⟨by decide,by decide,fun k hk=>?_⟩
    have:=YU (d:=e) (i:=F+r) (j:=F+(2*r+2)) (by omega) (by omega) k
    unfold arrC at this
    rw[this]
    exact of_eq_true (YcN _ _ _ _)
  ·rw[Yxe]at hc
   rw[if_neg (by rw[show(decide (2*r+2<hi)&&ltS J.l e[F+(2*r+1)]! e[F+(2*r+1)+1]!)=false from hc];exact Bool.false_ne_true)]at hst
   refine⟨⟨by omega,by omega⟩,by omega,⟨by omega,by omega⟩,by omega,J.l,⟨⟨rfl,rfl,fun k _=>⟨⟨rfl,rfl⟩,⟨rfl,rfl⟩,trivial⟩⟩,hRe.2 _ (by omega),hRe.2 _ (by omega)⟩,fun h2=>?_,fun h2=>?_⟩
   ·exact⟨e,(),arrC e,[],rfl,fun _ _=>rfl,hes,hend _ (by rw[hst,if_neg (by unfold ltS;rw[decide_eq_true_eq];exact h2)]) hRe⟩
   ·rw[if_pos (by unfold ltS;rw[decide_eq_true_eq];exact h2)]at hst
    refine⟨⟨by omega,by omega⟩,by omega,⟨by omega,by omega⟩,by omega,⟨by omega,by omega⟩,by omega,⟨by omega,by omega⟩,by omega,(2*r+1,swp e (F+r) (F+(2*r+1))),⟨by show 2*r+1<=d.size;omega,by rw[size_swp];exact hes,hRe.swp (by omega) (by omega),by rw[<-heq,hst]⟩,by show hi-(2*r+1)<hi-r;omega,?_⟩
    simp only[Ya]
    refine⟨by decide,by decide,fun k hk=>?_⟩
    have:=YU (d:=e) (i:=F+r) (j:=F+(2*r+1)) (by omega) (by omega) k
    unfold arrC at this
    rw[this]
    exact of_eq_true (YcN _ _ _ _)
 ·exact hA.elim
def SE6(J:Job):Env:={ ct:=fun _=>none,fn:=fun _=>none,meth:=fun _ _=>none,wc:=fun n=>match n with|121=>some (sifW J) |_=>none}
theorem YCV(J:Job):Yn YHk (SE6 J):=by
 refine⟨fun f c h=>?_,fun f vf h=>?_,(fun _ _ _ h=>by cases h),by kernel_rfl,(fun _ h=>by cases h),fun f c h=>?_⟩
 ·cases h
 ·cases h
 ·simp only[SE6]at h
  split at h
  ·cases h;exact⟨(sif_w J),Tryz.f121,Tryz.func121,by kernel_rfl,by kernel_rfl⟩
  ·cases h
theorem Yj5(J:Job):(SE6 J).ct 121=none:=rfl
theorem Yj6(J:Job):(SE6 J).fn 121=none:=rfl
theorem Yj7(J:Job):(SE6 J).wc 121=some (sifW J):=rfl
theorem YDP(J:Job):(insW J).ok YHk 102:=by
 refine Yag Tryz.func102 YBj (YCV J) 900 (insW J) (fun _=>rfl) (fun rest d h=>Yty h) fun rest d z hA=>?_
 replace hA:srtA J rest d:=hA
 unfold srtA at hA
 split at hA
 ·rename_i a b f
  obtain⟨rfl,ha,hab,hb,hR⟩:=hA
  obtain⟨a,rfl⟩:=YHv ha
  obtain⟨b,rfl⟩:=YHv (show(0:Int)<=b by omega)
  have hN:=hR.1
  dsimp only[v102,cmpV,insW,go_sem,reduceIte,YHf]
  try simp only[Yc,YHf,YHh,reduceCtorEq,YHg]
  obtain⟨hi,hhi⟩:∃hi,hi=b-a:=⟨_,rfl⟩
  have w1:IntKind.i64.wrap ((b:Int)-(a:Int))=(hi:Int):=by rw[YHi _ (by omega)];omega
  have w2:IntKind.i64.wrap ((IntKind.i64.wrap ((hi:Int)-1)).tdiv 2)=(((hi-1)/2:Nat):Int):=by
   rw[YHi ((hi:Int)-1) (by omega)]
   have h1:((hi:Int)-1).tdiv 2=(((hi-1)/2:Nat):Int):=by
    rcases YH4 hi with h0|h0
    ·rw[h0];decide
    ·rw[Int.tdiv_eq_ediv_of_nonneg (by omega)];omega
   rw[h1,YHi _ (by omega)]
  refine⟨by decide,?_⟩
  rw[w1,w2]
  obtain⟨m,hm⟩:∃m,m=(hi-1)/2+1:=⟨_,rfl⟩
  obtain⟨H1,hH1⟩:∃H1,H1=heapBuild (ltS J.l) hi a m d:=⟨_,rfl⟩
  refine Loop.keep [0,2,4,0,0] (Nat×Array Int) (fun s=>[(11,.int .i64 ((s.1:Int)-1))]) (fun s=>[(0,.own z 1 d.size (arrC s.2))]) [] (fun s=>s.1<=m/\s.2.size=d.size/\Rn J s.2/\heapBuild (ltS J.l) hi a s.1 s.2=H1) (fun s=>s.1) ?_ ?_
  ·refine⟨(m,d),⟨YHr _,rfl,hR,hH1.symm⟩,?_⟩
   dsimp only[go_sem,reduceIte,YHf]
   simp only[Ya]
   rw[YcY]
   exact⟨⟨by decide,trivial,by omega⟩,by decide,fun k hk=>of_eq_true (Yk _ _ _ _)⟩
  rintro⟨k,e⟩ ⟨hkm,hes,hRe,heq⟩
  replace hkm:k<=m:=hkm
  replace hes:e.size=d.size:=hes
  replace hRe:Rn J e:=hRe
  replace heq:heapBuild (ltS J.l) hi a k e=H1:=heq
  dsimp only[Yj5,Yj6,Yj7,sifW,go_sem,reduceIte,YHf]
  simp only[Yc,YHf,YHh,reduceCtorEq,YHg]
  refine⟨fun hk=>?_,fun hk=>?_⟩
  ·obtain⟨k,rfl⟩:∃j,k=j+1:=⟨k-1,by omega⟩
   refine⟨rfl,e,⟨hes,fun _ _=>rfl⟩,⟨rfl,by omega,by omega,by omega,by omega,by omega,hRe⟩,fun e' hs' hq=>?_⟩
   obtain⟨he',hR'⟩:=hq
   rw[show(((k+1:Nat):Int)-1).toNat=k by omega,YHj,YHj]at he'
   refine⟨(k,e'),⟨by show k<=m;omega,hs',hR',?_⟩,by show k<k+1;omega,?_⟩
   ·rw[<-heq,he'];rfl
   ·rw[YHi (((k+1:Nat):Int)-1-1) (by omega)]
    simp only[Ya]
    refine⟨⟨by decide,Ydy J 1,by omega⟩,by decide,fun k hk=>of_eq_true (Yk _ _ _ _)⟩
  ·obtain rfl:k=0:=by omega
   obtain rfl:e=H1:=heq
   have hfin:heapSort (ltS J.l) d a b=heapPop (ltS J.l) a hi e:=by rw[hH1,hm,hhi];rfl
   refine Loop.keep [0,2,4,0,0] (Nat×Array Int) (fun s=>[(12,.int .i64 ((s.1:Int)-1))]) (fun s=>[(0,.own z 1 d.size (arrC s.2))]) [] (fun s=>s.1<=hi/\s.2.size=d.size/\Rn J s.2/\heapPop (ltS J.l) a s.1 s.2=heapPop (ltS J.l) a hi e) (fun s=>s.1) ?_ ?_
   ·refine⟨(hi,e),⟨YHr _,hes,hRe,rfl⟩,?_⟩
    rw[YHi ((hi:Int)-1) (by omega)]
    dsimp only[go_sem,reduceIte,YHf]
    simp only[Ya]
    refine⟨⟨by decide,Ydy J 1⟩,by decide,fun k hk=>of_eq_true (Yk _ _ _ _)⟩
   rintro⟨k,g⟩ ⟨hkm,hgs,hRg,hgq⟩
   replace hkm:k<=hi:=hkm
   replace hgs:g.size=d.size:=hgs
   replace hRg:Rn J g:=hRg
   replace hgq:heapPop (ltS J.l) a k g=heapPop (ltS J.l) a hi e:=hgq
   dsimp only[Yj5,Yj6,Yj7,sifW,arrC,YHj,go_sem,reduceIte,YHf]
   simp only[Yc,YHf,YHh,reduceCtorEq,YHg]
   refine⟨fun hk=>?_,fun hk=>?_⟩
   ·obtain⟨k,rfl⟩:∃j,k=j+1:=⟨k-1,by omega⟩
    have w3:IntKind.i64.wrap ((a:Int)+(((k+1:Nat):Int)-1))=((a+k:Nat):Int):=by rw[YHi _ (by omega)];omega
    rw[w3,YHj]
    refine⟨⟨by omega,by omega⟩,by omega,⟨by omega,by omega⟩,by omega,⟨by omega,by omega⟩,by omega,⟨by omega,by omega⟩,by omega,rfl,swp g a (a+k),⟨by rw[size_swp];exact hgs,fun q hq=>?_⟩,⟨rfl,by omega,by omega,by omega,by omega,by rw[size_swp];omega,hRg.swp (by omega) (by omega)⟩,fun e' hs' hq=>?_⟩
    ·have:=YU (d:=g) (i:=a) (j:=a+k) (by omega) (by omega) q
     unfold arrC at this
     exact this
    obtain⟨he',hR'⟩:=hq
    rw[show(((k+1:Nat):Int)-1).toNat=k by omega,YHj,show(0:Int).toNat=0 from rfl]at he'
    refine⟨(k,e'),⟨by show k<=hi;omega,hs',hR',?_⟩,by show k<k+1;omega,?_⟩
    ·rw[<-hgq,he'];rfl
    ·rw[YHi (((k+1:Nat):Int)-1-1) (by omega)]
     simp only[Ya]
     refine⟨⟨by decide,Ydy J 1,by omega⟩,by decide,fun k hk=>of_eq_true (YcN _ _ _ _)⟩
   ·obtain rfl:k=0:=by omega
    replace hgq:g=heapPop (ltS J.l) a hi e:=hgq
    refine⟨g,(),arrC g,[],rfl,fun _ _=>rfl,hgs,?_⟩
    show PermIn (YH0 a) (YH0 b) d g/\SortedIn (ltS J.l) (YH0 a) (YH0 b) g
    rw[hgq,<-hfin]
    exact heapSort_holds (Y5 J.l) d a b (by omega) (by omega)
 ·exact hA.elim
def v108:VF:=⟨178,[.tmp 10,.tmp 11],(ZR [Zi 10 0,u1 11 .mov [.cn (.bool false)]] (.seq (.draw [] [Zu 14 0,Zu 15 1,Zu 16 0,Zu 17 3,Zu 18 0,Zu 19 3,ZX 20 1 18 19,Zv 21 1 20,Zu 22 0,Zu 23 1,ZX 24 1 22 23,Zv 25 1 24,ZX 26 1 14 15,ZS 1 26 21,ZX 27 1 16 17,ZS 1 27 25]) (ZR [Zm 28 1,Zp 29 28 1,Zm 30 2,u1 31 (.ari .sub) [.tm 30,.cn (.int .i64 1)],Zm 12 29,Zm 13 31] (.seq (.block 0 (.loop (.seq (.seq (.draw [] [Zu 32 12,Zu 33 13,w1 34 (.cmp .leq) [.tm 32,.tm 33],Zu 35 34,⟨Zg 36 35 true 4,[]⟩,⟨Zg 37 35 true 0,[]⟩,⟨Zg 38 35 true 12,[]⟩,⟨u2 39 35 true (.idxAddr 1) [.tm 37,.tm 38],[]⟩,⟨Zh 40 35 true 1 39,[]⟩,⟨Zg 41 35 true 0,[]⟩,⟨Zg 42 35 true 1,[]⟩,⟨u2 43 35 true (.idxAddr 1) [.tm 41,.tm 42],[]⟩,⟨Zh 44 35 true 1 43,[]⟩,⟨u2 45 35 true .callv [.tm 36,.tm 40,.tm 44],[]⟩,⟨u2 46 35 true (.cmp .lss) [.tm 45,.cn (.int .i64 0)],[]⟩,w1 47 .and [.tm 35,.tm 46]]) (ZC 47 .skip (.exit 0))) (.block 1 (.region [Zm 48 12,Zp 49 48 1,Zm 12 49]))))) (.seq (.block 2 (.loop (.seq (.seq (.draw [] [Zu 50 12,Zu 51 13,w1 52 (.cmp .leq) [.tm 50,.tm 51],Zu 53 52,⟨Zg 54 53 true 4,[]⟩,⟨Zg 55 53 true 0,[]⟩,⟨Zg 56 53 true 13,[]⟩,⟨u2 57 53 true (.idxAddr 1) [.tm 55,.tm 56],[]⟩,⟨Zh 58 53 true 1 57,[]⟩,⟨Zg 59 53 true 0,[]⟩,⟨Zg 60 53 true 1,[]⟩,⟨u2 61 53 true (.idxAddr 1) [.tm 59,.tm 60],[]⟩,⟨Zh 62 53 true 1 61,[]⟩,⟨u2 63 53 true .callv [.tm 54,.tm 58,.tm 62],[]⟩,⟨u2 64 53 true (.cmp .lss) [.tm 63,.cn (.int .i64 0)],[]⟩,⟨u2 65 53 true .not [.tm 64],[]⟩,w1 66 .and [.tm 53,.tm 65]]) (ZC 66 .skip (.exit 2))) (.block 3 (.region [Zm 67 13,u1 68 (.ari .sub) [.tm 67,.cn (.int .i64 1)],Zm 13 68]))))) (.seq (ZR [Zm 69 12,Zm 70 13,Zr 71 .gtr 69 70] (ZC 71 (.seq (.draw [] [Zu 72 0,Zu 73 13,Zu 74 0,Zu 75 1,Zu 76 0,Zu 77 1,ZX 78 1 76 77,Zv 79 1 78,Zu 80 0,Zu 81 13,ZX 82 1 80 81,Zv 83 1 82,ZX 84 1 72 73,ZS 1 84 79,ZX 85 1 74 75,ZS 1 85 83]) (ZR [Zm 86 13,Zm 10 86,u1 11 .mov [.cn (.bool true)]] .ret)) .skip)) (.seq (.draw [] [Zu 87 0,Zu 88 12,Zu 89 0,Zu 90 13,Zu 91 0,Zu 92 13,ZX 93 1 91 92,Zv 94 1 93,Zu 95 0,Zu 96 12,ZX 97 1 95 96,Zv 98 1 97,ZX 99 1 87 88,ZS 1 99 94,ZX 100 1 89 90,ZS 1 100 98]) (ZR [Zm 101 12,Zp 102 101 1,Zm 12 102] (ZR [Zm 103 13,u1 104 (.ari .sub) [.tm 103,.cn (.int .i64 1)],Zm 13 104] (.seq (.block 4 (.loop (.block 5 (.seq (.block 6 (.loop (.seq (.seq (.draw [] [Zu 105 12,Zu 106 13,w1 107 (.cmp .leq) [.tm 105,.tm 106],Zu 108 107,⟨Zg 109 108 true 4,[]⟩,⟨Zg 110 108 true 0,[]⟩,⟨Zg 111 108 true 12,[]⟩,⟨u2 112 108 true (.idxAddr 1) [.tm 110,.tm 111],[]⟩,⟨Zh 113 108 true 1 112,[]⟩,⟨Zg 114 108 true 0,[]⟩,⟨Zg 115 108 true 1,[]⟩,⟨u2 116 108 true (.idxAddr 1) [.tm 114,.tm 115],[]⟩,⟨Zh 117 108 true 1 116,[]⟩,⟨u2 118 108 true .callv [.tm 109,.tm 113,.tm 117],[]⟩,⟨u2 119 108 true (.cmp .lss) [.tm 118,.cn (.int .i64 0)],[]⟩,w1 120 .and [.tm 108,.tm 119]]) (ZC 120 .skip (.exit 6))) (.block 7 (.region [Zm 121 12,Zp 122 121 1,Zm 12 122]))))) (.seq (.block 8 (.loop (.seq (.seq (.draw [] [Zu 123 12,Zu 124 13,w1 125 (.cmp .leq) [.tm 123,.tm 124],Zu 126 125,⟨Zg 127 126 true 4,[]⟩,⟨Zg 128 126 true 0,[]⟩,⟨Zg 129 126 true 13,[]⟩,⟨u2 130 126 true (.idxAddr 1) [.tm 128,.tm 129],[]⟩,⟨Zh 131 126 true 1 130,[]⟩,⟨Zg 132 126 true 0,[]⟩,⟨Zg 133 126 true 1,[]⟩,⟨u2 134 126 true (.idxAddr 1) [.tm 132,.tm 133],[]⟩,⟨Zh 135 126 true 1 134,[]⟩,⟨u2 136 126 true .callv [.tm 127,.tm 131,.tm 135],[]⟩,⟨u2 137 126 true (.cmp .lss) [.tm 136,.cn (.int .i64 0)],[]⟩,⟨u2 138 126 true .not [.tm 137],[]⟩,w1 139 .and [.tm 126,.tm 138]]) (ZC 139 .skip (.exit 8))) (.block 9 (.region [Zm 140 13,u1 141 (.ari .sub) [.tm 140,.cn (.int .i64 1)],Zm 13 141]))))) (.seq (ZR [Zm 142 12,Zm 143 13,Zr 144 .gtr 142 143] (ZC 144 (.exit 4) .skip)) (.seq (.draw [] [Zu 145 0,Zu 146 12,Zu 147 0,Zu 148 13,Zu 149 0,Zu 150 13,ZX 151 1 149 150,Zv 152 1 151,Zu 153 0,Zu 154 12,ZX 155 1 153 154,Zv 156 1 155,ZX 157 1 145 146,ZS 1 157 152,ZX 158 1 147 148,ZS 1 158 156]) (ZR [Zm 159 12,Zp 160 159 1,Zm 12 160] (.region [Zm 161 13,u1 162 (.ari .sub) [.tm 161,.cn (.int .i64 1)],Zm 13 162]))))))))) (.seq (.draw [] [Zu 163 0,Zu 164 13,Zu 165 0,Zu 166 1,Zu 167 0,Zu 168 1,ZX 169 1 167 168,Zv 170 1 169,Zu 171 0,Zu 172 13,ZX 173 1 171 172,Zv 174 1 173,ZX 175 1 163 164,ZS 1 175 170,ZX 176 1 165 166,ZS 1 176 174]) (ZR [Zm 177 13,Zm 10 177,u1 11 .mov [.cn (.bool false)]] .ret))))))))))))⟩
theorem YBp:Ye YHk Tryz.f108=some v108:=by kernel_rfl
def prtR(J:Job)(rest:List SV)(d d':Array Int)(x:Nat×Bool):Prop:=
 match rest with
 | [.int _ a,.int _ b,.int _ p,_]=>partition (ltS J.l) d a.toNat b.toNat p.toNat=(x.1,x.2,d')/\Rn J d'
 |_=>True
def prtW(J:Job):WCtr:={ ρ:=Nat×Bool,res:=fun x=> .tup [.int .i64 x.1,.bool x.2],A:=parA J,R:=prtR J}
def SE4:Env:={ ct:=fun n=>match n with|38=>some befC|_=>none,fn:=fun _=>none,meth:=fun _ _=>none}
theorem YfN:SE4.ct 38=some befC:=rfl
theorem YCT:Yn YHk SE4:=by
 refine⟨fun f c h=>?_,fun f vf h=>?_,(fun _ _ _ h=>by cases h),by kernel_rfl,(fun _ h=>by cases h),(fun _ _ h=>by cases h)⟩
 ·simp only[SE4]at h
  split at h
  ·cases h;exact⟨YlQ,Tryz.f38,Tryz.func38,by kernel_rfl,by kernel_rfl⟩
  ·cases h
 ·cases h
theorem prt_w(J:Job):(prtW J).ok YHk 108:=by
 refine Yag Tryz.func108 YBp YCT 900 (prtW J) (fun _=>rfl) (fun rest d h=>YxD h) fun rest d z hA=>?_
 replace hA:parA J rest d:=hA
 unfold parA at hA
 split at hA
 ·rename_i a b p f
  obtain⟨rfl,ha,hap,hpb,hb,hR⟩:=hA
  obtain⟨a,rfl⟩:=YHv ha
  obtain⟨p,rfl⟩:=YHv (show(0:Int)<=p by omega)
  obtain⟨b,rfl⟩:=YHv (show(0:Int)<=b by omega)
  have hN:=hR.1
  dsimp only[v108,cmpV,prtW,arrC,YHj,go_sem,reduceIte,YHf]
  simp only[Yc,YHf,YHh,reduceCtorEq,YHg]
  refine⟨⟨by omega,by omega⟩,by omega,⟨by omega,by omega⟩,by omega,⟨by omega,by omega⟩,by omega,⟨by omega,by omega⟩,by omega,?_⟩
  obtain⟨e,hed⟩:∃e,e=swp d a p:=⟨_,rfl⟩
  have hes:e.size=d.size:=by rw[hed];exact size_swp _ _ _
  have hRe:Rn J e:=by rw[hed];exact hR.swp (by omega) (by omega)
  obtain⟨i,hid⟩:∃i,i=a+1:=⟨_,rfl⟩
  obtain⟨j,hjd⟩:∃j,j=b-1:=⟨_,rfl⟩
  have hi0:IntKind.i64.wrap ((a:Int)+1)=(i:Int):=by rw[YHi _ (by omega)];omega
  have hj0:IntKind.i64.wrap ((b:Int)-1)=(j:Int):=by rw[YHi _ (by omega)];omega
  have hai:a<i:=by omega
  have hib:i<=b:=by omega
  have hjb:j<b:=by omega
  have hcel:∀k m n,leL m n (if k=p then Y7 (if p=a then [SV.int .i64 d[p]!]else [SV.int .i64 d[p]!]) 0 [SV.int .i64 d[a]!]else if k=a then [SV.int .i64 d[p]!]else [SV.int .i64 d[k]!]) (arrC e k):=fun k m n=>by
   have:=YU (d:=d) (i:=a) (j:=p) (by omega) (by omega) k
   unfold arrC at this
   rw[this,hed]
   exact of_eq_true (YcN _ _ _ _)
  replace hcel:=fun k=>hcel k 1 1
  refine Loop.keep [0,0,0,1] Nat (fun s=>[(12,.int .i64 s),(13,.int .i64 j)]) (fun s=>[(0,.own z 1 d.size (arrC e))]) [] (fun s=>i<=s/\s<=b/\scanUp (fun x=>ltS J.l x e[a]!) e j s=scanUp (fun x=>ltS J.l x e[a]!) e j i) (fun s=>b-s) ?_ ?_
  ·refine⟨i,⟨YHr _,hib,rfl⟩,?_⟩
   dsimp only[go_sem,reduceIte,YHf]
   first
   |rw[hi0,hj0]
   |skip
   simp only[Ya]
   try rw[YcY]
   first
   |exact⟨⟨by decide,trivial⟩,by decide,fun k hk=>of_eq_true (Yk _ _ _ _)⟩
   |exact⟨by decide,by decide,fun k hk=>of_eq_true (Yk _ _ _ _)⟩
   | (refine⟨⟨by decide,trivial⟩,by decide,fun k hk=>?_⟩;exact hcel k)
  rintro i' ⟨hii,hib',hsu⟩
  dsimp only[arrC,YfN,befC,Job.sv,encK,YHj,go_sem,reduceIte,YHf]
  simp only[Yc,YHf,YHh,reduceCtorEq,YHg]
  refine⟨fun h=>⟨by omega,by omega⟩,fun h=>by omega,fun h=>⟨by omega,by omega⟩,fun h=>by omega,J.l,fun h=>⟨⟨rfl,rfl,fun k _=>⟨⟨rfl,rfl⟩,⟨rfl,rfl⟩,trivial⟩⟩,hRe.2 i' (by omega),hRe.2 a (by omega)⟩,fun hc=>?_,fun hc=>?_⟩
  ·rw[YfE]at hc
   have hc2:=hc
   simp only[YHn,decide_eq_true_eq]at hc2
   refine⟨i'+1,⟨by omega,by omega,by rw[<-hsu];exact(Yeb hc2.1 (decide_eq_true hc2.2)).symm⟩,by omega,?_⟩
   rw[YHi ((i':Int)+1) (by omega)]
   simp only[Ya]
   exact⟨⟨by decide,rfl⟩,by decide,fun k hk=>of_eq_true (Yk _ _ _ _)⟩
  rw[YfE]at hc
  have hi2:scanUp (fun x=>ltS J.l x e[a]!) e j i=i':=by rw[<-hsu];exact Yec hc
  clear hsu hc
  refine Loop.keep [0,0,0,1,7] Nat (fun s=>[(13,.int .i64 s)]) (fun s=>[(0,.own z 1 d.size (arrC e))]) [] (fun s=>s<=j/\scanDown (fun x=>!ltS J.l x e[a]!) e i' s=scanDown (fun x=>!ltS J.l x e[a]!) e i' j) (fun s=>s) ?_ ?_
  ·refine⟨j,⟨YHr _,rfl⟩,?_⟩
   dsimp only[go_sem,reduceIte,YHf]
   simp only[Ya]
   exact⟨by decide,by decide,fun k hk=>of_eq_true (Yk _ _ _ _)⟩
  rintro j' ⟨hjj,hsd⟩
  dsimp only[arrC,YfN,befC,Job.sv,encK,YHj,go_sem,reduceIte,YHf]
  simp only[Yc,YHf,YHh,reduceCtorEq,YHg]
  refine⟨fun h=>⟨by omega,by omega⟩,fun h=>by omega,fun h=>⟨by omega,by omega⟩,fun h=>by omega,J.l,fun h=>⟨⟨rfl,rfl,fun k _=>⟨⟨rfl,rfl⟩,⟨rfl,rfl⟩,trivial⟩⟩,hRe.2 j' (by omega),hRe.2 a (by omega)⟩,fun hc=>?_,fun hc=>?_⟩
  ·rw[YfE]at hc
   have hc2:=hc
   simp only[YHn,decide_eq_true_eq]at hc2
   obtain⟨m,rfl⟩:∃m,j'=m+1:=⟨j'-1,by omega⟩
   refine⟨m,⟨by omega,by rw[<-hsd];exact(YcK hc2.1 hc2.2).symm⟩,by omega,?_⟩
   rw[YHi (((m+1:Nat):Int)-1) (by omega)]
   simp only[Ya]
   refine⟨⟨by decide,?_⟩,by decide,fun k hk=>of_eq_true (Yk _ _ _ _)⟩
   omega
  rw[YfE]at hc
  have hj2:scanDown (fun x=>!ltS J.l x e[a]!) e i' j=j':=by rw[<-hsd];exact YcL hc
  clear hsd hc
  have hii':i<=i':=by rw[<-hi2];exact scanUp_ge _ _ _ _
  have hjj':j'<=j:=hjj
  clear hcel hi0 hj0
  have hup:=scanUp_spec (fun x=>ltS J.l x e[a]!) e j _ i rfl
  have hpe:partition (ltS J.l) d a b p=if i'>j' then(j',true,swp e j' a)else((partLoop (ltS J.l) a (i'+1) (j'-1) (swp e i' j')).1,false,swp (partLoop (ltS J.l) a (i'+1) (j'-1) (swp e i' j')).2 (partLoop (ltS J.l) a (i'+1) (j'-1) (swp e i' j')).1 a):=by
   rw[<-hi2,<-hj2,hid,hjd,hed,<-hi2,hid,hjd,hed]
   rfl
  refine⟨fun hlt=>?_,fun hge=>?_⟩
  ·rw[if_pos (by omega)]at hpe
   refine⟨⟨by omega,by omega⟩,by omega,⟨by omega,by omega⟩,by omega,⟨by omega,by omega⟩,by omega,⟨by omega,by omega⟩,by omega,swp e j' a,(j',true),_,[],rfl,rfl,fun k hk=>?_,by rw[size_swp];exact hes,?_⟩
   ·have:=YU (d:=e) (i:=j') (j:=a) (by omega) (by omega) k
    unfold arrC at this
    exact this
   ·refine⟨?_,hRe.swp (by omega) (by omega)⟩
    show partition (ltS J.l) d (YH0 a) (YH0 b) (YH0 p)=(j',true,swp e j' a)
    rw[YHj,YHj,YHj]
    exact hpe
  ·rw[if_neg (by omega)]at hpe
   obtain⟨R0,hR0⟩:∃R0,R0=partLoop (ltS J.l) a (i'+1) (j'-1) (swp e i' j'):=⟨_,rfl⟩
   rw[<-hR0]at hpe
   refine⟨⟨by omega,by omega⟩,by omega,⟨by omega,by omega⟩,by omega,⟨by omega,by omega⟩,by omega,⟨by omega,by omega⟩,by omega,?_⟩
   refine Loop.keep [0,0,0,1] (Nat×Nat×Array Int) (fun s=>[(12,.int .i64 s.1),(13,.int .i64 s.2.1)]) (fun s=>[(0,.own z 1 d.size (arrC s.2.2))]) [] (fun s=>a<s.1/\s.1<=b/\s.2.1<b/\s.2.2.size=d.size/\Rn J s.2.2/\partLoop (ltS J.l) a s.1 s.2.1 s.2.2=R0) (fun s=>s.2.1+1-s.1) ?_ ?_
   ·refine⟨(i'+1,j'-1,swp e i' j'),⟨by show a<i'+1;omega,by show i'+1<=b;omega,by show j'-1<b;omega,by rw[size_swp];exact hes,hRe.swp (by omega) (by omega),hR0.symm⟩,?_⟩
    rw[YHi ((i':Int)+1) (by omega),YHi ((j':Int)-1) (by omega)]
    dsimp only[go_sem,reduceIte,YHf]
    simp only[Ya]
    refine⟨⟨by decide,by omega,by omega⟩,by decide,fun k hk=>?_⟩
    have:=YU (d:=e) (i:=i') (j:=j') (by omega) (by omega) k
    unfold arrC at this
    rw[this]
    exact of_eq_true (YcN _ _ _ _)
   rintro⟨i,j,e⟩ ⟨hai,hib,hjb,hes,hRe,heq⟩
   replace hai:a<i:=hai
   replace hib:i<=b:=hib
   replace hjb:j<b:=hjb
   replace hes:e.size=d.size:=hes
   replace hRe:Rn J e:=hRe
   replace heq:partLoop (ltS J.l) a i j e=R0:=heq
   dsimp only[go_sem,reduceIte,YHf]
   try simp only[Yc,YHf,YHh,reduceCtorEq,YHg]
   refine Loop.keep [0,0,0,1] Nat (fun s=>[(12,.int .i64 s),(13,.int .i64 j)]) (fun s=>[(0,.own z 1 d.size (arrC e))]) [] (fun s=>i<=s/\s<=b/\scanUp (fun x=>ltS J.l x e[a]!) e j s=scanUp (fun x=>ltS J.l x e[a]!) e j i) (fun s=>b-s) ?_ ?_
   ·refine⟨i,⟨YHr _,hib,rfl⟩,?_⟩
    dsimp only[go_sem,reduceIte,YHf]
    first
    |rw[hi0,hj0]
    |skip
    simp only[Ya]
    try rw[YcY]
    first
    |exact⟨⟨by decide,trivial⟩,by decide,fun k hk=>of_eq_true (Yk _ _ _ _)⟩
    |exact⟨by decide,by decide,fun k hk=>of_eq_true (Yk _ _ _ _)⟩
    | (refine⟨⟨by decide,trivial⟩,by decide,fun k hk=>?_⟩;exact hcel k)
   rintro i' ⟨hii,hib',hsu⟩
   dsimp only[arrC,YfN,befC,Job.sv,encK,YHj,go_sem,reduceIte,YHf]
   simp only[Yc,YHf,YHh,reduceCtorEq,YHg]
   refine⟨fun h=>⟨by omega,by omega⟩,fun h=>by omega,fun h=>⟨by omega,by omega⟩,fun h=>by omega,J.l,fun h=>⟨⟨rfl,rfl,fun k _=>⟨⟨rfl,rfl⟩,⟨rfl,rfl⟩,trivial⟩⟩,hRe.2 i' (by omega),hRe.2 a (by omega)⟩,fun hc=>?_,fun hc=>?_⟩
   ·rw[YfE]at hc
    have hc2:=hc
    simp only[YHn,decide_eq_true_eq]at hc2
    refine⟨i'+1,⟨by omega,by omega,by rw[<-hsu];exact(Yeb hc2.1 (decide_eq_true hc2.2)).symm⟩,by omega,?_⟩
    rw[YHi ((i':Int)+1) (by omega)]
    simp only[Ya]
    exact⟨⟨by decide,rfl⟩,by decide,fun k hk=>of_eq_true (Yk _ _ _ _)⟩
   rw[YfE]at hc
   have hi2:scanUp (fun x=>ltS J.l x e[a]!) e j i=i':=by rw[<-hsu];exact Yec hc
   clear hsu hc
   refine Loop.keep [0,0,0,1,7] Nat (fun s=>[(13,.int .i64 s)]) (fun s=>[(0,.own z 1 d.size (arrC e))]) [] (fun s=>s<=j/\scanDown (fun x=>!ltS J.l x e[a]!) e i' s=scanDown (fun x=>!ltS J.l x e[a]!) e i' j) (fun s=>s) ?_ ?_
   ·refine⟨j,⟨YHr _,rfl⟩,?_⟩
    dsimp only[go_sem,reduceIte,YHf]
    simp only[Ya]
    exact⟨by decide,by decide,fun k hk=>of_eq_true (Yk _ _ _ _)⟩
   rintro j' ⟨hjj,hsd⟩
   dsimp only[arrC,YfN,befC,Job.sv,encK,YHj,go_sem,reduceIte,YHf]
   simp only[Yc,YHf,YHh,reduceCtorEq,YHg]
   refine⟨fun h=>⟨by omega,by omega⟩,fun h=>by omega,fun h=>⟨by omega,by omega⟩,fun h=>by omega,J.l,fun h=>⟨⟨rfl,rfl,fun k _=>⟨⟨rfl,rfl⟩,⟨rfl,rfl⟩,trivial⟩⟩,hRe.2 j' (by omega),hRe.2 a (by omega)⟩,fun hc=>?_,fun hc=>?_⟩
   ·rw[YfE]at hc
    have hc2:=hc
    simp only[YHn,decide_eq_true_eq]at hc2
    obtain⟨m,rfl⟩:∃m,j'=m+1:=⟨j'-1,by omega⟩
    refine⟨m,⟨by omega,by rw[<-hsd];exact(YcK hc2.1 hc2.2).symm⟩,by omega,?_⟩
    rw[YHi (((m+1:Nat):Int)-1) (by omega)]
    simp only[Ya]
    refine⟨⟨by decide,?_⟩,by decide,fun k hk=>of_eq_true (Yk _ _ _ _)⟩
    omega
   rw[YfE]at hc
   have hj2:scanDown (fun x=>!ltS J.l x e[a]!) e i' j=j':=by rw[<-hsd];exact YcL hc
   clear hsd hc
   have hii':i<=i':=by rw[<-hi2];exact scanUp_ge _ _ _ _
   have hjj':j'<=j:=hjj
   have hst:=partLoop_eq (lt:=ltS J.l) a i j e
   rw[hi2,hj2]at hst
   refine⟨fun hlt=>?_,fun hge=>⟨⟨by omega,by omega⟩,by omega,⟨by omega,by omega⟩,by omega,⟨by omega,by omega⟩,by omega,⟨by omega,by omega⟩,by omega,(i'+1,j'-1,swp e i' j'),⟨by show a<i'+1;omega,by show i'+1<=b;omega,by show j'-1<b;omega,by rw[size_swp];exact hes,hRe.swp (by omega) (by omega),?_⟩,by show(j'-1)+1-(i'+1)<j+1-i;omega,?_⟩⟩
   ·rw[if_pos (by omega)]at hst
    rw[hst]at heq
    rw[<-heq]at hpe
    refine⟨⟨by omega,by omega⟩,by omega,⟨by omega,by omega⟩,by omega,⟨by omega,by omega⟩,by omega,⟨by omega,by omega⟩,by omega,swp e j' a,(j',false),_,[],rfl,rfl,fun k hk=>?_,by rw[size_swp];exact hes,?_⟩
    ·have:=YU (d:=e) (i:=j') (j:=a) (by omega) (by omega) k
     unfold arrC at this
     exact this
    ·refine⟨?_,hRe.swp (by omega) (by omega)⟩
     show partition (ltS J.l) d (YH0 a) (YH0 b) (YH0 p)=(j',false,swp e j' a)
     rw[YHj,YHj,YHj]
     exact hpe
   ·rw[<-heq,hst,if_neg (by omega)]
   ·rw[YHi ((i':Int)+1) (by omega),YHi ((j':Int)-1) (by omega)]
    simp only[Ya]
    refine⟨⟨by decide,by omega,by omega⟩,by decide,fun k hk=>?_⟩
    have:=YU (d:=e) (i:=i') (j:=j') (by omega) (by omega) k
    unfold arrC at this
    rw[this]
    exact of_eq_true (YcN _ _ _ _)
 ·exact hA.elim
def v72:VF:=⟨148,[],(ZR [u1 10 .mov [.cn (.bool true)]] (ZR [u1 11 .mov [.cn (.bool true)]] (.block 0 (.loop (.block 1 (ZR [Zm 21 2,Zm 22 1,Zo 23 .sub 21 22,Zm 12 23] (.seq (ZR [Zm 24 12,Zq 25 .leq 24 12] (ZC 25 (ZR [Zm 26 0,Zm 27 1,Zm 28 2,Zm 29 4,u1 30 (.call 101) [.tm 26,.tm 27,.tm 28,.tm 29]] .ret) .skip)) (.seq (ZR [Zm 31 3,Zq 32 .eql 31 0] (ZC 32 (ZR [Zm 33 0,Zm 34 1,Zm 35 2,Zm 36 4,u1 37 (.call 102) [.tm 33,.tm 34,.tm 35,.tm 36]] .ret) .skip)) (.seq (ZR [Zm 38 10,u1 39 .not [.tm 38]] (ZC 39 (ZR [Zm 40 0,Zm 41 1,Zm 42 2,Zm 43 4,u1 44 (.call 103) [.tm 40,.tm 41,.tm 42,.tm 43]] (.region [Zm 45 3,u1 46 (.ari .sub) [.tm 45,.cn (.int .i64 1)],Zm 3 46])) .skip)) (ZR [Zm 48 0,Zm 49 1,Zm 50 2,Zm 51 4,u1 52 (.call 104) [.tm 48,.tm 49,.tm 50,.tm 51],Zm 47 52,Ze 53 0 47,Ze 54 1 47,Zm 13 53,Zm 14 54] (.seq (ZR [Zm 55 14,Zq 56 .eql 55 2] (ZC 56 (ZR [Zm 57 0,Zm 58 1,Zm 59 2,Zm 60 4,u1 61 (.call 105) [.tm 57,.tm 58,.tm 59,.tm 60]] (ZR [Zm 62 2,u1 63 (.ari .sub) [.tm 62,.cn (.int .i64 1)],Zm 64 13,Zm 65 1,Zo 66 .sub 64 65,Zo 67 .sub 63 66,Zm 13 67] (.region [Zi 14 1]))) .skip)) (.seq (ZR [Zm 68 10,Zm 69 68,Zg 70 69 true 11,u1 71 .and [.tm 69,.tm 70],Zm 72 71,Zg 73 72 true 14,u2 74 72 true (.cmp .eql) [.tm 73,.cn (.int .i64 1)],u1 75 .and [.tm 72,.tm 74]] (ZC 75 (ZR [Zm 76 0,Zm 77 1,Zm 78 2,Zm 79 4,u1 80 (.call 106) [.tm 76,.tm 77,.tm 78,.tm 79]] (ZC 80 .ret .skip)) .skip)) (.seq (.seq (.draw [] [Zu 81 1,w1 82 (.cmp .gtr) [.tm 81,.cn (.int .i64 0)],Zu 83 82,⟨Zg 84 83 true 4,[]⟩,⟨Zg 85 83 true 0,[]⟩,⟨Zg 86 83 true 1,[]⟩,⟨u2 87 83 true (.ari .sub) [.tm 86,.cn (.int .i64 1)],[]⟩,⟨u2 88 83 true (.idxAddr 1) [.tm 85,.tm 87],[]⟩,⟨Zh 89 83 true 1 88,[]⟩,⟨Zg 90 83 true 0,[]⟩,⟨Zg 91 83 true 13,[]⟩,⟨u2 92 83 true (.idxAddr 1) [.tm 90,.tm 91],[]⟩,⟨Zh 93 83 true 1 92,[]⟩,⟨u2 94 83 true .callv [.tm 84,.tm 89,.tm 93],[]⟩,⟨u2 95 83 true (.cmp .lss) [.tm 94,.cn (.int .i64 0)],[]⟩,⟨u2 96 83 true .not [.tm 95],[]⟩,w1 97 .and [.tm 83,.tm 96]]) (ZC 97 (ZR [Zm 98 0,Zm 99 1,Zm 100 2,Zm 101 13,Zm 102 4,u1 103 (.call 107) [.tm 98,.tm 99,.tm 100,.tm 101,.tm 102],Zm 15 103] (ZR [Zm 104 15,Zm 1 104] (.exit 1))) .skip)) (ZR [Zm 106 0,Zm 107 1,Zm 108 2,Zm 109 13,Zm 110 4,u1 111 (.call 108) [.tm 106,.tm 107,.tm 108,.tm 109,.tm 110],Zm 105 111,Ze 112 0 105,Ze 113 1 105,Zm 16 112,Zm 17 113] (ZR [Zm 114 17,Zm 11 114] (ZR [Zm 115 16,Zm 116 1,Zo 117 .sub 115 116,Zm 118 2,Zm 119 16,Zo 120 .sub 118 119,Zm 18 117,Zm 19 120] (ZR [Zm 121 12,u1 122 .quo [.tm 121,.cn (.int .i64 8)],Zm 20 122] (ZR [Zm 123 18,Zm 124 19,Zr 125 .lss 123 124] (ZC 125 (ZR [Zm 126 18,Zm 127 20,Zr 128 .geq 126 127,Zm 10 128] (ZR [Zm 129 0,Zm 130 1,Zm 131 16,Zm 132 3,Zm 133 4,u1 134 (.call 72) [.tm 129,.tm 130,.tm 131,.tm 132,.tm 133]] (.region [Zm 135 16,Zp 136 135 1,Zm 1 136]))) (ZR [Zm 137 19,Zm 138 20,Zr 139 .geq 137 138,Zm 10 139] (ZR [Zm 140 0,Zm 141 16,Zp 142 141 1,Zm 143 2,Zm 144 3,Zm 145 4,u1 146 (.call 72) [.tm 140,.tm 142,.tm 143,.tm 144,.tm 145]] (.region [Zm 147 16,Zm 2 147]))))))))))))))))))))))⟩
theorem YGF:Ye YHk Tryz.f72=some v72:=by kernel_rfl
def pdqA(J:Job)(m:Nat)(rest:List SV)(d:Array Int):Prop:=
 match rest with
 | [.int .i64 a,.int .i64 b,.int .i64 li,f]=>f=cmpV J/\0<=a/\a<=b/\b<=d.size/\b-a<50/\b-a<m/\0<=li/\li<=1000/\Rn J d/\Go.Sort.Below (ltS J.l) a.toNat b.toNat d
 |_=>False
def pdqR(J:Job)(rest:List SV)(d d':Array Int):Prop:=
 match rest with
 | [.int _ a,.int _ b,_,_]=>PermIn a.toNat b.toNat d d'/\SortedIn (ltS J.l) a.toNat b.toNat d'
 |_=>True
def pdqW(J:Job)(m:Nat):WCtr:={ ρ:=Unit,res:=fun _=> .tup [],A:=pdqA J m,R:=fun rest d d' _=>pdqR J rest d d'}
theorem YEt{J:Job}{m:Nat}{rest:List SV}{d:Array Int}(h:pdqA J m rest d):YbC rest:=by
 unfold pdqA at h
 split at h
 ·obtain⟨rfl,_⟩:=h;exact⟨trivial,trivial,trivial,Yo7 J,trivial⟩
 ·exact h.elim
structure PS where
 a:Nat
 b:Nat
 li:Nat
 wb:Bool
 wp:Bool
 e:Array Int
structure PI (J:Job) (a0 b0:Nat) (d:Array Int) (a b:Nat) (e:Array Int):Prop where
 es:e.size=d.size
 rn:Rn J e
 bl:Go.Sort.Below (ltS J.l) a b e
 fin:∀R,PermIn a b e R->SortedIn (ltS J.l) a b R->PermIn a0 b0 d R/\SortedIn (ltS J.l) a0 b0 R
theorem PI.perm{J:Job}{a0 b0:Nat}{d:Array Int}{a b:Nat}{e g:Array Int}(h:PI J a0 b0 d a b e)(hb:b<=d.size)(hp:PermIn a b e g):PI J a0 b0 d a b g:=
 ⟨hp.1.trans h.es,h.rn.perm (by rw[h.es];exact hb) hp,h.bl.perm (by rw[h.es];exact hb) hp,fun R h1 h2=>h.fin R (permIn_trans _ _ _ _ _ hp h1) h2⟩
def SE11(J:Job)(m:Nat)(h:(pdqW J m).ok YHk 72):Env:={ ct:=fun n=>match n with|38=>some befC|_=>none,fn:=fun _=>none,meth:=fun _ _=>none,wc:=fun n=>match n with|101=>some (insW J) |102=>some (insW J) |103=>some (brkW J) |104=>some (pivW J) |105=>some (revW J) |106=>some (pinW J) |107=>some (peqW J) |108=>some (prtW J) |72=>some (pdqW J m) |_=>none}
theorem Yqg(J:Job)(m:Nat)(h:(pdqW J m).ok YHk 72):(SE11 J m h).ct 38=some befC:=rfl
theorem Yyz(J:Job)(m:Nat)(h:(pdqW J m).ok YHk 72):Yn YHk (SE11 J m h):=by
 refine⟨fun f c h=>?_,fun f vf h=>?_,(fun _ _ _ h=>by cases h),by kernel_rfl,(fun _ h=>by cases h),fun f c h=>?_⟩
 ·simp only[SE11]at h
  split at h
  ·cases h;exact⟨YlQ,Tryz.f38,Tryz.func38,by kernel_rfl,by kernel_rfl⟩
  ·cases h
 ·cases h
 ·simp only[SE11]at h
  split at h
  ·cases h;exact⟨(ins_w J),Tryz.f101,Tryz.func101,by kernel_rfl,by kernel_rfl⟩
  ·cases h;exact⟨(YDP J),Tryz.f102,Tryz.func102,by kernel_rfl,by kernel_rfl⟩
  ·cases h;exact⟨(brk_w J),Tryz.f103,Tryz.func103,by kernel_rfl,by kernel_rfl⟩
  ·cases h;exact⟨(piv_w J),Tryz.f104,Tryz.func104,by kernel_rfl,by kernel_rfl⟩
  ·cases h;exact⟨(rev_w J),Tryz.f105,Tryz.func105,by kernel_rfl,by kernel_rfl⟩
  ·cases h;exact⟨(pin_w J),Tryz.f106,Tryz.func106,by kernel_rfl,by kernel_rfl⟩
  ·cases h;exact⟨(peq_w J),Tryz.f107,Tryz.func107,by kernel_rfl,by kernel_rfl⟩
  ·cases h;exact⟨(prt_w J),Tryz.f108,Tryz.func108,by kernel_rfl,by kernel_rfl⟩
  ·cases h;exact⟨h,Tryz.f72,Tryz.func72,by kernel_rfl,by kernel_rfl⟩
  ·cases h
theorem Yov(J:Job)(m:Nat)(h:(pdqW J m).ok YHk 72):(SE11 J m h).ct 101=none:=rfl
theorem YoD(J:Job)(m:Nat)(h:(pdqW J m).ok YHk 72):(SE11 J m h).fn 101=none:=rfl
theorem YoL(J:Job)(m:Nat)(h:(pdqW J m).ok YHk 72):(SE11 J m h).wc 101=some (insW J):=rfl
theorem Yow(J:Job)(m:Nat)(h:(pdqW J m).ok YHk 72):(SE11 J m h).ct 102=none:=rfl
theorem YoE(J:Job)(m:Nat)(h:(pdqW J m).ok YHk 72):(SE11 J m h).fn 102=none:=rfl
theorem YoM(J:Job)(m:Nat)(h:(pdqW J m).ok YHk 72):(SE11 J m h).wc 102=some (insW J):=rfl
theorem Yox(J:Job)(m:Nat)(h:(pdqW J m).ok YHk 72):(SE11 J m h).ct 103=none:=rfl
theorem YoF(J:Job)(m:Nat)(h:(pdqW J m).ok YHk 72):(SE11 J m h).fn 103=none:=rfl
theorem YoN(J:Job)(m:Nat)(h:(pdqW J m).ok YHk 72):(SE11 J m h).wc 103=some (brkW J):=rfl
theorem Yoy(J:Job)(m:Nat)(h:(pdqW J m).ok YHk 72):(SE11 J m h).ct 104=none:=rfl
theorem YoG(J:Job)(m:Nat)(h:(pdqW J m).ok YHk 72):(SE11 J m h).fn 104=none:=rfl
theorem YoO(J:Job)(m:Nat)(h:(pdqW J m).ok YHk 72):(SE11 J m h).wc 104=some (pivW J):=rfl
theorem Yoz(J:Job)(m:Nat)(h:(pdqW J m).ok YHk 72):(SE11 J m h).ct 105=none:=rfl
theorem YoH(J:Job)(m:Nat)(h:(pdqW J m).ok YHk 72):(SE11 J m h).fn 105=none:=rfl
theorem YoP(J:Job)(m:Nat)(h:(pdqW J m).ok YHk 72):(SE11 J m h).wc 105=some (revW J):=rfl
theorem YoA(J:Job)(m:Nat)(h:(pdqW J m).ok YHk 72):(SE11 J m h).ct 106=none:=rfl
theorem YoI(J:Job)(m:Nat)(h:(pdqW J m).ok YHk 72):(SE11 J m h).fn 106=none:=rfl
theorem YoQ(J:Job)(m:Nat)(h:(pdqW J m).ok YHk 72):(SE11 J m h).wc 106=some (pinW J):=rfl
theorem YoB(J:Job)(m:Nat)(h:(pdqW J m).ok YHk 72):(SE11 J m h).ct 107=none:=rfl
theorem YoJ(J:Job)(m:Nat)(h:(pdqW J m).ok YHk 72):(SE11 J m h).fn 107=none:=rfl
theorem YoR(J:Job)(m:Nat)(h:(pdqW J m).ok YHk 72):(SE11 J m h).wc 107=some (peqW J):=rfl
theorem YoC(J:Job)(m:Nat)(h:(pdqW J m).ok YHk 72):(SE11 J m h).ct 108=none:=rfl
theorem YoK(J:Job)(m:Nat)(h:(pdqW J m).ok YHk 72):(SE11 J m h).fn 108=none:=rfl
theorem YoS(J:Job)(m:Nat)(h:(pdqW J m).ok YHk 72):(SE11 J m h).wc 108=some (prtW J):=rfl
theorem Yqh(J:Job)(m:Nat)(h:(pdqW J m).ok YHk 72):(SE11 J m h).ct 72=none:=rfl
theorem Yqi(J:Job)(m:Nat)(h:(pdqW J m).ok YHk 72):(SE11 J m h).fn 72=none:=rfl
theorem Yqj(J:Job)(m:Nat)(h:(pdqW J m).ok YHk 72):(SE11 J m h).wc 72=some (pdqW J m):=rfl
theorem Ywe(J:Job)(m:Nat)(hm:(pdqW J m).ok YHk 72):(pdqW J (m+1)).ok YHk 72:=by
 refine Yag Tryz.func72 YGF (Yyz J m hm) 900 (pdqW J (m+1)) (fun _=>rfl) (fun rest d h=>YEt h) fun rest d z hA=>?_
 replace hA:pdqA J (m+1) rest d:=hA
 unfold pdqA at hA
 split at hA
 ·rename_i a0 b0 li0 f
  obtain⟨rfl,ha,hab,hb,hlen,hlm,hl0,hl1,hR,hB⟩:=hA
  obtain⟨a0,rfl⟩:=YHv ha
  obtain⟨b0,rfl⟩:=YHv (show(0:Int)<=b0 by omega)
  obtain⟨li0,rfl⟩:=YHv hl0
  rw[YHj,YHj]at hB
  have hN:=hR.1
  dsimp only[v72,cmpV,pdqW,go_sem,reduceIte,YHf]
  try simp only[Yc,YHf,YHh,reduceCtorEq,YHg]
  refine Loop.keep [0,3] PS (fun s=>[(1,.int .i64 s.a),(2,.int .i64 s.b),(3,.int .i64 s.li),(10,.bool s.wb),(11,.bool s.wp)]) (fun s=>[(0,.own z 1 d.size (arrC s.e))]) [] (fun s=>a0<=s.a/\s.a<=s.b/\s.b<=b0/\s.li<=1000/\s.e.size=d.size/\Rn J s.e/\Go.Sort.Below (ltS J.l) s.a s.b s.e/\(∀R,PermIn s.a s.b s.e R->SortedIn (ltS J.l) s.a s.b R->PermIn a0 b0 d R/\SortedIn (ltS J.l) a0 b0 R)) (fun s=>s.b-s.a) ?_ ?_
  ·refine⟨⟨a0,b0,li0,true,true,d⟩,⟨YHr _,by show a0<=b0;omega,YHr _,by show li0<=1000;omega,rfl,hR,hB,fun R h1 h2=>⟨h1,h2⟩⟩,?_⟩
   dsimp only[go_sem,reduceIte,YHf]
   simp only[Ya]
   exact⟨⟨by decide,Ydy J 1⟩,by decide,fun k hk=>of_eq_true (Yk _ _ _ _)⟩
  rintro⟨a,b,li,wb,wpt,e⟩ ⟨haa,hab',hbb,hli,hes,hRe,hBe,hfin⟩
  replace haa:a0<=a:=haa
  replace hab':a<=b:=hab'
  replace hbb:b<=b0:=hbb
  replace hli:li<=1000:=hli
  replace hes:e.size=d.size:=hes
  replace hRe:Rn J e:=hRe
  replace hBe:Go.Sort.Below (ltS J.l) a b e:=hBe
  replace hfin:∀R,PermIn a b e R->SortedIn (ltS J.l) a b R->PermIn a0 b0 d R/\SortedIn (ltS J.l) a0 b0 R:=hfin
  dsimp only[Yqg,Yov,YoD,YoL,Yow,YoE,YoM,Yox,YoF,YoN,Yoy,YoG,YoO,Yoz,YoH,YoP,YoA,YoI,YoQ,YoB,YoJ,YoR,YoC,YoK,YoS,Yqh,Yqi,Yqj,insW,brkW,pivW,revW,pinW,peqW,prtW,pdqW,befC,Job.sv,encK,arrC,YHj,go_sem,reduceIte,YHf]
  simp only[Yc,YHf,YHh,reduceCtorEq,YHg]
  have hI:PI J a0 b0 d a b e:=⟨hes,hRe,hBe,hfin⟩
  clear hRe hBe hfin
  have wlen:IntKind.i64.wrap ((b:Int)-(a:Int))=((b-a:Nat):Int):=by rw[YHi _ (by omega)];omega
  refine⟨fun h12=>?_,fun h12=>⟨fun hl=>?_,fun hl=>⟨fun hwb=>?_,fun hwb=>?_⟩⟩⟩
  ·refine⟨rfl,_,⟨hI.es,fun _ _=>rfl⟩,⟨rfl,by omega,by omega,by omega,hI.rn⟩,fun g hgs hq=>?_⟩
   exact⟨g,(),arrC g,[],rfl,fun _ _=>rfl,hgs,hI.fin g hq.1 hq.2⟩
  ·refine⟨rfl,_,⟨hI.es,fun _ _=>rfl⟩,⟨rfl,by omega,by omega,by omega,hI.rn⟩,fun g hgs hq=>?_⟩
   exact⟨g,(),arrC g,[],rfl,fun _ _=>rfl,hgs,hI.fin g hq.1 hq.2⟩
  ·rw[wlen]at h12
   refine⟨rfl,_,⟨hI.es,fun _ _=>rfl⟩,⟨rfl,by omega,by omega,by omega,by omega,hI.rn⟩,fun g hgs hq=>?_⟩
   replace hI:=hI.perm (by omega) hq
   obtain⟨lj,hljd⟩:∃lj,lj=li-1:=⟨_,rfl⟩
   have hlj:lj<=1000:=by omega
   have wli:IntKind.i64.wrap ((li:Int)-1)=(lj:Int):=by rw[YHi _ (by omega)];omega
   rw[wli]
   clear hq hes hgs
   have hes:=hI.es
   refine⟨rfl,_,⟨hI.es,fun _ _=>rfl⟩,⟨rfl,by omega,by omega,by omega,by omega,hI.rn⟩,fun g x hgs hq=>?_⟩
   obtain⟨p,hint⟩:=x
   obtain⟨rfl,hp1,hp2⟩:g=_/\a<=p/\p<b:=hq
   refine⟨by decide,by decide,fun hd=>?_,fun hd=>?_⟩
   ·refine⟨rfl,_,⟨hI.es,fun _ _=>rfl⟩,⟨rfl,by omega,by omega,by omega,hI.rn⟩,fun g hgs hq=>?_⟩
    replace hI:=hI.perm (by omega) hq
    obtain⟨q,hqd⟩:∃q,q=(b-1)-(p-a):=⟨_,rfl⟩
    have wpv:IntKind.i64.wrap (IntKind.i64.wrap ((b:Int)-1)-IntKind.i64.wrap ((p:Int)-(a:Int)))=(q:Int):=by
     rw[YHi ((b:Int)-1) (by omega),YHi ((p:Int)-(a:Int)) (by omega),YHi _ (by omega)];omega
    rw[wpv,YHj]
    have hp3:a<=q/\q<b:=by omega
    refine⟨fun hc=>?_,fun hc=>?_⟩
    ·have hes:=hI.es
     refine⟨rfl,_,⟨hI.es,fun _ _=>rfl⟩,⟨rfl,by omega,by omega,by omega,by omega,hI.rn⟩,fun g x hgs hq=>?_⟩
     obtain⟨rfl,hsrt⟩:=hq
     refine⟨fun hx=>⟨g,(),arrC g,[],rfl,fun _ _=>rfl,hgs,hI.fin g (permIn_refl _ _ _) (hsrt hx)⟩,fun hx=>?_⟩
     have hes:=hI.es
     have wa:0<a->IntKind.i64.wrap ((a:Int)-1)=((a-1:Nat):Int):=fun h=>by rw[YHi _ (by omega)];omega
     refine⟨fun h=>by rw[wa (by omega)];omega,fun h=>by rw[wa (by omega)];omega,fun h=>by omega,fun h=>by omega,J.l,fun h=>⟨⟨rfl,rfl,fun k _=>⟨⟨rfl,rfl⟩,⟨rfl,rfl⟩,trivial⟩⟩,?_,hI.rn.2 _ (by omega)⟩,fun hc=>?_,fun hc=>?_⟩
     ·rw[wa (by omega)]
      exact hI.rn.2 _ (by omega)
     ·rw[YHn,decide_eq_true_eq,YHD]at hc
      obtain⟨hc1,hc2⟩:=hc
      have ha0:0<a:=by omega
      rw[wa ha0]at hc2
      refine⟨rfl,_,⟨hI.es,fun _ _=>rfl⟩,⟨rfl,by omega,by omega,by omega,by omega,hI.rn⟩,fun g mid hgs hq=>?_⟩
      obtain⟨hq,hRg⟩:=hq
      obtain⟨k1,k2,k3,k4,k5⟩:=round_eq (Y5 J.l) (partitionEqual_holds _) ha0 hp3.1 hp3.2 (by omega) hI.bl hc2 hq
      refine⟨⟨mid,b,lj,wb,wpt,g⟩,⟨by show a0<=mid;omega,k2,hbb,hlj,hgs,hRg,k4,fun R h1 h2=>hI.fin R (k5 R h1 h2).1 (k5 R h1 h2).2⟩,by show b-mid<b-a;omega,?_⟩
      simp only[Ya]
      exact⟨by decide,by decide,fun k hk=>of_eq_true (Yk _ _ _ _)⟩
     ·clear hc
      refine⟨rfl,_,⟨hI.es,fun _ _=>rfl⟩,⟨rfl,by omega,by omega,by omega,by omega,hI.rn⟩,fun g x hgs hq=>?_⟩
      obtain⟨mid,ap⟩:=x
      obtain⟨hq,hRg⟩:=hq
      obtain⟨k1,k2,k3,k4,k5,k6,k7⟩:=round_part (Y5 J.l) (partition_holds _) hp3.1 hp3.2 (by omega) hI.bl hq
      have wm:IntKind.i64.wrap ((mid:Int)+1)=((mid+1:Nat):Int):=by rw[YHi _ (by omega)];omega
      refine⟨by decide,by decide,by decide,fun hlr=>?_,fun hlr=>?_⟩
      ·refine⟨rfl,_,⟨hgs,fun _ _=>rfl⟩,⟨rfl,by omega,by omega,by omega,by omega,by omega,by omega,by omega,hRg,k4⟩,fun L hLs hL=>?_⟩
       obtain⟨l1,l2⟩:PermIn a mid g L/\SortedIn (ltS J.l) a mid L:=hL
       obtain⟨m1,m2⟩:=k6 L l1 l2
       refine⟨⟨mid+1,b,lj,decide (IntKind.i64.wrap ((IntKind.i64.wrap ((b:Int)-(a:Int))).tdiv 8)<=IntKind.i64.wrap ((mid:Int)-(a:Int))),ap,L⟩,⟨by show a0<=mid+1;omega,by show mid+1<=b;omega,hbb,hlj,hLs,hRg.perm (by omega) l1,m1,fun R h1 h2=>hI.fin R (m2 R h1 h2).1 (m2 R h1 h2).2⟩,by show b-(mid+1)<b-a;omega,?_⟩
       rw[wm]
       simp only[Ya]
       exact⟨by decide,by decide,fun k hk=>of_eq_true (Yk _ _ _ _)⟩
      ·rw[wm]
       refine⟨rfl,_,⟨hgs,fun _ _=>rfl⟩,⟨rfl,by omega,by omega,by omega,by omega,by omega,by omega,by omega,hRg,k5⟩,fun L hLs hL=>?_⟩
       obtain⟨l1,l2⟩:PermIn (mid+1) b g L/\SortedIn (ltS J.l) (mid+1) b L:=hL
       obtain⟨m1,m2⟩:=k7 L l1 l2
       refine⟨⟨a,mid,lj,decide (IntKind.i64.wrap ((IntKind.i64.wrap ((b:Int)-(a:Int))).tdiv 8)<=IntKind.i64.wrap ((b:Int)-(mid:Int))),ap,L⟩,⟨haa,k1,by show mid<=b0;omega,hlj,hLs,hRg.perm (by omega) l1,m1,fun R h1 h2=>hI.fin R (m2 R h1 h2).1 (m2 R h1 h2).2⟩,by show mid-a<b-a;omega,?_⟩
       simp only[Ya]
       exact⟨by decide,by decide,fun k hk=>of_eq_true (Yk _ _ _ _)⟩
    ·have hes:=hI.es
     have wa:0<a->IntKind.i64.wrap ((a:Int)-1)=((a-1:Nat):Int):=fun h=>by rw[YHi _ (by omega)];omega
     refine⟨fun h=>by rw[wa (by omega)];omega,fun h=>by rw[wa (by omega)];omega,fun h=>by omega,fun h=>by omega,J.l,fun h=>⟨⟨rfl,rfl,fun k _=>⟨⟨rfl,rfl⟩,⟨rfl,rfl⟩,trivial⟩⟩,?_,hI.rn.2 _ (by omega)⟩,fun hc=>?_,fun hc=>?_⟩
     ·rw[wa (by omega)]
      exact hI.rn.2 _ (by omega)
     ·rw[YHn,decide_eq_true_eq,YHD]at hc
      obtain⟨hc1,hc2⟩:=hc
      have ha0:0<a:=by omega
      rw[wa ha0]at hc2
      refine⟨rfl,_,⟨hI.es,fun _ _=>rfl⟩,⟨rfl,by omega,by omega,by omega,by omega,hI.rn⟩,fun g mid hgs hq=>?_⟩
      obtain⟨hq,hRg⟩:=hq
      obtain⟨k1,k2,k3,k4,k5⟩:=round_eq (Y5 J.l) (partitionEqual_holds _) ha0 hp3.1 hp3.2 (by omega) hI.bl hc2 hq
      refine⟨⟨mid,b,lj,wb,wpt,g⟩,⟨by show a0<=mid;omega,k2,hbb,hlj,hgs,hRg,k4,fun R h1 h2=>hI.fin R (k5 R h1 h2).1 (k5 R h1 h2).2⟩,by show b-mid<b-a;omega,?_⟩
      simp only[Ya]
      exact⟨by decide,by decide,fun k hk=>of_eq_true (Yk _ _ _ _)⟩
     ·clear hc
      refine⟨rfl,_,⟨hI.es,fun _ _=>rfl⟩,⟨rfl,by omega,by omega,by omega,by omega,hI.rn⟩,fun g x hgs hq=>?_⟩
      obtain⟨mid,ap⟩:=x
      obtain⟨hq,hRg⟩:=hq
      obtain⟨k1,k2,k3,k4,k5,k6,k7⟩:=round_part (Y5 J.l) (partition_holds _) hp3.1 hp3.2 (by omega) hI.bl hq
      have wm:IntKind.i64.wrap ((mid:Int)+1)=((mid+1:Nat):Int):=by rw[YHi _ (by omega)];omega
      refine⟨by decide,by decide,by decide,fun hlr=>?_,fun hlr=>?_⟩
      ·refine⟨rfl,_,⟨hgs,fun _ _=>rfl⟩,⟨rfl,by omega,by omega,by omega,by omega,by omega,by omega,by omega,hRg,k4⟩,fun L hLs hL=>?_⟩
       obtain⟨l1,l2⟩:PermIn a mid g L/\SortedIn (ltS J.l) a mid L:=hL
       obtain⟨m1,m2⟩:=k6 L l1 l2
       refine⟨⟨mid+1,b,lj,decide (IntKind.i64.wrap ((IntKind.i64.wrap ((b:Int)-(a:Int))).tdiv 8)<=IntKind.i64.wrap ((mid:Int)-(a:Int))),ap,L⟩,⟨by show a0<=mid+1;omega,by show mid+1<=b;omega,hbb,hlj,hLs,hRg.perm (by omega) l1,m1,fun R h1 h2=>hI.fin R (m2 R h1 h2).1 (m2 R h1 h2).2⟩,by show b-(mid+1)<b-a;omega,?_⟩
       rw[wm]
       simp only[Ya]
       exact⟨by decide,by decide,fun k hk=>of_eq_true (Yk _ _ _ _)⟩
      ·rw[wm]
       refine⟨rfl,_,⟨hgs,fun _ _=>rfl⟩,⟨rfl,by omega,by omega,by omega,by omega,by omega,by omega,by omega,hRg,k5⟩,fun L hLs hL=>?_⟩
       obtain⟨l1,l2⟩:PermIn (mid+1) b g L/\SortedIn (ltS J.l) (mid+1) b L:=hL
       obtain⟨m1,m2⟩:=k7 L l1 l2
       refine⟨⟨a,mid,lj,decide (IntKind.i64.wrap ((IntKind.i64.wrap ((b:Int)-(a:Int))).tdiv 8)<=IntKind.i64.wrap ((b:Int)-(mid:Int))),ap,L⟩,⟨haa,k1,by show mid<=b0;omega,hlj,hLs,hRg.perm (by omega) l1,m1,fun R h1 h2=>hI.fin R (m2 R h1 h2).1 (m2 R h1 h2).2⟩,by show mid-a<b-a;omega,?_⟩
       simp only[Ya]
       exact⟨by decide,by decide,fun k hk=>of_eq_true (Yk _ _ _ _)⟩
   ·have hp3:a<=p/\p<b:=⟨hp1,hp2⟩
    refine⟨fun hc=>?_,fun hc=>?_⟩
    ·have hes:=hI.es
     refine⟨rfl,_,⟨hI.es,fun _ _=>rfl⟩,⟨rfl,by omega,by omega,by omega,by omega,hI.rn⟩,fun g x hgs hq=>?_⟩
     obtain⟨rfl,hsrt⟩:=hq
     refine⟨fun hx=>⟨g,(),arrC g,[],rfl,fun _ _=>rfl,hgs,hI.fin g (permIn_refl _ _ _) (hsrt hx)⟩,fun hx=>?_⟩
     have hes:=hI.es
     have wa:0<a->IntKind.i64.wrap ((a:Int)-1)=((a-1:Nat):Int):=fun h=>by rw[YHi _ (by omega)];omega
     refine⟨fun h=>by rw[wa (by omega)];omega,fun h=>by rw[wa (by omega)];omega,fun h=>by omega,fun h=>by omega,J.l,fun h=>⟨⟨rfl,rfl,fun k _=>⟨⟨rfl,rfl⟩,⟨rfl,rfl⟩,trivial⟩⟩,?_,hI.rn.2 _ (by omega)⟩,fun hc=>?_,fun hc=>?_⟩
     ·rw[wa (by omega)]
      exact hI.rn.2 _ (by omega)
     ·rw[YHn,decide_eq_true_eq,YHD]at hc
      obtain⟨hc1,hc2⟩:=hc
      have ha0:0<a:=by omega
      rw[wa ha0]at hc2
      refine⟨rfl,_,⟨hI.es,fun _ _=>rfl⟩,⟨rfl,by omega,by omega,by omega,by omega,hI.rn⟩,fun g mid hgs hq=>?_⟩
      obtain⟨hq,hRg⟩:=hq
      obtain⟨k1,k2,k3,k4,k5⟩:=round_eq (Y5 J.l) (partitionEqual_holds _) ha0 hp3.1 hp3.2 (by omega) hI.bl hc2 hq
      refine⟨⟨mid,b,lj,wb,wpt,g⟩,⟨by show a0<=mid;omega,k2,hbb,hlj,hgs,hRg,k4,fun R h1 h2=>hI.fin R (k5 R h1 h2).1 (k5 R h1 h2).2⟩,by show b-mid<b-a;omega,?_⟩
      simp only[Ya]
      exact⟨by decide,by decide,fun k hk=>of_eq_true (Yk _ _ _ _)⟩
     ·clear hc
      refine⟨rfl,_,⟨hI.es,fun _ _=>rfl⟩,⟨rfl,by omega,by omega,by omega,by omega,hI.rn⟩,fun g x hgs hq=>?_⟩
      obtain⟨mid,ap⟩:=x
      obtain⟨hq,hRg⟩:=hq
      obtain⟨k1,k2,k3,k4,k5,k6,k7⟩:=round_part (Y5 J.l) (partition_holds _) hp3.1 hp3.2 (by omega) hI.bl hq
      have wm:IntKind.i64.wrap ((mid:Int)+1)=((mid+1:Nat):Int):=by rw[YHi _ (by omega)];omega
      refine⟨by decide,by decide,by decide,fun hlr=>?_,fun hlr=>?_⟩
      ·refine⟨rfl,_,⟨hgs,fun _ _=>rfl⟩,⟨rfl,by omega,by omega,by omega,by omega,by omega,by omega,by omega,hRg,k4⟩,fun L hLs hL=>?_⟩
       obtain⟨l1,l2⟩:PermIn a mid g L/\SortedIn (ltS J.l) a mid L:=hL
       obtain⟨m1,m2⟩:=k6 L l1 l2
       refine⟨⟨mid+1,b,lj,decide (IntKind.i64.wrap ((IntKind.i64.wrap ((b:Int)-(a:Int))).tdiv 8)<=IntKind.i64.wrap ((mid:Int)-(a:Int))),ap,L⟩,⟨by show a0<=mid+1;omega,by show mid+1<=b;omega,hbb,hlj,hLs,hRg.perm (by omega) l1,m1,fun R h1 h2=>hI.fin R (m2 R h1 h2).1 (m2 R h1 h2).2⟩,by show b-(mid+1)<b-a;omega,?_⟩
       rw[wm]
       simp only[Ya]
       exact⟨by decide,by decide,fun k hk=>of_eq_true (Yk _ _ _ _)⟩
      ·rw[wm]
       refine⟨rfl,_,⟨hgs,fun _ _=>rfl⟩,⟨rfl,by omega,by omega,by omega,by omega,by omega,by omega,by omega,hRg,k5⟩,fun L hLs hL=>?_⟩
       obtain⟨l1,l2⟩:PermIn (mid+1) b g L/\SortedIn (ltS J.l) (mid+1) b L:=hL
       obtain⟨m1,m2⟩:=k7 L l1 l2
       refine⟨⟨a,mid,lj,decide (IntKind.i64.wrap ((IntKind.i64.wrap ((b:Int)-(a:Int))).tdiv 8)<=IntKind.i64.wrap ((b:Int)-(mid:Int))),ap,L⟩,⟨haa,k1,by show mid<=b0;omega,hlj,hLs,hRg.perm (by omega) l1,m1,fun R h1 h2=>hI.fin R (m2 R h1 h2).1 (m2 R h1 h2).2⟩,by show mid-a<b-a;omega,?_⟩
       simp only[Ya]
       exact⟨by decide,by decide,fun k hk=>of_eq_true (Yk _ _ _ _)⟩
    ·have hes:=hI.es
     have wa:0<a->IntKind.i64.wrap ((a:Int)-1)=((a-1:Nat):Int):=fun h=>by rw[YHi _ (by omega)];omega
     refine⟨fun h=>by rw[wa (by omega)];omega,fun h=>by rw[wa (by omega)];omega,fun h=>by omega,fun h=>by omega,J.l,fun h=>⟨⟨rfl,rfl,fun k _=>⟨⟨rfl,rfl⟩,⟨rfl,rfl⟩,trivial⟩⟩,?_,hI.rn.2 _ (by omega)⟩,fun hc=>?_,fun hc=>?_⟩
     ·rw[wa (by omega)]
      exact hI.rn.2 _ (by omega)
     ·rw[YHn,decide_eq_true_eq,YHD]at hc
      obtain⟨hc1,hc2⟩:=hc
      have ha0:0<a:=by omega
      rw[wa ha0]at hc2
      refine⟨rfl,_,⟨hI.es,fun _ _=>rfl⟩,⟨rfl,by omega,by omega,by omega,by omega,hI.rn⟩,fun g mid hgs hq=>?_⟩
      obtain⟨hq,hRg⟩:=hq
      obtain⟨k1,k2,k3,k4,k5⟩:=round_eq (Y5 J.l) (partitionEqual_holds _) ha0 hp3.1 hp3.2 (by omega) hI.bl hc2 hq
      refine⟨⟨mid,b,lj,wb,wpt,g⟩,⟨by show a0<=mid;omega,k2,hbb,hlj,hgs,hRg,k4,fun R h1 h2=>hI.fin R (k5 R h1 h2).1 (k5 R h1 h2).2⟩,by show b-mid<b-a;omega,?_⟩
      simp only[Ya]
      exact⟨by decide,by decide,fun k hk=>of_eq_true (Yk _ _ _ _)⟩
     ·clear hc
      refine⟨rfl,_,⟨hI.es,fun _ _=>rfl⟩,⟨rfl,by omega,by omega,by omega,by omega,hI.rn⟩,fun g x hgs hq=>?_⟩
      obtain⟨mid,ap⟩:=x
      obtain⟨hq,hRg⟩:=hq
      obtain⟨k1,k2,k3,k4,k5,k6,k7⟩:=round_part (Y5 J.l) (partition_holds _) hp3.1 hp3.2 (by omega) hI.bl hq
      have wm:IntKind.i64.wrap ((mid:Int)+1)=((mid+1:Nat):Int):=by rw[YHi _ (by omega)];omega
      refine⟨by decide,by decide,by decide,fun hlr=>?_,fun hlr=>?_⟩
      ·refine⟨rfl,_,⟨hgs,fun _ _=>rfl⟩,⟨rfl,by omega,by omega,by omega,by omega,by omega,by omega,by omega,hRg,k4⟩,fun L hLs hL=>?_⟩
       obtain⟨l1,l2⟩:PermIn a mid g L/\SortedIn (ltS J.l) a mid L:=hL
       obtain⟨m1,m2⟩:=k6 L l1 l2
       refine⟨⟨mid+1,b,lj,decide (IntKind.i64.wrap ((IntKind.i64.wrap ((b:Int)-(a:Int))).tdiv 8)<=IntKind.i64.wrap ((mid:Int)-(a:Int))),ap,L⟩,⟨by show a0<=mid+1;omega,by show mid+1<=b;omega,hbb,hlj,hLs,hRg.perm (by omega) l1,m1,fun R h1 h2=>hI.fin R (m2 R h1 h2).1 (m2 R h1 h2).2⟩,by show b-(mid+1)<b-a;omega,?_⟩
       rw[wm]
       simp only[Ya]
       exact⟨by decide,by decide,fun k hk=>of_eq_true (Yk _ _ _ _)⟩
      ·rw[wm]
       refine⟨rfl,_,⟨hgs,fun _ _=>rfl⟩,⟨rfl,by omega,by omega,by omega,by omega,by omega,by omega,by omega,hRg,k5⟩,fun L hLs hL=>?_⟩
       obtain⟨l1,l2⟩:PermIn (mid+1) b g L/\SortedIn (ltS J.l) (mid+1) b L:=hL
       obtain⟨m1,m2⟩:=k7 L l1 l2
       refine⟨⟨a,mid,lj,decide (IntKind.i64.wrap ((IntKind.i64.wrap ((b:Int)-(a:Int))).tdiv 8)<=IntKind.i64.wrap ((b:Int)-(mid:Int))),ap,L⟩,⟨haa,k1,by show mid<=b0;omega,hlj,hLs,hRg.perm (by omega) l1,m1,fun R h1 h2=>hI.fin R (m2 R h1 h2).1 (m2 R h1 h2).2⟩,by show mid-a<b-a;omega,?_⟩
       simp only[Ya]
       exact⟨by decide,by decide,fun k hk=>of_eq_true (Yk _ _ _ _)⟩
  ·rw[wlen]at h12
   obtain⟨lj,rfl⟩:∃lj,lj=li:=⟨_,rfl⟩
   have hlj:lj<=1000:=hli
   have hes:=hI.es
   refine⟨rfl,_,⟨hI.es,fun _ _=>rfl⟩,⟨rfl,by omega,by omega,by omega,by omega,hI.rn⟩,fun g x hgs hq=>?_⟩
   obtain⟨p,hint⟩:=x
   obtain⟨rfl,hp1,hp2⟩:g=_/\a<=p/\p<b:=hq
   refine⟨by decide,by decide,fun hd=>?_,fun hd=>?_⟩
   ·refine⟨rfl,_,⟨hI.es,fun _ _=>rfl⟩,⟨rfl,by omega,by omega,by omega,hI.rn⟩,fun g hgs hq=>?_⟩
    replace hI:=hI.perm (by omega) hq
    obtain⟨q,hqd⟩:∃q,q=(b-1)-(p-a):=⟨_,rfl⟩
    have wpv:IntKind.i64.wrap (IntKind.i64.wrap ((b:Int)-1)-IntKind.i64.wrap ((p:Int)-(a:Int)))=(q:Int):=by
     rw[YHi ((b:Int)-1) (by omega),YHi ((p:Int)-(a:Int)) (by omega),YHi _ (by omega)];omega
    rw[wpv,YHj]
    have hp3:a<=q/\q<b:=by omega
    refine⟨fun hc=>?_,fun hc=>?_⟩
    ·have hes:=hI.es
     refine⟨rfl,_,⟨hI.es,fun _ _=>rfl⟩,⟨rfl,by omega,by omega,by omega,by omega,hI.rn⟩,fun g x hgs hq=>?_⟩
     obtain⟨rfl,hsrt⟩:=hq
     refine⟨fun hx=>⟨g,(),arrC g,[],rfl,fun _ _=>rfl,hgs,hI.fin g (permIn_refl _ _ _) (hsrt hx)⟩,fun hx=>?_⟩
     have hes:=hI.es
     have wa:0<a->IntKind.i64.wrap ((a:Int)-1)=((a-1:Nat):Int):=fun h=>by rw[YHi _ (by omega)];omega
     refine⟨fun h=>by rw[wa (by omega)];omega,fun h=>by rw[wa (by omega)];omega,fun h=>by omega,fun h=>by omega,J.l,fun h=>⟨⟨rfl,rfl,fun k _=>⟨⟨rfl,rfl⟩,⟨rfl,rfl⟩,trivial⟩⟩,?_,hI.rn.2 _ (by omega)⟩,fun hc=>?_,fun hc=>?_⟩
     ·rw[wa (by omega)]
      exact hI.rn.2 _ (by omega)
     ·rw[YHn,decide_eq_true_eq,YHD]at hc
      obtain⟨hc1,hc2⟩:=hc
      have ha0:0<a:=by omega
      rw[wa ha0]at hc2
      refine⟨rfl,_,⟨hI.es,fun _ _=>rfl⟩,⟨rfl,by omega,by omega,by omega,by omega,hI.rn⟩,fun g mid hgs hq=>?_⟩
      obtain⟨hq,hRg⟩:=hq
      obtain⟨k1,k2,k3,k4,k5⟩:=round_eq (Y5 J.l) (partitionEqual_holds _) ha0 hp3.1 hp3.2 (by omega) hI.bl hc2 hq
      refine⟨⟨mid,b,lj,wb,wpt,g⟩,⟨by show a0<=mid;omega,k2,hbb,hlj,hgs,hRg,k4,fun R h1 h2=>hI.fin R (k5 R h1 h2).1 (k5 R h1 h2).2⟩,by show b-mid<b-a;omega,?_⟩
      simp only[Ya]
      exact⟨by decide,by decide,fun k hk=>of_eq_true (Yk _ _ _ _)⟩
     ·clear hc
      refine⟨rfl,_,⟨hI.es,fun _ _=>rfl⟩,⟨rfl,by omega,by omega,by omega,by omega,hI.rn⟩,fun g x hgs hq=>?_⟩
      obtain⟨mid,ap⟩:=x
      obtain⟨hq,hRg⟩:=hq
      obtain⟨k1,k2,k3,k4,k5,k6,k7⟩:=round_part (Y5 J.l) (partition_holds _) hp3.1 hp3.2 (by omega) hI.bl hq
      have wm:IntKind.i64.wrap ((mid:Int)+1)=((mid+1:Nat):Int):=by rw[YHi _ (by omega)];omega
      refine⟨by decide,by decide,by decide,fun hlr=>?_,fun hlr=>?_⟩
      ·refine⟨rfl,_,⟨hgs,fun _ _=>rfl⟩,⟨rfl,by omega,by omega,by omega,by omega,by omega,by omega,by omega,hRg,k4⟩,fun L hLs hL=>?_⟩
       obtain⟨l1,l2⟩:PermIn a mid g L/\SortedIn (ltS J.l) a mid L:=hL
       obtain⟨m1,m2⟩:=k6 L l1 l2
       refine⟨⟨mid+1,b,lj,decide (IntKind.i64.wrap ((IntKind.i64.wrap ((b:Int)-(a:Int))).tdiv 8)<=IntKind.i64.wrap ((mid:Int)-(a:Int))),ap,L⟩,⟨by show a0<=mid+1;omega,by show mid+1<=b;omega,hbb,hlj,hLs,hRg.perm (by omega) l1,m1,fun R h1 h2=>hI.fin R (m2 R h1 h2).1 (m2 R h1 h2).2⟩,by show b-(mid+1)<b-a;omega,?_⟩
       rw[wm]
       simp only[Ya]
       exact⟨by decide,by decide,fun k hk=>of_eq_true (Yk _ _ _ _)⟩
      ·rw[wm]
       refine⟨rfl,_,⟨hgs,fun _ _=>rfl⟩,⟨rfl,by omega,by omega,by omega,by omega,by omega,by omega,by omega,hRg,k5⟩,fun L hLs hL=>?_⟩
       obtain⟨l1,l2⟩:PermIn (mid+1) b g L/\SortedIn (ltS J.l) (mid+1) b L:=hL
       obtain⟨m1,m2⟩:=k7 L l1 l2
       refine⟨⟨a,mid,lj,decide (IntKind.i64.wrap ((IntKind.i64.wrap ((b:Int)-(a:Int))).tdiv 8)<=IntKind.i64.wrap ((b:Int)-(mid:Int))),ap,L⟩,⟨haa,k1,by show mid<=b0;omega,hlj,hLs,hRg.perm (by omega) l1,m1,fun R h1 h2=>hI.fin R (m2 R h1 h2).1 (m2 R h1 h2).2⟩,by show mid-a<b-a;omega,?_⟩
       simp only[Ya]
       exact⟨by decide,by decide,fun k hk=>of_eq_true (Yk _ _ _ _)⟩
    ·have hes:=hI.es
     have wa:0<a->IntKind.i64.wrap ((a:Int)-1)=((a-1:Nat):Int):=fun h=>by rw[YHi _ (by omega)];omega
     refine⟨fun h=>by rw[wa (by omega)];omega,fun h=>by rw[wa (by omega)];omega,fun h=>by omega,fun h=>by omega,J.l,fun h=>⟨⟨rfl,rfl,fun k _=>⟨⟨rfl,rfl⟩,⟨rfl,rfl⟩,trivial⟩⟩,?_,hI.rn.2 _ (by omega)⟩,fun hc=>?_,fun hc=>?_⟩
     ·rw[wa (by omega)]
      exact hI.rn.2 _ (by omega)
     ·rw[YHn,decide_eq_true_eq,YHD]at hc
      obtain⟨hc1,hc2⟩:=hc
      have ha0:0<a:=by omega
      rw[wa ha0]at hc2
      refine⟨rfl,_,⟨hI.es,fun _ _=>rfl⟩,⟨rfl,by omega,by omega,by omega,by omega,hI.rn⟩,fun g mid hgs hq=>?_⟩
      obtain⟨hq,hRg⟩:=hq
      obtain⟨k1,k2,k3,k4,k5⟩:=round_eq (Y5 J.l) (partitionEqual_holds _) ha0 hp3.1 hp3.2 (by omega) hI.bl hc2 hq
      refine⟨⟨mid,b,lj,wb,wpt,g⟩,⟨by show a0<=mid;omega,k2,hbb,hlj,hgs,hRg,k4,fun R h1 h2=>hI.fin R (k5 R h1 h2).1 (k5 R h1 h2).2⟩,by show b-mid<b-a;omega,?_⟩
      simp only[Ya]
      exact⟨by decide,by decide,fun k hk=>of_eq_true (Yk _ _ _ _)⟩
     ·clear hc
      refine⟨rfl,_,⟨hI.es,fun _ _=>rfl⟩,⟨rfl,by omega,by omega,by omega,by omega,hI.rn⟩,fun g x hgs hq=>?_⟩
      obtain⟨mid,ap⟩:=x
      obtain⟨hq,hRg⟩:=hq
      obtain⟨k1,k2,k3,k4,k5,k6,k7⟩:=round_part (Y5 J.l) (partition_holds _) hp3.1 hp3.2 (by omega) hI.bl hq
      have wm:IntKind.i64.wrap ((mid:Int)+1)=((mid+1:Nat):Int):=by rw[YHi _ (by omega)];omega
      refine⟨by decide,by decide,by decide,fun hlr=>?_,fun hlr=>?_⟩
      ·refine⟨rfl,_,⟨hgs,fun _ _=>rfl⟩,⟨rfl,by omega,by omega,by omega,by omega,by omega,by omega,by omega,hRg,k4⟩,fun L hLs hL=>?_⟩
       obtain⟨l1,l2⟩:PermIn a mid g L/\SortedIn (ltS J.l) a mid L:=hL
       obtain⟨m1,m2⟩:=k6 L l1 l2
       refine⟨⟨mid+1,b,lj,decide (IntKind.i64.wrap ((IntKind.i64.wrap ((b:Int)-(a:Int))).tdiv 8)<=IntKind.i64.wrap ((mid:Int)-(a:Int))),ap,L⟩,⟨by show a0<=mid+1;omega,by show mid+1<=b;omega,hbb,hlj,hLs,hRg.perm (by omega) l1,m1,fun R h1 h2=>hI.fin R (m2 R h1 h2).1 (m2 R h1 h2).2⟩,by show b-(mid+1)<b-a;omega,?_⟩
       rw[wm]
       simp only[Ya]
       exact⟨by decide,by decide,fun k hk=>of_eq_true (Yk _ _ _ _)⟩
      ·rw[wm]
       refine⟨rfl,_,⟨hgs,fun _ _=>rfl⟩,⟨rfl,by omega,by omega,by omega,by omega,by omega,by omega,by omega,hRg,k5⟩,fun L hLs hL=>?_⟩
       obtain⟨l1,l2⟩:PermIn (mid+1) b g L/\SortedIn (ltS J.l) (mid+1) b L:=hL
       obtain⟨m1,m2⟩:=k7 L l1 l2
       refine⟨⟨a,mid,lj,decide (IntKind.i64.wrap ((IntKind.i64.wrap ((b:Int)-(a:Int))).tdiv 8)<=IntKind.i64.wrap ((b:Int)-(mid:Int))),ap,L⟩,⟨haa,k1,by show mid<=b0;omega,hlj,hLs,hRg.perm (by omega) l1,m1,fun R h1 h2=>hI.fin R (m2 R h1 h2).1 (m2 R h1 h2).2⟩,by show mid-a<b-a;omega,?_⟩
       simp only[Ya]
       exact⟨by decide,by decide,fun k hk=>of_eq_true (Yk _ _ _ _)⟩
   ·have hp3:a<=p/\p<b:=⟨hp1,hp2⟩
    refine⟨fun hc=>?_,fun hc=>?_⟩
    ·have hes:=hI.es
     refine⟨rfl,_,⟨hI.es,fun _ _=>rfl⟩,⟨rfl,by omega,by omega,by omega,by omega,hI.rn⟩,fun g x hgs hq=>?_⟩
     obtain⟨rfl,hsrt⟩:=hq
     refine⟨fun hx=>⟨g,(),arrC g,[],rfl,fun _ _=>rfl,hgs,hI.fin g (permIn_refl _ _ _) (hsrt hx)⟩,fun hx=>?_⟩
     have hes:=hI.es
     have wa:0<a->IntKind.i64.wrap ((a:Int)-1)=((a-1:Nat):Int):=fun h=>by rw[YHi _ (by omega)];omega
     refine⟨fun h=>by rw[wa (by omega)];omega,fun h=>by rw[wa (by omega)];omega,fun h=>by omega,fun h=>by omega,J.l,fun h=>⟨⟨rfl,rfl,fun k _=>⟨⟨rfl,rfl⟩,⟨rfl,rfl⟩,trivial⟩⟩,?_,hI.rn.2 _ (by omega)⟩,fun hc=>?_,fun hc=>?_⟩
     ·rw[wa (by omega)]
      exact hI.rn.2 _ (by omega)
     ·rw[YHn,decide_eq_true_eq,YHD]at hc
      obtain⟨hc1,hc2⟩:=hc
      have ha0:0<a:=by omega
      rw[wa ha0]at hc2
      refine⟨rfl,_,⟨hI.es,fun _ _=>rfl⟩,⟨rfl,by omega,by omega,by omega,by omega,hI.rn⟩,fun g mid hgs hq=>?_⟩
      obtain⟨hq,hRg⟩:=hq
      obtain⟨k1,k2,k3,k4,k5⟩:=round_eq (Y5 J.l) (partitionEqual_holds _) ha0 hp3.1 hp3.2 (by omega) hI.bl hc2 hq
      refine⟨⟨mid,b,lj,wb,wpt,g⟩,⟨by show a0<=mid;omega,k2,hbb,hlj,hgs,hRg,k4,fun R h1 h2=>hI.fin R (k5 R h1 h2).1 (k5 R h1 h2).2⟩,by show b-mid<b-a;omega,?_⟩
      simp only[Ya]
      exact⟨by decide,by decide,fun k hk=>of_eq_true (Yk _ _ _ _)⟩
     ·clear hc
      refine⟨rfl,_,⟨hI.es,fun _ _=>rfl⟩,⟨rfl,by omega,by omega,by omega,by omega,hI.rn⟩,fun g x hgs hq=>?_⟩
      obtain⟨mid,ap⟩:=x
      obtain⟨hq,hRg⟩:=hq
      obtain⟨k1,k2,k3,k4,k5,k6,k7⟩:=round_part (Y5 J.l) (partition_holds _) hp3.1 hp3.2 (by omega) hI.bl hq
      have wm:IntKind.i64.wrap ((mid:Int)+1)=((mid+1:Nat):Int):=by rw[YHi _ (by omega)];omega
      refine⟨by decide,by decide,by decide,fun hlr=>?_,fun hlr=>?_⟩
      ·refine⟨rfl,_,⟨hgs,fun _ _=>rfl⟩,⟨rfl,by omega,by omega,by omega,by omega,by omega,by omega,by omega,hRg,k4⟩,fun L hLs hL=>?_⟩
       obtain⟨l1,l2⟩:PermIn a mid g L/\SortedIn (ltS J.l) a mid L:=hL
       obtain⟨m1,m2⟩:=k6 L l1 l2
       refine⟨⟨mid+1,b,lj,decide (IntKind.i64.wrap ((IntKind.i64.wrap ((b:Int)-(a:Int))).tdiv 8)<=IntKind.i64.wrap ((mid:Int)-(a:Int))),ap,L⟩,⟨by show a0<=mid+1;omega,by show mid+1<=b;omega,hbb,hlj,hLs,hRg.perm (by omega) l1,m1,fun R h1 h2=>hI.fin R (m2 R h1 h2).1 (m2 R h1 h2).2⟩,by show b-(mid+1)<b-a;omega,?_⟩
       rw[wm]
       simp only[Ya]
       exact⟨by decide,by decide,fun k hk=>of_eq_true (Yk _ _ _ _)⟩
      ·rw[wm]
       refine⟨rfl,_,⟨hgs,fun _ _=>rfl⟩,⟨rfl,by omega,by omega,by omega,by omega,by omega,by omega,by omega,hRg,k5⟩,fun L hLs hL=>?_⟩
       obtain⟨l1,l2⟩:PermIn (mid+1) b g L/\SortedIn (ltS J.l) (mid+1) b L:=hL
       obtain⟨m1,m2⟩:=k7 L l1 l2
       refine⟨⟨a,mid,lj,decide (IntKind.i64.wrap ((IntKind.i64.wrap ((b:Int)-(a:Int))).tdiv 8)<=IntKind.i64.wrap ((b:Int)-(mid:Int))),ap,L⟩,⟨haa,k1,by show mid<=b0;omega,hlj,hLs,hRg.perm (by omega) l1,m1,fun R h1 h2=>hI.fin R (m2 R h1 h2).1 (m2 R h1 h2).2⟩,by show mid-a<b-a;omega,?_⟩
       simp only[Ya]
       exact⟨by decide,by decide,fun k hk=>of_eq_true (Yk _ _ _ _)⟩
    ·have hes:=hI.es
     have wa:0<a->IntKind.i64.wrap ((a:Int)-1)=((a-1:Nat):Int):=fun h=>by rw[YHi _ (by omega)];omega
     refine⟨fun h=>by rw[wa (by omega)];omega,fun h=>by rw[wa (by omega)];omega,fun h=>by omega,fun h=>by omega,J.l,fun h=>⟨⟨rfl,rfl,fun k _=>⟨⟨rfl,rfl⟩,⟨rfl,rfl⟩,trivial⟩⟩,?_,hI.rn.2 _ (by omega)⟩,fun hc=>?_,fun hc=>?_⟩
     ·rw[wa (by omega)]
      exact hI.rn.2 _ (by omega)
     ·rw[YHn,decide_eq_true_eq,YHD]at hc
      obtain⟨hc1,hc2⟩:=hc
      have ha0:0<a:=by omega
      rw[wa ha0]at hc2
      refine⟨rfl,_,⟨hI.es,fun _ _=>rfl⟩,⟨rfl,by omega,by omega,by omega,by omega,hI.rn⟩,fun g mid hgs hq=>?_⟩
      obtain⟨hq,hRg⟩:=hq
      obtain⟨k1,k2,k3,k4,k5⟩:=round_eq (Y5 J.l) (partitionEqual_holds _) ha0 hp3.1 hp3.2 (by omega) hI.bl hc2 hq
      refine⟨⟨mid,b,lj,wb,wpt,g⟩,⟨by show a0<=mid;omega,k2,hbb,hlj,hgs,hRg,k4,fun R h1 h2=>hI.fin R (k5 R h1 h2).1 (k5 R h1 h2).2⟩,by show b-mid<b-a;omega,?_⟩
      simp only[Ya]
      exact⟨by decide,by decide,fun k hk=>of_eq_true (Yk _ _ _ _)⟩
     ·clear hc
      refine⟨rfl,_,⟨hI.es,fun _ _=>rfl⟩,⟨rfl,by omega,by omega,by omega,by omega,hI.rn⟩,fun g x hgs hq=>?_⟩
      obtain⟨mid,ap⟩:=x
      obtain⟨hq,hRg⟩:=hq
      obtain⟨k1,k2,k3,k4,k5,k6,k7⟩:=round_part (Y5 J.l) (partition_holds _) hp3.1 hp3.2 (by omega) hI.bl hq
      have wm:IntKind.i64.wrap ((mid:Int)+1)=((mid+1:Nat):Int):=by rw[YHi _ (by omega)];omega
      refine⟨by decide,by decide,by decide,fun hlr=>?_,fun hlr=>?_⟩
      ·refine⟨rfl,_,⟨hgs,fun _ _=>rfl⟩,⟨rfl,by omega,by omega,by omega,by omega,by omega,by omega,by omega,hRg,k4⟩,fun L hLs hL=>?_⟩
       obtain⟨l1,l2⟩:PermIn a mid g L/\SortedIn (ltS J.l) a mid L:=hL
       obtain⟨m1,m2⟩:=k6 L l1 l2
       refine⟨⟨mid+1,b,lj,decide (IntKind.i64.wrap ((IntKind.i64.wrap ((b:Int)-(a:Int))).tdiv 8)<=IntKind.i64.wrap ((mid:Int)-(a:Int))),ap,L⟩,⟨by show a0<=mid+1;omega,by show mid+1<=b;omega,hbb,hlj,hLs,hRg.perm (by omega) l1,m1,fun R h1 h2=>hI.fin R (m2 R h1 h2).1 (m2 R h1 h2).2⟩,by show b-(mid+1)<b-a;omega,?_⟩
       rw[wm]
       simp only[Ya]
       exact⟨by decide,by decide,fun k hk=>of_eq_true (Yk _ _ _ _)⟩
      ·rw[wm]
       refine⟨rfl,_,⟨hgs,fun _ _=>rfl⟩,⟨rfl,by omega,by omega,by omega,by omega,by omega,by omega,by omega,hRg,k5⟩,fun L hLs hL=>?_⟩
       obtain⟨l1,l2⟩:PermIn (mid+1) b g L/\SortedIn (ltS J.l) (mid+1) b L:=hL
       obtain⟨m1,m2⟩:=k7 L l1 l2
       refine⟨⟨a,mid,lj,decide (IntKind.i64.wrap ((IntKind.i64.wrap ((b:Int)-(a:Int))).tdiv 8)<=IntKind.i64.wrap ((b:Int)-(mid:Int))),ap,L⟩,⟨haa,k1,by show mid<=b0;omega,hlj,hLs,hRg.perm (by omega) l1,m1,fun R h1 h2=>hI.fin R (m2 R h1 h2).1 (m2 R h1 h2).2⟩,by show mid-a<b-a;omega,?_⟩
       simp only[Ya]
       exact⟨by decide,by decide,fun k hk=>of_eq_true (Yk _ _ _ _)⟩
 ·exact hA.elim
theorem YEv(J:Job):∀m,(pdqW J m).ok YHk 72
 |0=>by
  intro i n rest vs w bs B hp z get a hgl hG hH hB hx hno hgi hsz hget hA
  replace hA:pdqA J 0 rest a:=hA
  unfold pdqA at hA
  split at hA
  ·omega
  ·exact hA.elim
 |m+1=>Ywe J m (YEv J m)
def v37:VF:=⟨14,[],(ZR [Zm 5 0,Zl 6 5,Zm 4 6] (.region [Zm 7 0,Zm 8 4,Zm 9 4,u1 10 (.conv .u64) [.tm 9],Zc 11 73 10,Zm 12 1,u1 13 (.call 72) [.tm 7,.cn (.int .i64 0),.tm 8,.tm 11,.tm 12]]))⟩
theorem YF7:Ye YHk Tryz.f37=some v37:=by kernel_rfl
def sfA(J:Job)(rest:List SV)(d:Array Int):Prop:=rest=[cmpV J]/\d.size<50/\Rn J d
def sfR(J:Job)(d d':Array Int):Prop:=PermIn 0 d.size d d'/\SortedIn (ltS J.l) 0 d.size d'
def sfJ(J:Job):WCtr:={ ρ:=Unit,res:=fun _=> .tup [],A:=sfA J,R:=fun _ d d' _=>sfR J d d'}
def pdqK(J:Job):WCtr:=pdqW J 50
theorem YEu(J:Job):(pdqK J).ok YHk 72:=YEv J 50
def SE12(J:Job):Env:={ ct:=fun n=>match n with|73=>some len64C|_=>none,fn:=fun _=>none,meth:=fun _ _=>none,wc:=fun n=>match n with|72=>some (pdqK J) |_=>none}
theorem Yql(J:Job):(SE12 J).ct 73=some len64C:=rfl
theorem YyA(J:Job):Yn YHk (SE12 J):=by
 refine⟨fun f c h=>?_,fun f vf h=>?_,(fun _ _ _ h=>by cases h),by kernel_rfl,(fun _ h=>by cases h),fun f c h=>?_⟩
 ·simp only[SE12]at h
  split at h
  ·cases h;exact⟨YnR,Tryz.f73,Tryz.func73,by kernel_rfl,by kernel_rfl⟩
  ·cases h
 ·cases h
 ·simp only[SE12]at h
  split at h
  ·cases h;exact⟨(YEu J),Tryz.f72,Tryz.func72,by kernel_rfl,by kernel_rfl⟩
  ·cases h
theorem Yqk(J:Job):(SE12 J).ct 72=none:=rfl
theorem Yqm(J:Job):(SE12 J).fn 72=none:=rfl
theorem Yqn(J:Job):(SE12 J).wc 72=some (pdqK J):=rfl
theorem sf_w(J:Job):(sfJ J).ok YHk 37:=by
 refine Yag Tryz.func37 YF7 (YyA J) 300 (sfJ J) (fun _=>rfl) (fun rest d h=>by obtain⟨rfl,_⟩:=h;exact⟨Yo7 J,trivial⟩) fun rest d z hA=>?_
 obtain⟨rfl,hd,hR⟩:rest=[cmpV J]/\d.size<50/\Rn J d:=hA
 have u1:IntKind.u64.wrap (d.size:Int)=(d.size:Int):=YHJ _ (by omega)
 have hb:Yo d.size<=6:=bitsN_le.2 (show d.size<64 by omega)
 dsimp only[v37,Yql,Yqk,Yqm,Yqn,len64C,pdqK,pdqW,cmpV,sfJ,go_sem,reduceIte,YHf]
 simp only[Yc,YHf,YHh,reduceCtorEq,YHg]
 rw[u1,YHj]
 refine⟨⟨by omega,by omega⟩,rfl,d,⟨rfl,fun _ _=>rfl⟩,⟨rfl,by decide,by omega,by omega,by omega,by omega,by omega,by omega,hR,Or.inl rfl⟩,fun g hgs hq=>?_⟩
 exact⟨g,(),arrC g,[],rfl,fun _ _=>rfl,hgs,hq⟩
def sfW:WCtr:={ ρ:=Unit,res:=fun _=> .tup [],A:=fun rest d=> ∃J,sfA J rest d,R:=fun rest d d' _=> ∃J,rest=[cmpV J]/\sfR J d d'}
theorem YFr:sfW.ok YHk 37:=by
 intro i n rest vs w bs B hp z get a hgl hG hH hB hx hno hgi hsz hget hA
 obtain⟨J,hJ⟩:=hA
 have hrest:rest=[cmpV J]:=hJ.1
 refine(sf_w J i n rest vs w bs B hp z get a hgl hG hH hB hx hno hgi hsz hget hJ).mono ?_
 rintro e w' ⟨a',x,bs',v,q1,q2,q3⟩
 exact⟨a',x,bs',v,q1,⟨J,hrest,q2⟩,q3⟩
theorem Yvq{J J':Job}(h:cmpV J=cmpV J'):J.l=J'.l:=by
 simp only[cmpV,Job.sv,SV.fn.injEq,List.cons.injEq,SV.agg.injEq,SV.vs.injEq,and_true,true_and]at h
 obtain⟨_,_,_,_,h1,h2⟩:=h
 refine YvY h1 fun i hi=>?_
 have h3:=congrFun h2 i
 simp only[encK,List.cons.injEq,SV.int.injEq,true_and,and_true]at h3
 obtain⟨h4,h5⟩:=h3
 cases h6:J.l.getD i default
 cases h7:J'.l.getD i default
 rw[h6,h7]at h4 h5
 simp only at h4 h5
 rw[h4,h5]
end Go.Proofs.YtlfhmpkopcnheaaGreat
namespace Go.Proofs.YtlfhmpkopcnheaaGreat
open Go Go.Vx
set_option maxRecDepth 100000
set_option maxHeartbeats 8000000
def encQ(s:Spt):List SV:=[.int .i64 s.pl,.int .i64 s.sh,.int .i64 s.x,.int .i64 s.y]
def qkE(p:Pla)(l:List Cut):Int:=if YdY p l 200≠0 then YdY p l 200 else if l.any (larS p)=true then 4 else 0
def QuiR(p:Pla)(l:List Cut)(L:List Spt):Prop:=(qkE p l≠0->L=[])/\(qkE p l=0->∃order:List Nat,order.Perm (YIc l.length)/\order.Pairwise (fun m i=>(l.getD i default).h<=(l.getD m default).h)/\L=quiF p l order)
def qkC:Ctr:={ alias:=false,of:=fun l=>match l with
 | [.agg [.int .i64 W,.int .i64 H,.int .i64 K],.vs _ z n sz get]=> .ex (List Cut) fun l=> .pre (lsP 2 encK n sz get l/\n<50) (.all (List Spt) fun L=> .all Bool fun zz=> .imp (QuiR ⟨W,H,K⟩ l L) (.fin (.tup [.vs true zz L.length 4 (fun k=>encQ (L.getD k default)),.int .i64 (qkE ⟨W,H,K⟩ l)]) []))
 |_=>noC}
theorem YqT{k:SV->List HO->Prop}{al:Bool}{hp:List HO}{e:Int}(h:k (.tup [.vs true true 0 4 (fun k=>encQ (([]:List Spt).getD k default)),.int .i64 e]) []):Yz al k (.tup [.nil,.int .i64 e]) hp:=
 YE (show k _ []from h) (by simp [expo,view,YaS,viewN,le,leL]) (fun _=>by simp [Yt,Ys])
def idA(n:Nat):Array Int:=((YIc n).map (fun k:Nat=>(k:Int))).toArray
theorem Ybj(n:Nat):(idA n).size=n:=by simp [idA]
theorem Yl3{n k:Nat}(h:k<n):(idA n)[k]! =(k:Int):=by
 rw[getElem!_pos _ _ (by rw[Ybj];exact h)]
 simp [idA]
open Go.Sort in
theorem YBb{l:List Cut}{n:Nat}{g:Array Int}(hp:PermIn 0 n (idA n) g)(hs:SortedIn (ltS l) 0 n g):
 ((YIc n).map fun k=>(g[k]!).toNat).Perm (YIc n)/\((YIc n).map fun k=>(g[k]!).toNat).Pairwise (fun m i=>(l.getD i default).h<=(l.getD m default).h)/\∀k,k<n->0<=g[k]! /\g[k]! <n:=by
 obtain⟨h1,h2,h3⟩:=hp
 rw[Ybj]at h1
 rw[extract_toList g 0 n (by omega),extract_toList (idA n) 0 n (by rw[Ybj];exact YHr _),Nat.sub_zero,<-List.range_eq_range']at h3
 have h4:(YIc n).map (fun i=>(idA n)[i]!)=(YIc n).map (fun i:Nat=>(i:Int)):=List.map_congr_left fun i hi=>Yl3 (List.mem_range.1 hi)
 rw[h4]at h3
 refine⟨?_,?_,fun k hk=>?_⟩
 ·have h5:=h3.map YH0
  rw[List.map_map,List.map_map]at h5
  have h6:(YIc n).map (YH0∘fun i:Nat=>(i:Int))=YIc n:=by
   rw[show(YH0∘fun i:Nat=>(i:Int))=id from rfl,List.map_id]
  rw[h6]at h5
  exact h5
 ·rw[List.pairwise_map]
  refine List.Pairwise.imp_of_mem (fun {a b} ha hb hab=>?_) (List.pairwise_lt_range (n:=n))
  have:=hs a b (YHK _) hab (List.mem_range.1 hb)
  rw[YgU]at this
  omega
 ·have h5:g[k]! ∈(YIc n).map (fun i=>g[i]!):=YIr.2 ⟨k,List.mem_range.2 hk,rfl⟩
  obtain⟨j,hj,e⟩:=YIr.1 (h3.mem_iff.1 h5)
  have:=List.mem_range.1 hj
  omega
theorem YAB{p:Pla}{l:List Cut}{order:List Nat}(hK:0<=p.k)(hperm:order.Perm (YIc l.length))(hall:∀i,i<l.length->okC p l i)(hpw:order.Pairwise (fun m i=>(l.getD i default).h<=(l.getD m default).h))(k:Nat):
 (quiL p l (order.take k) (qui0 l.length)).out.length=l.length/\(∀j,j<(quiL p l (order.take k) (qui0 l.length)).sv.length->0<=((quiL p l (order.take k) (qui0 l.length)).sv.getD j default).x/\((quiL p l (order.take k) (qui0 l.length)).sv.getD j default).x<=p.w+p.k)/\
 (∀j,j<(quiL p l (order.take k) (qui0 l.length)).tp.length->0<=(quiL p l (order.take k) (qui0 l.length)).tp.getD j 0/\(quiL p l (order.take k) (qui0 l.length)).tp.getD j 0<=p.h+p.k)/\(quiL p l (order.take k) (qui0 l.length)).sv.length<=k/\(quiL p l (order.take k) (qui0 l.length)).tp.length<=k:=by
 have hmem:∀i,i∈order.take k->i<l.length:=fun i h=>List.mem_range.1 (hperm.mem_iff.1 (List.mem_of_mem_take h))
 have h0:QB p l [] [] (qui0 l.length):=by
  refine⟨List.length_replicate,rfl,fun i h=>(by cases h),fun k h=>absurd h (YIf _),fun k h=>absurd h (YIf _),fun k m _ h=>absurd h (YIf _),fun i h=>(by cases h),fun i j h=>(by cases h),fun on h=>absurd h (YIf _),YIs _,rfl⟩
 have c0:QC [] (qui0 l.length):=⟨YHr _,YHr _,fun on h=>absurd h (YIf _)⟩
 have hnd:order.Nodup:=hperm.nodup_iff.2 List.nodup_range
 obtain⟨hs,hq,hc⟩:=Ymj hK (order.take k) [] [] (qui0 l.length) h0 c0 (by rw[List.nil_append];exact hnd.sublist (List.take_sublist _ _)) (fun i hi=>⟨hmem i hi,hall i (hmem i hi)⟩) (fun k h=>absurd h (YIf _)) (fun m i h=>(by cases h)) (hpw.sublist (List.take_sublist _ _))
 rw[List.nil_append]at hq hc
 have hl:(order.take k).length<=k:=List.length_take_le _ _
 have h1:=hc.ls
 have h2:=hc.lt
 exact⟨hq.lo,fun j hj=>⟨(hq.she j hj).2.1,(hq.she j hj).2.2.1⟩,hq.top,by omega,by omega⟩
theorem Yl4{α:Type}[Inhabited α]{p:α->Bool}:∀{r:List α}{i c:Nat},(∀j,j<c->p (r.getD j default)=false)->c<r.length->p (r.getD c default)=true->idxP p i r=some (i+c)
 | [],_,_,_,h,_=>absurd h (YIf _)
 |a::r,i,0,_,_,hp=>by
  have hp:p a=true:=hp
  rw[idxP,if_pos hp];rfl
 |a::r,i,c+1,h,hc,hp=>by
  have h0:p a=false:=h 0 (Nat.succ_pos _)
  rw[idxP,if_neg (by rw[h0];exact Bool.false_ne_true),Yl4 (c:=c) (fun j hj=>h (j+1) (Nat.succ_lt_succ hj)) (Nat.lt_of_succ_lt_succ hc) hp]
  congr 1;omega
theorem Yjf{α:Type}[Inhabited α]{p:α->Bool}:∀{r:List α}{i:Nat},(∀j,j<r.length->p (r.getD j default)=false)->idxP p i r=none
 | [],_,_=>rfl
 |a::r,i,h=>by
  have h0:p a=false:=h 0 (Nat.succ_pos _)
  rw[idxP,if_neg (by rw[h0];exact Bool.false_ne_true)]
  exact Yjf fun j hj=>h (j+1) (Nat.succ_lt_succ hj)
theorem Yll{p:Pla}{x:Cut}{i on:Nat}{s:Qst}(hon:on<s.tp.length)(hi:i<s.out.length):
 ((s.shelf p x on).put p x i s.sv.length).sv.length=s.sv.length+1/\((s.shelf p x on).put p x i s.sv.length).tp.length=s.tp.length/\
 (∀j,((s.shelf p x on).put p x i s.sv.length).out.getD j default=if j=i then⟨(on:Int),(s.sv.length:Int),0,s.tp.getD on 0⟩else s.out.getD j default)/\
 (∀j,j<s.sv.length+1->((s.shelf p x on).put p x i s.sv.length).sv.getD j default=if j=s.sv.length then⟨(on:Int),(s.sv.length:Int),0+(x.w+p.k),s.tp.getD on 0⟩else s.sv.getD j default)/\
 (∀j,((s.shelf p x on).put p x i s.sv.length).tp.getD j default=if j=on then s.tp.getD on 0+(x.h+p.k)else s.tp.getD j default):=by
 have hl:(s.shelf p x on).sv.length=s.sv.length+1:=by show(s.sv++[_]).length=_;rw[YHM];rfl
 have hg:(s.shelf p x on).sv.getD s.sv.length default=⟨(on:Int),(s.sv.length:Int),0,s.tp.getD on 0⟩:=by
  show(s.sv++[_]).getD _ _=_
  rw[YaL,if_neg (Nat.lt_irrefl _),if_pos rfl]
 refine⟨?_,?_,fun j=>?_,fun j hj=>?_,fun j=>?_⟩
 ·show((s.shelf p x on).sv.set _ _).length=_
  rw[List.length_set,hl]
 ·show(s.tp.set _ _).length=_
  rw[List.length_set]
 ·show(s.out.set i _).getD j default=_
  rw[Ycw hi,hg]
 ·show((s.shelf p x on).sv.set s.sv.length _).getD j default=_
  rw[Ycw (by rw[hl];exact Nat.lt_succ_self _),hg]
  by_cases c:j=s.sv.length
  ·rw[if_pos c,if_pos c]
  ·rw[if_neg c,if_neg c]
   show(s.sv++[_]).getD _ _=_
   rw[YaL,if_pos (by omega)]
 ·show(s.tp.set on _).getD j default=_
  rw[Ycw hon]
theorem YDh(a b c d:Int):∀k,k<1->lenL (YT 4 (YM (k*4) [SV.int .i64 a,SV.int .i64 b,SV.int .i64 c,SV.int .i64 d]))=4/\ones (YT 4 (YM (k*4) [SV.int .i64 a,SV.int .i64 b,SV.int .i64 c,SV.int .i64 d])):=fun k hk=>by
 obtain rfl:k=0:=by omega
 exact⟨rfl,trivial,trivial,trivial,trivial,trivial⟩
theorem app1k(a:Int):∀k,k<1->lenL (YT 1 (YM (k*1) [SV.int .i64 a]))=1/\ones (YT 1 (YM (k*1) [SV.int .i64 a])):=fun k hk=>by
 obtain rfl:k=0:=by omega
 exact⟨rfl,trivial,trivial⟩
def v15:VF:=⟨120,[.tmp 4,.tmp 5],(ZR [u1 2 .box [.tm 0],u1 4 .mov [.cn .nil],Zi 5 0] (ZR [Zt 19 3 2,Zm 20 1,u1 21 (.build [(.int .i64 0),(.int .i64 0),(.int .i64 0),.nil] [(0,3),(3,1)]) [.tm 19,.tm 20],u1 6 (.alloc [(.int .i64 0),(.int .i64 0),(.int .i64 0),.nil]) [],Zs 4 6 21] (.seq (ZR [Zt 22 4 6,u1 23 (.call 35) [.tm 22,.cn (.int .i64 200)],Zm 7 23] (ZR [Zm 24 7,Zq 25 .neq 24 0] (ZC 25 (ZR [Zm 26 7,u1 4 .mov [.cn .nil],Zm 5 26] .ret) .skip))) (.seq (ZR [Zt 27 4 6,Zc 28 36 27] (ZC 28 (ZR [u1 4 .mov [.cn .nil],Zi 5 4] .ret) .skip)) (ZR [Zm 29 1,Zl 30 29,u1 31 (.make 1 8 [(.int .i64 0)]) [.tm 30,.tm 30],Zm 8 31] (.seq (ZR [Zm 32 8,Zl 33 32,Zi 34 0] (.block 0 (.loop (ZR [Zr 35 .lss 34 33] (.seq (ZC 35 .skip (.exit 0)) (.seq (.block 1 (ZR [Zm 36 34,Zm 9 36] (.region [Zm 37 8,Zm 38 9,Zm 39 9,Zx 40 1 37 38,Zs 1 40 39]))) (.region [Zp 41 34 1,Zm 34 41]))))))) (ZR [Zm 42 8,Zt 43 4 6,u1 44 (.mkfn (.func 38) 1) [.tm 43],Zd 45 37 42 44] (ZR [Zm 46 1,Zl 47 46,u1 48 (.make 4 32 [(.int .i64 0),(.int .i64 0),(.int .i64 0),(.int .i64 0)]) [.tm 47,.tm 47],Zm 10 48] (ZR [u1 11 .mov [.cn .nil]] (ZR [u1 12 .mov [.cn .nil]] (.seq (ZR [Zm 49 8,Zl 50 49,Zi 51 0] (.block 2 (.loop (ZR [Zr 52 .lss 51 50] (.seq (ZC 52 .skip (.exit 2)) (.seq (.block 3 (ZR [Zx 53 1 49 51,Zf 54 1 53,Zm 14 54] (ZR [Zm 55 1,Zm 56 14,Zx 57 2 55 56,Zt 58 2 57,Zn 15,Zs 2 15 58] (ZR [u1 59 (.mkfn (.func 39) 0) [.tm 15,.tm 2],Zm 16 59] (ZR [Zm 60 11,Zm 61 16,Zd 62 40 60 61,Zm 17 62] (.seq (ZR [Zm 63 17,Zq 64 .lss 63 0] (ZC 64 (ZR [Zm 65 12,u1 66 (.mkfn (.func 42) 0) [.tm 15,.tm 2],Zd 67 41 65 66,Zm 18 67] (.seq (ZR [Zm 68 18,Zq 69 .lss 68 0] (ZC 69 (.region [Zm 70 12,Zl 71 70,Zm 72 12,u1 73 (.buildSlice 1 1 [(.int .i64 0)] [(0,1)]) [.cn (.int .i64 0)],u1 74 (.append 1 8 [(.int .i64 0)]) [.tm 72,.tm 73],Zm 18 71,Zm 12 74]) .skip)) (ZR [Zm 75 11,Zl 76 75,Zm 17 76] (ZR [Zm 77 11,Zm 78 18,Zm 79 17,Zm 80 12,Zm 81 18,Zx 82 1 80 81,Zf 83 1 82,u1 84 (.build [(.int .i64 0),(.int .i64 0),(.int .i64 0),(.int .i64 0)] [(0,1),(1,1),(3,1)]) [.tm 78,.tm 79,.tm 83],u1 85 (.buildSlice 4 1 [(.int .i64 0),(.int .i64 0),(.int .i64 0),(.int .i64 0)] [(0,4)]) [.tm 84],u1 86 (.append 4 32 [(.int .i64 0),(.int .i64 0),(.int .i64 0),(.int .i64 0)]) [.tm 77,.tm 85],Zm 11 86] (.draw [] [Zu 87 12,Zu 88 18,ZX 89 1 87 88,Zv 90 1 89,Zy 91 1 15,Zv 92 1 91,Zy 93 2 2,Zv 94 1 93,w1 95 (.ari .add) [.tm 92,.tm 94],w1 96 (.ari .add) [.tm 90,.tm 95],ZX 97 1 87 88,ZS 1 97 96]))))) .skip)) (ZR [Zm 98 10,Zm 99 14,Zm 100 11,Zm 101 17,Zx 102 4 100 101,Zt 103 4 102,Zx 104 4 98 99,Zs 4 104 103] (.draw [] [Zu 105 11,Zu 106 17,ZX 107 4 105 106,Zy 108 2 107,Zv 109 1 108,Zy 110 0 15,Zv 111 1 110,Zy 112 2 2,Zv 113 1 112,w1 114 (.ari .add) [.tm 111,.tm 113],w1 115 (.ari .add) [.tm 109,.tm 114],ZX 116 4 105 106,Zy 117 2 116,ZS 1 117 115])))))))) (.region [Zp 118 51 1,Zm 51 118]))))))) (ZR [Zm 119 10,Zm 4 119,Zi 5 0] .ret))))))))))))⟩
theorem YFL:Ye YHk Tryz.f15=some v15:=by kernel_rfl
def v39:VF:=⟨13,[.tmp 4],(ZR [u1 3 .box [.tm 0],u1 4 .mov [.cn (.bool false)]] (ZR [Za 5 2 3,Zf 6 1 5,Za 7 0 1,Zf 8 1 7,Zo 9 .add 6 8,Za 10 0 2,Zf 11 1 10,Zr 12 .leq 9 11,Zm 4 12] .ret))⟩
theorem YF9:Ye YHk Tryz.f39=some v39:=by kernel_rfl
def v42:VF:=⟨12,[.tmp 4],(ZR [u1 4 .mov [.cn (.bool false)]] (ZR [Zm 5 0,Za 6 1 1,Zf 7 1 6,Zo 8 .add 5 7,Za 9 1 2,Zf 10 1 9,Zr 11 .leq 8 10,Zm 4 11] .ret))⟩
theorem YGc:Ye YHk Tryz.f42=some v42:=by kernel_rfl
def v40:VF:=⟨19,[.tmp 4],(ZR [Zi 4 0] (.seq (ZR [Zm 6 0,Zl 7 6,Zi 8 0] (.block 0 (.loop (ZR [Zr 9 .lss 8 7] (.seq (ZC 9 .skip (.exit 0)) (.seq (.block 1 (ZR [Zm 10 8,Zm 5 10] (ZR [Zm 11 1,Zm 12 0,Zm 13 5,Zx 14 4 12 13,Zt 15 4 14,u1 16 .callv [.tm 11,.tm 15]] (ZC 16 (ZR [Zm 17 5,Zm 4 17] .ret) .skip)))) (.region [Zp 18 8 1,Zm 8 18]))))))) (ZR [Zi 4 (-1)] .ret)))⟩
theorem YGa:Ye YHk Tryz.f40=some v40:=by kernel_rfl
def v41:VF:=⟨19,[.tmp 4],(ZR [Zi 4 0] (.seq (ZR [Zm 6 0,Zl 7 6,Zi 8 0] (.block 0 (.loop (ZR [Zr 9 .lss 8 7] (.seq (ZC 9 .skip (.exit 0)) (.seq (.block 1 (ZR [Zm 10 8,Zm 5 10] (ZR [Zm 11 1,Zm 12 0,Zm 13 5,Zx 14 1 12 13,Zf 15 1 14,u1 16 .callv [.tm 11,.tm 15]] (ZC 16 (ZR [Zm 17 5,Zm 4 17] .ret) .skip)))) (.region [Zp 18 8 1,Zm 8 18]))))))) (ZR [Zi 4 (-1)] .ret)))⟩
theorem YGb:Ye YHk Tryz.f41=some v41:=by kernel_rfl
def HS7:Env:={ ct:=fun n=>match n with|35=>some chkJC|36=>some larC|_=>none,fn:=fun n=>match n with|40=>some v40|41=>some v41|39=>some v39|42=>some v42|_=>none,meth:=fun _ _=>none,wc:=fun n=>match n with|37=>some sfW|_=>none}
theorem Yut:HS7.ct 35=some chkJC:=rfl
theorem Yuu:HS7.ct 36=some larC:=rfl
theorem Yux:HS7.ct 40=none:=rfl
theorem YuC:HS7.fn 40=some v40:=rfl
theorem Yuy:HS7.ct 41=none:=rfl
theorem YuD:HS7.fn 41=some v41:=rfl
theorem Yuw:HS7.ct 39=none:=rfl
theorem YuB:HS7.fn 39=some v39:=rfl
theorem Yuz:HS7.ct 42=none:=rfl
theorem YuE:HS7.fn 42=some v42:=rfl
theorem YCA:Yn YHk HS7:=by
 refine⟨fun f c h=>?_,fun f vf h=>?_,(fun _ _ _ h=>by cases h),by kernel_rfl,(fun _ h=>by cases h),fun f c h=>?_⟩
 ·simp only[HS7]at h
  split at h
  ·cases h;exact⟨Yrs,Tryz.f35,Tryz.func35,by kernel_rfl,by kernel_rfl⟩
  ·cases h;exact⟨lar_c,Tryz.f36,Tryz.func36,by kernel_rfl,by kernel_rfl⟩
  ·cases h
 ·simp only[HS7]at h
  split at h
  ·cases h;exact⟨Tryz.f40,Tryz.func40,YGa,Tryz.f40,Tryz.func40,by kernel_rfl,by kernel_rfl⟩
  ·cases h;exact⟨Tryz.f41,Tryz.func41,YGb,Tryz.f41,Tryz.func41,by kernel_rfl,by kernel_rfl⟩
  ·cases h;exact⟨Tryz.f39,Tryz.func39,YF9,Tryz.f39,Tryz.func39,by kernel_rfl,by kernel_rfl⟩
  ·cases h;exact⟨Tryz.f42,Tryz.func42,YGc,Tryz.f42,Tryz.func42,by kernel_rfl,by kernel_rfl⟩
  ·cases h
 ·simp only[HS7]at h
  split at h
  ·cases h;exact⟨YFr,Tryz.f37,Tryz.func37,by kernel_rfl,by kernel_rfl⟩
  ·cases h
theorem Yuv:HS7.ct 37=none:=rfl
theorem YuA:HS7.fn 37=none:=rfl
theorem YuF:HS7.wc 37=some sfW:=rfl
theorem YgF(m n:Nat)(x:Int):leL m n (enc1 x) (enc1 x)=True:=eq_true ⟨⟨rfl,rfl⟩,trivial⟩
theorem Ya8{m n:Nat}{s t:Spt}(h:s=t):leL m n (encQ s) (encQ t):=by subst h;exact⟨⟨rfl,rfl⟩,⟨rfl,rfl⟩,⟨rfl,rfl⟩,⟨rfl,rfl⟩,trivial⟩
theorem YfY{m n:Nat}{s t:Int}(h:s=t):leL m n (enc1 s) (enc1 t):=by subst h;exact⟨⟨rfl,rfl⟩,trivial⟩
theorem qk_c:qkC.ok YHk 15:=by
 refine Yb Tryz.func15 YFL YCA 900 qkC fun args k h=>?_
 simp only[qkC]at h
 split at h
 ·rename_i W H K tt z n sz get
  obtain⟨l,⟨⟨rfl,rfl,hg⟩,hn⟩,h⟩:=h
  have self:lsP 2 encK l.length 2 (fun k=>[SV.int IntKind.i64 (l.getD k default).w,SV.int IntKind.i64 (l.getD k default).h]) l:=⟨rfl,rfl,fun k _=>Yd _⟩
  refine⟨[.agg [.int .i64 W,.int .i64 H,.int .i64 K],.vs false z l.length 2 (fun k=>encK (l.getD k default))],⟨⟨⟨rfl,rfl⟩,⟨rfl,rfl⟩,⟨rfl,rfl⟩,trivial⟩,⟨fun h=>(by cases h),rfl,rfl,rfl,hg⟩,trivial⟩,?_⟩
  have h:∀(L:List Spt)(zz:Bool),QuiR ⟨W,H,K⟩ l L->k (.tup [.vs true zz L.length 4 (fun k=>encQ (L.getD k default)),.int .i64 (qkE ⟨W,H,K⟩ l)]) []:=h
  dsimp only[v15,Yut,Yuu,chkJC,larC,encK,go_sem,reduceIte,YHf]
  try simp only[Yc,YHf,YHh,reduceCtorEq,YHg]
  refine⟨l,⟨self,by omega⟩,?_⟩
  (try simp only[Yc,YHf,YHh,reduceCtorEq,YHg])
  refine⟨fun hc=>?_,fun hc=>⟨l,⟨self,by omega⟩,?_⟩⟩
  ·have he:qkE ⟨W,H,K⟩ l=YdY ⟨W,H,K⟩ l 200:=if_pos hc
   have:=h [] true ⟨fun _=>rfl,fun h0=>absurd (he▸h0) hc⟩
   rw[he]at this
   exact YqT this
  (try simp only[Yc,YHf,YHh,reduceCtorEq,YHg])
  obtain⟨h1,h2,h3,h4,h5⟩:=Ygv hc
  simp only at h1 h2 h3 h4 h5
  refine⟨fun hb=>?_,fun hb=>?_⟩
  ·have he:qkE ⟨W,H,K⟩ l=4:=by rw[qkE,if_neg (by rw[hc];decide),if_pos hb]
   have:=h [] true ⟨fun _=>rfl,fun h0=>by rw[he]at h0;cases h0⟩
   rw[he]at this
   exact YqT this
  have he:qkE ⟨W,H,K⟩ l=0:=by rw[qkE,if_neg (by rw[hc];decide),if_neg (by rw[hb];exact Bool.false_ne_true)]
  rw[he]at h
  refine⟨⟨by decide,by omega,by omega,by unfold Y3;omega⟩,?_⟩
  refine Loop.keep [1,0,3,1,23,0] Nat (fun i=>[(34,.int .i64 i)]) (fun i=>[(2,.own false 1 l.length (fun k=>[.int .i64 (if k<i then(k:Int)else 0)]))]) [] (fun i=>i<=l.length) (fun i=>l.length-i) ?_ ?_
  ·refine⟨0,YHK _,?_⟩
   dsimp only[go_sem,reduceIte,YHf]
   simp only[Ya]
   exact⟨⟨by decide,by decide,by decide,by decide,rfl⟩,rfl,fun k _=>(if_neg (YIf _)).symm⟩
  rintro i hi
  dsimp only[Yuv,YuA,YuF,sfW,YHj,go_sem,reduceIte,YHf]
  simp only[Yc,YHf,YHh,reduceCtorEq,YHg]
  refine⟨fun hlt=>⟨⟨by omega,by omega⟩,by omega,i+1,by omega,by omega,?_⟩,fun hge=>?_⟩
  ·rw[YHi ((i:Int)+1) (by omega)]
   simp only[Ya]
   refine⟨⟨by decide,by decide,by decide,by decide,rfl⟩,fun k hk=>?_⟩
   by_cases c:k=i
   ·rw[if_pos c,if_pos (by omega),c];exact⟨⟨rfl,rfl⟩,trivial⟩
   ·rw[if_neg c]
    by_cases c2:k<i
    ·rw[if_pos c2,if_pos (by omega)];exact⟨⟨rfl,rfl⟩,trivial⟩
    ·rw[if_neg c2,if_neg (by omega)];exact⟨⟨rfl,rfl⟩,trivial⟩
  obtain rfl:i=l.length:=by omega
  clear hi hge
  refine⟨rfl,idA l.length,⟨Ybj _,fun k hk=>by rw[if_pos hk];unfold arrC;rw[Yl3 hk]⟩,⟨⟨W,H,K,z,l⟩,rfl,by rw[Ybj];exact hn,by rw[Ybj];omega,fun k hk=>?_⟩,fun g hgs hq=>?_⟩
  ·rw[Ybj]at hk
   rw[Yl3 hk]
   exact⟨by omega,by show(k:Int)<(l.length:Int);omega⟩
  obtain⟨J',hJ1,hJ2,hJ3⟩:=hq
  have hJl:l=J'.l:=Yvq (J:=⟨W,H,K,z,l⟩) (List.cons.inj hJ1).1
  rw[<-hJl,Ybj]at hJ3
  rw[Ybj]at hJ2
  obtain⟨o1,o2,o3⟩:=YBb hJ2 hJ3
  clear hJ1 hJ2 hJ3 hJl
  obtain⟨ord,hord⟩:∃ord,ord=(YIc l.length).map fun k=>(g[k]!).toNat:=⟨_,rfl⟩
  rw[<-hord]at o1 o2
  have hQ:QuiR ⟨W,H,K⟩ l (quiF ⟨W,H,K⟩ l ord):=⟨fun h0=>absurd he h0,fun _=>⟨ord,o1,o2,rfl⟩⟩
  have h:=fun zz=>h (quiF ⟨W,H,K⟩ l ord) zz hQ
  have ordl:ord.length=l.length:=by rw[hord,List.length_map,List.length_range]
  have ordg:∀k,k<l.length->ord.getD k default=(g[k]!).toNat:=fun k hk=>by
   rw[hord,YHo,List.getElem?_map,List.getElem?_range hk];rfl
  refine⟨⟨by decide,by omega,by omega,by unfold Y3;omega⟩,?_⟩
  obtain⟨st,hst⟩:∃st:Nat->Qst,st=fun k=>quiL ⟨W,H,K⟩ l (ord.take k) (qui0 l.length):=⟨_,rfl⟩
  refine Loop.keep [1,0,7,38,0] (Nat×Bool×Bool) (fun s=>[(51,.int .i64 s.1),(11,.own 4 0 (st s.1).sv.length 4),(12,.own 5 0 (st s.1).tp.length 1)]) (fun s=>[(3,.own false 4 l.length (fun k=>encQ ((st s.1).out.getD k default))),(4,.own s.2.1 4 (st s.1).sv.length (fun k=>encQ ((st s.1).sv.getD k default))),(5,.own s.2.2 1 (st s.1).tp.length (fun k=>enc1 ((st s.1).tp.getD k default)))]) [.gone,.gone] (fun s=>s.1<=l.length/\(s.2.1=true->(st s.1).sv.length=0)/\(s.2.2=true->(st s.1).tp.length=0)) (fun s=>l.length-s.1) ?_ ?_
  ·refine⟨(0,true,true),⟨YHK _,fun _=>by rw[hst];rfl,fun _=>by rw[hst];rfl⟩,?_⟩
   dsimp only[go_sem,reduceIte,YHf]
   simp only[Ya]
   have e0:st 0=qui0 l.length:=by rw[hst];rfl
   rw[e0]
   refine⟨⟨by decide,by decide,⟨by decide,by decide,rfl⟩,⟨by decide,by decide,rfl⟩,by decide,rfl⟩,fun k _=>of_eq_true (Yk _ _ _ _),fun k hk=>?_,rfl,rfl⟩
   have e1:(qui0 l.length).out.getD k default=spt0:=by
    show(List.replicate l.length spt0).getD k default=spt0
    rw[YHo,List.getElem?_replicate,if_pos hk];rfl
   rw[e1]
   exact⟨⟨rfl,rfl⟩,⟨rfl,rfl⟩,⟨rfl,rfl⟩,⟨rfl,rfl⟩,trivial⟩
  rintro⟨c,z1,z2⟩ ⟨hc0,hz1,hz2⟩
  replace hc0:c<=l.length:=hc0
  replace hz1:z1=true->(st c).sv.length=0:=hz1
  replace hz2:z2=true->(st c).tp.length=0:=hz2
  dsimp only[arrC,Yux,YuC,v40,encQ,YHj,go_sem,reduceIte,YHf]
  simp only[Yc,YHf,YHh,reduceCtorEq,YHg]
  have hall:∀i,i<l.length->okC ⟨W,H,K⟩ l i:=fun i hi=>by
   have a1:=h5 i hi
   have a2:=YHP.1 hb _ (Yh hi)
   simp only[larS,YHS,decide_eq_true_eq]at a2
   exact⟨⟨a1.1.1,by show _<=W;omega⟩,a1.2.1,by show _<=H;omega⟩
  obtain⟨p1,p2,p3,p4,p5⟩:=YAB (p:=⟨W,H,K⟩) h4.1 o1 hall o2 c
  rw[show quiL ⟨W,H,K⟩ l (ord.take c) (qui0 l.length)=st c by rw[hst]]at p1 p2 p3 p4 p5
  simp only at p2 p3
  refine⟨fun hlt=>?_,fun hge=>?_⟩
  ·have hcl:c<l.length:=by omega
   obtain⟨i,hi⟩:=YHv (o3 c hcl).1
   have hil:i<l.length:=by have:=(o3 c hcl).2;omega
   have hoi:ord.getD c default=i:=by rw[ordg c hcl,hi];rfl
   have hnext:st (c+1)=quiS ⟨W,H,K⟩ l (st c) i:=by
    rw[hst]
    show quiL _ _ _ _=quiS _ _ (quiL _ _ _ _) i
    unfold quiL
    rw[Ym (by omega),hoi]
   rw[hi,YHj]
   refine⟨⟨by omega,hlt⟩,hcl,⟨by omega,by omega⟩,?_⟩
   obtain⟨x,hx⟩:∃x,x=l.getD i default:=⟨_,rfl⟩
   rw[<-hx]
   have hxr:=h5 i hil
   rw[<-hx]at hxr
   refine Loop.keep [0,0,5,0] Nat (fun m=>[(8,.int .i64 m)]) (fun _=>[]) [] (fun m=>m<=(st c).sv.length/\∀j,j<m->decide (((st c).sv.getD j default).x+x.w<=W)=false) (fun m=>(st c).sv.length-m) ?_ ?_
   ·refine⟨0,⟨YHK _,fun j h=>by omega⟩,?_⟩
    dsimp only[go_sem,reduceIte,YHf]
    simp only[Ya]
    repeat' (first|decide|exact rfl|apply YHB| (intro k hk;exact of_eq_true (Yk _ _ _ _)) | (intro k hk;exact of_eq_true (YgF _ _ _)))
   rintro m ⟨hm,hq⟩
   dsimp only[Yuy,YuD,v41,Yuw,YuB,v39,YHj,go_sem,reduceIte,YHf]
   simp only[Yc,YHf,YHh,reduceCtorEq,YHg]
   refine⟨fun hml=>?_,fun hml=>?_⟩
   ·have hmm:m<(st c).sv.length:=by omega
    have hb2:=p2 m hmm
    rw[YHi (((st c).sv.getD m default).x+x.w) (by omega)]
    refine⟨⟨by omega,hml⟩,hmm,fun hroom=>⟨fun hneg=>by omega,fun _=>?_⟩,fun hroom=>?_⟩
    ·have hput:st (c+1)=(st c).put ⟨W,H,K⟩ x i m:=by
      have e1:=Yl4 (p:=fun t:Spt=>decide (t.x+x.w<=W)) (i:=0) hq hmm (decide_eq_true hroom)
      rw[hnext]
      unfold quiS
      rw[<-hx]
      simp only[e1,YIb]
     have g1:∀j,(st (c+1)).out.getD j default=if j=i then(st c).sv.getD m default else(st c).out.getD j default:=fun j=>by rw[hput];exact Ycw (by rw[p1];exact hil)
     have g2:∀j,(st (c+1)).sv.getD j default=if j=m then { (st c).sv.getD m default with x:=((st c).sv.getD m default).x+(x.w+K)}else(st c).sv.getD j default:=fun j=>by rw[hput];exact Ycw hmm
     have g3:(st (c+1)).sv.length=(st c).sv.length:=by rw[hput];exact List.length_set
     have g4:(st (c+1)).tp=(st c).tp:=by rw[hput];rfl
     refine⟨⟨by omega,by omega⟩,hmm,⟨by omega,by omega⟩,hil,⟨by omega,by omega⟩,hmm,⟨by omega,by omega⟩,hmm,(c+1,z1,z2),⟨by show c+1<=_;omega,fun h0=>by have:=hz1 h0;omega,fun h0=>by show(st (c+1)).tp.length=0;rw[g4];exact hz2 h0⟩,by show l.length-(c+1)<_;omega,?_⟩
     rw[YHi ((c:Int)+1) (by omega),YHi (x.w+K) (by omega),YHi (((st c).sv.getD m default).x+(x.w+K)) (by omega),g4,g3]
     simp only[Ya]
     refine⟨⟨by decide,by decide,by decide,by decide,by decide,rfl⟩,fun k _=>of_eq_true (Yk _ _ _ _),fun k _=>?_,fun k _=>?_,fun k _=>of_eq_true (YgF _ _ _)⟩
     ·by_cases ck:k=i
      ·rw[if_pos ck]
       exact Ya8 (s:=(st c).sv.getD m default) (by rw[g1,if_pos ck])
      ·rw[if_neg ck]
       exact Ya8 (s:=(st c).out.getD k default) (by rw[g1,if_neg ck])
     ·by_cases ck:k=m
      ·rw[if_pos ck]
       exact Ya8 (s:={ (st c).sv.getD m default with x:=((st c).sv.getD m default).x+(x.w+K)}) (by rw[g2,if_pos ck])
      ·rw[if_neg ck]
       exact Ya8 (s:=(st c).sv.getD k default) (by rw[g2,if_neg ck])
    ·refine⟨m+1,⟨by omega,fun j hj=>?_⟩,by omega,?_⟩
     ·rcases YHA j m with h'|h'
      ·exact of_decide_eq_false (hq j h')
      ·obtain rfl:j=m:=by omega
       exact hroom
     ·rw[YHi ((m:Int)+1) (by omega)]
      simp only[Ya]
      repeat' (first|decide|exact rfl|apply YHB| (intro k hk;exact of_eq_true (Yk _ _ _ _)) | (intro k hk;exact of_eq_true (YgF _ _ _)))
   ·obtain rfl:m=(st c).sv.length:=by omega
    refine⟨fun _=>?_,fun hneg=>absurd (by decide) hneg⟩
    refine Loop.keep [0,0,5,0] Nat (fun m=>[(8,.int .i64 m)]) (fun _=>[]) [] (fun m=>m<=(st c).tp.length/\∀j,j<m->decide ((st c).tp.getD j default+x.h<=H)=false) (fun m=>(st c).tp.length-m) ?_ ?_
    ·refine⟨0,⟨YHK _,fun j h=>by omega⟩,?_⟩
     dsimp only[go_sem,reduceIte,YHf]
     simp only[Ya]
     repeat' (first|decide|exact rfl|apply YHB| (intro k hk;exact of_eq_true (Yk _ _ _ _)) | (intro k hk;exact of_eq_true (YgF _ _ _)))
    rintro m ⟨hm,hq2⟩
    dsimp only[Yuz,YuE,v42,enc1,YHj,go_sem,reduceIte,YHf]
    simp only[Yc,YHf,YHh,reduceCtorEq,YHg]
    refine⟨fun hml2=>?_,fun hml2=>?_⟩
    ·have hmm:m<(st c).tp.length:=by omega
     have hb3:=p3 m hmm
     rw[YHi ((st c).tp.getD m default+x.h) (by have:(st c).tp.getD m default=(st c).tp.getD m 0:=rfl;omega)]
     refine⟨⟨by omega,hml2⟩,hmm,fun hroom=>⟨fun hneg=>by omega,fun _=>?_⟩,fun hroom=>?_⟩
     ·simp only[YHj,Nat.lt_irrefl,if_false,Nat.sub_self,Nat.zero_mul]
      dsimp only[YHj,go_sem,reduceIte,YHf]
      simp only[Yc,YHf,YHh,reduceCtorEq,YHg]
      simp only[YHj,Nat.lt_irrefl,if_false,Nat.sub_self,Nat.zero_mul]
      try dsimp only[YHj,go_sem,reduceIte,YHf]
      try simp only[Yc,YHf,YHh,reduceCtorEq,YHg]
      try simp only[YHj,Nat.lt_irrefl,if_false,Nat.sub_self,Nat.zero_mul]
      try dsimp only[YHj,go_sem,reduceIte,YHf]
      try simp only[Yc,YHf,YHh,reduceCtorEq,YHg]
      have hput:st (c+1)=((st c).shelf ⟨W,H,K⟩ x m).put ⟨W,H,K⟩ x i (st c).sv.length:=by
       have e1:=Yjf (p:=fun t:Spt=>decide (t.x+x.w<=W)) (i:=0) hq
       have e2:=Yl4 (p:=fun y:Int=>decide (y+x.h<=H)) (i:=0) hq2 hmm (decide_eq_true hroom)
       rw[hnext]
       unfold quiS
       rw[<-hx]
       simp only[e1,e2,YIb]
      obtain⟨g3,g4,g1,g2,g5⟩:=Yll (p:=⟨W,H,K⟩) (x:=x) (i:=i) (on:=m) (s:=st c) hmm (by rw[p1];exact hil)
      rw[<-hput]at g1 g2 g3 g4 g5
      refine⟨⟨by omega,by omega⟩,hmm,by decide,⟨by unfold Y3;omega,YDh _ _ _ _⟩,⟨by omega,by omega⟩,hmm,⟨by omega,by omega⟩,hmm,⟨by omega,by omega⟩,by omega,⟨by omega,by omega⟩,hil,⟨by omega,by omega⟩,by omega,⟨by omega,by omega⟩,by omega,(c+1,false,z2),⟨by show c+1<=_;omega,fun h0=>(by cases h0),fun h0=>by show(st (c+1)).tp.length=0;rw[g4];exact hz2 h0⟩,by show l.length-(c+1)<_;omega,?_⟩
      have hb3':(st c).tp.getD m default=(st c).tp.getD m 0:=rfl
      rw[YHi ((c:Int)+1) (by omega),YHi (x.w+K) (by omega),YHi (0+(x.w+K)) (by omega),YHi (x.h+K) (by omega),YHi ((st c).tp.getD m default+(x.h+K)) (by omega),g3,g4]
      simp only[Ya]
      refine⟨⟨by decide,by decide,by decide,by decide,by decide,rfl⟩,fun k _=>of_eq_true (Yk _ _ _ _),fun k _=>?_,⟨by cases z1 <;> rfl,fun k hk=>?_⟩,fun k _=>?_⟩
      ·by_cases ck:k=i
       ·rw[if_pos ck]
        exact Ya8 (s:=⟨(m:Int),((st c).sv.length:Int),0,(st c).tp.getD m default⟩) (by rw[g1,if_pos ck];rfl)
       ·rw[if_neg ck]
        exact Ya8 (s:=(st c).out.getD k default) (by rw[g1,if_neg ck])
      ·by_cases ck:k=(st c).sv.length
       ·rw[if_pos ck]
        exact Ya8 (s:=⟨(m:Int),((st c).sv.length:Int),0+(x.w+K),(st c).tp.getD m default⟩) (by rw[g2 k hk,if_pos ck];rfl)
       ·rw[if_neg ck,if_pos (by omega)]
        exact Ya8 (s:=(st c).sv.getD k default) (by rw[g2 k hk,if_neg ck])
      ·by_cases ck:k=m
       ·rw[if_pos ck]
        exact YfY (s:=(st c).tp.getD m default+(x.h+K)) (by rw[g5,if_pos ck];rfl)
       ·rw[if_neg ck]
        exact YfY (s:=(st c).tp.getD k default) (by rw[g5,if_neg ck])
     ·refine⟨m+1,⟨by omega,fun j hj=>?_⟩,by omega,?_⟩
      ·rcases YHA j m with h'|h'
       ·exact of_decide_eq_false (hq2 j h')
       ·obtain rfl:j=m:=by omega
        exact hroom
      ·rw[YHi ((m:Int)+1) (by omega)]
       simp only[Ya]
       repeat' (first|decide|exact rfl|apply YHB| (intro k hk;exact of_eq_true (Yk _ _ _ _)) | (intro k hk;exact of_eq_true (YgF _ _ _)))
    ·obtain rfl:m=(st c).tp.length:=by omega
     refine⟨fun _=>?_,fun hneg=>absurd (by decide) hneg⟩
     simp only[YHj,Nat.lt_irrefl,if_false,Nat.sub_self,Nat.zero_mul]
     dsimp only[YHj,go_sem,reduceIte,YHf]
     simp only[Yc,YHf,YHh,reduceCtorEq,YHg]
     simp only[YHj,Nat.lt_irrefl,if_false,Nat.sub_self,Nat.zero_mul]
     try dsimp only[YHj,go_sem,reduceIte,YHf]
     try simp only[Yc,YHf,YHh,reduceCtorEq,YHg]
     try simp only[YHj,Nat.lt_irrefl,if_false,Nat.sub_self,Nat.zero_mul]
     try dsimp only[YHj,go_sem,reduceIte,YHf]
     try simp only[Yc,YHf,YHh,reduceCtorEq,YHg]
     have hput:st (c+1)=(Qst.shelf ⟨W,H,K⟩ x (st c).tp.length ⟨(st c).out,(st c).sv,(st c).tp++[0]⟩).put ⟨W,H,K⟩ x i (st c).sv.length:=by
      have e1:=Yjf (p:=fun t:Spt=>decide (t.x+x.w<=W)) (i:=0) hq
      have e2:=Yjf (p:=fun y:Int=>decide (y+x.h<=H)) (i:=0) hq2
      rw[hnext]
      unfold quiS
      rw[<-hx]
      simp only[e1,e2]
     have ht:((st c).tp++[0]).length=(st c).tp.length+1:=by rw[YHM];rfl
     obtain⟨g3,g4,g1,g2,g5⟩:=Yll (p:=⟨W,H,K⟩) (x:=x) (i:=i) (on:=(st c).tp.length) (s:=⟨(st c).out,(st c).sv,(st c).tp++[0]⟩) (by show _<((st c).tp++[0]).length;omega) (by show i<(st c).out.length;rw[p1];exact hil)
     simp only at g1 g2 g3 g4 g5
     rw[<-hput]at g1 g2 g3 g4 g5
     have ha:∀j,((st c).tp++[0]).getD j default=if j<(st c).tp.length then(st c).tp.getD j default else if j=(st c).tp.length then(0:Int)else default:=fun j=>YaL
     have ha0:((st c).tp++[0]).getD (st c).tp.length 0=0:=by
      have:=ha (st c).tp.length
      rw[if_neg (Nat.lt_irrefl _),if_pos rfl]at this;exact this
     rw[ha0]at g1 g2 g5
     rw[ht]at g4
     refine⟨by decide,⟨by unfold Y3;omega,app1k _⟩,⟨by omega,by omega⟩,by omega,by decide,⟨by unfold Y3;omega,YDh _ _ _ _⟩,⟨by omega,by omega⟩,by omega,⟨by omega,by omega⟩,by omega,⟨by omega,by omega⟩,by omega,⟨by omega,by omega⟩,hil,⟨by omega,by omega⟩,by omega,⟨by omega,by omega⟩,by omega,(c+1,false,false),⟨by show c+1<=_;omega,fun h0=>(by cases h0),fun h0=>(by cases h0)⟩,by show l.length-(c+1)<_;omega,?_⟩
     rw[YHi ((c:Int)+1) (by omega),YHi (x.w+K) (by omega),YHi (0+(x.w+K)) (by omega),YHi (x.h+K) (by omega),YHi (0+(x.h+K)) (by omega),g3,g4]
     simp only[Ya]
     refine⟨⟨by decide,by decide,by decide,by decide,by decide,rfl⟩,fun k _=>of_eq_true (Yk _ _ _ _),fun k _=>?_,⟨by cases z1 <;> rfl,fun k hk=>?_⟩,by cases z2 <;> rfl,fun k hk=>?_⟩
     ·by_cases ck:k=i
      ·rw[if_pos ck]
       exact Ya8 (s:=⟨((st c).tp.length:Int),((st c).sv.length:Int),0,0⟩) (by rw[g1,if_pos ck])
      ·rw[if_neg ck]
       exact Ya8 (s:=(st c).out.getD k default) (by rw[g1,if_neg ck])
     ·by_cases ck:k=(st c).sv.length
      ·rw[if_pos ck]
       exact Ya8 (s:=⟨((st c).tp.length:Int),((st c).sv.length:Int),0+(x.w+K),0⟩) (by rw[g2 k hk,if_pos ck])
      ·rw[if_neg ck,if_pos (by omega)]
       exact Ya8 (s:=(st c).sv.getD k default) (by rw[g2 k hk,if_neg ck])
     ·by_cases ck:k=(st c).tp.length
      ·rw[if_pos ck]
       exact YfY (s:=0+(x.h+K)) (by rw[g5,if_pos ck])
      ·rw[if_neg ck,if_pos (by omega)]
       exact YfY (s:=(st c).tp.getD k default) (by rw[g5,if_neg ck,ha,if_pos (by omega)])
  ·obtain rfl:c=l.length:=by omega
   have hfin:(st l.length).out=quiF ⟨W,H,K⟩ l ord:=by
    rw[hst]
    show(quiL _ _ (ord.take l.length) _).out=_
    rw[List.take_of_length_le (by omega)];rfl
   have hlen:(quiF ⟨W,H,K⟩ l ord).length=l.length:=by rw[<-hfin];exact p1
   have h:=h false
   rw[<-hfin]at h
   rw[p1]at h
   refine YE h ?_ (fun _=>by simp [encQ,Yt,Ys])
   simp only[expo,view,YaS,viewN,getH,Ybu,YH1,cond,Yxs,YnO,Ysg,Yxr,and_true]
   exact⟨id,rfl,rfl,rfl,fun k _=>Yd _⟩
 ·exact h.1.elim
def bdyF(d len seam:Int):Cut×Int:=if(outS d 1000 1000000|| outS len 1000 12000000|| outS seam 0 20000)=true then(⟨0,0⟩,2)else(⟨(piF (d,d)).1.2+seam,len⟩,0)
def bdyC:Ctr:={ alias:=false,of:=fun l=>match l with
 | [.int .i64 d,.int .i64 len,.int .i64 seam]=> .fin (.tup [.agg (encK (bdyF d len seam).1),.int .i64 (bdyF d len seam).2]) []
 |_=> .pre False (.fin (.tup [.agg [.int .i64 0,.int .i64 0],.int .i64 0]) [])}
theorem Yw8{k:SV->List HO->Prop}{al:Bool}{hp:List HO}{p:Cut}{e:Int}(h:k (.tup [.agg (encK p),.int .i64 e]) []):Yz al k (.tup [.agg [.int .i64 p.w,.int .i64 p.h],.int .i64 e]) hp:=
 YE (show k _ []from h) (YC (.tup [.agg [.int .i64 p.w,.int .i64 p.h],.int .i64 e]) ⟨⟨trivial,trivial,trivial⟩,trivial,trivial⟩) (fun _=>by simp [encK,Yt,Ys])
def v9:VF:=⟨33,[.cell 6 true 2,.tmp 7],(ZR [Zn 6,Zi 7 0] (.seq (ZR [Zm 10 0,u1 11 (.call 21) [.tm 10,.cn (.int .i64 1000),.cn (.int .i64 1000000)],Zm 12 11,Zg 13 12 false 1,u2 14 12 false (.call 21) [.tm 13,.cn (.int .i64 1000),.cn (.int .i64 12000000)],u1 15 .or [.tm 12,.tm 14],Zm 16 15,Zg 17 16 false 2,u2 18 16 false (.call 21) [.tm 17,.cn (.int .i64 0),.cn (.int .i64 20000)],u1 19 .or [.tm 16,.tm 18]] (ZC 19 (ZR [u1 20 (.build [(.int .i64 0),(.int .i64 0)] []) [],Zs 2 6 20,Zi 7 2] .ret) .skip)) (ZR [Zm 22 0,Zc 23 23 22,Zc 24 22 23,Zm 21 24,Ze 25 0 21,Ze 26 1 21,Zn 8,Zs 2 8 25,Zm 9 26] (ZR [Za 27 1 8,Zf 28 1 27,Zm 29 2,Zo 30 .add 28 29,Zm 31 1,u1 32 (.build [(.int .i64 0),(.int .i64 0)] [(0,1),(1,1)]) [.tm 30,.tm 31],Zs 2 6 32,Zi 7 0] .ret))))⟩
theorem v9_is:Ye YHk Tryz.f9=some v9:=by kernel_rfl
def v23:VF:=⟨6,[.cell 2 true 2],(ZR [Zn 2] (ZR [Zm 3 0,Zm 4 0,u1 5 (.build [(.int .i64 0),(.int .i64 0)] [(0,1),(1,1)]) [.tm 3,.tm 4],Zs 2 2 5] .ret))⟩
theorem YFT:Ye YHk Tryz.f23=some v23:=by kernel_rfl
def TB0:Env:={ ct:=fun n=>match n with|21=>some soutC|22=>some piC|_=>none,fn:=fun n=>match n with|23=>some v23|_=>none,meth:=fun _ _=>none}
theorem YuZ:TB0.ct 21=some soutC:=rfl
theorem Yu0:TB0.ct 22=some piC:=rfl
theorem Yu1:TB0.ct 23=none:=rfl
theorem Yu2:TB0.fn 23=some v23:=rfl
theorem YC2:Yn YHk TB0:=by
 refine⟨fun f c h=>?_,fun f vf h=>?_,(fun _ _ _ h=>by cases h),by kernel_rfl,(fun _ h=>by cases h),(fun _ _ h=>by cases h)⟩
 ·simp only[TB0]at h
  split at h
  ·cases h;exact⟨Yol,Tryz.f21,Tryz.func21,by kernel_rfl,by kernel_rfl⟩
  ·cases h;exact⟨YEw,Tryz.f22,Tryz.func22,by kernel_rfl,by kernel_rfl⟩
  ·cases h
 ·simp only[TB0]at h
  split at h
  ·cases h;exact⟨Tryz.f23,Tryz.func23,YFT,Tryz.f23,Tryz.func23,by kernel_rfl,by kernel_rfl⟩
  ·cases h
theorem YDn:bdyC.ok YHk 9:=by
 refine Yb Tryz.func9 v9_is YC2 400 bdyC fun args k h=>?_
 simp only[bdyC]at h
 split at h
 ·rename_i d len seam
  have h:k (.tup [.agg (encK (bdyF d len seam).1),.int .i64 (bdyF d len seam).2]) []:=h
  refine⟨[.int .i64 d,.int .i64 len,.int .i64 seam],by simp [leL,le],?_⟩
  dsimp only[v9,YuZ,Yu0,Yu1,Yu2,v23,soutC,piC,ivoC,enc2,go_sem,reduceIte,YHf]
  simp only[Yc,YHf,YHh,reduceCtorEq,YHg]
  have he:∀c:Bool,c=(outS d 1000 1000000|| outS len 1000 12000000|| outS seam 0 20000)->True:=fun _ _=>trivial
  refine⟨fun hc=>?_,fun hc=>?_⟩
  ·rw[bdyF,if_pos hc]at h
   exact Yw8 (p:=⟨0,0⟩) h
  ·rw[bdyF,if_neg (by rw[hc];decide)]at h
   simp only[YHp,outS,decide_eq_false_iff_not]at hc
   have e:=pi_v (a:=(d,d)) (by show 0<=d;omega) (YIs _) (by show d<=3000000;omega)
   have e2:(piF (d,d)).1.2= -((-(d*3141592653589793239))/1000000000000000000):=by rw[e]
   refine⟨by decide,by decide,?_⟩
   rw[YHi _ (by rw[e2];omega)]
   exact Yw8 h
 ·exact h.1.elim
def tabL(s:Scl)(low high:Int):List Iv:=if askS s low high≠0 then []else(YIc (high-low+1).toNat).map fun k:Nat=>diaS s (low+k)
def tabC:Ctr:={ alias:=false,of:=fun l=>match l with
 | [.agg [.int .i64 d,.int .i64 c,.vs _ _ n sz get,.int .i64 mn,.int .i64 md,.int .i64 cn,.int .i64 cd],.int .i64 low,.int .i64 high]=>
   .ex (List (Int×Int)) fun bs=> .pre (lsP 2 enc2 n sz get bs/\n<=9223372036854775807) (.all Bool fun z=> .fin (.tup [.vs true z (tabL ⟨d,c,bs,mn,md,cn,cd⟩ low high).length 2 (fun k=>enc2 ((tabL ⟨d,c,bs,mn,md,cn,cd⟩ low high).getD k default)),.int .i64 (askS ⟨d,c,bs,mn,md,cn,cd⟩ low high)]) [])
 |_=>noC}
def v5:VF:=⟨30,[.tmp 6,.tmp 7],(ZR [u1 3 .box [.tm 0],u1 6 .mov [.cn .nil],Zi 7 0] (.seq (ZR [Zt 12 7 3,Zm 13 1,Zm 14 2,u1 15 (.call 11) [.tm 12,.tm 13,.tm 14],Zm 8 15] (ZR [Zm 16 8,Zq 17 .neq 16 0] (ZC 17 (ZR [Zm 18 8,u1 6 .mov [.cn .nil],Zm 7 18] .ret) .skip))) (ZR [u1 9 (.alloc [.nil]) []] (.seq (ZR [Zt 19 7 3,Zm 20 1,Zm 21 2,u1 22 (.call 12) [.tm 19,.tm 20,.tm 21]] (.block 0 (.rangeFn (.tm 22) [23,24] (.region [Zn 11,Zs 2 11 24]) (.block 1 (.region [Zf 25 1 9,Zt 26 2 11,u1 27 (.buildSlice 2 1 [(.int .i64 0),(.int .i64 0)] [(0,2)]) [.tm 26],u1 28 (.append 2 16 [(.int .i64 0),(.int .i64 0)]) [.tm 25,.tm 27],Zs 1 9 28]))))) (ZR [Zf 29 1 9,Zm 6 29,Zi 7 0] .ret)))))⟩
theorem v5_is:Ye YHk Tryz.f5=some v5:=by kernel_rfl
def v12:VF:=⟨8,[.tmp 6],(ZR [u1 3 .box [.tm 0],u1 4 .box [.tm 1],u1 5 .box [.tm 2],u1 6 .mov [.cn (.val .nilFunc)]] (ZR [u1 7 (.mkfn (.func 32) 0) [.tm 4,.tm 5,.tm 3],Zm 6 7] .ret))⟩
theorem YFI:Ye YHk Tryz.f12=some v12:=by kernel_rfl
def v32:VF:=⟨19,[],(ZR [Zf 6 1 1,Zm 5 6] (.block 0 (.loop (.seq (ZR [Zm 7 5,Zf 8 1 2,Zr 9 .leq 7 8] (ZC 9 .skip (.exit 0))) (.seq (.block 1 (ZR [Zm 12 0,Zm 13 5,Zt 14 7 3,Zm 15 5,Zd 16 33 14 15,u1 17 .callv [.tm 12,.tm 13,.tm 16],u1 18 .not [.tm 17]] (ZC 18 .ret .skip))) (.region [Zm 10 5,Zp 11 10 1,Zm 5 11]))))))⟩
theorem YF2:Ye YHk Tryz.f32=some v32:=by kernel_rfl
def TB1:Env:={ ct:=fun n=>match n with|11=>some askC|33=>some diaC|_=>none,fn:=fun n=>match n with|12=>some v12|32=>some v32|_=>none,meth:=fun _ _=>none}
theorem YmT:TB1.ct 11=some askC:=rfl
theorem YmV:TB1.ct 33=some diaC:=rfl
theorem YmU:TB1.ct 12=none:=rfl
theorem YmW:TB1.fn 12=some v12:=rfl
theorem YmX:TB1.fn 32=some v32:=rfl
theorem YC3:Yn YHk TB1:=by
 refine⟨fun f c h=>?_,fun f vf h=>?_,(fun _ _ _ h=>by cases h),by kernel_rfl,(fun _ h=>by cases h),(fun _ _ h=>by cases h)⟩
 ·simp only[TB1]at h
  split at h
  ·cases h;exact⟨YDi,Tryz.f11,Tryz.func11,by kernel_rfl,by kernel_rfl⟩
  ·cases h;exact⟨YDB,Tryz.f33,Tryz.func33,by kernel_rfl,by kernel_rfl⟩
  ·cases h
 ·simp only[TB1]at h
  split at h
  ·cases h;exact⟨Tryz.f12,Tryz.func12,YFI,Tryz.f12,Tryz.func12,by kernel_rfl,by kernel_rfl⟩
  ·cases h;exact⟨Tryz.f32,Tryz.func32,YF2,Tryz.f32,Tryz.func32,by kernel_rfl,by kernel_rfl⟩
  ·cases h
theorem YFA:tabC.ok YHk 5:=by
 refine Yb Tryz.func5 v5_is YC3 400 tabC fun args k h=>?_
 simp only[tabC]at h
 split at h
 ·rename_i d c tt z n sz get mn md cn cd low high
  obtain⟨bs,⟨⟨rfl,rfl,hg⟩,hn⟩,h⟩:=h
  refine⟨[.agg [.int .i64 d,.int .i64 c,.vs tt z bs.length 2 (fun k=>enc2 (bs.getD k default)),.int .i64 mn,.int .i64 md,.int .i64 cn,.int .i64 cd],.int .i64 low,.int .i64 high],⟨⟨⟨rfl,rfl⟩,⟨rfl,rfl⟩,⟨id,rfl,rfl,rfl,hg⟩,⟨rfl,rfl⟩,⟨rfl,rfl⟩,⟨rfl,rfl⟩,⟨rfl,rfl⟩,trivial⟩,⟨rfl,rfl⟩,⟨rfl,rfl⟩,trivial⟩,?_⟩
  have h:∀zz:Bool,k (.tup [.vs true zz (tabL ⟨d,c,bs,mn,md,cn,cd⟩ low high).length 2 (fun k=>enc2 ((tabL ⟨d,c,bs,mn,md,cn,cd⟩ low high).getD k default)),.int .i64 (askS ⟨d,c,bs,mn,md,cn,cd⟩ low high)]) []:=h
  have self:lsP 2 enc2 bs.length 2 (fun k=>[SV.int IntKind.i64 (bs.getD k default).fst,SV.int IntKind.i64 (bs.getD k default).snd]) bs:=⟨rfl,rfl,fun k _=>Yd _⟩
  dsimp only[v5,YmT,YmV,YmU,YmW,v12,YmX,v32,askC,diaC,enc2,go_sem,reduceIte,YHf]
  simp only[Yc,YHf,YHh,reduceCtorEq,YHg]
  refine⟨bs,⟨self,hn⟩,fun hc=>?_,fun hc=>?_⟩
  ·have e:tabL ⟨d,c,bs,mn,md,cn,cd⟩ low high=[]:=by rw[tabL,if_pos hc]
   refine YE (h true) ?_ ?_
   ·rw[e];simp [expo,view,YaS,viewN,le,leL]
   ·intro _;rw[e];simp [Yt,Ys]
  ·obtain⟨S,hS⟩:∃S,S=(⟨d,c,bs,mn,md,cn,cd⟩:Scl):=⟨_,rfl⟩
   obtain⟨a1,a2,a3,a4⟩:=YyX hc
   have:=Yev a1
   have hT:tabL S low high=(YIc (high-low+1).toNat).map fun k:Nat=>diaS S (low+k):=by rw[tabL,hS,if_neg (by rw[hc];decide)]
   have hl:(tabL S low high).length=(high-low+1).toNat:=by rw[hT,List.length_map,List.length_range]
   have hg1:∀k:Nat,k<(high-low+1).toNat->(tabL S low high).getD k default=diaS S (low+k):=fun k hk=>by
    rw[hT,YHo,List.getElem?_map,List.getElem?_range hk];rfl
   rw[<-hS,hl]at h
   intro l
   refine Loop.keep [0,0,0,0] (Nat×Bool) (fun s=>[(5,.int .i64 (low+(s.1:Int)))]) (fun s=>[(1,.box [.own 5 0 s.1 2]),(5,.own s.2 2 s.1 (fun k=>enc2 (diaS S (low+(k:Int)))))]) [.gone] (fun s=>s.1<=(high-low+1).toNat/\(s.2=true->s.1=0)) (fun s=>(high-low+1).toNat-s.1) ?_ ?_
   ·refine⟨(0,true),⟨YHK _,fun _=>rfl⟩,?_⟩
    dsimp only[go_sem,reduceIte,YHf]
    simp only[Ya]
    exact⟨⟨by decide,by decide,by decide,(Int.add_zero low).symm⟩,by decide,by decide,by decide⟩
   ·rintro⟨i,z1⟩ ⟨hi,hz⟩
    replace hi:i<=(high-low+1).toNat:=hi
    replace hz:z1=true->i=0:=hz
    dsimp only[v5,YmT,YmV,YmU,YmW,v12,YmX,v32,askC,diaC,enc2,go_sem,reduceIte,YHf]
    simp only[Yc,YHf,YHh,reduceCtorEq,YHg]
    refine⟨fun hlt=>⟨bs,⟨self,a1,by omega,by omega⟩,by decide,⟨by unfold Y3;omega,fun q hq=>match q,hq with|0,_=>⟨rfl,trivial,trivial,trivial⟩⟩,(i+1,false),⟨by show i+1<=_;omega,fun h0=>by cases h0⟩,by show _-(i+1)<_;omega,?_⟩,fun hge=>?_⟩
    ·rw[YHi (low+(i:Int)+1) (by omega),<-hS]
     simp only[Ya]
     refine⟨⟨by decide,by decide,by decide,by omega⟩,by decide,by decide,by cases z1 <;> rfl,fun q hq=>?_⟩
     by_cases cq:q<i
     ·rw[if_pos cq];exact Yx [.int _ _,.int _ _] ⟨trivial,trivial,trivial⟩
     ·obtain rfl:q=i:=by omega
      rw[if_neg cq,Nat.sub_self]
      exact Yx [.int _ _,.int _ _] ⟨trivial,trivial,trivial⟩
    ·obtain rfl:i=(high-low+1).toNat:=by omega
     rw[hS,hc,<-hS]at h
     refine YE (h z1) ?_ ?_
     ·dsimp only[expo,enc2,go_sem,reduceIte,YHf]
      simp only[Ya]
      intro q hq
      rw[hg1 q hq]
      exact Yd _
     ·intro _;simp [Yt,Ys,enc2]
 ·exact h.1.elim
structure Brd where
 w:Int
 d:Int
 c:Int
 a:Int
 s:Int
 wk:List (Int×Int)
instance :Inhabited Brd:=⟨⟨0,0,0,0,0,[]⟩⟩
structure Std where
 x:Int
 y:Int
 r:Int
 h:Int
 deriving DecidableEq
instance :Inhabited Std:=⟨⟨0,0,0,0⟩⟩
def outF(n lo hi:Int):Bool:=decide (n<lo) || decide (hi<n)
def Yfv(p:Int×Int):Bool:=outF p.1 (-10000000) 20000000|| outF p.2 (-10000000) 20000000
def YeW(b:Brd):Bool:=outF b.w 1 10000000|| outF b.d 1 10000000|| outF b.c 0 1000000|| outF b.s 0 1000000|| outF b.a 1 10000000|| b.wk.any Yfv
def Yja(r h:Int):Bool:=outF r 1 1000000|| outF h 1 12000000
def Yg4(p:Std):Bool:=Yja p.r p.h|| outF p.x 0 10000000|| outF p.y 0 10000000
def chkF(b:Brd)(l:List Std):Int:=if 8<b.wk.length\/200<l.length then 3 else if YeW b|| l.any Yg4 then 2 else 0
def okB(b:Brd):Prop:=(1<=b.w/\b.w<=10000000)/\(1<=b.d/\b.d<=10000000)/\(0<=b.c/\b.c<=1000000)/\(0<=b.s/\b.s<=1000000)/\(1<=b.a/\b.a<=10000000)/\b.wk.length<=8/\∀p∈b.wk,(-10000000<=p.1/\p.1<=20000000)/\(-10000000<=p.2/\p.2<=20000000)
def okP(p:Std):Prop:=(1<=p.r/\p.r<=1000000)/\(1<=p.h/\p.h<=12000000)/\(0<=p.x/\p.x<=10000000)/\(0<=p.y/\p.y<=10000000)
theorem Yda{n lo hi:Int}:outF n lo hi=false↔lo<=n/\n<=hi:=by
 simp only[outF,YHp,decide_eq_false_iff_not];omega
theorem YlD{b:Brd}(hl:b.wk.length<=8)(h:YeW b=false):okB b:=by
 simp only[YeW,YHp,Yda,YHP,Yfv]at h
 obtain⟨⟨⟨⟨⟨h1,h2⟩,h3⟩,h4⟩,h5⟩,h6⟩:=h
 refine⟨h1,h2,h3,h4,h5,hl,fun p hp=>?_⟩
 have:=h6 p hp
 rw[YIp,YHp,Yda,Yda]at this
 exact this
theorem Ywh{p:Std}(h:Yg4 p=false):okP p:=by
 simp only[Yg4,Yja,YHp,Yda]at h
 exact⟨h.1.1.1,h.1.1.2,h.1.2,h.2⟩
theorem Yrq{b:Brd}{l:List Std}(h:chkF b l=0):okB b/\(∀p∈l,okP p)/\l.length<=200:=by
 unfold chkF at h
 split at h
 ·cases h
 ·split at h
  ·cases h
  ·rename_i h1 h2
   rw[YIp,YHp]at h2
   refine⟨YlD (by omega) h2.1,fun p hp=>Ywh ?_,by omega⟩
   have:=YHP.1 h2.2 p hp
   simpa using this
def sqF(x y:Int):Int:=x*x+y*y
def offF(b:Brd)(p:Std):Bool:=outF p.x p.r (b.w-p.r) || outF p.y p.r (b.d-p.r)
def Ypd(b:Brd)(p q:Std):Bool:=decide (sqF (p.x-q.x) (p.y-q.y)<(p.r+q.r+b.c)*(p.r+q.r+b.c))
def Yoo(b:Brd)(l:List Std):Bool:=(YIc l.length).any fun i=>(l.take i).any (Ypd b (l.getD i default))
def Yhp(b:Brd)(l:List Std):Int:=if l.any (offF b)then 7 else if Yoo b l then 8 else 0
def Ygu(b:Brd)(l:List Std):Int:=if chkF b l≠0 then chkF b l else Yhp b l
abbrev Ft:=Int×Int
structure Plan where
 depth:Int
 rows:Int
 first:Int
 is:Bool
instance :Inhabited Plan:=⟨⟨0,0,0,false⟩⟩
def Yas(p out:Plan):Bool:=!out.is|| decide (p.depth<out.depth) || (decide (p.depth=out.depth)&&decide (p.rows<out.rows))
def YdN(b:Brd)(deep:Int)(rest:Plan)(k:Nat):Plan:=⟨deep+rest.depth+(if 0<rest.rows then b.c else 0),1+rest.rows,(k:Int)+1,true⟩
def YdV(b:Brd):List Ft->List Plan->Int->Int->Nat->Plan->Plan
 | [],_,_,_,_,out=>out
 |f::l,ps,wide,deep,k,out=>
  if b.w<wide+(b.c+2*f.1)then out else
   YdV b l ps.tail (wide+(b.c+2*f.1)) (max deep (2*f.1)) (k+1)
    (if(ps.headD default).is=false then out else if Yas (YdN b (max deep (2*f.1)) (ps.headD default) k) out then YdN b (max deep (2*f.1)) (ps.headD default) k else out)
def Yq7(b:Brd)(l:List Ft)(ps:List Plan):Plan:=YdV b l ps (-b.c) 0 0 ⟨0,0,0,false⟩
def Ya2(b:Brd):List Ft->List Plan
 | []=>[⟨0,0,0,true⟩]
 |f::l=>Yq7 b (f::l) (Ya2 b l)::Ya2 b l
def YF(b:Brd)(l:List Ft):Plan:=(Ya2 b l).headD default
def Yk4(l:List Ft):Int:=l.foldl (fun m f=>max m f.1) 0
def rowF(b:Brd)(y:Int):List Ft->Int->List Std
 | [],_=>[]
 |f::l,x=>⟨x+f.1,y,f.1,f.2⟩::rowF b y l (x+(2*f.1+b.c))
def YY(b:Brd):List Nat->List Ft->Int->List Std
 | [],_,_=>[]
 |k::ks,l,y=>rowF b (y+Yk4 (l.take k)) (l.take k) 0++YY b ks (l.drop k) (y+(2*Yk4 (l.take k)+b.c))
def divG(b:Brd):Nat->List Ft->List Nat
 |0,_=>[]
 |n+1,l=>if l.length=0 then []else(YF b l).first.toNat::divG b n (l.drop (YF b l).first.toNat)
def YcS(b:Brd)(l:List Ft):List Nat:=divG b l.length l
def askF(b:Brd)(l:List Ft):Int:=if 8<b.wk.length\/200<l.length then 3 else if YeW b|| l.any (fun f=>Yja f.1 f.2)then 2 else 0
def YaQ(b:Brd)(l:List Ft):List Std×Int:=if askF b l≠0 then([],askF b l)else if(YF b l).is=false\/b.d<(YF b l).depth then([],4)else(YY b (YcS b l) l 0,0)
def okF(f:Ft):Prop:=(1<=f.1/\f.1<=1000000)/\1<=f.2/\f.2<=12000000
def okPl(p:Plan):Prop:=(0<=p.depth/\p.depth<=1000000000)/\(0<=p.rows/\p.rows<=1000)/\(0<=p.first/\p.first<=1000)
def ltP(p q:Plan):Prop:=p.depth<q.depth\/p.depth=q.depth/\p.rows<q.rows
def leP(p q:Plan):Prop:=ltP p q\/p.depth=q.depth/\p.rows=q.rows/\p.first<=q.first
theorem YeA(p:Plan):leP p p:= .inr ⟨rfl,rfl,YIs _⟩
theorem YkW{p q r:Plan}(h1:leP p q)(h2:leP q r):leP p r:=by unfold leP ltP at*;omega
theorem YhX{p out:Plan}(h:out.is=true):Yas p out=true↔ltP p out:=by
 simp only[Yas,h,Bool.not_true,Bool.false_or,YHS,YHn,decide_eq_true_eq];rfl
def Yef(b:Brd)(w:Int)(l:List Ft):Int:=l.foldl (fun w f=>w+(b.c+2*f.1)) w
def Ycq(m:Int)(l:List Ft):Int:=l.foldl (fun m f=>max m (2*f.1)) m
theorem YjT{b:Brd}(hc:0<=b.c):∀(l:List Ft)(w:Int),(∀f∈l,1<=f.1)->w<=Yef b w l
 | [],w,_=>YIs _
 |f::l,w,h=>by
  have h1:=h f YHw
  have:=YjT hc l (w+(b.c+2*f.1)) fun g hg=>h g (YHu _ hg)
  unfold Yef at*
  rw[YHX];omega
theorem YkB:∀(l:List Ft)(m:Int),(∀f∈l,okF f)->0<=m->m<=2000000->m<=Ycq m l/\Ycq m l<=2000000
 | [],m,_,_,h=>⟨YIs _,h⟩
 |f::l,m,h,h0,h1=>by
  obtain⟨⟨f1,f2⟩,_⟩:=h f YHw
  have:=YkB l (max m (2*f.1)) (fun g hg=>h g (YHu _ hg)) (by omega) (by omega)
  unfold Ycq at*
  rw[YHX];omega
theorem YhW{b:Brd}(hc:0<=b.c):∀(l:List Ft)(ps:List Plan)(wide deep:Int)(k:Nat)(out:Plan),(∀f∈l,1<=f.1)->(out.is=true->out.first<=k)->
 (YdV b l ps wide deep k out=out\/∃j,j<l.length/\Yef b wide (l.take (j+1))<=b.w/\(ps.getD j default).is=true/\YdV b l ps wide deep k out=YdN b (Ycq deep (l.take (j+1))) (ps.getD j default) (k+j))/\
 (out.is=true->(YdV b l ps wide deep k out).is=true/\leP (YdV b l ps wide deep k out) out)/\
 (∀j,j<l.length->Yef b wide (l.take (j+1))<=b.w->(ps.getD j default).is=true->(YdV b l ps wide deep k out).is=true/\leP (YdV b l ps wide deep k out) (YdN b (Ycq deep (l.take (j+1))) (ps.getD j default) (k+j)))
 | [],ps,wide,deep,k,out,_,_=>⟨.inl rfl,fun h=>⟨h,YeA _⟩,fun j h=>absurd h (YIf _)⟩
 |f::l,ps,wide,deep,k,out,hl,hk=>by
  have hl':∀g∈l,1<=g.1:=fun g hg=>hl g (YHu _ hg)
  have hw:∀j,Yef b wide ((f::l).take (j+1))=Yef b (wide+(b.c+2*f.1)) (l.take j):=fun j=>rfl
  have hd:∀j,Ycq deep ((f::l).take (j+1))=Ycq (max deep (2*f.1)) (l.take j):=fun j=>rfl
  have hp:ps.headD default=ps.getD 0 default:=by cases ps <;> rfl
  have ht:∀j,ps.tail.getD j default=ps.getD (j+1) default:=fun j=>by cases ps <;> rfl
  rw[YdV]
  split
  ·rename_i hb
   refine⟨.inl rfl,fun h=>⟨h,YeA _⟩,fun j hj h1=>?_⟩
   have:=YjT hc (l.take j) (wide+(b.c+2*f.1)) fun g hg=>hl' g (List.mem_of_mem_take hg)
   rw[hw]at h1;omega
  ·rename_i hb
   obtain⟨C,hC⟩:∃C,C=YdN b (max deep (2*f.1)) (ps.headD default) k:=⟨_,rfl⟩
   obtain⟨o,ho⟩:∃o,o=(if(ps.headD default).is=false then out else if Yas C out then C else out):=⟨_,rfl⟩
   rw[<-hC,<-ho]
   have hCi:C.is=true:=by rw[hC];rfl
   have hCf:C.first=(k:Int)+1:=by rw[hC];rfl
   have hok:o.is=true->o.first<=((k+1:Nat):Int):=by
    rw[ho]
    split
    ·intro h;have:=hk h;omega
    ·split
     ·intro _;rw[hCf];omega
     ·intro h;have:=hk h;omega
   have hoo:out.is=true->o.is=true/\leP o out:=by
    intro h
    rw[ho]
    split
    ·exact⟨h,YeA _⟩
    ·split
     ·rename_i hbt
      exact⟨hCi,.inl ((YhX h).1 hbt)⟩
     ·exact⟨h,YeA _⟩
   have hoC:(ps.headD default).is=true->o.is=true/\leP o C:=by
    intro h
    rw[ho,if_neg (by rw[h];simp)]
    split
    ·exact⟨hCi,YeA _⟩
    ·rename_i hbt
     cases hi:out.is with
     |false=>exact absurd (by simp [Yas,hi]) hbt
     |true=>
      refine⟨rfl,?_⟩
      have h1:¬ltP C out:=fun hh=>hbt ((YhX hi).2 hh)
      have h2:=hk hi
      unfold leP ltP at*
      rw[hCf];omega
   obtain⟨s1,s2,s3⟩:=YhW hc l ps.tail (wide+(b.c+2*f.1)) (max deep (2*f.1)) (k+1) o hl' hok
   refine⟨?_,fun h=>?_,fun j hj h1 h2=>?_⟩
   ·rcases s1 with e| ⟨j,h1,h2,h3,h4⟩
    ·rw[e,ho]
     split
     ·exact .inl rfl
     ·rename_i hi
      split
      ·right
       refine⟨0,by simp,?_,?_,?_⟩
       ·rw[hw];show wide+(b.c+2*f.1)<=b.w;omega
       ·rw[<-hp];simpa using hi
       ·rw[hC,<-hp];rfl
      ·exact .inl rfl
    ·right
     refine⟨j+1,by simpa using h1,by rw[hw];exact h2,by rw[<-ht];exact h3,?_⟩
     rw[h4,hd,ht,show k+1+j=k+(j+1)by omega]
   ·obtain⟨a1,a2⟩:=hoo h
    obtain⟨b1,b2⟩:=s2 a1
    exact⟨b1,YkW b2 a2⟩
   ·cases j with
    |zero=>
     rw[<-hp]at h2
     obtain⟨a1,a2⟩:=hoC h2
     obtain⟨b1,b2⟩:=s2 a1
     rw[hd,<-hp]
     refine⟨b1,YkW b2 ?_⟩
     rw[hC]at a2;exact a2
    |succ j=>
     rw[hw]at h1
     rw[hd,<-ht,show k+(j+1)=k+1+j by omega]
     exact s3 j (by simpa using hj) h1 (by rw[ht];exact h2)
theorem YeG(b:Brd):∀l:List Ft,(Ya2 b l).length=l.length+1
 | []=>rfl
 |f::l=>by rw[Ya2,YH8,YeG b l,YH8]
theorem Yig(b:Brd):∀(l:List Ft)(j:Nat),j<=l.length->(Ya2 b l).drop j=Ya2 b (l.drop j)
 |l,0,_=>rfl
 | [],j+1,h=>by simp at h
 |f::l,j+1,h=>by
  rw[Ya2,List.drop_succ_cons,List.drop_succ_cons]
  exact Yig b l j (by simpa using h)
theorem Yg9(b:Brd){l:List Ft}{j:Nat}(h:j<=l.length):(Ya2 b l).getD j default=YF b (l.drop j):=by
 unfold YF
 rw[<-Yig b l j h]
 rw[YHo]
 have:j<(Ya2 b l).length:=by rw[YeG];omega
 rw[List.drop_eq_getElem_cons this,YH2 this];rfl
theorem Yha(b:Brd):YF b []=⟨0,0,0,true⟩:=rfl
theorem YkO{b:Brd}(hc:0<=b.c){l:List Ft}(h0:0<l.length)(hl:∀f∈l,1<=f.1):
 ((YF b l).is=false/\YF b l=⟨0,0,0,false⟩\/∃j,j<l.length/\Yef b (-b.c) (l.take (j+1))<=b.w/\(YF b (l.drop (j+1))).is=true/\YF b l=YdN b (Ycq 0 (l.take (j+1))) (YF b (l.drop (j+1))) j)/\
 ∀j,j<l.length->Yef b (-b.c) (l.take (j+1))<=b.w->(YF b (l.drop (j+1))).is=true->(YF b l).is=true/\leP (YF b l) (YdN b (Ycq 0 (l.take (j+1))) (YF b (l.drop (j+1))) j):=by
 cases l with
 |nil=>simp at h0
 |cons f l=>
  have e:YF b (f::l)=YdV b (f::l) (Ya2 b l) (-b.c) 0 0 ⟨0,0,0,false⟩:=rfl
  obtain⟨s1,_,s3⟩:=YhW hc (f::l) (Ya2 b l) (-b.c) 0 0 ⟨0,0,0,false⟩ hl (fun h=>by cases h)
  rw[<-e]at s1 s3
  have hg:∀j,j<(f::l).length->(Ya2 b l).getD j default=YF b ((f::l).drop (j+1)):=fun j hj=>Yg9 b (by simpa using Nat.lt_succ_iff.1 hj)
  refine⟨?_,fun j hj h1 h2=>?_⟩
  ·rcases s1 with e1| ⟨j,hj,h1,h2,h3⟩
   ·left;rw[e1];exact⟨rfl,rfl⟩
   ·right
    rw[hg j hj]at h2 h3
    rw[YIb]at h3
    exact⟨j,hj,h1,h2,h3⟩
  ·have:=s3 j hj h1 (by rw[hg j hj];exact h2)
   rw[hg j hj,YIb]at this
   exact this
theorem YrS{b:Brd}(hc:0<=b.c/\b.c<=1000000):∀(n:Nat)(l:List Ft),l.length=n->n<=200->(∀f∈l,okF f)->(0<=(YF b l).depth/\(YF b l).depth<=3000000*n)/\(0<=(YF b l).rows/\(YF b l).rows<=n)/\(0<=(YF b l).first/\(YF b l).first<=n):=by
 intro n
 induction n using Nat.strongRecOn with
 |ind n ih=>
  intro l hn h2 hl
  rcases YH4 n with h0|h0
  ·have:l=[]:=List.eq_nil_of_length_eq_zero (by omega)
   subst this
   rw[Yha];simp only;omega
  ·obtain⟨s1,_⟩:=YkO hc.1 (l:=l) (by omega) fun f hf=>(hl f hf).1.1
   rcases s1 with⟨_,e⟩ | ⟨j,hj,h3,h4,e⟩
   ·rw[e];simp only;omega
   ·have hd:=YkB (l.take (j+1)) 0 (fun f hf=>hl f (List.mem_of_mem_take hf)) (by omega) (by omega)
    have i1:=ih (n-(j+1)) (by omega) (l.drop (j+1)) (by rw[YIg];omega) (by omega) fun f hf=>hl f (YIm hf)
    rw[e]
    unfold YdN
    generalize YF b (l.drop (j+1))=R at*
    generalize Ycq 0 (l.take (j+1))=D at*
    simp only
    split <;> omega
theorem Ywk{b:Brd}(hc:0<=b.c/\b.c<=1000000){l:List Ft}(hn:l.length<=200)(hl:∀f∈l,okF f):∀p∈Ya2 b l,okPl p:=by
 intro p hp
 obtain⟨j,hj,rfl⟩:=YQ hp
 rw[YeG]at hj
 rw[Yg9 b (by omega)]
 have:=YrS hc (l.length-j) (l.drop j) (by rw[YIg]) (by omega) fun f hf=>hl f (YIm hf)
 unfold okPl
 generalize YF b (l.drop j)=R at*
 omega
theorem Ydx{b:Brd}(hc:0<=b.c){l:List Ft}(h0:0<l.length)(hl:∀f∈l,1<=f.1)(hi:(YF b l).is=true):
 ∃j,j<l.length/\(YF b l).first=(j:Int)+1/\Yef b (-b.c) (l.take (j+1))<=b.w/\(YF b (l.drop (j+1))).is=true/\YF b l=YdN b (Ycq 0 (l.take (j+1))) (YF b (l.drop (j+1))) j:=by
 obtain⟨s1,_⟩:=YkO hc h0 hl
 rcases s1 with⟨e,_⟩ | ⟨j,hj,h1,h2,e⟩
 ·rw[e]at hi;cases hi
 ·exact⟨j,hj,by rw[e];rfl,h1,h2,e⟩
theorem Ysz{l:List Ft}(h:∀f∈l,1<=f.1)(h0:0<l.length):(l.foldl (fun m f=>if m.1<f.1 then f else m) (l.headD default)).1=Yk4 l:=by
 have key:∀(l:List Ft)(m:Ft),(l.foldl (fun m f=>if m.1<f.1 then f else m) m).1=l.foldl (fun m f=>max m f.1) m.1:=by
  intro l
  induction l with
  |nil=>intro m;rfl
  |cons f l ih=>
   intro m
   rw[YHX,YHX,ih]
   congr 1
   split <;> omega
 cases l with
 |nil=>simp at h0
 |cons f l=>
  have hf:=h f YHw
  rw[key]
  show(f::l).foldl (fun m f=>max m f.1) f.1=(f::l).foldl (fun m f=>max m f.1) 0
  rw[YHX,YHX,Int.max_self,Int.max_eq_right (by omega)]
theorem Yk5:∀(l:List Ft)(m:Int),(∀f∈l,okF f)->0<=m->m<=1000000->0<=l.foldl (fun m f=>max m f.1) m/\l.foldl (fun m f=>max m f.1) m<=1000000
 | [],m,_,h0,h1=>⟨h0,h1⟩
 |f::l,m,h,h0,h1=>by
  obtain⟨⟨f1,f2⟩,_⟩:=h f YHw
  rw[YHX]
  exact Yk5 l _ (fun g hg=>h g (YHu _ hg)) (by omega) (by omega)
theorem Yoa(b:Brd)(y:Int):∀(l:List Ft)(x:Int),(rowF b y l x).length=l.length
 | [],_=>rfl
 |f::l,x=>by rw[rowF,YH8,Yoa b y l,YH8]
end Go.Proofs.YtlfhmpkopcnheaaGreat
