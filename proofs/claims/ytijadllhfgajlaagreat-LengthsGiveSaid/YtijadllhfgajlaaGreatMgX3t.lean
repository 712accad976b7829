/- Intervals: the laws without a reference, in plain Lean. -/
import Derived.Test.YtijadllhfgajlaaGreatMgX3e
import Derived.Test.YtijadllhfgajlaaGreatMgX3s
import Derived.Test.YtijadllhfgajlaaGreatMgX3d
import Derived.Test.YtijadllhfgajlaaGreatRows
open And renaming intro->YGV
open Bool renaming and_eq_false_iff->YG9,and_eq_true->YGA,and_true->YHE,eq_iff_iff->YHK,false_and->YHx,false_eq_true->YGM,false_or->YHv,not_and->YHD,not_eq_false'->YHe,not_eq_true'->YGP,not_true->YHL,or_eq_true->YHd,true_and->YHn
open Int renaming eq_ofNat_of_zero_le->YGT,mul_le_mul_of_nonneg_right->YGS,toNat->YHQ,toNat_natCast->YGv
open Go.IntWalk renaming i64_in->YGy,u64_in->YGR,up_tdiv->YHq,up_tmod->YHR
open List renaming length_cons->YHF,mem_cons->YGQ,mem_cons_of_mem->YGK,mem_cons_self->YGI,take_length->YHm
open Nat renaming add_mul->YG8,div_add_mod->YG3,div_eq_of_lt->YHs,div_le_self->YHr,eq_zero_or_pos->YG7,le_of_eq->YHM,le_of_lt->YHp,le_refl->YGH,le_trans->YGF,lt_of_le_of_lt->YGU,lt_of_lt_of_le->YG1,lt_or_ge->YGN,mod_eq_of_lt->YHb,mod_lt->YG0,mul_comm->YGC,mul_le_mul->YGX,one_mul->YHz,pow_add->YGJ,pow_le_pow_left->YHk,pow_le_pow_right->YGG,pow_lt_pow_right->YHu,pow_mul->YHj,pow_succ->YGZ,reduceAdd->YGu,reduceEqDiff->YGs,reduceLeDiff->YGt,zero_add->YHC,zero_le->YHl
open Or renaming inr->YHT
open Go.Proofs.Tryz renaming prog->YGw
set_option linter.all false
namespace Go.Proofs.YtijadllhfgajlaaGreat
open Go Go.Vx
theorem Ymn{a1 a2 x:Int}(y:Int)(h1:a1<=x)(h2:x<=a2):min (a1*y) (a2*y)<=x*y/\x*y<=max (a1*y) (a2*y):=by
 rcases Int.le_total 0 y with hy|hy
 . have:=YGS h1 hy
   have:=YGS h2 hy
   omega
 . have:=Int.mul_le_mul_of_nonpos_right h1 hy
   have:=Int.mul_le_mul_of_nonpos_right h2 hy
   omega
def lo4(a b c d:Int):Int:=min (min a b) (min c d)
def hi4(a b c d:Int):Int:=max (max a b) (max c d)
theorem Yzn{a1 a2 b1 b2 x y:Int}(h1:a1<=x)(h2:x<=a2)(h3:b1<=y)(h4:y<=b2):
   lo4 (a1*b1) (a1*b2) (a2*b1) (a2*b2)<=x*y/\x*y<=hi4 (a1*b1) (a1*b2) (a2*b1) (a2*b2):=by
 have e1:=Ymn y h1 h2
 have e2:=Ymn a1 h3 h4
 have e3:=Ymn a2 h3 h4
 rw[Int.mul_comm b1 a1,Int.mul_comm b2 a1,Int.mul_comm y a1]at e2
 rw[Int.mul_comm b1 a2,Int.mul_comm b2 a2,Int.mul_comm y a2]at e3
 unfold lo4 hi4
 omega
theorem YrE{a b M N:Int}(h1: -M<=a/\a<=M)(h2: -N<=b/\b<=N): -(M*N)<=a*b/\a*b<=M*N:=by
 have e:=Yzn h1.1 h1.2 h2.1 h2.2
 simp only[lo4,hi4,Int.neg_mul,Int.mul_neg,Int.neg_neg]at e
 have:0<=M*N:=Int.mul_nonneg (by omega) (by omega)
 omega
theorem Yso{t:Int}(h: -4611686018427387904<=t/\t<=4611686018427387904):rndB t=(t,true):=by rw[rndB,if_pos h]
theorem YvF{s t:Int}:YaH (s,true) (t,true)=((s,t),0):=rfl
theorem Ycc{x y x' y':Int}(hy:0<y)(hy':0<y')(h:x*y'<=x'*y):x/y<=x'/y':=by
 rw[Int.le_ediv_iff_mul_le hy']
 have e:=Int.ediv_mul_le x (show y≠0 by omega)
 have e2:=YGS e (show 0<=y' by omega)
 refine Int.le_of_mul_le_mul_right ?_ hy
 have e3:x/y*y*y'=x/y*y'*y:=by rw[Int.mul_assoc,Int.mul_comm y,<-Int.mul_assoc]
 omega
theorem Ynz{x y:Int}(hy:0<y):x/y<= -((-x)/y):=by
 have e:=Int.ediv_mul_le x (show y≠0 by omega)
 have e2:=Int.ediv_mul_le (-x) (show y≠0 by omega)
 have e3:(x/y+(-x)/y)*y<=0*y:=by rw[Int.add_mul];omega
 have:=Int.le_of_mul_le_mul_right e3 hy
 omega
def lowQ(a b:Iv):Int:=a.1/(if a.1<0 then b.1 else b.2)
def Yhj(a b:Iv):Int:= -((-a.2)/(if a.2<0 then b.2 else b.1))
theorem YrA{a b:Iv}{x y:Int}(hb:0<b.1)(h1:a.1<=x)(h3:b.1<=y)(h4:y<=b.2):lowQ a b<=x/y:=by
 unfold lowQ
 split
 . rename_i h
   refine Ycc hb (by omega) ?_
   have e1:=Int.mul_le_mul_of_nonpos_left (show a.1<=0 by omega) h3
   have e2:=YGS h1 (show 0<=b.1 by omega)
   omega
 . rename_i h
   refine Ycc (by omega) (by omega) ?_
   have e1:=Int.mul_le_mul_of_nonneg_left h4 (show 0<=a.1 by omega)
   have e2:=YGS h1 (show 0<=b.2 by omega)
   omega
theorem YnL{a b:Iv}{x y:Int}(hb:0<b.1)(h2:x<=a.2)(h3:b.1<=y)(h4:y<=b.2): -((-x)/y)<=Yhj a b:=by
 unfold Yhj
 have hx: -a.2<= -x:=by omega
 split
 . rename_i h
   refine Int.neg_le_neg (Ycc (by omega) (by omega) ?_)
   have e1:=Int.mul_le_mul_of_nonneg_left h4 (show 0<= -a.2 by omega)
   have e2:=YGS hx (show 0<=b.2 by omega)
   omega
 . rename_i h
   refine Int.neg_le_neg (Ycc (by omega) (by omega) ?_)
   have e1:=Int.mul_le_mul_of_nonpos_left (show -a.2<=0 by omega) h3
   have e2:=YGS hx (show 0<=b.1 by omega)
   omega
theorem Ymk{a b:Iv}:lowQ a b=a.1/b.1\/lowQ a b=a.1/b.2:=by
 unfold lowQ;split
 . exact Or.inl rfl
 . exact YHT rfl
theorem YjA{a b:Iv}:Yhj a b= -((-a.2)/b.1)\/Yhj a b= -((-a.2)/b.2):=by
 unfold Yhj;split
 . exact YHT rfl
 . exact Or.inl rfl
theorem Yvm{x y M:Int}(hx: -M<=x/\x<=M)(hy:0<y): -M<=x/y/\x/y<=M:=by
 have h:=Int.mul_le_mul_of_nonneg_left (show 1<=y by omega) (show 0<=M by omega)
 have e1:=Ycc (x:= -M) (y:=1) (x':=x) (y':=y) (by omega) hy (by rw[Int.neg_mul];omega)
 have e2:=Ycc (x:=x) (y:=y) (x':=M) (y':=1) hy (by omega) (by omega)
 rw[Int.ediv_one]at e1 e2
 exact⟨e1,e2⟩
theorem YjU{x y:Int}(hx: -2147483648<=x/\x<=2147483648)(hy:0<y): -2147483648<=x/y/\x/y<=2147483648:=by
 have e1:=Ycc (x:= -2147483648) (y:=1) (x':=x) (y':=y) (by omega) hy (by omega)
 have e2:=Ycc (x:=x) (y:=y) (x':=2147483648) (y':=1) hy (by omega) (by omega)
 rw[Int.ediv_one]at e1 e2
 exact⟨e1,e2⟩
theorem div_pos{a b:Iv}(ha: -2147483648<=a.1/\a.1<=a.2/\a.2<=2147483648)(hb:0<b.1)(hb':b.1<=b.2):YeT a b=((lowQ a b,Yhj a b),0):=by
 have q1: -2147483648<=lowQ a b/\lowQ a b<=2147483648:=by
   rcases Ymk (a:=a) (b:=b)with e|e <;> rw[e]
   . exact YjU (by omega) (by omega)
   . exact YjU (by omega) (by omega)
 have q2: -2147483648<=Yhj a b/\Yhj a b<=2147483648:=by
   rcases YjA (a:=a) (b:=b)with e|e <;> rw[e]
   . have:=YjU (x:= -a.2) (y:=b.1) (by omega) (by omega);omega
   . have:=YjU (x:= -a.2) (y:=b.2) (by omega) (by omega);omega
 have e1:rndF false a.1 (if a.1<0 then b.1 else b.2)=rndB (lowQ a b):=rfl
 have e2:rndF true a.2 (if a.2<0 then b.2 else b.1)=rndB (Yhj a b):=rfl
 rw[YeT,e1,e2,Yso (by omega),Yso (by omega),YvF]
def dnF(x y:Int):Int:=if y<0 then(-x)/(-y)else x/y
def neg(a:Iv):Iv:=(-a.2, -a.1)
def divP(a b:Iv):Iv:=if b.2<0 then(lowQ (neg a) (neg b),Yhj (neg a) (neg b))else(lowQ a b,Yhj a b)
theorem Yyr{a b:Iv}{x y:Int}(hb:b.1<=b.2)(h0:¬(b.1<=0/\0<=b.2))(h1:a.1<=x)(h2:x<=a.2)(h3:b.1<=y)(h4:y<=b.2):
   (divP a b).1<=dnF x y/\dnF x y<= -(dnF (-x) y)/\ -(dnF (-x) y)<=(divP a b).2:=by
 unfold divP dnF
 split
 . rw[if_pos (by omega),if_pos (by omega)]
   exact⟨YrA (a:=neg a) (b:=neg b) (by dsimp only[neg];omega) (by dsimp only[neg];omega) (by dsimp only[neg];omega) (by dsimp only[neg];omega),Ynz (by omega),YnL (a:=neg a) (b:=neg b) (by dsimp only[neg];omega) (by dsimp only[neg];omega) (by dsimp only[neg];omega) (by dsimp only[neg];omega)⟩
 . rw[if_neg (by omega),if_neg (by omega)]
   exact⟨YrA (by omega) h1 h3 h4,Ynz (by omega),YnL (by omega) h2 h3 h4⟩
theorem Yyq{a b:Iv}(hb:b.1<=b.2)(h0:¬(b.1<=0/\0<=b.2)):
   ((divP a b).1=dnF a.1 b.1\/(divP a b).1=dnF a.1 b.2\/(divP a b).1=dnF a.2 b.1\/(divP a b).1=dnF a.2 b.2)/\
   ((divP a b).2= -(dnF (-a.1) b.1)\/(divP a b).2= -(dnF (-a.1) b.2)\/(divP a b).2= -(dnF (-a.2) b.1)\/(divP a b).2= -(dnF (-a.2) b.2)):=by
 unfold divP dnF
 by_cases hn:b.2<0
 . simp only[if_pos hn,if_pos (show b.1<0 by omega)]
   have e1:=Ymk (a:=neg a) (b:=neg b)
   have e2:=YjA (a:=neg a) (b:=neg b)
   dsimp only[neg]at e1 e2⊢
   constructor
   . rcases e1 with e|e <;> rw[e] <;> simp
   . rcases e2 with e|e <;> rw[e] <;> simp
 . simp only[if_neg hn,if_neg (show¬b.1<0 by omega)]
   constructor
   . rcases Ymk (a:=a) (b:=b)with e|e <;> rw[e] <;> simp
   . rcases YjA (a:=a) (b:=b)with e|e <;> rw[e] <;> simp
set_option maxRecDepth 100000
set_option maxHeartbeats 4000000
def v71:VF:=⟨16,[.cell 2 true 3],(ZR [u1 2 (.alloc [(.bool false),.nil,.nil]) []] (.seq (ZR [Zm 3 0,Zq 4 .lss 3 0] (ZC 4 (ZR [Zm 5 0,u1 6 .neg [.tm 5],u1 7 (.conv .u64) [.tm 6],Zc 8 74 7,u1 9 (.call 74) [.cn (.int .u64 1)],u1 10 (.build [(.bool false),.nil,.nil] [(0,1),(1,1),(2,1)]) [.cn (.bool true),.tm 8,.tm 9],Zs 3 2 10] .ret) .skip)) (ZR [Zm 11 0,u1 12 (.conv .u64) [.tm 11],Zc 13 74 12,u1 14 (.call 74) [.cn (.int .u64 1)],u1 15 (.build [(.bool false),.nil,.nil] [(1,1),(2,1)]) [.tm 13,.tm 14],Zs 3 2 15] .ret)))⟩
theorem YF0:Yf YGw Tryz.f71=some v71:=by kernel_rfl
def v69:VF:=⟨16,[.cell 4 true 3],(ZR [u1 4 (.alloc [(.bool false),.nil,.nil]) []] (ZR [Zm 8 0,Zc 9 71 8,Zm 10 1,Zc 11 71 10,Zd 12 101 9 11,Zm 7 12,Ze 13 0 7,Ze 14 1 7,u1 5 (.alloc [(.bool false),.nil,.nil]) [],Zs 3 5 13,Zm 6 14] (ZR [Zt 15 3 5,Zs 3 4 15] .ret)))⟩
theorem YFY:Yf YGw Tryz.f69=some v69:=by kernel_rfl
def v106:VF:=⟨32,[.tmp 2,.tmp 3],(ZR [u1 1 .box [.tm 0],Zi 2 0,u1 3 .mov [.cn (.bool false)]] (ZR [Zt 10 3 1,Zc 11 136 10,Zm 9 11,Ze 12 0 9,Ze 13 1 9,Ze 14 2 9,Zm 4 12,Zm 5 13,Zm 6 14] (ZR [Zm 16 5,Zc 17 76 16,Zm 15 17,Ze 18 0 15,Ze 19 1 15,Zm 7 18,Zm 8 19] (.seq (ZR [Zm 20 8,Zq 21 .neq 20 0,Zm 22 21,Zg 23 22 false 7,u2 24 22 false (.cmp .gtr) [.tm 23,.cn (.int .u64 4611686018427387904)],u1 25 .or [.tm 22,.tm 24]] (ZC 25 (ZR [Zi 2 0,u1 3 .mov [.cn (.bool false)]] .ret) .skip)) (.seq (ZR [Zm 26 4] (ZC 26 (ZR [Zm 27 7,u1 28 (.conv .i64) [.tm 27],u1 29 .neg [.tm 28],Zm 2 29,u1 3 .mov [.cn (.bool true)]] .ret) .skip)) (ZR [Zm 30 7,u1 31 (.conv .i64) [.tm 30],Zm 2 31,u1 3 .mov [.cn (.bool true)]] .ret))))))⟩
theorem YAI:Yf YGw Tryz.f106=some v106:=by kernel_rfl
def v107:VF:=⟨27,[.tmp 2,.tmp 3],(ZR [u1 1 .box [.tm 0],Zi 2 0,u1 3 .mov [.cn (.bool false)]] (ZR [Za 7 0 1,Zf 8 1 7,u1 9 .not [.tm 8],Zm 10 9,Zj 11 10 true 1 1,Zh 12 10 true 1 11,u2 13 10 true .len [.tm 12],u2 14 10 true (.cmp .gtr) [.tm 13,.cn (.int .i64 0)],u1 15 .and [.tm 10,.tm 14],Za 16 1 1,Zf 17 1 16,Za 18 2 1,Zf 19 1 18,u1 20 (.build [(.bool false),.nil,.nil] [(0,1),(1,1),(2,1)]) [.tm 15,.tm 17,.tm 19],Zc 21 106 20,Zm 6 21,Ze 22 0 6,Ze 23 1 6,Zm 4 22,Zm 5 23] (ZR [Zm 24 4,u1 25 .neg [.tm 24],Zm 26 5,Zm 2 25,Zm 3 26] .ret)))⟩
theorem YAJ:Yf YGw Tryz.f107=some v107:=by kernel_rfl
def v72:VF:=⟨75,[.cell 2 true 2,.tmp 3],(ZR [Zn 2,Zi 3 0] (.seq (.draw [(4,.box [(.bool false),.nil,.nil]),(5,.box [(.bool false),.nil,.nil])] [Zu 13 0,w1 14 (.idxAddr 3) [.tm 13,.cn (.int .i64 0)],Zw 15 3 14,Zu 16 0,w1 17 (.idxAddr 3) [.tm 16,.cn (.int .i64 0)],Zw 18 3 17,⟨Zs 3 4 15,[.tm 17]⟩,ZS 3 5 18]) (.seq (ZR [Zi 6 1] (.block 0 (.loop (.seq (ZR [Zm 19 6,Zm 20 0,Zl 21 20,Zr 22 .lss 19 21] (ZC 22 .skip (.exit 0))) (.seq (.block 1 (.seq (.draw [] [Zu 26 0,Zu 27 6,ZX 28 3 26 27,Zw 29 3 28,Zw 30 3 4,Zz 31 105 29 30,Zu 25 31,ZE 32 0 25,ZE 33 1 25,Zu 7 32,Zu 8 33]) (.seq (ZR [Zm 34 7,Zq 35 .lss 34 0] (ZC 35 (.region [Zm 36 0,Zm 37 6,Zx 38 3 36 37,Zt 39 3 38,Zs 3 4 39]) .skip)) (.seq (.draw [] [Zu 41 0,Zu 42 6,ZX 43 3 41 42,Zw 44 3 43,Zw 45 3 5,Zz 46 105 44 45,Zu 40 46,ZE 47 0 40,ZE 48 1 40,Zu 7 47]) (ZR [Zm 49 7,Zq 50 .gtr 49 0] (ZC 50 (.region [Zm 51 0,Zm 52 6,Zx 53 3 51 52,Zt 54 3 53,Zs 3 5 54]) .skip)))))) (.region [Zm 23 6,Zp 24 23 1,Zm 6 24])))))) (ZR [Zt 56 3 4,Zc 57 106 56,Zm 55 57,Ze 58 0 55,Ze 59 1 55,Zm 9 58,Zm 10 59] (ZR [Zt 61 3 5,Zc 62 107 61,Zm 60 62,Ze 63 0 60,Ze 64 1 60,Zm 11 63,Zm 12 64] (.seq (ZR [Zm 65 10,u1 66 .not [.tm 65],Zm 67 66,Zg 68 67 false 12,u2 69 67 false .not [.tm 68],u1 70 .or [.tm 67,.tm 69]] (ZC 70 (ZR [u1 71 (.build [(.int .i64 0),(.int .i64 0)] []) [],Zs 2 2 71,Zi 3 7] .ret) .skip)) (ZR [Zm 72 9,Zm 73 11,u1 74 (.build [(.int .i64 0),(.int .i64 0)] [(0,1),(1,1)]) [.tm 72,.tm 73],Zs 2 2 74,Zi 3 0] .ret)))))))⟩
theorem YF1:Yf YGw Tryz.f72=some v72:=by kernel_rfl
theorem YeX{p:Fr}(hd:0<p.2)(h1:p.1.natAbs<4294967296^8)(h2:p.2<4294967296^8):frOk p:=
 ⟨hd,YGF (nl_le.2 (YGU (YAb _ _) h1)) (by decide),YGF (nl_le.2 (YGU (Yz5 _ _) h2)) (by decide)⟩
theorem Yim{n:Int}(h: -4611686018427387904<=n/\n<=4611686018427387904):frOk (n,1):=
 YeX (show 0<1 by decide) (by dsimp only;omega) (show 1<4294967296^8 by decide)
theorem YEX(n:Int):rnum n 1=n.natAbs:=by simp [rnum,fg]
theorem YEU(n:Int):rden n 1=1:=by simp [rden,fg]
theorem YDi(p:Fr)(hd:0<p.2):p.1/(p.2:Int)=nsg (decide (p.1<0)) (rnum p.1 p.2)/(rden p.1 p.2:Int):=by
 have h1:=n_eq p.1 p.2
 have h2:=d_eq p.1 p.2
 have hg:0<((fg p.1 p.2:Nat):Int):=by have:=Yd6 (n:=p.1) hd;omega
 conv=>lhs;rw[h1,h2]
 exact Int.mul_ediv_mul_of_pos_left _ _ hg
theorem YDh{p:Fr}(hd:0<p.2):(p.1/(p.2:Int)).natAbs<=rnum p.1 p.2:=by
 rw[YDi p hd]
 have hr:=YaA (n:=p.1) hd
 have:=Yvm (x:=nsg (decide (p.1<0)) (rnum p.1 p.2)) (y:=(rden p.1 p.2:Int)) (M:=(rnum p.1 p.2:Int)) (by unfold nsg;split <;> omega) (by omega)
 omega
theorem Yl0{k:SV->List HO->Prop}{al:Bool}{hp:List HO}{p:Fr}(h:k (.agg (encF true p)) []):YI al k (.agg (encF true p)) hp:=
 YE h (Yy _ ⟨trivial,trivial,trivial,trivial⟩) (fun _=>by simp [encF,natV,Yl,Yo])
theorem YiW{k:SV->List HO->Prop}{al:Bool}{hp:List HO}{κ:IntKind}{x:Int}{b:Bool}(h:k (.tup [.int κ x,.bool b]) []):YI al k (.tup [.int κ x,.bool b]) hp:=
 YE h (Yy _ ⟨trivial,trivial,trivial⟩) (fun _=>by simp [Yl,Yo])
def quoiC:Ctr:={ alias:=false,of:=fun l=>match l with
 | [.int .i64 n]=> .pre (-4611686018427387904<=n/\n<=4611686018427387904) (.fin (.agg (encF true (n,1))) [])
 |_=>noC}
def ofrC:Ctr:={ alias:=false,of:=fun l=>match l with
 | [.int .i64 n,.int .i64 d]=> .pre ((-4611686018427387904<=n/\n<=4611686018427387904)/\0<d/\d<=4611686018427387904) (.fin (.agg (encF true (n,d.toNat))) [])
 |_=>noC}
def floC(up:Bool):Ctr:={ alias:=false,of:=fun l=>match l with
 | [.agg [.bool neg,.vs _ z1 n1 s1 g1,.vs _ z2 n2 s2 g2]]=> .ex Fr fun p=> .pre (Yd1 p neg z1 n1 s1 g1 z2 n2 s2 g2) (.fin (.tup [.int .i64 (rndF up p.1 p.2).1,.bool (rndF up p.1 p.2).2]) [])
 |_=>noC}
def floorC:=floC false
def ceilC:=floC true
def S1:Env:={ ct:=fun n=>match n with|74=>some ofC|136=>some qfloorC|76=>some smallC|_=>none,fn:=fun _=>none,meth:=fun _ _=>none}
theorem Yxs:S1.ct 74=some ofC:=rfl
theorem YtX:S1.ct 136=some qfloorC:=rfl
theorem Yxt:S1.ct 76=some smallC:=rfl
theorem YCB:Yq YGw S1:=by
 refine⟨fun f c h=>?_,fun f vf h=>?_,(fun _ _ _ h=>by cases h),by kernel_rfl,(fun _ h=>by cases h)⟩
 . simp only[S1]at h
   split at h
   . cases h;exact⟨Yms,Tryz.f74,Tryz.func74,by kernel_rfl,by kernel_rfl⟩
   . cases h;exact⟨Yr9,Tryz.f136,Tryz.func136,by kernel_rfl,by kernel_rfl⟩
   . cases h;exact⟨Yom,Tryz.f76,Tryz.func76,by kernel_rfl,by kernel_rfl⟩
   . cases h
 . cases h
theorem Ymy:quoiC.ok YGw 71:=by
 refine Yb Tryz.func71 YF0 YCB 200 quoiC fun args k h=>⟨args,?_⟩
 simp only[quoiC]at h
 split at h
 . rename_i n
   obtain⟨hn,h⟩:=h
   refine⟨by simp [leL,le],?_⟩
   (try dsimp only[v71,Yxs,ofC,natS,go_sem,reduceIte])
   (try simp only[Yd,YGu,YGt,reduceCtorEq,YGs])
   have h:k (.agg (encF true (n,1))) []:=h
   have e:encF true (n,1)=[.bool (decide (n<0)),natV true false n.natAbs,natV true false 1]:=by unfold encF;rw[YEX,YEU]
   refine⟨fun h0=>?_,fun h0=>?_⟩
   . have w1:IntKind.u64.wrap (IntKind.i64.wrap (0-n))= -n:=by rw[YGy (0-n) (by omega),YGR _ (by omega)];omega
     have w2:(-n).toNat=n.natAbs:=by omega
     rw[w1,w2]
     refine⟨by omega,by decide,?_⟩
     have h2:=Yl0 (al:=quoiC.alias) (hp:=[HO.box (encF true (n,1))]) h
     rw[e,decide_eq_true h0]at h2;exact h2
   . have w1:IntKind.u64.wrap n=n:=YGR _ (by omega)
     have w2:n.toNat=n.natAbs:=by omega
     rw[w1,w2]
     refine⟨by omega,by decide,?_⟩
     have h2:=Yl0 (al:=quoiC.alias) (hp:=[HO.box (encF true (n,1))]) h
     rw[e,decide_eq_false h0]at h2;exact h2
 . exact h.1.elim
theorem Ywa:floorC.ok YGw 106:=by
 refine Yb Tryz.func106 YAI YCB 200 floorC fun args k h=>?_
 simp only[floorC,ceilC,floC]at h
 split at h
 . rename_i neg t1 z1 n1 s1 g1 t2 z2 n2 s2 g2
   obtain⟨p,hp,h⟩:=h
   refine⟨[.agg (encF false p)],⟨YeY hp,trivial⟩,?_⟩
   have hok:=hp.1
   clear hp
   (try dsimp only[v106,YtX,Yxt,qfloorC,smallC,natS,natV,encF,go_sem,reduceIte])
   (try simp only[Yd,YGu,YGt,reduceCtorEq,YGs])
   have hN:nl (p.1/(p.2:Int)).natAbs<=512:=YGF (Yax (YDh hok.1)) hok.2.1
   have h:k (.tup [.int .i64 (rndB (p.1/(p.2:Int))).1,.bool (rndB (p.1/(p.2:Int))).2]) []:=h
   have s1:p.1<0->p.1/(p.2:Int)<0:=fun hn=>Int.ediv_neg_of_neg_of_pos hn (by have:=hok.1;omega)
   have s2:¬p.1<0->0<=p.1/(p.2:Int):=fun hn=>Int.ediv_nonneg (by omega) (by omega)
   refine⟨p,Yn hok,by decide,by decide,by decide,(p.1/(p.2:Int)).natAbs,⟨Yc (by omega),rfl,hN⟩,by decide,by decide,?_⟩
   clear hN
   generalize p.1/(p.2:Int)=q at*
   have key:(!decide ((if q.natAbs<18446744073709551616 then(0:Int)else 7)=0) || decide ((4611686018427387904:Int)<if q.natAbs<18446744073709551616 then(q.natAbs:Int)else 0))=decide (4611686018427387904<q.natAbs):=by
     by_cases hN:q.natAbs<18446744073709551616
     . rw[if_pos hN,if_pos hN,YHK];simp only[decide_true,YHL,YHv,decide_eq_true_eq];omega
     . rw[if_neg hN,if_neg hN,YHK];simp only[decide_eq_true_eq];simp;omega
   rw[key]
   refine⟨fun hb=>?_,fun hb=>⟨fun hn=>?_,fun hn=>?_⟩⟩
   . rw[decide_eq_true_eq]at hb
     rw[rndB,if_neg (by omega)]at h
     exact YiW h
   . rw[decide_eq_false_iff_not]at hb
     have:=s1 hn
     rw[rndB,if_pos (by omega)]at h
     have w:IntKind.i64.wrap (0-IntKind.i64.wrap (if q.natAbs<18446744073709551616 then(q.natAbs:Int)else 0))=q:=by
       rw[if_pos (by omega),YGy ((q.natAbs:Int)) (by omega),YGy _ (by omega)];omega
     rw[w];exact YiW h
   . rw[decide_eq_false_iff_not]at hb
     have:=s2 hn
     rw[rndB,if_pos (by omega)]at h
     have w:IntKind.i64.wrap (if q.natAbs<18446744073709551616 then(q.natAbs:Int)else 0)=q:=by
       rw[if_pos (by omega),YGy _ (by omega)];omega
     rw[w];exact YiW h
 . exact h.1.elim
def loQ(x:Fr)(r:List Fr):Fr:=r.foldl (fun low y=>if cmpQ y.1 y.2 low.1 low.2<0 then y else low) x
def hiQ(x:Fr)(r:List Fr):Fr:=r.foldl (fun high y=>if 0<cmpQ y.1 y.2 high.1 high.2 then y else high) x
def YhY(x:Fr)(r:List Fr):Iv×Int:=YaH (rndF false (loQ x r).1 (loQ x r).2) (rndF true (hiQ x r).1 (hiQ x r).2)
def spanqC:Ctr:={ alias:=false,of:=fun l=>match l with
 | [.vs _ _ n sz get]=> .ex Fr fun x=> .ex (List Fr) fun r=> .pre (lsP 3 (encF false) n sz get (x::r)/\(x::r).length<=1000/\∀p∈x::r,frOk p) (.fin (.tup [.agg (enc2 (YhY x r).1),.int .i64 (YhY x r).2]) [])
 |_=>noC}
def S2:Env:={ ct:=fun n=>match n with|71=>some quoiC|101=>some qdivC|106=>some floorC|_=>none,fn:=fun _=>none,meth:=fun _ _=>none}
theorem Yxu:S2.ct 71=some quoiC:=rfl
theorem YtY:S2.ct 101=some qdivC:=rfl
theorem YtZ:S2.ct 106=some floorC:=rfl
theorem YCC:Yq YGw S2:=by
 refine⟨fun f c h=>?_,fun f vf h=>?_,(fun _ _ _ h=>by cases h),by kernel_rfl,(fun _ h=>by cases h)⟩
 . simp only[S2]at h
   split at h
   . cases h;exact⟨Ymy,Tryz.f71,Tryz.func71,by kernel_rfl,by kernel_rfl⟩
   . cases h;exact⟨Yr8,Tryz.f101,Tryz.func101,by kernel_rfl,by kernel_rfl⟩
   . cases h;exact⟨Ywa,Tryz.f106,Tryz.func106,by kernel_rfl,by kernel_rfl⟩
   . cases h
 . cases h
theorem YDU:ofrC.ok YGw 69:=by
 refine Yb Tryz.func69 YFY YCC 200 ofrC fun args k h=>⟨args,?_⟩
 simp only[ofrC]at h
 split at h
 . rename_i n d
   obtain⟨⟨hn,hd0,hd⟩,h⟩:=h
   refine⟨by simp [leL,le],?_⟩
   (try dsimp only[v69,Yxu,YtY,quoiC,qdivC,natS,natV,encF,go_sem,reduceIte])
   (try simp only[Yd,YGu,YGt,reduceCtorEq,YGs])
   have h:k (.agg (encF true (n,d.toNat))) []:=h
   have e:divF (n,1) (d,1)=(n,d.toNat):=by
     have h1:¬d<0:=by omega
     have h2:d.natAbs=d.toNat:=by omega
     simp [divF,nsg,h1,h2]
   rw[<-e]at h
   refine⟨hn,by omega,(n,1),(d,1),⟨Yn (Yim hn),Yn (Yim (by omega)),by show¬d=0;omega,by rw[e];exact YeX (by dsimp only;omega) (by dsimp only;omega) (by dsimp only;omega)⟩,by decide,by decide,?_⟩
   exact Yl0 h
 . exact h.1.elim
theorem Yvx(t:Int):rndB (-t)=(-(rndB t).1,(rndB t).2):=by
 unfold rndB
 by_cases h: -4611686018427387904<=t/\t<=4611686018427387904
 . rw[if_pos h,if_pos (by omega)]
 . rw[if_neg h,if_neg (by omega)];rfl
theorem Yvw(t:Int): -4611686018427387904<=(rndB t).1/\(rndB t).1<=4611686018427387904:=by
 unfold rndB;split
 . assumption
 . simp
theorem YCZ:ceilC.ok YGw 107:=by
 refine Yb Tryz.func107 YAJ YCC 200 ceilC fun args k h=>?_
 simp only[floorC,ceilC,floC]at h
 split at h
 . rename_i neg t1 z1 n1 s1 g1 t2 z2 n2 s2 g2
   obtain⟨p,hp,h⟩:=h
   refine⟨[.agg (encF false p)],⟨YeY hp,trivial⟩,?_⟩
   have hok:=hp.1
   clear hp
   (try dsimp only[v107,YtZ,floorC,floC,natS,natV,encF,go_sem,reduceIte])
   (try simp only[Yd,YGu,YGt,reduceCtorEq,YGs])
   have t:=Ykb hok.1
   have f:=Yn (YsQ hok)
   rw[t.1,t.2.1,<-t.2.2]at f
   have h:k (.tup [.int .i64 (rndB (-((-p.1)/(p.2:Int)))).1,.bool (rndB (-((-p.1)/(p.2:Int)))).2]) []:=h
   rw[Yvx]at h
   refine⟨YcW p,f,by decide,by decide,?_⟩
   have e:rndF false (YcW p).1 ((YcW p).2:Int)=rndB ((-p.1)/(p.2:Int)):=rfl
   rw[e]
   have b:=Yvw ((-p.1)/(p.2:Int))
   rw[YGy _ (by omega),Int.zero_sub]
   exact YiW h
 . exact h.1.elim
def S3:Env:={ ct:=fun n=>match n with|105=>some qcmpC|106=>some floorC|107=>some ceilC|_=>none,fn:=fun _=>none,meth:=fun _ _=>none}
theorem Yt0:S3.ct 105=some qcmpC:=rfl
theorem Yt1:S3.ct 106=some floorC:=rfl
theorem Yt2:S3.ct 107=some ceilC:=rfl
theorem S3_ok:Yq YGw S3:=by
 refine⟨fun f c h=>?_,fun f vf h=>?_,(fun _ _ _ h=>by cases h),by kernel_rfl,(fun _ h=>by cases h)⟩
 . simp only[S3]at h
   split at h
   . cases h;exact⟨YzK,Tryz.f105,Tryz.func105,by kernel_rfl,by kernel_rfl⟩
   . cases h;exact⟨Ywa,Tryz.f106,Tryz.func106,by kernel_rfl,by kernel_rfl⟩
   . cases h;exact⟨YCZ,Tryz.f107,Tryz.func107,by kernel_rfl,by kernel_rfl⟩
   . cases h
 . cases h
theorem Yzd(x:Fr):∀(r:List Fr),loQ x r∈x::r:=by
 intro r
 induction r generalizing x with
 |nil=>exact YGI
 |cons a r ih=>
   have e:loQ x (a::r)=loQ (if cmpQ a.1 a.2 x.1 x.2<0 then a else x) r:=rfl
   rw[e]
   have h:=ih (if cmpQ a.1 a.2 x.1 x.2<0 then a else x)
   rcases YGQ.1 h with h|h
   . rw[h];split <;> simp
   . simp [h]
theorem YyP(x:Fr):∀(r:List Fr),hiQ x r∈x::r:=by
 intro r
 induction r generalizing x with
 |nil=>exact YGI
 |cons a r ih=>
   have e:hiQ x (a::r)=hiQ (if 0<cmpQ a.1 a.2 x.1 x.2 then a else x) r:=rfl
   rw[e]
   have h:=ih (if 0<cmpQ a.1 a.2 x.1 x.2 then a else x)
   rcases YGQ.1 h with h|h
   . rw[h];split <;> simp
   . simp [h]
theorem Yos{x a:Fr}{r:List Fr}{i:Nat}(h:a∈x::r.take i):a∈x::r:=by
 rcases YGQ.1 h with h|h
 . simp [h]
 . simp [List.mem_of_mem_take h]
theorem Yoo:spanqC.ok YGw 72:=by
 refine Yb Tryz.func72 YF1 S3_ok 400 spanqC fun args k h=>?_
 simp only[spanqC]at h
 split at h
 . rename_i tt z n sz get
   obtain⟨x,r,⟨⟨rfl,rfl,hg⟩,hmax,hall⟩,h⟩:=h
   refine⟨[.vs tt z (x::r).length 3 (fun k=>encF false ((x::r).getD k default))],⟨by simpa [le]using hg,trivial⟩,?_⟩
   (try dsimp only[v72,encF,natV,go_sem,reduceIte])
   (try simp only[Yd,YGu,YGt,reduceCtorEq,YGs])
   have hlen:((x::r).length:Int)=r.length+1:=by simp
   refine⟨⟨by decide,by omega⟩,⟨by decide,by omega⟩,?_⟩
   refine Loop.keep [0,1,0,0,0,0] Nat (fun i=>[(6,.int .i64 ((i:Int)+1))]) (fun i=>[(1,.box (encF false (loQ x (r.take i)))),(2,.box (encF false (hiQ x (r.take i))))]) [] (fun i=>i<=r.length) (fun i=>r.length-i) ?_ ?_
   . refine⟨0,YHl _,?_⟩
     (try dsimp only[encF,natV,go_sem,reduceIte])
     simp only[Ya]
     refine⟨by simp,?_,?_⟩ <;> simp [loQ,hiQ] <;> exact⟨rfl,fun k _=>Ye _,fun k _=>Ye _⟩
   . rintro i hi
     (try dsimp only[Yt0,Yt1,Yt2,qcmpC,floorC,ceilC,floC,encF,natV,YGv,go_sem,reduceIte])
     (try simp only[Yd,YGu,YGt,reduceCtorEq,YGs])
     have ey:(x::r).getD ((i:Int)+1).toNat default=r.getD i default:=by
       have:((i:Int)+1).toNat=i+1:=by omega
       rw[this];rfl
     simp only[ey,hlen]
     have hL:frOk (loQ x (r.take i)):=hall _ (Yos (Yzd x _))
     have hH:frOk (hiQ x (r.take i)):=hall _ (Yos (YyP x _))
     refine⟨fun hlt=>?_,fun hge=>?_⟩
     . have hi':i<r.length:=by omega
       have hY:frOk (r.getD i default):=hall _ (YGK _ (Yp hi'))
       have eL:loQ x (r.take (i+1))=if cmpQ (r.getD i default).1 (r.getD i default).2 (loQ x (r.take i)).1 (loQ x (r.take i)).2<0 then r.getD i default else loQ x (r.take i):=Yt hi'
       have eH:hiQ x (r.take (i+1))=if 0<cmpQ (r.getD i default).1 (r.getD i default).2 (hiQ x (r.take i)).1 (hiQ x (r.take i)).2 then r.getD i default else hiQ x (r.take i):=Yt hi'
       have hw:IntKind.i64.wrap ((i:Int)+1+1)=((i+1:Nat):Int)+1:=by
         rw[YHF]at hmax
         rw[YGy _ (by omega)];omega
       have bd:0<=(i:Int)+1/\(i:Int)+1<(r.length:Int)+1:=by omega
       refine⟨bd,r.getD i default,loQ x (r.take i),⟨Yn hY,Yn hL⟩,by decide,by decide,
         fun h1=>⟨bd,bd,r.getD i default,hiQ x (r.take i),⟨Yn hY,Yn hH⟩,by decide,by decide,fun h2=>⟨bd,i+1,by omega,by omega,?_⟩,fun h2=>⟨i+1,by omega,by omega,?_⟩⟩,
         fun h1=>⟨bd,r.getD i default,hiQ x (r.take i),⟨Yn hY,Yn hH⟩,by decide,by decide,fun h2=>⟨bd,i+1,by omega,by omega,?_⟩,fun h2=>⟨i+1,by omega,by omega,?_⟩⟩⟩
       . simp only[eL,eH,if_pos h1,if_pos h2,hw,Ya]
         simp
       . simp only[eL,eH,if_pos h1,if_neg h2,hw,Ya]
         simp
       . simp only[eL,eH,if_neg h1,if_pos h2,hw,Ya]
         simp
       . simp only[eL,eH,if_neg h1,if_neg h2,hw,Ya]
         simp
     . obtain rfl:i=r.length:=by omega
       rw[YHm]at hL hH
       rw[YHm]
       refine⟨loQ x r,Yn hL,by decide,by decide,hiQ x r,Yn hH,by decide,by decide,?_⟩
       have h:k (.tup [.agg (enc2 (YhY x r).1),.int .i64 (YhY x r).2]) []:=h
       unfold YhY YaH at h
       refine⟨fun hb=>?_,fun hb=>?_⟩
       . rw[if_neg (by rw[<-YHD,YGP]at hb;rw[hb];simp)]at h
         exact Yx (r:=((0,0),7)) h
       . rw[if_pos (by rw[<-YHD,YHe]at hb;exact hb)]at h
         exact Yx h
 . exact h.1.elim
theorem YgA{n m:Int}{d:Nat}(hd:0<d):(cmpQ n d m d<0↔n<m)/\(0<cmpQ n d m d↔m<n):=by
 have h1:=YfS (x:=n) (y:=m) hd
 have h2:=YfS (x:=m) (y:=n) hd
 unfold cmpQ cmpI
 rw[<-h1,<-h2]
 generalize n*(d:Int)=N
 generalize m*(d:Int)=M
 clear h1 h2
 by_cases c1:N<M
 . rw[if_pos c1];omega
 . rw[if_neg c1]
   by_cases c2:M<N
   . rw[if_pos c2];omega
   . rw[if_neg c2];omega
theorem Yze{d:Nat}(hd:0<d)(n:Int)(r:List Int):loQ (n,d) (r.map fun m=>(m,d))=(lowI n r,d):=by
 induction r generalizing n with
 |nil=>rfl
 |cons a r ih=>
   have e:loQ (n,d) ((a::r).map fun m=>(m,d))=loQ (if cmpQ a d n d<0 then(a,d)else(n,d)) (r.map fun m=>(m,d)):=rfl
   have e2:lowI n (a::r)=lowI (if a<n then a else n) r:=rfl
   rw[e,e2,<-ih]
   by_cases h:a<n
   . rw[if_pos ((YgA hd).1.2 h),if_pos h]
   . rw[if_neg (fun hh=>h ((YgA hd).1.1 hh)),if_neg h]
theorem YyQ{d:Nat}(hd:0<d)(n:Int)(r:List Int):hiQ (n,d) (r.map fun m=>(m,d))=(Yce n r,d):=by
 induction r generalizing n with
 |nil=>rfl
 |cons a r ih=>
   have e:hiQ (n,d) ((a::r).map fun m=>(m,d))=hiQ (if 0<cmpQ a d n d then(a,d)else(n,d)) (r.map fun m=>(m,d)):=rfl
   have e2:Yce n (a::r)=Yce (if n<a then a else n) r:=rfl
   rw[e,e2,<-ih]
   by_cases h:n<a
   . rw[if_pos ((YgA hd).2.2 h),if_pos h]
   . rw[if_neg (fun hh=>h ((YgA hd).2.1 hh)),if_neg h]
theorem Yfq{d:Nat}(hd:0<d)(n:Int)(r:List Int):YhY (n,d) (r.map fun m=>(m,d))=Yfp d n r:=by
 rw[YhY,Yze hd,YyQ hd];rfl
def v47:VF:=⟨63,[.cell 6 true 2,.tmp 7],(ZR [u1 3 .box [.tm 0],Zn 6,Zi 7 0] (ZR [Zt 14 2 3,Zc 15 68 14,Zm 8 15] (.seq (ZR [Zm 16 8,Zq 17 .eql 16 0,Zm 18 17,Zg 19 18 true 2,u2 20 18 true (.cmp .lss) [.tm 19,.cn (.int .i64 1)],Zg 21 18 true 20,Zg 22 21 false 2,u2 23 21 false (.cmp .gtr) [.tm 22,.cn (.int .i64 4611686018427387904)],u2 24 18 true .or [.tm 21,.tm 23],Zg 25 18 true 24,Zg 26 25 false 1,u2 27 25 false (.cmp .lss) [.tm 26,.cn (.int .i64 (-4611686018427387904))],u2 28 18 true .or [.tm 25,.tm 27],Zg 29 18 true 28,Zg 30 29 false 1,u2 31 29 false (.cmp .gtr) [.tm 30,.cn (.int .i64 4611686018427387904)],u2 32 18 true .or [.tm 29,.tm 31],u1 33 .and [.tm 18,.tm 32]] (ZC 33 (.region [Zi 8 2]) .skip)) (.seq (ZR [Zm 34 8,Zq 35 .neq 34 0] (ZC 35 (ZR [u1 36 (.build [(.int .i64 0),(.int .i64 0)] []) [],Zm 37 8,Zs 2 6 36,Zm 7 37] .ret) .skip)) (ZR [Zm 38 1,Zm 39 2,Zd 40 69 38 39,u1 9 (.alloc [(.bool false),.nil,.nil]) [],Zs 3 9 40] (.seq (.draw [(10,.box [(.bool false),.nil,.nil])] [Zy 42 0 3,Zv 43 1 42,Zw 45 3 9,w1 44 (.call 71) [.tm 43],Zz 46 70 44 45,Zu 41 46,ZE 47 0 41,ZE 48 1 41,ZS 3 10 47,Zu 11 48]) (.seq (.draw [(12,.box [(.bool false),.nil,.nil])] [Zy 50 1 3,Zv 51 1 50,Zw 53 3 9,w1 52 (.call 71) [.tm 51],Zz 54 70 52 53,Zu 49 54,ZE 55 0 49,ZE 56 1 49,ZS 3 12 55,Zu 13 56]) (ZR [Zt 57 3 10,Zt 58 3 12,u1 59 (.buildSlice 3 2 [(.bool false),.nil,.nil] [(0,3),(3,3)]) [.tm 57,.tm 58],Zc 60 72 59,Ze 61 0 60,Ze 62 1 60,Zs 2 6 61,Zm 7 62] .ret))))))))⟩
theorem YFJ:Yf YGw Tryz.f47=some v47:=by kernel_rfl
def S4:Env:={ ct:=fun n=>match n with|68=>some iv1C|71=>some quoiC|69=>some ofrC|70=>some qmulC|72=>some spanqC|_=>none,fn:=fun _=>none,meth:=fun _ _=>none}
theorem Yxv:S4.ct 68=some iv1C:=rfl
theorem Yxy:S4.ct 71=some quoiC:=rfl
theorem Yxw:S4.ct 69=some ofrC:=rfl
theorem Yxx:S4.ct 70=some qmulC:=rfl
theorem Yxz:S4.ct 72=some spanqC:=rfl
theorem S4_ok:Yq YGw S4:=by
 refine⟨fun f c h=>?_,fun f vf h=>?_,(fun _ _ _ h=>by cases h),by kernel_rfl,(fun _ h=>by cases h)⟩
 . simp only[S4]at h
   split at h
   . cases h;exact⟨Ylw,Tryz.f68,Tryz.func68,by kernel_rfl,by kernel_rfl⟩
   . cases h;exact⟨Ymy,Tryz.f71,Tryz.func71,by kernel_rfl,by kernel_rfl⟩
   . cases h;exact⟨YDU,Tryz.f69,Tryz.func69,by kernel_rfl,by kernel_rfl⟩
   . cases h;exact⟨Ysa,Tryz.f70,Tryz.func70,by kernel_rfl,by kernel_rfl⟩
   . cases h;exact⟨Yoo,Tryz.f72,Tryz.func72,by kernel_rfl,by kernel_rfl⟩
   . cases h
 . cases h
theorem Ysr:sclC.ok YGw 47:=by
 refine Yb Tryz.func47 YFJ S4_ok 400 sclC fun args k h=>⟨args,?_⟩
 simp only[sclC]at h
 split at h
 . rename_i x y n d
   refine⟨by simp [leL,le],?_⟩
   (try dsimp only[v47,Yxv,Yxy,Yxw,Yxx,Yxz,iv1C,quoiC,ofrC,qmulC,spanqC,enc2,encF,natV,go_sem,reduceIte])
   (try simp only[Yd,YGu,YGt,reduceCtorEq,YGs])
   have h:k (.tup [.agg (enc2 (sclF (x,y) n d).1),.int .i64 (sclF (x,y) n d).2]) []:=h
   refine⟨fun a b=>by simp [a,b],fun a b=>by rw[b];simp [a],fun a b=>by rw[b];simp [a],fun hb=>⟨fun _=>?_,fun h2=>absurd h2 (by decide)⟩,fun hb=>⟨fun he=>?_,fun he=>?_⟩⟩
   . simp only[YGA,YHd,decide_eq_true_eq]at hb
     rw[sclF,if_neg (by omega),if_pos (by omega)]at h
     exact Yx h
   . rw[sclF,if_pos he]at h
     exact Yx h
   . have hb':¬(d<1\/4611686018427387904<d\/n< -4611686018427387904\/4611686018427387904<n):=by
       intro hh
       have:(decide (ivE [(x,y)]=0)&&(decide (d<1) || decide (4611686018427387904<d) || decide (n< -4611686018427387904) || decide (4611686018427387904<n)))=true:=by
         simp only[YGA,YHd,decide_eq_true_eq];omega
       rw[this]at hb;cases hb
     rw[sclF,if_neg (by omega),if_neg hb']at h
     obtain⟨hx,hy,hxy⟩:=ivE1 he
     have m1:=YrE (M:=4611686018427387904) (N:=4611686018427387904) hx (show -4611686018427387904<=n/\n<=4611686018427387904 by omega)
     have m2:=YrE (M:=4611686018427387904) (N:=4611686018427387904) hy (show -4611686018427387904<=n/\n<=4611686018427387904 by omega)
     dsimp only at hx hy m1 m2
     have hq:frOk (n,d.toNat):=YeX (by dsimp only;omega) (by dsimp only;omega) (by dsimp only;omega)
     have hp1:frOk (x*n,1*d.toNat):=YeX (by dsimp only;omega) (by dsimp only;omega) (by dsimp only;omega)
     have hp2:frOk (y*n,1*d.toNat):=YeX (by dsimp only;omega) (by dsimp only;omega) (by dsimp only;omega)
     refine⟨⟨by omega,by omega⟩,hx,(x,1),(n,d.toNat),⟨Yn (Yim hx),Yn hq,hp1⟩,by decide,by decide,hy,(y,1),(n,d.toNat),⟨Yn (Yim hy),Yn hq,hp2⟩,by decide,by decide,by decide,
       (x*n,1*d.toNat),[(y*n,1*d.toNat)],⟨⟨rfl,rfl,fun k hk=>match k,hk with|0,_=>Ye (encF false (x*n,1*d.toNat)) |1,_=>Ye (encF false (y*n,1*d.toNat))⟩,by simp,YoN hp1 hp2⟩,?_⟩
     have e:=Yfq (d:=1*d.toNat) (by omega) (x*n) [y*n]
     have e2:((1*d.toNat:Nat):Int)=d:=by omega
     rw[e2]at e
     have e3:YhY (x*n,1*d.toNat) [(y*n,1*d.toNat)]=Yfp d (x*n) [y*n]:=e
     rw[e3]
     exact⟨by decide,by decide,Yx h⟩
 . exact h.1.elim
def v112:VF:=⟨27,[.tmp 4,.tmp 5],(ZR [u1 4 .mov [.cn .nil],u1 5 .mov [.cn (.bool false)]] (ZR [u1 8 (.call 74) [.cn (.int .u64 1)],Zm 6 8] (.seq (ZR [Zm 9 0,Zm 10 6,Zd 11 77 9 10,Zq 12 .leq 11 0] (ZC 12 (.region [Zm 13 1,u1 14 .min [.tm 13,.cn (.int .i64 1)],Zm 1 14]) .skip)) (.seq (ZR [Zi 7 0] (.block 0 (.loop (.seq (ZR [Zm 15 7,Zm 16 1,Zr 17 .lss 15 16] (ZC 17 .skip (.exit 0))) (.seq (.block 1 (ZR [Zm 20 6,Zm 21 0,Zd 22 104 20 21,Zm 6 22] (ZR [Zm 23 6,Zl 24 23,Zq 25 .gtr 24 512] (ZC 25 (ZR [u1 4 .mov [.cn .nil],u1 5 .mov [.cn (.bool false)]] .ret) .skip)))) (.region [Zm 18 7,Zp 19 18 1,Zm 7 19])))))) (ZR [Zm 26 6,Zm 4 26,u1 5 .mov [.cn (.bool true)]] .ret)))))⟩
theorem YAO:Yf YGw Tryz.f112=some v112:=by kernel_rfl
def powerC:Ctr:={ alias:=false,of:=fun l=>match l with
 | [.vs _ _ n sz get,.int .i64 k]=> .ex Nat fun a=> .ex Nat fun e=> .pre (padP a n sz get/\n=nl a/\k=(e:Int)/\e<=20000/\nl a<=512/\nl (a^e)<=512) (.fin (.tup [natS false (a^e),.bool true]) [])
 |_=>noC}
def T0:Env:={ ct:=fun n=>match n with|74=>some ofC|77=>some orderC|104=>some timesC|_=>none,fn:=fun _=>none,meth:=fun _ _=>none}
theorem YxH:T0.ct 74=some ofC:=rfl
theorem YxI:T0.ct 77=some orderC:=rfl
theorem YiT:T0.ct 104=some timesC:=rfl
theorem T0_ok:Yq YGw T0:=by
 refine⟨fun f c h=>?_,fun f vf h=>?_,(fun _ _ _ h=>by cases h),by kernel_rfl,(fun _ h=>by cases h)⟩
 . simp only[T0]at h
   split at h
   . cases h;exact⟨Yms,Tryz.f74,Tryz.func74,by kernel_rfl,by kernel_rfl⟩
   . cases h;exact⟨YaL,Tryz.f77,Tryz.func77,by kernel_rfl,by kernel_rfl⟩
   . cases h;exact⟨Yka,Tryz.f104,Tryz.func104,by kernel_rfl,by kernel_rfl⟩
   . cases h
 . cases h
theorem Yzy(a e:Nat)(h:a<=1):a^(min e 1)=a^e:=by
 rcases YG7 e with h0|h0
 . subst h0;rfl
 . rw[Nat.min_eq_right h0,Nat.pow_one]
   rcases Nat.le_one_iff_eq_zero_or_eq_one.1 h with rfl|rfl
   . rw[Nat.zero_pow h0]
   . rw[Nat.one_pow]
theorem YgL{a e i:Nat}(he:nl (a^e)<=512)(hi:i<=e):nl (a^i)<=512:=by
 rcases YG7 a with h|h
 . subst h
   rcases YG7 i with h0|h0
   . subst h0;exact YGF (nl_le (n:=1).2 (by decide)) (by decide)
   . rw[Nat.zero_pow h0,nl_0];decide
 . exact YGF (Yax (YGG h hi)) he
theorem Yv2{k:SV->List HO->Prop}{al:Bool}{hp:List HO}{z b:Bool}{a:Nat}(h:k (.tup [natS z a,.bool b]) []):YI al k (.tup [.vs true z (nl a) 1 (fun k=>[.int .u32 (dig a k)]),.bool b]) hp:=
 YE h (Yy (.tup [natS z a,.bool b]) ⟨trivial,trivial,trivial⟩) (fun _=>by simp [natS,Yl,Yo])
theorem Yn3:powerC.ok YGw 112:=by
 refine Yb Tryz.func112 YAO T0_ok 300 powerC fun args k h=>?_
 simp only[powerC]at h
 split at h
 . rename_i t1 z1 n sz get e'
   obtain⟨a,e,⟨⟨rfl,hn,ha,hg⟩,rfl,rfl,he2,hna,hfit⟩,h⟩:=h
   refine⟨[.vs t1 z1 (nl a) 1 (fun k=>[.int .u32 (dig a k)]),.int .i64 e],⟨by simpa [le]using hg,⟨rfl,rfl⟩,trivial⟩,?_⟩
   (try dsimp only[v112,YxH,YxI,YiT,ofC,orderC,timesC,natS,go_sem,reduceIte])
   (try simp only[Yd,YGu,YGt,reduceCtorEq,YGs])
   have h:k (.tup [natS false (a^e),.bool true]) []:=h
   refine⟨by decide,a,1,⟨Yc (by omega),Yc (show nl 1<=100000 from YGF (nl_le (n:=1).2 (by decide)) (by decide))⟩,fun hc=>?_,fun hc=>?_⟩
   . have ha1:a<=1:=by
       unfold ordN at hc
       split at hc
       . omega
       . split at hc <;> omega
     obtain⟨K,hK⟩:∃K:Nat,K=min e 1:=⟨_,rfl⟩
     have hKv:a^K=a^e:=by rw[hK];exact Yzy a e ha1
     have hKe:K<=e:=by omega
     have hKi:min (e:Int) 1=(K:Int):=by omega
     rw[hKi]
     refine Loop.keep [0,0,2,0,0,0] Nat (fun i=>[(6,.vs true false (nl (a^i)) 1 (fun k=>[.int .u32 (dig (a^i) k)])),(7,.int .i64 i)]) (fun _=>[]) [] (fun i=>i<=K) (fun i=>K-i) ?_ ?_
     . refine⟨0,YHl _,?_⟩
       (try dsimp only[go_sem,reduceIte])
       simp only[Nat.pow_zero,Ya]
       simp
       exact fun k _=>Ye _
     . rintro i hi
       (try dsimp only[YiT,timesC,natS,YGv,go_sem,reduceIte])
       (try simp only[Yd,YGu,YGt,reduceCtorEq,YGs])
       have hf1:=YgL hfit (show i<=e by omega)
       refine⟨fun hlt=>⟨a^i,a,⟨Yc (by omega),Yc (by omega),by omega⟩,fun hb=>?_,fun hb=>?_⟩,fun hge=>?_⟩
       . exfalso
         have hf2:=YgL hfit (show i+1<=e by omega)
         rw[YGZ]at hf2;omega
       . refine⟨i+1,by omega,by omega,?_⟩
         have hw:IntKind.i64.wrap ((i:Int)+1)=((i+1:Nat):Int):=by rw[YGy _ (by omega)];omega
         simp only[hw,YGZ,Ya]
       . obtain rfl:i=K:=by omega
         rw[hKv]
         exact Yv2 h
   . obtain⟨K,hK⟩:∃K:Nat,K=e:=⟨_,rfl⟩
     have hKv:a^K=a^e:=by rw[hK]
     have hKe:K<=e:=by omega
     have hKi:(e:Int)=(K:Int):=by omega
     rw[hKi]
     refine Loop.keep [0,0,2,0,0,0] Nat (fun i=>[(6,.vs true false (nl (a^i)) 1 (fun k=>[.int .u32 (dig (a^i) k)])),(7,.int .i64 i)]) (fun _=>[]) [] (fun i=>i<=K) (fun i=>K-i) ?_ ?_
     . refine⟨0,YHl _,?_⟩
       (try dsimp only[go_sem,reduceIte])
       simp only[Nat.pow_zero,Ya]
       simp
       exact fun k _=>Ye _
     . rintro i hi
       (try dsimp only[YiT,timesC,natS,YGv,go_sem,reduceIte])
       (try simp only[Yd,YGu,YGt,reduceCtorEq,YGs])
       have hf1:=YgL hfit (show i<=e by omega)
       refine⟨fun hlt=>⟨a^i,a,⟨Yc (by omega),Yc (by omega),by omega⟩,fun hb=>?_,fun hb=>?_⟩,fun hge=>?_⟩
       . exfalso
         have hf2:=YgL hfit (show i+1<=e by omega)
         rw[YGZ]at hf2;omega
       . refine⟨i+1,by omega,by omega,?_⟩
         have hw:IntKind.i64.wrap ((i:Int)+1)=((i+1:Nat):Int):=by rw[YGy _ (by omega)];omega
         simp only[hw,YGZ,Ya]
       . obtain rfl:i=K:=by omega
         rw[hKv]
         exact Yv2 h
 . exact h.1.elim
def v75:VF:=⟨34,[.tmp 4,.tmp 5],(ZR [u1 4 .mov [.cn .nil],Zi 5 0] (ZR [Zm 9 0,u1 10 (.buildSlice 1 1 [.nil] [(0,1)]) [.tm 9],Zc 11 108 10,Zm 6 11] (.seq (ZR [Zm 12 6,Zq 13 .eql 12 0,Zm 14 13,Zg 15 14 true 1,u2 16 14 true (.cmp .lss) [.tm 15,.cn (.int .i64 0)],Zg 17 14 true 16,Zg 18 17 false 1,u2 19 17 false (.cmp .gtr) [.tm 18,.cn (.int .i64 20000)],u2 20 14 true .or [.tm 17,.tm 19],u1 21 .and [.tm 14,.tm 20]] (ZC 21 (.region [Zi 6 2]) .skip)) (.seq (ZR [Zm 22 6,Zq 23 .neq 22 0] (ZC 23 (ZR [Zm 24 6,u1 4 .mov [.cn .nil],Zm 5 24] .ret) .skip)) (ZR [Zm 26 0,Zm 27 1,Zd 28 112 26 27,Zm 25 28,Ze 29 0 25,Ze 30 1 25,Zm 7 29,Zm 8 30] (.seq (ZR [Zm 31 8,u1 32 .not [.tm 31]] (ZC 32 (ZR [u1 4 .mov [.cn .nil],Zi 5 3] .ret) .skip)) (ZR [Zm 33 7,Zm 4 33,Zi 5 0] .ret)))))))⟩
theorem YF4:Yf YGw Tryz.f75=some v75:=by kernel_rfl
def npowC:Ctr:={ alias:=false,of:=fun l=>match l with
 | [.vs _ z n sz get,.int .i64 k]=> .ex Nat fun a=> .ex Nat fun e=> .pre (padP a n sz get/\n=nl a/\k=(e:Int)/\e<=20000/\nl a<=512/\nl (a^e)<=512) (.fin (.tup [natS false (a^e),.int .i64 0]) [])
 |_=>noC}
def T2:Env:={ ct:=fun n=>match n with|108=>some badnC|112=>some powerC|_=>none,fn:=fun _=>none,meth:=fun _ _=>none}
theorem Yt3:T2.ct 108=some badnC:=rfl
theorem Yt4:T2.ct 112=some powerC:=rfl
theorem T2_ok:Yq YGw T2:=by
 refine⟨fun f c h=>?_,fun f vf h=>?_,(fun _ _ _ h=>by cases h),by kernel_rfl,(fun _ h=>by cases h)⟩
 . simp only[T2]at h
   split at h
   . cases h;exact⟨Yne,Tryz.f108,Tryz.func108,by kernel_rfl,by kernel_rfl⟩
   . cases h;exact⟨Yn3,Tryz.f112,Tryz.func112,by kernel_rfl,by kernel_rfl⟩
   . cases h
 . cases h
theorem Yp8{k:SV->List HO->Prop}{al:Bool}{hp:List HO}{z:Bool}{κ:IntKind}{b:Int}{a:Nat}(h:k (.tup [natS z a,.int κ b]) []):YI al k (.tup [.vs true z (nl a) 1 (fun k=>[.int .u32 (dig a k)]),.int κ b]) hp:=
 YE h (Yy (.tup [natS z a,.int κ b]) ⟨trivial,trivial,trivial⟩) (fun _=>by simp [natS,Yl,Yo])
theorem Yzq:npowC.ok YGw 75:=by
 refine Yb Tryz.func75 YF4 T2_ok 300 npowC fun args k h=>?_
 simp only[npowC]at h
 split at h
 . rename_i t1 z1 n sz get e'
   obtain⟨a,e,⟨⟨rfl,hn,ha,hg⟩,rfl,rfl,he2,hna,hfit⟩,h⟩:=h
   refine⟨[.vs t1 z1 (nl a) 1 (fun k=>[.int .u32 (dig a k)]),.int .i64 e],⟨by simpa [le]using hg,⟨rfl,rfl⟩,trivial⟩,?_⟩
   (try dsimp only[v75,Yt3,Yt4,badnC,powerC,natS,go_sem,reduceIte])
   (try simp only[Yd,YGu,YGt,reduceCtorEq,YGs])
   have h:k (.tup [natS false (a^e),.int .i64 0]) []:=h
   refine⟨by decide,[(z1,a)],⟨⟨rfl,rfl,fun k hk=>match k,hk with|0,_=>Ye _⟩,by simp,by simp;exact hna⟩,fun hb=>by simp [hb],fun hb=>?_,fun hb=>⟨fun hb=>absurd trivial hb,a,e,⟨Yc (by omega),rfl,rfl,he2,hna,hfit⟩,by decide,by decide,Yp8 h⟩⟩
   exfalso;simp at hb;omega
 . exact h.1.elim
def v110:VF:=⟨74,[.tmp 4,.tmp 5],(ZR [u1 4 .mov [.cn .nil],Zi 5 0] (ZR [Zm 9 0,u1 10 (.buildSlice 1 1 [.nil] [(0,1)]) [.tm 9],Zc 11 108 10,Zm 6 11] (.seq (ZR [Zm 12 6,Zq 13 .eql 12 0,Zm 14 13,Zg 15 14 true 1,u2 16 14 true (.cmp .lss) [.tm 15,.cn (.int .i64 (-20000))],Zg 17 14 true 16,Zg 18 17 false 1,u2 19 17 false (.cmp .gtr) [.tm 18,.cn (.int .i64 20000)],u2 20 14 true .or [.tm 17,.tm 19],u1 21 .and [.tm 14,.tm 20]] (ZC 21 (.region [Zi 6 2]) .skip)) (.seq (ZR [Zm 22 6,Zq 23 .eql 22 0,Zm 24 23,Zg 25 24 true 0,u2 26 24 true .len [.tm 25],u2 27 24 true (.cmp .gtr) [.tm 26,.cn (.int .i64 0)],u1 28 .and [.tm 24,.tm 27],Zm 29 28,Zg 30 29 true 0,u2 31 29 true (.call 109) [.tm 30],Zg 32 29 true 1,u2 33 29 true (.ari .add) [.tm 31,.tm 32],u2 34 29 true (.cmp .gtr) [.tm 33,.cn (.int .i64 16384)],u1 35 .and [.tm 29,.tm 34]] (ZC 35 (.region [Zi 6 3]) .skip)) (.seq (ZR [Zm 36 6,Zq 37 .neq 36 0] (ZC 37 (ZR [Zm 38 6,u1 4 .mov [.cn .nil],Zm 5 38] .ret) .skip)) (ZR [u1 39 (.make 1 4 [(.int .u32 0)]) [.cn (.int .i64 512),.cn (.int .i64 512)],Zm 7 39] (.seq (ZR [Zi 8 0] (.block 0 (.loop (.seq (ZR [Zm 40 8,Zm 41 0,Zc 42 109 41,Zr 43 .lss 40 42] (ZC 43 .skip (.exit 0))) (.seq (.block 1 (ZR [Zm 46 8,Zm 47 1,Zo 48 .add 46 47,Zq 49 .geq 48 0] (ZC 49 (.draw [] [Zu 50 7,Zu 51 8,Zu 52 1,w1 53 (.ari .add) [.tm 51,.tm 52],w1 54 .quo [.tm 53,.cn (.int .i64 32)],Zu 55 7,Zu 56 8,Zu 57 1,w1 58 (.ari .add) [.tm 56,.tm 57],w1 59 .quo [.tm 58,.cn (.int .i64 32)],ZX 60 1 55 59,Zv 61 1 60,Zu 62 0,Zu 63 8,Zu 65 8,Zu 66 1,w1 67 (.ari .add) [.tm 65,.tm 66],w1 68 .rem [.tm 67,.cn (.int .i64 32)],Zz 64 138 62 63,w1 69 .shl [.tm 64,.tm 68],w1 70 (.bit .or) [.tm 61,.tm 69],ZX 71 1 50 54,ZS 1 71 70]) .skip))) (.region [Zm 44 8,Zp 45 44 1,Zm 8 45])))))) (ZR [Zm 72 7,Zc 73 113 72,Zm 4 73,Zi 5 0] .ret))))))))⟩
theorem YAM:Yf YGw Tryz.f110=some v110:=by kernel_rfl
def shiftC:Ctr:={ alias:=false,of:=fun l=>match l with
 | [.vs _ z n sz get,.int .i64 k]=> .ex Nat fun a=> .ex Nat fun i=> .pre (padP a n sz get/\n=nl a/\nl a<=512/\k=(i:Int)/\Yi a+i<=16384) (.fin (.tup [natS false (a*2^i),.int .i64 0]) [])
 |_=>noC}
def T3:Env:={ ct:=fun n=>match n with|108=>some badnC|109=>some sizeC|138=>some bitC|113=>some trimC|_=>none,fn:=fun _=>none,meth:=fun _ _=>none}
theorem Yt5:T3.ct 108=some badnC:=rfl
theorem Ym8:T3.ct 109=some sizeC:=rfl
theorem Yt7:T3.ct 138=some bitC:=rfl
theorem Yt6:T3.ct 113=some trimC:=rfl
theorem T3_ok:Yq YGw T3:=by
 refine⟨fun f c h=>?_,fun f vf h=>?_,(fun _ _ _ h=>by cases h),by kernel_rfl,(fun _ h=>by cases h)⟩
 . simp only[T3]at h
   split at h
   . cases h;exact⟨Yne,Tryz.f108,Tryz.func108,by kernel_rfl,by kernel_rfl⟩
   . cases h;exact⟨YmD,Tryz.f109,Tryz.func109,by kernel_rfl,by kernel_rfl⟩
   . cases h;exact⟨Yg0,Tryz.f138,Tryz.func138,by kernel_rfl,by kernel_rfl⟩
   . cases h;exact⟨YmL,Tryz.f113,Tryz.func113,by kernel_rfl,by kernel_rfl⟩
   . cases h
 . cases h
theorem YAj{q i:Nat}(hb:bitN q i=0):dig q (i/32)/2^(i%32)%2=0/\setD q (i/32) (dig q (i/32)+2^(i%32))=q+2^i/\dig q (i/32)+2^(i%32)<4294967296:=by
 have h1:dig q (i/32)/2^(i%32)%2=0:=by rw[<-Yi7];exact hb
 refine⟨h1,?_,?_⟩
 . have e:=YcT q (i/32) (dig q (i/32)+2^(i%32))
   have e2:2^i=2^(i%32)*4294967296^(i/32):=by
     rw[YbK,<-YGJ];congr 1;omega
   rw[e2]
   rw[YG8]at e
   omega
 . rw[<-Ylm h1]
   exact Nat.or_lt_two_pow (n:=32) (YK _ _) (YHu (by decide) (YG0 _ (by decide)))
theorem Yzm(a j:Nat):a%2^(j+1)=a%2^j+bitN a j*2^j:=by
 unfold bitN
 rw[YGZ,Nat.mod_mul,YGC (2^j) (a/2^j%2)]
theorem Ysy{a i j:Nat}:bitN (a%2^j*2^i) (j+i)=0:=by
 unfold bitN
 have h:=YG0 a (YF j)
 have:a%2^j*2^i<2^(j+i):=by rw[YGJ];exact Nat.mul_lt_mul_of_pos_right h (YF i)
 rw[YHs this]
theorem Ysz{a i n:Nat}(hn:n<=100000)(h:Yi a+i<=32*n):padP (a*2^i) n 1 (fun k=>[.int .u32 (dig (a*2^i) k)]):=by
 refine Yz hn ?_
 rw[YbK]
 exact YG1 (Nat.mul_lt_mul_of_pos_right (Ya2 a) (YF i)) (by rw[<-YGJ];exact YGG (by decide) h)
theorem orI{x y:Nat}(hx:x<4294967296)(hy:y<4294967296):bitI .or .u32 (x:Int) (y:Int)=((x||| y:Nat):Int):=Yn1 hx hy
theorem Ybw:shiftC.ok YGw 110:=by
 refine Yb Tryz.func110 YAM T3_ok 300 shiftC fun args k h=>?_
 simp only[shiftC]at h
 split at h
 . rename_i t1 z1 n sz get k'
   obtain⟨a,i,⟨⟨rfl,hn,ha,hg⟩,rfl,hn5,rfl,hbits⟩,h⟩:=h
   refine⟨[.vs t1 z1 (nl a) 1 (fun k=>[.int .u32 (dig a k)]),.int .i64 i],⟨by simpa [le]using hg,⟨rfl,rfl⟩,trivial⟩,?_⟩
   (try dsimp only[v110,Yt5,Ym8,badnC,sizeC,natS,go_sem,reduceIte])
   (try simp only[Yd,YGu,YGt,reduceCtorEq,YGs])
   have h:k (.tup [natS false (a*2^i),.int .i64 0]) []:=h
   have hbw:IntKind.i64.wrap ((Yi a:Int)+(i:Int))=((Yi a+i:Nat):Int):=by rw[YGy _ (by omega)];omega
   refine⟨by decide,[(z1,a)],⟨⟨rfl,rfl,fun k hk=>match k,hk with|0,_=>Ye _⟩,by simp,by simp;exact hn5⟩,fun hb=>by simp [hb],fun hb=>?_,fun hb=>⟨a,fun _=>⟨Yc (by omega),rfl⟩,?_⟩⟩
   . exfalso;simp at hb;omega
   . simp only[hbw]
     refine⟨fun hb2=>?_,fun hb2=>?_⟩
     . exfalso;simp at hb2;omega
     . refine⟨fun h=>absurd trivial h,⟨by decide,by decide,by decide,by unfold YN;decide⟩,?_⟩
       refine Loop.keep [0,0,5,0] Nat (fun j=>[(8,.int .i64 j)]) (fun j=>[(1,.own false 1 512 (fun k=>[.int .u32 (dig (a%2^j*2^i) k)]))]) [] (fun j=>j<=Yi a) (fun j=>Yi a-j) ?_ ?_
       . refine⟨0,YHl _,?_⟩
         (try dsimp only[go_sem,reduceIte])
         simp only[Ya]
         simp [Nat.mod_one,Ybp,leL,le]
       . rintro j hj
         (try dsimp only[Ym8,Yt7,Yt6,sizeC,bitC,trimC,natS,YGv,go_sem,reduceIte])
         (try simp only[Yd,YGu,YGt,reduceCtorEq,YGs])
         have e0:IntKind.i64.wrap ((j:Int)+(i:Int))=((j+i:Nat):Int):=by rw[YGy _ (by omega)];omega
         have e1:IntKind.i64.wrap (((j+i:Nat):Int).tdiv 32)=(((j+i)/32:Nat):Int):=by
           have:((j+i:Nat):Int).tdiv 32=(((j+i)/32:Nat):Int):=YHq (y:=32) rfl rfl
           rw[this,YGy _ (by omega)]
         have e2:((j+i:Nat):Int).tmod 32=(((j+i)%32:Nat):Int):=YHR (y:=32) rfl rfl
         simp only[e0,e1,e2,YGv,show YHQ 512=512 from rfl]
         have hbl:=Yi8 a
         refine⟨a,⟨Yc (by omega),rfl⟩,fun hlt=>?_,fun hge=>?_⟩
         . refine⟨fun _=>⟨by decide,by decide,⟨by omega,by omega⟩,by omega,by decide,a,⟨Yc (by omega),by omega,by omega⟩,by omega,⟨by omega,by omega⟩,by omega,j+1,by omega,by omega,?_⟩,fun hneg=>by exfalso;omega⟩
           have hm32:(j+i)%32<32:=YG0 _ (by decide)
           have e4:min ((j+i)%32) 32=(j+i)%32:=by omega
           rw[e4,YGy ((j:Int)+1) (by omega),Yzm a j]
           have hq0:=Ysy (a:=a) (i:=i) (j:=j)
           obtain⟨s1,s2,s3⟩:=YAj hq0
           have hb2:=Yqm a j
           have hcell:∀K,(if K=(j+i)/32 then [SV.int IntKind.u32 (bitI .or .u32 ↑(dig (a%2^j*2^i) ((j+i)/32)) (IntKind.u32.wrap (↑(bitN a j)*2^((j+i)%32))))]else [SV.int IntKind.u32 ↑(dig (a%2^j*2^i) K)])=[SV.int IntKind.u32 ↑(dig ((a%2^j+bitN a j*2^j)*2^i) K)]:=by
             intro K
             rcases YGN (bitN a j) 1 with h0|h0
             . have h0:bitN a j=0:=by omega
               rw[h0,show((0:Nat):Int)*2^((j+i)%32)=((0:Nat):Int)by simp,Yea (x:=0) (by decide),orI (YK _ _) (by decide)]
               simp
               intro hh;rw[hh]
             . have h0:bitN a j=1:=by omega
               have e5:((1:Nat):Int)*2^((j+i)%32)=((2^((j+i)%32):Nat):Int):=by simp
               rw[h0,e5,Yea (x:=2^((j+i)%32)) (YHu (by decide) hm32),orI (YK _ _) (YHu (by decide) hm32),Ylm s1]
               have e6:(a%2^j+1*2^j)*2^i=a%2^j*2^i+2^(j+i):=by rw[YHz,YG8,YGJ]
               rw[e6,<-s2,YbT s3]
               split <;> rfl
           simp only[hcell,Ya]
           omega
         . obtain rfl:j=Yi a:=by omega
           rw[YHb (Ya2 a)]
           exact⟨a*2^i,Ysz (by decide) hbits,Yp8 h⟩
 . exact h.1.elim
def v73:VF:=⟨62,[.tmp 4,.tmp 5],(ZR [u1 4 .mov [.cn .nil],Zi 5 0] (ZR [Zm 14 0,u1 15 (.buildSlice 1 1 [.nil] [(0,1)]) [.tm 14],Zc 16 108 15,Zm 6 16] (.seq (ZR [Zm 17 6,Zq 18 .eql 17 0,Zm 19 18,Zg 20 19 true 1,u2 21 19 true (.cmp .lss) [.tm 20,.cn (.int .i64 1)],Zg 22 19 true 21,Zg 23 22 false 1,u2 24 22 false (.cmp .gtr) [.tm 23,.cn (.int .i64 64)],u2 25 19 true .or [.tm 22,.tm 24],u1 26 .and [.tm 19,.tm 25]] (ZC 26 (.region [Zi 6 2]) .skip)) (.seq (ZR [Zm 27 6,Zq 28 .neq 27 0] (ZC 28 (ZR [Zm 29 6,u1 4 .mov [.cn .nil],Zm 5 29] .ret) .skip)) (ZR [u1 7 .mov [.cn .nil]] (.seq (ZR [Zm 30 0,Zc 31 109 30,Zm 32 1,u1 33 .quo [.tm 31,.tm 32],Zm 8 33] (.block 0 (.loop (.seq (ZR [Zm 34 8,Zq 35 .geq 34 0] (ZC 35 .skip (.exit 0))) (.seq (.block 1 (ZR [u1 39 (.call 74) [.cn (.int .u64 1)],Zm 40 8,Zd 41 110 39 40,Zm 38 41,Ze 42 0 38,Ze 43 1 38,Zm 9 42,Zm 10 43] (ZR [Zm 44 7,Zm 45 9,Zd 46 111 44 45,Zm 11 46] (ZR [Zm 48 11,Zm 49 1,Zd 50 112 48 49,Zm 47 50,Ze 51 0 47,Ze 52 1 47,Zm 12 51,Zm 13 52] (ZR [Zm 53 13,Zm 54 53,Zg 55 54 true 12,Zg 56 54 true 0,u2 57 54 true (.call 77) [.tm 55,.tm 56],u2 58 54 true (.cmp .leq) [.tm 57,.cn (.int .i64 0)],u1 59 .and [.tm 54,.tm 58]] (ZC 59 (.region [Zm 60 11,Zm 7 60]) .skip)))))) (.region [Zm 36 8,u1 37 (.ari .sub) [.tm 36,.cn (.int .i64 1)],Zm 8 37])))))) (ZR [Zm 61 7,Zm 4 61,Zi 5 0] .ret)))))))⟩
theorem YF2:Yf YGw Tryz.f73=some v73:=by kernel_rfl
def nrootC:Ctr:={ alias:=false,of:=fun l=>match l with
 | [.vs _ z n sz get,.int .i64 k]=> .ex Nat fun a=> .ex Nat fun e=> .pre (padP a n sz get/\n=nl a/\k=(e:Int)/\1<=e/\e<=62/\a<2^63) (.all Nat fun r=> .imp (r^e<=a/\a<(r+1)^e) (.all Bool fun z=> .fin (.tup [natS z r,.int .i64 0]) []))
 |_=>noC}
def T4:Env:={ ct:=fun n=>match n with|108=>some badnC|109=>some sizeC|74=>some ofC|110=>some shiftC|111=>some plusC|112=>some powerC|77=>some orderC|_=>none,fn:=fun _=>none,meth:=fun _ _=>none}
theorem Yt8:T4.ct 108=some badnC:=rfl
theorem Yt9:T4.ct 109=some sizeC:=rfl
theorem YxJ:T4.ct 74=some ofC:=rfl
theorem Yua:T4.ct 110=some shiftC:=rfl
theorem Yub:T4.ct 111=some plusC:=rfl
theorem Yuc:T4.ct 112=some powerC:=rfl
theorem YxK:T4.ct 77=some orderC:=rfl
theorem T4_ok:Yq YGw T4:=by
 refine⟨fun f c h=>?_,fun f vf h=>?_,(fun _ _ _ h=>by cases h),by kernel_rfl,(fun _ h=>by cases h)⟩
 . simp only[T4]at h
   split at h
   . cases h;exact⟨Yne,Tryz.f108,Tryz.func108,by kernel_rfl,by kernel_rfl⟩
   . cases h;exact⟨YmD,Tryz.f109,Tryz.func109,by kernel_rfl,by kernel_rfl⟩
   . cases h;exact⟨Yms,Tryz.f74,Tryz.func74,by kernel_rfl,by kernel_rfl⟩
   . cases h;exact⟨Ybw,Tryz.f110,Tryz.func110,by kernel_rfl,by kernel_rfl⟩
   . cases h;exact⟨Ymw,Tryz.f111,Tryz.func111,by kernel_rfl,by kernel_rfl⟩
   . cases h;exact⟨Yn3,Tryz.f112,Tryz.func112,by kernel_rfl,by kernel_rfl⟩
   . cases h;exact⟨YaL,Tryz.f77,Tryz.func77,by kernel_rfl,by kernel_rfl⟩
   . cases h
 . cases h
theorem YlA{r e:Nat}(hr:r<2^64)(he:e<=62):nl (r^e)<=512:=by
 have h1:r^e<=(4294967296^2)^e:=YHk (YGF (YHp hr) (by decide)) e
 rw[<-YHj]at h1
 have h2:4294967296^(2*e)<4294967296^(2*e+1):=YHu (by decide) (by omega)
 exact YGF (nl_le (n:=2*e+1).2 (YGU h1 h2)) (by omega)
theorem Yvy{a e:Nat}(he:1<=e):a<(0+2^(Yi a/e+1))^e:=by
 rw[YHC,<-YHj]
 refine YG1 (Ya2 a) (YGG (by decide) ?_)
 have h:=YG3 (Yi a) e
 have h2:=YG0 (Yi a) (show 0<e by omega)
 rw[YGC]at h
 rw[YG8];omega
theorem YmB{r e a:Nat}(he:1<=e)(h:r^e<=a):r<=a:=by
 rcases YG7 r with h0|h0
 . omega
 . exact YGF (YGF (YHM (Nat.pow_one r).symm) (YGG h0 he)) h
theorem Yvd:nrootC.ok YGw 73:=by
 refine Yb Tryz.func73 YF2 T4_ok 300 nrootC fun args k h=>?_
 simp only[nrootC]at h
 split at h
 . rename_i t1 z1 n sz get k'
   obtain⟨a,e,⟨⟨rfl,hn,ha,hg⟩,rfl,rfl,he1,he2,ha63⟩,h⟩:=h
   have hn5:nl a<=2:=nl_le.2 (Nat.lt_trans ha63 (by decide))
   refine⟨[.vs t1 z1 (nl a) 1 (fun k=>[.int .u32 (dig a k)]),.int .i64 e],⟨by simpa [le]using hg,⟨rfl,rfl⟩,trivial⟩,?_⟩
   (try dsimp only[v73,Yt8,Yt9,badnC,sizeC,natS,go_sem,reduceIte])
   (try simp only[Yd,YGu,YGt,reduceCtorEq,YGs])
   have hbs:Yi a<=63:=bitsN_le.2 ha63
   refine⟨by decide,[(z1,a)],⟨⟨rfl,rfl,fun k hk=>match k,hk with|0,_=>Ye _⟩,by simp,by simp;omega⟩,fun hb=>by simp [hb],fun hb=>?_,fun hb=>⟨fun hb=>absurd trivial hb,a,⟨Yc (by omega),rfl⟩,by omega,?_⟩⟩
   . exfalso;simp at hb;omega
   . have hdv:IntKind.i64.wrap ((Yi a:Int).tdiv (e:Int))=((Yi a/e:Nat):Int):=by
       have h1:(Yi a:Int).tdiv (e:Int)=((Yi a/e:Nat):Int):=by rw[Int.tdiv_eq_ediv_of_nonneg (by omega)];simp
       have h2:Yi a/e<=Yi a:=YHr _ _
       rw[h1]
       generalize Yi a/e=G at*
       rw[YGy _ (by omega)]
     rw[hdv]
     have hde:Yi a/e<=Yi a:=YHr _ _
     have htop:=Yvy (a:=a) he1
     clear hdv
     generalize Yi a/e=G at*
     refine Loop.keep [0,0,5,0] (Nat×Nat×Bool) (fun x=>[(7,.vs true x.2.2 (nl x.2.1) 1 (fun k=>[.int .u32 (dig x.2.1 k)])),(8,.int .i64 ((x.1:Int)-1))]) (fun _=>[]) [] (fun x=>x.1<=G+1/\x.2.1^e<=a/\a<(x.2.1+2^x.1)^e) (fun x=>x.1) ?_ ?_
     . refine⟨(G+1,0,true),⟨YGH _,?_,htop⟩,?_⟩
       . rw[Nat.zero_pow (by omega)];omega
       . (try dsimp only[go_sem,reduceIte])
         simp only[Ya]
         simp [leL,le,nl_0]
     . rintro⟨j,r,z⟩ ⟨hj,hr1,hr2⟩
       dsimp only at hj hr1 hr2
       (try dsimp only[YxJ,Yua,Yub,Yuc,YxK,ofC,shiftC,plusC,powerC,orderC,natS,go_sem,reduceIte])
       (try simp only[Yd,YGu,YGt,reduceCtorEq,YGs])
       refine⟨fun hlt=>?_,fun hge=>?_⟩
       . obtain⟨i,rfl⟩:∃i,j=i+1:=⟨j-1,by omega⟩
         have e0:((i+1:Nat):Int)-1=i:=by omega
         rw[e0]
         have hra:=YmB he1 hr1
         have h2i:2^i<=2^63:=YGG (by decide) (by omega)
         have h64:r+1*2^i<2^64:=by rw[YHz];omega
         have hnr:nl r<=2:=nl_le.2 (YGU hra (Nat.lt_trans ha63 (by decide)))
         have hnt:nl (r+1*2^i)<=2:=nl_le.2 (YG1 h64 (by decide))
         have hni:nl (1*2^i)<=2:=nl_le.2 (YGU (by omega) (YG1 h64 (by decide)))
         have hn1:nl 1<=2:=nl_le.2 (by decide)
         have hb1:Yi 1<=1:=bitsN_le.2 (by decide)
         have hpf:=YlA (e:=e) h64 he2
         refine⟨by decide,1,i,⟨Yc (a:=1) (by omega),rfl,by omega,rfl,by omega⟩,by decide,by decide,r,1*2^i,⟨Yc (by omega),Yc (by omega),by omega,by omega⟩,
           r+1*2^i,e,⟨Yc (by omega),rfl,rfl,by omega,by omega,hpf⟩,by decide,by decide,(r+1*2^i)^e,a,⟨Yc (by omega),Yc (by omega)⟩,fun hc=>?_,fun hc=>?_⟩
         . have hle:(r+1*2^i)^e<=a:=by
             simp only[YHn,decide_eq_true_eq]at hc
             unfold ordN at hc
             split at hc
             . omega
             . split at hc <;> omega
           refine⟨(i,r+1*2^i,false),⟨by simp only;omega,hle,?_⟩,by simp only;omega,?_⟩
           . dsimp only
             rw[YHz,Nat.add_assoc,<-Nat.mul_two,<-YGZ];exact hr2
           . rw[YGy ((i:Int)-1) (by omega)]
             simp only[Ya]
         . have hlt:a<(r+2^i)^e:=by
             simp only[YHn,decide_eq_false_iff_not]at hc
             unfold ordN at hc
             rw[YHz]at hc
             split at hc
             . omega
             . split at hc <;> omega
           refine⟨(i,r,z),⟨by simp only;omega,hr1,hlt⟩,by simp only;omega,?_⟩
           rw[YGy ((i:Int)-1) (by omega)]
           simp only[Ya]
       . obtain rfl:j=0:=by omega
         have h:k (.tup [natS z r,.int .i64 0]) []:=h r ⟨hr1,by simpa using hr2⟩ z
         exact Yp8 h
 . exact h.1.elim
def v48:VF:=⟨88,[.cell 4 true 2,.tmp 5],(ZR [u1 2 .box [.tm 0],Zn 4,Zi 5 0] (ZR [Zt 17 2 2,Zc 18 68 17,Zm 6 18] (.seq (ZR [Zm 19 6,Zq 20 .eql 19 0,Zm 21 20,Zg 22 21 true 1,u2 23 21 true (.cmp .lss) [.tm 22,.cn (.int .i64 1)],Zg 24 21 true 23,Zg 25 24 false 1,u2 26 24 false (.cmp .gtr) [.tm 25,.cn (.int .i64 62)],u2 27 21 true .or [.tm 24,.tm 26],u1 28 .and [.tm 21,.tm 27]] (ZC 28 (.region [Zi 6 2]) .skip)) (.seq (ZR [Zm 29 6,Zq 30 .eql 29 0,Zm 31 30,Zj 32 31 true 0 2,Zh 33 31 true 1 32,u2 34 31 true (.cmp .lss) [.tm 33,.cn (.int .i64 0)],u1 35 .and [.tm 31,.tm 34]] (ZC 35 (.region [Zi 6 9]) .skip)) (.seq (ZR [Zm 36 6,Zq 37 .neq 36 0] (ZC 37 (ZR [u1 38 (.build [(.int .i64 0),(.int .i64 0)] []) [],Zm 39 6,Zs 2 4 38,Zm 5 39] .ret) .skip)) (ZR [Za 41 0 2,Zf 42 1 41,u1 43 (.conv .u64) [.tm 42],Zc 44 74 43,Zm 45 1,Zd 46 73 44 45,Zm 40 46,Ze 47 0 40,Ze 48 1 40,Zm 7 47,Zm 8 48] (ZR [Za 50 1 2,Zf 51 1 50,u1 52 (.conv .u64) [.tm 51],Zc 53 74 52,Zm 54 1,Zd 55 73 53 54,Zm 49 55,Ze 56 0 49,Ze 57 1 49,Zm 9 56,Zm 10 57] (ZR [Zm 59 9,Zm 60 1,Zd 61 75 59 60,Zm 58 61,Ze 62 0 58,Ze 63 1 58,Zm 11 62,Zm 12 63] (ZR [Zm 65 7,Zc 66 76 65,Zm 64 66,Ze 67 0 64,Ze 68 1 64,Zm 13 67,Zm 14 68] (ZR [Zm 70 9,Zc 71 76 70,Zm 69 71,Ze 72 0 69,Ze 73 1 69,Zm 15 72,Zm 16 73] (.seq (ZR [Zm 74 11,Za 75 1 2,Zf 76 1 75,u1 77 (.conv .u64) [.tm 76],Zc 78 74 77,Zd 79 77 74 78,Zq 80 .lss 79 0] (ZC 80 (.region [Zm 81 15,u1 82 (.ari .add) [.tm 81,.cn (.int .u64 1)],Zm 15 82]) .skip)) (ZR [Zm 83 13,u1 84 (.conv .i64) [.tm 83],Zm 85 15,u1 86 (.conv .i64) [.tm 85],u1 87 (.build [(.int .i64 0),(.int .i64 0)] [(0,1),(1,1)]) [.tm 84,.tm 86],Zs 2 4 87,Zi 5 0] .ret))))))))))))⟩
theorem YFK:Yf YGw Tryz.f48=some v48:=by kernel_rfl
def S8:Env:={ ct:=fun n=>match n with|68=>some iv1C|74=>some ofC|73=>some nrootC|75=>some npowC|76=>some smallC|77=>some orderC|_=>none,fn:=fun _=>none,meth:=fun _ _=>none}
theorem YxA:S8.ct 68=some iv1C:=rfl
theorem YxC:S8.ct 74=some ofC:=rfl
theorem YxB:S8.ct 73=some nrootC:=rfl
theorem YxD:S8.ct 75=some npowC:=rfl
theorem YxE:S8.ct 76=some smallC:=rfl
theorem YxF:S8.ct 77=some orderC:=rfl
theorem S8_ok:Yq YGw S8:=by
 refine⟨fun f c h=>?_,fun f vf h=>?_,(fun _ _ _ h=>by cases h),by kernel_rfl,(fun _ h=>by cases h)⟩
 . simp only[S8]at h
   split at h
   . cases h;exact⟨Ylw,Tryz.f68,Tryz.func68,by kernel_rfl,by kernel_rfl⟩
   . cases h;exact⟨Yms,Tryz.f74,Tryz.func74,by kernel_rfl,by kernel_rfl⟩
   . cases h;exact⟨Yvd,Tryz.f73,Tryz.func73,by kernel_rfl,by kernel_rfl⟩
   . cases h;exact⟨Yzq,Tryz.f75,Tryz.func75,by kernel_rfl,by kernel_rfl⟩
   . cases h;exact⟨Yom,Tryz.f76,Tryz.func76,by kernel_rfl,by kernel_rfl⟩
   . cases h;exact⟨YaL,Tryz.f77,Tryz.func77,by kernel_rfl,by kernel_rfl⟩
   . cases h
 . cases h
theorem YvA:rootC.ok YGw 48:=by
 refine Yb Tryz.func48 YFK S8_ok 400 rootC fun args k h=>⟨args,?_⟩
 simp only[rootC]at h
 split at h
 . rename_i x y e
   refine⟨by simp [leL,le],?_⟩
   (try dsimp only[v48,YxA,YxC,YxB,YxD,YxE,YxF,iv1C,ofC,nrootC,npowC,smallC,orderC,natS,enc2,go_sem,reduceIte])
   (try simp only[Yd,YGu,YGt,reduceCtorEq,YGs])
   have h:k (.tup [.agg (enc2 (YfY (x,y) e).1),.int .i64 (YfY (x,y) e).2]) []:=h
   refine⟨fun a b=>by simp [a,b],fun hb=>⟨fun h2=>by simp at h2,fun _=>⟨fun _=>?_,fun h2=>absurd h2 (by decide)⟩⟩,fun hb=>⟨fun hx=>⟨fun _=>?_,fun h2=>absurd h2 (by decide)⟩,fun hx=>⟨fun he=>?_,fun he=>?_⟩⟩⟩
   . simp only[YGA,YHd,decide_eq_true_eq]at hb
     rw[YfY,if_neg (by omega),if_pos (by omega)]at h
     exact Yx (r:=errI 2) h
   . simp only[YGA,decide_eq_true_eq]at hx
     have hb':¬(e<1\/62<e):=by
       intro hh
       have:(decide (ivE [(x,y)]=0)&&(decide (e<1) || decide (62<e)))=true:=by
         simp only[YGA,YHd,decide_eq_true_eq];exact⟨hx.1,hh⟩
       rw[this]at hb;cases hb
     rw[YfY,if_neg (by omega),if_neg hb',if_pos hx.2]at h
     exact Yx (r:=errI 9) h
   . rw[YfY,if_pos he]at h
     exact Yx (r:=errI (ivE [(x,y)])) h
   . have hb':¬(e<1\/62<e):=by
       intro hh
       have:(decide (ivE [(x,y)]=0)&&(decide (e<1) || decide (62<e)))=true:=by
         simp only[YGA,YHd,decide_eq_true_eq];exact⟨he,hh⟩
       rw[this]at hb;cases hb
     have hx':¬x<0:=by
       intro hh
       have:(decide (ivE [(x,y)]=0)&&decide (x<0))=true:=by
         simp only[YGA,decide_eq_true_eq];exact⟨he,hh⟩
       rw[this]at hx;cases hx
     obtain⟨h1,h2,h3⟩:=ivE1 he
     dsimp only at h1 h2 h3
     rw[YfY,if_neg (by rw[he];simp),if_neg hb',if_neg hx']at h
     clear hb hx
     obtain⟨x,rfl⟩:=YGT (by omega:0<=x)
     obtain⟨y,rfl⟩:=YGT (by omega:0<=y)
     obtain⟨e,rfl⟩:=YGT (by omega:0<=e)
     simp only[YGR (x:Int) (by omega),YGR (y:Int) (by omega)]
     simp only[YGv]at h⊢
     have nx:nl x<=2:=nl_le.2 (by omega)
     have ny:nl y<=2:=nl_le.2 (by omega)
     refine⟨⟨by omega,by omega⟩,x,e,⟨Yc (by omega),rfl,rfl,by omega,by omega,by omega⟩,fun r ⟨r1,r2⟩=>⟨by decide,by decide,⟨by omega,by omega⟩,y,e,⟨Yc (by omega),rfl,rfl,by omega,by omega,by omega⟩,fun q ⟨q1,q2⟩=>?_⟩⟩
     have rx:Yc2 x e=r:=Yfj (by omega) r1 r2
     have ry:Yc2 y e=q:=Yfj (by omega) q1 q2
     have lr:=YmB (by omega) r1
     have lq:=YmB (by omega) q1
     have nr:nl r<=2:=YGF (Yax lr) nx
     have nq:nl q<=2:=YGF (Yax lq) ny
     have fq:=YlA (r:=q) (e:=e) (by omega) (by omega)
     rw[rx]at h
     unfold Ysp at h
     rw[ry]at h
     refine⟨by decide,by decide,q,e,⟨Yc (by omega),rfl,rfl,by omega,by omega,fq⟩,by decide,by decide,r,⟨Yc (by omega),rfl,by omega⟩,by decide,by decide,q,⟨Yc (by omega),rfl,by omega⟩,by decide,by decide,⟨by omega,by omega⟩,q^e,y,⟨Yc (by omega),Yc (by omega)⟩,?_⟩
     have ho:ordN (q^e) y<0↔q^e<y:=by
       unfold ordN
       split
       . simp;omega
       . split <;> simp <;> omega
     rw[ho]
     simp only[if_pos (show r<18446744073709551616 by omega),if_pos (show q<18446744073709551616 by omega)]
     rw[YGR ((q:Int)+1) (by omega),YGy ((q:Int)+1) (by omega),YGy (r:Int) (by omega),YGy (q:Int) (by omega)]
     refine⟨fun hc=>?_,fun hc=>?_⟩
     . rw[if_pos hc]at h
       exact Yx (r:=(((r:Int),((q+1:Nat):Int)),0)) h
     . rw[if_neg hc]at h
       exact Yx (r:=(((r:Int),(q:Int)),0)) h
 . exact h.1.elim
def v141:VF:=⟨17,[.cell 2 true 3],(ZR [u1 1 .box [.tm 0],u1 2 (.alloc [(.bool false),.nil,.nil]) []] (ZR [Za 3 0 1,Zf 4 1 3,u1 5 .not [.tm 4],Zm 6 5,Zj 7 6 true 1 1,Zh 8 6 true 1 7,u2 9 6 true .len [.tm 8],u2 10 6 true (.cmp .gtr) [.tm 9,.cn (.int .i64 0)],u1 11 .and [.tm 6,.tm 10],Za 12 1 1,Zf 13 1 12,Za 14 2 1,Zf 15 1 14,u1 16 (.build [(.bool false),.nil,.nil] [(0,1),(1,1),(2,1)]) [.tm 11,.tm 13,.tm 15],Zs 3 2 16] .ret))⟩
theorem YBb:Yf YGw Tryz.f141=some v141:=by kernel_rfl
def v117:VF:=⟨21,[.cell 4 true 3,.tmp 5],(ZR [u1 2 .box [.tm 0],u1 3 .box [.tm 1],u1 4 (.alloc [(.bool false),.nil,.nil]) [],Zi 5 0] (ZR [Zt 7 3 2,Zt 8 3 3,u1 9 (.buildSlice 3 2 [(.bool false),.nil,.nil] [(0,3),(3,3)]) [.tm 7,.tm 8],Zc 10 102 9,Zm 6 10] (.seq (ZR [Zm 11 6,Zq 12 .neq 11 0] (ZC 12 (ZR [u1 13 (.build [(.bool false),.nil,.nil] []) [],Zm 14 6,Zs 3 4 13,Zm 5 14] .ret) .skip)) (.seq (.draw [] [Zw 15 3 2,Zw 16 3 3,w1 17 (.call 141) [.tm 16],Zz 18 116 15 17,ZE 19 0 18,ZE 20 1 18,ZS 3 4 19,Zu 5 20]) .ret))))⟩
theorem YAT:Yf YGw Tryz.f117=some v117:=by kernel_rfl
def v88:VF:=⟨100,[.tmp 6],(ZR [u1 3 .box [.tm 0],u1 4 .box [.tm 1],u1 6 .mov [.cn .nil]] (ZR [u1 7 .mov [.cn .nil]] (ZR [Za 13 0 3,Zf 14 1 13,Za 15 1 3,Zf 16 1 15,u1 17 (.buildSlice 1 2 [(.int .i64 0)] [(0,1),(1,1)]) [.tm 14,.tm 16],Zm 8 17] (ZR [Za 18 0 4,Zf 19 1 18,Za 20 1 4,Zf 21 1 20,u1 22 (.buildSlice 1 2 [(.int .i64 0)] [(0,1),(1,1)]) [.tm 19,.tm 21],Zm 9 22] (.seq (ZR [Zi 10 0] (.block 0 (.loop (.seq (ZR [Zm 23 10,Zq 24 .lss 23 2] (ZC 24 .skip (.exit 0))) (.seq (.block 1 (ZR [Zi 11 0] (.block 2 (.loop (.seq (ZR [Zm 27 11,Zq 28 .lss 27 2] (ZC 28 .skip (.exit 2))) (.seq (.block 3 (ZR [u1 31 (.build [(.bool false),.nil,.nil] []) [],u1 12 (.alloc [(.bool false),.nil,.nil]) [],Zs 3 12 31] (.seq (ZR [Zm 32 2] (.block 4 (ZR [Zq 48 .eql 32 0,Zm 47 48] (ZC 47 (.draw [] [Zu 50 8,Zu 51 10,ZX 52 1 50 51,Zv 53 1 52,Zu 55 9,Zu 56 11,ZX 57 1 55 56,Zv 58 1 57,w1 54 (.call 71) [.tm 53],w1 59 (.call 71) [.tm 58],Zz 60 116 54 59,Zu 49 60,ZE 61 0 49,ZE 62 1 49,ZS 3 12 61]) (ZR [Zq 64 .eql 32 1,Zm 63 64] (ZC 63 (.draw [] [Zu 66 8,Zu 67 10,ZX 68 1 66 67,Zv 69 1 68,Zu 71 9,Zu 72 11,ZX 73 1 71 72,Zv 74 1 73,w1 70 (.call 71) [.tm 69],w1 75 (.call 71) [.tm 74],Zz 76 117 70 75,Zu 65 76,ZE 77 0 65,ZE 78 1 65,ZS 3 12 77]) (ZR [Zq 80 .eql 32 2,Zm 79 80] (ZC 79 (.draw [] [Zu 82 8,Zu 83 10,ZX 84 1 82 83,Zv 85 1 84,Zu 87 9,Zu 88 11,ZX 89 1 87 88,Zv 90 1 89,w1 86 (.call 71) [.tm 85],w1 91 (.call 71) [.tm 90],Zz 92 70 86 91,Zu 81 92,ZE 93 0 81,ZE 94 1 81,ZS 3 12 93]) (.draw [] [Zu 34 8,Zu 35 10,ZX 36 1 34 35,Zv 37 1 36,Zu 39 9,Zu 40 11,ZX 41 1 39 40,Zv 42 1 41,w1 38 (.call 71) [.tm 37],w1 43 (.call 71) [.tm 42],Zz 44 101 38 43,Zu 33 44,ZE 45 0 33,ZE 46 1 33,ZS 3 12 45]))))))))) (.region [Zm 95 7,Zt 96 3 12,u1 97 (.buildSlice 3 1 [(.bool false),.nil,.nil] [(0,3)]) [.tm 96],u1 98 (.append 3 56 [(.bool false),.nil,.nil]) [.tm 95,.tm 97],Zm 7 98])))) (.region [Zm 29 11,Zp 30 29 1,Zm 11 30]))))))) (.region [Zm 25 10,Zp 26 25 1,Zm 10 26])))))) (ZR [Zm 99 7,Zm 6 99] .ret))))))⟩
theorem YGh:Yf YGw Tryz.f88=some v88:=by kernel_rfl
def turnedC:Ctr:={ alias:=true,of:=fun l=>match l with
 | [.agg [.bool neg,.vs _ z1 n1 s1 g1,.vs _ z2 n2 s2 g2]]=> .ex Fr fun p=> .pre (Yd1 p neg z1 n1 s1 g1 z2 n2 s2 g2) (.fin (.agg (encF false (YcW p))) [])
 |_=>noC}
def U0:Env:={ ct:=fun _=>none,fn:=fun _=>none,meth:=fun _ _=>none}
theorem U0_ok:Yq YGw U0:=by
 refine⟨fun f c h=>?_,fun f vf h=>?_,(fun _ _ _ h=>by cases h),by kernel_rfl,(fun _ h=>by cases h)⟩
 . cases h
 . cases h
theorem YsR:turnedC.ok YGw 141:=by
 refine Yb Tryz.func141 YBb U0_ok 300 turnedC fun args k h=>?_
 simp only[turnedC]at h
 split at h
 . rename_i neg t1 z1 n1 s1 g1 t2 z2 n2 s2 g2
   obtain⟨p,hpp,h⟩:=h
   refine⟨[.agg (encF false p)],⟨YeY hpp,trivial⟩,?_⟩
   have hp:=hpp.1
   clear hpp
   dsimp only[v141,natV,encF,go_sem,reduceIte]
   simp only[Yd,YGu,YGt,reduceCtorEq,YGs,decide_true,decide_false,YHE,YHn,Bool.and_false,YHx,YHL,Bool.not_false,Bool.or_false,YHv,Bool.or_true,Bool.true_or,Bool.and_self,Bool.or_self,YGM,Bool.true_eq_false,false_imp_iff,forall_const,true_and,and_true,implies_true,reduceCtorEq,not_true_eq_false,not_false_eq_true,ite_true,ite_false]
   obtain⟨e1,e2,e3⟩:=Ykb hp.1
   have h:k (.agg (encF false (YcW p))) []:=h
   unfold encF natV at h
   rw[e1,e2,<-e3]at h
   exact YE h (Yy _ ⟨trivial,trivial,trivial,trivial⟩) (fun h=>by cases h)
 . exact h.1.elim
def U1:Env:={ ct:=fun n=>match n with|102=>some badqC|141=>some turnedC|116=>some qaddC|_=>none,fn:=fun _=>none,meth:=fun _ _=>none}
theorem Yud:U1.ct 102=some badqC:=rfl
theorem Yuf:U1.ct 141=some turnedC:=rfl
theorem Yue:U1.ct 116=some qaddC:=rfl
theorem U1_ok:Yq YGw U1:=by
 refine⟨fun f c h=>?_,fun f vf h=>?_,(fun _ _ _ h=>by cases h),by kernel_rfl,(fun _ h=>by cases h)⟩
 . simp only[U1]at h
   split at h
   . cases h;exact⟨Yl3,Tryz.f102,Tryz.func102,by kernel_rfl,by kernel_rfl⟩
   . cases h;exact⟨YsR,Tryz.f141,Tryz.func141,by kernel_rfl,by kernel_rfl⟩
   . cases h;exact⟨Yr7,Tryz.f116,Tryz.func116,by kernel_rfl,by kernel_rfl⟩
   . cases h
 . cases h
theorem YzL:qsubC.ok YGw 117:=by
 refine Yb Tryz.func117 YAT U1_ok 300 qsubC fun args k h=>?_
 simp only[qsubC]at h
 split at h
 . rename_i neg t1 z1 n1 s1 g1 t2 z2 n2 s2 g2 neg' t1' z1' n1' s1' g1' t2' z2' n2' s2' g2'
   obtain⟨p,q,⟨hpp,hqq,hpq⟩,h⟩:=h
   refine⟨[.agg (encF false p),.agg (encF false q)],⟨YeY hpp,YeY hqq,trivial⟩,?_⟩
   have hp:=hpp.1
   have hq:=hqq.1
   clear hpp hqq
   dsimp only[v117,Yud,Yuf,Yue,badqC,turnedC,qaddC,natV,encF,go_sem,reduceIte]
   simp only[Yd,YGu,YGt,reduceCtorEq,YGs,decide_true,decide_false,YHE,YHn,Bool.and_false,YHx,YHL,Bool.not_false,Bool.or_false,YHv,Bool.or_true,Bool.true_or,Bool.and_self,Bool.or_self,YGM,Bool.true_eq_false,false_imp_iff,forall_const,true_and,and_true,implies_true,reduceCtorEq,not_true_eq_false,not_false_eq_true,ite_true,ite_false]
   have ht:=YsQ hq
   refine⟨by decide,[p,q],⟨⟨rfl,rfl,fun k hk=>match k,hk with|0,_=>Ye _|1,_=>Ye _⟩,by simp,YoN hp hq⟩,q,Yn hq,p,YcW q,⟨Yn hp,Yn ht,hpq⟩,by decide,by decide,?_⟩
   exact Yh9 (show k (.tup [.agg (encF true (addQ p (YcW q))),.int .i64 0]) []from h)
 . exact h.1.elim
def opQ(w:Int)(m n:Int):Fr:=if w=0 then addQ (m,1) (n,1)else if w=1 then addQ (m,1) (YcW (n,1))else if w=2 then(m*n,1*1)else divF (m,1) (n,1)
theorem Ywl{w m n:Int}(hm: -4611686018427387904<=m/\m<=4611686018427387904)(hn: -4611686018427387904<=n/\n<=4611686018427387904)(h0:w≠0->w≠1->w≠2->n≠0):frOk (opQ w m n):=by
 unfold opQ
 split
 . exact YeX (show 0<1*1 by decide) (show(m*((1:Nat):Int)+n*((1:Nat):Int)).natAbs<4294967296^8 by omega) (show 1*1<4294967296^8 by decide)
 . split
   . exact YeX (show 0<1*1 by decide) (show(m*((1:Nat):Int)+ -n*((1:Nat):Int)).natAbs<4294967296^8 by omega) (show 1*1<4294967296^8 by decide)
   . split
     . refine YeX (show 0<1*1 by decide) (show(m*n).natAbs<4294967296^8 from ?_) (show 1*1<4294967296^8 by decide)
       rw[Int.natAbs_mul]
       exact YGU (YGX (show m.natAbs<=4611686018427387904 by omega) (show n.natAbs<=4611686018427387904 by omega)) (by decide)
     . have hn0:=h0 (by assumption) (by assumption) (by assumption)
       refine YeX (show 0<1*n.natAbs by omega) (show(nsg (decide (n<0)) 1*m*((1:Nat):Int)).natAbs<4294967296^8 from ?_) (show 1*n.natAbs<4294967296^8 by omega)
       rw[Int.natAbs_mul,Int.natAbs_mul,YfU,show Int.natAbs ((1:Nat):Int)=1 from rfl,YHz,Nat.mul_one];omega
def crnF(x y u v w:Int)(j:Nat):Fr:=opQ w (if j/2=0 then x else y) (if j%2=0 then u else v)
def bg6(n:Int):Prop:= -4611686018427387904<=n/\n<=4611686018427387904
def crnC:Ctr:={ alias:=false,of:=fun l=>match l with
 | [.agg [.int .i64 x,.int .i64 y],.agg [.int .i64 u,.int .i64 v],.int .i64 w]=> .pre ((bg6 x/\bg6 y)/\(bg6 u/\bg6 v)/\(w≠0->w≠1->w≠2->u≠0/\v≠0)) (.fin (.vs true false 4 3 (fun k=>encF true (crnF x y u v w k))) [])
 |_=>noC}
def U2:Env:={ ct:=fun n=>match n with|71=>some quoiC|116=>some qaddC|117=>some qsubC|70=>some qmulC|101=>some qdivC|_=>none,fn:=fun _=>none,meth:=fun _ _=>none}
theorem YxM:U2.ct 71=some quoiC:=rfl
theorem Yuh:U2.ct 116=some qaddC:=rfl
theorem Yui:U2.ct 117=some qsubC:=rfl
theorem YxL:U2.ct 70=some qmulC:=rfl
theorem Yug:U2.ct 101=some qdivC:=rfl
theorem U2_ok:Yq YGw U2:=by
 refine⟨fun f c h=>?_,fun f vf h=>?_,(fun _ _ _ h=>by cases h),by kernel_rfl,(fun _ h=>by cases h)⟩
 . simp only[U2]at h
   split at h
   . cases h;exact⟨Ymy,Tryz.f71,Tryz.func71,by kernel_rfl,by kernel_rfl⟩
   . cases h;exact⟨Yr7,Tryz.f116,Tryz.func116,by kernel_rfl,by kernel_rfl⟩
   . cases h;exact⟨YzL,Tryz.f117,Tryz.func117,by kernel_rfl,by kernel_rfl⟩
   . cases h;exact⟨Ysa,Tryz.f70,Tryz.func70,by kernel_rfl,by kernel_rfl⟩
   . cases h;exact⟨Yr8,Tryz.f101,Tryz.func101,by kernel_rfl,by kernel_rfl⟩
   . cases h
 . cases h
theorem YC3:crnC.ok YGw 88:=by
 refine Yb Tryz.func88 YGh U2_ok 400 crnC fun args k h=>⟨args,?_⟩
 simp only[crnC]at h
 split at h
 . rename_i x y u v w
   obtain⟨⟨⟨hx,hy⟩,⟨hu,hv⟩,hw⟩,h⟩:=h
   refine⟨by simp [leL,le],?_⟩
   dsimp only[v88,go_sem,reduceIte]
   simp only[Yd,YGu,YGt,reduceCtorEq,YGs,decide_true,decide_false,YHE,YHn,Bool.and_false,YHx,YHL,Bool.not_false,Bool.or_false,YHv,Bool.or_true,Bool.true_or,Bool.and_self,Bool.or_self,YGM,Bool.true_eq_false,false_imp_iff,forall_const,true_and,and_true,implies_true,reduceCtorEq,not_true_eq_false,not_false_eq_true,ite_true,ite_false]
   refine⟨by decide,by decide,?_⟩
   refine Loop.keep [2,4,0,0,0] Nat (fun i=>[(7,.own 4 0 (2*i) 3),(10,.int .i64 i)]) (fun i=>[(2,.own false 1 2 (fun k=>[.int .i64 (if k=0 then x else y)])),(3,.own false 1 2 (fun k=>[.int .i64 (if k=0 then u else v)])),(4,.own (decide (i=0)) 3 (2*i) (fun k=>encF true (crnF x y u v w k)))]) [.gone] (fun i=>i<=2) (fun i=>2-i) ?_ ?_
   . refine⟨0,YHl _,?_⟩
     dsimp only[go_sem,reduceIte]
     simp only[Ya]
     exact⟨⟨by omega,by omega,by omega,rfl⟩,fun k hk=>match k,hk with|0,_=>Yw [.int .i64 x] ⟨trivial,trivial⟩ |1,_=>Yw [.int .i64 y] ⟨trivial,trivial⟩,fun k hk=>match k,hk with|0,_=>Yw [.int .i64 u] ⟨trivial,trivial⟩ |1,_=>Yw [.int .i64 v] ⟨trivial,trivial⟩,rfl⟩
   . rintro i hi
     dsimp only[go_sem,reduceIte]
     simp only[Yd,YGu,YGt,reduceCtorEq,YGs]
     refine⟨fun hlt=>?_,fun hge=>?_⟩
     . refine Loop.keep [2,4,0,0,0,0] Nat (fun j=>[(7,.own 4 0 (2*i+j) 3),(11,.int .i64 j)]) (fun j=>[(4,.own (decide (2*i+j=0)) 3 (2*i+j) (fun k=>encF true (crnF x y u v w k)))]) [] (fun j=>j<=2) (fun j=>2-j) ?_ ?_
       . refine⟨0,YHl _,?_⟩
         dsimp only[go_sem,reduceIte]
         simp only[Ya]
         exact⟨⟨⟨by omega,by omega⟩,by omega,by omega,rfl⟩,by congr 1;exact propext (by omega),by omega,fun k hk=>Yw (encF true (crnF x y u v w k)) ⟨trivial,trivial,trivial,trivial⟩⟩
       . rintro j hj
         dsimp only[YxM,Yuh,Yui,YxL,Yug,quoiC,qaddC,qsubC,qmulC,qdivC,natV,encF,YGv,go_sem,reduceIte]
         simp only[Yd,YGu,YGt,reduceCtorEq,YGs]
         refine⟨fun hlj=>?_,fun hgj=>?_⟩
         . have hcr:crnF x y u v w (2*i+j)=opQ w (if i=0 then x else y) (if j=0 then u else v):=by
             unfold crnF
             rw[show(2*i+j)/2=i by omega,show(2*i+j)%2=j by omega]
           have hm:bg6 (if i=0 then x else y):=by split <;> assumption
           have hn:bg6 (if j=0 then u else v):=by split <;> assumption
           have hwn:w≠0->w≠1->w≠2->(if j=0 then u else v)≠0:=fun a b c=>by
             have:=hw a b c
             split
             . exact this.1
             . exact this.2
           have hok:=Ywl hm hn hwn
           generalize(if i=0 then x else y)=m at*
           generalize(if j=0 then u else v)=n at*
           have hm1:=Yim hm
           have hn1:=Yim hn
           refine⟨fun h0=>?_,fun h0=>⟨fun h1=>?_,fun h1=>⟨fun h2=>?_,fun h2=>?_⟩⟩⟩
           . have eo:opQ w m n=addQ (m,1) (n,1):=if_pos h0
             rw[eo]at hok hcr
             refine⟨⟨by omega,by omega⟩,by omega,⟨by omega,by omega⟩,by omega,hm,hn,(m,1),(n,1),⟨Yn hm1,Yn hn1,hok⟩,by decide,by decide,by decide,?_⟩
             refine⟨⟨by unfold YN;omega,fun q hq=>match q,hq with|0,_=>⟨rfl,trivial,trivial,trivial,trivial⟩⟩,j+1,by omega,by omega,?_⟩
             have hwj:IntKind.i64.wrap ((j:Int)+1)=((j+1:Nat):Int):=by rw[YGy _ (by omega)];omega
             simp only[hwj,<-Nat.add_assoc,Ya]
             refine⟨by omega,by simp,fun q hq=>?_⟩
             rcases YGN q (2*i+j)with h'|h'
             . rw[if_pos h'];exact Yw (encF true (crnF x y u v w q)) ⟨trivial,trivial,trivial,trivial⟩
             . rw[if_neg (by omega)]
               obtain rfl:q=2*i+j:=by omega
               rw[Nat.sub_self,hcr]
               first|exact Yw (encF true _) ⟨trivial,trivial,trivial,trivial⟩ |exact Yw (encF true (m*n,1*1)) ⟨trivial,trivial,trivial,trivial⟩
           . have eo:opQ w m n=addQ (m,1) (YcW (n,1)):=(if_neg h0).trans (if_pos h1)
             rw[eo]at hok hcr
             refine⟨⟨by omega,by omega⟩,by omega,⟨by omega,by omega⟩,by omega,hm,hn,(m,1),(n,1),⟨Yn hm1,Yn hn1,hok⟩,by decide,by decide,by decide,?_⟩
             refine⟨⟨by unfold YN;omega,fun q hq=>match q,hq with|0,_=>⟨rfl,trivial,trivial,trivial,trivial⟩⟩,j+1,by omega,by omega,?_⟩
             have hwj:IntKind.i64.wrap ((j:Int)+1)=((j+1:Nat):Int):=by rw[YGy _ (by omega)];omega
             simp only[hwj,<-Nat.add_assoc,Ya]
             refine⟨by omega,by simp,fun q hq=>?_⟩
             rcases YGN q (2*i+j)with h'|h'
             . rw[if_pos h'];exact Yw (encF true (crnF x y u v w q)) ⟨trivial,trivial,trivial,trivial⟩
             . rw[if_neg (by omega)]
               obtain rfl:q=2*i+j:=by omega
               rw[Nat.sub_self,hcr]
               first|exact Yw (encF true _) ⟨trivial,trivial,trivial,trivial⟩ |exact Yw (encF true (m*n,1*1)) ⟨trivial,trivial,trivial,trivial⟩
           . have eo:opQ w m n=(m*n,1*1):=(if_neg h0).trans ((if_neg h1).trans (if_pos h2))
             rw[eo]at hok hcr
             refine⟨⟨by omega,by omega⟩,by omega,⟨by omega,by omega⟩,by omega,hm,hn,(m,1),(n,1),⟨Yn hm1,Yn hn1,hok⟩,by decide,by decide,by decide,?_⟩
             refine⟨⟨by unfold YN;omega,fun q hq=>match q,hq with|0,_=>⟨rfl,trivial,trivial,trivial,trivial⟩⟩,j+1,by omega,by omega,?_⟩
             have hwj:IntKind.i64.wrap ((j:Int)+1)=((j+1:Nat):Int):=by rw[YGy _ (by omega)];omega
             simp only[hwj,<-Nat.add_assoc,Ya]
             refine⟨by omega,by simp,fun q hq=>?_⟩
             rcases YGN q (2*i+j)with h'|h'
             . rw[if_pos h'];exact Yw (encF true (crnF x y u v w q)) ⟨trivial,trivial,trivial,trivial⟩
             . rw[if_neg (by omega)]
               obtain rfl:q=2*i+j:=by omega
               rw[Nat.sub_self,hcr]
               first|exact Yw (encF true _) ⟨trivial,trivial,trivial,trivial⟩ |exact Yw (encF true (m*n,1*1)) ⟨trivial,trivial,trivial,trivial⟩
           . have eo:opQ w m n=divF (m,1) (n,1):=(if_neg h0).trans ((if_neg h1).trans (if_neg h2))
             rw[eo]at hok hcr
             refine⟨⟨by omega,by omega⟩,by omega,⟨by omega,by omega⟩,by omega,hm,hn,(m,1),(n,1),⟨Yn hm1,Yn hn1,hwn h0 h1 h2,hok⟩,by decide,by decide,by decide,?_⟩
             refine⟨⟨by unfold YN;omega,fun q hq=>match q,hq with|0,_=>⟨rfl,trivial,trivial,trivial,trivial⟩⟩,j+1,by omega,by omega,?_⟩
             have hwj:IntKind.i64.wrap ((j:Int)+1)=((j+1:Nat):Int):=by rw[YGy _ (by omega)];omega
             simp only[hwj,<-Nat.add_assoc,Ya]
             refine⟨by omega,by simp,fun q hq=>?_⟩
             rcases YGN q (2*i+j)with h'|h'
             . rw[if_pos h'];exact Yw (encF true (crnF x y u v w q)) ⟨trivial,trivial,trivial,trivial⟩
             . rw[if_neg (by omega)]
               obtain rfl:q=2*i+j:=by omega
               rw[Nat.sub_self,hcr]
               first|exact Yw (encF true _) ⟨trivial,trivial,trivial,trivial⟩ |exact Yw (encF true (m*n,1*1)) ⟨trivial,trivial,trivial,trivial⟩
         . obtain rfl:j=2:=by omega
           refine⟨i+1,by omega,by omega,?_⟩
           have hwi:IntKind.i64.wrap ((i:Int)+1)=((i+1:Nat):Int):=by rw[YGy _ (by omega)];omega
           simp only[hwi,show 2*(i+1)=2*i+2 by omega,Ya]
           simp
     . obtain rfl:i=2:=by omega
       refine YE (show k _ []from h) ?_ ?_
       . dsimp only[expo,encF,natV,go_sem,reduceIte]
         simp only[Ya]
         decide
       . intro _;simp [Yl,Yo,encF,natV]
 . exact h.1.elim
theorem YqF{p q:Fr}:cmpQ p.1 p.2 q.1 q.2<0↔p.1*q.2<q.1*p.2:=by
 unfold cmpQ cmpI;split <;> (try split) <;> omega
theorem YqE{p q:Fr}:0<cmpQ p.1 p.2 q.1 q.2↔q.1*p.2<p.1*q.2:=by
 unfold cmpQ cmpI;split <;> (try split) <;> omega
def leQ(p q:Fr):Prop:=p.1*(q.2:Int)<=q.1*(p.2:Int)
theorem Ye5{p q r:Fr}(hp:0<p.2)(hq:0<q.2)(hr:0<r.2)(h1:leQ p q)(h2:leQ q r):leQ p r:=by
 unfold leQ at*
 have e1:=YGS h1 (Int.natCast_nonneg r.2)
 have e2:=YGS h2 (Int.natCast_nonneg p.2)
 have hq':(0:Int)<q.2:=by omega
 refine Int.le_of_mul_le_mul_right ?_ hq'
 have a1:p.1*(r.2:Int)*(q.2:Int)=p.1*(q.2:Int)*(r.2:Int):=by rw[Int.mul_assoc,Int.mul_comm (r.2:Int),<-Int.mul_assoc]
 have a2:r.1*(p.2:Int)*(q.2:Int)=r.1*(q.2:Int)*(p.2:Int):=by rw[Int.mul_assoc,Int.mul_comm (p.2:Int),<-Int.mul_assoc]
 have a3:q.1*(p.2:Int)*(r.2:Int)=q.1*(r.2:Int)*(p.2:Int):=by rw[Int.mul_assoc,Int.mul_comm (p.2:Int),<-Int.mul_assoc]
 omega
theorem YnK(p:Fr):leQ p p:=Int.le_refl _
theorem YuY(x:Fr):∀(r:List Fr),(∀p∈x::r,0<p.2)->loQ x r∈x::r/\∀y∈x::r,leQ (loQ x r) y:=by
 intro r
 induction r generalizing x with
 |nil=>exact fun _=>⟨YGI,fun y hy=>by simp at hy;subst hy;exact YnK _⟩
 |cons a r ih=>
   intro hall
   have e:loQ x (a::r)=loQ (if cmpQ a.1 a.2 x.1 x.2<0 then a else x) r:=rfl
   rw[e]
   have hx:=hall x YGI
   have ha:=hall a (by simp)
   have hm:∀p∈(if cmpQ a.1 a.2 x.1 x.2<0 then a else x)::r,0<p.2:=by
     intro p hp
     rcases YGQ.1 hp with rfl|hp
     . split <;> assumption
     . exact hall p (by simp [hp])
   obtain⟨h1,h2⟩:=ih (if cmpQ a.1 a.2 x.1 x.2<0 then a else x) hm
   have hL:=hm _ h1
   have h3:=h2 _ YGI
   generalize loQ (if cmpQ a.1 a.2 x.1 x.2<0 then a else x) r=L at*
   refine⟨?_,fun y hy=>?_⟩
   . rcases YGQ.1 h1 with h|h
     . rw[h];split <;> simp
     . simp [h]
   . rcases YGQ.1 hy with rfl|hy
     . split at h3
       . rename_i c;rw[YqF]at c;exact Ye5 hL ha hx h3 (by unfold leQ;omega)
       . exact h3
     . rcases YGQ.1 hy with rfl|hy
       . split at h3
         . exact h3
         . rename_i c;rw[YqF]at c;exact Ye5 hL hx ha h3 (by unfold leQ;omega)
       . exact h2 _ (YGK _ hy)
theorem YuM(x:Fr):∀(r:List Fr),(∀p∈x::r,0<p.2)->hiQ x r∈x::r/\∀y∈x::r,leQ y (hiQ x r):=by
 intro r
 induction r generalizing x with
 |nil=>exact fun _=>⟨YGI,fun y hy=>by simp at hy;subst hy;exact YnK _⟩
 |cons a r ih=>
   intro hall
   have e:hiQ x (a::r)=hiQ (if 0<cmpQ a.1 a.2 x.1 x.2 then a else x) r:=rfl
   rw[e]
   have hx:=hall x YGI
   have ha:=hall a (by simp)
   have hm:∀p∈(if 0<cmpQ a.1 a.2 x.1 x.2 then a else x)::r,0<p.2:=by
     intro p hp
     rcases YGQ.1 hp with rfl|hp
     . split <;> assumption
     . exact hall p (by simp [hp])
   obtain⟨h1,h2⟩:=ih (if 0<cmpQ a.1 a.2 x.1 x.2 then a else x) hm
   have hL:=hm _ h1
   have h3:=h2 _ YGI
   generalize hiQ (if 0<cmpQ a.1 a.2 x.1 x.2 then a else x) r=L at*
   refine⟨?_,fun y hy=>?_⟩
   . rcases YGQ.1 h1 with h|h
     . rw[h];split <;> simp
     . simp [h]
   . rcases YGQ.1 hy with rfl|hy
     . split at h3
       . rename_i c;rw[YqE]at c;exact Ye5 hx ha hL (by unfold leQ;omega) h3
       . exact h3
     . rcases YGQ.1 hy with rfl|hy
       . split at h3
         . exact h3
         . rename_i c;rw[YqE]at c;exact Ye5 ha hx hL (by unfold leQ;omega) h3
       . exact h2 _ (YGK _ hy)
theorem Yjk{m n:Int}(hn:n≠0):(divF (m,1) (n,1)).1/((divF (m,1) (n,1)).2:Int)=dnF m n/\ -((-(divF (m,1) (n,1)).1)/((divF (m,1) (n,1)).2:Int))= -(dnF (-m) n):=by
 unfold divF dnF nsg
 by_cases h:n<0
 . have e:((1*n.natAbs:Nat):Int)= -n:=by omega
   simp only[h,decide_true,if_true,e]
   constructor
   . congr 1;simp
   . congr 2;simp
 . have e:((1*n.natAbs:Nat):Int)=n:=by omega
   simp only[h,decide_false,YGM,if_false,e]
   constructor
   . congr 1;simp
   . congr 2;simp
theorem Yjf{x y u v w:Int}(p:Fr)(h:p∈crnF x y u v w 0:: [crnF x y u v w 1,crnF x y u v w 2,crnF x y u v w 3]):∃m n,(m=x\/m=y)/\(n=u\/n=v)/\p=opQ w m n:=by
 simp only[YGQ,List.not_mem_nil,or_false]at h
 rcases h with rfl|rfl|rfl|rfl
 . exact⟨x,u,.inl rfl,.inl rfl,rfl⟩
 . exact⟨x,v,.inl rfl,.inr rfl,rfl⟩
 . exact⟨y,u,.inr rfl,.inl rfl,rfl⟩
 . exact⟨y,v,.inr rfl,.inr rfl,rfl⟩
theorem YqI{x y u v w m n:Int}(hm:m=x\/m=y)(hn:n=u\/n=v):opQ w m n∈crnF x y u v w 0:: [crnF x y u v w 1,crnF x y u v w 2,crnF x y u v w 3]:=by
 rcases hm with rfl|rfl <;> rcases hn with rfl|rfl
 . exact YGI
 . exact YGK _ YGI
 . exact YGK _ (YGK _ YGI)
 . exact YGK _ (YGK _ (YGK _ YGI))
def crnS(x y u v w:Int):Iv×Int:=YhY (crnF x y u v w 0) [crnF x y u v w 1,crnF x y u v w 2,crnF x y u v w 3]
theorem YuB{a b:Iv}{w:Int}(ha:a.1<=a.2)(hb:b.1<=b.2)(h0:¬(b.1<=0/\0<=b.2))(hw:w≠0/\w≠1/\w≠2):crnS a.1 a.2 b.1 b.2 w=YaH (rndB (divP a b).1) (rndB (divP a b).2):=by
 obtain⟨x,y⟩:=a
 obtain⟨u,v⟩:=b
 dsimp only at ha hb h0⊢
 have eo:∀m n,opQ w m n=divF (m,1) (n,1):=fun m n=>(if_neg hw.1).trans ((if_neg hw.2.1).trans (if_neg hw.2.2))
 have hn0:∀n,n=u\/n=v->n≠0:=fun n hn=>by omega
 have hpos:∀p∈crnF x y u v w 0:: [crnF x y u v w 1,crnF x y u v w 2,crnF x y u v w 3],0<p.2:=fun p hp=>by
   obtain⟨m,n,hm,hn,rfl⟩:=Yjf p hp
   have:=hn0 n hn
   rw[eo];show 0<1*n.natAbs;omega
 obtain⟨l1,l2⟩:=YuY _ _ hpos
 obtain⟨g1,g2⟩:=YuM _ _ hpos
 have hlp:=hpos _ l1
 have hgp:=hpos _ g1
 obtain⟨at1,at2⟩:=Yyq (a:=(x,y)) (b:=(u,v)) hb h0
 dsimp only at at1 at2
 have din:∀m n,(m=x\/m=y)->(n=u\/n=v)->(divP (x,y) (u,v)).1<=dnF m n/\ -(dnF (-m) n)<=(divP (x,y) (u,v)).2:=fun m n hm hn=>by
   have:=Yyr (a:=(x,y)) (b:=(u,v)) (x:=m) (y:=n) hb h0 (by dsimp only;omega) (by dsimp only;omega) (by dsimp only;omega) (by dsimp only;omega)
   exact⟨this.1,this.2.2⟩
 have low:rndT false (loQ (crnF x y u v w 0) [crnF x y u v w 1,crnF x y u v w 2,crnF x y u v w 3]).1 (loQ (crnF x y u v w 0) [crnF x y u v w 1,crnF x y u v w 2,crnF x y u v w 3]).2=(divP (x,y) (u,v)).1:=by
   show(loQ _ _).1/((loQ _ _).2:Int)=_
   apply Int.le_antisymm
   . have key:∀m n,(m=x\/m=y)->(n=u\/n=v)->(loQ (crnF x y u v w 0) [crnF x y u v w 1,crnF x y u v w 2,crnF x y u v w 3]).1/((loQ (crnF x y u v w 0) [crnF x y u v w 1,crnF x y u v w 2,crnF x y u v w 3]).2:Int)<=dnF m n:=fun m n hm hn=>by
       have hmem:=YqI (w:=w) hm hn
       have h:=l2 _ hmem
       have hp:=hpos _ hmem
       rw[eo]at h hp
       rw[<-(Yjk (m:=m) (hn0 n hn)).1]
       exact Ycc (by omega) (by omega) h
     rcases at1 with e|e|e|e <;> rw[e]
     . exact key x u (.inl rfl) (.inl rfl)
     . exact key x v (.inl rfl) (.inr rfl)
     . exact key y u (.inr rfl) (.inl rfl)
     . exact key y v (.inr rfl) (.inr rfl)
   . obtain⟨m,n,hm,hn,e⟩:=Yjf _ l1
     rw[e,eo,(Yjk (m:=m) (hn0 n hn)).1]
     exact(din m n hm hn).1
 have high:rndT true (hiQ (crnF x y u v w 0) [crnF x y u v w 1,crnF x y u v w 2,crnF x y u v w 3]).1 (hiQ (crnF x y u v w 0) [crnF x y u v w 1,crnF x y u v w 2,crnF x y u v w 3]).2=(divP (x,y) (u,v)).2:=by
   show -((-(hiQ _ _).1)/((hiQ _ _).2:Int))=_
   apply Int.le_antisymm
   . obtain⟨m,n,hm,hn,e⟩:=Yjf _ g1
     rw[e,eo,(Yjk (m:=m) (hn0 n hn)).2]
     exact(din m n hm hn).2
   . have key:∀m n,(m=x\/m=y)->(n=u\/n=v)-> -(dnF (-m) n)<= -((-(hiQ (crnF x y u v w 0) [crnF x y u v w 1,crnF x y u v w 2,crnF x y u v w 3]).1)/((hiQ (crnF x y u v w 0) [crnF x y u v w 1,crnF x y u v w 2,crnF x y u v w 3]).2:Int)):=fun m n hm hn=>by
       have hmem:=YqI (w:=w) hm hn
       have h:=g2 _ hmem
       have hp:=hpos _ hmem
       rw[eo]at h hp
       rw[<-(Yjk (m:=m) (hn0 n hn)).2]
       refine Int.neg_le_neg (Ycc (by omega) (by omega) ?_)
       unfold leQ at h
       rw[Int.neg_mul,Int.neg_mul];omega
     rcases at2 with e|e|e|e <;> rw[e]
     . exact key x u (.inl rfl) (.inl rfl)
     . exact key x v (.inl rfl) (.inr rfl)
     . exact key y u (.inr rfl) (.inl rfl)
     . exact key y v (.inr rfl) (.inr rfl)
 unfold crnS YhY rndF
 rw[low,high]
theorem YjX(up:Bool)(x:Int):rndF up x 1=rndB x:=by
 unfold rndF rndT;cases up <;> simp
theorem Yoc(s:Int):rndB s=if YaT s then(s,true)else(0,false):=by
 unfold rndB
 by_cases a: -4611686018427387904<=s/\s<=4611686018427387904
 . rw[if_pos a,if_pos (numOk_iff.2 a)]
 . rw[if_neg a,if_neg (fun h=>a (numOk_iff.1 h))]
theorem Yon(s t:Int):YaH (rndB s) (rndB t)=fitF s t:=by
 rw[Yoc,Yoc]
 unfold YaH fitF
 cases YaT s <;> cases YaT t <;> rfl
def twoF(a b:Iv)(w:Int):Iv×Int:=if ivE [a,b]≠0 then errI (ivE [a,b])else if w=3/\b.1<=0/\0<=b.2 then errI 9 else crnS a.1 a.2 b.1 b.2 w
theorem YAy(a b:Iv):twoF a b 0=addF a b:=by
 unfold twoF addF
 split
 . rfl
 . rename_i h
   obtain⟨⟨_,_,ha⟩,_,_,hb⟩:=ivE2 (by omega:ivE [a,b]=0)
   rw[if_neg (by omega)]
   have e:=Yfq (d:=1*1) (by decide) (a.1*((1:Nat):Int)+b.1*((1:Nat):Int)) [a.1*((1:Nat):Int)+b.2*((1:Nat):Int),a.2*((1:Nat):Int)+b.1*((1:Nat):Int),a.2*((1:Nat):Int)+b.2*((1:Nat):Int)]
   have e2:crnS a.1 a.2 b.1 b.2 0=_:=e
   rw[e2,Yfp]
   have e3:((1*1:Nat):Int)=1:=rfl
   rw[e3,YjX,YjX,Yon]
   have l:=Yhm (a.1*((1:Nat):Int)+b.1*((1:Nat):Int)) [a.1*((1:Nat):Int)+b.2*((1:Nat):Int),a.2*((1:Nat):Int)+b.1*((1:Nat):Int),a.2*((1:Nat):Int)+b.2*((1:Nat):Int)]
   have g:=YfN (a.1*((1:Nat):Int)+b.1*((1:Nat):Int)) [a.1*((1:Nat):Int)+b.2*((1:Nat):Int),a.2*((1:Nat):Int)+b.1*((1:Nat):Int),a.2*((1:Nat):Int)+b.2*((1:Nat):Int)]
   have c1:((1:Nat):Int)=1:=rfl
   simp only[YGQ,List.not_mem_nil,or_false,forall_eq_or_imp,forall_eq,c1,Int.mul_one]at l g⊢
   congr 1 <;> omega
theorem Yy0{a b:Iv}(h:ivE [a,b]=0):ivE [a,(-b.2, -b.1)]=0:=by
 obtain⟨⟨_,_,ha⟩,_,_,hb⟩:=ivE2 h
 rw[ivE,if_pos,if_pos]
 . simp only[List.all_cons,List.all_nil,YHE,YGA,decide_eq_true_eq];omega
 . simp only[List.all_cons,List.all_nil,YHE,YGA,numOk_iff];omega
theorem YAA(a b:Iv):twoF a b 1=subF a b:=by
 unfold twoF subF
 split
 . rfl
 . rename_i h
   have h0:ivE [a,b]=0:=by omega
   obtain⟨⟨_,_,ha⟩,_,_,hb⟩:=ivE2 h0
   rw[if_neg (by omega),addF,if_neg (by rw[Yy0 h0];decide)]
   have e:=Yfq (d:=1*1) (by decide) (a.1*((1:Nat):Int)+ -b.1*((1:Nat):Int)) [a.1*((1:Nat):Int)+ -b.2*((1:Nat):Int),a.2*((1:Nat):Int)+ -b.1*((1:Nat):Int),a.2*((1:Nat):Int)+ -b.2*((1:Nat):Int)]
   have e2:crnS a.1 a.2 b.1 b.2 1=_:=e
   rw[e2,Yfp]
   have e3:((1*1:Nat):Int)=1:=rfl
   rw[e3,YjX,YjX,Yon]
   have l:=Yhm (a.1*((1:Nat):Int)+ -b.1*((1:Nat):Int)) [a.1*((1:Nat):Int)+ -b.2*((1:Nat):Int),a.2*((1:Nat):Int)+ -b.1*((1:Nat):Int),a.2*((1:Nat):Int)+ -b.2*((1:Nat):Int)]
   have g:=YfN (a.1*((1:Nat):Int)+ -b.1*((1:Nat):Int)) [a.1*((1:Nat):Int)+ -b.2*((1:Nat):Int),a.2*((1:Nat):Int)+ -b.1*((1:Nat):Int),a.2*((1:Nat):Int)+ -b.2*((1:Nat):Int)]
   have c1:((1:Nat):Int)=1:=rfl
   simp only[YGQ,List.not_mem_nil,or_false,forall_eq_or_imp,forall_eq,c1,Int.mul_one]at l g⊢
   congr 1 <;> omega
theorem two_mul(a b:Iv):twoF a b 2=mulF a b:=by
 unfold twoF mulF
 split
 . rfl
 . rw[if_neg (by omega)]
   exact Yfq (d:=1*1) (by decide) (a.1*b.1) [a.1*b.2,a.2*b.1,a.2*b.2]
theorem YAz(a b:Iv):twoF a b 3=quoF a b:=by
 unfold twoF quoF
 split
 . rfl
 . rename_i h
   obtain⟨⟨_,_,ha⟩,_,_,hb⟩:=ivE2 (by omega:ivE [a,b]=0)
   split
   . rename_i h0
     rw[if_pos h0.2]
   . rename_i h0
     have h0:¬(b.1<=0/\0<=b.2):=fun hh=>h0 ⟨rfl,hh⟩
     rw[if_neg h0,YuB ha hb h0 (by decide)]
     unfold divP
     split <;> rfl
def v56:VF:=⟨37,[.cell 6 true 2,.tmp 7],(ZR [u1 3 .box [.tm 0],u1 4 .box [.tm 1],Zn 6,Zi 7 0] (ZR [Zt 9 2 3,Zt 10 2 4,u1 11 (.buildSlice 2 2 [(.int .i64 0),(.int .i64 0)] [(0,2),(2,2)]) [.tm 9,.tm 10],Zc 12 58 11,Zm 8 12] (.seq (ZR [Zm 13 8,Zq 14 .neq 13 0] (ZC 14 (ZR [u1 15 (.build [(.int .i64 0),(.int .i64 0)] []) [],Zm 16 8,Zs 2 6 15,Zm 7 16] .ret) .skip)) (.seq (ZR [Zm 17 2,Zq 18 .eql 17 3,Zm 19 18,Zj 20 19 true 0 4,Zh 21 19 true 1 20,u2 22 19 true (.cmp .leq) [.tm 21,.cn (.int .i64 0)],u1 23 .and [.tm 19,.tm 22],Zm 24 23,Zj 25 24 true 1 4,Zh 26 24 true 1 25,u2 27 24 true (.cmp .geq) [.tm 26,.cn (.int .i64 0)],u1 28 .and [.tm 24,.tm 27]] (ZC 28 (ZR [u1 29 (.build [(.int .i64 0),(.int .i64 0)] []) [],Zs 2 6 29,Zi 7 9] .ret) .skip)) (ZR [Zt 30 2 3,Zt 31 2 4,Zm 32 2,u1 33 (.call 88) [.tm 30,.tm 31,.tm 32],Zc 34 72 33,Ze 35 0 34,Ze 36 1 34,Zs 2 6 35,Zm 7 36] .ret)))))⟩
theorem YFR:Yf YGw Tryz.f56=some v56:=by kernel_rfl
def v32:VF:=⟨11,[.cell 4 true 2,.tmp 5],(ZR [u1 2 .box [.tm 0],u1 3 .box [.tm 1],Zn 4,Zi 5 0] (ZR [Zt 6 2 2,Zt 7 2 3,u1 8 (.call 56) [.tm 6,.tm 7,.cn (.int .i64 0)],Ze 9 0 8,Ze 10 1 8,Zs 2 4 9,Zm 5 10] .ret))⟩
theorem YFz:Yf YGw Tryz.f32=some v32:=by kernel_rfl
def v29:VF:=⟨11,[.cell 4 true 2,.tmp 5],(ZR [u1 2 .box [.tm 0],u1 3 .box [.tm 1],Zn 4,Zi 5 0] (ZR [Zt 6 2 2,Zt 7 2 3,u1 8 (.call 56) [.tm 6,.tm 7,.cn (.int .i64 1)],Ze 9 0 8,Ze 10 1 8,Zs 2 4 9,Zm 5 10] .ret))⟩
theorem YFw:Yf YGw Tryz.f29=some v29:=by kernel_rfl
def v45:VF:=⟨11,[.cell 4 true 2,.tmp 5],(ZR [u1 2 .box [.tm 0],u1 3 .box [.tm 1],Zn 4,Zi 5 0] (ZR [Zt 6 2 2,Zt 7 2 3,u1 8 (.call 56) [.tm 6,.tm 7,.cn (.int .i64 2)],Ze 9 0 8,Ze 10 1 8,Zs 2 4 9,Zm 5 10] .ret))⟩
theorem YFH:Yf YGw Tryz.f45=some v45:=by kernel_rfl
def v28:VF:=⟨11,[.cell 4 true 2,.tmp 5],(ZR [u1 2 .box [.tm 0],u1 3 .box [.tm 1],Zn 4,Zi 5 0] (ZR [Zt 6 2 2,Zt 7 2 3,u1 8 (.call 56) [.tm 6,.tm 7,.cn (.int .i64 3)],Ze 9 0 8,Ze 10 1 8,Zs 2 4 9,Zm 5 10] .ret))⟩
theorem YFv:Yf YGw Tryz.f28=some v28:=by kernel_rfl
def twoC:Ctr:={ alias:=false,of:=fun a=>match a with
 | [.agg [.int .i64 x,.int .i64 y],.agg [.int .i64 u,.int .i64 v],.int .i64 w]=> .pre (w=0\/w=1\/w=2\/w=3) (.fin (.tup [.agg (enc2 (twoF (x,y) (u,v) w).1),.int .i64 (twoF (x,y) (u,v) w).2]) [])
 |_=>noC}
def U3:Env:={ ct:=fun n=>match n with|58=>some ivlC|88=>some crnC|72=>some spanqC|_=>none,fn:=fun _=>none,meth:=fun _ _=>none}
theorem YxN:U3.ct 58=some ivlC:=rfl
theorem YxP:U3.ct 88=some crnC:=rfl
theorem YxO:U3.ct 72=some spanqC:=rfl
theorem U3_ok:Yq YGw U3:=by
 refine⟨fun f c h=>?_,fun f vf h=>?_,(fun _ _ _ h=>by cases h),by kernel_rfl,(fun _ h=>by cases h)⟩
 . simp only[U3]at h
   split at h
   . cases h;exact⟨Ysk,Tryz.f58,Tryz.func58,by kernel_rfl,by kernel_rfl⟩
   . cases h;exact⟨YC3,Tryz.f88,Tryz.func88,by kernel_rfl,by kernel_rfl⟩
   . cases h;exact⟨Yoo,Tryz.f72,Tryz.func72,by kernel_rfl,by kernel_rfl⟩
   . cases h
 . cases h
theorem YFd:twoC.ok YGw 56:=by
 refine Yb Tryz.func56 YFR U3_ok 300 twoC fun args k h=>⟨args,?_⟩
 simp only[twoC]at h
 split at h
 . rename_i x y u v w
   refine⟨by simp [leL,le],?_⟩
   obtain⟨hw,h⟩:=h
   have h:k (.tup [.agg (enc2 (twoF (x,y) (u,v) w).1),.int .i64 (twoF (x,y) (u,v) w).2]) []:=h
   dsimp only[v56,YxN,YxP,YxO,ivlC,crnC,spanqC,enc2,go_sem,reduceIte]
   simp only[Yd,YGu,YGt,reduceCtorEq,YGs]
   refine⟨by decide,[(x,y),(u,v)],⟨⟨rfl,rfl,fun k hk=>match k,hk with|0,_=>Ye [.int .i64 x,.int .i64 y] |1,_=>Ye [.int .i64 u,.int .i64 v]⟩,by simp⟩,fun he=>?_,fun he=>⟨fun hz=>?_,fun hz=>?_⟩⟩
   . rw[twoF,if_pos he]at h
     exact Yx (r:=errI (ivE [(x,y),(u,v)])) h
   . simp only[YGA,decide_eq_true_eq]at hz
     rw[twoF,if_neg (by omega),if_pos ⟨hz.1.1,hz.1.2,hz.2⟩]at h
     exact Yx (r:=errI 9) h
   . have hz':¬(w=3/\u<=0/\0<=v):=by
       intro hh
       have:(decide (w=3)&&decide (u<=0)&&decide (0<=v))=true:=by
         simp only[YGA,decide_eq_true_eq];exact⟨⟨hh.1,hh.2.1⟩,hh.2.2⟩
       rw[this]at hz;cases hz
     rw[twoF,if_neg (by omega),if_neg hz']at h
     obtain⟨⟨hx,hy,hxy⟩,hu,hv,huv⟩:=ivE2 he
     dsimp only at hx hy hxy hu hv huv
     have hz2:¬w=0->¬w=1->¬w=2->¬u=0/\¬v=0:=fun a b c=>by omega
     refine⟨⟨⟨hx,hy⟩,⟨hu,hv⟩,hz2⟩,crnF x y u v w 0,[crnF x y u v w 1,crnF x y u v w 2,crnF x y u v w 3],⟨⟨rfl,rfl,fun k hk=>match k,hk with
       |0,_=>Ye (encF false (crnF x y u v w 0)) |1,_=>Ye (encF false (crnF x y u v w 1)) |2,_=>Ye (encF false (crnF x y u v w 2)) |3,_=>Ye (encF false (crnF x y u v w 3))⟩,by simp,fun p hp=>?_⟩,by decide,by decide,?_⟩
     . obtain⟨m,n,hm,hn,rfl⟩:=Yjf p hp
       refine Ywl ?_ ?_ fun a b c=>?_
       . rcases hm with rfl|rfl <;> assumption
       . rcases hn with rfl|rfl <;> assumption
       . have:=hz2 a b c
         rcases hn with rfl|rfl
         . exact this.1
         . exact this.2
     . exact Yx (r:=crnS x y u v w) h
 . exact h.1.elim
def U4:Env:={ ct:=fun n=>match n with|56=>some twoC|_=>none,fn:=fun _=>none,meth:=fun _ _=>none}
theorem YiU:U4.ct 56=some twoC:=rfl
theorem Yuj:Yq YGw U4:=by
 refine⟨fun f c h=>?_,fun f vf h=>?_,(fun _ _ _ h=>by cases h),by kernel_rfl,(fun _ h=>by cases h)⟩
 . simp only[U4]at h
   split at h
   . cases h;exact⟨YFd,Tryz.f56,Tryz.func56,by kernel_rfl,by kernel_rfl⟩
   . cases h
 . cases h
theorem Ysj:addC.ok YGw 32:=by
 refine Yb Tryz.func32 YFz Yuj 300 addC fun args k h=>⟨args,?_⟩
 simp only[addC,iv2C]at h
 split at h
 . rename_i x y u v
   refine⟨by simp [leL,le],?_⟩
   have h:k (.tup [.agg (enc2 (addF (x,y) (u,v)).1),.int .i64 (addF (x,y) (u,v)).2]) []:=h
   dsimp only[v32,YiU,twoC,enc2,go_sem,reduceIte]
   simp only[Yd,YGu,YGt,reduceCtorEq,YGs]
   rw[<-YAy]at h
   exact⟨by decide,by decide,by decide,Yx (r:=twoF (x,y) (u,v) 0) h⟩
 . exact h.1.elim
theorem YAf:subC.ok YGw 29:=by
 refine Yb Tryz.func29 YFw Yuj 300 subC fun args k h=>⟨args,?_⟩
 simp only[subC,iv2C]at h
 split at h
 . rename_i x y u v
   refine⟨by simp [leL,le],?_⟩
   have h:k (.tup [.agg (enc2 (subF (x,y) (u,v)).1),.int .i64 (subF (x,y) (u,v)).2]) []:=h
   dsimp only[v29,YiU,twoC,enc2,go_sem,reduceIte]
   simp only[Yd,YGu,YGt,reduceCtorEq,YGs]
   rw[<-YAA]at h
   exact⟨by decide,by decide,by decide,Yx (r:=twoF (x,y) (u,v) 1) h⟩
 . exact h.1.elim
theorem Yz9:mulC.ok YGw 45:=by
 refine Yb Tryz.func45 YFH Yuj 300 mulC fun args k h=>⟨args,?_⟩
 simp only[mulC,iv2C]at h
 split at h
 . rename_i x y u v
   refine⟨by simp [leL,le],?_⟩
   have h:k (.tup [.agg (enc2 (mulF (x,y) (u,v)).1),.int .i64 (mulF (x,y) (u,v)).2]) []:=h
   dsimp only[v45,YiU,twoC,enc2,go_sem,reduceIte]
   simp only[Yd,YGu,YGt,reduceCtorEq,YGs]
   rw[<-two_mul]at h
   exact⟨by decide,by decide,by decide,Yx (r:=twoF (x,y) (u,v) 2) h⟩
 . exact h.1.elim
theorem Ysl:quoC.ok YGw 28:=by
 refine Yb Tryz.func28 YFv Yuj 300 quoC fun args k h=>⟨args,?_⟩
 simp only[quoC,iv2C]at h
 split at h
 . rename_i x y u v
   refine⟨by simp [leL,le],?_⟩
   have h:k (.tup [.agg (enc2 (quoF (x,y) (u,v)).1),.int .i64 (quoF (x,y) (u,v)).2]) []:=h
   dsimp only[v28,YiU,twoC,enc2,go_sem,reduceIte]
   simp only[Yd,YGu,YGt,reduceCtorEq,YGs]
   rw[<-YAz]at h
   exact⟨by decide,by decide,by decide,Yx (r:=twoF (x,y) (u,v) 3) h⟩
 . exact h.1.elim
def v21:VF:=⟨15,[.tmp 6],(ZR [u1 6 .mov [.cn (.bool false)]] (ZR [Zm 7 0,Zm 8 1,Zr 9 .geq 7 8,Zm 10 9,Zg 11 10 true 0,Zg 12 10 true 2,u2 13 10 true (.cmp .leq) [.tm 11,.tm 12],u1 14 .and [.tm 10,.tm 13],Zm 6 14] .ret))⟩
theorem YFp:Yf YGw Tryz.f21=some v21:=by kernel_rfl
def v8:VF:=⟨63,[.tmp 2],(ZR [u1 1 .box [.tm 0],Zi 2 0] (.seq (ZR [Za 3 0 1,Zf 4 1 3,Zq 5 .lss 4 1,Zm 6 5,Zj 7 6 false 0 1,Zh 8 6 false 1 7,u2 9 6 false (.cmp .gtr) [.tm 8,.cn (.int .i64 3)],u1 10 .or [.tm 6,.tm 9],Zm 11 10,Zj 12 11 false 1 1,Zh 13 11 false 1 12,u2 14 11 false (.call 21) [.tm 13,.cn (.int .i64 1000),.cn (.int .i64 500000)],u2 15 11 false .not [.tm 14],u1 16 .or [.tm 11,.tm 15],Zm 17 16,Zj 18 17 false 2 1,Zh 19 17 false 1 18,u2 20 17 false (.call 21) [.tm 19,.cn (.int .i64 1000),.cn (.int .i64 500000)],u2 21 17 false .not [.tm 20],u1 22 .or [.tm 17,.tm 21]] (ZC 22 (ZR [Zi 2 2] .ret) .skip)) (.seq (ZR [Za 23 0 1,Zf 24 1 23,Zq 25 .eql 24 3,Zm 26 25,Zj 27 26 true 2 1,Zh 28 26 true 1 27,Zj 29 26 true 1 1,Zh 30 26 true 1 29,u2 31 26 true (.cmp .geq) [.tm 28,.tm 30],u1 32 .and [.tm 26,.tm 31],Zm 33 32,Zj 34 33 false 0 1,Zh 35 33 false 1 34,u2 36 33 false (.cmp .neq) [.tm 35,.cn (.int .i64 3)],Zg 37 33 false 36,Zj 38 37 true 2 1,Zh 39 37 true 1 38,Zj 40 37 true 1 1,Zh 41 37 true 1 40,u2 42 37 true (.cmp .neq) [.tm 39,.tm 41],u2 43 33 false .and [.tm 37,.tm 42],u1 44 .or [.tm 33,.tm 43],Zm 45 44,Zj 46 45 false 3 1,Zh 47 45 false 1 46,Zj 48 45 false 1 1,Zh 49 45 false 1 48,u2 50 45 false (.ari .mul) [.cn (.int .i64 4),.tm 49],u2 51 45 false (.call 21) [.tm 47,.cn (.int .i64 1),.tm 50],u2 52 45 false .not [.tm 51],u1 53 .or [.tm 45,.tm 52],Zm 54 53,Zj 55 54 false 4 1,Zh 56 54 false 1 55,Zj 57 54 false 1 1,Zh 58 54 false 1 57,u2 59 54 false (.ari .mul) [.cn (.int .i64 4),.tm 58],u2 60 54 false (.call 21) [.tm 56,.cn (.int .i64 1),.tm 59],u2 61 54 false .not [.tm 60],u1 62 .or [.tm 54,.tm 61]] (ZC 62 (ZR [Zi 2 2] .ret) .skip)) (ZR [Zi 2 0] .ret))))⟩
theorem v8_is:Yf YGw Tryz.f8=some v8:=by kernel_rfl
def v30:VF:=⟨20,[.cell 4 true 2,.tmp 5],(ZR [u1 2 .box [.tm 0],Zn 4,Zi 5 0] (.seq (ZR [Za 6 0 2,Zf 7 1 6,Zm 8 1,u1 9 (.call 21) [.tm 7,.cn (.int .i64 1),.tm 8],u1 10 .not [.tm 9],Zm 11 10,Zj 12 11 false 1 2,Zh 13 11 false 1 12,Zg 14 11 false 1,u2 15 11 false (.call 21) [.tm 13,.cn (.int .i64 1),.tm 14],u2 16 11 false .not [.tm 15],u1 17 .or [.tm 11,.tm 16]] (ZC 17 (ZR [u1 18 (.build [(.int .i64 0),(.int .i64 0)] []) [],Zs 2 4 18,Zi 5 7] .ret) .skip)) (ZR [Zt 19 2 2,Zs 2 4 19,Zi 5 0] .ret)))⟩
theorem YFx:Yf YGw Tryz.f30=some v30:=by kernel_rfl
def v46:VF:=⟨6,[.cell 2 true 2],(ZR [Zn 2] (ZR [Zm 3 0,Zm 4 0,u1 5 (.build [(.int .i64 0),(.int .i64 0)] [(0,1),(1,1)]) [.tm 3,.tm 4],Zs 2 2 5] .ret))⟩
theorem YFI:Yf YGw Tryz.f46=some v46:=by kernel_rfl
def v19:VF:=⟨66,[.cell 2 true 2,.cell 3 true 2],(ZR [u1 1 .box [.tm 0],Zn 2,Zn 3] (.seq (.draw [(4,.box [(.int .i64 0),(.int .i64 0)])] [Zy 17 1 1,Zv 18 1 17,Zy 20 1 1,Zv 21 1 20,w1 19 (.call 46) [.tm 18],w1 22 (.call 46) [.tm 21],Zz 23 45 19 22,Zu 16 23,ZE 24 0 16,ZE 25 1 16,ZS 2 4 24,Zu 5 25]) (ZR [Zt 27 2 4,u1 28 (.call 47) [.tm 27,.cn (.int .i64 575),.cn (.int .i64 1000)],Zm 26 28,Ze 29 0 26,Ze 30 1 26,Zn 6,Zs 2 6 29,Zm 7 30] (.seq (.draw [(8,.box [(.int .i64 0),(.int .i64 0)])] [Zy 32 3 1,Zv 33 1 32,Zy 35 4 1,Zv 36 1 35,w1 34 (.call 46) [.tm 33],w1 37 (.call 46) [.tm 36],Zz 38 45 34 37,Zu 31 38,ZE 39 0 31,ZE 40 1 31,ZS 2 8 39,Zu 9 40]) (ZR [Zt 42 2 8,u1 43 (.call 48) [.tm 42,.cn (.int .i64 2)],Zm 41 43,Ze 44 0 41,Ze 45 1 41,Zn 10,Zs 2 10 44,Zm 11 45] (ZR [Zt 47 2 6,Zt 48 2 10,Zd 49 28 47 48,Zm 46 49,Ze 50 0 46,Ze 51 1 46,Zn 12,Zs 2 12 50,Zm 13 51] (.seq (ZR [Za 52 0 1,Zf 53 1 52,Zq 54 .eql 53 2] (ZC 54 (ZR [Zt 55 2 12,u1 56 (.build [(.int .i64 0),(.int .i64 0)] []) [],Zs 2 2 55,Zs 2 3 56] .ret) .skip)) (ZR [Za 58 2 1,Zf 59 1 58,Zc 60 46 59,u1 61 (.call 47) [.tm 60,.cn (.int .i64 30665),.cn (.int .i64 100000)],Zm 57 61,Ze 62 0 57,Ze 63 1 57,Zn 14,Zs 2 14 62,Zm 15 63] (.seq (.draw [] [Zw 64 2 12,Zw 65 2 14,⟨Zs 2 2 64,[.tm 14]⟩,ZS 2 3 65]) .ret)))))))))⟩
theorem YFn:Yf YGw Tryz.f19=some v19:=by kernel_rfl
def v6:VF:=⟨22,[.cell 2 true 2,.cell 3 true 2,.tmp 4],(ZR [u1 1 .box [.tm 0],Zn 2,Zn 3,Zi 4 0] (ZR [Zt 8 5 1,Zc 9 8 8,Zm 5 9] (.seq (ZR [Zm 10 5,Zq 11 .neq 10 0] (ZC 11 (ZR [u1 12 (.build [(.int .i64 0),(.int .i64 0)] []) [],u1 13 (.build [(.int .i64 0),(.int .i64 0)] []) [],Zm 14 5,Zs 2 2 12,Zs 2 3 13,Zm 4 14] .ret) .skip)) (ZR [Zt 16 5 1,Zc 17 19 16,Zm 15 17,Ze 18 0 15,Ze 19 1 15,Zn 6,Zn 7,Zs 2 6 18,Zs 2 7 19] (.seq (.draw [] [Zw 20 2 6,Zw 21 2 7,⟨Zs 2 2 20,[.tm 7]⟩,ZS 2 3 21,w1 4 .mov [.cn (.int .i64 0)]]) .ret)))))⟩
theorem v6_is:Yf YGw Tryz.f6=some v6:=by kernel_rfl
def v55:VF:=⟨6,[.tmp 2],(ZR [u1 1 .box [.tm 0],Zi 2 0] (.seq (ZR [Za 3 0 1,Zf 4 1 3,Zq 5 .eql 4 2] (ZC 5 (ZR [Zi 2 250] .ret) .skip)) (ZR [Zi 2 500] .ret)))⟩
theorem YFQ:Yf YGw Tryz.f55=some v55:=by kernel_rfl
def v27:VF:=⟨80,[.cell 10 true 2,.cell 11 true 2,.tmp 12],(ZR [u1 5 .box [.tm 0],u1 6 .box [.tm 1],Zn 10,Zn 11,Zi 12 0] (ZR [Zt 21 5 5,Zc 22 8 21,Zm 13 22] (.seq (ZR [Zm 23 13,Zq 24 .neq 23 0] (ZC 24 (ZR [u1 25 (.build [(.int .i64 0),(.int .i64 0)] []) [],u1 26 (.build [(.int .i64 0),(.int .i64 0)] []) [],Zm 27 13,Zs 2 10 25,Zs 2 11 26,Zm 12 27] .ret) .skip)) (ZR [Zm 29 4,Zc 30 54 29,Zm 28 30,Ze 31 0 28,Ze 32 1 28,Zn 14,Zs 2 14 31,Zm 13 32] (.seq (ZR [Zm 33 13,Zq 34 .neq 33 0,Zm 35 34,Zj 36 35 false 0 6,Zh 37 35 false 1 36,Zg 38 35 false 2,Zg 39 35 false 3,u2 40 35 false (.call 21) [.tm 37,.tm 38,.tm 39],u2 41 35 false .not [.tm 40],u1 42 .or [.tm 35,.tm 41],Zm 43 42,Zj 44 43 false 1 6,Zh 45 43 false 1 44,Zg 46 43 false 2,Zg 47 43 false 3,u2 48 43 false (.call 21) [.tm 45,.tm 46,.tm 47],u2 49 43 false .not [.tm 48],u1 50 .or [.tm 43,.tm 49],Zm 51 50,Zj 52 51 false 0 6,Zh 53 51 false 1 52,Zj 54 51 false 1 6,Zh 55 51 false 1 54,u2 56 51 false (.cmp .gtr) [.tm 53,.tm 55],u1 57 .or [.tm 51,.tm 56]] (ZC 57 (ZR [u1 58 (.build [(.int .i64 0),(.int .i64 0)] []) [],u1 59 (.build [(.int .i64 0),(.int .i64 0)] []) [],Zs 2 10 58,Zs 2 11 59,Zi 12 2] .ret) .skip)) (.seq (.draw [(15,.box [(.int .i64 0),(.int .i64 0)])] [Zw 61 2 14,Zw 62 5 5,w1 63 (.call 55) [.tm 62],w1 64 (.call 47) [.tm 61,.tm 63,.cn (.int .i64 1)],Zu 60 64,ZE 65 0 60,ZE 66 1 60,ZS 2 15 65,Zu 16 66]) (ZR [Zt 68 5 5,Zc 69 19 68,Zm 67 69,Ze 70 0 67,Ze 71 1 67,Zn 17,Zn 18,Zs 2 17 70,Zs 2 18 71] (ZR [Zt 73 2 17,Zt 74 2 18,Zd 75 32 73 74,Zm 72 75,Ze 76 0 72,Ze 77 1 72,Zn 19,Zs 2 19 76,Zm 20 77] (.seq (.draw [] [Zw 78 2 15,Zw 79 2 19,⟨Zs 2 10 78,[.tm 19]⟩,ZS 2 11 79,w1 12 .mov [.cn (.int .i64 0)]]) .ret)))))))))⟩
theorem YFu:Yf YGw Tryz.f27=some v27:=by kernel_rfl
def v10:VF:=⟨41,[.cell 6 true 2,.tmp 7],(ZR [u1 3 .box [.tm 0],u1 4 .box [.tm 1],Zn 6,Zi 7 0] (ZR [Zt 14 5 3,Zt 15 2 4,Zm 16 2,u1 17 (.call 27) [.tm 14,.tm 15,.cn (.int .i64 1000),.cn (.int .i64 20000000),.tm 16],Zm 13 17,Ze 18 0 13,Ze 19 1 13,Ze 20 2 13,Zn 8,Zn 9,Zs 2 8 18,Zs 2 9 19,Zm 10 20] (.seq (ZR [Zm 21 10,Zq 22 .neq 21 0] (ZC 22 (ZR [u1 23 (.build [(.int .i64 0),(.int .i64 0)] []) [],Zm 24 10,Zs 2 6 23,Zm 7 24] .ret) .skip)) (ZR [Zt 26 2 8,Zt 27 2 4,Zd 28 28 26 27,Zm 25 28,Ze 29 0 25,Ze 30 1 25,Zn 11,Zs 2 11 29,Zm 12 30] (ZR [Zt 32 2 11,Zt 33 2 9,Zd 34 29 32 33,Zm 31 34,Ze 35 0 31,Ze 36 1 31,Zs 2 11 35] (ZR [Zt 37 2 11,u1 38 (.call 30) [.tm 37,.cn (.int .i64 12000000)],Ze 39 0 38,Ze 40 1 38,Zs 2 6 39,Zm 7 40] .ret))))))⟩
theorem YFg:Yf YGw Tryz.f10=some v10:=by kernel_rfl
def v12:VF:=⟨41,[.cell 6 true 2,.tmp 7],(ZR [u1 3 .box [.tm 0],u1 4 .box [.tm 1],Zn 6,Zi 7 0] (ZR [Zt 14 5 3,Zt 15 2 4,Zm 16 2,u1 17 (.call 27) [.tm 14,.tm 15,.cn (.int .i64 1),.cn (.int .i64 12000000),.tm 16],Zm 13 17,Ze 18 0 13,Ze 19 1 13,Ze 20 2 13,Zn 8,Zn 9,Zs 2 8 18,Zs 2 9 19,Zm 10 20] (.seq (ZR [Zm 21 10,Zq 22 .neq 21 0] (ZC 22 (ZR [u1 23 (.build [(.int .i64 0),(.int .i64 0)] []) [],Zm 24 10,Zs 2 6 23,Zm 7 24] .ret) .skip)) (ZR [Zt 26 2 4,Zt 27 2 9,Zd 28 32 26 27,Zm 25 28,Ze 29 0 25,Ze 30 1 25,Zn 11,Zs 2 11 29,Zm 12 30] (ZR [Zt 32 2 8,Zt 33 2 11,Zd 34 28 32 33,Zm 31 34,Ze 35 0 31,Ze 36 1 31,Zs 2 11 35] (ZR [Zt 37 2 11,u1 38 (.call 30) [.tm 37,.cn (.int .i64 200000000)],Ze 39 0 38,Ze 40 1 38,Zs 2 6 39,Zm 7 40] .ret))))))⟩
theorem YFi:Yf YGw Tryz.f12=some v12:=by kernel_rfl
def v14:VF:=⟨40,[.cell 8 true 2,.tmp 9],(ZR [u1 4 .box [.tm 0],u1 5 .box [.tm 1],Zn 8,Zi 9 0] (ZR [Zt 14 5 4,Zt 15 2 5,Zm 16 2,u1 17 (.call 10) [.tm 14,.tm 15,.tm 16],Zm 13 17,Ze 18 0 13,Ze 19 1 13,Zn 10,Zs 2 10 18,Zm 11 19] (.seq (ZR [Zm 20 11,Zq 21 .neq 20 0] (ZC 21 (ZR [u1 22 (.build [(.int .i64 0),(.int .i64 0)] []) [],Zm 23 11,Zs 2 8 22,Zm 9 23] .ret) .skip)) (ZR [Zt 25 5 4,Zt 26 2 5,Zm 27 3,u1 28 (.call 10) [.tm 25,.tm 26,.tm 27],Zm 24 28,Ze 29 0 24,Ze 30 1 24,Zn 12,Zs 2 12 29,Zm 11 30] (.seq (ZR [Zm 31 11,Zq 32 .neq 31 0] (ZC 32 (ZR [u1 33 (.build [(.int .i64 0),(.int .i64 0)] []) [],Zm 34 11,Zs 2 8 33,Zm 9 34] .ret) .skip)) (ZR [Zt 35 2 10,Zt 36 2 12,Zd 37 34 35 36,Ze 38 0 37,Ze 39 1 37,Zs 2 8 38,Zm 9 39] .ret))))))⟩
theorem YFk:Yf YGw Tryz.f14=some v14:=by kernel_rfl
def v13:VF:=⟨40,[.cell 8 true 2,.tmp 9],(ZR [u1 4 .box [.tm 0],u1 5 .box [.tm 1],Zn 8,Zi 9 0] (ZR [Zt 14 5 4,Zt 15 2 5,Zm 16 2,u1 17 (.call 9) [.tm 14,.tm 15,.tm 16],Zm 13 17,Ze 18 0 13,Ze 19 1 13,Zn 10,Zs 2 10 18,Zm 11 19] (.seq (ZR [Zm 20 11,Zq 21 .neq 20 0] (ZC 21 (ZR [u1 22 (.build [(.int .i64 0),(.int .i64 0)] []) [],Zm 23 11,Zs 2 8 22,Zm 9 23] .ret) .skip)) (ZR [Zt 25 5 4,Zt 26 2 5,Zm 27 3,u1 28 (.call 9) [.tm 25,.tm 26,.tm 27],Zm 24 28,Ze 29 0 24,Ze 30 1 24,Zn 12,Zs 2 12 29,Zm 11 30] (.seq (ZR [Zm 31 11,Zq 32 .neq 31 0] (ZC 32 (ZR [u1 33 (.build [(.int .i64 0),(.int .i64 0)] []) [],Zm 34 11,Zs 2 8 33,Zm 9 34] .ret) .skip)) (ZR [Zt 35 2 10,Zt 36 2 12,Zd 37 33 35 36,Ze 38 0 37,Ze 39 1 37,Zs 2 8 38,Zm 9 39] .ret))))))⟩
theorem YFj:Yf YGw Tryz.f13=some v13:=by kernel_rfl
def G0:Env:={ ct:=fun _=>none,fn:=fun _=>none,meth:=fun _ _=>none}
theorem YwP:Yq YGw G0:=by
 refine⟨fun f c h=>?_,fun f vf h=>?_,(fun _ _ _ h=>by cases h),by kernel_rfl,(fun _ h=>by cases h)⟩
 . cases h
 . cases h
theorem Ywx:inC.ok YGw 21:=by
 refine Yb Tryz.func21 YFp YwP 100 inC fun args k h=>?_
 simp only[inC]at h
 split at h
 . rename_i n a b
   refine⟨[.int .i64 n,.int .i64 a,.int .i64 b],by simp [leL,le],?_⟩
   dsimp only[v21,go_sem,reduceIte]
   simp only[Yd,YGu,YGt,reduceCtorEq,YGs]
   exact YW h
 . exact h.1.elim
def G1:Env:={ ct:=fun n=>match n with|21=>some inC|_=>none,fn:=fun _=>none,meth:=fun _ _=>none}
theorem Ypa:G1.ct 21=some inC:=rfl
theorem YB4:Yq YGw G1:=by
 refine⟨fun f c h=>?_,fun f vf h=>?_,(fun _ _ _ h=>by cases h),by kernel_rfl,(fun _ h=>by cases h)⟩
 . simp only[G1]at h
   split at h
   . cases h;exact⟨Ywx,Tryz.f21,Tryz.func21,by kernel_rfl,by kernel_rfl⟩
   . cases h
 . cases h
theorem Yyh(a b c d e:Int):chkB ⟨a,b,c,d,e⟩=if((decide (a<1) || decide (3<a) || !inF b 1000 500000|| !inF c 1000 500000) || (decide (a=3)&&decide (b<=c) || !decide (a=3)&& !decide (c=b) || !inF d 1 (IntKind.i64.wrap (4*b)) || !inF e 1 (IntKind.i64.wrap (4*b))))=true then 2 else 0:=by
 unfold chkB YlG
 dsimp only
 have h1:inF a 1 3=(!decide (a<1)&& !decide (3<a)):=by
   unfold inF
   rw[YHK,YGA,YGA,decide_eq_true_eq,decide_eq_true_eq,YGP,YGP,decide_eq_false_iff_not,decide_eq_false_iff_not]
   omega
 have h2:decide (c<b)= !decide (b<=c):=by
   rw[YHK,decide_eq_true_eq,YGP,decide_eq_false_iff_not]
   omega
 rw[h1,h2]
 generalize inF b 1000 500000=p1
 generalize inF c 1000 500000=p2
 generalize inF d 1 (IntKind.i64.wrap (4*b))=p3
 generalize inF e 1 (IntKind.i64.wrap (4*b))=p4
 generalize decide (a<1)=q1
 generalize decide (3<a)=q2
 generalize decide (b<=c)=q3
 generalize decide (c=b)=q4
 by_cases h3:a=3
 . rw[if_pos h3,decide_eq_true h3]
   cases p1 <;> cases p2 <;> cases p3 <;> cases p4 <;> cases q1 <;> cases q2 <;> cases q3 <;> cases q4 <;> rfl
 . rw[if_neg h3,decide_eq_false h3]
   cases p1 <;> cases p2 <;> cases p3 <;> cases p4 <;> cases q1 <;> cases q2 <;> cases q3 <;> cases q4 <;> rfl
theorem YmA:chkBC.ok YGw 8:=by
 refine Yb Tryz.func8 v8_is YB4 300 chkBC fun args k h=>?_
 simp only[chkBC]at h
 split at h
 . rename_i a b c d e
   refine⟨[.agg [.int .i64 a,.int .i64 b,.int .i64 c,.int .i64 d,.int .i64 e]],by simp [leL,le],?_⟩
   dsimp only[v8,Ypa,inC,go_sem,reduceIte]
   simp only[Yd,YGu,YGt,reduceCtorEq,YGs]
   rw[Yyh]at h
   refine⟨fun hc=>?_,fun hc=>⟨fun h1 h2=>by rw[h1,decide_eq_false h2];rfl,fun hd=>?_,fun hd=>?_⟩⟩
   . rw[hc,Bool.true_or,if_pos rfl]at h;exact Yh h
   . rw[hc,hd,YHv,if_pos rfl]at h;exact Yh h
   . rw[hc,hd,YHv,if_neg (by decide)]at h;exact Yh h
 . exact h.1.elim
def fitRC:Ctr:={ alias:=false,of:=fun l=>match l with
 | [.agg [.int .i64 lo,.int .i64 hi],.int .i64 most]=> .fin (.tup [.agg (enc2 (fitR (lo,hi) most).1),.int .i64 (fitR (lo,hi) most).2]) []
 |_=>noC}
theorem YEV:fitRC.ok YGw 30:=by
 refine Yb Tryz.func30 YFx YB4 200 fitRC fun args k h=>?_
 simp only[fitRC]at h
 split at h
 . rename_i lo hi most
   refine⟨[.agg [.int .i64 lo,.int .i64 hi],.int .i64 most],by simp [leL,le],?_⟩
   dsimp only[v30,Ypa,inC,go_sem,reduceIte]
   simp only[Yd,YGu,YGt,reduceCtorEq,YGs]
   have hf:(inF lo 1 most&&inF hi 1 most)= !(!inF lo 1 most|| !inF hi 1 most):=by cases inF lo 1 most <;> cases inF hi 1 most <;> rfl
   unfold fitR at h
   dsimp only at h
   rw[hf]at h
   refine⟨fun hc=>?_,fun hc=>?_⟩
   . rw[hc,if_neg (by decide)]at h;exact Y1 (p:=(0,0)) h
   . rw[hc,if_pos (by decide)]at h;exact Y1 (p:=(lo,hi)) h
 . exact h.1.elim
theorem YEW:nivC.ok YGw 46:=by
 refine Yb Tryz.func46 YFI YwP 100 nivC fun args k h=>?_
 simp only[nivC]at h
 split at h
 . rename_i n
   refine⟨[.int .i64 n],by simp [leL,le],?_⟩
   dsimp only[v46,go_sem,reduceIte]
   simp only[Yd,YGu,YGt,reduceCtorEq,YGs]
   exact YiX h
 . exact h.1.elim
def G2:Env:={ ct:=fun n=>match n with|45=>some mulC|47=>some sclC|48=>some rootC|28=>some quoC|46=>some nivC|_=>none,fn:=fun _=>none,meth:=fun _ _=>none}
theorem YwR:G2.ct 45=some mulC:=rfl
theorem YwT:G2.ct 47=some sclC:=rfl
theorem YwU:G2.ct 48=some rootC:=rfl
theorem YwQ:G2.ct 28=some quoC:=rfl
theorem YwS:G2.ct 46=some nivC:=rfl
theorem G2_ok:Yq YGw G2:=by
 refine⟨fun f c h=>?_,fun f vf h=>?_,(fun _ _ _ h=>by cases h),by kernel_rfl,(fun _ h=>by cases h)⟩
 . simp only[G2]at h
   split at h
   . cases h;exact⟨Yz9,Tryz.f45,Tryz.func45,by kernel_rfl,by kernel_rfl⟩
   . cases h;exact⟨Ysr,Tryz.f47,Tryz.func47,by kernel_rfl,by kernel_rfl⟩
   . cases h;exact⟨YvA,Tryz.f48,Tryz.func48,by kernel_rfl,by kernel_rfl⟩
   . cases h;exact⟨Ysl,Tryz.f28,Tryz.func28,by kernel_rfl,by kernel_rfl⟩
   . cases h;exact⟨YEW,Tryz.f46,Tryz.func46,by kernel_rfl,by kernel_rfl⟩
   . cases h
 . cases h
theorem Ywy:corC.ok YGw 19:=by
 refine Yb Tryz.func19 YFn G2_ok 600 corC fun args k h=>?_
 simp only[corC]at h
 split at h
 . rename_i a b c d e
   obtain⟨hchk,h⟩:=h
   refine⟨[.agg [.int .i64 a,.int .i64 b,.int .i64 c,.int .i64 d,.int .i64 e]],by simp [leL,le],?_⟩
   dsimp only[v19,YwR,YwT,YwU,YwQ,YwS,nivC,mulC,sclC,rootC,quoC,iv2C,enc2,go_sem,reduceIte]
   simp only[Yd,YGu,YGt,reduceCtorEq,YGs]
   have h:k (.tup [.agg (enc2 (YcY ⟨a,b,c,d,e⟩)),.agg (enc2 (endF ⟨a,b,c,d,e⟩))]) []:=h
   refine⟨by decide,by decide,by decide,by decide,by decide,by decide,by decide,by decide,by decide,by decide,fun hc=>?_,fun hc=>?_⟩
   . rw[endF,if_pos hc]at h;exact YiV h
   . rw[endF,if_neg hc]at h;exact⟨by decide,by decide,YiV h⟩
 . exact h.1.elim
def G3:Env:={ ct:=fun n=>match n with|8=>some chkBC|19=>some corC|_=>none,fn:=fun _=>none,meth:=fun _ _=>none}
theorem YB5:G3.ct 8=some chkBC:=rfl
theorem YwV:G3.ct 19=some corC:=rfl
theorem G3_ok:Yq YGw G3:=by
 refine⟨fun f c h=>?_,fun f vf h=>?_,(fun _ _ _ h=>by cases h),by kernel_rfl,(fun _ h=>by cases h)⟩
 . simp only[G3]at h
   split at h
   . cases h;exact⟨YmA,Tryz.f8,Tryz.func8,by kernel_rfl,by kernel_rfl⟩
   . cases h;exact⟨Ywy,Tryz.f19,Tryz.func19,by kernel_rfl,by kernel_rfl⟩
   . cases h
 . cases h
theorem YES:crsC.ok YGw 6:=by
 refine Yb Tryz.func6 v6_is G3_ok 200 crsC fun args k h=>?_
 simp only[crsC]at h
 split at h
 . rename_i a b c d e
   refine⟨[.agg [.int .i64 a,.int .i64 b,.int .i64 c,.int .i64 d,.int .i64 e]],by simp [leL,le],?_⟩
   dsimp only[v6,YB5,YwV,chkBC,corC,enc2,go_sem,reduceIte]
   simp only[Yd,YGu,YGt,reduceCtorEq,YGs]
   refine⟨fun hc=>?_,fun hc=>⟨hc,by decide,by decide,?_⟩⟩
   . rw[if_neg hc]at h;exact Yev (p:=(0,0)) (q:=(0,0)) h
   . rw[if_pos hc]at h
     exact Yev h
 . exact h.1.elim
def partC:Ctr:={ alias:=false,of:=fun l=>match l with
 | [.agg [.int .i64 a,.int .i64 b,.int .i64 c,.int .i64 d,.int .i64 e]]=> .fin (.int .i64 (Yd9 ⟨a,b,c,d,e⟩)) []
 |_=> .pre False (.fin (.int .i64 0) [])}
theorem YAe:partC.ok YGw 55:=by
 refine Yb Tryz.func55 YFQ YwP 100 partC fun args k h=>?_
 simp only[partC]at h
 split at h
 . rename_i a b c d e
   refine⟨[.agg [.int .i64 a,.int .i64 b,.int .i64 c,.int .i64 d,.int .i64 e]],by simp [leL,le],?_⟩
   dsimp only[v55,go_sem,reduceIte]
   simp only[Yd,YGu,YGt,reduceCtorEq,YGs]
   unfold Yd9 at h
   refine⟨fun hc=>?_,fun hc=>?_⟩
   . rw[if_pos hc]at h;exact Yh h
   . rw[if_neg hc]at h;exact Yh h
 . exact h.1.elim
def askdC:Ctr:={ alias:=false,of:=fun l=>match l with
 | [.agg [.int .i64 a,.int .i64 b,.int .i64 c,.int .i64 d,.int .i64 e],.agg [.int .i64 x0,.int .i64 x1],.int .i64 least,.int .i64 most,.int .i64 t]=>
   if begE ⟨a,b,c,d,e⟩ (x0,x1) least most t=0 then .fin (.tup [.agg (enc2 (wayF ⟨a,b,c,d,e⟩ t).1),.agg (enc2 (Ybg ⟨a,b,c,d,e⟩)),.int .i64 0]) []
   else .fin (.tup [.agg (enc2 (0,0)),.agg (enc2 (0,0)),.int .i64 (begE ⟨a,b,c,d,e⟩ (x0,x1) least most t)]) []
 |_=>noC}
def G4:Env:={ ct:=fun n=>match n with|8=>some chkBC|19=>some corC|54=>some speedC|21=>some inC|55=>some partC|47=>some sclC|32=>some addC|_=>none,fn:=fun _=>none,meth:=fun _ _=>none}
theorem YB6:G4.ct 8=some chkBC:=rfl
theorem YwW:G4.ct 19=some corC:=rfl
theorem Yw0:G4.ct 54=some speedC:=rfl
theorem YwX:G4.ct 21=some inC:=rfl
theorem Yw1:G4.ct 55=some partC:=rfl
theorem YwZ:G4.ct 47=some sclC:=rfl
theorem YwY:G4.ct 32=some addC:=rfl
theorem G4_ok:Yq YGw G4:=by
 refine⟨fun f c h=>?_,fun f vf h=>?_,(fun _ _ _ h=>by cases h),by kernel_rfl,(fun _ h=>by cases h)⟩
 . simp only[G4]at h
   split at h
   . cases h;exact⟨YmA,Tryz.f8,Tryz.func8,by kernel_rfl,by kernel_rfl⟩
   . cases h;exact⟨Ywy,Tryz.f19,Tryz.func19,by kernel_rfl,by kernel_rfl⟩
   . cases h;exact⟨Q.rspeed_ok,Tryz.f54,Tryz.func54,by kernel_rfl,by kernel_rfl⟩
   . cases h;exact⟨Ywx,Tryz.f21,Tryz.func21,by kernel_rfl,by kernel_rfl⟩
   . cases h;exact⟨YAe,Tryz.f55,Tryz.func55,by kernel_rfl,by kernel_rfl⟩
   . cases h;exact⟨Ysr,Tryz.f47,Tryz.func47,by kernel_rfl,by kernel_rfl⟩
   . cases h;exact⟨Ysj,Tryz.f32,Tryz.func32,by kernel_rfl,by kernel_rfl⟩
   . cases h
 . cases h
theorem YCJ:askdC.ok YGw 27:=by
 refine Yb Tryz.func27 YFu G4_ok 600 askdC fun args k h=>?_
 simp only[askdC]at h
 split at h
 . rename_i a b c d e x0 x1 least most t
   refine⟨[.agg [.int .i64 a,.int .i64 b,.int .i64 c,.int .i64 d,.int .i64 e],.agg [.int .i64 x0,.int .i64 x1],.int .i64 least,.int .i64 most,.int .i64 t],by simp [leL,le],?_⟩
   dsimp only[v27,YB6,YwW,Yw0,YwX,Yw1,YwZ,YwY,chkBC,corC,speedC,inC,partC,sclC,addC,iv2C,enc2,go_sem,reduceIte]
   simp only[Yd,YGu,YGt,reduceCtorEq,YGs]
   have hcond:(!decide ((YY t).2=0) || !inF x0 least most|| !inF x1 least most|| decide (x1<x0))=decide ((YY t).2≠0\/x0<least\/x1<x0\/most<x1):=by
     unfold inF
     rw[YHK]
     simp only[YHd,YGP,YG9,decide_eq_true_eq,decide_eq_false_iff_not]
     omega
   rw[hcond]
   refine⟨fun hc=>?_,fun hc=>⟨by decide,by decide,fun hd=>?_,fun hd=>⟨by decide,by decide,hc,by decide,by decide,by decide,by decide,?_⟩⟩⟩
   . rw[show begE ⟨a,b,c,d,e⟩ (x0,x1) least most t=chkB ⟨a,b,c,d,e⟩by rw[begE,if_pos hc],if_neg hc]at h
     exact Yev (p:=(0,0)) (q:=(0,0)) h
   . rw[show begE ⟨a,b,c,d,e⟩ (x0,x1) least most t=2 by rw[begE,if_neg (fun hh=>hh hc),if_pos (of_decide_eq_true hd)],if_neg (by decide)]at h
     exact Yev (p:=(0,0)) (q:=(0,0)) h
   . rw[show begE ⟨a,b,c,d,e⟩ (x0,x1) least most t=0 by rw[begE,if_neg (fun hh=>hh hc),if_neg (of_decide_eq_false hd)],if_pos rfl]at h
     exact Yev h
 . exact h.1.elim
def G5:Env:={ ct:=fun n=>match n with|27=>some askdC|28=>some quoC|29=>some subC|32=>some addC|30=>some fitRC|_=>none,fn:=fun _=>none,meth:=fun _ _=>none}
theorem Yc5:G5.ct 27=some askdC:=rfl
theorem Yc6:G5.ct 28=some quoC:=rfl
theorem Yc7:G5.ct 29=some subC:=rfl
theorem Yc9:G5.ct 32=some addC:=rfl
theorem Yc8:G5.ct 30=some fitRC:=rfl
theorem YB7:Yq YGw G5:=by
 refine⟨fun f c h=>?_,fun f vf h=>?_,(fun _ _ _ h=>by cases h),by kernel_rfl,(fun _ h=>by cases h)⟩
 . simp only[G5]at h
   split at h
   . cases h;exact⟨YCJ,Tryz.f27,Tryz.func27,by kernel_rfl,by kernel_rfl⟩
   . cases h;exact⟨Ysl,Tryz.f28,Tryz.func28,by kernel_rfl,by kernel_rfl⟩
   . cases h;exact⟨YAf,Tryz.f29,Tryz.func29,by kernel_rfl,by kernel_rfl⟩
   . cases h;exact⟨Ysj,Tryz.f32,Tryz.func32,by kernel_rfl,by kernel_rfl⟩
   . cases h;exact⟨YEV,Tryz.f30,Tryz.func30,by kernel_rfl,by kernel_rfl⟩
   . cases h
 . cases h
theorem YwA:lenC.ok YGw 10:=by
 refine Yb Tryz.func10 YFg YB7 600 lenC fun args k h=>?_
 simp only[lenC]at h
 split at h
 . rename_i a b c d e x0 x1 t
   refine⟨[.agg [.int .i64 a,.int .i64 b,.int .i64 c,.int .i64 d,.int .i64 e],.agg [.int .i64 x0,.int .i64 x1],.int .i64 t],by simp [leL,le],?_⟩
   by_cases hb:begE ⟨a,b,c,d,e⟩ (x0,x1) 1000 20000000 t=0
   . rw[len_r hb]at h
     dsimp only[v10,Yc5,Yc6,Yc7,Yc9,Yc8,askdC,quoC,subC,addC,fitRC,iv2C,enc2,go_sem,reduceIte]
     simp only[if_pos hb]
     (try dsimp only[Yc5,Yc6,Yc7,Yc9,Yc8,askdC,quoC,subC,addC,fitRC,iv2C,enc2,go_sem,reduceIte])
     simp only[Yd,YGu,YGt,reduceCtorEq,YGs]
     exact⟨by decide,by decide,by decide,fun hh=>absurd trivial hh,by decide,by decide,by decide,by decide,by decide,by decide,Y1 h⟩
   . rw[show lenF ⟨a,b,c,d,e⟩ (x0,x1) t=((0,0),begE ⟨a,b,c,d,e⟩ (x0,x1) 1000 20000000 t)by rw[lenF,if_pos hb]]at h
     dsimp only[v10,Yc5,Yc6,Yc7,Yc9,Yc8,askdC,quoC,subC,addC,fitRC,iv2C,enc2,go_sem,reduceIte]
     simp only[if_neg hb]
     (try dsimp only[Yc5,Yc6,Yc7,Yc9,Yc8,askdC,quoC,subC,addC,fitRC,iv2C,enc2,go_sem,reduceIte])
     simp only[Yd,YGu,YGt,reduceCtorEq,YGs]
     exact⟨by decide,by decide,by decide,fun _=>Y1 (p:=(0,0)) h,fun hh=>absurd hh hb⟩
 . exact h.1.elim
theorem YEY:pitC.ok YGw 12:=by
 refine Yb Tryz.func12 YFi YB7 600 pitC fun args k h=>?_
 simp only[pitC]at h
 split at h
 . rename_i a b c d e x0 x1 t
   refine⟨[.agg [.int .i64 a,.int .i64 b,.int .i64 c,.int .i64 d,.int .i64 e],.agg [.int .i64 x0,.int .i64 x1],.int .i64 t],by simp [leL,le],?_⟩
   by_cases hb:begE ⟨a,b,c,d,e⟩ (x0,x1) 1 12000000 t=0
   . rw[pit_r hb]at h
     dsimp only[v12,Yc5,Yc6,Yc7,Yc9,Yc8,askdC,quoC,subC,addC,fitRC,iv2C,enc2,go_sem,reduceIte]
     simp only[if_pos hb]
     (try dsimp only[Yc5,Yc6,Yc7,Yc9,Yc8,askdC,quoC,subC,addC,fitRC,iv2C,enc2,go_sem,reduceIte])
     simp only[Yd,YGu,YGt,reduceCtorEq,YGs]
     exact⟨by decide,by decide,by decide,fun hh=>absurd trivial hh,by decide,by decide,by decide,by decide,by decide,by decide,Y1 h⟩
   . rw[show pitF ⟨a,b,c,d,e⟩ (x0,x1) t=((0,0),begE ⟨a,b,c,d,e⟩ (x0,x1) 1 12000000 t)by rw[pitF,if_pos hb]]at h
     dsimp only[v12,Yc5,Yc6,Yc7,Yc9,Yc8,askdC,quoC,subC,addC,fitRC,iv2C,enc2,go_sem,reduceIte]
     simp only[if_neg hb]
     (try dsimp only[Yc5,Yc6,Yc7,Yc9,Yc8,askdC,quoC,subC,addC,fitRC,iv2C,enc2,go_sem,reduceIte])
     simp only[Yd,YGu,YGt,reduceCtorEq,YGs]
     exact⟨by decide,by decide,by decide,fun _=>Y1 (p:=(0,0)) h,fun hh=>absurd hh hb⟩
 . exact h.1.elim
def sldC:Ctr:={ alias:=false,of:=fun l=>match l with
 | [.agg [.int .i64 a,.int .i64 b,.int .i64 c,.int .i64 d,.int .i64 e],.agg [.int .i64 x0,.int .i64 x1],.int .i64 t,.int .i64 u]=>
   .fin (.tup [.agg (enc2 (sldF ⟨a,b,c,d,e⟩ (x0,x1) t u).1),.int .i64 (sldF ⟨a,b,c,d,e⟩ (x0,x1) t u).2]) []
 |_=>noC}
def G6:Env:={ ct:=fun n=>match n with|9=>some lenC|33=>some hullC|_=>none,fn:=fun _=>none,meth:=fun _ _=>none}
theorem YB8:G6.ct 9=some lenC:=rfl
theorem Yw2:G6.ct 33=some hullC:=rfl
theorem G6_ok:Yq YGw G6:=by
 refine⟨fun f c h=>?_,fun f vf h=>?_,(fun _ _ _ h=>by cases h),by kernel_rfl,(fun _ h=>by cases h)⟩
 . simp only[G6]at h
   split at h
   . cases h;exact⟨Yzb,Tryz.f9,Tryz.func9,by kernel_rfl,by kernel_rfl⟩
   . cases h;exact⟨YyR,Tryz.f33,Tryz.func33,by kernel_rfl,by kernel_rfl⟩
   . cases h
 . cases h
theorem sld_c:sldC.ok YGw 13:=by
 refine Yb Tryz.func13 YFj G6_ok 600 sldC fun args k h=>?_
 simp only[sldC]at h
 split at h
 . rename_i a b c d e x0 x1 t u
   refine⟨[.agg [.int .i64 a,.int .i64 b,.int .i64 c,.int .i64 d,.int .i64 e],.agg [.int .i64 x0,.int .i64 x1],.int .i64 t,.int .i64 u],by simp [leL,le],?_⟩
   dsimp only[v13,YB8,Yw2,lenC,hullC,iv2C,enc2,go_sem,reduceIte]
   simp only[Yd,YGu,YGt,reduceCtorEq,YGs]
   refine⟨by decide,by decide,fun hc=>?_,fun hc=>⟨by decide,by decide,fun hd=>?_,fun hd=>⟨by decide,by decide,?_⟩⟩⟩
   . rw[show sldF ⟨a,b,c,d,e⟩ (x0,x1) t u=((0,0),(lenF ⟨a,b,c,d,e⟩ (x0,x1) t).2)by rw[sldF,if_pos hc]]at h
     exact Y1 (p:=(0,0)) h
   . rw[show sldF ⟨a,b,c,d,e⟩ (x0,x1) t u=((0,0),(lenF ⟨a,b,c,d,e⟩ (x0,x1) u).2)by rw[sldF,if_neg (fun hh=>hh hc),if_pos hd]]at h
     exact Y1 (p:=(0,0)) h
   . rw[show sldF ⟨a,b,c,d,e⟩ (x0,x1) t u=Ygp (lenF ⟨a,b,c,d,e⟩ (x0,x1) t).1 (lenF ⟨a,b,c,d,e⟩ (x0,x1) u).1 by rw[sldF,if_neg (fun hh=>hh hc),if_neg (fun hh=>hh hd)]]at h
     exact Y1 h
 . exact h.1.elim
def G7:Env:={ ct:=fun n=>match n with|10=>some lenC|34=>some hullC|_=>none,fn:=fun _=>none,meth:=fun _ _=>none}
theorem Yw3:G7.ct 10=some lenC:=rfl
theorem Yw4:G7.ct 34=some hullC:=rfl
theorem G7_ok:Yq YGw G7:=by
 refine⟨fun f c h=>?_,fun f vf h=>?_,(fun _ _ _ h=>by cases h),by kernel_rfl,(fun _ h=>by cases h)⟩
 . simp only[G7]at h
   split at h
   . cases h;exact⟨YwA,Tryz.f10,Tryz.func10,by kernel_rfl,by kernel_rfl⟩
   . cases h;exact⟨Yvt,Tryz.f34,Tryz.func34,by kernel_rfl,by kernel_rfl⟩
   . cases h
 . cases h
theorem YEZ:sldC.ok YGw 14:=by
 refine Yb Tryz.func14 YFk G7_ok 600 sldC fun args k h=>?_
 simp only[sldC]at h
 split at h
 . rename_i a b c d e x0 x1 t u
   refine⟨[.agg [.int .i64 a,.int .i64 b,.int .i64 c,.int .i64 d,.int .i64 e],.agg [.int .i64 x0,.int .i64 x1],.int .i64 t,.int .i64 u],by simp [leL,le],?_⟩
   dsimp only[v14,Yw3,Yw4,lenC,hullC,iv2C,enc2,go_sem,reduceIte]
   simp only[Yd,YGu,YGt,reduceCtorEq,YGs]
   refine⟨by decide,by decide,fun hc=>?_,fun hc=>⟨by decide,by decide,fun hd=>?_,fun hd=>⟨by decide,by decide,?_⟩⟩⟩
   . rw[show sldF ⟨a,b,c,d,e⟩ (x0,x1) t u=((0,0),(lenF ⟨a,b,c,d,e⟩ (x0,x1) t).2)by rw[sldF,if_pos hc]]at h
     exact Y1 (p:=(0,0)) h
   . rw[show sldF ⟨a,b,c,d,e⟩ (x0,x1) t u=((0,0),(lenF ⟨a,b,c,d,e⟩ (x0,x1) u).2)by rw[sldF,if_neg (fun hh=>hh hc),if_pos hd]]at h
     exact Y1 (p:=(0,0)) h
   . rw[show sldF ⟨a,b,c,d,e⟩ (x0,x1) t u=Ygp (lenF ⟨a,b,c,d,e⟩ (x0,x1) t).1 (lenF ⟨a,b,c,d,e⟩ (x0,x1) u).1 by rw[sldF,if_neg (fun hh=>hh hc),if_neg (fun hh=>hh hd)]]at h
     exact Y1 h
 . exact h.1.elim
def v3:VF:=⟨126,[.tmp 6],(ZR [u1 3 .box [.tm 0],u1 4 .box [.tm 1],u1 5 .box [.tm 2],u1 6 .mov [.cn (.bool false)]] (ZR [Zt 16 5 3,Zc 17 5 16,Zm 15 17,Ze 18 0 15,Ze 19 1 15,Ze 20 2 15,Zn 7,Zn 8,Zs 2 7 18,Zs 2 8 19,Zm 9 20] (ZR [Zt 22 5 3,Zc 23 6 22,Zm 21 23,Ze 24 0 21,Ze 25 1 21,Ze 26 2 21,Zn 10,Zn 11,Zs 2 10 24,Zs 2 11 25,Zm 12 26] (.seq (.seq (.draw [] [Zw 27 5 3,Zw 29 5 3,w1 28 (.call 7) [.tm 27],w1 30 (.call 8) [.tm 29],w1 31 (.cmp .neq) [.tm 28,.tm 30],Zu 32 31,⟨u2 33 32 false (.load true 2) [.tm 7],[]⟩,⟨u2 34 32 false (.load true 2) [.tm 10],[]⟩,⟨u2 35 32 false (.eqv true [true,true]) [.tm 33,.tm 34],[]⟩,w1 36 .or [.tm 32,.tm 35],Zu 37 36,⟨u2 38 37 false (.load true 2) [.tm 8],[]⟩,⟨u2 39 37 false (.load true 2) [.tm 11],[]⟩,⟨u2 40 37 false (.eqv true [true,true]) [.tm 38,.tm 39],[]⟩,w1 41 .or [.tm 37,.tm 40],Zu 42 41,⟨Zg 43 42 false 9,[]⟩,⟨Zg 44 42 false 12,[]⟩,⟨u2 45 42 false (.cmp .neq) [.tm 43,.tm 44],[]⟩,w1 46 .or [.tm 42,.tm 45]]) (ZC 46 (ZR [u1 6 .mov [.cn (.bool false)]] .ret) .skip)) (ZR [Zt 48 5 3,Zt 49 2 4,u1 50 (.idxArr 2 1) [.tm 5,.cn (.int .i64 0)],Zf 51 1 50,u1 52 (.call 9) [.tm 48,.tm 49,.tm 51],Zm 47 52,Ze 53 0 47,Ze 54 1 47,Zn 13,Zs 2 13 53,Zm 9 54] (ZR [Zt 56 5 3,Zt 57 2 4,u1 58 (.idxArr 2 1) [.tm 5,.cn (.int .i64 0)],Zf 59 1 58,u1 60 (.call 10) [.tm 56,.tm 57,.tm 59],Zm 55 60,Ze 61 0 55,Ze 62 1 55,Zn 14,Zs 2 14 61,Zm 12 62] (.seq (ZR [Zt 63 2 13,Zt 64 2 14,u1 65 (.eqv true [true,true]) [.tm 63,.tm 64],Zm 66 65,Zg 67 66 false 9,Zg 68 66 false 12,u2 69 66 false (.cmp .neq) [.tm 67,.tm 68],u1 70 .or [.tm 66,.tm 69]] (ZC 70 (ZR [u1 6 .mov [.cn (.bool false)]] .ret) .skip)) (ZR [Zt 72 5 3,Zt 73 2 4,u1 74 (.idxArr 2 1) [.tm 5,.cn (.int .i64 0)],Zf 75 1 74,u1 76 (.call 11) [.tm 72,.tm 73,.tm 75],Zm 71 76,Ze 77 0 71,Ze 78 1 71,Zs 2 13 77,Zm 9 78] (ZR [Zt 80 5 3,Zt 81 2 4,u1 82 (.idxArr 2 1) [.tm 5,.cn (.int .i64 0)],Zf 83 1 82,u1 84 (.call 12) [.tm 80,.tm 81,.tm 83],Zm 79 84,Ze 85 0 79,Ze 86 1 79,Zs 2 14 85,Zm 12 86] (.seq (ZR [Zt 87 2 13,Zt 88 2 14,u1 89 (.eqv true [true,true]) [.tm 87,.tm 88],Zm 90 89,Zg 91 90 false 9,Zg 92 90 false 12,u2 93 90 false (.cmp .neq) [.tm 91,.tm 92],u1 94 .or [.tm 90,.tm 93]] (ZC 94 (ZR [u1 6 .mov [.cn (.bool false)]] .ret) .skip)) (ZR [Zt 96 5 3,Zt 97 2 4,u1 98 (.idxArr 2 1) [.tm 5,.cn (.int .i64 0)],Zf 99 1 98,u1 100 (.idxArr 2 1) [.tm 5,.cn (.int .i64 1)],Zf 101 1 100,u1 102 (.call 13) [.tm 96,.tm 97,.tm 99,.tm 101],Zm 95 102,Ze 103 0 95,Ze 104 1 95,Zs 2 13 103,Zm 9 104] (ZR [Zt 106 5 3,Zt 107 2 4,u1 108 (.idxArr 2 1) [.tm 5,.cn (.int .i64 0)],Zf 109 1 108,u1 110 (.idxArr 2 1) [.tm 5,.cn (.int .i64 1)],Zf 111 1 110,u1 112 (.call 14) [.tm 106,.tm 107,.tm 109,.tm 111],Zm 105 112,Ze 113 0 105,Ze 114 1 105,Zs 2 14 113,Zm 12 114] (ZR [Zt 115 2 13,Zt 116 2 14,u1 117 (.eqv false [true,true]) [.tm 115,.tm 116],Zm 118 117,Zg 119 118 true 9,Zg 120 118 true 12,u2 121 118 true (.cmp .eql) [.tm 119,.tm 120],u1 122 .and [.tm 118,.tm 121],Zm 123 122,u2 124 123 true (.call 15) [],u1 125 .and [.tm 123,.tm 124],Zm 6 125] .ret)))))))))))))⟩
theorem v3_is:Yf YGw Tryz.f3=some v3:=by kernel_rfl
def lawG:List PSh:=[⟨true,shB⟩,⟨true,Yx0⟩,⟨true,Yx0⟩]
def G8:Env:={ ct:=fun n=>match n with|7=>some chkBC|8=>some chkBC|5=>some crsC|6=>some crsC|9=>some lenC|10=>some lenC|11=>some pitC|12=>some pitC|13=>some sldC|14=>some sldC|15=>some trueC|_=>none,fn:=fun _=>none,meth:=fun _ _=>none}
theorem Yh2:G8.ct 7=some chkBC:=rfl
theorem Yh3:G8.ct 8=some chkBC:=rfl
theorem Yh0:G8.ct 5=some crsC:=rfl
theorem Yh1:G8.ct 6=some crsC:=rfl
theorem Yh4:G8.ct 9=some lenC:=rfl
theorem Yfv:G8.ct 10=some lenC:=rfl
theorem Yfw:G8.ct 11=some pitC:=rfl
theorem Yfx:G8.ct 12=some pitC:=rfl
theorem Yfy:G8.ct 13=some sldC:=rfl
theorem Yfz:G8.ct 14=some sldC:=rfl
theorem YfA:G8.ct 15=some trueC:=rfl
theorem G8_ok:Yq YGw G8:=by
 refine⟨fun f c h=>?_,fun f vf h=>?_,(fun _ _ _ h=>by cases h),by kernel_rfl,(fun _ h=>by cases h)⟩
 . simp only[G8]at h
   split at h
   . cases h;exact⟨Yqy,Tryz.f7,Tryz.func7,by kernel_rfl,by kernel_rfl⟩
   . cases h;exact⟨YmA,Tryz.f8,Tryz.func8,by kernel_rfl,by kernel_rfl⟩
   . cases h;exact⟨YC4,Tryz.f5,Tryz.func5,by kernel_rfl,by kernel_rfl⟩
   . cases h;exact⟨YES,Tryz.f6,Tryz.func6,by kernel_rfl,by kernel_rfl⟩
   . cases h;exact⟨Yzb,Tryz.f9,Tryz.func9,by kernel_rfl,by kernel_rfl⟩
   . cases h;exact⟨YwA,Tryz.f10,Tryz.func10,by kernel_rfl,by kernel_rfl⟩
   . cases h;exact⟨YD0,Tryz.f11,Tryz.func11,by kernel_rfl,by kernel_rfl⟩
   . cases h;exact⟨YEY,Tryz.f12,Tryz.func12,by kernel_rfl,by kernel_rfl⟩
   . cases h;exact⟨sld_c,Tryz.f13,Tryz.func13,by kernel_rfl,by kernel_rfl⟩
   . cases h;exact⟨YEZ,Tryz.f14,Tryz.func14,by kernel_rfl,by kernel_rfl⟩
   . cases h;exact⟨YAk,Tryz.f15,Tryz.func15,by kernel_rfl,by kernel_rfl⟩
   . cases h
 . cases h
theorem Yy3:(lawC lawG).ok YGw 3:=by
 refine Yb Tryz.func3 v3_is G8_ok 600 (lawC lawG) fun args k h=>?_
 obtain⟨ha,hk⟩:=h
 obtain⟨_,_,rfl,h1,e1⟩:=YcM ha
 obtain⟨cs,rfl,hcs⟩:=YeK h1
 obtain⟨_,_,rfl,h2,e2⟩:=YcM e1
 obtain⟨ds,rfl,hds⟩:=YeK h2
 obtain⟨_,_,rfl,h3,e3⟩:=YcM e2
 obtain⟨es,rfl,hes⟩:=YeK h3
 cases Ylj e3
 obtain⟨B,rfl⟩:=YCN hcs
 obtain⟨⟨x0,x1⟩,rfl⟩:=YDr hds
 obtain⟨⟨t,u⟩,rfl⟩:=YDr hes
 obtain⟨a,b,c,d,e⟩:=B
 have hk':k (.bool true) []:=hk
 refine⟨[.agg [.int .i64 a,.int .i64 b,.int .i64 c,.int .i64 d,.int .i64 e],.agg [.int .i64 x0,.int .i64 x1],.agg [.int .i64 t,.int .i64 u]],?_,?_⟩
 . simp [encY,enc2,leL,le]
 by_cases hc:chkB ⟨a,b,c,d,e⟩=0
 . dsimp only[v3,Yh2,Yh3,Yh0,Yh1,Yh4,Yfv,Yfw,Yfx,Yfy,Yfz,YfA,chkBC,crsC,lenC,pitC,sldC,trueC,enc2,go_sem,reduceIte]
   simp only[if_pos hc]
   (try dsimp only[Yh2,Yh3,Yh0,Yh1,Yh4,Yfv,Yfw,Yfx,Yfy,Yfz,YfA,chkBC,crsC,lenC,pitC,sldC,trueC,enc2,go_sem,reduceIte])
   simp only[Yd,YGu,YGt,reduceCtorEq,YGs]
   simp only[if_pos hc]
   (try dsimp only[Yh2,Yh3,Yh0,Yh1,Yh4,Yfv,Yfw,Yfx,Yfy,Yfz,YfA,chkBC,crsC,lenC,pitC,sldC,trueC,enc2,go_sem,reduceIte])
   simp only[Yd,YGu,YGt,reduceCtorEq,YGs]
   simp only[decide_true,YHL,Bool.or_self,Bool.and_self,YHn,YHE,Bool.or_false,YGM,true_and,and_true,forall_const,Nat.reduceLT]
   repeat' (first|exact YW hk'|apply YGV|decide| (intro hf;exact hf.elim) |intro _)
 . dsimp only[v3,Yh2,Yh3,Yh0,Yh1,Yh4,Yfv,Yfw,Yfx,Yfy,Yfz,YfA,chkBC,crsC,lenC,pitC,sldC,trueC,enc2,go_sem,reduceIte]
   simp only[if_neg hc]
   (try dsimp only[Yh2,Yh3,Yh0,Yh1,Yh4,Yfv,Yfw,Yfx,Yfy,Yfz,YfA,chkBC,crsC,lenC,pitC,sldC,trueC,enc2,go_sem,reduceIte])
   simp only[Yd,YGu,YGt,reduceCtorEq,YGs]
   simp only[if_neg hc]
   (try dsimp only[Yh2,Yh3,Yh0,Yh1,Yh4,Yfv,Yfw,Yfx,Yfy,Yfz,YfA,chkBC,crsC,lenC,pitC,sldC,trueC,enc2,go_sem,reduceIte])
   simp only[Yd,YGu,YGt,reduceCtorEq,YGs]
   simp only[decide_true,YHL,Bool.or_self,Bool.and_self,YHn,YHE,Bool.or_false,YGM,true_and,and_true,forall_const,Nat.reduceLT]
   repeat' (first|exact YW hk'|apply YGV|decide| (intro hf;exact hf.elim) |intro _)
end Go.Proofs.YtijadllhfgajlaaGreat
namespace Go.Proofs.YtijadllhfgajlaaGreat
open Go Go.Vx Go.RowKit
set_option maxRecDepth 100000
theorem ownX3:ownKnob YGw.godebug=none:=by kernel_rfl
theorem YDt:laidOutB YGw=true:=by kernel_rfl
theorem Ye7(os:Os)(started:os.Started)(H:Type)(enc:TypeId×Value->H):
   ReturnsInHanded {} Tryz.checked os 3 .any (Rows.lengthsGiveSpec.pre6 enc YGw Tryz.f3 Rows.lengthsGiveRow.domain false) (Rows.lengthsGiveSpec.post enc YGw Tryz.f3 false true false false):=
 YoL (C:=Tryz.checked) (tb:=4) ownX3 started (by kernel_rfl) Tryz.func3 YDt
   (ChangeSpec.witness6 (enc:=enc) (C:=Tryz.checked) false ⟨#[], #[.agg #[.int .i64 0,.int .i64 0,.int .i64 0,.int .i64 0,.int .i64 0],.agg #[.int .i64 0,.int .i64 0],.agg #[.int .i64 0,.int .i64 0]],[]⟩ 8 (by kernel_rfl) (by kernel_rfl) (by kernel_rfl) (by kernel_rfl))
   (by kernel_rfl) (by kernel_rfl) (by kernel_rfl) (by kernel_rfl) rfl (fun ds h=>match ds,h with| [_,_,_],_=>⟨rfl,rfl,rfl⟩) Yy3
theorem lengthsGive_holds:Rows.LengthsGiveSaid:=
 OpenClaim.holds_of_wide 3 Tryz.f3 rfl rfl rfl rfl rfl rfl rfl ⟨rfl,rfl,rfl,rfl,rfl⟩ rfl rfl rfl rfl rfl (by kernel_rfl) Tryz.func3 (by kernel_rfl)
   (of_decide_eq_true (by kernel_rfl)) (by unfold Func.isWrapper;first| (rw[if_pos (by decide+kernel)];kernel_rfl) | (rw[if_neg (by decide+kernel)];exact⟨rfl,rfl⟩))
   (fun os started H enc _=>Ye7 os started H enc)
end Go.Proofs.YtijadllhfgajlaaGreat
