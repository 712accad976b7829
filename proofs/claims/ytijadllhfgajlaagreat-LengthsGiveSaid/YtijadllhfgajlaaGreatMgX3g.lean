/- The speed of sound, exactly: what is checked for each temperature, in plain Lean. -/
import Derived.Test.YtijadllhfgajlaaGreatMgX3f
open List renaming mem_cons->YGQ
open Nat renaming add->YHG,beq->YHf,eq_of_beq_eq_true->YGW,le_of_lt->YHp,le_refl->YGH,le_trans->YGF,lt_of_le_of_lt->YGU,lt_of_lt_of_le->YG1,mul->YHS,mul_assoc->YGE,mul_comm->YGC,mul_le_mul->YGX,mul_le_mul_left->YGO,mul_le_mul_right->YGD,one_mul->YHz,pow_le_pow_left->YHk,pow_le_pow_right->YGG
open Or renaming inr->YHT
set_option linter.all false
namespace Go.Proofs.YtijadllhfgajlaaGreat
open Go Go.Vx
set_option maxRecDepth 100000
def bc(b x y:Bool):Bool:=Bool.casesOn b x y
def bn(b:Bool)(x y:Nat):Nat:=Bool.casesOn b x y
def YzE(k:Nat):Nat->Nat->Bool:=
 Nat.rec (fun A B=>bc (Nat.blt 79228162514264337593543950336 A) false (Nat.blt B 158456325028528675187087900672)) (fun _ ih A B=>(fun X=>(fun s=>ih (Nat.shiftRight X s) (Nat.succ (Nat.shiftRight (Nat.pow B 16) s))) ((fun y=>bn (Nat.blt y 256) (YHG 1448 (tbP (Nat.shiftRight y 8))) (YHG 1440 (tbP y))) (Nat.shiftRight X 1536))) (Nat.pow A 16)) k
def Yht(k e n:Nat):Bool:=YzE k (Nat.shiftLeft n e) (Nat.shiftLeft n e)
def YbR(k e a c:Nat):Bool:=Nat.rec true (fun i ih=>bc (Yht k e (YHG a i)) false ih) c
theorem Yye(b x y:Bool):bc b y x=bif b then x else y:=by cases b <;> rfl
theorem Yyf(b:Bool)(x y:Nat):bn b y x=bif b then x else y:=by cases b <;> rfl
theorem Yvl:∀(k A B:Nat),YzE k A B=pw16 k A B:=by
 intro k
 induction k with
 |zero=>intro A B;exact Yye _ _ _
 |succ k ih=>
   intro A B
   have e:∀y,(bn (Nat.blt y 256) (YHG 1448 (tbP (Nat.shiftRight y 8))) (YHG 1440 (tbP y)):Nat)=bif Nat.blt y 256 then YHG 1440 (tbP y)else YHG 1448 (tbP (Nat.shiftRight y 8)):=fun y=>Yyf _ _ _
   show YzE k _ _=pw16 k _ _
   rw[ih]
   dsimp only
   rw[e]
theorem YjQ{k e n:Nat}(he:e<=96)(h:Yht k e n=true):farJ (4*k) n:=Yve he ((Yvl k _ _).symm.trans h)
theorem Yez{a b:Bool}(h:(bc a false b:Bool)=true):a=true/\b=true:=by
 cases a
 . cases h
 . exact⟨rfl,h⟩
theorem YjY{k e a:Nat}(he:e<=96):∀c,YbR k e a c=true->∀i,i<c->farJ (4*k) (a+i):=by
 intro c
 induction c with
 |zero=>intro _ i hi;omega
 |succ c ih=>
   intro h i hi
   obtain⟨h1,h2⟩:=Yez (a:=Yht k e (a+c)) (b:=YbR k e a c) h
   rcases Nat.lt_or_eq_of_le (Nat.le_of_lt_succ hi)with h3|h3
   . exact ih h2 i h3
   . rw[h3];exact YjQ he h1
def tsB(m x y:Nat):Bool:=
 bc (Nat.blt (YHS x 520001) (YHS y 520000))
   (bc (Nat.blt (YHS x 8320001) (YHS y 8320000))
     (bc (Nat.blt (YHS x 133100001) (YHS y 133100000))
       (bc (Nat.blt (YHS x 2130000001) (YHS y 2130000000))
         (bc (Nat.blt (YHS x 562949953421313) (YHS y 562949953421312))
           (bc (YHf m 331300000) false (YHf x y))
           (Yht 13 68 m))
         (Yht 8 68 m))
       (Yht 7 68 m))
     (Yht 6 68 m))
   (Yht 5 68 m)
def pthB(T:Nat)(f:Nat):Nat->Nat->Bool:=
 Nat.rec (fun a b=>Nat.ble b (Nat.succ a)) (fun _ ih a b=>bc (Nat.ble b (Nat.succ a))
   (bc (Nat.ble (YHS 273150 (Nat.pow (Nat.div (YHG a b) 2) 2)) T)
     (bc (tsB (Nat.div (YHG a b) 2) T (YHS 273150 (Nat.pow (Nat.div (YHG a b) 2) 2))) false (ih a (Nat.div (YHG a b) 2)))
     (bc (tsB (Nat.div (YHG a b) 2) (YHS 273150 (Nat.pow (Nat.div (YHG a b) 2) 2)) T) false (ih (Nat.div (YHG a b) 2) b)))
   true) f
def spdR(N f a b c:Nat):Bool:=Nat.rec true (fun i ih=>bc (pthB (YHS (YHG N i) 109759690000000000) f a b) false ih) c
def tsA(m x y:Nat):Bool:=
 bc (Nat.blt (YHS x 64) y)
   (bc (Nat.blt (YHS x 520001) (YHS y 520000)) false (Yht 5 (bn (Nat.blt m 268435456) (bn (Nat.blt m 536870912) (bn (Nat.blt m 1073741824) 66 67) 68) 69) m))
   true
def preB(N c U V:Nat)(f:Nat):Nat->Nat->Bool:=
 Nat.rec (fun a b=>spdR N 0 a b c) (fun n ih a b=>
   bc (Nat.ble (YHS 273150 (Nat.pow (Nat.div (YHG a b) 2) 2)) U)
     (bc (Nat.blt V (YHS 273150 (Nat.pow (Nat.div (YHG a b) 2) 2)))
       (spdR N (Nat.succ n) a b c)
       (bc (tsA (Nat.div (YHG a b) 2) V (YHS 273150 (Nat.pow (Nat.div (YHG a b) 2) 2))) (spdR N (Nat.succ n) a b c) (ih a (Nat.div (YHG a b) 2))))
     (bc (tsA (Nat.div (YHG a b) 2) (YHS 273150 (Nat.pow (Nat.div (YHG a b) 2) 2)) U) (spdR N (Nat.succ n) a b c) (ih (Nat.div (YHG a b) 2) b))) f
def blkB(N c:Nat):Bool:=preB N c (YHS N 109759690000000000) (YHS (YHG N c) 109759690000000000) 41 0 1000000000001
def blkR(N k:Nat):Bool:=Nat.rec true (fun i ih=>bc (blkB (YHG N (YHS 16 i)) 16) false ih) k
theorem YbH{J J' n:Nat}(h:YH J n)(hj:J'<=J):YH J' n:=by
 unfold YH at*
 have:(2:Nat)^(2048-J)<=2^(2048-J'):=YGG (by decide) (by omega)
 omega
theorem YqK{N m J E:Nat}{w:Nat->Nat}(hJ:J<=2048)(hN:1<=N/\N<=1000000000000)(hm:1<=m/\m<=1000000000001)
   (hw:∀x,x∈spL N m->(lN x.1.toNat 2048).2<=(lN x.1.toNat 2048).1+w x.1.toNat*2^(2048-J))(hE:upS w (spL N m)+dnS w (spL N m)=E)
   (h:N*331300000^2*(2^J+1)^E<273150*m^2*(2^J)^E\/273150*m^2*(2^J+1)^E<N*331300000^2*(2^J)^E):Dec (spL N m):=by
 refine YHT fun hu=>?_
 have hl:=YAn hN hm
 have a:=YvP hJ hl hw hu
 have b:=YmQ hJ hl hw hu
 rw[YmH,YmG,hE]at a b
 have a':=YlO (YF J) a
 have b':=YlO (YF J) b
 rcases h with h|h
 . exact absurd a' (Nat.not_le.2 h)
 . exact absurd b' (Nat.not_le.2 h)
def AskP(N m:Nat):Prop:=Dec (spL N m)/\(273150*m^2=N*331300000^2->m=331300000)
theorem YDk{Q E x y p q:Nat}(hQ:0<Q)(hq:0<q)(hpq:(Q+1)^E*q<=Q^E*p)(h:x*p<y*q):x*(Q+1)^E<y*Q^E:=by
 refine Nat.lt_of_mul_lt_mul_right (a:=q) ?_
 have k1:=YGO x hpq
 have k2:=Nat.mul_lt_mul_of_pos_right h (Nat.pow_pos (n:=E) hQ)
 have e1:x*(Q+1)^E*q=x*((Q+1)^E*q):=YGE ..
 have e2:x*(Q^E*p)=x*p*Q^E:=by rw[YGE,YGC p]
 have e3:y*q*Q^E=y*Q^E*q:=Nat.mul_right_comm ..
 omega
def Sd(N m x y:Nat):Prop:=(x=N*331300000^2/\y=273150*m^2)\/(x=273150*m^2/\y=N*331300000^2)
theorem Yi3{N m x y J E p q:Nat}{w:Nat->Nat}(hN:1<=N/\N<=1000000000000)(hm:1<=m/\m<=1000000000001)(hs:Sd N m x y)(hJ:J<=2048)
   (hw:∀x,x∈spL N m->(lN x.1.toNat 2048).2<=(lN x.1.toNat 2048).1+w x.1.toNat*2^(2048-J))(hE:upS w (spL N m)+dnS w (spL N m)=E)(hq:0<q){Q:Nat}(hQ:Q=2^J)(hpq:(Q+1)^E*q<=Q^E*p)(h:x*p<y*q):AskP N m:=by
 have hQ0:0<Q:=by rw[hQ];exact YF J
 have hg:=YDk hQ0 hq hpq h
 have hle:=YHk (Nat.le_succ Q) E
 have hne:x<y:=by
   refine Nat.lt_of_not_le fun hh=>?_
   have:=YGX hh hle
   have e1:y*Q^E=y*Q^E:=rfl
   exact absurd hg (Nat.not_lt.2 this)
 rw[hQ]at hg
 rcases hs with⟨hx,hy⟩ | ⟨hx,hy⟩
 . rw[hx,hy]at hg hne
   exact⟨YqK hJ hN hm hw hE (Or.inl hg),fun hh=>absurd hne (by omega)⟩
 . rw[hx,hy]at hg hne
   exact⟨YqK hJ hN hm hw hE (YHT hg),fun hh=>absurd hne (by omega)⟩
def e516:Nat:=516
def wtC(n:Nat):Nat:=if n<1000000 then 1 else if n=331300000 then 1 else 256
theorem sp_E3{N k:Nat}(hN:N<1000000)(hk:¬k<1000000)(hc:k≠331300000):upS wtC (spL N k)+dnS wtC (spL N k)=e516:=by
 simp [e516,upS,dnS,spL,wtC,hN,hk,hc]
theorem Yu6{J n:Nat}(h:YH J n)(hJ:J+8<=2048):(lN n 2048).2<=(lN n 2048).1+256*2^(2048-(J+8)):=by
 have:=Yu7 (J':=J+8) h (by omega) hJ
 rw[show J+8-J=8 by omega]at this
 exact this
theorem YGn{N k J:Nat}(h1:YH (J+8) N)(h2:YH (J+8) 273150)(h3:YH (J+8) 331300000)(h4:YH J k)(hJ:J+8<=2048)(hN:N<1000000)(hk:¬k<1000000)(hc:k≠331300000):∀x,x∈spL N k->(lN x.1.toNat 2048).2<=(lN x.1.toNat 2048).1+wtC x.1.toNat*2^(2048-(J+8)):=by
 have f4:=Yu6 h4 hJ
 unfold YH at h1 h2 h3
 generalize 2^(2048-(J+8))=Z at*
 intro x hx
 unfold wtC
 simp only[spL,YGQ,List.not_mem_nil,or_false]at hx
 rcases hx with rfl|rfl|rfl|rfl
 . rw[if_pos (by simpa using hN),YHz];exact h1
 . rw[if_pos (by decide),YHz];exact h2
 . rw[if_neg (by decide),if_pos (by decide),YHz];exact h3
 . rw[if_neg (by simpa using hk),if_neg (by simpa using hc)];exact f4
def pqB(Q E p q:Nat):Bool:=Nat.ble (YHS (Nat.pow (Nat.succ Q) E) q) (YHS (Nat.pow Q E) p)
theorem YD1{Q E p q:Nat}(h:pqB Q E p q=true):(Q+1)^E*q<=Q^E*p:=by
 unfold pqB at h
 exact Nat.le_of_ble_eq_true h
theorem YzF:pqB 268435456 e516 520001 520000=true:=by decide+kernel
theorem YzG:pqB 4294967296 e516 8320001 8320000=true:=by decide+kernel
theorem YzH:pqB 68719476736 e516 133100001 133100000=true:=by decide+kernel
theorem YzI:pqB 1099511627776 e516 2130000001 2130000000=true:=by decide+kernel
theorem Yi2{N m x y p q:Nat}(J:Nat)(hJ:J+8<=52)(hN:253150<=N/\N<=323150)(hm:1000000<=m/\m<=1000000000001)(n1:YH 52 N)(n2:YH 52 273150)(n3:YH 52 331300000)(n4:YH J m)(hs:Sd N m x y)(hq:0<q){Q:Nat}(hQ:Q=2^(J+8))(hpq:pqB Q e516 p q=true)(hpq':(Q+1)^6*q<=Q^6*p)(h:x*p<y*q):AskP N m:=by
 by_cases hc:m=331300000
 . exact Yi3 (J:=J+8) (w:=wtA) (by omega) (by omega) hs (by omega) (Ys1 (J:=J+8) (YbH n1 hJ) (YbH n2 hJ) (YbH n3 hJ) (hc▸YbH n3 hJ)) (YAm N m) hq hQ hpq' h
 . exact Yi3 (J:=J+8) (w:=wtC) (by omega) (by omega) hs (by omega) (YGn (YbH n1 hJ) (YbH n2 hJ) (YbH n3 hJ) n4 (by omega) (by omega) (by omega) hc) (sp_E3 (by omega) (by omega) hc) hq hQ (YD1 hpq) h
theorem YCT{x y:Nat}(h:Nat.blt x y=true):x<y:=Nat.le_of_ble_eq_true h
theorem Yni{x y:Nat}(h:Nat.ble x y=true):x<=y:=Nat.le_of_ble_eq_true h
theorem YfF{x y p q:Nat}(h:Nat.blt (YHS x p) (YHS y q)=true):x*p<y*q:=Nat.le_of_ble_eq_true h
theorem Yus{x y p:Nat}(h:Nat.blt (YHS x p) y=true):x*p<y:=Nat.le_of_ble_eq_true h
theorem sq_c{p m:Nat}:YHS p (Nat.pow m 2)=p*m^2:=rfl
theorem Ywb{a b:Nat}:Nat.div (YHG a b) 2=(a+b)/2:=rfl
theorem Yu4{a b:Nat}:YHS a b=a*b:=rfl
theorem YxR{a b:Nat}:YHG a b=a+b:=rfl
def Far(m x y:Nat):Prop:=(x*64<y*1)\/(YH 20 m/\x*520001<y*520000)
theorem YnQ{x y x' y' p q:Nat}(h:x*p<y*q)(hx:x'<=x)(hy:y<=y'):x'*p<y'*q:=
 YGU (YGD _ hx) (YG1 h (YGD _ hy))
theorem Far.mono{m x y x' y':Nat}(h:Far m x y)(hx:x'<=x)(hy:y<=y'):Far m x' y':=by
 unfold Far at*
 rcases h with h| ⟨g,h⟩
 . exact Or.inl (YnQ h hx hy)
 . exact YHT ⟨g,YnQ h hx hy⟩
theorem Yda{a b c:Bool}(h:(bc a b c:Bool)=true):(a=true/\c=true)\/b=true:=by
 cases a
 . exact YHT h
 . exact Or.inl ⟨rfl,h⟩
theorem Yyg{a b c:Bool}(h:(bc a b c:Bool)=true):(a=true/\c=true)\/(a=false/\b=true):=by
 cases a
 . exact YHT ⟨rfl,h⟩
 . exact Or.inl ⟨rfl,h⟩
theorem e_le(a b c:Bool):bn a (bn b (bn c 66 67) 68) 69<=96:=by cases a <;> cases b <;> cases c <;> decide
theorem YoO{k e m:Nat}(hm:1<=m/\m<=1000000000001)(hk:k<=100)(he:e<=96)(h:Yht k e m=true):YH (4*k) m:=YfT (by omega) hm.1 (by omega) (YHT (YjQ he h))
theorem YwJ{m x y:Nat}(hm:1<=m/\m<=1000000000001)(h:tsA m x y=true):Far m x y:=by
 unfold tsA at h
 rcases Yda h with⟨c,_⟩ |h
 . exact Or.inl (by have:=Yus c;omega)
 . obtain⟨c,h⟩:=Yez h
   exact YHT ⟨YoO (k:=5) hm (by decide) (e_le _ _ _) h,YfF c⟩
theorem YgZ{N m x y:Nat}(hN:253150<=N/\N<=323150)(hm:1<=m/\m<=1000000000001)(n1:YH 52 N)(n2:YH 52 273150)(n3:YH 52 331300000)(hs:Sd N m x y)(h:Far m x y):AskP N m:=by
 have hN':1<=N/\N<=1000000000000:=by omega
 have f0:∀{x y},Sd N m x y->x*64<y*1->AskP N m:=fun hs h=>
   Yi3 (J:=0) (w:=wtA) hN' hm hs (by decide) (Ys1 (J:=0) (YgG _) (YgG _) (YgG _) (YgG _)) (YAm N m) (by decide) (Q:=1) (by decide) (by decide) h
 by_cases hsm:m<1000000
 . have h2:m^2<=1000000^2:=YHk (YHp hsm) 2
   refine f0 (x:=273150*m^2) (y:=N*331300000^2) (YHT ⟨rfl,rfl⟩) ?_
   generalize m^2=K at*
   simp only[Nat.reducePow]at h2⊢
   omega
 rcases h with h| ⟨g,h⟩
 . exact f0 hs h
 . exact Yi2 20 (by decide) hN (by omega) n1 n2 n3 g hs (by decide) (Q:=268435456) (by decide) YzF (by decide+kernel) h
theorem Yqf{N m x y:Nat}(hN:253150<=N/\N<=323150)(hm:1<=m/\m<=1000000000001)(n1:YH 52 N)(n2:YH 52 273150)(n3:YH 52 331300000)(hs:Sd N m x y)(h:tsB m x y=true):AskP N m:=by
 have hN':1<=N/\N<=1000000000000:=by omega
 by_cases hsm:m<1000000
 . have h2:m^2<=1000000^2:=YHk (YHp hsm) 2
   refine YgZ (x:=273150*m^2) (y:=N*331300000^2) hN hm n1 n2 n3 (YHT ⟨rfl,rfl⟩) (Or.inl ?_)
   generalize m^2=K at*
   simp only[Nat.reducePow]at h2⊢
   omega
 have hm':1000000<=m/\m<=1000000000001:=by omega
 unfold tsB at h
 rcases Yda h with⟨c,h⟩ |h
 . exact YgZ hN hm n1 n2 n3 hs (YHT ⟨YoO (k:=5) hm (by decide) (by decide) h,YfF c⟩)
 rcases Yda h with⟨c,h⟩ |h
 . exact Yi2 24 (by decide) hN hm' n1 n2 n3 (YoO (k:=6) hm (by decide) (by decide) h) hs (by decide) (Q:=4294967296) (by decide) YzG (by decide+kernel) (YfF c)
 rcases Yda h with⟨c,h⟩ |h
 . exact Yi2 28 (by decide) hN hm' n1 n2 n3 (YoO (k:=7) hm (by decide) (by decide) h) hs (by decide) (Q:=68719476736) (by decide) YzH (by decide+kernel) (YfF c)
 rcases Yda h with⟨c,h⟩ |h
 . exact Yi2 32 (by decide) hN hm' n1 n2 n3 (YoO (k:=8) hm (by decide) (by decide) h) hs (by decide) (Q:=1099511627776) (by decide) YzI (by decide+kernel) (YfF c)
 rcases Yda h with⟨c,h⟩ |h
 . exact Yi3 (J:=52) (w:=wtA) hN' hm hs (by decide) (Ys1 (J:=52) n1 n2 n3 (YoO (k:=13) hm (by decide) (by decide) h)) (YAm N m) (by decide) (Q:=4503599627370496) (by decide) (by decide+kernel) (YfF c)
 obtain⟨c1,c2⟩:=Yez h
 have hm6:m=331300000:=YGW c1
 have hxy:x=y:=YGW c2
 refine⟨Or.inl ?_,fun _=>hm6⟩
 rw[YmH,YmG]
 rcases hs with⟨h1,h2⟩ | ⟨h1,h2⟩ <;> omega
def tstN(N m:Nat):Bool:=decide (273150*m^2<=N*331300000^2)
theorem YD5(T a b:Nat):pthB T 0 a b=Nat.ble b (Nat.succ a):=rfl
theorem YD6(T f a b:Nat):pthB T (Nat.succ f) a b=bc (Nat.ble b (Nat.succ a))
   (bc (Nat.ble (YHS 273150 (Nat.pow (Nat.div (YHG a b) 2) 2)) T)
     (bc (tsB (Nat.div (YHG a b) 2) T (YHS 273150 (Nat.pow (Nat.div (YHG a b) 2) 2))) false (pthB T f a (Nat.div (YHG a b) 2)))
     (bc (tsB (Nat.div (YHG a b) 2) (YHS 273150 (Nat.pow (Nat.div (YHG a b) 2) 2)) T) false (pthB T f (Nat.div (YHG a b) 2) b)))
   true:=rfl
theorem YD7{N T:Nat}(hN:253150<=N/\N<=323150)(n1:YH 52 N)(n2:YH 52 273150)(n3:YH 52 331300000)(hT:T=N*331300000^2):∀(f a b:Nat),b<=1000000000001->pthB T f a b=true->PthG (AskP N) (tstN N) f a b:=by
 intro f
 induction f with
 |zero=>intro a b _ h;rw[YD5]at h;exact Yni h
 |succ f ih=>
   intro a b hb h
   by_cases hab:b<=a+1
   . exact Or.inl hab
   rw[<-Nat.succ_eq_add_one,YD6]at h
   rcases Yda h with⟨c,_⟩ |h
   . exact absurd (Yni c) hab
   refine YHT ?_
   rw[Ywb]at h
   obtain⟨m,hm⟩:∃m,m=(a+b)/2:=⟨_,rfl⟩
   rw[<-hm]at h⊢
   rw[sq_c]at h
   have hmr:1<=m/\m<=1000000000001:=by omega
   obtain⟨d,hd⟩:∃d,d=273150*m^2:=⟨_,rfl⟩
   rw[<-hd]at h
   rcases Yyg h with⟨c3,h⟩ | ⟨c3,h⟩
   . obtain⟨h1,h2⟩:=Yez h
     have ht:tstN N m=true:=decide_eq_true (by rw[<-hT,<-hd];exact Yni c3)
     rw[if_pos ht]
     exact⟨Yqf hN hmr n1 n2 n3 (YHT ⟨hd,hT⟩) h1,ih m b hb h2⟩
   . obtain⟨h1,h2⟩:=Yez h
     have ht:¬tstN N m=true:=fun hh=>by
       have:=of_decide_eq_true hh
       rw[<-hT,<-hd]at this
       rw[Nat.ble_eq_true_of_le this]at c3;cases c3
     rw[if_neg ht]
     exact⟨Yqf hN hmr n1 n2 n3 (Or.inl ⟨hT,hd⟩) h1,ih a m (by omega) h2⟩
theorem YE7(N f a b c:Nat):spdR N f a b (Nat.succ c)=bc (pthB (YHS (YHG N c) 109759690000000000) f a b) false (spdR N f a b c):=rfl
theorem YAo{N f a b:Nat}:∀c,spdR N f a b c=true->∀i,i<c->pthB ((N+i)*109759690000000000) f a b=true:=by
 intro c
 induction c with
 |zero=>intro _ i hi;omega
 |succ c ih=>
   intro h i hi
   rw[<-Nat.succ_eq_add_one,YE7,Yu4,YxR]at h
   obtain⟨h1,h2⟩:=Yez h
   rcases Nat.lt_or_eq_of_le (Nat.le_of_lt_succ hi)with h3|h3
   . exact ih h2 i h3
   . rw[h3];exact h1
theorem YD2(N c U V f a b:Nat):preB N c U V (Nat.succ f) a b=
   bc (Nat.ble (YHS 273150 (Nat.pow (Nat.div (YHG a b) 2) 2)) U)
     (bc (Nat.blt V (YHS 273150 (Nat.pow (Nat.div (YHG a b) 2) 2)))
       (spdR N (Nat.succ f) a b c)
       (bc (tsA (Nat.div (YHG a b) 2) V (YHS 273150 (Nat.pow (Nat.div (YHG a b) 2) 2))) (spdR N (Nat.succ f) a b c) (preB N c U V f a (Nat.div (YHG a b) 2))))
     (bc (tsA (Nat.div (YHG a b) 2) (YHS 273150 (Nat.pow (Nat.div (YHG a b) 2) 2)) U) (spdR N (Nat.succ f) a b c) (preB N c U V f (Nat.div (YHG a b) 2) b)):=rfl
theorem YD3{N c i U V:Nat}(hi:i<c)(hN:253150<=N+i/\N+i<=323150)(n1:YH 52 (N+i))(n2:YH 52 273150)(n3:YH 52 331300000)(hU:U=N*331300000^2)(hV:V=(N+c)*331300000^2):∀(f a b:Nat),b<=1000000000001->preB N c U V f a b=true->PthG (AskP (N+i)) (tstN (N+i)) f a b:=by
 have sep:∀f a b,b<=1000000000001->spdR N f a b c=true->PthG (AskP (N+i)) (tstN (N+i)) f a b:=fun f a b hb h=>
   YD7 hN n1 n2 n3 (by rw[show(331300000:Nat)^2=109759690000000000 from rfl]) f a b hb (YAo c h i hi)
 have hUT:U<=(N+i)*331300000^2:=by rw[hU];exact YGD _ (by omega)
 have hTV:(N+i)*331300000^2<=V:=by rw[hV];exact YGD _ (by omega)
 intro f
 induction f with
 |zero=>intro a b hb h;exact sep 0 a b hb h
 |succ f ih=>
   intro a b hb h
   by_cases hab:b<=a+1
   . exact Or.inl hab
   rw[<-Nat.succ_eq_add_one,YD2,Ywb]at h
   obtain⟨m,hm⟩:∃m,m=(a+b)/2:=⟨_,rfl⟩
   rw[<-hm,sq_c]at h
   have hmr:1<=m/\m<=1000000000001:=by omega
   obtain⟨d,hd⟩:∃d,d=273150*m^2:=⟨_,rfl⟩
   rw[<-hd]at h
   rcases Yda h with⟨c1,h⟩ |h
   . rcases Yda h with⟨c2,h⟩ |h
     . have hle:=Yni c1
       refine YHT ?_
       rw[<-hm,if_pos (show tstN (N+i) m=true from decide_eq_true (by rw[<-hd];exact YGF hle hUT))]
       exact⟨YgZ hN hmr n1 n2 n3 (YHT ⟨hd,rfl⟩) ((YwJ hmr c2).mono (YGH _) hUT),ih m b hb h⟩
     . exact sep _ a b hb h
   . rcases Yda h with⟨c1,h⟩ |h
     . rcases Yda h with⟨c2,h⟩ |h
       . have hlt:V<d:=YCT c1
         refine YHT ?_
         rw[<-hm,if_neg (show¬tstN (N+i) m=true from fun hh=>by have:=of_decide_eq_true hh;rw[<-hd]at this;omega)]
         exact⟨YgZ hN hmr n1 n2 n3 (Or.inl ⟨rfl,hd⟩) ((YwJ hmr c2).mono hTV (YGH _)),ih a m (by omega) h⟩
       . exact sep _ a b hb h
     . exact sep _ a b hb h
theorem YCS{N c i:Nat}(hi:i<c)(hN:253150<=N+i/\N+i<=323150)(n1:YH 52 (N+i))(n2:YH 52 273150)(n3:YH 52 331300000)(h:blkB N c=true):PthG (AskP (N+i)) (tstN (N+i)) 41 0 1000000000001:=by
 unfold blkB at h
 rw[Yu4,Yu4,YxR]at h
 have e:(331300000:Nat)^2=109759690000000000:=rfl
 exact YD3 hi hN n1 n2 n3 (by rw[e]) (by rw[e]) 41 0 1000000000001 (by decide) h
theorem YCR(N k:Nat):blkR N (Nat.succ k)=bc (blkB (YHG N (YHS 16 k)) 16) false (blkR N k):=rfl
theorem Yx3{N:Nat}:∀k,blkR N k=true->∀i,i<k->blkB (N+16*i) 16=true:=by
 intro k
 induction k with
 |zero=>intro _ i hi;omega
 |succ k ih=>
   intro h i hi
   rw[<-Nat.succ_eq_add_one,YCR,YxR,Yu4]at h
   obtain⟨h1,h2⟩:=Yez h
   rcases Nat.lt_or_eq_of_le (Nat.le_of_lt_succ hi)with h3|h3
   . exact ih h2 i h3
   . rw[h3];exact h1
end Go.Proofs.YtijadllhfgajlaaGreat
