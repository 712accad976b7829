/- append, make, slices written out. -/
import Derived.Test.YtmiclogmkfobgaaGreatMgX51a
import Derived.MapKept
import Derived.Laws.Externs
import Derived.Sort.LoopGhostIn
import Derived.RangeFuncRecord
import Derived.TacticsIn
import Derived.OrdersIn
import Derived.Scope
import Derived.Orders
open Array renaming getElem?_eq_some_iff->YGX
open Bool renaming and_eq_true->YGi,false_and->YHp,false_eq_true->YGC,false_or->YHx,not_eq_true'->YGA,or_eq_false_iff->YG8,or_eq_true->YG6
open Int renaming natCast_mul->YG1
open Go.IntWalk renaming i64_in->YGd
open List renaming getElem?_append->YHs,getElem?_append_left->YGR,getElem?_append_right->YG4,getElem?_take->YHl,length_append->YHg,length_take->YHb,map_cons->YGY,mem_append->YGT,mem_cons->YGK,mem_cons_of_mem->YGx,mem_cons_self->YGy,mem_singleton->YGU
open Nat renaming add_mul->YGG,beq->YGS,eq_of_beq_eq_true->YGD,le_of_eq->YGu,le_refl->YGr,le_trans->YGg,lt_of_lt_of_le->YGV,lt_or_ge->YGz,mod_lt->YGJ,mul_le_mul_right->YGf,not_lt_zero->YG7,one_mul->YGW,succ_mul->YHD,zero_add->YHu,zero_le->YHk
open Option renaming bind_eq_some_iff->YGe,map_eq_some_iff->YGh
set_option linter.all false
namespace Go.Vx
open Go.RowKit
section
variable {P:Program} {ρ:Operand->Value} {w w':World} {bs bs':List BK} {B:Bd} {hp:List HO}
theorem Yxs{c:Call}{x y:Operand}(h:c.args.toList=[x,y]):c.args.map ρ= #[ρ x,ρ y]:=by
 apply Array.ext';rw[Array.toList_map,h];rfl
theorem Yhh{l:List Value}{size:Nat}:∀(n:Nat),rowV (fun k=>(l.drop (k*size)).take size) n=l.take (n*size)
 |0=>by simp [rowV]
 |n+1=>by rw[rowV,Yhh n,YHD,List.take_add]
theorem YdJ:Keeps w bs w.drew bs:=Keeps.heap rfl
theorem Yst{f g:Nat->List Value}{size n m:Nat}(hf:∀k,k<n->(f k).length=size)(hg:∀k,k<m->(g k).length=size){rest:List Value}{k:Nat}(hk:k<n+m):
 ((rowV f n++rowV g m++rest).drop (k*size)).take size=if k<n then f k else g (k-n):=by
 have hl1:=YaK hf
 have hl2:=YaK hg
 by_cases h:k<n
 ·rw[if_pos h]
  have:k*size+size<=n*size:=by rw[<-YHD];exact YGf _ h
  rw[List.append_assoc,List.drop_append_of_le_length (by omega),List.take_append_of_le_length (by simp;omega)]
  exact YdX hf k h
 ·rw[if_neg h]
  obtain⟨j,rfl⟩:∃j,k=n+j:=⟨k-n,by omega⟩
  have hj:j<m:=by omega
  have:j*size+size<=m*size:=by rw[<-YHD];exact YGf _ hj
  rw[List.append_assoc,YGG,<-hl1,<-List.drop_drop,List.drop_left,List.drop_append_of_le_length (by omega),List.take_append_of_le_length (by simp;omega),Nat.add_sub_cancel_left]
  exact YdX hg j hj
theorem YzP{f g:Nat->List Value}{size n m nc:Nat}(hf:∀k,k<n->(f k).length=size)(hg:∀k,k<m->(g k).length=size){rest:List Value}(hr:rest.length=(nc-(n+m))*size)(hnc:n+m<=nc):
 (rowV f n++rowV g m++rest).length=nc*size:=by
 simp only[YHg,YaK hf,YaK hg,hr]
 rw[<-YGG,<-YGG];congr 1;omega
theorem Yi9{wd:World}{f g:Nat->List Value}{fx gx:Nat->List SV}{size n m nc i:Nat}{el:TypeId}{arr:Array Value}
 (hf:∀k,k<n->(f k).length=size)(hg:∀k,k<m->(g k).length=size){rest:List Value}(hr:rest.length=(nc-(n+m))*size)(hnc:n+m<=nc)
 (harr:arr.toList=rowV f n++rowV g m++rest)(hb:bs'[i]? =some (.blk wd.heap.size nc (n+m)))
 (hfx:∀k,k<n->RepL (World.push wd (.cells arr el (0,0))) bs' B (fx k) (f k))(hgx:∀k,k<m->RepL (World.push wd (.cells arr el (0,0))) bs' B (gx k) (g k))(z:Bool)(hz:z=false):
 HRep (World.push wd (.cells arr el (0,0))) bs' B i (.own z size (n+m) fun k=>if k<n then fx k else gx (k-n)):=by
 refine Or.inr ⟨_,nc,arr,el,hb,hz,YaX,?_,hnc,fun k hk=>?_⟩
 ·rw[<-Array.length_toList,harr,YzP hf hg hr hnc]
 ·rw[harr,Yst hf hg hk]
  by_cases h:k<n
  ·simp only[h,if_true];exact hfx k h
  ·simp only[h,if_false];exact hgx (k-n) (by omega)
theorem YiB{c:Call}{x y:Operand}{t1 t2 el el2:TypeId}{size bytes m:Nat}{z:List SV}{b:SV}{gx:Nat->List SV}
 (hc:c.callee= .builtin .append)(ht1:c.argTypes[0]? =some t1)(ht2:c.argTypes[1]? =some t2)(hu1:P.underlying t1=some (.slice el))(hu2:P.underlying t2=some (.slice el2))
 (hs:sizeOf? P el=some size)(hby:bytesOf? P el=some bytes)(hz:Yah P el=some z)(hzl:z.length=size)(hb0:0<bytes)(hs0:0<size)(hargs:c.args.toList=[x,y])
 (hr:Yc4 hp b=some (m,gx))(hcap:YP m bytes)(hl:∀k,k<m->lenL (gx k)=size/\ones (gx k))(ha:ρ x= .slice none 0 0)(hb:Rep w bs B b (ρ y))(hH:Hp w bs B hp)(hB:B<=w.heap.size)(p:Prop):
 MOk P ρ (.call c) w bs B hp ⟨p,.own (lenH hp) 0 m size,.new (.own (decide (m=0)) size m gx)⟩:=by
 have hA:=Yxs (ρ:=ρ) hargs
 by_cases hm:m=0
 ·subst hm
  obtain⟨ax,cx,g,hv,_⟩:=YdW (P:=P) hr hs0 hl hb hH
  rw[ha,hv]at hA
  have hrun:=YgC hc ht1 ht2 hu1 hu2 hs hA (w:=w)
  refine⟨_,.slice none 0 0,w,bs++[.nil],hrun,.inl rfl,.ownNil _ _ (Y4 hH),YoB hH (by simp) rfl,Yrg,Yw _ _,Below.refl _ _⟩
 ·have hheap:w.drew.heap=w.heap:=rfl
  have hbel:Below B w w.drew:=(Below.refl B w).drew
  have hgr:∀{ax cx}{arr:Array Value},c.args.map ρ= #[.slice none 0 0,.slice ax m cx]->(Builtin.firstCells size m (.slice ax m cx)).run P w.drew= .ok arr w.drew->_:=
   fun {ax cx arr} h1 h2=>Yex (w:=w) (ρ:=ρ) (ty:=t1) (va:=ρ x) (vx:=ρ y) (n:=0) (cap:=0) (a:=none) hc ht1 ht2 hu1 hu2 hs hby hz hzl hb0 hs0 h1 (by simpa using hcap) (by omega) (old:= #[]) (new:=arr) rfl h2
  have hbd:Rep w.drew bs B b (ρ y):=hb.keep YdJ Stays.refl YdQ
  generalize w.drew=wd at*
  have hHd:Hp wd bs B hp:=hH.heap_eq hheap
  obtain⟨ax,cx,g,hv,hgl,hgrr,hone,arr,harr,harrl⟩:=YdW (P:=P) hr hs0 hl hbd hHd
  rw[ha,hv]at hA
  rw[hv]at harr
  obtain⟨nc,rest,hnc,hrun,hrest⟩:=hgr hA harr
  rw[YHu]at hnc hrun
  have hkp:=Y8 (w:=wd) (bs:=bs) (#[]++arr++rest) el nc m
  have hlast:(bs++[BK.blk wd.heap.size nc m])[lenH hp]? =some (.blk wd.heap.size nc m):=Y4 hH
  have hown:=Yi9 (wd:=wd) (bs':=bs++[.blk wd.heap.size nc m]) (B:=B) (f:=fun _=>[]) (g:=g) (fx:=fun _=>[]) (gx:=gx) (size:=size) (n:=0) (m:=m) (nc:=nc) (i:=lenH hp) (el:=el) (arr:= #[]++arr++rest) (rest:=rest.toList)
   (fun k hk=>by omega) hgl (by simpa using hrest) (by omega) (by simp only[Array.toList_append,harrl];rfl) (by rw[YHu];exact hlast) (fun k hk=>by omega) (fun k hk=>(hgrr k hk).keep hkp (Yw _ _) Yi) (decide (m=0)) (by simp [hm])
  simp only[YHu,YG7,if_false,Nat.sub_zero]at hown
  refine⟨_,_,_,bs++[.blk wd.heap.size nc m],hrun,.inl rfl,?_,Yg5 hHd (by rw[hheap];exact hB) hown,?_,Yw _ _,?_⟩
  ·rw[hheap]at hlast
   have:=Rep.own (w:=World.push wd (.cells (#[]++arr++rest) el (0,0))) (B:=B) (lenH hp) 0 m size _ nc m ⟨w.heap.size,0,none⟩ (hheap▸hlast) (by omega) (.inl (by simp [hheap]))
   simpa [hheap]using this
  ·exact fun b hf o ho=>hkp b hf o (by rw[hheap];exact ho)
  ·exact hbel.trans (Y1 _ (by rw[hheap];exact hB))
theorem YiC{c:Call}{x y:Operand}{t1 t2 el el2:TypeId}{size bytes m i n n':Nat}{z:List SV}{b:SV}{gx get:Nat->List SV}{zb:Bool}
 (hc:c.callee= .builtin .append)(ht1:c.argTypes[0]? =some t1)(ht2:c.argTypes[1]? =some t2)(hu1:P.underlying t1=some (.slice el))(hu2:P.underlying t2=some (.slice el2))
 (hs:sizeOf? P el=some size)(hby:bytesOf? P el=some bytes)(hz:Yah P el=some z)(hzl:z.length=size)(hb0:0<bytes)(hs0:0<size)(hargs:c.args.toList=[x,y])
 (hr:Yc4 hp b=some (m,gx))(hcap:YP (n+m) bytes)(hl:∀k,k<m->lenL (gx k)=size/\ones (gx k))(ha:Rep w bs B (.own i 0 n size) (ρ x))(hb:Rep w bs B b (ρ y))(hH:Hp w bs B hp)(hB:B<=w.heap.size)
 (hg:getH hp i= .own zb size n' get)(p:Prop):
 MOk P ρ (.call c) w bs B hp ⟨p,.own i 0 (n+m) size,.app i (.own (zb&&decide (m=0)) size (n+m) fun k=>if k<n then Yj i (get k)else Yj i (gx (k-n)))⟩:=by
 have hA:=Yxs (ρ:=ρ) hargs
 have hent:=hH.ent i
 rw[hg]at hent
 have hi:i<lenH hp:=by
  rcases YGz i (lenH hp)with h|h
  ·exact h
  ·rw[Ybb _ _ h]at hg;cases hg
 have hib:i<bs.length:=by rw[hH.len];exact hi
 have st:∀x,Stays (some i) bs (bs.set i x):=fun x j y hj hy _=>by rw[List.getElem?_set_ne (fun he=>hj (by rw[he]))];exact hy
 have get_i:∀x:BK,(bs.set i x)[i]? =some x:=fun x=>by rw[List.getElem?_set_self hib]
 have set_inv:∀(x:BK)(j b c k:Nat),(bs.set i x)[j]? =some (.blk b c k)->bs[j]? =some (.blk b c k)\/x= .blk b c k:=by
  intro x j b c k h
  by_cases hij:i=j
  ·subst hij;rw[get_i]at h;cases h;exact .inr rfl
  ·rw[List.getElem?_set_ne hij]at h;exact .inl h
 --behind an append that grows
 have grow:∀(wd:World)(f:Nat->List Value)(g:Nat->List Value)(arr rest:Array Value)(old:Array Value)(nc:Nat),wd.heap=w.heap->Below B w wd->(∀k,k<n->(f k).length=size)->(∀k,k<m->(g k).length=size)->
  n+m<=nc->rest.size=(nc-(n+m))*size->old.toList=rowV f n->arr.toList=rowV g m->(∀k,k<n->RepL w bs B (get k) (f k))->(∀k,k<m->RepL w bs B (gx k) (g k))->(zb&&decide (m=0))=false->
  (∀dst type pos after guard,(execOp ρ ⟨dst,.call c,type,pos,after,guard⟩).run P w= .ok (.value (.slice (some ⟨w.heap.size,0,none⟩) (n+m) nc)) (World.push wd (.cells (old++arr++rest) el (0,0))))->
  MOk P ρ (.call c) w bs B hp ⟨p,.own i 0 (n+m) size,.app i (.own (zb&&decide (m=0)) size (n+m) fun k=>if k<n then Yj i (get k)else Yj i (gx (k-n)))⟩:=by
  intro wd f g arr rest old nc hheap hbel hfl hgl hnc hrest hold harr hfr hgr hzb hrun
  have hkp:Keeps w bs (World.push wd (.cells (old++arr++rest) el (0,0))) (bs.set i (.blk wd.heap.size nc (n+m))):=by
   intro b hf o ho
   have hbs:b<w.heap.size:=(YGX.1 ho).1
   refine⟨Ygq (by rw[hheap];exact ho),fun j b' c k hj=>?_⟩
   rcases set_inv _ _ _ _ _ hj with h|h
   ·exact hf j b' c k h
   ·cases h;rw[hheap];omega
  have hown:=Yi9 (wd:=wd) (bs':=bs.set i (.blk wd.heap.size nc (n+m))) (B:=B) (f:=f) (g:=g) (fx:=fun k=>Yj i (get k)) (gx:=fun k=>Yj i (gx k)) (size:=size) (n:=n) (m:=m) (nc:=nc) (i:=i) (el:=el) (arr:=old++arr++rest) (rest:=rest.toList)
   hfl hgl (by simpa using hrest) hnc (by simp [hold,harr]) (get_i _) (fun k hk=>Yak hkp (st _) (hfr k hk)) (fun k hk=>Yak hkp (st _) (hgr k hk)) (zb&&decide (m=0)) hzb
  have hsz:(World.push wd (.cells (old++arr++rest) el (0,0))).heap.size=w.heap.size+1:=by
   show(wd.heap.push _).size=_
   rw[Array.size_push,hheap]
  refine⟨_,_,_,bs.set i (.blk wd.heap.size nc (n+m)),hrun,.inl rfl,?_,Yp4 hH hi hkp (by omega) ?_ ?_ hown,hkp,st _,hbel.trans (Y1 _ (by rw[hheap];exact hB))⟩
  ·have:=Rep.own (w:=World.push wd (.cells (old++arr++rest) el (0,0))) (bs:=bs.set i (.blk wd.heap.size nc (n+m))) (B:=B) i 0 (n+m) size _ nc (n+m) ⟨wd.heap.size,0,none⟩ (get_i _) (by omega) (.inl (by simp))
   rw[hheap]at this⊢
   simpa using this
  ·intro j b c k hj hbj
   have:=(hH.lo j b c k hbj).2
   show(wd.heap.push _)[b]? =_
   rw[Array.getElem?_push,if_neg (by rw[hheap];omega),hheap]
  ·intro b c k hx
   cases hx
   refine⟨⟨by rw[hheap];exact hB,by rw[hsz,hheap];omega⟩,fun j c' n' hj hbj=>?_⟩
   have:=(hH.lo j _ c' n' hbj).2
   rw[hheap]at this;omega
 have hgrowop:∀{a cap ax cx}{old arr:Array Value},cap<n+m->c.args.map ρ= #[.slice a n cap,.slice ax m cx]->(Builtin.firstCells size n (.slice a n cap)).run P w.drew= .ok old w.drew->(Builtin.firstCells size m (.slice ax m cx)).run P w.drew= .ok arr w.drew->_:=
  fun {a cap ax cx old arr} h0 h1 h2 h3=>Yex (w:=w) (ρ:=ρ) (ty:=t1) (va:=ρ x) (vx:=ρ y) (n:=n) (cap:=cap) (a:=a) hc ht1 ht2 hu1 hu2 hs hby hz hzl hb0 hs0 h1 hcap h0 (old:=old) (new:=arr) h2 h3
 have hheap:w.drew.heap=w.heap:=rfl
 have hbel:Below B w w.drew:=(Below.refl B w).drew
 have hbd:Rep w.drew bs B b (ρ y):=hb.keep YdJ Stays.refl YdQ
 generalize w.drew=wd at*
 have hHd:Hp wd bs B hp:=hH.heap_eq hheap
 obtain⟨ax,cx,g,hv,hgl,hgr,hone,arr,harr,harrl⟩:=YdW (P:=P) hr hs0 hl hbd hHd
 have hgr':∀k,k<m->RepL w bs B (gx k) (g k):=fun k hk=>(hgr k hk).keep (Keeps.heap hheap.symm) Stays.refl Yi
 rw[hv]at harr
 generalize hρ:ρ x=v at ha hA
 rw[hv]at hA
 cases ha with
 |x _ _ h=>cases h
 |ownNil _ _ hbs=>
  rcases hent with⟨_,hz1,hn'⟩ | ⟨_,_,_,_,h,_⟩
  case inr=>rw[hbs]at h;cases h
  subst hz1;subst hn'
  by_cases hm:m=0
  ·subst hm
   have hrun:=YgC hc ht1 ht2 hu1 hu2 hs hA (w:=w)
   have hbs':bs.set i .nil=bs:=by
    apply List.ext_getElem?
    intro j
    by_cases hij:i=j
    ·subst hij;rw[get_i,hbs]
    ·rw[List.getElem?_set_ne hij]
   refine⟨_,.slice none 0 0,w,bs,hrun,.inl rfl,.ownNil _ _ hbs,?_,Keeps.refl,Stays.refl,Below.refl _ _⟩
   have h1:HRep w (bs.set i .nil) B i (.own (true&&decide (0=0)) size (0+0) fun k=>if k<0 then Yj i (get k)else Yj i (gx (k-0))):=Or.inl ⟨get_i _,by simp,rfl⟩
   have:=Yp4 hH hi (by rw[hbs'];exact Keeps.refl) (YGr _) (fun _ _ _ _ _ _=>rfl) (fun _ _ _ h=>by cases h) h1
   rw[hbs']at this
   exact this
  ·have ho:(Builtin.firstCells size 0 (.slice none 0 0)).run P wd= .ok #[] wd:=rfl
   obtain⟨nc,rest,hnc,hrun,hrest⟩:=hgrowop (by omega) hA ho harr
   exact grow wd (fun _=>[]) g arr rest #[] nc hheap hbel (fun k hk=>by omega) hgl hnc hrest rfl harrl (fun k hk=>by omega) hgr' (by simp [hm]) hrun
 |own _ _ _ _ blk cap mm ad hbs hlm had=>
  rcases hent with⟨h,_⟩ | ⟨b',cap',vs,T,h1,h2,h3,h4,h5,h6⟩
  case inl=>rw[hbs]at h;cases h
  rw[hbs]at h1;cases h1
  subst h2
  simp only[Nat.sub_zero,YHu,Nat.zero_mul]at hA had hlm
  have hnc:n*size<=cap*size:=YGf _ (by omega)
  have hfl:∀k,k<n->((vs.toList.drop (k*size)).take size).length=size:=by
   intro k hk
   have:k*size+size<=cap*size:=by rw[<-YHD];exact YGf _ (by omega)
   simp [h4];omega
  by_cases hfit:n+m<=cap
  ·have had0:ad=⟨blk,0,none⟩:=by
    rcases had with h|h
    ·exact h
    ·omega
   subst had0
   obtain⟨ax',cx',gw,hvw,hglw,hgrw,honew,arrw,harrw,harrlw⟩:=YdW (P:=P) hr hs0 hl hb hH
   rw[hv]at hvw;cases hvw
   rw[hv]at harrw
   have hal:arrw.size=m*size:=by rw[<-Array.length_toList,harrlw,YaK hglw]
   have hle:n*size+m*size<=vs.size:=by rw[h4,<-YGG];exact YGf _ hfit
   obtain⟨w',cs',hrun,hwr,hcs⟩:=Yok (P:=P) (ρ:=ρ) (w:=w) (size:=size) hc ht1 ht2 hu1 hu2 hs hA hfit harrw h3 (by rw[hal];simpa using hle) (by rw[harrlw];exact honew)
   rw[YHu]at hcs
   have hkp:Keeps w bs w' (bs.set i (.blk blk cap (n+m))):=by
    intro b0 hf o ho
    have hne:blk≠b0:=hf i blk cap _ hbs
    refine⟨by rw[hwr.other b0 (by omega)];exact ho,fun j b' c k hj=>?_⟩
    rcases set_inv _ _ _ _ _ hj with h|h
    ·exact hf j b' c k h
    ·cases h;exact hne
   have hlen:cs'.size=vs.size:=by
    have:=congrArg List.length hcs
    rw[Yij (by simp [hal];exact hle)]at this
    simpa using this
   have helem:∀k,k<n+m->(cs'.toList.drop (k*size)).take size=if k<n then(vs.toList.drop (k*size)).take size else gw (k-n):=by
    intro k hk
    have e:cs'.toList=rowV (fun k=>(vs.toList.drop (k*size)).take size) n++rowV gw m++vs.toList.drop (n*size+m*size):=by
     rw[hcs,Yhh,<-harrlw]
     simp [YJ,hal]
    rw[e]
    exact Yst hfl hglw hk
   refine⟨_,_,w',bs.set i (.blk blk cap (n+m)),hrun,.inl rfl,?_,Yp4 hH hi hkp (YGu hwr.size.symm) ?_ ?_ (Or.inr ⟨blk,cap,cs',T,get_i _,rfl,hwr.at_,by rw[hlen,h4],hfit,fun k hk=>?_⟩),hkp,st _,hwr.below (hH.lo _ _ _ _ hbs).1⟩
   ·have:=Rep.own (w:=w') (bs:=bs.set i (.blk blk cap (n+m))) (B:=B) i 0 (n+m) size _ cap (n+m) ⟨blk,0,none⟩ (get_i _) (by omega) (.inl (by simp))
    simpa using this
   ·intro j b0 c k hj hbj
    refine hwr.other b0 fun he=>hj ?_
    subst he
    exact hH.inj j i _ _ _ _ _ hbj hbs
   ·intro b0 c k hx
    cases hx
    refine⟨⟨(hH.lo _ _ _ _ hbs).1,by rw[hwr.size];exact(hH.lo _ _ _ _ hbs).2⟩,fun j c' n' hj hbj=>hj (hH.inj j i _ _ _ _ _ hbj hbs)⟩
   ·rw[helem k hk]
    by_cases hkn:k<n
    ·simp only[hkn,if_true];exact Yak hkp (st _) (h6 k (by omega))
    ·simp only[hkn,if_false];exact Yak hkp (st _) (hgrw (k-n) (by omega))
  ·have had':ad.spot=none/\Cells wd ad.block ad.off (vs.toList.take (n*size)):=by
    rcases had with rfl|hh
    ·exact⟨rfl,vs,T,_,by rw[hheap];exact h3,fun j v hj=>by
      rw[YHl]at hj
      split at hj
      ·simpa using hj
      ·cases hj⟩
    ·omega
   have ho:(Builtin.firstCells size n (.slice (some ad) n cap)).run P wd= .ok (vs.toList.take (n*size)).toArray wd:=by
    have:=Yfd (P:=P) (w:=wd) had'.1 had'.2
    simp only[YHb,Array.length_toList,h4,Nat.min_eq_left hnc]at this
    exact this
   obtain⟨nc,rest,hnc',hrun,hrest⟩:=hgrowop (by omega) hA ho harr
   exact grow wd (fun k=>(vs.toList.drop (k*size)).take size) g arr rest _ nc hheap hbel hfl hgl hnc' hrest (by simp [Yhh]) harrl (fun k hk=>h6 k (by omega)) hgr' rfl hrun
theorem Yhx{size m c c':Nat}{a:Option Addr}:Builtin.firstCells size m (.slice a m c)=Builtin.firstCells size m (.slice a m c'):=by
 cases a <;> rfl
theorem YiA{c:Call}{x y:Operand}{t1 t2 el el2:TypeId}{size bytes n m:Nat}{z:List SV}{a b:SV}{gy gx:Nat->List SV}
 (hc:c.callee= .builtin .append)(ht1:c.argTypes[0]? =some t1)(ht2:c.argTypes[1]? =some t2)(hu1:P.underlying t1=some (.slice el))(hu2:P.underlying t2=some (.slice el2))
 (hs:sizeOf? P el=some size)(hby:bytesOf? P el=some bytes)(hz:Yah P el=some z)(hzl:z.length=size)(hb0:0<bytes)(hs0:0<size)(hargs:c.args.toList=[x,y])
 (hry:Yc4 hp a=some (n,gy))(hr:Yc4 hp b=some (m,gx))(hm:0<m)(hcap:YP (n+m) bytes)(hly:∀k,k<n->lenL (gy k)=size/\ones (gy k))(hl:∀k,k<m->lenL (gx k)=size/\ones (gx k))
 (ha:Rep w bs B (.cut a) (ρ x))(hb:Rep w bs B b (ρ y))(hH:Hp w bs B hp)(hB:B<=w.heap.size)(p:Prop):
 MOk P ρ (.call c) w bs B hp ⟨p,.own (lenH hp) 0 (n+m) size,.new (.own false size (n+m) fun k=>if k<n then gy k else gx (k-n))⟩:=by
 have hA:=Yxs (ρ:=ρ) hargs
 generalize hvx:ρ x=vx at ha hA
 cases ha with
 |x _ _ h=>cases h
 |cut _ aa n' cap' ha=>
 have hheap:w.drew.heap=w.heap:=rfl
 have hbel:Below B w w.drew:=(Below.refl B w).drew
 have hgr:∀{ax cx}{old arr:Array Value},n'=n->c.args.map ρ= #[.slice aa n n,.slice ax m cx]->(Builtin.firstCells size n (.slice aa n n)).run P w.drew= .ok old w.drew->(Builtin.firstCells size m (.slice ax m cx)).run P w.drew= .ok arr w.drew->_:=
  fun {ax cx old arr} _ h1 h2 h3=>Yex (w:=w) (ρ:=ρ) (ty:=t1) (va:=ρ x) (vx:=ρ y) (n:=n) (cap:=n) (a:=aa) hc ht1 ht2 hu1 hu2 hs hby hz hzl hb0 hs0 h1 hcap (by omega) (old:=old) (new:=arr) h2 h3
 have had:Rep w.drew bs B a (.slice aa n' cap'):=ha.keep YdJ Stays.refl YdQ
 have hbd:Rep w.drew bs B b (ρ y):=hb.keep YdJ Stays.refl YdQ
 generalize w.drew=wd at*
 have hHd:Hp wd bs B hp:=hH.heap_eq hheap
 obtain⟨ax,cx,g,hv,hgl,hgrr,hone,arr,harr,harrl⟩:=YdW (P:=P) hr hs0 hl hbd hHd
 obtain⟨ax2,cx2,g2,hv2,hgl2,hgrr2,hone2,arr2,harr2,harrl2⟩:=YdW (P:=P) hry hs0 hly had hHd
 simp only[Value.slice.injEq]at hv2
 obtain⟨rfl,rfl,rfl⟩:=hv2
 rw[hv]at hA
 rw[hv]at harr
 rw[Yhx (c':=n')]at harr2
 obtain⟨nc,rest,hnc,hrun,hrest⟩:=hgr rfl hA harr2 harr
 have hkp:=Y8 (w:=wd) (bs:=bs) (arr2++arr++rest) el nc (n'+m)
 have hlast:(bs++[BK.blk wd.heap.size nc (n'+m)])[lenH hp]? =some (.blk wd.heap.size nc (n'+m)):=Y4 hH
 have hown:=Yi9 (wd:=wd) (bs':=bs++[.blk wd.heap.size nc (n'+m)]) (B:=B) (f:=g2) (g:=g) (fx:=gy) (gx:=gx) (size:=size) (n:=n') (m:=m) (nc:=nc) (i:=lenH hp) (el:=el) (arr:=arr2++arr++rest) (rest:=rest.toList)
  hgl2 hgl (by simpa using hrest) hnc (by simp only[Array.toList_append,harrl,harrl2]) hlast (fun k hk=>(hgrr2 k hk).keep hkp (Yw _ _) Yi) (fun k hk=>(hgrr k hk).keep hkp (Yw _ _) Yi) false rfl
 refine⟨_,_,_,bs++[.blk wd.heap.size nc (n'+m)],hrun,.inl rfl,?_,Yg5 hHd (by rw[hheap];exact hB) hown,?_,Yw _ _,?_⟩
 ·rw[hheap]at hlast
  have:=Rep.own (w:=World.push wd (.cells (arr2++arr++rest) el (0,0))) (B:=B) (lenH hp) 0 (n'+m) size _ nc (n'+m) ⟨w.heap.size,0,none⟩ (hheap▸hlast) (by omega) (.inl (by simp [hheap]))
  simpa [hheap]using this
 ·exact fun b hf o ho=>hkp b hf o (by rw[hheap];exact ho)
 ·exact hbel.trans (Y1 _ (by rw[hheap];exact hB))
theorem Yp6{c:Call}{x y:Operand}{t1 t2 el el2:TypeId}{size bytes:Nat}{z:List SV}{xs:List SV}{e:Ef}
 (hc:c.callee= .builtin .append)(ht1:c.argTypes[0]? =some t1)(ht2:c.argTypes[1]? =some t2)(hu1:P.underlying t1=some (.slice el))(hu2:P.underlying t2=some (.slice el2))
 (hs:sizeOf? P el=some size)(hby:bytesOf? P el=some bytes)(hz:Yah P el=some z)(hzl:z.length=size)(hb0:0<bytes)(hs0:0<size)(hargs:c.args.toList=[x,y])
 (he:YbB (lenH hp) hp size bytes xs=some e)(hpre:e.pre)(hx:RepL w bs B xs ([x,y].map ρ))(hH:Hp w bs B hp)(hB:B<=w.heap.size):MOk P ρ (.call c) w bs B hp e:=by
 unfold YbB at he
 split at he
 ·rename_i a b
  obtain⟨ha,hb⟩:=two hx
  split at he
  ·obtain⟨⟨m,gx⟩,hr,he⟩:=YGe.1 he
   simp only[eNew,Option.some.injEq]at he
   subst he
   exact YiB hc ht1 ht2 hu1 hu2 hs hby hz hzl hb0 hs0 hargs hr hpre.1 hpre.2 ha.nil_inv hb hH hB _
  ·split at he
   ·rename_i hg
    obtain⟨⟨m,gx⟩,hr,heq⟩:=YGh.1 he
    simp only at heq
    subst heq
    obtain⟨rfl,rfl,hcap,hl⟩:=hpre
    exact YiC hc ht1 ht2 hu1 hu2 hs hby hz hzl hb0 hs0 hargs hr hcap hl ha hb hH hB hg _
   ·cases he
  ·obtain⟨⟨n,gy⟩,hry,he⟩:=YGe.1 he
   obtain⟨⟨m,gx⟩,hr,he⟩:=YGe.1 he
   simp only[eNew,Option.some.injEq]at he
   subst he
   exact YiA hc ht1 ht2 hu1 hu2 hs hby hz hzl hb0 hs0 hargs hry hr hpre.1 hpre.2.1 hpre.2.2.1 hpre.2.2.2 ha hb hH hB _
  ·cases he
 ·cases he
theorem YnT{zs:List SV}{z:List Value}(h:RepL w bs B zs z):∀n,RepL w bs B (repL n zs) (rowV (fun _=>z) n)/\(rowV (fun _=>z) n).length=n*z.length
 |0=>⟨.nil,by simp [rowV]⟩
 |n+1=>by
  obtain⟨h1,h2⟩:=YnT h n
  have e:∀n,rowV (fun _=>z) n++z=z++rowV (fun _=>z) n:=by
   intro n
   induction n with
   |zero=>simp [rowV]
   |succ n ih=>simp only[rowV];rw[<-List.append_assoc,<-ih]
  refine⟨?_,by simp only[rowV,YHg,h2];rw[YHD]⟩
  simp only[rowV,e,repL]
  exact h.append h1
theorem Ys8(z:Array Value)(h:0<z.size):∀n,((Array.range (n*z.size)).map (fun i=>z[i%z.size]!)).toList=rowV (fun _=>z.toList) n:=by
 intro n
 apply List.ext_getElem?
 intro j
 have hlen:(rowV (fun _=>z.toList) n).length=n*z.size:=YaK (fun _ _=>by simp)
 by_cases hj:j<n*z.size
 ·have hm:=YGJ j h
  obtain⟨v,hv⟩:∃v,(rowV (fun _=>z.toList) n)[j]? =some v:=⟨(rowV (fun _=>z.toList) n)[j]'(by omega),by simp [hlen,hj]⟩
  obtain⟨_,h2⟩:=YjA h (f:=fun _=>z.toList) (n:=n) (fun _ _=>by simp) j v hv
  rw[hv]
  simp only[Array.toList_map,Array.toList_range,List.getElem?_map,List.getElem?_range hj,Option.map_some]
  rw[<-h2]
  simp [hm]
 ·rw[List.getElem?_eq_none (by simp;omega),List.getElem?_eq_none (by omega)]
theorem YyV{l c:Operand}{t el:TypeId}{size bytes:Nat}{z:List SV}{xs:List SV}{e:Ef}(hu:P.underlying t=some (.slice el))(hs:sizeOf? P el=some size)(hby:bytesOf? P el=some bytes)(hz:Yah P el=some z)
 (hb0:0<bytes)(he:YqL (lenH hp) size bytes z xs=some e)(hpre:e.pre)(hx:RepL w bs B xs ([l,c].map ρ))(hH:Hp w bs B hp)(hB:B<=w.heap.size):MOk P ρ (.makeSlice t l c) w bs B hp e:=by
 unfold YqL at he
 split at he
 ·rename_i k1 n k2 cp
  simp only[eNew,Option.some.injEq]at he
  subst he
  obtain⟨hzl,hs0,hn0,hnc,hcap⟩:=hpre
  obtain⟨h1,h2⟩:=two hx
  have h1:=h1.int_inv;have h2:=h2.int_inv
  obtain⟨zv,hzv,hzr⟩:=Y5 (P:=P) (w:=w) (bs:=bs) (B:=B) hz
  have hzs:zv.cells.size=size:=by rw[<-hzl,hzr.length];simp
  unfold bytesOf? at hby
  obtain⟨ti,hti,htb⟩:=YGh.1 hby
  have hcb:cp.toNat<=140737488355328:=by
   have h3:cp.toNat*bytes<=140737488355328:=hcap
   exact YGg (Nat.le_mul_of_pos_right _ hb0) h3
  have hw1:IntKind.i64.wrap n=n:=YGd _ ⟨by omega,by omega⟩
  have hw2:IntKind.i64.wrap cp=cp:=YGd _ ⟨by omega,by omega⟩
  have hbi:(bytes:Int)*cp<=140737488355328:=by
   have h3:cp.toNat*bytes<=140737488355328:=hcap
   have h4:((cp.toNat*bytes:Nat):Int)<=140737488355328:=by generalize cp.toNat*bytes=q at h3⊢;omega
   rw[YG1,Int.toNat_of_nonneg (by omega),Int.mul_comm]at h4
   exact h4
  have hrow:=Ys8 zv.cells (by omega) cp.toNat
  rw[hzs]at hrow
  let row:=(Array.range (cp.toNat*size)).map (fun i=>zv.cells[i%zv.cells.size]!)
  have hrow':row.toList=rowV (fun _=>zv.cells.toList) cp.toNat:=by simp only[row,hzs];exact hrow
  have hrun:(Instr.makeSlice t (.int k1 n) (.int k2 cp)).run P w= .ok (.slice (some ⟨w.heap.size,0,none⟩) n.toNat cp.toNat) (World.push w (.cells row el (0,0))):=by
   subst htb
   have h48:(2:Int)^48=281474976710656:=by decide
   have hcond:¬((decide (cp<0) || decide ((ti.bytes:Int)*cp>2^48) || decide (n<0) || decide (n>cp))=true):=by
    rw[h48]
    simp only[YG6,decide_eq_true_eq]
    omega
   unfold Instr.makeSlice
   by_cases h0:cp.toNat*size=0
   ·have hrow0:row= #[]:=by simp [row,h0]
    simp only[Sem.run_bind,run_underlying hu,Result.andThen_ok,asInt,Yae,Sem.run_pure,typeInfo,run_program,hti,hw1,hw2,hcond,YGC,if_false,run_askRoom,YA hs,h0,if_true,newRow,run_newObj,hrow0]
    have he0:∀f:Nat->Value,Array.map f (Array.range 0)= #[]:=fun f=>by simp
    rw[he0];rfl
   ·simp only[Sem.run_bind,run_underlying hu,Result.andThen_ok,asInt,Yae,Sem.run_pure,typeInfo,run_program,hti,hw1,hw2,hcond,YGC,if_false,run_askRoom,YA hs,h0,newRow,run_newObj,hzv]
    rfl
  have hkp:=Y8 (w:=w) (bs:=bs) row el cp.toNat n.toNat
  have hlast:(bs++[BK.blk w.heap.size cp.toNat n.toNat])[lenH hp]? =some (.blk w.heap.size cp.toNat n.toNat):=Y4 hH
  have hown:HRep (World.push w (.cells row el (0,0))) (bs++[.blk w.heap.size cp.toNat n.toNat]) B (lenH hp) (.own false size n.toNat fun _=>z):=by
   refine Or.inr ⟨_,_,_,_,hlast,rfl,YaX,?_,by omega,fun k hk=>?_⟩
   ·rw[<-Array.length_toList,hrow',YaK (fun _ _=>by simpa using hzs)]
   ·rw[hrow',YdX (f:=fun _=>zv.cells.toList) (n:=cp.toNat) (fun _ _=>by simpa using hzs) k (by omega)]
    exact hzr.keep hkp (Yw _ _) Yi
  refine⟨.value (.slice (some ⟨w.heap.size,0,none⟩) n.toNat cp.toNat),_,World.push w (.cells row el (0,0)),bs++[.blk w.heap.size cp.toNat n.toNat],fun dst type pos after guard=>?_,.inl rfl,?_,Yg5 hH hB hown,hkp,Yw _ _,Y1 _ hB⟩
  ·simp only[execOp,h1,h2,Sem.run_bind,hrun,Result.andThen_ok,Sem.run_pure]
  ·have:=Rep.own (w:=World.push w (.cells row el (0,0))) (B:=B) (lenH hp) 0 n.toNat size _ cp.toNat n.toNat ⟨w.heap.size,0,none⟩ hlast (by omega) (.inl (by simp))
   simpa using this
 ·cases he
theorem YiI{t el:TypeId}{len size:Nat}{parts:Array (Nat×Operand)}{z:List SV}{xs:List SV}{p:Prop}{cs:List SV}(hu:P.underlying t=some (.slice el))(hs:sizeOf? P el=some size)(hz:Yah P el=some z)
 (hlim:len*size<=16777216)(he:YQ (repL len z) (parts.toList.map fun p=>(p.1*size,size)) xs=some (p,cs))(hpre:p/\lenL z=size/\0<size)(hx:RepL w bs B xs ((parts.toList.map (·.2)).map ρ))
 (hH:Hp w bs B hp) (hB:B<=w.heap.size):
 MOk P ρ (.buildSlice t len parts) w bs B hp ⟨p/\lenL z=size/\0<size,.own (lenH hp) 0 len size,.new (.own false size len (YaN size cs))⟩:=by
 obtain⟨hpp,hzl,hs0⟩:=hpre
 obtain⟨zv,hzv,hzr⟩:=Y5 (P:=P) (w:=w) (bs:=bs) (B:=B) hz
 have hzs:zv.cells.size=size:=by rw[<-hzl,hzr.length];simp
 have hrow:=Ys8 zv.cells (by omega) len
 rw[hzs]at hrow
 let row:=(Array.range (len*size)).map (fun i=>(if len*size=0 then(#[]:Array Value)else zv.cells)[i%(if len*size=0 then(#[]:Array Value)else zv.cells).size]!)
 have hrow':row.toList=rowV (fun _=>zv.cells.toList) len:=by
  by_cases h0:len*size=0
  ·have hl0:len=0:=by
    rcases Nat.mul_eq_zero.1 h0 with h|h
    ·exact h
    ·omega
   subst hl0
   simp [row,rowV]
  ·simp only[row,h0,if_false,hzs];exact hrow
 obtain⟨hrr,hrl⟩:=YnT hzr len
 rw[<-hrow']at hrr
 obtain⟨out,ho,hro⟩:=Yi3 (ρ:=ρ) (place:=fun i=>some (i*size,size)) (parts:=parts.toList) (cells:=row) he hpp rfl (fun x hx=>rfl) hrr (by rw[List.map_map]at hx;exact hx)
 have hol:out.size=len*size:=by
  have h1:∀{cs:List SV}{pl:List (Nat×Nat)}{xs:List SV}{p:Prop}{r:List SV},YQ cs pl xs=some (p,r)->lenL r=lenL cs:=by
   intro cs pl
   induction pl generalizing cs with
   |nil=>intro xs p r h;cases xs <;> simp [YQ]at h;rw[h.2]
   |cons a pl ih=>
    intro xs p r h
    cases xs with
    |nil=>simp [YQ]at h
    |cons x xs=>
     simp only[YQ]at h
     obtain⟨⟨q,r'⟩,hq,heq⟩:=YGh.1 h
     simp only[Prod.mk.injEq]at heq
     rw[<-heq.2,ih hq,YeJ]
  have h2:=h1 he
  rw[hro.length,hrr.length,hrow',hrl]at h2
  simp at h2
  rw[h2,hzs]
 have hkp:=Y8 (w:=w) (bs:=bs) out el len len
 have hlast:(bs++[BK.blk w.heap.size len len])[lenH hp]? =some (.blk w.heap.size len len):=Y4 hH
 have hown:HRep (World.push w (.cells out el (0,0))) (bs++[.blk w.heap.size len len]) B (lenH hp) (.own false size len (YaN size cs)):=
  Or.inr ⟨_,_,_,_,hlast,rfl,YaX,hol,YGr _,fun k hk=>(Ygg hro size k).keep hkp (Yw _ _) Yi⟩
 refine⟨.value (.slice (some ⟨w.heap.size,0,none⟩) len len),.slice (some ⟨w.heap.size,0,none⟩) len len,World.push w (.cells out el (0,0)),bs++[.blk w.heap.size len len],fun dst type pos after guard=>?_,.inl rfl,?_,Yg5 hH hB hown,hkp,Yw _ _,Y1 _ hB⟩
 ·have ho':Instr.fill (fun i=>some (i*size,size)) row (Array.map (fun x=>(x.fst,ρ x.snd)) parts).toList=some out:=by
   rw[Array.toList_map];exact ho
  have hl2:¬(len*size>2^24):=by
   have:(2:Nat)^24=16777216:=by decide
   rw[this];omega
  by_cases h0:len*size=0
  ·simp only[row,h0,if_true]at ho'
   simp only[execOp,Instr.buildSlice,bind_pure_comp,Sem.run_map,Sem.run_bind,Result.andThen_ok,run_underlying hu,YA hs,hl2,if_false,h0,if_true,Sem.run_pure,newRow,run_newObj,ho',show¬(0>2^24)by decide]
   rfl
  ·simp only[row,h0,if_false]at ho'
   simp only[execOp,Instr.buildSlice,bind_pure_comp,Sem.run_map,Sem.run_bind,Result.andThen_ok,run_underlying hu,YA hs,hl2,if_false,h0,Sem.run_pure,newRow,run_newObj,ho',hzv]
   rfl
 ·have:=Rep.own (w:=World.push w (.cells out el (0,0))) (B:=B) (lenH hp) 0 len size _ len len ⟨w.heap.size,0,none⟩ hlast (by omega) (.inl (by simp))
  simpa using this
end
end Go.Vx
namespace Go.Vx
open Go.RowKit
open Go.MapKept (IsKey findNow_spec run_checkKey run_findKey run_keyThatStays run_setObj_map modify_keys)
section
variable {P:Program} {ρ:Operand->Value} {w w':World} {bs bs':List BK} {B:Bd} {hp:List HO}
theorem Yhl{t:TypeId}(h:YfG P t=true):∃k e,P.underlying t=some (.map k e)/\P.underlying k=some .string:=by
 unfold YfG at h
 split at h
 ·rename_i k e hu
  simp only[YGi]at h
  refine⟨k,e,hu,?_⟩
  have h1:=h.1
  unfold YjJ at h1
  split at h1
  ·assumption
  ·cases h1
 ·cases h
theorem YuP{t:TypeId}{r:Operand}{xs:List SV}{e:Ef}(ht:YfG P t=true)(he:eff hp (lenH hp) .mkSet xs=some e)(hx:RepL w bs B xs ([r].map ρ))(hH:Hp w bs B hp)(hB:B<=w.heap.size):
 MOk P ρ (.makeMap t (some r)) w bs B hp e:=by
 simp only[eff]at he
 split at he
 ·rename_i k n
  simp only[eNew,Option.some.injEq]at he
  subst he
  obtain⟨kt,et,hu,hk⟩:=Yhl ht
  obtain⟨v,vs,hv,h1,_⟩:=hx.cons_inv
  simp only[YGY,List.map_nil,List.cons.injEq]at hv
  obtain⟨hρ,_⟩:=hv
  have h1:=h1.int_inv
  rw[h1]at hρ
  refine⟨.value (.map (some w.heap.size)),_,World.push w (.map #[] 0),bs++[.blk w.heap.size 0 0],fun dst type pos after guard=>?_,.inl rfl,?_,?_,YcV _ _ _,Yw _ _,Y1 _ hB⟩
  ·simp [execOp,Instr.makeMap,hρ,run_underlying hu,asInt,asIntOf,Result.andThen,run_newObj,World.push]
  ·exact .smp _ _ (Y4 hH)
  ·exact YrR hH hB ⟨_,_,_,Y4 hH,YaX,[],by simp,rfl,List.nodup_nil⟩
 ·cases he
theorem Yrv{c:Call}{xs:List SV}{e:Ef}{kt et:TypeId}(hc:c.callee= .builtin .len)(ht:c.argTypes[0]?.bind P.underlying=some (.map kt et))
 (he:YiW hp xs=some e)(hx:RepL w bs B xs (c.args.toList.map ρ))(hH:Hp w bs B hp):QOk P ρ (.call c) w bs B e:=by
 unfold YiW at he
 split at he
 ·rename_i i
  obtain⟨v,hv,h1⟩:=Yua hx
  obtain⟨b,hb,rfl⟩:=h1.smp_inv
  have hent:=hH.ent i
  split at he
  ·rename_i l hg
   cases Yh he
   rw[hg]at hent
   obtain⟨b',es,clock,h2,h3,ks,h4,h5,h6⟩:=hent
   rw[hb]at h2;cases h2
   have hl:es.size=l.length:=by
    have:=congrArg List.length h4
    simp only[List.length_map,Array.length_toList]at this
    rw[this,<-h5,List.length_map]
   obtain⟨t,ht1,hu⟩:=YGe.1 ht
   refine⟨rfl,.int .i64 l.length,fun dst type pos after guard=>?_,.x _ _ (.int _ _)⟩
   simp [execOp,resolve,hc,invoke,builtin,Builtin.len_,hv,ht1,run_underlying hu,MapKept.run_getObj_map h3,hl,Result.andThen,goInt]
  ·cases he
 ·cases he
theorem YpV{es:Array MapEntry}{ks:List ByteArray}{s:ByteArray}(h:es.toList.map (·.key)=ks.map .string):∀x∈es.toList,IsKey .string x.key:=by
 intro x hx
 have:x.key∈es.toList.map (·.key):=List.mem_map.2 ⟨x,hx,rfl⟩
 rw[h]at this
 obtain⟨y,hy,hy2⟩:=List.mem_map.1 this
 rw[<-hy2];exact trivial
theorem Yqi{a b:ByteArray}(h:a.data.toList=b.data.toList):a=b:=by
 obtain⟨⟨x⟩⟩:=a
 obtain⟨⟨y⟩⟩:=b
 simp only at h
 rw[h]
theorem YsD{t:TypeId}{m k x:Operand}{xs:List SV}{e:Ef}(ht:YfG P t=true)(he:YiY hp xs=some e)(hx:RepL w bs B xs ([m,k,x].map ρ))(hH:Hp w bs B hp)(hB:B<=w.heap.size):
 MOk P ρ (.mapUpdate t m k x) w bs B hp e:=by
 unfold YiY at he
 split at he
 ·rename_i i s
  obtain⟨v1,l1,e1,h1,hx⟩:=hx.cons_inv
  obtain⟨v2,l2,e2,h2,hx⟩:=hx.cons_inv
  obtain⟨v3,l3,e3,h3,hx⟩:=hx.cons_inv
  simp only[YGY,List.map_nil,List.cons.injEq]at e1
  obtain⟨r1,rfl⟩:=e1
  simp only[List.cons.injEq]at e2
  obtain⟨r2,rfl⟩:=e2
  simp only[List.cons.injEq]at e3
  obtain⟨r3,rfl⟩:=e3
  obtain⟨b,hb,rfl⟩:=h1.smp_inv
  have h2:=h2.val_inv
  subst h2
  have hent:=hH.ent i
  split at he
  ·rename_i l hg
   cases he
   rw[hg]at hent
   obtain⟨b',es,clock,g1,g2,ks,g3,g4,g5⟩:=hent
   rw[hb]at g1;cases g1
   obtain⟨kt,et,hu,hk⟩:=Yhl ht
   have hks:=YpV (s:=s) g3
   have hi:=Yjn hH hb
   have hbl:b<w.heap.size:=(YGX.1 g2).1
   have go:∀(es':Array MapEntry)(clock':Nat),(∀dst type pos after guard,(execOp ρ ⟨dst,.mapUpdate t m k x,type,pos,after,guard⟩).run P w= .ok .skip { w with heap:=w.heap.setIfInBounds b (.map es' clock')})->
    (∃ks':List ByteArray,es'.toList.map (·.key)=ks'.map .string/\ks'.map (·.data.toList)=addK l s.data.toList/\(addK l s.data.toList).Nodup)->
    MOk P ρ (.mapUpdate t m k x) w bs B hp { pre:=True,val:= .junk,upd:= .set i (.smap (addK l s.data.toList))}:=by
    intro es' clock' hrun hh
    have hw:Wrote w { w with heap:=w.heap.setIfInBounds b (.map es' clock')} b (.map es' clock'):=
     ⟨rfl,rfl,rfl,by simp,by simp [hbl],fun r hr=>by simp [Ne.symm hr]⟩
    exact⟨.skip,undef,_,bs,hrun,.inr ⟨rfl,rfl⟩,.x _ _ (.junk _),Yn2 hH hw hb hi ⟨b,es',clock',hb,hw.at_,hh⟩,hw.keeps hb,Stays.refl,hw.below (hH.lo _ _ _ _ hb).1⟩
   rcases findNow_spec (k:= .string s) (d:= .string) trivial es.toList 0 hks with⟨f1,f2⟩ | ⟨j,en,f1,f2,f3⟩
   ·refine go (es.push { key:= .string s,val:=ρ x,born:=clock}) (clock+1) (fun dst type pos after guard=>?_) ⟨ks++[s],by simp [g3],?_,?_⟩
    ·simp [execOp,Instr.mapUpdate,r1,r2,run_underlying hu,MapKept.run_getObj_map g2,run_checkKey hk (k:= .string s) trivial,run_findKey hk f1,run_setObj_map _ g2,Result.andThen]
    ·have hn:s.data.toList∉l:=by
      rw[<-g4]
      intro hm
      obtain⟨y,hy,hye⟩:=List.mem_map.1 hm
      have:Value.string y∈es.toList.map (·.key):=by rw[g3];exact List.mem_map.2 ⟨y,hy,rfl⟩
      obtain⟨z,hz,hze⟩:=List.mem_map.1 this
      exact f2 z hz (by rw[hze,Yqi hye])
     simp [addK,hn,g4]
    ·unfold addK
     split
     ·exact g5
     ·rename_i hn
      rw[List.nodup_append]
      exact⟨g5,by simp,fun a ha b hb=>by simp at hb;subst hb;intro he;subst he;exact hn ha⟩
   ·have hj:es[j]? =some en:=by simpa using f2
    have hkey:∀e',es[j]? =some e'->({ e' with key:= .string s,val:=ρ x}:MapEntry).key=e'.key:=fun e' he'=>by rw[hj]at he';cases he';exact f3.symm
    have hin:s.data.toList∈l:=by
     have:Value.string s∈es.toList.map (·.key):=List.mem_map.2 ⟨en,List.mem_of_getElem? f2,f3⟩
     rw[g3]at this
     obtain⟨y,hy,hye⟩:=List.mem_map.1 this
     cases hye
     rw[<-g4];exact List.mem_map.2 ⟨_,hy,rfl⟩
    have hadd:addK l s.data.toList=l:=by simp [addK,hin]
    refine go (es.modify j fun e=>{ e with key:= .string s,val:=ρ x}) clock (fun dst type pos after guard=>?_) ⟨ks,by rw[modify_keys j _ hkey,g3],by rw[hadd,g4],by rw[hadd];exact g5⟩
    simp [execOp,Instr.mapUpdate,r1,r2,run_underlying hu,MapKept.run_getObj_map g2,run_checkKey hk (k:= .string s) trivial,run_findKey hk f1,hj,f3,run_keyThatStays (d:= .string) (k:= .string s) trivial,run_setObj_map _ g2,Result.andThen]
  ·cases he
 ·cases he
end
end Go.Vx
namespace Go.Vx
open Go.RowKit
section
variable {P:Program} {ρ:Operand->Value} {w w':World} {bs bs':List BK} {B:Bd} {hp:List HO}
theorem YiM{g:Bool}{s:Nat}(h:chk g s=true):g=false->s=1:=by
 intro hg;subst hg;simpa [chk]using h
theorem YBf{op:BinOp}{t yt:TypeId}{x y:Operand}{vo:VO}{xs:List SV}{e:Ef}(hv:vbin P op t=some vo)(he:eff hp (lenH hp) vo xs=some e)(hpre:e.pre)
 (hx:RepL w bs B xs ([x,y].map ρ)):QOk P ρ (.binOp op t x y yt) w bs B e:=by
 cases op <;> simp only[vbin]at hv
 ·split at hv <;> cases hv;exact Yp7 (o:= .add) rfl he hpre hx
 ·split at hv <;> cases hv;exact Yp7 (o:= .sub) rfl he hpre hx
 ·cases hv;exact Yp7 (o:= .mul) rfl he hpre hx
 ·cases hv;exact YvN (rem:=false) rfl he hpre hx
 ·cases hv;exact YvN (rem:=true) rfl he hpre hx
 ·cases hv;exact YhN (o:= .and) rfl he hpre hx
 ·cases hv;exact YhN (o:= .or) rfl he hpre hx
 ·cases hv;exact YhN (o:= .xor) rfl he hpre hx
 ·cases hv;exact YEA (left:=true) rfl he hpre hx
 ·cases hv;exact YEA (left:=false) rfl he hpre hx
 ·cases hv;exact YhN (o:= .andNot) rfl he hpre hx
 ·split at hv
  ·cases hv;exact YeQ (o:= .eql) rfl he hpre hx
  ·split at hv
   ·cases hv;exact YvS (neg:=false) rfl ‹_› he hx
   split at hv
   ·cases hv;exact Ynl (neg:=false) rfl he hx
   ·obtain⟨ks,hk,rfl⟩:=YGh.1 hv
    exact YvT (neg:=false) rfl hk he hpre hx
 ·split at hv
  ·cases hv;exact YeQ (o:= .neq) rfl he hpre hx
  ·split at hv
   ·cases hv;exact YvS (neg:=true) rfl ‹_› he hx
   split at hv
   ·cases hv;exact Ynl (neg:=true) rfl he hx
   ·obtain⟨ks,hk,rfl⟩:=YGh.1 hv
    exact YvT (neg:=true) rfl hk he hpre hx
 ·cases hv;exact YeQ (o:= .lss) rfl he hpre hx
 ·cases hv;exact YeQ (o:= .leq) rfl he hpre hx
 ·cases hv;exact YeQ (o:= .gtr) rfl he hpre hx
 ·cases hv;exact YeQ (o:= .geq) rfl he hpre hx
theorem YfR{t:TypeId}{fs:List Field}(h:Go.Vx.fieldsOf P t=some fs):∃a:Array Field,P.underlying t=some (.struct a)/\a.toList=fs:=by
 unfold Go.Vx.fieldsOf at h
 split at h
 ·cases h;exact⟨_,‹_›,rfl⟩
 ·cases h
theorem YkY{t:TypeId}{pl:List (Nat×Nat)}(h:Ye5 P t=some pl):(∃a:Array Field,P.underlying t=some (.struct a))\/∃n e s,P.underlying t=some (.array n e)/\sizeOf? P e=some s/\pl=(List.range n).map fun i=>(i*s,s):=by
 unfold Ye5 at h
 split at h
 ·exact .inl ⟨_,‹_›⟩
 ·rename_i n e hu
  obtain⟨s,hs,rfl⟩:=YGh.1 h
  exact .inr ⟨n,e,s,hu,hs,rfl⟩
 ·cases h
theorem YmZ{ty:Array TypeId}{i:Nat}{d:TypeDesc}(h:ty[i]?.bind P.underlying=some d):∃t,ty[i]? =some t/\P.underlying t=some d:=YGe.1 h
theorem Yxm{c:Call}{f:FuncId}{xs:List SV}{e:Ef}(hcal:c.callee= .value (.func f))(hf:Yre P f=true)(hρf:∀f,ρ (.func f)= .func (.func f) #[] #[]) (he:eff hp (lenH hp) .addc xs=some e) (hpre:e.pre)
 (hx:RepL w bs B xs (c.args.toList.map ρ)):QOk P ρ (.call c) w bs B e:=by
 unfold Yre at hf
 cases hfn:P.funcs[f]? with
 |none=>rw[hfn]at hf;cases hf
 |some fn=>
  rw[hfn]at hf
  simp only[YGi,beq_iff_eq]at hf
  obtain⟨⟨hb,hn⟩,ho⟩:=hf
  simp only[eff]at he
  unfold YxX at he
  split at he
  ·rename_i x y z
   cases Yh he
   obtain⟨h1,h2,h3,h4⟩:=hpre
   obtain⟨v1,l1,e1,g1,hx⟩:=hx.cons_inv
   obtain⟨v2,l2,e2,g2,hx⟩:=hx.cons_inv
   obtain⟨v3,l3,e3,g3,hx⟩:=hx.cons_inv
   cases hx.nil_inv
   cases g1.int_inv;cases g2.int_inv;cases g3.int_inv
   have hrun:(callFunc f #[.int .u64 x,.int .u64 y,.int .u64 z]).run P w= .ok (.value (.tuple #[.int .u64 ((x+y+z)%18446744073709551616),.int .u64 ((x+y+z)/18446744073709551616)])) w:=by
    have hne:(fn.name== "runtime.NumGoroutine")=false:=by rw[hn];decide
    have hnx:Extern.findNext fn=none:=by
     unfold Extern.findNext
     simp only[hn,ho]
     rfl
    have hfi:Extern.find fn=some add64Entry:=by
     unfold Extern.find
     simp only[hn,ho]
     rfl
    rw[run_callFunc_extern hfn hne hb hnx hfi,run_add64 x y z h1 h2 h3 h4]
    rfl
   refine⟨rfl,.tuple #[.int .u64 ((x+y+z)%18446744073709551616),.int .u64 ((x+y+z)/18446744073709551616)],fun dst type pos after guard=>?_,?_⟩
   ·have e0: #[]++c.args.map ρ++ #[]= #[.int .u64 x,.int .u64 y,.int .u64 z]:=by
     apply Array.ext'
     simp [e1,e2,e3]
    simp only[execOp,resolve,hcal,hρf,Deferred.ofValue,Sem.run_bind,Sem.run_pure,Result.andThen_ok,invoke,e0,hrun]
   ·exact .x _ _ (.tup _ _ (.cons _ _ _ _ (.int _ _) (.cons _ _ _ _ (.int _ _) .nil)))
  ·cases he
set_option maxHeartbeats 1000000 in
theorem Ylm{o:Oper}{vo:VO}{ops:List Operand}{xs:List SV}{e:Ef}(hv:vop P o=some (vo,ops))(he:eff hp (lenH hp) vo xs=some e)(hpre:e.pre)
 (hx:RepL w bs B xs (ops.map ρ))(hρ:∀v,ρ (.const v)=v)(hρf:∀f,ρ (.func f)= .func (.func f) #[] #[]) (hH:Hp w bs B hp) (hB:B<=w.heap.size):MOk P ρ o.op w bs B hp e:=by
 obtain⟨dst,op,type,pos,after,guard⟩:=o
 unfold vop at hv
 simp only at hv
 split at hv
 ·cases hv;exact(Yv3 (.inl rfl) he hx).mok hH
 ·cases hv;exact(Yv3 (.inr rfl) he hx).mok hH
 ·cases hv;exact(YlX he hx).mok hH
 ·split at hv
  ·obtain⟨kk,_,hv⟩:=YGh.1 hv
   cases hv;simp [eff]at he
  ·split at hv <;> cases hv
   exact YuP ‹_› he hx hH hB
 ·split at hv
  ·cases hv;exact YsD ‹_› he hx hH hB
  ·obtain⟨kk,_,hv⟩:=YGh.1 hv
   cases hv;simp [eff]at he
 ·obtain⟨kk,_,hv⟩:=YGh.1 hv
  cases hv;simp [eff]at he
 ·cases hv;exact(Ym4 (.inl ⟨rfl,rfl⟩) hρ he hpre hx).mok hH
 ·cases hv;exact(Ym4 (.inr ⟨rfl,rfl⟩) hρ he hpre hx).mok hH
 ·split at hv
  ·obtain⟨z,hz,hv⟩:=YGe.1 hv
   obtain⟨s,hs,hv⟩:=YGh.1 hv
   cases hv
   simp only[eff,eNew,Option.some.injEq]at he
   subst he
   exact Ylx (t:=0) hz hpre hH hB
  ·obtain⟨z,hz,hv⟩:=YGh.1 hv
   cases hv
   simp only[eff,eNew,Option.some.injEq]at he
   subst he
   exact Yt6 hz hH hB
 ·cases hv;exact YCg he hpre hx hH hB
 ·rename_i t parts
  obtain⟨z,hz,hv⟩:=YGe.1 hv
  obtain⟨pl,hpl,hv⟩:=YGe.1 hv
  split at hv
  ·rename_i hall
   cases hv
   simp only[eff]at he
   obtain⟨⟨p,cs⟩,hb,he⟩:=YGe.1 he
   cases Yh he
   have hin:∀x∈parts.toList,x.1<pl.length:=fun x hx=>by have:=List.all_eq_true.1 hall x hx;simpa using this
   rcases YkY hpl with⟨fs,hu⟩ | ⟨n,e,s,hu,hs,rfl⟩
   ·exact(Yuh hz hu hpl hin hb hpre hx).mok hH
   ·exact(YlC hz hu hs hin hb hpre hx).mok hH
  ·cases hv
 ·obtain⟨g,hg,hv⟩:=YGe.1 hv
  obtain⟨s,hs,hv⟩:=YGe.1 hv
  split at hv <;> cases hv
  exact(YrE hg hs (YiM ‹_›) he hpre hx hH).mok hH
 ·obtain⟨s,hs,hv⟩:=YGh.1 hv
  cases hv
  exact Yvs hs he hpre hx hH
 ·split at hv <;> cases hv
  exact(Yv5 (neg:=false) rfl ‹_› he hρ hx hH).mok hH
 ·split at hv <;> cases hv
  exact(Yv5 (neg:=true) rfl ‹_› he hρ hx hH).mok hH
 ·obtain⟨v,hb,hv⟩:=YGh.1 hv
  cases hv
  exact(YBf hb he hpre hx).mok hH
 ·cases hv;exact(YDj he hx).mok hH
 ·cases hv;exact(YDi he hx).mok hH
 ·split at hv
  ·cases hv
   rename_i h1 h2
   exact(YxM (by rw[h1];rfl) h2 he hx).mok hH
  ·cases hv
 ·obtain⟨fs,hfs,hv⟩:=YGe.1 hv
  obtain⟨fd,hfd,hv⟩:=YGe.1 hv
  obtain⟨z,hz,hv⟩:=YGe.1 hv
  split at hv <;> cases hv
  obtain⟨a,hu,rfl⟩:=YfR hfs
  exact(Yks hu (by simpa using hfd) hz ‹_› he hx).mok hH
 ·obtain⟨fs,hfs,hv⟩:=YGe.1 hv
  obtain⟨fd,hfd,hv⟩:=YGe.1 hv
  obtain⟨z,hz,hv⟩:=YGe.1 hv
  obtain⟨g,hg,hv⟩:=YGe.1 hv
  split at hv <;> cases hv
  obtain⟨a,hu,rfl⟩:=YfR hfs
  exact(Yuu hu (by simpa using hfd) hg hz (YiM ‹_›) he hpre hx).mok hH
 ·split at hv
  ·obtain⟨s,hs,hv⟩:=YGh.1 hv
   cases hv
   exact(Yos ‹_› hs he hpre hx hH).mok hH
  ·obtain⟨s,hs,hv⟩:=YGh.1 hv
   cases hv
   exact(Yra ‹_› hs he hpre hx hH).mok hH
  ·cases hv
 ·split at hv
  ·obtain⟨s,hs,hv⟩:=YGe.1 hv
   obtain⟨g,hg,hv⟩:=YGe.1 hv
   split at hv <;> cases hv
   exact(YuD ‹_› hg hs (YiM ‹_›) he hpre hx).mok hH
  ·cases hv;exact(Yrb ‹_› he hpre hx).mok hH
  ·cases hv
 ·split at hv
  ·obtain⟨s,hs,hv⟩:=YGh.1 hv
   cases hv
   exact(Yvl ‹_› hs he hpre hx hH).mok hH
  ·obtain⟨s,hs,hv⟩:=YGh.1 hv
   cases hv
   exact(Yma ‹_› hs he hpre hx hH).mok hH
  ·cases hv
 ·split at hv
  ·obtain⟨s,hs,hv⟩:=YGh.1 hv
   cases hv
   exact(YsG ‹_› hs he hpre hx hH).mok hH
  ·cases hv
 ·split at hv
  ·obtain⟨s,hs,hv⟩:=YGe.1 hv
   obtain⟨b,hb,hv⟩:=YGe.1 hv
   obtain⟨z,hz,hv⟩:=YGe.1 hv
   split at hv <;> cases hv
   exact YyV ‹_› hs hb hz (And.left ‹0<b/\0<s›) he hpre hx hH hB
  ·cases hv
 ·split at hv
  ·obtain⟨s,hs,hv⟩:=YGe.1 hv
   obtain⟨z,hz,hv⟩:=YGe.1 hv
   split at hv <;> cases hv
   simp only[eff]at he
   obtain⟨⟨p,cs⟩,hb,he⟩:=YGe.1 he
   simp only[eNew,Option.some.injEq]at he
   subst he
   exact YiI ‹_› hs hz ‹_› hb hpre hx hH hB
  ·cases hv
 ·cases hv
  simp only[eff]at he
  cases Yh he
  exact(YyW hx).mok hH
 ·split at hv
  ·cases hv
  ·rename_i tt hni hu
   cases hv;exact(YuC (Yrc hu hni) he hx).mok hH
  ·cases hv
 ·cases hv;exact(YCC he hpre hx).mok hH
 ·rename_i c
  split at hv
  ·split at hv
   ·cases hv;exact(Yxm (by assumption) (by assumption) hρf he hpre hx).mok hH
   ·cases hv;simp [eff]at he
  ·cases hv;simp [eff]at he
  ·cases hv;simp [eff]at he
  ·split at hv
   ·cases hv;exact(YDa ‹_› ‹_› he hx).mok hH
   ·cases hv;exact(Yrw ‹_› ‹_› he hx).mok hH
   ·cases hv;exact(Yrs ‹_› ‹_› he hx).mok hH
   ·cases hv;exact(Yrv ‹_› ‹_› he hx hH).mok hH
   ·cases hv
  ·cases hv;exact(YkK (mx:=false) ‹_› he hx).mok hH
  ·cases hv;exact(YkK (mx:=true) ‹_› he hx).mok hH
  ·rename_i hc
   split at hv
   ·rename_i h1 h2
    obtain⟨s,hs,hv⟩:=YGe.1 hv
    obtain⟨b,hb,hv⟩:=YGe.1 hv
    obtain⟨z,hz,hv⟩:=YGe.1 hv
    split at hv <;> cases hv
    have hcond:0<b/\0<s/\z.length=s:=‹_›
    obtain⟨t1,ht1,hu1⟩:=YmZ h1
    obtain⟨t2,ht2,hu2⟩:=YmZ h2
    simp only[eff]at he
    have hxl:∃x y,c.args.toList=[x,y]:=by
     have hl:=hx.length
     unfold YbB at he
     split at he
     ·simp only[lenL,List.length_map]at hl
      match hh:c.args.toList with
      | [x,y]=>exact⟨x,y,rfl⟩
      | []=>rw[hh]at hl;simp at hl
      | [_]=>rw[hh]at hl;simp at hl
      |_::_::_::_=>rw[hh]at hl;simp at hl
     ·cases he
    obtain⟨x,y,hxy⟩:=hxl
    rw[hxy]at hx
    exact Yp6 hc ht1 ht2 hu1 hu2 hs hb hz hcond.2.2 hcond.1 hcond.2.1 hxy he hpre hx hH hB
   ·cases hv
  ·cases hv
 ·cases hv
end
end Go.Vx
namespace Go.Vx
open Go.RowKit
def CSat:CRes->(SV->List HO->Prop)->Prop
 | .fin r hs,k=>k r hs
 | .pre p c,k=>p/\CSat c k
 | .imp p c,k=>p->CSat c k
 | .all α c,k=> ∀x:α,CSat (c x) k
 | .ex α c,k=> ∃x:α,CSat (c x) k
theorem CSat.mono{c:CRes}{k k':SV->List HO->Prop}(h:CSat c k)(hk:∀r hs,k r hs->k' r hs):CSat c k':=by
 induction c with
 |fin r hs=>exact hk _ _ h
 |pre p c ih=>exact⟨h.1,ih h.2⟩
 |imp p c ih=>exact fun hp=>ih (h hp)
 |all α c ih=>exact fun x=>ih x (h x)
 |ex α c ih=>exact let⟨x,hx⟩:=h;⟨x,ih x hx⟩
mutual
def Yl:SV->Prop
 | .agg cs=>Ym cs
 | .tup cs=>Ym cs
 | .vs t _ n _ get=>t=true/\∀k,k<n->Ym (get k)
 | .xp t cs=>t=true/\Ym cs
 | .fn _ a b=>Ym a/\Ym b
 | .iface _ v=>Yl v
 | .opt _ v=>Yl v
 | .cut v=>Yl v
 |_=>True
def Ym:List SV->Prop
 | []=>True
 |x::l=>Yl x/\Ym l
end
def Ybk:List HO->Prop
 | []=>True
 | .box cs::l=>Ym cs/\Ybk l
 | .own _ _ n get::l=>(∀k,k<n->Ym (get k))/\Ybk l
 | .smap _::l=>Ybk l
 | .gone::l=>Ybk l
def Sat(c:Cx0):Prop:=∀(b:Nat)(K:IK),c.I b=some K->∃o,c.heap[b]? =some o/\K.ok o
def Ctr.ok(P:Program)(f:FuncId)(c:Ctr):Prop:=
 ∀(args:List SV)(vs:List Value)(z:Cx0)(k:SV->List HO->Prop),Sat z->XRepL z.toWorld [] z.bd args vs->CSat (c.of args) k->
  Calls P f vs.toArray z.toWorld fun e w'=> ∃r hs v bs,∃J,∃hJ:Ext z J,k r hs/\e= .returned v/\Rep w' bs (z.wI J hJ).bd r v/\Hp w' bs (z.wI J hJ).bd hs/\BelowI z.bd z.toWorld w'/\(c.alias=false->Yl r/\Ybk hs)
def Yc6(P:Program)(f:FuncId):Prop:=∃fn,P.funcs[f]? =some fn/\(fn.name== "runtime.NumGoroutine")=false/\fn.body.isNone=false
structure Yq (P:Program) (E:Env):Prop where
 ct:∀f c,E.ct f=some c->c.ok P f/\Yc6 P f
 fn:∀f vf,E.fn f=some vf->∃fn,P.funcs[f]? =some fn/\Yg P fn=some vf/\Yc6 P f
 meth:∀t m f,E.meth t m=some f->YkJ P t m=some f
 mix:P.follows .mixedOrders=true
 lo:∀f,E.lo f=true->Ybp P f=true
section
variable {P:Program} {w w':World} {bs bs':List BK} {B:Bd} {hp:List HO}
theorem YbU{f:FuncId}{args:Array Value}(h:Yc6 P f):(callFunc f args).run P w= .ok (.enter f args) w:=by
 obtain⟨fn,h1,h2,h3⟩:=h
 simp only[callFunc,Sem.run_bind,run_program,Result.andThen_ok,h1,h2,h3,YGC,if_false,Sem.run_pure]
theorem YoJ{t:TypeId}{m:String}{f:FuncId}(h:YkJ P t m=some f)(n:Nat)(v:Value):(method (n+1) t v m).run P w= .ok (f,v) w:=by
 unfold YkJ at h
 obtain⟨ti,h1,h⟩:=YGe.1 h
 obtain⟨r,h2,h⟩:=YGe.1 h
 split at h
 ·rename_i hp
  have hp':r.path.toList=[]:=by simpa using hp
  split at h
  ·rename_i g hg
   split at h
   ·cases h
   ·rename_i d hnp hd
    cases h
    simp only[method,Sem.run_bind,run_typeInfo w h1,Result.andThen_ok,h2,hp',follow,Sem.run_pure,hg,receiverAt,run_underlying hd]
    cases d <;> first|rfl| (exact absurd rfl (hnp _))
   ·cases h
  ·cases h
 ·cases h
theorem YhD{t:TypeId}{m:String}{f:FuncId}(h:YkJ P t m=some f)(hen:Yc6 P f)(v:Value)(args:Array Value):(callMethod (.iface t v) m args).run P w= .ok (.enter f (#[v]++args)) w:=by
 have hdep:0<Made.depth:=by decide
 obtain⟨k,hk⟩:∃k,P.types.size+Made.depth=k+1:=⟨P.types.size+Made.depth-1,by omega⟩
 simp only[callMethod,Sem.run_bind,run_program,Result.andThen_ok,hk,YoJ h,YbU hen]
mutual
theorem YjM{t0:Bool}{B2:Bd}{r:List SV->List SV}(ht0:t0=true->B2.n<=B.n)(hF:∀b,Fr B bs b->B2.F b)(hI:∀b K,B.I b=some K->B2.I b=some K):∀{s:SV}{v:Value},XRep w bs B s v->XRep w [] B2 (view t0 hp r s) v
 |_,_,.int k n=> .int k n
 |_,_,.bool b=> .bool b
 |_,_,.val v=> .val v
 |_,_,.nil=> .nil
 |_,_,.junk v=> .junk v
 |_,_,.agg cs vs h=> .agg _ vs (Ya9 ht0 hF hI h)
 |_,_,.tup cs vs h=> .tup _ vs (Ya9 ht0 hF hI h)
 |_,_,.fn f fs cs us vs h h'=> .fn f _ _ us vs (Ya9 ht0 hF hI h) (Ya9 ht0 hF hI h')
 |_,_,.iface t x v h=> .iface t _ v (YjM ht0 hF hI h)
 |_,_,.vs t z n size get a cap vals hz hc hn hcell h=> .vs (andT t0 t) z n size _ a cap vals hz hc hn
   (fun k hk=>by
     obtain⟨ad,h1,h2,h3,h4,h5,h6⟩:=hcell k hk
     exact⟨ad,h1,h2,⟨Ybn,hF _ h3⟩,(fun h=>by cases t0 <;> simp [andT]at h;exact YGg (ht0 rfl) (h4 h)),h5,h6⟩)
   (fun k hk=>Ya9 ht0 hF hI (h k hk))
 |_,_,.xp t cs ad vals hs hf ht hc h=> .xp (andT t0 t) _ ad vals hs ⟨Ybn,hF _ hf⟩ (fun h=>by cases t0 <;> simp [andT]at h;exact YGg (ht0 rfl) (ht h)) hc (Ya9 ht0 hF hI h)
 |_,_,.row n C b cap h hc=> .row n C b cap (hI _ _ h) hc
 |_,_,.rcell D n C k b hD h hk=> .rcell D n C k b hD (hI _ _ h) hk
 |_,_,.imap kk C b h=> .imap kk C b (hI _ _ h)
theorem Ya9{t0:Bool}{B2:Bd}{r:List SV->List SV}(ht0:t0=true->B2.n<=B.n)(hF:∀b,Fr B bs b->B2.F b)(hI:∀b K,B.I b=some K->B2.I b=some K):∀{l:List SV}{vs:List Value},XRepL w bs B l vs->XRepL w [] B2 (Ybu t0 hp r l) vs
 |_,_,.nil=> .nil
 |_,_,.cons x v l vs h h'=> .cons _ v _ vs (YjM ht0 hF hI h) (Ya9 ht0 hF hI h')
end
structure HpV (w:World) (bs:List BK) (B:Bd) (hp:List HO):Prop where
 ent:∀(i:Nat)(x:BK),bs[i]? =some x->x≠ .gone->HRep w bs B i (getH hp i)
 le:∀(i b cap m:Nat),bs[i]? =some (.blk b cap m)->m<=cap
 lo:∀(i b c n:Nat),bs[i]? =some (.blk b c n)->B<=b/\b<w.heap.size
 un:∀(i b c n:Nat),bs[i]? =some (.blk b c n)->B.I b=none
theorem Hp.v(h:Hp w bs B hp):HpV w bs B hp:=⟨fun i _ _ _=>h.ent i,fun _ _ _ _ hb=>h.le hb,h.lo,fun _ _ _ _ hb=>h.un hb⟩
structure Vw (t0:Bool) (B B2:Bd) (bs:List BK):Prop where
 t:t0=true->B2.n<=B.n
 f:∀b,Fr B bs b->B2.F b
 o:∀(i b c n:Nat),bs[i]? =some (.blk b c n)->B2.F b
 i:∀b K,B.I b=some K->B2.I b=some K
mutual
theorem Ymm{t0:Bool}{B2:Bd}{r:List SV->List SV}(ht0:Vw t0 B B2 bs)(hH:HpV w bs B hp)(hr:∀l vs,RepL w bs B l vs->XRepL w [] B2 (r l) vs):∀{s:SV}{v:Value},Rep w bs B s v->XRep w [] B2 (view t0 hp r s) v
 |_,_,.x s v h=>YjM ht0.t ht0.f ht0.i h
 |_,_,.agg cs vs h=> .agg _ vs (Yd3 ht0 hH hr h)
 |_,_,.tup cs vs h=> .tup _ vs (Yd3 ht0 hH hr h)
 |_,_,.fn f fs cs us vs h h'=> .fn f _ _ us vs (Yd3 ht0 hH hr h) (Yd3 ht0 hH hr h')
 |_,_,.iface t x v h=> .iface t _ v (Ymm ht0 hH hr h)
 |_,_,.ptr i off b n hb=>by
  have hent:=hH.ent i _ hb (by simp)
  unfold view
  split
  ·rename_i cs hg
   rw[hg]at hent
   obtain⟨b',vs,T,h1,h2,h3⟩:=hent
   rw[hb]at h1;cases h1
   exact .xp t0 _ ⟨b,off,none⟩ (vs.toList.drop off) rfl ⟨Ybn,ht0.o _ _ _ _ hb⟩ (fun h=>YGg (ht0.t h) (hH.lo _ _ _ _ hb).1) ⟨vs,T,_,h2,fun j v hj=>by simpa using hj⟩ (hr _ _ (h3.drop off))
  ·exact .junk _
 |_,_,.own i lo n size b cap m ad hb hl ha=>by
  have hent:=hH.ent i _ hb (by simp)
  have hm:=hH.le _ _ _ _ hb
  unfold view
  split
  ·rename_i z sz' m' get hg
   rw[hg]at hent
   rcases hent with⟨h,_⟩ | ⟨b',cap',vs,T,h1,h2,h3,h4,h5,h6⟩
   ·rw[hb]at h;cases h
   rw[hb]at h1;cases h1
   cases hbq:YGS size sz' with
   |false=>exact .junk _
   |true=>
   have:=YGD hbq
   subst this
   refine .vs t0 z n size _ (some ad) (cap-lo) (fun k=>(vs.toList.drop ((lo+k)*size)).take size) (by rw[h2];rfl) (by omega) (fun h=>by cases h) (fun k hk=>?_) (fun k hk=>?_)
   ·have had:ad=⟨b,lo*size,none⟩:=by
     rcases ha with ha|ha
     ·exact ha
     ·omega
    subst had
    refine⟨_,rfl,rfl,⟨Ybn,ht0.o _ _ _ _ hb⟩,(fun h=>YGg (ht0.t h) (hH.lo _ _ _ _ hb).1),?_,vs,T,_,h3,fun j v hj=>?_⟩
    ·have:(lo+k)*size+size<=cap*size:=by rw[<-YHD];exact YGf _ (by omega)
     simp [h4];omega
    ·rw[YHl]at hj
     split at hj
     ·rw[List.getElem?_drop]at hj
      simp only[<-YGG]
      simpa using hj
     ·cases hj
   ·rw[YdF];exact hr _ _ (h6 (lo+k) (by omega))
  ·exact .junk _
 |_,_,.ownNil i size hb=>by
  have hent:=hH.ent i _ hb (by simp)
  unfold view
  split
  ·rename_i z sz' m' get hg
   rw[hg]at hent
   rcases hent with⟨_,hz,_⟩ | ⟨_,_,_,_,h,_⟩
   ·cases hbq:YGS size sz' with
    |false=>exact .junk _
    |true=>exact .vs t0 z 0 size _ none 0 (fun _=>[]) (by rw[hz];rfl) (YGr _) (fun _=>⟨rfl,rfl⟩) (fun k hk=>by omega) (fun k hk=>by omega)
   ·rw[hb]at h;cases h
  ·exact .junk _
 |_,_,.elem i k off size b cap m hb hkm=>by
  have hent:=hH.ent i _ hb (by simp)
  unfold view
  split
  ·rename_i z sz' m' get hg
   rw[hg]at hent
   cases hbq:YGS size sz' with
   |false=>exact .junk _
   |true=>
   have:=YGD hbq
   subst this
   rcases hent with⟨h,_⟩ | ⟨b',cap',vs,T,h1,h2,h3,h4,h5,h6⟩
   ·rw[hb]at h;cases h
   rw[hb]at h1;cases h1
   refine .xp t0 _ ⟨b,k*size+off,none⟩ (((vs.toList.drop (k*size)).take size).drop off) rfl ⟨Ybn,ht0.o _ _ _ _ hb⟩ (fun h=>YGg (ht0.t h) (hH.lo _ _ _ _ hb).1) ⟨vs,T,_,h3,fun j v hj=>?_⟩ (hr _ _ ((h6 k hkm).drop off))
   rw[List.getElem?_drop,YHl]at hj
   split at hj
   ·rw[List.getElem?_drop]at hj
    simp only[Nat.add_assoc]
    simpa using hj
   ·cases hj
  ·exact .junk _
 |_,_,.smp i b h=> .junk _
 |_,_,.optT x v h=> .junk _
 |_,_,.optF x=> .junk _
 |_,_,.cut .. => .junk _
theorem Yd3{t0:Bool}{B2:Bd}{r:List SV->List SV}(ht0:Vw t0 B B2 bs)(hH:HpV w bs B hp)(hr:∀l vs,RepL w bs B l vs->XRepL w [] B2 (r l) vs):∀{l:List SV}{vs:List Value},RepL w bs B l vs->XRepL w [] B2 (Ybu t0 hp r l) vs
 |_,_,.nil=> .nil
 |_,_,.cons x v l vs h h'=> .cons _ v _ vs (Ymm ht0 hH hr h) (Yd3 ht0 hH hr h')
end
theorem Yjd{B2:Bd}:∀{l:List SV}{vs:List Value},RepL w bs B l vs->XRepL w bs' B2 (Yow l) vs
 |_,_,.nil=> .nil
 |_,_,.cons x v l vs h h'=> .cons _ v _ vs (.junk _) (Yjd h')
theorem Yhu{t0:Bool}{B2:Bd}(ht0:Vw t0 B B2 bs)(hH:HpV w bs B hp):∀(n:Nat){l:List SV}{vs:List Value},RepL w bs B l vs->XRepL w [] B2 (viewN t0 hp n l) vs
 |0,_,_,h=>Yjd h
 |n+1,_,_,h=>Yd3 ht0 hH (fun _ _ h=>Yhu ht0 hH n h) h
theorem Ys1{B2:Bd}(hv:Vw false B B2 bs)(hH:HpV w bs B hp)(n:Nat){l:List SV}{vs:List Value}(h:RepL w bs B l vs):XRepL w [] B2 (viewN false hp n l) vs:=Yhu hv hH n h
theorem Yya(hH:Hp w bs B hp){r:SV}{v:Value}(h:Rep w bs B r v):XRep w [] B (expo hp r) v:=
 have hv:Vw true B B bs:=⟨fun _=>YGr _,fun _ h=>h.2,fun _ _ _ _ h=>B.up _ (hH.lo _ _ _ _ h).1 (hH.un h),fun _ _ h=>h⟩
 Ymm hv hH.v (fun _ _ h=>Yhu hv hH.v 2 h) h
mutual
theorem Rep.noOwn:∀{s:SV}{v:Value},Rep w bs B s v->noOwn s=true->XRep w bs B s v
 |_,_,.x s v h,_=>h
 |_,_,.agg cs vs h,hn=> .agg cs vs (RepL.noOwn h hn)
 |_,_,.tup cs vs h,hn=> .tup cs vs (RepL.noOwn h hn)
 |_,_,.fn f fs cs us vs h h',hn=>by
  simp only[Vx.noOwn,YGi]at hn
  exact .fn f fs cs us vs (RepL.noOwn h hn.1) (RepL.noOwn h' hn.2)
 |_,_,.iface t x v h,hn=> .iface t x v (Rep.noOwn h hn)
 |_,_,.ptr ..,hn=>by cases hn
 |_,_,.own ..,hn=>by cases hn
 |_,_,.ownNil ..,hn=>by cases hn
 |_,_,.elem ..,hn=>by cases hn
 |_,_,.smp ..,hn=>by cases hn
 |_,_,.optT ..,hn=>by cases hn
 |_,_,.optF ..,hn=>by cases hn
 |_,_,.cut ..,hn=>by cases hn
theorem RepL.noOwn:∀{l:List SV}{vs:List Value},RepL w bs B l vs->YaD l=true->XRepL w bs B l vs
 |_,_,.nil,_=> .nil
 |_,_,.cons x v l vs h h',hn=>by
  simp only[YaD,YGi]at hn
  exact .cons x v l vs (Rep.noOwn h hn.1) (RepL.noOwn h' hn.2)
end
theorem XRepL.viewN{B2:Bd}(hF:∀b,Fr B bs b->B2.F b)(hI:∀b K,B.I b=some K->B2.I b=some K):∀(n:Nat){l:List SV}{vs:List Value},XRepL w bs B l vs->XRepL w [] B2 (Vx.viewN false hp n l) vs
 |0,_,_,h=>Yjd h.rep
 |_+1,_,_,h=>Ya9 (fun h=>by cases h) hF hI h
theorem YcF{w:World}(al:Bool)(hH:HpV w bs B hp)(hB:B.n<=w.heap.size)(n:Nat){l:List SV}{vs:List Value}(h:RepL w bs B l vs)(hn:al=true->YaD l=true):
 ∃z:Cx0,z.toWorld=w/\z.I=B.I/\XRepL w [] z.bd (Vx.viewN false hp n l) vs/\(al=true->∀b,z.F b->Fr B bs b):=by
 have hup:∀b,w.heap.size<=b->B.I b=none->Fr B bs b:=fun b hb hI=>⟨fun i b' c n h=>by have:=(hH.lo _ _ _ _ h).2;omega,B.up b (YGg hB hb) hI⟩
 cases al with
 |true=>
  let z:Cx0:={ toWorld:=w,F:=Fr B bs,I:=B.I,up:=hup,ex:=fun b hb=>B.ex b hb.2}
  exact⟨z,rfl,rfl,(h.noOwn (hn rfl)).viewN (B2:=z.bd) (fun _ h=>h) (fun _ _ h=>h) n,fun _ _ h=>h⟩
 |false=>
  let z:Cx0:={ toWorld:=w,F:=fun b=>B.I b=none,I:=B.I,up:=fun _ _ h=>h,ex:=fun _ h=>h}
  exact⟨z,rfl,rfl,Ys1 (B2:=z.bd) ⟨fun h=>(by cases h),fun b hb=>B.ex b hb.2,fun i b c n hb=>hH.un i b c n hb,fun _ _ h=>h⟩ hH n h,fun h=>by cases h⟩
end
end Go.Vx
namespace Go.Vx
open Go.RowKit
section
variable {w:World} {bs bs':List BK} {B:Bd} {m n:Nat}
structure Cut (bs bs':List BK) (m n:Nat):Prop where
 len:bs.length=m
 len':bs'.length=n
 old:∀(i:Nat)(x:BK),i<n->bs[i]? =some x->bs'[i]? =some x
 ghost:∀i,m<=i->i<n->bs'[i]? =some .nil
theorem Cut.blk(h:Cut bs bs' m n){i b c k:Nat}(hi:bs'[i]? =some (.blk b c k)):bs[i]? =some (.blk b c k):=by
 have hin:i<n:=by rw[<-h.len'];exact(List.getElem?_eq_some_iff.1 hi).1
 rcases YGz i m with hm|hm
 ·have:i<bs.length:=by rw[h.len];exact hm
  obtain⟨x,hx⟩:∃x,bs[i]? =some x:=⟨bs[i],by simp⟩
  have h2:=h.old i x hin hx
  rw[hi]at h2;cases h2;exact hx
 ·rw[h.ghost i hm hin]at hi;cases hi
theorem Cut.free(h:Cut bs bs' m n){b:Nat}(hf:Free bs b):Free bs' b:=fun i b' c k hi=>hf i b' c k (h.blk hi)
theorem Cut.keeps(h:Cut bs bs' m n):Keeps w bs w bs':=fun _ hf _ ho=>⟨ho,h.free hf⟩
mutual
theorem YhP(hc:Cut bs bs' m n):∀{s:SV}{v:Value},Rep w bs B s v->bnd n s->Rep w bs' B s v
 |_,_,.x s v h,_=> .x s v (h.keep hc.keeps)
 |_,_,.agg cs vs h,hb=> .agg cs vs (YgF hc h hb)
 |_,_,.tup cs vs h,hb=> .tup cs vs (YgF hc h hb)
 |_,_,.fn f fs cs us vs h h',hb=> .fn f fs cs us vs (YgF hc h hb.1) (YgF hc h' hb.2)
 |_,_,.iface t x v h,hb=> .iface t x v (YhP hc h hb)
 |_,_,.ptr i off b n h,hb=> .ptr i off b n (hc.old _ _ hb h)
 |_,_,.own i lo n size b cap m ad h hl ha,hb=> .own i lo n size b cap m ad (hc.old _ _ hb h) hl ha
 |_,_,.ownNil i size h,hb=> .ownNil i size (hc.old _ _ hb h)
 |_,_,.elem i k off size b cap m h hk,hb=> .elem i k off size b cap m (hc.old _ _ hb h) hk
 |_,_,.smp i b h,hb=> .smp i b (hc.old _ _ hb h)
 |_,_,.optT x v h,hb=> .optT x v (YhP hc h hb)
 |_,_,.optF x,_=> .optF x
 |_,_,.cut x a n cap h,hb=> .cut x a n cap (YhP hc h hb)
theorem YgF(hc:Cut bs bs' m n):∀{l:List SV}{vs:List Value},RepL w bs B l vs->bndL n l->RepL w bs' B l vs
 |_,_,.nil,_=> .nil
 |_,_,.cons x v l vs h h',hb=> .cons _ _ _ _ (YhP hc h hb.1) (YgF hc h' hb.2)
end
mutual
theorem YCZ:∀{a:SV}{v:Value},XRep w bs B a v->∀(b:SV),leX a b->XRep w bs B b v
 |_,_,.int k n,b,h=>by cases b <;> first|exact .junk _| (obtain⟨rfl,rfl⟩:=h;exact .int _ _) |cases h
 |_,_,.bool c,b,h=>by cases b <;> first|exact .junk _| (cases h;done) | (cases h;exact .bool _)
 |_,_,.val v,b,h=>by cases b <;> first|exact .junk _| (cases h;done) | (cases h;exact .val _)
 |_,_,.nil,b,h=>by
  cases b <;> first|exact .junk _| (cases h;exact .nil) | (obtain⟨rfl,rfl⟩:=h;exact .vs _ _ _ _ _ none 0 (fun _=>[]) rfl (YGr _) (fun _=>⟨rfl,rfl⟩) (fun k hk=>by omega) (fun k hk=>by omega)) |cases h
 |_,_,.junk v,b,h=>by cases b <;> first|exact .junk _|cases h
 |_,_,.agg cs vs hl,b,h=>by
  cases b with
  |agg ds=>exact .agg _ _ (YeI hl ds h)
  |junk=>exact .junk _
  |_=>cases h
 |_,_,.tup cs vs hl,b,h=>by
  cases b with
  |tup ds=>exact .tup _ _ (YeI hl ds h)
  |junk=>exact .junk _
  |_=>cases h
 |_,_,.fn f fs cs us vs h1 h2,b,h=>by cases b <;> first|exact .junk _| (cases h;done) | (cases h;exact .fn f fs cs us vs h1 h2)
 |_,_,.iface t x v h1,b,h=>by cases b <;> first|exact .junk _| (cases h;done) | (cases h;exact .iface t x v h1)
 |_,_,.vs t z n size get a cap vals hz hcap hn hcell hh,b,h=>by
  cases b with
  |vs t' z' l' sz' get'=>
   obtain⟨h1,rfl,rfl,rfl,h5⟩:=h
   refine .vs _ _ _ _ _ a cap vals hz hcap hn (fun k hk=>?_) (fun k hk=>YeI (hh k hk) (get' k) (h5 k hk))
   obtain⟨ad,e1,e2,e3,e4,e5,e6⟩:=hcell k hk
   exact⟨ad,e1,e2,e3,fun ht=>e4 (h1 ht),e5,e6⟩
  |junk=>exact .junk _
  |_=>cases h
 |_,_,.xp t cs ad vals hs hf ht hcc hh,b,h=>by
  cases b with
  |xp t' ds=>exact .xp _ _ ad vals hs hf (fun ht'=>ht (h.1 ht')) hcc (YeI hh ds h.2)
  |junk=>exact .junk _
  |_=>cases h
 |_,_,.row n C b cap h1 h2,b',h=>by cases b' <;> first|exact .junk _| (cases h;done) | (cases h;exact .row _ _ _ _ h1 h2)
 |_,_,.rcell D n C k b h1 h2 h3,b',h=>by cases b' <;> first|exact .junk _| (cases h;done) | (cases h;exact .rcell _ _ _ _ _ h1 h2 h3)
 |_,_,.imap kk C b h1,b',h=>by cases b' <;> first|exact .junk _| (cases h;done) | (cases h;exact .imap _ _ _ h1)
theorem YeI:∀{a:List SV}{v:List Value},XRepL w bs B a v->∀(b:List SV),leXL a b->XRepL w bs B b v
 |_,_,.nil,b,h=>by
  cases b with
  |nil=>exact .nil
  |cons _ _=>cases h
 |_,_,.cons x v l vs h1 h2,b,h=>by
  cases b with
  |nil=>cases h
  |cons y r=>exact .cons _ _ _ _ (YCZ h1 y h.1) (YeI h2 r h.2)
end
mutual
theorem YuI:∀(a:SV),leX a a
 | .int k n=>⟨rfl,rfl⟩
 | .bool b=>rfl
 | .val v=>rfl
 | .nil=>rfl
 | .agg cs=>Yd cs
 | .tup cs=>Yd cs
 | .vs t z l sz get=>⟨id,rfl,rfl,rfl,fun k _=>Yd (get k)⟩
 | .xp t cs=>⟨id,Yd cs⟩
 | .ptr i off=>rfl
 | .own .. =>rfl
 | .elem .. =>rfl
 | .fn .. =>rfl
 | .iface .. =>rfl
 | .opt .. =>rfl
 | .cut .. =>rfl
 | .row .. =>rfl
 | .rcell .. =>rfl
 | .imap .. =>rfl
 | .smp .. =>rfl
 | .junk=>trivial
theorem Yd:∀(a:List SV),leXL a a
 | []=>trivial
 |x::l=>⟨YuI x,Yd l⟩
end
mutual
theorem YC2(hc:Cut bs bs' m n):∀(a b:SV){v:Value},le m n a b->Rep w bs B a v->Rep w bs' B b v:=by
 intro a b v h hr
 unfold le at h
 split at h
 ·exact .x _ _ (.junk _)
 ·obtain⟨rfl,rfl⟩:=h;rw[hr.int_inv];exact .x _ _ (.int _ _)
 ·subst h;rw[hr.bool_inv];exact .x _ _ (.bool _)
 ·obtain⟨h1,h2,rfl,rfl⟩:=h;rw[hr.nil_inv];exact .ownNil _ _ (hc.ghost _ h1 h2)
 ·obtain⟨rfl,rfl⟩:=h;rw[hr.nil_inv]
  exact .x _ _ (.vs _ _ _ _ _ none 0 (fun _=>[]) rfl (YGr _) (fun _=>⟨rfl,rfl⟩) (fun k hk=>by omega) (fun k hk=>by omega))
 ·rename_i cs ds
  obtain⟨vs,rfl,hl⟩:=hr.agg_inv
  exact .agg _ _ (YeZ hc cs ds h hl)
 ·rename_i cs ds
  obtain⟨vs,rfl,hl⟩:=hr.tup_inv
  exact .tup _ _ (YeZ hc cs ds h hl)
 ·obtain⟨h1,rfl,rfl,rfl,h5⟩:=h
  cases hr with
  |x _ _ hr=>
   have hr:=hr.keep (hc.keeps (w:=w))
   cases hr with
   |vs _ _ _ _ _ a cap vals hz hcap hn hcell hh=>
    refine .x _ _ (.vs _ _ _ _ _ a cap vals hz hcap hn (fun k hk=>?_) (fun k hk=>YeI (hh k hk) _ (h5 k hk)))
    obtain⟨ad,e1,e2,e3,e4,e5,e6⟩:=hcell k hk
    exact⟨ad,e1,e2,e3,fun ht=>e4 (h1 ht),e5,e6⟩
 ·obtain⟨rfl,rfl,rfl,rfl,h5⟩:=h
  exact YhP hc hr h5
 ·obtain⟨h1,h2⟩:=h
  cases hr with
  |x _ _ hr=>
   have hr:=hr.keep (hc.keeps (w:=w))
   cases hr with
   |xp _ _ ad vals hs hf ht hcc hh=>exact .x _ _ (.xp _ _ ad vals hs hf (fun h=>ht (h1 h)) hcc (YeI hh _ h2))
 ·obtain⟨rfl,h2⟩:=h
  exact YhP hc hr h2
theorem YeZ(hc:Cut bs bs' m n):∀(a b:List SV){v:List Value},leL m n a b->RepL w bs B a v->RepL w bs' B b v:=by
 intro a b v h hr
 unfold leL at h
 split at h
 ·cases hr;exact .nil
 ·rename_i x l y r
  obtain⟨u,us,rfl,h1,h2⟩:=hr.cons_inv
  exact .cons _ _ _ _ (YC2 hc x y h.1 h1) (YeZ hc l r h.2 h2)
 ·cases h
end
theorem Yrm(hc:Cut bs bs' m n):∀(a b:List (List SV)){v:List (List Value)},leLL m n a b->RepLL w bs B a v->RepLL w bs' B b v
 | [],[],_,_,hr=>by cases hr;exact .nil
 |x::l,y::r,_,h,.cons _ v _ vs h1 h2=> .cons _ _ _ _ (YeZ hc x y h.1 h1) (Yrm hc l r h.2 h2)
 | [],_::_,_,h,_=>h.elim
 |_::_,[],_,h,_=>h.elim
theorem Yjg{x y:HO}{l r:List HO}:leH m n (x::l) (y::r)=(leH1 m n x y/\leH m n l r):=by cases y <;> rfl
theorem YlQ:∀(a b:List HO),leH m n a b->∀i,i<lenH b->(i<lenH a/\leH1 m n (getH a i) (getH b i))\/(lenH a<=i/\∃z sz l get,getH b i= .own z sz l get/\z=true/\l=0)
 |_,[],_,i,hi=>by simp [lenH]at hi
 | [],.own z sz l get::r,h,0,_=> .inr ⟨YHk _,z,sz,l,get,rfl,h.1,h.2.1⟩
 | [],.own z sz l get::r,h,i+1,hi=>by
   rcases YlQ [] r h.2.2 i (by simpa [lenH]using hi)with h1| ⟨_,h2⟩
   ·simp [lenH]at h1
   ·exact .inr ⟨YHk _,h2⟩
 | [],.box _::_,h,_,_=>h.elim
 | [],.smap _::_,h,_,_=>h.elim
 | [],.gone::_,h,_,_=>h.elim
 |x::l,y::r,h,0,_=> .inl ⟨by simp [lenH],(Yjg▸h:leH1 m n x y/\leH m n l r).1⟩
 |x::l,y::r,h,i+1,hi=>by
  rcases YlQ l r (Yjg▸h:leH1 m n x y/\leH m n l r).2 i (by simpa [lenH]using hi)with⟨h1,h2⟩ | ⟨h1,h2⟩
  ·exact .inl ⟨by simpa [lenH]using h1,h2⟩
  ·exact .inr ⟨by simpa [lenH]using h1,h2⟩
theorem YCX{w0:Cx}{as:List (List Deferred)}{s s':S}{tmps:List Value}{saved:List (List Value)}(h:leS s s')(hr:Rel w0 as s tmps saved w):Rel w0 as s' tmps saved w:=by
 obtain⟨bs,h1,h2,hH,hb,ho⟩:=hr
 obtain⟨l1,l2,l3⟩:=h
 let bs':=bs.take (lenH s'.hp)++List.replicate (lenH s'.hp-lenH s.hp) .nil
 have hlen:=hH.len
 have hc:Cut bs bs' (lenH s.hp) (lenH s'.hp):=by
  refine⟨hlen,by simp [bs',hlen];omega,fun i x hi hx=>?_,fun i h1 h2=>?_⟩
  ·have:i<bs.length:=(List.getElem?_eq_some_iff.1 hx).1
   simp only[bs']
   rw[YGR (by simp;omega),YHl,if_pos hi];exact hx
  ·simp only[bs']
   rw[YG4 (by simp;omega),List.getElem?_replicate,if_pos (by simp;omega)]
 refine⟨bs',YeZ hc _ _ l1 h1,Yrm hc _ _ l2 h2,⟨hc.len',fun i=>?_,fun i j b c k c' k' e1 e2=>hH.inj i j b c k c' k' (hc.blk e1) (hc.blk e2),fun i b c k e1=>hH.lo i b c k (hc.blk e1),YaJ hc.keeps hH.reg⟩,hb,ho.keep hc.keeps⟩
 rcases YGz i (lenH s'.hp)with hi|hi
 ·rcases YlQ _ _ l3 i hi with⟨g1,g2⟩ | ⟨g1,z,sz,l,get,g2,rfl,rfl⟩
  ·have hent:=hH.ent i
   have hx:∀x,bs[i]? =some x->bs'[i]? =some x:=fun x hx=>hc.old i x hi hx
   cases ha:getH s.hp i <;> cases hbb:getH s'.hp i <;> rw[ha,hbb]at g2 <;> simp only[leH1]at g2
   ·rw[ha]at hent
    obtain⟨b,vs,T,e1,e2,e3⟩:=hent
    exact⟨b,vs,T,hx _ e1,e2,YeZ hc _ _ g2 e3⟩
   ·obtain⟨rfl,rfl,rfl,g3⟩:=g2
    rw[ha]at hent
    rcases hent with⟨e1,e2,e3⟩ | ⟨b,cap,vs,T,e1,e2,e3,e4,e5,e6⟩
    ·exact .inl ⟨hx _ e1,e2,e3⟩
    ·exact .inr ⟨b,cap,vs,T,hx _ e1,e2,e3,e4,e5,fun k hk=>YeZ hc _ _ (g3 k hk) (e6 k hk)⟩
   ·subst g2
    rw[ha]at hent
    obtain⟨b,es,c,e1,e2,e3⟩:=hent
    exact⟨b,es,c,hx _ e1,e2,e3⟩
   ·rw[ha]at hent
    rcases hent with e|e
    ·exact .inl (hx _ e)
    ·rw[List.getElem?_eq_none_iff,hlen]at e;omega
  ·rw[g2];exact .inl ⟨hc.ghost i g1 hi,rfl,rfl⟩
 ·rw[Ybb _ _ hi]
  right
  rw[List.getElem?_eq_none_iff,hc.len'];exact hi
structure Frz (w:World) (bs bs':List BK) (B:Bd) (i:Nat) (z:Bool) (sz N:Nat) (get:Nat->List SV):Prop where
 ne:∀j,j≠i->bs'[j]? =bs[j]?
 at':∀b c n,bs'[i]? ≠some (.blk b c n)
 nil:bs[i]? =some .nil->z=true
 blk:∀b cap m,bs[i]? =some (.blk b cap m)->z=false/\m=N/\B.n<=b/\∃(vs:Array Value) (T:TypeId),w.heap[b]? =some (.cells vs T (0,0))/\vs.size=cap*sz/\m<=cap/\∀k,k<m->XRepL w bs B (get k) ((vs.toList.drop (k*sz)).take sz)
 inj:∀(j b c n c' n':Nat),bs[i]? =some (.blk b c n)->bs[j]? =some (.blk b c' n')->j=i
 un:∀(b c n:Nat),bs[i]? =some (.blk b c n)->B.I b=none
section
variable {i sz N:Nat} {z:Bool} {get:Nat->List SV}
theorem Frz.back(h:Frz w bs bs' B i z sz N get){j b c n:Nat}(hj:bs'[j]? =some (.blk b c n)):j≠i/\bs[j]? =some (.blk b c n):=by
 have hne:j≠i:=fun he=>h.at' b c n (he▸hj)
 exact⟨hne,(h.ne j hne)▸hj⟩
theorem Frz.free(h:Frz w bs bs' B i z sz N get){b:Nat}(hf:Free bs b):Free bs' b:=fun j b' c k hj=>hf j b' c k (h.back hj).2
theorem Frz.keeps(h:Frz w bs bs' B i z sz N get):Keeps w bs w bs':=fun _ hf _ ho=>⟨ho,h.free hf⟩
mutual
theorem frzX(i sz:Nat)(z:Bool)(get:Nat->List SV){B:Bd}:∀{s:SV}{v:Value},XRep w bs B s v->XRep w bs B (frzV i z sz get s) v
 |_,_,.int k n=> .int k n
 |_,_,.bool b=> .bool b
 |_,_,.val v=> .val v
 |_,_,.nil=> .nil
 |_,_,.junk v=> .junk v
 |_,_,.agg cs vs h=> .agg _ vs (Yq0 i sz z get h)
 |_,_,.tup cs vs h=> .tup _ vs (Yq0 i sz z get h)
 |_,_,.fn f fs cs us vs h h'=> .fn f _ _ us vs (Yq0 i sz z get h) (Yq0 i sz z get h')
 |_,_,.iface t x v h=> .iface t _ v (frzX i sz z get h)
 |_,_,.vs t z n size get a cap vals hz hc hn hcell h=> .vs t z n size get a cap vals hz hc hn hcell h
 |_,_,.xp t cs ad vals hs hf ht hc h=> .xp t cs ad vals hs hf ht hc h
 |_,_,.row n C b cap h1 h2=> .row n C b cap h1 h2
 |_,_,.rcell D n C k b h1 h2 h3=> .rcell D n C k b h1 h2 h3
 |_,_,.imap kk C b h1=> .imap kk C b h1
theorem Yq0(i sz:Nat)(z:Bool)(get:Nat->List SV){B:Bd}:∀{l:List SV}{vs:List Value},XRepL w bs B l vs->XRepL w bs B (frzL i z sz get l) vs
 |_,_,.nil=> .nil
 |_,_,.cons x v l vs h h'=> .cons _ v _ vs (frzX i sz z get h) (Yq0 i sz z get h')
end
theorem YfW{a b:Nat}(h:YGS a b=true):a=b:=YGD h
mutual
theorem Ynq(hf:Frz w bs bs' B i z sz N get):∀{s:SV}{v:Value},Rep w bs B s v->Rep w bs' B (frzV i z sz get s) v
 |_,_,.x s v h=> .x _ v ((frzX i sz z get h).keep hf.keeps)
 |_,_,.agg cs vs h=> .agg _ vs (YcK hf h)
 |_,_,.tup cs vs h=> .tup _ vs (YcK hf h)
 |_,_,.fn f fs cs us vs h h'=> .fn f _ _ us vs (YcK hf h) (YcK hf h')
 |_,_,.iface t x v h=> .iface t _ v (Ynq hf h)
 |_,_,.ptr j off b n h=>by
  simp only[frzV]
  cases hj:YGS j i with
  |true=>exact .x _ _ (.junk _)
  |false=>exact .ptr _ _ _ _ ((hf.ne j (YN hj)).symm▸h)
 |_,_,.own j lo n size b cap m ad h hl ha=>by
  simp only[frzV]
  cases hj:YGS j i with
  |false=>exact .own _ _ _ _ b cap m ad ((hf.ne j (YN hj)).symm▸h) hl ha
  |true=>
   have:=YfW hj;subst this
   simp only[cond_true]
   cases hs:YGS size sz with
   |false=>exact .x _ _ (.junk _)
   |true=>
    have:=YfW hs;subst this
    obtain⟨rfl,rfl,hB,vs,T,h1,h2,h3,h4⟩:=hf.blk b cap m h
    simp only[cond_true]
    refine .x _ _ (.vs true false n size _ (some ad) (cap-lo) (fun k=>(vs.toList.drop ((Yb9 lo k)*size)).take size) rfl (by omega) (fun h=>by cases h) (fun k hk=>?_) (fun k hk=>?_))
    ·have had:ad=⟨b,lo*size,none⟩:=by
      rcases ha with h| ⟨h,_⟩
      ·exact h
      ·omega
     have hal:Yb9 lo k=lo+k:=by cases lo <;> simp [Yb9]
     have hle:(lo+k)*size+size<=cap*size:=by
      have:(lo+k+1)*size<=cap*size:=YGf _ (by omega)
      rw[YGG,YGW]at this;exact this
     refine⟨ad,rfl,by rw[had],⟨fun j b' c k' hj'=>?_,?_⟩,fun _=>by rw[had];exact hB,?_,?_⟩
     ·intro he
      obtain⟨hne,hj2⟩:=hf.back hj'
      subst he
      rw[had]at hj2
      exact hne (hf.inj _ _ _ _ _ _ h hj2)
     ·rw[had];exact B.up _ hB (hf.un _ _ _ h)
     ·simp only[YHb,List.length_drop,Array.length_toList,h2,hal];omega
     ·refine⟨vs,T,(0,0),by rw[had];exact h1,fun q v hq=>?_⟩
      rw[hal]at hq
      rw[had]
      rw[YHl]at hq
      split at hq
      ·rw[List.getElem?_drop]at hq
       rw[<-hq,<-Array.getElem?_toList]
       congr 1
       simp only
       rw[YGG]
      ·cases hq
    ·have hal:Yb9 lo k=lo+k:=by cases lo <;> simp [Yb9]
     exact(h4 _ (by rw[hal];omega)).keep hf.keeps
 |_,_,.ownNil j size h=>by
  simp only[frzV]
  cases hj:YGS j i with
  |false=>exact .ownNil _ _ ((hf.ne j (YN hj)).symm▸h)
  |true=>
   have:=YfW hj;subst this
   simp only[cond_true]
   cases hs:YGS size sz with
   |false=>exact .x _ _ (.junk _)
   |true=>
    have hz:=hf.nil h
    subst hz
    exact .x _ _ (.vs _ _ _ _ _ none 0 (fun _=>[]) rfl (YGr _) (fun _=>⟨rfl,rfl⟩) (fun k hk=>by omega) (fun k hk=>by omega))
 |_,_,.elem j k off size b cap m h hk=>by
  simp only[frzV]
  cases hj:YGS j i with
  |true=>exact .x _ _ (.junk _)
  |false=>exact .elem _ _ _ _ _ _ _ ((hf.ne j (YN hj)).symm▸h) hk
 |_,_,.smp j b h=>by
  simp only[frzV]
  cases hj:YGS j i with
  |true=>exact .x _ _ (.junk _)
  |false=>exact .smp _ _ ((hf.ne j (YN hj)).symm▸h)
 |_,_,.optT x v h=> .optT _ v (Ynq hf h)
 |_,_,.optF x=> .optF _
 |_,_,.cut x a n cap h=> .cut _ a n cap (Ynq hf h)
theorem YcK(hf:Frz w bs bs' B i z sz N get):∀{l:List SV}{vs:List Value},RepL w bs B l vs->RepL w bs' B (frzL i z sz get l) vs
 |_,_,.nil=> .nil
 |_,_,.cons x v l vs h h'=> .cons _ v _ vs (Ynq hf h) (YcK hf h')
end
theorem Ynp(hf:Frz w bs bs' B i z sz N get):∀{l:List (List SV)}{vs:List (List Value)},RepLL w bs B l vs->RepLL w bs' B (Yuv i z sz get l) vs
 |_,_,.nil=> .nil
 |_,_,.cons x v l vs h h'=> .cons _ v _ vs (YcK hf h) (Ynp hf h')
def YCH(i:Nat)(z:Bool)(sz:Nat)(get:Nat->List SV):HO->HO
 | .box cs=> .box (frzL i z sz get cs)
 | .own z' s n g=> .own z' s n (fun k=>frzL i z sz get (g k))
 | .smap l=> .smap l
 | .gone=> .gone
theorem Ynr:∀(hp:List HO)(j:Nat),getH (Yf7 i z sz get hp) j=YCH i z sz get (getH hp j)
 | [],j=>by cases j <;> rfl
 |h::l,0=>by cases h <;> rfl
 |h::l,j+1=>by cases h <;> simpa [Yf7,getH]using Ynr l j
theorem Yjj:∀(hp:List HO),lenH (Yf7 i z sz get hp)=lenH hp
 | []=>rfl
 |h::l=>by cases h <;> simp [Yf7,lenH,Yjj l]
end
theorem Yyi{w0:Cx}{as:List (List Deferred)}{s:S}{tmps:List Value}{saved:List (List Value)}(i:Nat)(hp1:Yyj (getH s.hp i))(hr:Rel w0 as s tmps saved w):Rel w0 as (frz1 s i (getH s.hp i)) tmps saved w:=by
 cases hg:getH s.hp i with
 |box cs=>exact hr
 |smap l=>exact hr
 |gone=>exact hr
 |own z sz N get=>
  rw[hg]at hp1
  obtain⟨bs,h1,h2,hH,hb,ho⟩:=hr
  have hlen:=hH.len
  have hi:i<lenH s.hp:=by
   rcases YGz i (lenH s.hp)with h|h
   ·exact h
   ·rw[Ybb _ _ h]at hg;cases hg
  let bs':=bs.set i .gone
  have hent:=hH.ent i
  rw[hg]at hent
  have hat:bs'[i]? =some .gone:=by simp [bs',List.getElem?_set,hlen,hi]
  have hne:∀j,j≠i->bs'[j]? =bs[j]? :=fun j hj=>by simp [bs',List.getElem?_set];intro h;exact absurd h.symm hj
  have hf:Frz w bs bs' w0.bd i z sz N get:=by
   refine⟨hne,fun b c n h=>?_,fun h=>?_,fun b cap m h=>?_,fun j b c n c' n' e1 e2=>hH.inj _ _ _ _ _ _ _ e2 e1,fun b c n e=>hH.un e⟩
   ·rw[hat]at h;cases h
   ·rcases hent with⟨_,e,_⟩ | ⟨_,_,_,_,e,_⟩
    ·exact e
    ·rw[h]at e;cases e
   ·rcases hent with⟨e,_⟩ | ⟨b',cap',vs,T,e1,e2,e3,e4,e5,e6⟩
    ·rw[h]at e;cases e
    ·rw[h]at e1;cases e1
     exact⟨e2,rfl,(hH.lo _ _ _ _ h).1,vs,T,e3,e4,e5,fun k hk=>(e6 k hk).noOwn (hp1 k hk)⟩
  refine⟨bs',YcK hf h1,Ynp hf h2,⟨?_,fun j=>?_,fun j j' b c k c' k' e1 e2=>hH.inj _ _ _ _ _ _ _ (hf.back e1).2 (hf.back e2).2,fun j b c k e1=>hH.lo j b c k (hf.back e1).2,YaJ hf.keeps hH.reg⟩,hb,ho.keep hf.keeps⟩
  ·simp [bs',frz1,YcQ,Yjj,hlen]
  ·by_cases hj:j=i
   ·subst hj
    show HRep w bs' _ j (getH (setH (Yf7 j z sz get s.hp) j .gone) j)
    rw[YaQ _ _ _ (by rw[Yjj];exact hi)]
    exact .inl hat
   ·show HRep w bs' _ j (getH (setH (Yf7 i z sz get s.hp) i .gone) j)
    rw[YR _ _ _ _ (Ne.symm hj),Ynr]
    have hentj:=hH.ent j
    cases hgj:getH s.hp j with
    |gone=>
     rw[hgj]at hentj
     simp only[YCH,HRep,hne j hj];exact hentj
    |box cs=>
     rw[hgj]at hentj
     obtain⟨b,vs,T,e1,e2,e3⟩:=hentj
     exact⟨b,vs,T,by rw[hne j hj];exact e1,e2,YcK hf e3⟩
    |smap l=>
     rw[hgj]at hentj
     obtain⟨b,es,c,e1,e2,e3⟩:=hentj
     exact⟨b,es,c,by rw[hne j hj];exact e1,e2,e3⟩
    |own z' s' n' g'=>
     rw[hgj]at hentj
     rcases hentj with⟨e1,e2,e3⟩ | ⟨b,cap,vs,T,e1,e2,e3,e4,e5,e6⟩
     ·exact .inl ⟨by rw[hne j hj];exact e1,e2,e3⟩
     ·exact .inr ⟨b,cap,vs,T,by rw[hne j hj];exact e1,e2,e3,e4,e5,fun k hk=>YcK hf (e6 k hk)⟩
theorem YqZ{w0:Cx}{as:List (List Deferred)}{tmps:List Value}{saved:List (List Value)}:∀(l:List Nat){s:S},frzP l s->Rel w0 as s tmps saved w->Rel w0 as (frzS l s) tmps saved w
 | [],_,_,hr=>hr
 |i::l,_,h,hr=>YqZ l h.2 (Yyi i h.1 hr)
theorem YCV{w0:Cx}{as:List (List Deferred)}{s s':S}{tmps:List Value}{saved:List (List Value)}(h:leF s s')(hr:Rel w0 as s tmps saved w):Rel w0 as s' tmps saved w:=by
 obtain⟨l,h1,h2⟩:=h
 exact YCX h2 (YqZ l h1 hr)
end
end Go.Vx
namespace Go.Vx
open Go.RowKit
section
variable {P:Program} {E:Env} {Q:SV->List HO->Prop} {vr:List VR} {w0:Cx0}
theorem Ydz:∀(n:Nat){al:Bool}{d:Option Nat}{c:CRes}{K:List It}{s:S},run E Q vr n (.res none al d c::K) s->
 CSat c fun r hs=> ∃m,m<n/\run E Q vr m K (S.put { fr:=s.fr,saved:=s.saved,hp:=s.hp++YW (lenH s.hp) hs} d (shift (lenH s.hp) r))
 |0,_,_,_,_,_,h=>h.elim
 |n+1,al,d,c,K,s,h=>by
  cases c with
  |fin r hs=>exact⟨n,Nat.lt_succ_self n,h⟩
  |pre p c=>exact⟨h.1,(Ydz n h.2).mono fun r hs ⟨m,hm,x⟩=>⟨m,by omega,x⟩⟩
  |imp p c=>exact fun hp=>(Ydz n (h hp)).mono fun r hs ⟨m,hm,x⟩=>⟨m,by omega,x⟩
  |all α c=>exact fun x=>(Ydz n (h x)).mono fun r hs ⟨m,hm,x⟩=>⟨m,by omega,x⟩
  |ex α c=>exact let⟨x,hx⟩:=h;⟨x,(Ydz n hx).mono fun r hs ⟨m,hm,x⟩=>⟨m,by omega,x⟩⟩
theorem Ygr:∀(n:Nat){gb al:Bool}{d:Option Nat}{c:CRes}{K:List It}{s:S},run E Q vr n (.res (some gb) al d c::K) s->
 ∃m r,m<n/\run E Q vr m K (s.put d (.opt gb r))/\(gb=true->CSat c fun r' hs=>r=shift (lenH s.hp) r'/\hs=[])
 |0,_,_,_,_,_,_,h=>h.elim
 |n+1,gb,al,d,c,K,s,h=>by
  cases c with
  |fin r hs=>
   cases hs with
   |nil=>exact⟨n,_,Nat.lt_succ_self n,h,fun _=>⟨rfl,rfl⟩⟩
   |cons _ _=>exact h.elim
  |pre p c=>
   obtain⟨m,r,hm,h1,h2⟩:=Ygr n h.2
   exact⟨m,r,by omega,h1,fun hg=>⟨h.1 hg,h2 hg⟩⟩
  |imp p c=>exact h.elim
  |all α c=>exact h.elim
  |ex α c=>
   obtain⟨x,hx⟩:=h
   obtain⟨m,r,hm,h1,h2⟩:=Ygr n hx
   exact⟨m,r,by omega,h1,fun hg=>⟨x,h2 hg⟩⟩
abbrev Kont:=Exit->Act->World->Prop
abbrev Wd(r:Option Nat):Fence:={ fn:=fun _=>True,depth:=none,alive:=false,round:=r}
theorem Yom{r:Option Nat}{n:Nat}{f:FuncId}{args:Array Value}{w:World}{R:Ending->World->Prop}(h:Calls P f args w R):CallsIn (Wd r) n P f args w R:=
 ⟨trivial,fun cs _=>(callsIn_wide (n:=n).2 h).2 cs (room_wide _)⟩
theorem YcG{f:FuncId}{n:Nat}{args:Array Value}{w:World}{R:Ending->World->Prop}(h:CallsIn (Wd none) n P f args w R):Calls P f args w R:=callsIn_wide.1 h
def Rl(w0:Cx)(s:S)(a:Act)(sv:List Act)(w:World):Prop:=Rel w0 ((a::sv).map (·.defers)) s a.tmps.toList (sv.map (·.tmps.toList)) w
structure Rec where
 fn:FuncId
 ps:List Nat
 ca:Code
 cb:Code
 D:Nat
 tmps:Array Value
def Rec.at(q:Rec)(st:LoopState)(pe:Option Code):_root_.Go.Loop:={ state:=st,pending:=pe,fn:=q.fn,tmps:=q.tmps,params:=q.ps.toArray,assign:=q.ca,body:=q.cb,defers:=q.D}
inductive JRel (P:Program) (q:Rec):Option VC->_root_.Go.Loop->Prop where
 |none:JRel P q none (q.at .ready none)
 |some (c:Code) (vc:VC) (h:YcB P c=some vc):JRel P q (some vc) (q.at .done (some c))
inductive KRel (P:Program) (w0:Cx0) (κ0:Kont):List It->List Act->List (Nat×Obj)->Option Nat->Kont->Prop where
 |nil:KRel P w0 κ0 [] [] [] none κ0
 |code (c:Code) (vc:VC) (K:List It) (sv:List Act) (ks:List (Nat×Obj)) (r:Option Nat) (κ:Kont) (h:YcB P c=some vc) (hk:KRel P w0 κ0 K sv ks r κ):KRel P w0 κ0 (.code vc::K) sv ks r (Exit.then (c.wpIn (Wd r) 0 P κ) κ)
 |ops (all:Array Oper) (rest:List Oper) (l:List VOp) (K:List It) (sv:List Act) (ks:List (Nat×Obj)) (r:Option Nat) (κ:Kont) (h:YaM P all rest=some l) (hk:KRel P w0 κ0 K sv ks r κ):KRel P w0 κ0 (.ops l::K) sv ks r (Exit.then (wpListIn (Wd r) 0 P all κ rest) κ)
 |inBlock (id:Nat) (K:List It) (sv:List Act) (ks:List (Nat×Obj)) (r:Option Nat) (κ:Kont) (hk:KRel P w0 κ0 K sv ks r κ):KRel P w0 κ0 (.inBlock id::K) sv ks r (Exit.inBlock id κ)
 |inScope (K:List It) (sv:List Act) (ks:List (Nat×Obj)) (r:Option Nat) (κ:Kont) (hk:KRel P w0 κ0 K sv ks r κ):KRel P w0 κ0 (.inScope::K) sv ks r (Exit.noGoto κ)
 |inLoop (I:S->Prop) (J:Act->World->Prop) (K:List It) (sv:List Act) (ks:List (Nat×Obj)) (r:Option Nat) (κ:Kont) (hJ:∀s a w D (hD:Ext w0 D),I s->Rl ⟨w0.wI D hD,ks⟩ s a sv w->J a w) (hk:KRel P w0 κ0 K sv ks r κ):KRel P w0 κ0 (.inLoop I::K) sv ks r (Exit.then J κ)
 |frame (d:Option Nat) (res:List VR) (fn:Func) (sa:Act) (K:List It) (sv:List Act) (ks:List (Nat×Obj)) (r:Option Nat) (κ:Kont) (R:Ending->World->Prop) (h:YhF P fn.results.toList=some res)
   (hR:∀v w,κ .normal (sa.put d v) w->R (.returned v) w) (hk:KRel P w0 κ0 K sv ks r κ):KRel P w0 κ0 (.frame d res::K) (sa::sv) ks none (bodyPostM (Wd none) 0 P fn R)
 |rfrm (res:List VR) (l:Nat) (q:Rec) (lp:_root_.Go.Loop) (a b:VC) (j:Option VC) (fn:Func) (sa:Act) (K:List It) (sv:List Act) (ks:List (Nat×Obj)) (r:Option Nat) (κ:Kont) (h:YhF P fn.results.toList=some res)
   (ps:List Nat) (hps:q.ps=ps) (ht:q.tmps=sa.tmps) (ha:YcB P q.ca=some a) (hb:YcB P q.cb=some b) (hj:JRel P q j lp) (hk:KRel P w0 κ0 K sv ks r κ):
   KRel P w0 κ0 (.rfrm res l ps a b j::K) (sa::sv) ((l,.loop lp)::ks) none (bodyPostM (Wd none) 0 P fn (rangePost (Wd r) 0 P l κ sa))
 |rbeg (l:Nat) (q:Rec) (K:List It) (sv:List Act) (ks:List (Nat×Obj)) (κ:Kont) (hk:KRel P w0 κ0 K sv ((l,.loop (q.at .busy none))::ks) (some l) κ):
   KRel P w0 κ0 (.rbeg::K) sv ((l,.loop (q.at .ready none))::ks) (some l) (Exit.then (fun a₁ w₁=> ∃w₂,(Instr.beginRound l).run P w₁= .ok () w₂/\κ .normal a₁ w₂) (fun _ _ _=>False))
 |rend (d:Option Nat) (l:Nat) (q:Rec) (ita:Act) (K:List It) (sv:List Act) (ks:List (Nat×Obj)) (κ:Kont) (R:Ending->World->Prop) (hR:∀v w,κ .normal (ita.put d v) w->R (.returned v) w)
   (hk:KRel P w0 κ0 K sv ((l,.loop (q.at .ready none))::ks) none κ):KRel P w0 κ0 (.rend d::K) (ita::sv) ((l,.loop (q.at .busy none))::ks) (some l) (roundPost P l R)
theorem YoT{F:Fence}{n:Nat}{c:Code}{Q:Kont}{a:Act}{w:World}(h:c.wpIn F n P (Exit.noGoto Q) a w):(Code.scope c).wpIn F n P Q a w:=by
 intro b k cs hro hb hr
 have h0:(lone (b.atR a (.code (.scope c)::k)) cs w).fenced P F:=fenced_calm hb hr rfl
 have s1:_root_.Go.step P (lone (b.atR a (.code (.scope c)::k)) cs w)= .next (lone (b.atR a (.code c:: .inScope c::k)) cs w):=step_lone_go (by simp [stepG,stepG.exec,Frame.atR])
 have s2:∀(a:Act)(w:World),_root_.Go.step P (lone (b.atR a (.inScope c::k)) cs w)= .next (lone (b.atR a k) cs w):=fun a w=>step_lone_go (by simp [stepG,stepG.exec,Frame.atR])
 obtain⟨e,a₁,w₁,hq,harr⟩:=h b (.inScope c::k) cs hro hb hr
 cases e with
 |normal=>exact⟨.normal,a₁,w₁,hq,.head h0 s1 (StepsIn.trans harr (.one (fenced_calm hb hr rfl) (s2 _ _)))⟩
 |exit id'=>
  have hx:exitTo id' (.inScope c::k)=exitTo id' k:=by simp [exitTo]
  exact⟨.exit id',a₁,w₁,hq,fun k' hk=> .head h0 s1 (harr.1 k' (by rw[hx];exact hk)),
   fun hr' hk=>let⟨k₁,h1,h2⟩:=harr.2 hr' (by rw[hx];exact hk);⟨k₁,h1,.head h0 s1 h2⟩⟩
 |goto l=>exact hq.elim
 |ret=>exact⟨_,a₁,w₁,hq,.of_steps (.one h0 s1) harr⟩
 |panic ch=>exact⟨_,a₁,w₁,hq,.of_steps (.one h0 s1) harr⟩
 |outgrown=>exact⟨_,a₁,w₁,hq,.of_steps (.one h0 s1) harr⟩
theorem YdM{κ0:Kont}:∀{K:List It}{sv:List Act}{ks:List (Nat×Obj)}{r:Option Nat}{κ:Kont}{l:Nat}{ps:List Nat}{a b:VC},YeE K=some (l,ps,a,b)->KRel P w0 κ0 K sv ks r κ->
 ∃(q:Rec) (sa:Act) (sv':List Act) (ks':List (Nat×Obj)),sv=sa::sv'/\ks=(l,.loop (q.at .ready none))::ks'/\r=none/\q.ps=ps/\q.tmps=sa.tmps/\YcB P q.ca=some a/\YcB P q.cb=some b
 | [],_,_,_,_,_,_,_,_,h,_=>by cases h
 | .code _::K,_,_,_,_,_,_,_,_,h,.code _ _ _ _ _ _ _ _ hk=>YdM (K:=K) h hk
 | .ops _::K,_,_,_,_,_,_,_,_,h,.ops _ _ _ _ _ _ _ _ _ hk=>YdM (K:=K) h hk
 | .inBlock _::K,_,_,_,_,_,_,_,_,h,.inBlock _ _ _ _ _ _ hk=>YdM (K:=K) h hk
 | .inScope::K,_,_,_,_,_,_,_,_,h,.inScope _ _ _ _ _ hk=>YdM (K:=K) h hk
 | .inLoop _::K,_,_,_,_,_,_,_,_,h,.inLoop _ _ _ _ _ _ _ _ hk=>YdM (K:=K) h hk
 | .frame _ _::K,_,_,_,_,_,_,_,_,h,_=>by cases h
 | .rbeg::K,_,_,_,_,_,_,_,_,h,_=>by cases h
 | .rend _::K,_,_,_,_,_,_,_,_,h,_=>by cases h
 | .dops _::K,_,_,_,_,_,_,_,_,h,_=>by cases h
 | .dtr _::K,_,_,_,_,_,_,_,_,h,_=>by cases h
 | .res _ _ _ _::K,_,_,_,_,_,_,_,_,h,_=>by cases h
 | .rfrm res l ps a b j::K,_,_,_,_,_,_,_,_,h,.rfrm _ _ q lp _ _ _ _ sa _ sv ks r κ hr _ hps ht ha hb hj hk=>by
   cases hj with
   |none=>cases h;exact⟨q,sa,sv,ks,rfl,rfl,rfl,hps,ht,ha,hb⟩
   |some c vc hc=>cases h
theorem Rec.at_inj{q q':Rec}{st st':LoopState}{pe pe':Option Code}(h:q.at st pe=q'.at st' pe'):q=q':=by
 obtain⟨fn,ps,ca,cb,D,tmps⟩:=q
 obtain⟨fn',ps',ca',cb',D',tmps'⟩:=q'
 simp only[Rec.at,_root_.Go.Loop.mk.injEq]at h
 obtain⟨_,_,rfl,rfl,h1,rfl,rfl,rfl⟩:=h
 have:ps=ps':=by simpa using h1
 rw[this]
theorem Yov{κ0:Kont}{l l':Nat}{q:Rec}{c:Code}{vc a b:VC}{res:List VR}{ps:List Nat}(hc:YcB P c=some vc){K:List It}{sv:List Act}{ks:List (Nat×Obj)}{r:Option Nat}{κ:Kont}(hk:KRel P w0 κ0 (.rfrm res l' ps a b none::K) sv ((l,.loop (q.at .ready none))::ks) r κ):
 KRel P w0 κ0 (.rfrm res l' ps a b (some vc)::K) sv ((l,.loop (q.at .done (some c)))::ks) r κ:=by
 generalize hks:(l,Obj.loop (q.at .ready none))::ks=ks0 at hk
 cases hk with
 |rfrm res' l' q' lp a' b' j' fn sa K' sv ks' r κ hr ps' hps ht ha hb hj hk=>
  cases hj
  simp only[List.cons.injEq,Prod.mk.injEq,Obj.loop.injEq]at hks
  obtain⟨⟨rfl,h2⟩,rfl⟩:=hks
  cases Rec.at_inj h2
  exact .rfrm res l q _ a b (some vc) fn sa K sv ks _ _ hr ps hps ht ha hb (.some c vc hc) hk
theorem YcO{κ0:Kont}{l:Nat}{q:Rec}{c:Code}{vc:VC}(hc:YcB P c=some vc):∀{K:List It}{sv:List Act}{ks:List (Nat×Obj)}{r:Option Nat}{κ:Kont},(YeE K).isSome=true->KRel P w0 κ0 K sv ((l,.loop (q.at .ready none))::ks) r κ->
 KRel P w0 κ0 (You vc K) sv ((l,.loop (q.at .done (some c)))::ks) r κ
 | [],_,_,_,_,h,_=>by cases h
 | .code _::K,_,_,_,_,h,.code _ _ _ _ _ _ _ hh hk=> .code _ _ _ _ _ _ _ hh (YcO hc (K:=K) h hk)
 | .ops _::K,_,_,_,_,h,.ops _ _ _ _ _ _ _ _ hh hk=> .ops _ _ _ _ _ _ _ _ hh (YcO hc (K:=K) h hk)
 | .inBlock _::K,_,_,_,_,h,.inBlock _ _ _ _ _ _ hk=> .inBlock _ _ _ _ _ _ (YcO hc (K:=K) h hk)
 | .inScope::K,_,_,_,_,h,.inScope _ _ _ _ _ hk=> .inScope _ _ _ _ _ (YcO hc (K:=K) h hk)
 | .inLoop _::K,_,_,_,_,h,.inLoop _ J _ _ _ _ _ _ hk=> .inLoop (fun _=>False) J _ _ _ _ _ (fun _ _ _ _ _ hI _=>hI.elim) (YcO hc (K:=K) h hk)
 | .frame _ _::K,_,_,_,_,h,_=>by cases h
 | .rbeg::K,_,_,_,_,h,_=>by cases h
 | .rend _::K,_,_,_,_,h,_=>by cases h
 | .dops _::K,_,_,_,_,h,_=>by cases h
 | .dtr _::K,_,_,_,_,h,_=>by cases h
 | .res _ _ _ _::K,_,_,_,_,h,_=>by cases h
 | .rfrm _ _ _ _ _ (some _)::K,_,_,_,_,h,_=>by cases h
 | .rfrm _ _ _ _ _ none::K,sv,ks,r,κ,h,hk=>Yov hc hk
theorem YdS{κ0:Kont}{id:Nat}:∀{K K':List It}{sv:List Act}{ks:List (Nat×Obj)}{r:Option Nat}{κ:Kont},YbG id K= .go K'->KRel P w0 κ0 K sv ks r κ->∃κ',KRel P w0 κ0 K' sv ks r κ'/\∀a w,κ' .normal a w->κ (.exit id) a w
 | [],_,_,_,_,_,h,_=>by cases h
 | .inBlock j::K,K',sv,_,_,_,h,.inBlock _ _ _ _ _ κ hk=>by
   simp only[YbG]at h
   cases hb:YGS j id with
   |true=>
    rw[hb]at h;cases h
    have:=YGD hb;subst this
    exact⟨κ,hk,fun a w hq=>by simpa [Exit.inBlock]using hq⟩
   |false=>
    rw[hb]at h
    obtain⟨κ',h1,h2⟩:=YdS h hk
    refine⟨κ',h1,fun a w hq=>?_⟩
    have hne:id≠j:=fun he=>YN hb he.symm
    simpa [Exit.inBlock,hne]using h2 a w hq
 | .inScope::K,K',_,_,_,_,h,.inScope _ _ _ _ κ hk=>let⟨κ',h1,h2⟩:=YdS (show YbG id K= .go K' from h) hk;⟨κ',h1,fun a w hq=>h2 a w hq⟩
 | .code _::K,K',_,_,_,_,h,.code _ _ _ _ _ _ κ _ hk=>let⟨κ',h1,h2⟩:=YdS (show YbG id K= .go K' from h) hk;⟨κ',h1,fun a w hq=>h2 a w hq⟩
 | .ops _::K,K',_,_,_,_,h,.ops _ _ _ _ _ _ _ κ _ hk=>let⟨κ',h1,h2⟩:=YdS (show YbG id K= .go K' from h) hk;⟨κ',h1,fun a w hq=>h2 a w hq⟩
 | .inLoop _::K,K',_,_,_,_,h,.inLoop _ _ _ _ _ _ κ _ hk=>let⟨κ',h1,h2⟩:=YdS (show YbG id K= .go K' from h) hk;⟨κ',h1,fun a w hq=>h2 a w hq⟩
 | .frame _ _::K,K',_,_,_,_,h,_=>by cases h
 | .rfrm .. ::K,K',_,_,_,_,h,_=>by cases h
 | .rbeg::K,K',_,_,_,_,h,_=>by cases h
 | .rend _::K,K',_,_,_,_,h,_=>by simp only[YbG,YkC]at h;split at h <;> cases h
 | .dops _::K,K',_,_,_,_,h,_=>by cases h
 | .dtr _::K,K',_,_,_,_,h,_=>by cases h
 | .res _ _ _ _::K,K',_,_,_,_,h,_=>by cases h
structure YwA (P:Program) (w0:Cx0) (κ0:Kont) (K':List It) (d:Option Nat) (sv:List Act) (ks:List (Nat×Obj)) (r:Option Nat) (f:Act->World->Prop):Prop where
 mk::(h:∃(c:Code) (q:Rec) (l:Nat) (ita:Act) (sv':List Act) (ks':List (Nat×Obj)) (κ':Kont),sv=ita::sv'/\ks=(l,.loop (q.at .busy none))::ks'/\r=some l/\KRel P w0 κ0 K' sv' ((l,.loop (q.at .done (some c)))::ks') none κ'/\
  ∀a w v w',(Instr.endRound l (some c)).run P w= .ok v w'->κ' .normal (ita.put d v) w'->f a w)
theorem Yby{κ0:Kont}{id:Nat}{d:Option Nat}:∀{K K':List It}{sv:List Act}{ks:List (Nat×Obj)}{r:Option Nat}{κ:Kont},YbG id K= .jump d K'->KRel P w0 κ0 K sv ks r κ->YwA P w0 κ0 K' d sv ks r (κ (.exit id))
 | [],_,_,_,_,_,h,_=>by cases h
 | .inBlock j::K,K',sv,_,_,_,h,.inBlock _ _ _ _ _ κ hk=>by
   simp only[YbG]at h
   cases hb:YGS j id with
   |true=>rw[hb]at h;cases h
   |false=>
    rw[hb]at h
    have hne:id≠j:=fun he=>YN hb he.symm
    have:=Yby h hk
    have e:Exit.inBlock j κ (.exit id)=κ (.exit id):=by funext a w;simp [Exit.inBlock,hne]
    rw[e];exact this
 | .inScope::K,K',_,_,_,_,h,.inScope _ _ _ _ κ hk=>Yby (κ:=κ) (show YbG id K= .jump d K' from h) hk
 | .code _::K,K',_,_,_,_,h,.code _ _ _ _ _ _ κ _ hk=>Yby (κ:=κ) (show YbG id K= .jump d K' from h) hk
 | .ops _::K,K',_,_,_,_,h,.ops _ _ _ _ _ _ _ κ _ hk=>Yby (κ:=κ) (show YbG id K= .jump d K' from h) hk
 | .inLoop _::K,K',_,_,_,_,h,.inLoop _ _ _ _ _ _ κ _ hk=>Yby (κ:=κ) (show YbG id K= .jump d K' from h) hk
 | .frame _ _::K,K',_,_,_,_,h,_=>by cases h
 | .rfrm .. ::K,K',_,_,_,_,h,_=>by cases h
 | .rbeg::K,K',_,_,_,_,h,_=>by cases h
 | .rend _::K,K',_,_,_,_,h,.rend _ l q ita _ sv ks κ R hR hk=>by
   simp only[YbG]at h
   cases hf:YeE K with
   |none=>rw[hf]at h;cases h
   |some x=>
    rw[hf]at h;cases h
    exact⟨.exit id,q,l,ita,sv,ks,κ,rfl,rfl,rfl,YcO rfl (by rw[hf];rfl) hk,fun a w v w' h1 h2=>⟨v,w',h1,hR v w' h2⟩⟩
 | .dops _::K,K',_,_,_,_,h,_=>by cases h
 | .dtr _::K,K',_,_,_,_,h,_=>by cases h
 | .res _ _ _ _::K,K',_,_,_,_,h,_=>by cases h
theorem Ycr{fn0:Func}{R0:Ending->World->Prop}:∀{K K':List It}{sv:List Act}{ks:List (Nat×Obj)}{r:Option Nat}{κ:Kont},Yad K= .go K'->KRel P w0 (bodyPostM (Wd none) 0 P fn0 R0) K sv ks r κ->∃κ',KRel P w0 (bodyPostM (Wd none) 0 P fn0 R0) K' sv ks r κ'/\∀a w,κ' .normal a w->κ .ret a w
 | [],_,_,_,_,_,h,.nil=>by cases h;exact⟨_,.nil,fun _ _ h=>h⟩
 | .inBlock j::K,K',sv,_,_,_,h,.inBlock _ _ _ _ _ κ hk=>let⟨κ',h1,h2⟩:=Ycr (show Yad K= .go K' from h) hk;⟨κ',h1,fun a w hq=>h2 a w hq⟩
 | .inScope::K,K',_,_,_,_,h,.inScope _ _ _ _ κ hk=>let⟨κ',h1,h2⟩:=Ycr (show Yad K= .go K' from h) hk;⟨κ',h1,fun a w hq=>h2 a w hq⟩
 | .code _::K,K',_,_,_,_,h,.code _ _ _ _ _ _ κ _ hk=>let⟨κ',h1,h2⟩:=Ycr (show Yad K= .go K' from h) hk;⟨κ',h1,fun a w hq=>h2 a w hq⟩
 | .ops _::K,K',_,_,_,_,h,.ops _ _ _ _ _ _ _ κ _ hk=>let⟨κ',h1,h2⟩:=Ycr (show Yad K= .go K' from h) hk;⟨κ',h1,fun a w hq=>h2 a w hq⟩
 | .inLoop _::K,K',_,_,_,_,h,.inLoop _ _ _ _ _ _ κ _ hk=>let⟨κ',h1,h2⟩:=Ycr (show Yad K= .go K' from h) hk;⟨κ',h1,fun a w hq=>h2 a w hq⟩
 | .frame d r::K,_,_,_,_,_,h,.frame _ _ fn sa _ sv ks r' κ R hh hR hk=>by cases h;exact⟨_,.frame d r fn sa K sv ks r' κ R hh hR hk,fun _ _ h=>h⟩
 | .rfrm res l ps a b j::K,_,_,_,_,_,h,.rfrm _ _ q lp _ _ _ fn sa _ sv ks r κ hr _ hps ht ha hb hj hk=>by cases h;exact⟨_,.rfrm res l q lp a b j fn sa K sv ks r κ hr ps hps ht ha hb hj hk,fun _ _ h=>h⟩
 | .rbeg::K,_,_,_,_,_,h,_=>by cases h
 | .rend _::K,_,_,_,_,_,h,_=>by simp only[Yad,YkC]at h;split at h <;> cases h
 | .dops _::K,_,_,_,_,_,h,_=>by cases h
 | .dtr _::K,_,_,_,_,_,h,_=>by cases h
 | .res _ _ _ _::K,_,_,_,_,_,h,_=>by cases h
theorem YaS{κ0:Kont}{d:Option Nat}:∀{K K':List It}{sv:List Act}{ks:List (Nat×Obj)}{r:Option Nat}{κ:Kont},Yad K= .jump d K'->KRel P w0 κ0 K sv ks r κ->YwA P w0 κ0 K' d sv ks r (κ .ret)
 | [],_,_,_,_,_,h,_=>by cases h
 | .inBlock j::K,K',sv,_,_,_,h,.inBlock _ _ _ _ _ κ hk=>YaS (κ:=κ) (show Yad K= .jump d K' from h) hk
 | .inScope::K,K',_,_,_,_,h,.inScope _ _ _ _ κ hk=>YaS (κ:=κ) (show Yad K= .jump d K' from h) hk
 | .code _::K,K',_,_,_,_,h,.code _ _ _ _ _ _ κ _ hk=>YaS (κ:=κ) (show Yad K= .jump d K' from h) hk
 | .ops _::K,K',_,_,_,_,h,.ops _ _ _ _ _ _ _ κ _ hk=>YaS (κ:=κ) (show Yad K= .jump d K' from h) hk
 | .inLoop _::K,K',_,_,_,_,h,.inLoop _ _ _ _ _ _ κ _ hk=>YaS (κ:=κ) (show Yad K= .jump d K' from h) hk
 | .frame _ _::K,K',_,_,_,_,h,_=>by cases h
 | .rfrm .. ::K,K',_,_,_,_,h,_=>by cases h
 | .rbeg::K,K',_,_,_,_,h,_=>by cases h
 | .rend _::K,K',_,_,_,_,h,.rend _ l q ita _ sv ks κ R hR hk=>by
   simp only[Yad]at h
   cases hf:YeE K with
   |none=>rw[hf]at h;cases h
   |some x=>
    rw[hf]at h;cases h
    exact⟨.ret,q,l,ita,sv,ks,κ,rfl,rfl,rfl,YcO rfl (by rw[hf];rfl) hk,fun a w v w' h1 h2=>⟨v,w',h1,hR v w' h2⟩⟩
 | .dops _::K,K',_,_,_,_,h,_=>by cases h
 | .dtr _::K,K',_,_,_,_,h,_=>by cases h
 | .res _ _ _ _::K,K',_,_,_,_,h,_=>by cases h
theorem YaR{κ0:Kont}:∀{K:List It}{sv:List Act}{ks:List (Nat×Obj)}{r:Option Nat}{κ:Kont},Ybq K=true->KRel P w0 κ0 K sv ks r κ->r=none
 | [],_,_,_,_,_,.nil=>rfl
 | .code _::K,_,_,_,_,h,.code _ _ _ _ _ _ _ _ hk=>YaR (K:=K) h hk
 | .ops _::K,_,_,_,_,h,.ops _ _ _ _ _ _ _ _ _ hk=>YaR (K:=K) h hk
 | .inBlock _::K,_,_,_,_,h,.inBlock _ _ _ _ _ _ hk=>YaR (K:=K) h hk
 | .inScope::K,_,_,_,_,h,.inScope _ _ _ _ _ hk=>YaR (K:=K) h hk
 | .inLoop _::K,_,_,_,_,h,.inLoop _ _ _ _ _ _ _ _ hk=>YaR (K:=K) h hk
 | .frame _ _::_,_,_,_,_,_,.frame .. =>rfl
 | .rfrm .. ::_,_,_,_,_,_,.rfrm .. =>rfl
 | .rbeg::K,_,_,_,_,h,_=>by cases h
 | .rend _::K,_,_,_,_,h,_=>by cases h
theorem YrD{hp:List HO}{bs:List BK}{B:Bd}{w:World}{t:TypeId}{agg:Bool}{size:Nat}{x:SV}{u:Value}{e:Ef}(ha:Yeu P t=some agg)(hs:sizeOf? P t=some size)
 (h1:agg=false->size=1)(he:Yhw hp agg size [x]=some e)(hpre:e.pre)(hx:RepL w bs B [x] [u])(hH:Hp w bs B hp):∃ad v,u= .pointer (some ad)/\(loadVar t ad).run P w= .ok v w/\Rep w bs B e.val v:=by
 have hq:=YrE (P:=P) (ρ:=fun _=>u) (x:= .tmp 0) ha hs h1 he hpre hx hH
 obtain⟨_,v,hrun,hr⟩:=hq
 simp only[Yhw]at he
 obtain⟨⟨p,cs⟩,hc,he⟩:=YGe.1 he
 cases Yh he
 obtain⟨v',_,hv,hx1,_⟩:=hx.cons_inv
 cases hv
 obtain⟨ad,vals,hv,_⟩:=YhS hc hpre.1 hx1 hH
 subst hv
 refine⟨ad,v,rfl,?_,hr⟩
 have h2:=hrun none 0 "" #[] none
 simp only[execOp,Instr.loadAt,Instr.sureAddr,Sem.run_bind,Sem.run_pure,Result.andThen_ok]at h2
 generalize(loadVar t ad).run P w=rr at h2
 cases rr with
 |ok a w2=>simp only[Result.andThen_ok,Result.ok.injEq,Next.value.injEq]at h2;rw[h2.1,h2.2]
 |halt a w2=>simp at h2
def rv(tmps:Array Value):ResultVar->Sem Value
 | .tmp t=>pure (tmps.getD t undef)
 | .cell a t=>do loadVar t (<-asAddr (tmps.getD a undef))
theorem YoH(fn:Func)(tmps:Array Value):results fn tmps=(do let vs<-fn.results.mapM (rv tmps);pure (if h:vs.size=1 then vs[0]else .tuple vs)):=rfl
theorem Yif{s:S}{a:Act}{bs:List BK}{w:World}(hf:RepL w bs w0.bd s.fr a.tmps.toList)(hH:Hp w bs w0.bd s.hp):∀{rs:List ResultVar}{vs:List VR}{p:Prop}{xs:List SV},YhF P rs=some vs->YaB s vs=some (p,xs)->p->
 ∃us,(rs.mapM (rv a.tmps)).run P w= .ok us w/\RepL w bs w0.bd xs us
 | [],vs,p,xs,h,h',hp=>by
   simp only[YhF,Option.some.injEq]at h;subst h
   simp only[YaB,Option.some.injEq,Prod.mk.injEq]at h'
   obtain⟨_,rfl⟩:=h'
   exact⟨[],by simp,.nil⟩
 |r::rs,vs,p,xs,h,h',hp=>by
  simp only[YhF]at h
  obtain⟨x,hx,h⟩:=YGe.1 h
  obtain⟨vs',hvs,rfl⟩:=YGh.1 h
  simp only[YaB]at h'
  obtain⟨⟨p1,v1⟩,hv1,h'⟩:=YGe.1 h'
  obtain⟨⟨q,l⟩,hl,h'⟩:=YGh.1 h'
  simp only[Prod.mk.injEq]at h'
  obtain⟨rfl,rfl⟩:=h'
  obtain⟨us,hus,hr⟩:=Yif hf hH hvs hl hp.2
  cases r with
  |tmp t=>
   simp only[vres,Option.some.injEq]at hx;subst hx
   simp only[YnU,Option.some.injEq,Prod.mk.injEq]at hv1
   obtain⟨_,rfl⟩:=hv1
   refine⟨a.tmps.getD t undef::us,?_,.cons _ _ _ _ ?_ hr⟩
   ·simp only[List.mapM_cons,rv,Sem.run_bind,Sem.run_pure,Result.andThen_ok,hus]
   ·have:=hf.get t (d:=undef)
    simpa [Array.getD_eq_getD_getElem?,List.getD]using this
  |cell ad t=>
   simp only[vres]at hx
   obtain⟨g,hg,hx⟩:=YGe.1 hx
   obtain⟨sz,hsz,hx⟩:=YGe.1 hx
   split at hx <;> cases hx
   simp only[YnU]at hv1
   obtain⟨e,he,hv1⟩:=YGh.1 hv1
   simp only[Prod.mk.injEq]at hv1
   obtain⟨rfl,rfl⟩:=hv1
   have hrep:Rep w bs w0.bd (getL s.fr ad) (a.tmps.getD ad undef):=by
    have:=hf.get ad (d:=undef)
    simpa [Array.getD_eq_getD_getElem?,List.getD]using this
   obtain⟨adr,v,hptr,hrun,hrv⟩:=YrD (P:=P) hg hsz (YiM ‹_›) he hp.1 (RepL.cons _ _ _ _ hrep .nil) hH
   refine⟨v::us,?_,.cons _ _ _ _ hrv hr⟩
   have e1:(asAddr (.pointer (some adr))).run P w= .ok adr w:=rfl
   simp only[List.mapM_cons,rv,Sem.run_bind,hptr,e1,Sem.run_pure,Result.andThen_ok,hrun,hus]
theorem YfD{fn:Func}{s:S}{a:Act}{bs:List BK}{w:World}(hf:RepL w bs w0.bd s.fr a.tmps.toList)(hH:Hp w bs w0.bd s.hp){vs:List VR}{p:Prop}{xs:List SV}(h:YhF P fn.results.toList=some vs)(h':YaB s vs=some (p,xs))(hp:p):
 ∃v,(results fn a.tmps).run P w= .ok v w/\Rep w bs w0.bd (Yf3 xs) v:=by
 obtain⟨us,hus,hr⟩:=Yif hf hH h h' hp
 have hm:(fn.results.mapM (rv a.tmps)).run P w= .ok us.toArray w:=by
  rw[Array.mapM_eq_mapM_toList]
  simp only[Sem.run_map,hus,Result.andThen_ok]
 refine⟨if h:us.toArray.size=1 then us.toArray[0]else .tuple us.toArray,?_,?_⟩
 ·rw[YoH]
  simp only[Sem.run_bind,hm,Result.andThen_ok,Sem.run_pure]
 ·cases hr with
  |nil=>exact .tup _ _ .nil
  |cons x v l us h1 h2=>
   cases h2 with
   |nil=>simpa [Yf3]using h1
   |cons x' v' l' us' h3 h4=>
    have:=Rep.tup _ _ (RepL.cons _ _ _ _ h1 (RepL.cons _ _ _ _ h3 h4))
    simpa [Yf3]using this
end
end Go.Vx
namespace Go.Vx
open Go.RowKit
section
variable {w:World} {bs bs':List BK} {B B':Bd} {i n:Nat} {C:Nat->Int->Prop}
structure Pub (w:World) (bs bs':List BK) (B B':Bd) (i n:Nat) (C:Nat->Int->Prop):Prop where
 ne:∀j,j≠i->bs'[j]? =bs[j]?
 at':∀b c n,bs'[i]? ≠some (.blk b c n)
 notnil:bs[i]? ≠some .nil
 blk:∀b cap m,bs[i]? =some (.blk b cap m)->m=n/\n<=cap/\B'.I b=some (.ints n C)
 pos:0<n
 k:YbP w bs B w bs' B'
theorem Pub.back(h:Pub w bs bs' B B' i n C){j b c m:Nat}(hj:bs'[j]? =some (.blk b c m)):j≠i/\bs[j]? =some (.blk b c m):=by
 have hne:j≠i:=fun he=>h.at' b c m (he▸hj)
 exact⟨hne,(h.ne j hne)▸hj⟩
mutual
theorem pubX(i n:Nat)(C:Nat->Int->Prop):∀{s:SV}{v:Value},XRep w bs B s v->XRep w bs B (pubV i n C s) v
 |_,_,.int k n=> .int k n
 |_,_,.bool b=> .bool b
 |_,_,.val v=> .val v
 |_,_,.nil=> .nil
 |_,_,.junk v=> .junk v
 |_,_,.agg cs vs h=> .agg _ vs (Yse i n C h)
 |_,_,.tup cs vs h=> .tup _ vs (Yse i n C h)
 |_,_,.fn f fs cs us vs h h'=> .fn f _ _ us vs (Yse i n C h) (Yse i n C h')
 |_,_,.iface t x v h=> .iface t _ v (pubX i n C h)
 |_,_,.vs t z n size get a cap vals hz hc hn hcell h=> .vs t z n size get a cap vals hz hc hn hcell h
 |_,_,.xp t cs ad vals hs hf ht hc h=> .xp t cs ad vals hs hf ht hc h
 |_,_,.row n C b cap h1 h2=> .row n C b cap h1 h2
 |_,_,.rcell D n C k b h1 h2 h3=> .rcell D n C k b h1 h2 h3
 |_,_,.imap kk C b h1=> .imap kk C b h1
theorem Yse(i n:Nat)(C:Nat->Int->Prop):∀{l:List SV}{vs:List Value},XRepL w bs B l vs->XRepL w bs B (pubL i n C l) vs
 |_,_,.nil=> .nil
 |_,_,.cons x v l vs h h'=> .cons _ v _ vs (pubX i n C h) (Yse i n C h')
end
mutual
theorem YnN(hf:Pub w bs bs' B B' i n C):∀{s:SV}{v:Value},Rep w bs B s v->Rep w bs' B' (pubV i n C s) v
 |_,_,.x s v h=> .x _ v ((pubX i n C h).keepG hf.k)
 |_,_,.agg cs vs h=> .agg _ vs (YcT hf h)
 |_,_,.tup cs vs h=> .tup _ vs (YcT hf h)
 |_,_,.fn f fs cs us vs h h'=> .fn f _ _ us vs (YcT hf h) (YcT hf h')
 |_,_,.iface t x v h=> .iface t _ v (YnN hf h)
 |_,_,.ptr j off b m h=>by
  simp only[pubV]
  cases hj:YGS j i with
  |true=>exact .x _ _ (.junk _)
  |false=>exact .ptr _ _ _ _ ((hf.ne j (YN hj)).symm▸h)
 |_,_,.own j lo m size b cap mm ad h hl ha=>by
  simp only[pubV]
  cases hj:YGS j i with
  |false=>exact .own _ _ _ _ b cap mm ad ((hf.ne j (YN hj)).symm▸h) hl ha
  |true=>
   have:=YfW hj;subst this
   simp only[cond_true]
   cases h1:YGS lo 0 with
   |false=>exact .x _ _ (.junk _)
   |true=>
    cases h2:YGS m n with
    |false=>exact .x _ _ (.junk _)
    |true=>
     cases h3:YGS size 1 with
     |false=>exact .x _ _ (.junk _)
     |true=>
      have:=YfW h1;subst this
      have:=YfW h2;subst this
      have:=YfW h3;subst this
      obtain⟨g1,g2,g3⟩:=hf.blk b cap mm h
      have had:ad=⟨b,0,none⟩:=by
       rcases ha with h| ⟨_,h⟩
       ·simpa using h
       ·omega
      subst had
      simp only[Nat.sub_zero,Bool.and_self,cond_true]
      exact .x _ _ (.row _ _ _ _ g3 g2)
 |_,_,.ownNil j size h=>by
  simp only[pubV]
  cases hj:YGS j i with
  |false=>exact .ownNil _ _ ((hf.ne j (YN hj)).symm▸h)
  |true=>
   have:=YfW hj;subst this
   exact absurd h hf.notnil
 |_,_,.elem j k off size b cap m h hk=>by
  simp only[pubV]
  cases hj:YGS j i with
  |true=>exact .x _ _ (.junk _)
  |false=>exact .elem _ _ _ _ _ _ _ ((hf.ne j (YN hj)).symm▸h) hk
 |_,_,.smp j b h=>by
  simp only[pubV]
  cases hj:YGS j i with
  |true=>exact .x _ _ (.junk _)
  |false=>exact .smp _ _ ((hf.ne j (YN hj)).symm▸h)
 |_,_,.optT x v h=> .optT _ v (YnN hf h)
 |_,_,.optF x=> .optF _
 |_,_,.cut x a n cap h=> .cut _ a n cap (YnN hf h)
theorem YcT(hf:Pub w bs bs' B B' i n C):∀{l:List SV}{vs:List Value},RepL w bs B l vs->RepL w bs' B' (pubL i n C l) vs
 |_,_,.nil=> .nil
 |_,_,.cons x v l vs h h'=> .cons _ v _ vs (YnN hf h) (YcT hf h')
end
theorem YnM(hf:Pub w bs bs' B B' i n C):∀{l:List (List SV)}{vs:List (List Value)},RepLL w bs B l vs->RepLL w bs' B' (Yu2 i n C l) vs
 |_,_,.nil=> .nil
 |_,_,.cons x v l vs h h'=> .cons _ v _ vs (YcT hf h) (YnM hf h')
def YDz(i n:Nat)(C:Nat->Int->Prop):HO->HO
 | .box cs=> .box (pubL i n C cs)
 | .own z' s m g=> .own z' s m (fun k=>pubL i n C (g k))
 | .smap l=> .smap l
 | .gone=> .gone
theorem Yns:∀(hp:List HO)(j:Nat),getH (Yga i n C hp) j=YDz i n C (getH hp j)
 | [],j=>by cases j <;> rfl
 |h::l,0=>by cases h <;> rfl
 |h::l,j+1=>by cases h <;> simpa [Yga,getH]using Yns l j
theorem Yjk:∀(hp:List HO),lenH (Yga i n C hp)=lenH hp
 | []=>rfl
 |h::l=>by cases h <;> simp [Yga,lenH,Yjk l]
theorem Yzd{D:Int->Prop}{l:List SV}{vs:List Value}(h:pubC D l)(hr:RepL w bs B l vs):∃v,vs=[.int .i64 v]/\D v:=by
 unfold pubC at h
 split at h
 ·rename_i v
  obtain⟨u,us,rfl,h1,h2⟩:=hr.cons_inv
  rw[h1.int_inv,h2.nil_inv]
  exact⟨v,rfl,h⟩
 ·exact h.elim
theorem Yzc{w0:Cx0}{ks:List (Nat×Obj)}{J:Nat->Option IK}{hJ:Ext w0 J}{s:S}{a:Act}{sv:List Act}(i n:Nat)(C:Nat->Int->Prop)(hp1:Yze n C (getH s.hp i))(hr:Rl ⟨w0.wI J hJ,ks⟩ s a sv w):
 ∃J',∃hJ':Ext w0 J',Rl ⟨w0.wI J' hJ',ks⟩ (pub1 s i n C) a sv w:=by
 cases hg:getH s.hp i with
 |box cs=>rw[hg]at hp1;exact hp1.elim
 |smap l=>rw[hg]at hp1;exact hp1.elim
 |gone=>rw[hg]at hp1;exact hp1.elim
 |own z sz N get=>
  rw[hg]at hp1
  obtain⟨⟨rfl,rfl,hpos⟩,hC⟩:=hp1
  obtain⟨bs,h1,h2,hH,hb,ho⟩:=hr
  have hlen:=hH.len
  have hi:i<lenH s.hp:=by
   rcases YGz i (lenH s.hp)with h|h
   ·exact h
   ·rw[Ybb _ _ h]at hg;cases hg
  have hent:=hH.ent i
  rw[hg]at hent
  rcases hent with⟨_,_,h0⟩ | ⟨blk,cap,vs,T,e1,e2,e3,e4,e5,e6⟩
  ·omega
  have hun:J blk=none:=hH.un e1
  have hlo:w0.heap.size<=blk:=(hH.lo _ _ _ _ e1).1
  let J':Nat->Option IK:=fun b=>if b=blk then some (.ints N C)else J b
  have hJ':Ext w0 J':=⟨fun b hb=>by show(if b=blk then _ else _)=_;rw[if_neg (by omega)];exact hJ.old b hb,fun b K hK=>by
   show(if b=blk then _ else _)=_
   have:=hJ.sub b K hK
   rw[if_neg (by rintro rfl;rw[hun]at this;cases this)];exact this⟩
  have hsub:∀b K,J b=some K->J' b=some K:=fun b K hK=>by
   show(if b=blk then _ else _)=_
   rw[if_neg (by rintro rfl;rw[hun]at hK;cases hK)];exact hK
  let bs':=bs.set i .gone
  have hat:bs'[i]? =some .gone:=by simp [bs',List.getElem?_set,hlen,hi]
  have hne:∀j,j≠i->bs'[j]? =bs[j]? :=fun j hj=>by simp [bs',List.getElem?_set];intro h;exact absurd h.symm hj
  have hback:∀{j b c m:Nat},bs'[j]? =some (.blk b c m)->j≠i/\bs[j]? =some (.blk b c m):=by
   intro j b c m hj
   have hji:j≠i:=by rintro rfl;rw[hat]at hj;cases hj
   exact⟨hji,(hne j hji)▸hj⟩
  have hfree:∀{b},Free bs b->Free bs' b:=fun hf j b' c m hj=>hf j b' c m (hback hj).2
  have hkeep:Keeps w bs w bs':=fun _ hf _ ho=>⟨ho,hfree hf⟩
  have hk:YbP w bs (w0.wI J hJ).bd w bs' (w0.wI J' hJ').bd:=by
   refine⟨rfl,hsub,fun b hf cs T fz hcs=>⟨hcs,hfree hf.1,hf.2.1,?_⟩⟩
   show(if b=blk then _ else _)=_
   rw[if_neg (by rintro rfl;exact hf.1 _ _ _ _ e1 rfl)];exact hf.2.2
  have hsat:(IK.ints N C).ok (.cells vs T (0,0)):=by
   refine⟨vs,T,rfl,by rw[e4];omega,fun k hk=>?_⟩
   obtain⟨v,h3,h4⟩:=Yzd (hC k hk) (e6 k hk)
   refine⟨v,?_,h4⟩
   have h5:((vs.toList.drop (k*1)).take 1)[0]? =some (.int .i64 v):=by rw[h3];rfl
   simpa [YHl]using h5
  have hf:Pub w bs bs' (w0.wI J hJ).bd (w0.wI J' hJ').bd i N C:=by
   refine⟨hne,fun b c m h=>?_,fun h=>?_,fun b c m h=>?_,hpos,hk⟩
   ·rw[hat]at h;cases h
   ·rw[e1]at h;cases h
   ·rw[e1]at h;cases h
    exact⟨rfl,e5,by show(if blk=blk then _ else _)=_;rw[if_pos rfl]⟩
  refine⟨J',hJ',bs',YcT hf h1,YnM hf h2,⟨?_,fun j=>?_,fun j j' b c k c' k' g1 g2=>hH.inj _ _ _ _ _ _ _ (hback g1).2 (hback g2).2,fun j b c k g1=>hH.lo j b c k (hback g1).2,fun b K hK=>?_⟩,⟨hb.os,hb.tape,hb.output,hb.size,fun k hk hI=>hb.block k hk ?_⟩,?_⟩
  ·simp [bs',pub1,YcQ,Yjk,hlen]
  ·by_cases hj:j=i
   ·subst hj
    show HRep w bs' _ j (getH (setH (Yga j N C s.hp) j .gone) j)
    rw[YaQ _ _ _ (by rw[Yjk];exact hi)]
    exact .inl hat
   ·show HRep w bs' _ j (getH (setH (Yga i N C s.hp) i .gone) j)
    rw[YR _ _ _ _ (Ne.symm hj),Yns]
    have hentj:=hH.ent j
    cases hgj:getH s.hp j with
    |gone=>
     rw[hgj]at hentj
     simp only[YDz,HRep,hne j hj];exact hentj
    |smap l=>
     rw[hgj]at hentj
     obtain⟨b,es,c,q1,q2,q3⟩:=hentj
     exact⟨b,es,c,by rw[hne j hj];exact q1,q2,q3⟩
    |box cs=>
     rw[hgj]at hentj
     obtain⟨b,vs,T,q1,q2,q3⟩:=hentj
     exact⟨b,vs,T,by rw[hne j hj];exact q1,q2,YcT hf q3⟩
    |own z' s' n' g'=>
     rw[hgj]at hentj
     rcases hentj with⟨q1,q2,q3⟩ | ⟨b,cap,vs,T,q1,q2,q3,q4,q5,q6⟩
     ·exact .inl ⟨by rw[hne j hj];exact q1,q2,q3⟩
     ·exact .inr ⟨b,cap,vs,T,by rw[hne j hj];exact q1,q2,q3,q4,q5,fun k hk=>YcT hf (q6 k hk)⟩
  ·by_cases hb':b=blk
   ·subst hb'
    have hK':some (IK.ints N C)=some K:=by have h:J' b=some K:=hK;simpa [J']using h
    cases hK'
    refine⟨fun j b' c m hj he=>?_,_,e3,hsat⟩
    subst he
    obtain⟨g1,g2⟩:=hback hj
    exact g1 (hH.inj _ _ _ _ _ _ _ g2 e1)
   ·have h:J b=some K:=by have h:J' b=some K:=hK;simpa [J',hb']using h
    obtain⟨g1,g2⟩:=hH.reg b K h
    exact⟨hfree g1,g2⟩
  ·have hI:J' k=none:=hI
   show J k=none
   cases hq:J k with
   |none=>rfl
   |some K=>rw[hsub k K hq]at hI;cases hI
  ·have:=ho.keep hkeep
   exact⟨this.kn,this.nd,this.ms⟩
theorem Ysd{w0:Cx0}{ks:List (Nat×Obj)}{a:Act}{sv:List Act}:∀(l:List (Nat×Nat×(Nat->Int->Prop))){J:Nat->Option IK}{hJ:Ext w0 J}{s:S},pubP l s->Rl ⟨w0.wI J hJ,ks⟩ s a sv w->∃J',∃hJ':Ext w0 J',Rl ⟨w0.wI J' hJ',ks⟩ (pubS l s) a sv w
 | [],J,hJ,_,_,hr=>⟨J,hJ,hr⟩
 | (i,n,C)::l,_,_,_,h,hr=>by
   obtain⟨J',hJ',hr'⟩:=Yzc i n C h.1 hr
   exact Ysd l h.2 hr'
theorem Yv0{w0:Cx0}{ks:List (Nat×Obj)}{a:Act}{sv:List Act}{J:Nat->Option IK}{hJ:Ext w0 J}{s s':S}(h:leP s s')(hr:Rl ⟨w0.wI J hJ,ks⟩ s a sv w):∃J',∃hJ':Ext w0 J',Rl ⟨w0.wI J' hJ',ks⟩ s' a sv w:=by
 obtain⟨l,h1,h2⟩:=h
 obtain⟨J',hJ',hr'⟩:=Ysd l h1 hr
 exact⟨J',hJ',YCV h2 hr'⟩
end
end Go.Vx
namespace Go.Vx
open Go.RowKit
section
variable {P:Program} {E:Env} {Q:SV->List HO->Prop} {vr:List VR} {w0:Cx}
theorem X_of{s:S}{a:Act}{bs:List BK}{B:Bd}{w:World}(hf:RepL w bs B s.fr a.tmps.toList){o:Operand}{x:X}(h:X.of o=some x):Rep w bs B (s.x x) (a.eval o):=by
 cases o with
 |tmp t=>
  simp only[X.of,Option.some.injEq]at h;subst h
  have:=hf.get t (d:=undef)
  simpa [S.x,Act.eval,Array.getD_eq_getD_getElem?,List.getD]using this
 |const v=>
  simp only[X.of,Option.some.injEq]at h;subst h
  have hcell:∀u:Value,Rep w bs B (YfN u) u:=by
   intro u
   unfold YfN
   split <;> exact .x _ _ (by constructor)
  have hcells:∀l:List Value,RepL w bs B (l.map YfN) l:=by
   intro l
   induction l with
   |nil=>exact .nil
   |cons u l ih=>exact .cons _ _ _ _ (hcell u) ih
  show Rep w bs B (svOf v) v
  unfold svOf
  split
  ·rename_i cs
   have:=Rep.agg _ _ (hcells cs.toList)
   simpa using this
  ·exact hcell v
 |func f=>simp only[X.of,Option.some.injEq]at h;subst h;exact .x _ _ (.fn _ [] [] [] [] .nil .nil)
 |global g=>simp [X.of]at h
theorem Yt4{s:S}{a:Act}{bs:List BK}{B:Bd}{w:World}(hf:RepL w bs B s.fr a.tmps.toList):∀{os:List Operand}{xs:List X},X.ofs os=some xs->RepL w bs B (s.args xs) (os.map a.eval)
 | [],xs,h=>by simp only[X.ofs,Option.some.injEq]at h;subst h;exact .nil
 |o::os,xs,h=>by
  simp only[X.ofs]at h
  obtain⟨y,hy,h⟩:=YGe.1 h
  obtain⟨ys,hys,rfl⟩:=YGh.1 h
  exact .cons _ _ _ _ (X_of hf hy) (Yt4 hf hys)
theorem Yhs{bs:List BK}{B:Bd}{w:World}{gb:Bool}(hg:gb=true):∀{l:List SV}{vs:List Value},RepL w bs B l vs->(Yf5 gb l).1->RepL w bs B (Yf5 gb l).2 vs
 |_,_,.nil,_=> .nil
 |_,_,.cons x v l vs h h',hp=>by
  refine .cons _ _ _ _ ?_ (Yhs hg h' hp.2)
  have hp1:=hp.1
  cases x <;> try exact h
  rename_i b y
  have hb:=hp1 hg
  subst hb
  cases h with
  |x _ _ h=>cases h
  |optT _ _ h=>exact h
theorem Yvx{bs:List BK}{B:Bd}{w:World}{gb:Bool}(hg:gb=true){x:SV}{v:Value}(h:Rep w bs B x v)(hp1:(Ymk gb x).1):Rep w bs B (Ymk gb x).2 v:=by
 cases x <;> try exact h
 rename_i b y
 have hb:=hp1 hg
 subst hb
 cases h with
 |x _ _ h=>cases h
 |optT _ _ h=>exact h
theorem Ycz{bs:List BK}{B:Bd}{w:World}{gb:Bool}{o:VO}(hg:gb=true){l:List SV}{vs:List Value}(h:RepL w bs B l vs)(hp:(YU o gb l).1):RepL w bs B (YU o gb l).2 vs:=by
 unfold YU YjL at*
 split at hp
 ·exact Yhs hg h hp
 ·split at hp
  ·cases h with
   |cons _ v _ vs h1 h2=>exact .cons _ _ _ _ (Yvx hg h1 hp) h2
  ·exact Yhs hg h hp
theorem Yhe{s:S}{a:Act}{bs:List BK}{B:Bd}{w:World}(hf:RepL w bs B s.fr a.tmps.toList){d:Option Nat}{x:SV}{v:Value}(hx:Rep w bs B x v):RepL w bs B (s.put d x).fr (a.put d v).tmps.toList:=by
 cases d with
 |none=>exact hf
 |some d=>
  show RepL w bs B (setL s.fr d x) (a.tmps.setIfInBounds d v).toList
  rw[Array.toList_setIfInBounds]
  exact hf.set d hx
theorem Yfb(s:S)(d:Option Nat)(x:SV):(s.put d x).saved=s.saved:=by cases d <;> rfl
theorem Ydu(s:S)(d:Option Nat)(x:SV):(s.put d x).hp=s.hp:=by cases d <;> rfl
theorem YbH(a:Act)(d:Option Nat)(v:Value):(a.put d v).defers=a.defers:=by cases d <;> rfl
theorem Yht{s:S}{a:Act}{sv:List Act}{w:World}{bs:List BK}{e:Ef}{op:Op}(hf:RepL w bs w0.bd s.fr a.tmps.toList)(hs:RepLL w bs w0.bd s.saved (sv.map (·.tmps.toList))) (hb:BelowI w0.bd w0.toWorld w) (ho:Oth w bs w0.bd w0.ks ((a::sv).map (·.defers)))
 {w':World} {bs':List BK} {v:Value} (hr:Rep w' bs' w0.bd e.val v) (hH:Hp w' bs' w0.bd (updH s.hp e.upd)) (hk:Keeps w bs w' bs') (hst:Stays (updE e.upd) bs bs') (hbb:Below w0.heap.size w w') (d:Option Nat):
 Rl w0 ((s.upd e.upd).put d e.val) (a.put d v) sv w':=by
 refine⟨bs',?_,?_,?_,hb.trans (BelowI.of hbb),by rw[YGY,YbH];exact ho.keep hk⟩
 ·refine Yhe ?_ hr
  cases hu:e.upd <;> rw[hu]at hst <;> simp only[S.upd]
  ·exact hf.keep hk hst Yi
  ·exact hf.keep hk hst Yi
  ·exact hf.keep hk hst Yi
  ·exact Yak hk hst hf
 ·rw[Yfb]
  cases hu:e.upd <;> rw[hu]at hst <;> simp only[S.upd]
  ·exact hs.keep hk hst
  ·exact hs.keep hk hst
  ·exact hs.keep hk hst
  ·exact Yhd hk hst hs
 ·rw[Ydu]
  cases hu:e.upd <;> rw[hu]at hH <;> simpa [S.upd,updH]using hH
theorem Yof{o:Oper}{vo:VO}{ops:List Operand}(h:vop P o=some (vo,ops))(hc:Ybr o.op=true)(hvc:vo.isCall=true):∃c:Call,o.op= .call c/\
 ((∃f,vo= .call f/\c.callee= .value (.func f)/\ops=c.args.toList)\/(∃x,vo= .callv/\c.callee= .value x/\ops=x::c.args.toList)\/(∃x m,vo= .invoke m/\c.callee= .invoke x m)):=by
 obtain⟨dst,op,type,pos,after,guard⟩:=o
 cases op <;> try (cases hc;done)
 rename_i c
 refine⟨c,rfl,?_⟩
 simp only[Ybr]at hc
 unfold vop at h
 simp only at h
 cases hcal:c.callee with
 |builtin b=>rw[hcal]at hc;cases hc
 |invoke x m=>rw[hcal]at h;cases h;exact .inr (.inr ⟨_,_,rfl,rfl⟩)
 |value x=>
  rw[hcal]at h
  cases x with
  |func f=>
   simp only at h
   split at h
   ·cases h;cases hvc
   ·cases h;exact .inl ⟨_,rfl,rfl,rfl⟩
  |tmp t=>cases h;exact .inr (.inl ⟨_,rfl,rfl,rfl⟩)
  |const v=>cases h;exact .inr (.inl ⟨_,rfl,rfl,rfl⟩)
  |global g=>cases h;exact .inr (.inl ⟨_,rfl,rfl,rfl⟩)
theorem Ym8{o:VO}{xs ys:List SV}{c:Ctr}(h:ctOf E o xs=some (c,ys)):∃f,callee E o xs=some (f,ys)/\E.ct f=some c/\o.isCall=true:=by
 unfold ctOf at h
 split at h
 ·rename_i f
  cases hc:E.ct f with
  |none=>rw[hc]at h;cases h
  |some c'=>rw[hc]at h;cases h;exact⟨f,rfl,hc,rfl⟩
 ·rename_i m
  split at h
  ·rename_i t v l
   cases hm:E.meth t m with
   |none=>rw[hm]at h;cases h
   |some f=>
    rw[hm]at h
    simp only[ctI]at h
    cases hc:E.ct f with
    |none=>rw[hc]at h;cases h
    |some c'=>rw[hc]at h;cases h;exact⟨f,by simp only[callee,hm,YlD],hc,rfl⟩
  ·cases h
 ·cases h
theorem Yfq{ρ:Operand->Value}{o:Oper}{vo:VO}{ops:List Operand}{xs ys:List SV}{f:FuncId}{w:World}{bs:List BK}{B:Bd}(hm:∀t m f,E.meth t m=some f->YkJ P t m=some f)(hv:vop P o=some (vo,ops))(hcall:Ybr o.op=true)(hc:callee E vo xs=some (f,ys))(hx:RepL w bs B xs (ops.map ρ))
 (hρ:∀f,ρ (.func f)= .func (.func f) #[] #[]) (hen:Yc6 P f):∃vs:List Value,RepL w bs B ys vs/\(execOp ρ o).run P w= .ok (.enter f vs.toArray) w:=by
 obtain⟨c,hop,h⟩:=Yof hv hcall (by unfold callee at hc;split at hc <;> first|rfl|cases hc)
 obtain⟨dst,op,type,pos,after,guard⟩:=o
 simp only at hop
 subst hop
 rcases h with⟨g,rfl,hcal,rfl⟩ | ⟨x,rfl,hcal,rfl⟩ | ⟨x,m,rfl,hcal⟩
 ·simp only[callee,Option.some.injEq,Prod.mk.injEq]at hc
  obtain⟨rfl,rfl⟩:=hc
  refine⟨c.args.toList.map ρ,hx,?_⟩
  have e:(c.args.toList.map ρ).toArray= #[]++c.args.map ρ++ #[]:=by apply Array.ext';simp
  rw[e]
  simp only[execOp,resolve,hcal,hρ,Deferred.ofValue,Sem.run_bind,Sem.run_pure,Result.andThen_ok,invoke,YbU hen]
 ·simp only[callee]at hc
  cases xs with
  |nil=>cases hc
  |cons fv l=>
   simp only at hc
   unfold YiJ at hc
   split at hc
   ·rename_i g a b
    simp only[Option.some.injEq,Prod.mk.injEq]at hc
    obtain⟨rfl,rfl⟩:=hc
    obtain⟨v,vs,hvs,h1,h2⟩:=hx.cons_inv
    simp only[YGY,List.cons.injEq]at hvs
    obtain⟨hv1,rfl⟩:=hvs
    obtain⟨us,us',rfl,h3,h4⟩:=h1.fn_inv
    refine⟨us++(c.args.toList.map ρ++us'),h3.append (h2.append h4),?_⟩
    have e:(us++(c.args.toList.map ρ++us')).toArray=us.toArray++c.args.map ρ++us'.toArray:=by apply Array.ext';simp
    rw[e]
    simp only[execOp,resolve,hcal,hv1,Deferred.ofValue,Sem.run_bind,Sem.run_pure,Result.andThen_ok,invoke,YbU hen]
   ·cases hc
 ·simp only[callee]at hc
  have hops:ops=x::c.args.toList:=by
   unfold vop at hv
   simp only[hcal]at hv
   cases hv;rfl
  subst hops
  split at hc
  ·rename_i t v l
   obtain⟨hg,hys⟩:E.meth t m=some f/\v::l=ys:=by
    cases hm':E.meth t m with
    |none=>rw[hm']at hc;cases hc
    |some g=>rw[hm']at hc;cases hc;exact⟨rfl,rfl⟩
   subst hys
   obtain⟨u,us,hvs,h1,h2⟩:=hx.cons_inv
   simp only[YGY,List.cons.injEq]at hvs
   obtain⟨hv1,rfl⟩:=hvs
   obtain⟨u',rfl,h3⟩:=h1.iface_inv
   refine⟨u'::c.args.toList.map ρ,.cons _ _ _ _ h3 h2,?_⟩
   have e:(u'::c.args.toList.map ρ).toArray= #[u']++c.args.map ρ:=by apply Array.ext';simp
   rw[e]
   have e2:(#[Value.iface t u']++Array.map ρ c.args).extract 1 (#[Value.iface t u']++Array.map ρ c.args).size=Array.map ρ c.args:=by
    apply Array.ext'
    simp only[Array.toList_extract,Array.toList_append,Array.size_append,List.toList_toArray,List.extract_eq_take_drop,List.cons_append,List.nil_append,List.drop_succ_cons,List.drop_zero]
    apply List.take_of_length_le
    simp
   have e3:(#[Value.iface t u']++Array.map ρ c.args)[0]? =some (Value.iface t u'):=by
    rw[<-Array.getElem?_toList,Array.toList_append];rfl
   simp only[execOp,resolve,hcal,hv1,Sem.run_bind,Sem.run_pure,Result.andThen_ok,invoke]
   simp only[e2,e3,YhD (hm _ _ _ hg) hen]
  ·cases hc
theorem YfB{w:World}{bs:List BK}{B:Bd}:∀{n:Nat}{xs:List SV}{vs:List Value},RepL w bs B xs vs->RepL w bs B (padL n xs) (vs++List.replicate (n-vs.length) undef)
 |n,_,_,.nil=>by
  have:∀n,RepL w bs B (Ykc n) (List.replicate n undef):=by
   intro n
   induction n with
   |zero=>exact .nil
   |succ n ih=>exact .cons _ _ _ _ (.x _ _ (.junk _)) ih
  have e:padL n []=Ykc n:=by cases n <;> rfl
  rw[e];simpa using this n
 |0,_,_,.cons x v l vs h h'=>by simpa [padL]using RepL.cons x v l vs h h'
 |n+1,_,_,.cons x v l vs h h'=>by
  have:=YfB (n:=n) h'
  simpa [padL]using RepL.cons x v _ _ h this
theorem YaW{bs bs2:List BK}{b:Nat}(h:Free bs b)(h2:Free bs2 b):Free (bs++bs2) b:=by
 intro i b' c n hi
 rw[YHs]at hi
 split at hi
 ·exact h _ _ _ _ hi
 ·exact h2 _ _ _ _ hi
section
variable {w:World} {bs bs2:List BK} {B B2:Bd}
def Yim(B B2:Bd)(bs:List BK)(p:Prop):Prop:=(∀b,B2.F b->Fr B bs b)\/p
mutual
theorem Yhv{d:Nat}(hB:B.n<=B2.n)(hI:B.I=B2.I)(hlo:∀(i b c n:Nat),bs[i]? =some (.blk b c n)->b<B2):∀{s:SV}{v:Value},XRep w bs2 B2 s v->Yim B B2 bs (Yl s)->XRep w (bs++bs2) B (shift d s) v
 |_,_,.int k n,_=> .int k n
 |_,_,.bool b,_=> .bool b
 |_,_,.val v,_=> .val v
 |_,_,.nil,_=> .nil
 |_,_,.junk v,_=> .junk v
 |_,_,.agg cs vs h,hf=> .agg _ vs (YcC hB hI hlo h hf)
 |_,_,.tup cs vs h,hf=> .tup _ vs (YcC hB hI hlo h hf)
 |_,_,.fn f fs cs us vs h h',hf=> .fn f _ _ us vs (YcC hB hI hlo h (hf.imp id And.left)) (YcC hB hI hlo h' (hf.imp id And.right))
 |_,_,.iface t x v h,hf=> .iface t _ v (Yhv hB hI hlo h hf)
 |_,_,.vs t z n size get a cap vals hz hc hn hcell h,hf=> .vs t z n size get a cap vals hz hc hn
   (fun k hk=>by
     obtain⟨ad,h1,h2,h3,h4,h5,h6⟩:=hcell k hk
     refine⟨ad,h1,h2,?_,fun ht=>YGg hB (h4 ht),h5,h6⟩
     rcases hf with hf|hf
     ·exact⟨YaW (hf _ h3.2).1 h3.1,(hf _ h3.2).2⟩
     ·exact⟨YaW (fun i b c m hi he=>by have:=hlo i b c m hi;have:=h4 hf.1;omega) h3.1,B.up _ (YGg hB (h4 hf.1)) (by rw[hI];exact B2.ex _ h3.2)⟩)
   (fun k hk=>Ybw hB hI hlo (h k hk) (hf.imp id fun hf=>hf.2 k hk))
 |_,_,.xp t cs ad vals hs hfr ht hc h,hf=> .xp t cs ad vals hs
   (by
     rcases hf with hf|hf
     ·exact⟨YaW (hf _ hfr.2).1 hfr.1,(hf _ hfr.2).2⟩
     ·exact⟨YaW (fun i b c m hi he=>by have:=hlo i b c m hi;have:=ht hf.1;omega) hfr.1,B.up _ (YGg hB (ht hf.1)) (by rw[hI];exact B2.ex _ hfr.2)⟩)
   (fun h=>YGg hB (ht h)) hc (Ybw hB hI hlo h (hf.imp id And.right))
 |_,_,.row n C b cap h1 h2,_=> .row n C b cap (by rw[hI];exact h1) h2
 |_,_,.rcell D n C k b h1 h2 h3,_=> .rcell D n C k b h1 (by rw[hI];exact h2) h3
 |_,_,.imap kk C b h1,_=> .imap kk C b (by rw[hI];exact h1)
theorem YcC{d:Nat}(hB:B.n<=B2.n)(hI:B.I=B2.I)(hlo:∀(i b c n:Nat),bs[i]? =some (.blk b c n)->b<B2):∀{l:List SV}{vs:List Value},XRepL w bs2 B2 l vs->Yim B B2 bs (Ym l)->XRepL w (bs++bs2) B (Yc2 d l) vs
 |_,_,.nil,_=> .nil
 |_,_,.cons x v l vs h h',hf=> .cons _ v _ vs (Yhv hB hI hlo h (hf.imp id And.left)) (YcC hB hI hlo h' (hf.imp id And.right))
theorem Ylq(hB:B.n<=B2.n)(hI:B.I=B2.I)(hlo:∀(i b c n:Nat),bs[i]? =some (.blk b c n)->b<B2):∀{s:SV}{v:Value},XRep w bs2 B2 s v->Yim B B2 bs (Yl s)->XRep w (bs++bs2) B s v
 |_,_,.int k n,_=> .int k n
 |_,_,.bool b,_=> .bool b
 |_,_,.val v,_=> .val v
 |_,_,.nil,_=> .nil
 |_,_,.junk v,_=> .junk v
 |_,_,.agg cs vs h,hf=> .agg _ vs (Ybw hB hI hlo h hf)
 |_,_,.tup cs vs h,hf=> .tup _ vs (Ybw hB hI hlo h hf)
 |_,_,.fn f fs cs us vs h h',hf=> .fn f _ _ us vs (Ybw hB hI hlo h (hf.imp id And.left)) (Ybw hB hI hlo h' (hf.imp id And.right))
 |_,_,.iface t x v h,hf=> .iface t _ v (Ylq hB hI hlo h hf)
 |_,_,.vs t z n size get a cap vals hz hc hn hcell h,hf=> .vs t z n size get a cap vals hz hc hn
   (fun k hk=>by
     obtain⟨ad,h1,h2,h3,h4,h5,h6⟩:=hcell k hk
     refine⟨ad,h1,h2,?_,fun ht=>YGg hB (h4 ht),h5,h6⟩
     rcases hf with hf|hf
     ·exact⟨YaW (hf _ h3.2).1 h3.1,(hf _ h3.2).2⟩
     ·exact⟨YaW (fun i b c m hi he=>by have:=hlo i b c m hi;have:=h4 hf.1;omega) h3.1,B.up _ (YGg hB (h4 hf.1)) (by rw[hI];exact B2.ex _ h3.2)⟩)
   (fun k hk=>Ybw hB hI hlo (h k hk) (hf.imp id fun hf=>hf.2 k hk))
 |_,_,.xp t cs ad vals hs hfr ht hc h,hf=> .xp t cs ad vals hs
   (by
     rcases hf with hf|hf
     ·exact⟨YaW (hf _ hfr.2).1 hfr.1,(hf _ hfr.2).2⟩
     ·exact⟨YaW (fun i b c m hi he=>by have:=hlo i b c m hi;have:=ht hf.1;omega) hfr.1,B.up _ (YGg hB (ht hf.1)) (by rw[hI];exact B2.ex _ hfr.2)⟩)
   (fun h=>YGg hB (ht h)) hc (Ybw hB hI hlo h (hf.imp id And.right))
 |_,_,.row n C b cap h1 h2,_=> .row n C b cap (by rw[hI];exact h1) h2
 |_,_,.rcell D n C k b h1 h2 h3,_=> .rcell D n C k b h1 (by rw[hI];exact h2) h3
 |_,_,.imap kk C b h1,_=> .imap kk C b (by rw[hI];exact h1)
theorem Ybw(hB:B.n<=B2.n)(hI:B.I=B2.I)(hlo:∀(i b c n:Nat),bs[i]? =some (.blk b c n)->b<B2):∀{l:List SV}{vs:List Value},XRepL w bs2 B2 l vs->Yim B B2 bs (Ym l)->XRepL w (bs++bs2) B l vs
 |_,_,.nil,_=> .nil
 |_,_,.cons x v l vs h h',hf=> .cons _ v _ vs (Ylq hB hI hlo h (hf.imp id And.left)) (Ybw hB hI hlo h' (hf.imp id And.right))
end
theorem Yfn{i:Nat}{x:BK}(h:bs2[i]? =some x):(bs++bs2)[bs.length+i]? =some x:=by
 rw[YG4 (by omega)];simpa using h
mutual
theorem YcZ(hB:B.n<=B2.n)(hI:B.I=B2.I)(hlo:∀(i b c n:Nat),bs[i]? =some (.blk b c n)->b<B2):∀{s:SV}{v:Value},Rep w bs2 B2 s v->Yim B B2 bs (Yl s)->Rep w (bs++bs2) B (shift bs.length s) v
 |_,_,.x s v h,hf=> .x _ v (Yhv hB hI hlo h hf)
 |_,_,.agg cs vs h,hf=> .agg _ vs (YbK hB hI hlo h hf)
 |_,_,.tup cs vs h,hf=> .tup _ vs (YbK hB hI hlo h hf)
 |_,_,.fn f fs cs us vs h h',hf=> .fn f _ _ us vs (YbK hB hI hlo h (hf.imp id And.left)) (YbK hB hI hlo h' (hf.imp id And.right))
 |_,_,.iface t x v h,hf=> .iface t _ v (YcZ hB hI hlo h hf)
 |_,_,.ptr i off b n h,_=> .ptr _ off b n (Yfn h)
 |_,_,.own i lo n size b cap m ad h hl ha,_=> .own _ lo n size b cap m ad (Yfn h) hl ha
 |_,_,.ownNil i size h,_=> .ownNil _ size (Yfn h)
 |_,_,.elem i k off size b cap m h hk,_=> .elem _ k off size b cap m (Yfn h) hk
 |_,_,.smp i b h,_=> .smp _ b (Yfn h)
 |_,_,.optT x v h,hf=> .optT _ v (YcZ hB hI hlo h hf)
 |_,_,.optF x,_=> .optF _
 |_,_,.cut x a n cap h,hf=> .cut _ a n cap (YcZ hB hI hlo h hf)
theorem YbK(hB:B.n<=B2.n)(hI:B.I=B2.I)(hlo:∀(i b c n:Nat),bs[i]? =some (.blk b c n)->b<B2):∀{l:List SV}{vs:List Value},RepL w bs2 B2 l vs->Yim B B2 bs (Ym l)->RepL w (bs++bs2) B (Yc2 bs.length l) vs
 |_,_,.nil,_=> .nil
 |_,_,.cons x v l vs h h',hf=> .cons _ v _ vs (YcZ hB hI hlo h (hf.imp id And.left)) (YbK hB hI hlo h' (hf.imp id And.right))
end
end
end
end Go.Vx
namespace Go.Vx
open Go.RowKit
section
variable {P:Program} {E:Env} {Q:SV->List HO->Prop} {vr:List VR} {w0:Cx}
theorem Ynx:∀(a b:List HO),lenH (a++b)=lenH a+lenH b
 | [],b=>by simp [lenH]
 |_::a,b=>by simp [lenH,Ynx a b];omega
theorem Yi7:∀(a b:List HO)(i:Nat),getH (a++b) i=if i<lenH a then getH a i else getH b (i-lenH a)
 | [],b,i=>by simp [lenH]
 |x::a,b,0=>by simp [lenH,getH]
 |x::a,b,i+1=>by
  show getH (a++b) i=_
  rw[Yi7 a b i]
  by_cases h:i<lenH a
  ·rw[if_pos h,if_pos (show i+1<lenH (x::a)by simp only[lenH];omega)];rfl
  ·rw[if_neg h,if_neg (show¬i+1<lenH (x::a)by simp only[lenH];omega)]
   congr 1;simp only[lenH];omega
def YEB(d:Nat):HO->HO
 | .box cs=> .box (Yc2 d cs)
 | .own z sz n get=> .own z sz n fun k=>Yc2 d (get k)
 | .smap l=> .smap l
 | .gone=> .gone
theorem Yh0(d:Nat):∀(hs:List HO)(j:Nat),getH (YW d hs) j=YEB d (getH hs j)
 | [],j=>by cases j <;> rfl
 |h::l,0=>by cases h <;> rfl
 |h::l,j+1=>by cases h <;> simpa [YW,getH]using Yh0 d l j
theorem Yh4(d:Nat):∀(hs:List HO),lenH (YW d hs)=lenH hs
 | []=>rfl
 |h::l=>by cases h <;> simp [YW,lenH,Yh4 d l]
theorem Ycn:∀(hs:List HO),Ybk hs->∀i,match getH hs i with| .box cs=>Ym cs| .own _ _ n get=> ∀k,k<n->Ym (get k) | .smap _=>True| .gone=>True
 | [],_,i=>by cases i <;> trivial
 | .box cs::l,h,0=>h.1
 | .own z sz n get::l,h,0=>h.1
 | .smap _::l,h,0=>trivial
 | .gone::l,h,0=>trivial
 | .box cs::l,h,i+1=>Ycn l h.2 i
 | .own z sz n get::l,h,i+1=>Ycn l h.2 i
 | .smap _::l,h,i+1=>Ycn l h i
 | .gone::l,h,i+1=>Ycn l h i
def YoX(w:World)(bs:List BK)(B:Bd)(w':World)(bs':List BK):Prop:=
 ∀b,Free bs b->B.I b=none->∀o,w.heap[b]? =some o->w'.heap[b]? =some o/\Free bs' b
theorem Oth.keepI{w w':World}{bs bs':List BK}{B B':Bd}{hp:List HO}{ks:List (Nat×Obj)}{as:List (List Deferred)}(hH:Hp w bs B hp)(hk:YoX w bs B w' bs')(hn:B'.n=B.n)(h:Oth w bs B ks as):Oth w' bs' B' ks as:=by
 have hI:∀b o,w.heap[b]? =some o->(∀K:IK,¬K.ok o)->B.I b=none:=by
  intro b o ho hno
  cases hb:B.I b with
  |none=>rfl
  |some K=>
   obtain⟨_,o',h1,h2⟩:=hH.reg b K hb
   rw[ho]at h1;cases h1
   exact absurd h2 (hno K)
 refine⟨fun x hx=>?_,h.nd,?_⟩
 ·obtain⟨h1,h2,h3,h4⟩:=h.kn x hx
  have hx2:=hI _ _ h3 (fun K hK=>by
   cases hx2:x.2 <;> rw[hx2]at h4 hK <;> first|cases h4|skip
   cases K with
   |ints n C=>obtain⟨_,_,h,_⟩:=hK;cases h
   |map kk C=>obtain⟨_,_,h,_⟩:=hK;cases h)
  exact⟨by rw[hn];exact h1,(hk _ h2 hx2 _ h3).2,(hk _ h2 hx2 _ h3).1,h4⟩
 ·obtain⟨mss,h1,h2,h3⟩:=h.ms
  refine⟨mss,h1,h2,fun D hD=>?_⟩
  obtain⟨k1,k2,k3⟩:=h3 D hD
  have hx2:=hI _ _ k3 (fun K hK=>by
   cases K with
   |ints n C=>obtain⟨_,_,h,_⟩:=hK;cases h
   |map kk C=>obtain⟨_,_,h,_⟩:=hK;cases h)
  exact⟨by rw[hn];exact k1,(hk _ k2 hx2 _ k3).2,(hk _ k2 hx2 _ k3).1⟩
theorem Yxr{z:Cx0}{w':World}{bs bs2:List BK}{B B':Bd}{hp hs:List HO}{J:Nat->Option IK}{hJ:Ext z J}(hzI:z.I=B.I)(hn:B'.n=B.n)(hBJ:B'.I=J)(hFr:∀b,b<z.heap.size->Fr B bs b->B'.F b)
 (hH:Hp z.toWorld bs B hp)(hB:B.n<=z.heap.size)(hH2:Hp w' bs2 (z.wI J hJ).bd hs)(hb:BelowI z.bd z.toWorld w')(hfr:Yim B' (z.wI J hJ).bd bs (Ybk hs)):
 Hp w' (bs++bs2) B' (hp++YW (lenH hp) hs)/\YbP z.toWorld bs B w' (bs++bs2) B'/\YoX z.toWorld bs B w' (bs++bs2)/\Stays none bs (bs++bs2):=by
 have hlo:∀(i b c n:Nat),bs[i]? =some (.blk b c n)->b<z.heap.size:=fun i b c n h=>(hH.lo i b c n h).2
 have hki:YoX z.toWorld bs B w' (bs++bs2):=by
  intro b hf hI o ho
  have hbs:b<z.heap.size:=(YGX.1 ho).1
  refine⟨by rw[hb.block b hbs (by show z.I b=none;rw[hzI];exact hI)];exact ho,YaW hf fun i b' c n hi he=>?_⟩
  have:z.heap.size<=b':=(hH2.lo i b' c n hi).1;omega
 have hk:YbP z.toWorld bs B w' (bs++bs2) B':=by
  refine⟨hn,fun b K h=>by rw[hBJ];exact hJ.sub b K (by rw[hzI];exact h),fun b hf cs T fz ho=>?_⟩
  have hbs:b<z.heap.size:=(YGX.1 ho).1
  obtain⟨h1,h2⟩:=hki b hf.1 (B.ex b hf.2) _ ho
  exact⟨h1,h2,hFr b hbs hf⟩
 have hst:∀e,Stays e bs (bs++bs2):=fun e i y _ h _=>by rw[YGR (List.getElem?_eq_some_iff.1 h).1];exact h
 have hlen:=hH.len
 have hB2:B'.n<=(z.wI J hJ).bd.n:=by rw[hn];exact hB
 have hI2:B'.I=(z.wI J hJ).bd.I:=hBJ
 refine⟨⟨by rw[Ynx,Yh4,YHg,hlen,hH2.len],fun i=>?_,fun i j b c n c' n' h1 h2=>?_,fun i b c n h1=>?_,fun b K hK=>?_⟩,hk,hki,hst none⟩
 ·rw[Yi7]
  split
  ·rename_i hi
   refine(hH.ent i).keepG hk (hst none) (by rw[YGR (by rw[hlen];exact hi)]) (fun b c n hbi=>hb.block b (hlo i b c n hbi) (by show z.I b=none;rw[hzI];exact hH.un hbi))
  ·rename_i hi
   obtain⟨j,rfl⟩:∃j,i=lenH hp+j:=⟨i-lenH hp,by omega⟩
   rw[Nat.add_sub_cancel_left,Yh0]
   have hent:=hH2.ent j
   have hfj:Yim B' (z.wI J hJ).bd bs (match getH hs j with| .box cs=>Ym cs| .own _ _ n get=> ∀k,k<n->Ym (get k) | .smap _=>True| .gone=>True):=hfr.imp id fun h=>Ycn hs h j
   have hget:∀x,bs2[j]? =some x->(bs++bs2)[lenH hp+j]? =some x:=fun x hx=>by rw[<-hlen];exact Yfn hx
   cases hg:getH hs j with
   |gone=>
    rw[hg]at hent
    rcases hent with h|h
    ·exact .inl (hget _ h)
    ·right
     rw[List.getElem?_eq_none_iff]at h⊢
     rw[YHg];omega
   |smap l=>
    rw[hg]at hent
    obtain⟨b,es,c,h1,h2⟩:=hent
    exact⟨b,es,c,hget _ h1,h2⟩
   |box cs=>
    rw[hg]at hent hfj
    obtain⟨b,vs,T,h1,h2,h3⟩:=hent
    exact⟨b,vs,T,hget _ h1,h2,by rw[<-hlen];exact YbK hB2 hI2 hlo h3 hfj⟩
   |own z sz n get=>
    rw[hg]at hent hfj
    rcases hent with⟨h1,h2,h3⟩ | ⟨b,cap,vs,T,h1,h2,h3,h4,h5,h6⟩
    ·exact .inl ⟨hget _ h1,h2,h3⟩
    ·exact .inr ⟨b,cap,vs,T,hget _ h1,h2,h3,h4,h5,fun k hk'=>by rw[<-hlen];exact YbK hB2 hI2 hlo (h6 k hk') (hfj.imp id fun h=>h k hk')⟩
 ·rw[YHs]at h1 h2
  split at h1 <;> split at h2
  ·exact hH.inj i j b c n c' n' h1 h2
  ·have:=hlo i b c n h1;have:z.heap.size<=b:=(hH2.lo _ _ _ _ h2).1;omega
  ·have:=hlo j b c' n' h2;have:z.heap.size<=b:=(hH2.lo _ _ _ _ h1).1;omega
  ·have:=hH2.inj _ _ _ _ _ _ _ h1 h2;omega
 ·rw[YHs]at h1
  split at h1
  ·have:=hH.lo i b c n h1;have:=hb.size;omega
  ·have:z.heap.size<=b/\b<w'.heap.size:=hH2.lo _ b c n h1;omega
 ·rw[hBJ]at hK
  obtain⟨h1,h2⟩:=hH2.reg b K hK
  refine⟨YaW (fun i b' c n hi he=>?_) h1,h2⟩
  subst he
  have h3:=hJ.old b' (hlo i _ c n hi)
  rw[hK,hzI,hH.un hi]at h3
  cases h3
theorem Y6{o:Oper}{r:VO×List Operand}(h:vop P o=some r):∀c,o.op≠ .defer c:=by
 intro c hc
 obtain⟨dst,op,type,pos,after,guard⟩:=o
 simp only at hc
 subst hc
 cases h
section
variable {rd:Option Nat}
theorem Yfl{ops:Array Oper}{κ:Kont}{a:Act}{w:World}{o:Oper}{rest:List Oper}(hw:Region.wanted o (yielded ops a.tmps)=true)
 (h:o.wpIn (Wd rd) 0 P a w (wpListIn (Wd rd) 0 P ops κ rest) κ):wpListIn (Wd rd) 0 P ops κ (o::rest) a w:=by
 unfold wpListIn
 rw[if_pos hw];exact h
theorem Yd4{ops:Array Oper}{κ:Kont}{a:Act}{w:World}{o:Oper}{rest:List Oper}(hw:Region.wanted o (yielded ops a.tmps)=false)
 (h:wpListIn (Wd rd) 0 P ops κ rest (a.put o.dst undef) w):wpListIn (Wd rd) 0 P ops κ (o::rest) a w:=by
 unfold wpListIn
 rw[if_neg (by rw[hw];simp)];exact⟨fun _ _=>trivial,h⟩
theorem Ya8{o:Oper}{a:Act}{w w':World}{r:Next}{v:Value}{next:Act->World->Prop}{κ:Kont}(hnd:∀c,o.op≠ .defer c)(hrun:(execOp a.eval o).run P w= .ok r w')(hr:r= .value v\/(r= .skip/\v=undef))(h:next (a.put o.dst v) w'):o.wpIn (Wd rd) 0 P a w next κ:=by
 unfold Oper.wpIn
 rw[Oper.semAt_eq _ _ _ hnd,hrun]
 refine⟨fun _ _=>trivial,?_⟩
 rcases hr with rfl| ⟨rfl,rfl⟩ <;> exact h
theorem YaU{o:Oper}{a:Act}{w:World}{f:FuncId}{args:Array Value}{next:Act->World->Prop}{κ:Kont}(hnd:∀c,o.op≠ .defer c)(hrun:(execOp a.eval o).run P w= .ok (.enter f args) w)
 (h:Calls P f args w fun| .returned v,w''=>next (a.put o.dst v) w''| .panicked chain,w''=>κ (.panic chain) a w''| .outgrown,_=>LetsOut κ):o.wpIn (Wd rd) 0 P a w next κ:=by
 unfold Oper.wpIn
 rw[Oper.semAt_eq _ _ _ hnd,hrun]
 exact⟨fun _ _=>trivial,fun h=>(by cases h),Yom h⟩
end
theorem Yja{ops:Array Oper}{o:Oper}{a:Act}{w:World}{bs:List BK}{B:Bd}{j g:Nat}{pol gb:Bool}{s:S}(hf:RepL w bs B s.fr a.tmps.toList)(hg:o.guard=some (j,pol))(hs:Ylf ops j=some g)(h:Yab (getL s.fr g) pol=some gb):
 Region.wanted o (yielded ops a.tmps)=gb:=by
 have hr:=hf.get g (d:=undef)
 have hy:yielded ops a.tmps j=match a.tmps[g]? with|some (.bool b)=>some b|_=>none:=by
  unfold yielded
  unfold Ylf at hs
  rw[hs];rfl
 have hget:a.tmps.toList.getD g undef=(a.tmps[g]?).getD undef:=by simp [List.getD]
 rw[hget]at hr
 simp only[Region.wanted,hg,hy]
 have hb:∀b,(a.tmps[g]?).getD undef= .bool b->a.tmps[g]? =some (.bool b):=by
  intro b hb
  cases hx:a.tmps[g]? with
  |none=>rw[hx]at hb;cases hb
  |some x=>rw[hx]at hb;simp only[Option.getD_some]at hb;rw[hb]
 have hu:(a.tmps[g]?).getD undef=undef->∀b,a.tmps[g]? ≠some (.bool b):=by
  intro hu b hb
  rw[hb]at hu;cases hu
 generalize(a.tmps[g]?).getD undef=u at hr hb hu
 generalize getL s.fr g=v at h hr
 cases v <;> simp only[Yab,reduceCtorEq,Option.some.injEq]at h
 ·rename_i b
  have h1:=hb b hr.bool_inv
  subst h
  rw[h1]
  cases b <;> cases pol <;> rfl
 ·rename_i c y
  cases y <;> simp only[Yab,reduceCtorEq,Option.some.injEq]at h
  rename_i b
  subst h
  cases hr with
  |x _ _ h=>cases h
  |optT _ _ h=>
   have h1:=hb b h.bool_inv
   rw[h1]
   cases b <;> cases pol <;> rfl
  |optF _=>
   have h1:=hu rfl
   simp only[YHp]
   cases hx:a.tmps[g]? with
   |none=>rfl
   |some x=>cases x <;> first|rfl|exact absurd hx (h1 _)
end
end Go.Vx
namespace Go.Vx
open Go.RowKit
section
variable {P:Program} {E:Env} {Q:SV->List HO->Prop} {vr:List VR} {w0:Cx}
theorem Ysq{w:World}{bs:List BK}{B:Bd}{s:S}{sv:List Act}{d:Option Nat}{x:SV}(h:RepLL w bs B s.saved (sv.map (·.tmps.toList))):RepLL w bs B (s.put d x).saved (sv.map (·.tmps.toList)):=by
 rw[Yfb];exact h
theorem YdG{w0:Cx0}{ks:List (Nat×Obj)}{J1:Nat->Option IK}{hJ1:Ext w0 J1}{s:S}{a:Act}{sv:List Act}{z:Cx0}{w':World}{al:Bool}{r:SV}{hs:List HO}{v:Value}{bs2:List BK}{bs:List BK}{J:Nat->Option IK}{hJ:Ext z J}(hzI:z.I=J1)
 (hf:RepL z.toWorld bs (w0.wI J1 hJ1).bd s.fr a.tmps.toList)(hsv:RepLL z.toWorld bs (w0.wI J1 hJ1).bd s.saved (sv.map (·.tmps.toList))) (hH:Hp z.toWorld bs (w0.wI J1 hJ1).bd s.hp) (hb:BelowI (w0.wI J1 hJ1).bd w0.toWorld z.toWorld) (ho:Oth z.toWorld bs (w0.wI J1 hJ1).bd ks ((a::sv).map (·.defers))) (d:Option Nat)
 (h1:Rep w' bs2 (z.wI J hJ).bd r v) (h2:Hp w' bs2 (z.wI J hJ).bd hs) (h3:BelowI z.bd z.toWorld w') (h4:al=false->Yl r/\Ybk hs) (h5:al=true->∀b,z.F b->Fr (w0.wI J1 hJ1).bd bs b):
 ∃hJ2:Ext w0 J,∀y:SV,(∀bs',Rep w' bs' (w0.wI J hJ2).bd (shift (lenH s.hp) r) v->Rep w' bs' (w0.wI J hJ2).bd y v)->Rl ⟨w0.wI J hJ2,ks⟩ (S.put { fr:=s.fr,saved:=s.saved,hp:=s.hp++YW (lenH s.hp) hs} d y) (a.put d v) sv w':=by
 have hB:w0.heap.size<=z.heap.size:=hb.size
 have hsub:∀b K,J1 b=some K->J b=some K:=fun b K h=>hJ.sub b K (by rw[hzI];exact h)
 have hno:∀b,J b=none->J1 b=none:=fun b h=>by
  cases h1:J1 b with
  |none=>rfl
  |some K=>rw[hsub b K h1]at h;cases h
 have hold:∀b,b<z.heap.size->J b=J1 b:=fun b hlt=>(hJ.old b hlt).trans (by rw[hzI])
 have hJ2:Ext w0 J:=⟨fun b hlt=>(hold b (YGV hlt hB)).trans (hJ1.old b hlt),fun b K h=>hsub b K (hJ1.sub b K h)⟩
 refine⟨hJ2,fun y hy=>?_⟩
 have hFr:∀b,b<z.heap.size->Fr (w0.wI J1 hJ1).bd bs b->(w0.wI J hJ2).bd.F b:=fun b hlt h=>⟨h.2.1,(hold b hlt).trans h.2.2⟩
 have hap:∀{p:Prop},(Yl r/\Ybk hs->p)->Yim (w0.wI J hJ2).bd (z.wI J hJ).bd bs p:=by
  intro p hp
  cases hc:al with
  |false=>exact .inr (hp (h4 hc))
  |true=>
   refine .inl fun b hb2=>?_
   have:=h5 hc b hb2.1
   exact⟨this.1,this.2.1,hb2.2⟩
 obtain⟨k1,k2,k4,k3⟩:=Yxr (B:=(w0.wI J1 hJ1).bd) (B':=(w0.wI J hJ2).bd) hzI rfl rfl hFr hH hB h2 h3 (hap And.right)
 have hlo:∀(i b c n:Nat),bs[i]? =some (.blk b c n)->b<z.heap.size:=fun i b c n h=>(hH.lo i b c n h).2
 have hr:=YcZ (B:=(w0.wI J hJ2).bd) (B2:=(z.wI J hJ).bd) hB rfl hlo h1 (hap And.left)
 rw[hH.len]at hr
 refine⟨bs++bs2,?_,?_,?_,⟨h3.os.trans hb.os,h3.tape.trans hb.tape,h3.output.trans hb.output,YGg hb.size h3.size,fun k hk hI=>?_⟩,?_⟩
 ·exact Yhe (s:={ fr:=s.fr,saved:=s.saved,hp:=s.hp++YW (lenH s.hp) hs}) (a:=a) (hf.keepG k2 k3 Yi) (hy _ hr)
 ·rw[Yfb];exact hsv.keepG k2 k3
 ·rw[Ydu];exact k1
 ·exact(h3.block k (YGV hk hB) (by show z.I k=none;rw[hzI];exact hno k hI)).trans (hb.block k hk (hno k hI))
 ·rw[YGY,YbH];exact ho.keepI hH k4 rfl
theorem Ydv{s:S}{a:Act}{sv:List Act}{w:World}(hR:Rl w0 s a sv w)(d:Option Nat){x:SV}{v:Value}(hx:∀bs,RepL w bs w0.bd s.fr a.tmps.toList->Hp w bs w0.bd s.hp->Rep w bs w0.bd x v):Rl w0 (s.put d x) (a.put d v) sv w:=by
 obtain⟨bs,hf,hsv,hH,hb,ho⟩:=hR
 exact⟨bs,Yhe hf (hx bs hf hH),Ysq hsv,by rw[Ydu];exact hH,hb,by rw[YGY,YbH];exact ho⟩
def YlY:Obj->Bool
 | .cells .. =>false
 | .map .. =>false
 |_=>true
theorem YcW{w:World}{bs:List BK}{l:Nat}{o o':Obj}(hl:w.heap[l]? =some o)(ho:YlY o=true):KeepsC w bs (w.putObj l o') bs:=by
 intro b hf cs T fz hb
 have:b≠l:=by
  rintro rfl
  rw[hl]at hb;cases hb;cases ho
 exact⟨(World.putObj_heap_other this).trans hb,hf⟩
theorem Yf0{w:World}{B l:Nat}{o':Obj}(hB:B<=l)(hs:l<w.heap.size):Below B w (w.putObj l o'):=
 ⟨rfl,rfl,rfl,by simp,fun k hk=>World.putObj_heap_other (by omega)⟩
theorem YoF{w:World}{B:Bd}{bs:List BK}{l:Nat}{o o':Obj}(hl:w.heap[l]? =some o)(ho:YlY o=true)(h:∀(b:Nat) (K:IK),B.I b=some K->Free bs b/\∃o,w.heap[b]? =some o/\K.ok o):
 ∀(b:Nat)(K:IK),B.I b=some K->Free bs b/\∃o,(w.putObj l o').heap[b]? =some o/\K.ok o:=by
 intro b K hI
 obtain⟨h1,o2,h2,h3⟩:=h b K hI
 refine⟨h1,o2,(World.putObj_heap_other ?_).trans h2,h3⟩
 rintro rfl
 rw[hl]at h2;cases h2
 cases K with
 |ints n C=>obtain⟨_,_,rfl,_⟩:=h3;cases ho
 |map kk C=>obtain⟨_,_,rfl,_⟩:=h3;cases ho
theorem Ykz{w:World}{bs:List BK}{B:Bd}{l:Nat}{o o':Obj}{hp:List HO}(hl:w.heap[l]? =some o)(ho:YlY o=true)(hf:Free bs l)(hH:Hp w bs B hp):Hp (w.putObj l o') bs B hp:=
 ⟨hH.len,fun i=>(hH.ent i).keepC (YcW hl ho) (fun _ _ _ h _=>h) rfl (fun b c n hb=>World.putObj_heap_other (hf i b c n hb)),hH.inj,fun i b c n h=>by rw[World.putObj_size];exact hH.lo i b c n h,YoF hl ho hH.reg⟩
theorem Ydx{w0:Cx0}{ks:List (Nat×Obj)}{s:S}{a:Act}{sv:List Act}{w:World}{l:Nat}{lp lp':_root_.Go.Loop}(h:Rl ⟨w0,(l,.loop lp)::ks⟩ s a sv w):Rl ⟨w0,(l,.loop lp')::ks⟩ s a sv (w.putObj l (.loop lp')):=by
 obtain⟨bs,hf,hsv,hH,hb,ho⟩:=h
 obtain⟨h1,h2,h3,_⟩:=ho.kn (l,.loop lp) YGy
 simp only at h1 h2 h3
 have hsz:l<w.heap.size:=(YGX.1 h3).1
 have hk:KeepsC w bs (w.putObj l (.loop lp')) bs:=YcW h3 rfl
 have hst:Stays none bs bs:=fun _ _ _ h _=>h
 have hnd:=ho.nd
 simp only[YGY,List.nodup_cons]at hnd
 refine⟨bs,hf.keepC hk hst Yi,hsv.keepC hk hst,Ykz h3 rfl h2 hH,hb.trans (.of (Yf0 h1 hsz)),⟨?_,by simpa using hnd,?_⟩⟩
 ·intro x hx
  rcases YGK.1 hx with rfl|hx
  ·exact⟨h1,h2,World.putObj_heap_same hsz,rfl⟩
  ·obtain⟨k1,k2,k3,k4⟩:=ho.kn x (YGx _ hx)
   refine⟨k1,k2,(World.putObj_heap_other ?_).trans k3,k4⟩
   intro e
   exact hnd.1 (List.mem_map.2 ⟨x,hx,e⟩)
 ·obtain⟨mss,m1,m2,m3⟩:=ho.ms
  refine⟨mss,m1,m2,fun D hD=>?_⟩
  obtain⟨k1,k2,k3⟩:=m3 D hD
  refine⟨k1,k2,(World.putObj_heap_other ?_).trans k3⟩
  rintro rfl
  rw[h3]at k3;cases k3
theorem Yk7{w0:Cx0}{x:Nat×Obj}{ks:List (Nat×Obj)}{s:S}{a:Act}{sv:List Act}{w:World}(h:Rl ⟨w0,x::ks⟩ s a sv w):Rl ⟨w0,ks⟩ s a sv w:=by
 obtain⟨bs,hf,hsv,hH,hb,ho⟩:=h
 have hnd:=ho.nd
 simp only[YGY,List.nodup_cons]at hnd
 exact⟨bs,hf,hsv,hH,hb,fun y hy=>ho.kn y (YGx _ hy),hnd.2,ho.ms⟩
theorem Ya6{w0:Cx0}{ks:List (Nat×Obj)}{s:S}{a:Act}{sv:List Act}{w:World}{l:Nat}{o:Obj}(h:Rl ⟨w0,(l,o)::ks⟩ s a sv w):w.heap[l]? =some o:=by
 obtain⟨bs,hf,hsv,hH,hb,ho⟩:=h
 exact(ho.kn (l,o) YGy).2.2.1
theorem Yig{w0:Cx}{s:S}{a sa:Act}{sv:List Act}{w:World}{fr:List SV}{sv':List (List SV)}(hs:s.saved=fr::sv')(h:Rl w0 s a (sa::sv) w):Rl w0 { fr:=fr,saved:=sv',hp:=s.hp} sa sv w:=by
 obtain⟨bs,hf,hsv,hH,hb,ho⟩:=h
 rw[hs]at hsv
 cases hsv with
 |cons _ _ _ _ g1 g2=>
  refine⟨bs,g1,g2,hH,hb,ho.kn,ho.nd,?_⟩
  obtain⟨mss,m1,m2,m3⟩:=ho.ms
  cases mss with
  |nil=>simp at m1
  |cons m mss=>
   simp only[YGY,List.cons.injEq]at m1
   simp only[List.flatten_cons]at m2 m3
   refine⟨mss,by simpa using m1.2,(List.nodup_append.1 m2).2.1,fun D hD=>m3 D (YGT.2 (.inr hD))⟩
theorem Oth.push{w:World}{bs:List BK}{B:Bd}{ks:List (Nat×Obj)}{as:List (List Deferred)}(h:Oth w bs B ks as):Oth w bs B ks ([]::as):=by
 obtain⟨mss,m1,m2,m3⟩:=h.ms
 exact⟨h.kn,h.nd,[]::mss,by simpa using m1,by simpa using m2,by simpa using m3⟩
theorem Oth.pop{w:World}{bs:List BK}{B:Bd}{ks:List (Nat×Obj)}{d:List Deferred}{as:List (List Deferred)}(h:Oth w bs B ks (d::as)):Oth w bs B ks as:=by
 obtain⟨mss,m1,m2,m3⟩:=h.ms
 cases mss with
 |nil=>simp at m1
 |cons m mss=>
  simp only[YGY,List.cons.injEq]at m1
  simp only[List.flatten_cons]at m2 m3
  exact⟨h.kn,h.nd,mss,m1.2,(List.nodup_append.1 m2).2.1,fun D hD=>m3 D (YGT.2 (.inr hD))⟩
theorem Ye0{fn:Func}{R:Ending->World->Prop}{w0:Cx}{s:S}{sv:List Act}:∀(ms:List Nat){a:Act}{w:World},a.defers=ms.map mark->Rl w0 s a sv w->
 (∀w',Rl w0 s { a with defers:=[]} sv w'->∃v,(results fn a.tmps).run P w'= .ok v w'/\R (.returned v) w')->LeavesInM (Wd none) 0 P fn a.tmps R a.defers .returning w
 | [],a,w,ha,hR,h=>by
   obtain⟨tmps,defers⟩:=a
   simp only[List.map_nil]at ha
   subst ha
   exact h w hR
 |D::ms,a,w,ha,hR,h=>by
  obtain⟨tmps,defers⟩:=a
  simp only at ha
  subst ha
  obtain⟨bs,hf,hsv,hH,hb,ho⟩:=hR
  obtain⟨mss,m1,m2,m3⟩:=ho.ms
  have hinj:∀{a b:List Nat},a.map mark=b.map mark->a=b:=by
   intro a
   induction a with
   |nil=>intro b h;cases b with
    |nil=>rfl
    |cons=>cases h
   |cons x a ih=>intro b h;cases b with
    |nil=>cases h
    |cons y b=>
     simp only[YGY,List.cons.injEq,mark,Deferred.mk.injEq,Target.collected.injEq,and_true]at h
     rw[h.1,ih h.2]
  cases mss with
  |nil=>simp at m1
  |cons m mss=>
   simp only[YGY,List.cons.injEq]at m1
   have:m=D::ms:=(hinj (a:=D::ms) (b:=m) (by simpa using m1.1)).symm
   subst this
   simp only[List.flatten_cons,List.cons_append,List.nodup_cons]at m2
   obtain⟨d1,d2,d3⟩:=m3 D (by simp)
   have hsz:D<w.heap.size:=(YGX.1 d3).1
   have hk:KeepsC w bs (w.putObj D (.deferred none)) bs:=YcW d3 rfl
   have hst:Stays none bs bs:=fun _ _ _ h _=>h
   have hnext:Rl w0 s { tmps:=tmps,defers:=ms.map mark} sv (w.putObj D (.deferred none)):=by
    refine⟨bs,hf.keepC hk hst Yi,hsv.keepC hk hst,Ykz d3 rfl d2 hH,hb.trans (.of (Yf0 d1 hsz)),⟨?_,ho.nd,ms::mss,?_,?_,?_⟩⟩
    ·intro x hx
     obtain⟨k1,k2,k3,k4⟩:=ho.kn x hx
     refine⟨k1,k2,(World.putObj_heap_other ?_).trans k3,k4⟩
     intro e
     rw[e,d3]at k3
     have k5:=Option.some.inj k3
     rw[<-k5]at k4;cases k4
    ·simp only[YGY,List.cons.injEq];exact⟨trivial,m1.2⟩
    ·simpa using m2.2
    ·intro D' hD'
     have hne:D'≠D:=by rintro rfl;exact m2.1 (by simpa using hD')
     obtain⟨k1,k2,k3⟩:=m3 D' (by simp only[List.flatten_cons,List.cons_append,YGK];right;simpa using hD')
     exact⟨k1,k2,(World.putObj_heap_other hne).trans k3⟩
   have ih:=Ye0 (fn:=fn) (R:=R) ms (a:={ tmps:=tmps,defers:=ms.map mark}) rfl hnext h
   exact⟨by simp,.inl ⟨D,_,rfl,run_takeDeferred d3,ih⟩⟩
theorem YgA{w:World}{bs:List BK}(o:Obj):Keeps w bs (w.alloc o) bs:=fun b hf _ ho=>⟨(Below.heap_alloc w o b (YGX.1 ho).1).trans ho,hf⟩
theorem Yvc{w0:Cx0}{ks:List (Nat×Obj)}{s:S}{a:Act}{sv:List Act}{w:World}{xs:List SV}{tmps:Array Value}{lp:_root_.Go.Loop}{bs:List BK}(hf:RepL w bs w0.bd s.fr a.tmps.toList)(hsv:RepLL w bs w0.bd s.saved (sv.map (·.tmps.toList))) (hH:Hp w bs w0.bd s.hp) (hb:BelowI w0.bd w0.toWorld w) (ho:Oth w bs w0.bd ks ((a::sv).map (·.defers)))
 (hx:RepL w bs w0.bd xs tmps.toList):
 Rl ⟨w0,(w.heap.size+1,.loop lp)::ks⟩ { fr:=xs,saved:=s.fr::s.saved,hp:=s.hp} { tmps:=tmps,defers:=[]} ({ a with defers:=[mark w.heap.size]++a.defers}::sv) ((w.alloc (.deferred (some []))).alloc (.loop lp)):=by
 have hB:w0.heap.size<=w.heap.size:=hb.size
 have hk1:Keeps w bs (w.alloc (.deferred (some []))) bs:=YgA _
 have hk2:Keeps (w.alloc (.deferred (some []))) bs ((w.alloc (.deferred (some []))).alloc (.loop lp)) bs:=YgA _
 have hk:Keeps w bs ((w.alloc (.deferred (some []))).alloc (.loop lp)) bs:=fun b hf o ho=>hk2 b (hk1 b hf o ho).2 o (hk1 b hf o ho).1
 have hst:Stays none bs bs:=fun _ _ _ h _=>h
 have hs1:(w.alloc (.deferred (some []))).heap.size=w.heap.size+1:=World.size_alloc _ _
 have hs2:((w.alloc (.deferred (some []))).alloc (.loop lp)).heap.size=w.heap.size+2:=by rw[World.size_alloc,hs1]
 have hD:((w.alloc (.deferred (some []))).alloc (.loop lp)).heap[w.heap.size]? =some (.deferred (some [])):=(Below.heap_alloc _ _ _ (by rw[hs1];omega)).trans (World.alloc_heap_new w _)
 have hl:((w.alloc (.deferred (some []))).alloc (.loop lp)).heap[w.heap.size+1]? =some (.loop lp):=by
  have:=World.alloc_heap_new (w.alloc (.deferred (some []))) (.loop lp)
  rwa [hs1]at this
 have hold:∀k,k<w.heap.size->((w.alloc (.deferred (some []))).alloc (.loop lp)).heap[k]? =w.heap[k]? :=fun k hk=>(Below.heap_alloc _ _ _ (by rw[hs1];omega)).trans (Below.heap_alloc _ _ _ hk)
 have hfree:∀k,w.heap.size<=k->Free bs k:=fun k hk i b c n hi he=>by have:=(hH.lo i b c n hi).2;omega
 have hbb:Below w0.heap.size w ((w.alloc (.deferred (some []))).alloc (.loop lp)):=((Below.refl _ w).alloc hB _).alloc (by rw[hs1];exact YGg hB (by omega)) _
 refine⟨bs,hx.keep hk hst Yi,.cons _ _ _ _ (hf.keep hk hst Yi) (hsv.keep hk hst),⟨hH.len,fun i=>(hH.ent i).keep hk hst rfl (fun b c n hi=>hold b (hH.lo i b c n hi).2),hH.inj,fun i b c n hi=>?_,YaJ hk hH.reg⟩,hb.trans (.of hbb),⟨?_,?_,?_⟩⟩
 ·have:=hH.lo i b c n hi;rw[hs2];exact⟨this.1,by omega⟩
 ·intro x hx
  rcases YGK.1 hx with rfl|hx
  ·exact⟨by simp only;exact YGg hB (by omega),hfree _ (by simp only;omega),hl,rfl⟩
  ·exact(ho.keep hk).kn x hx
 ·simp only[YGY,List.nodup_cons]
  refine⟨fun hm=>?_,ho.nd⟩
  obtain⟨x,hx,he⟩:=List.mem_map.1 hm
  have:=(YGX.1 (ho.kn x hx).2.2.1).1
  omega
 ·obtain⟨mss,m1,m2,m3⟩:=(ho.keep hk).ms
  obtain⟨mss',m1',m2',m3'⟩:=ho.ms
  cases mss' with
  |nil=>simp at m1'
  |cons m mss'=>
   simp only[YGY,List.cons.injEq]at m1'
   refine⟨[]::(w.heap.size::m)::mss',?_,?_,?_⟩
   ·simp only[YGY,List.map_nil,List.cons.injEq,List.cons_append,List.nil_append,true_and]
    exact⟨m1'.1,m1'.2⟩
   ·simp only[List.flatten_cons,List.nil_append,List.cons_append,List.nodup_cons]
    refine⟨fun hm=>?_,by simpa using m2'⟩
    have:=m3' w.heap.size (by simpa using hm)
    have:=(YGX.1 this.2.2).1
    omega
   ·intro D hD'
    simp only[List.flatten_cons,List.nil_append,List.cons_append,YGK]at hD'
    rcases hD' with rfl|hD'
    ·exact⟨hB,hfree _ (YGr _),hD⟩
    ·obtain⟨k1,k2,k3⟩:=m3' D (by simpa using hD')
     exact⟨k1,k2,(hk _ k2 _ k3).1⟩
theorem Yjw{w0:Cx}{s:S}{a:Act}{sv:List Act}{w:World}(h:Rl w0 s a sv w):∃ms:List Nat,a.defers=ms.map mark:=by
 obtain⟨bs,hf,hsv,hH,hb,ho⟩:=h
 obtain⟨mss,m1,_⟩:=ho.ms
 cases mss with
 |nil=>simp at m1
 |cons m mss=>simp only[YGY,List.cons.injEq]at m1;exact⟨m,m1.1⟩
end
end Go.Vx
namespace Go.Vx
section
variable {σ:Type} {ops:Array Oper} {md:Region.Mode} (step:Nat->Array Bool->(σ->Prop)->σ->Prop) (K:σ->Prop)
def anyS(md:Region.Mode)(ops:Array Oper):Nat->Array Bool->σ->Prop
 |0,L,s=>Region.ready md ops L=[]/\K s
 |n+1,L,s=>(Region.ready md ops L=[]->K s)/\∀i∈Region.ready md ops L,step i L (anyS md ops n (L.setIfInBounds i true)) s
def Down(md:Region.Mode)(ops:Array Oper)(L:Array Bool):Prop:=
 L.size=ops.size/\∀(i:Nat)(o:Oper),ops[i]? =some o->L.getD i false=true->∀e∈o.after,Region.binds md e=true->L.getD e.on false=true
variable {step K}
theorem Down.set{L:Array Bool}(h:Down md ops L){i:Nat}(hi:i∈Region.ready md ops L):Down md ops (L.setIfInBounds i true):=by
 refine⟨by simp [h.1],fun j o hj hl e he hb=>?_⟩
 obtain⟨_,oi,hoi,hall⟩:=mem_ready.1 hi
 by_cases hij:i=j
 ·subst hij
  rw[hoi]at hj;cases hj
  exact getD_set_true (hall e he hb)
 ·rw[getD_set_ne false hij]at hl
  exact getD_set_true (h.2 j o hj hl e he hb)
theorem YhK(mono:∀(j:Nat) (L:Array Bool) (s:σ) (A B:σ->Prop),(∀s,A s->B s)->step j L A s->step j L B s){i:Nat}
 (strict:∀L s,¬step i L (fun _=>False) s)
 (exch:∀(j:Nat) (L:Array Bool) (s:σ) (A:σ->Prop),Down md ops L->i∈Region.ready md ops L->j∈Region.ready md ops L->j≠i->step i L (step j (L.setIfInBounds i true) A) s->step j L (step i (L.setIfInBounds j true) A) s):
 ∀(n:Nat)(L:Array Bool)(s:σ),Down md ops L->i∈Region.ready md ops L->step i L (anyS step K md ops n (L.setIfInBounds i true)) s->anyS step K md ops (n+1) L s:=by
 intro n
 induction n with
 |zero=>
  intro L s _ hi h
  refine⟨fun h0=>(by rw[h0]at hi;cases hi),fun j hj=>?_⟩
  by_cases hji:j=i
  ·subst hji;exact h
  ·refine(strict L s (mono i L s _ _ (fun s' h'=>?_) h)).elim
   have:=ready_mono hj hji
   rw[h'.1]at this
   cases this
 |succ n ih=>
  intro L s hd hi h
  refine⟨fun h0=>(by rw[h0]at hi;cases hi),fun j hj=>?_⟩
  by_cases hji:j=i
  ·subst hji;exact h
  ·have h1:=mono i L s _ _ (fun s' (h':anyS step K md ops (n+1) (L.setIfInBounds i true) s')=>h'.2 j (ready_mono hj hji)) h
   have h2:=exch j L s _ hd hi hj hji h1
   refine mono j L s _ _ (fun s' h'=>?_) h2
   rw[Array.setIfInBounds_comm _ _ (Ne.symm hji)]at h'
   exact ih _ _ (hd.set hj) (ready_mono hi (Ne.symm hji)) h'
theorem Yoi{rd:Option Nat}{P:Program}{Q:Exit->Act->World->Prop}(R:Array Bool->σ->Act->World->Prop)
 (hop:∀(i:Nat) (L:Array Bool) (s:σ) (A:σ->Prop) (a:Act) (w:World),i∈Region.ready md ops L->step i L A s->R L s a w->
   wpOpIn (Wd rd) 0 P ops Q i (fun a' w'=> ∃s',A s'/\R (L.setIfInBounds i true) s' a' w') a w)
 (hQ:∀(L:Array Bool) (s:σ) (a:Act) (w:World),Region.ready md ops L=[]->K s->R L s a w->Q .normal a w):
 ∀(n:Nat)(L:Array Bool)(s:σ)(a:Act)(w:World),anyS step K md ops n L s->R L s a w->wpAnyIn (Wd rd) 0 P md ops Q n L a w:=by
 intro n
 induction n with
 |zero=>intro L s a w h hR;exact⟨h.1,hQ L s a w h.1 h.2 hR⟩
 |succ n ih=>
  intro L s a w h hR
  refine⟨fun h0=>hQ L s a w h0 (h.1 h0) hR,fun i hi=>?_⟩
  exact wpOpIn_mono (fun a' w' ⟨s',hA,hR'⟩=>ih _ s' a' w' hA hR') (hop i L s _ a w hi (h.2 i hi) hR)
end
end Go.Vx
namespace Go.Vx
theorem YbD:∀(l:List SV)(n m:Nat)(x:SV),n≠m->getL (setL l n x) m=getL l m
 | [],_,_,_,_=>rfl
 |_::_,0,0,_,h=>absurd rfl h
 |_::_,0,_+1,_,_=>rfl
 |_::_,_+1,0,_,_=>rfl
 |_::l,n+1,m+1,x,h=>YbD l n m x (fun e=>h (by rw[e]))
theorem Ycv:∀(l:List SV)(n m:Nat)(x y:SV),n≠m->setL (setL l n x) m y=setL (setL l m y) n x
 | [],_,_,_,_,_=>rfl
 |_::_,0,0,_,_,h=>absurd rfl h
 |_::_,0,_+1,_,_,_=>rfl
 |_::_,_+1,0,_,_,_=>rfl
 |a::l,n+1,m+1,x,y,h=>congrArg (a::·) (Ycv l n m x y (fun e=>h (by rw[e])))
section
variable {s:S} {d d':Option Nat} {v u:SV}
theorem YoU{x:X}(h:∀n,d=some n->n∉x.slot):(s.put d v).x x=s.x x:=by
 cases d with
 |none=>rfl
 |some n=>
  cases x with
  |cn _=>rfl
  |tm m=>exact YbD _ _ _ _ (fun e=>h n rfl (by simp [X.slot,e]))
theorem YiD:∀{xs:List X},(∀n,d=some n->n∉YY xs)->(s.put d v).args xs=s.args xs
 | [],_=>rfl
 |x::l,h=>by
  simp only[S.args]
  rw[YoU (fun n e hm=>h n e (by simp [YY,hm])),YiD (fun n e hm=>h n e (by simp [YY,hm]))]
theorem Yfa(h:∀n,d=some n->d'≠some n):(s.put d v).put d' u=(s.put d' u).put d v:=by
 cases d with
 |none=>cases d' <;> rfl
 |some n=>
  cases d' with
  |none=>rfl
  |some m=>simp only[S.put];rw[Ycv _ _ _ _ _ (fun e=>h n rfl (by rw[e]))]
end
def Grow(hp hp':List HO):Prop:=∀i,getH hp i≠ .gone->getH hp' i=getH hp i
theorem Ykh{hp hp':List HO}(hg:Grow hp hp'){x:SV}{r:Prop×List SV}(h:Yaz hp x=some r):Yaz hp' x=some r:=by
 cases x <;> simp only[Yaz]at h⊢ <;> try exact h
 case ptr i off=>rw[hg i (by intro e;rw[e]at h;cases h)];exact h
 case elem i k off sz=>rw[hg i (by intro e;rw[e]at h;cases h)];exact h
theorem Ynk{hp hp':List HO}(hg:Grow hp hp'){n n':Nat}{o:VO}(hq:o.quiet=true){xs:List SV}{e:Ef}(h:eff hp n o xs=some e):eff hp' n' o xs=some e:=by
 cases o <;> simp only[VO.quiet,reduceCtorEq]at hq <;> try exact h
 case load agg size=>
  simp only[eff,Yhw]at h⊢
  split at h
  ·rename_i a
   obtain⟨r,hr,h⟩:=YGe.1 h
   simp only[Ykh hg hr,Option.bind_some]
   exact h
  ·cases h
 case idxArr n size=>
  simp only[eff,YeB]at h⊢
  split at h
  ·rename_i j k i
   rw[hg j (by intro e;rw[e]at h;cases h)];exact h
  ·cases h
 case sliceArr n size lo hi=>
  simp only[eff]at h⊢
  unfold YbC at h⊢
  split at h
  ·rename_i j
   rw[hg j (by intro e;rw[e]at h;cases h)];exact h
  ·cases h
 case isNil neg=>
  simp only[eff]at h⊢
  unfold eNil at h⊢
  split at h
  ·rename_i x
   split at h <;> try exact h
   rename_i i _ _ _
   rw[hg i (by intro e;rw[e]at h;cases h)];exact h
  ·cases h
def fEff(v:VOp)(s:S):Option (Prop×SV):=
 match v.g with
 |none=>match eff s.hp (lenH s.hp) v.op (s.args v.xs)with
  |some ⟨p,x,.no⟩=>some (p,x)
  |_=>none
 |some (g,pol)=>match Yab (getL s.fr g) pol with
  |none=>none
  |some gb=>match eff s.hp (lenH s.hp) v.op (YU v.op gb (s.args v.xs)).2 with
   |some ⟨q,x,.no⟩=>some ((YU v.op gb (s.args v.xs)).1/\(gb=true->q),.opt gb x)
   |_=>none
def Yhf(o:Option (Prop×SV))(d:Option Nat)(A:S->Prop)(s:S):Prop:=
 match o with
 |some (p,x)=>p/\A (s.put d x)
 |none=>False
def ctW(d:Option Nat)(A:S->Prop)(s:S)(ys:List SV)(c:Option Ctr):Prop:=
 match c with
 |some c=>(c.alias=true->YaD ys=true)/\CSat (c.of (viewN false s.hp 3 ys)) fun r hs=>A (S.put { fr:=s.fr,saved:=s.saved,hp:=s.hp++YW (lenH s.hp) hs} d (shift (lenH s.hp) r))
 |none=>False
def effW(d:Option Nat)(A:S->Prop)(s:S)(e:Option Ef):Prop:=
 match e with
 |some e=>e.pre/\A ((s.upd e.upd).put d e.val)
 |none=>False
def badW(b:Bool)(p:Prop):Prop:=
 match b with
 |true=>False
 |false=>p
def psdW(v:VOp)(A:S->Prop)(s:S)(c:Option CRes):Prop:=
 match c with
 |some c=>CSat c fun r hs=>A (S.put { fr:=s.fr,saved:=s.saved,hp:=s.hp++YW (lenH s.hp) hs} v.dst (shift (lenH s.hp) r))
 |none=>badW v.op.bad (effW v.dst A s (eff s.hp (lenH s.hp) v.op (s.args v.xs)))
def Yky(E:Env)(v:VOp)(A:S->Prop)(s:S)(c:Option (FuncId×List SV)):Prop:=
 match c with
 |some (f,ys)=>ctW v.dst A s ys (E.ct f)
 |none=>psdW v A s (psd v.op (s.args v.xs))
def ctGW(gb:Bool)(d:Option Nat)(A:S->Prop)(s:S)(p:Prop)(c:Option (Ctr×List SV)):Prop:=
 match c with
 |some (c,ys)=>p/\(c.alias=true->YaD ys=true)/\∃r,A (s.put d (.opt gb r))/\(gb=true->CSat (c.of (viewN false s.hp 3 ys)) fun r' hs=>r=shift (lenH s.hp) r'/\hs=[])
 |none=>False
def YgX(E:Env)(v:VOp)(A:S->Prop)(s:S)(g:Option Bool):Prop:=
 match g with
 |some gb=>ctGW gb v.dst A s (YU v.op gb (s.args v.xs)).1 (ctOf E v.op (YU v.op gb (s.args v.xs)).2)
 |none=>False
def dopW(E:Env)(v:VOp)(A:S->Prop)(s:S):Prop:=
 match v.op.quiet with
 |true=>Yhf (fEff v s) v.dst A s
 |false=>match v.g with
  |none=>Yky E v A s (callee E v.op (s.args v.xs))
  |some (g,pol)=>YgX E v A s (Yab (getL s.fr g) pol)
section
variable {E:Env} {v:VOp} {A B:S->Prop} {s:S}
theorem Yaw(h:∀s,A s->B s)(hd:dopW E v A s):dopW E v B s:=by
 unfold dopW at*
 split
 ·rename_i hq
  rw[hq]at hd
  simp only[Yhf]at*
  cases hf:fEff v s with
  |none=>rw[hf]at hd;exact hd
  |some r=>rw[hf]at hd;exact⟨hd.1,h _ hd.2⟩
 ·rename_i hq
  rw[hq]at hd
  simp only at hd
  split
  ·rename_i hg
   rw[hg]at hd
   simp only at hd
   unfold Yky at*
   split
   ·rename_i f ys hc
    rw[hc]at hd
    simp only[ctW]at*
    cases hct:E.ct f with
    |none=>rw[hct]at hd;exact hd
    |some c=>rw[hct]at hd;exact⟨hd.1,hd.2.mono fun r hs hh=>h _ hh⟩
   ·rename_i hc
    rw[hc]at hd
    simp only[psdW]at*
    cases hps:psd v.op (s.args v.xs)with
    |some c=>rw[hps]at hd;exact CSat.mono hd fun r hs hh=>h _ hh
    |none=>
    rw[hps]at hd
    simp only at*
    cases hbd:v.op.bad with
    |true=>rw[hbd]at hd;exact hd
    |false=>
    rw[hbd]at hd
    simp only[badW,effW]at*
    cases he:eff s.hp (lenH s.hp) v.op (s.args v.xs)with
    |none=>rw[he]at hd;exact hd
    |some e=>rw[he]at hd;exact⟨hd.1,h _ hd.2⟩
  ·rename_i g pol hg
   rw[hg]at hd
   simp only at hd
   unfold YgX at*
   split
   ·rename_i gb hgb
    rw[hgb]at hd
    simp only[ctGW]at*
    cases hct:ctOf E v.op (YU v.op gb (s.args v.xs)).2 with
    |none=>rw[hct]at hd;exact hd
    |some c=>rw[hct]at hd;obtain⟨h1,h0,r,h2,h3⟩:=hd;exact⟨h1,h0,r,h _ h2,h3⟩
   ·rename_i hgb
    rw[hgb]at hd;exact hd
theorem YgN(hq:v.op.quiet=true):¬dopW E v (fun _=>False) s:=by
 unfold dopW
 rw[hq]
 simp only[Yhf]
 cases fEff v s with
 |none=>exact id
 |some r=>exact fun h=>h.2
theorem YdL{d:Option Nat}{x:SV}(h:∀n,d=some n->n∉v.reads):fEff v (s.put d x)=fEff v s:=by
 have ha:(s.put d x).args v.xs=s.args v.xs:=YiD fun n e hm=>h n e (by simp [VOp.reads,hm])
 unfold fEff
 cases hg:v.g with
 |none=>simp only[ha,Ydu]
 |some gp=>
  obtain⟨g,pol⟩:=gp
  have hgg:getL (s.put d x).fr g=getL s.fr g:=by
   cases d with
   |none=>rfl
   |some n=>exact YbD _ _ _ _ (fun e=>h n rfl (by simp [VOp.reads,hg,e]))
  simp only[ha,Ydu,hgg]
theorem YlA{s s':S}(hf:s'.fr=s.fr):∀(xs:List X),s'.args xs=s.args xs
 | []=>rfl
 |x::l=>by
  simp only[S.args]
  rw[YlA hf l]
  cases x <;> simp [S.x,hf]
theorem YeU{s':S}{r:Prop×SV}(hq:v.op.quiet=true)(hf:s'.fr=s.fr)(hg:Grow s.hp s'.hp)(h:fEff v s=some r):fEff v s'=some r:=by
 unfold fEff at*
 simp only[YlA hf,hf]
 cases hgd:v.g with
 |none=>
  rw[hgd]at h
  simp only at h⊢
  cases he:eff s.hp (lenH s.hp) v.op (s.args v.xs)with
  |none=>rw[he]at h;cases h
  |some e=>rw[he]at h;rw[Ynk hg hq he];exact h
 |some gp=>
  obtain⟨g,pol⟩:=gp
  rw[hgd]at h
  simp only at h⊢
  cases hgb:Yab (getL s.fr g) pol with
  |none=>rw[hgb]at h;cases h
  |some gb=>
   rw[hgb]at h
   simp only at h⊢
   cases he:eff s.hp (lenH s.hp) v.op (YU v.op gb (s.args v.xs)).2 with
   |none=>rw[he]at h;cases h
   |some e=>rw[he]at h;rw[Ynk hg hq he];exact h
def noApp:Upd->Prop
 | .app _ _=>False
 |_=>True
theorem Yml{d:Option Nat}{x:SV}{u:Upd}(h:noApp u):(s.put d x).upd u=(s.upd u).put d x:=by
 cases u <;> first|exact h.elim| (cases d <;> rfl)
theorem YvY{d:Option Nat}{x:SV}{hp:List HO}:({ fr:=(s.put d x).fr,saved:=(s.put d x).saved,hp:=hp}:S)=S.put { fr:=s.fr,saved:=s.saved,hp:=hp} d x:=by
 cases d <;> rfl
theorem Ygl(hp hs:List HO):Grow hp (hp++hs):=fun i hi=>by
 rw[Yi7]
 split
 ·rfl
 ·rename_i hlt
  exact absurd (Ybb hp i (by omega)) hi
theorem Ykv(hp:List HO)(x:HO):Grow hp (Ybt hp x):=fun i hi=>by
 rcases YGz i (lenH hp)with h|h
 ·exact Y2 hp x i h
 ·exact absurd (Ybb hp i h) hi
variable {i j:VOp} {p:Prop} {x:SV}
theorem Yuk(hi:i.op.quiet=true)(h1:∀n,i.dst=some n->n∉j.reads)(h2:∀n,i.dst=some n->j.dst≠some n)(h3:∀n,j.dst=some n->n∉i.reads)
 (hh:∀e,j.op.quiet=false->j.op.bad=false->callee E j.op (s.args j.xs)=none->eff s.hp (lenH s.hp) j.op (s.args j.xs)=some e->(s.put i.dst x).upd e.upd=(s.upd e.upd).put i.dst x/\fEff i (s.upd e.upd)=some (p,x))
 (hf:fEff i s=some (p,x))(h:dopW E j A (s.put i.dst x)):dopW E j (fun s'=>fEff i s'=some (p,x)/\A (s'.put i.dst x)) s:=by
 have ha:(s.put i.dst x).args j.xs=s.args j.xs:=YiD fun n e hm=>h1 n e (by simp [VOp.reads,hm])
 unfold dopW at*
 split
 ·rename_i hq
  rw[hq]at h
  simp only[YdL h1]at h
  simp only[Yhf]at*
  cases hfj:fEff j s with
  |none=>rw[hfj]at h;exact h
  |some r=>rw[hfj]at h;exact⟨h.1,by rw[YdL h3];exact hf,by rw[<-Yfa h2];exact h.2⟩
 ·rename_i hq
  rw[hq]at h
  simp only at h
  split
  ·rename_i hg
   rw[hg]at h
   simp only[ha]at h
   unfold Yky at*
   split
   ·rename_i f ys hc
    rw[hc]at h
    simp only[ctW,Ydu]at*
    cases hct:E.ct f with
    |none=>rw[hct]at h;exact h
    |some c=>
     rw[hct]at h
     refine⟨h.1,CSat.mono h.2 fun r hs hr=>⟨?_,?_⟩⟩
     ·rw[YdL h3]
      exact YeU (s:=s) hi rfl (Ygl _ _) hf
     ·have hr2:=hr
      rw[YvY,Yfa h2]at hr2;exact hr2
   ·rename_i hc
    rw[hc]at h
    simp only[psdW,Ydu,ha]at*
    cases hps:psd j.op (s.args j.xs)with
    |some c=>
     rw[hps]at h
     refine CSat.mono h fun r hs hr=>⟨?_,?_⟩
     ·rw[YdL h3]
      exact YeU (s:=s) hi rfl (Ygl _ _) hf
     ·have hr2:=hr
      rw[YvY,Yfa h2]at hr2;exact hr2
    |none=>
    rw[hps]at h
    simp only at*
    cases hbd:j.op.bad with
    |true=>rw[hbd]at h;exact h
    |false=>
    rw[hbd]at h
    simp only[badW,effW,Ydu]at*
    cases he:eff s.hp (lenH s.hp) j.op (s.args j.xs)with
    |none=>rw[he]at h;exact h
    |some e=>
     rw[he]at h
     obtain⟨k1,k2⟩:=hh e hq hbd hc he
     refine⟨h.1,?_,?_⟩
     ·rw[YdL h3];exact k2
     ·rw[<-Yfa h2,<-k1];exact h.2
  ·rename_i g pol hg
   rw[hg]at h
   have hgg:getL (s.put i.dst x).fr g=getL s.fr g:=by
    cases hd:i.dst with
    |none=>rfl
    |some n=>exact YbD _ _ _ _ (fun e=>h1 n hd (by simp [VOp.reads,hg,e]))
   simp only[ha,hgg]at h
   unfold YgX at*
   split
   ·rename_i gb hgb
    rw[hgb]at h
    simp only[ctGW,Ydu,ha]at*
    cases hct:ctOf E j.op (YU j.op gb (s.args j.xs)).2 with
    |none=>rw[hct]at h;exact h
    |some c=>
     rw[hct]at h
     obtain⟨k1,k0,r,k2,k3⟩:=h
     exact⟨k1,k0,r,⟨by rw[YdL h3];exact hf,by rw[<-Yfa h2];exact k2⟩,k3⟩
   ·rename_i hgb
    rw[hgb]at h;exact h
end
end Go.Vx
namespace Go.Vx
theorem Yi1{hp hp':List HO}{n n':Nat}{o:VO}(hq:o.quiet=true)(hr:o.readsHp=false)(xs:List SV):eff hp' n' o xs=eff hp n o xs:=by
 cases o <;> simp only[VO.quiet,VO.readsHp,reduceCtorEq]at hq hr <;> rfl
def Yc3:List SV->SV
 | []=> .junk
 |x::_=>x
theorem YlF{hp hp':List HO}{x:SV}(h:∀b,blk x=some b->getH hp' b=getH hp b):Yaz hp' x=Yaz hp x:=by
 cases x <;> try rfl
 case ptr i off=>simp only[Yaz,h i rfl]
 case elem i k off sz=>simp only[Yaz,h i rfl]
theorem YqR{hp hp':List HO}{n n':Nat}{o:VO}(hq:o.quiet=true){xs:List SV}(h:∀b,blk (Yc3 xs)=some b->getH hp' b=getH hp b):eff hp' n' o xs=eff hp n o xs:=by
 cases hr:o.readsHp with
 |false=>exact Yi1 hq hr xs
 |true=>
  cases o <;> simp only[VO.readsHp,reduceCtorEq]at hr
  case load agg size=>
   cases xs with
   |nil=>rfl
   |cons a l=>
    cases l with
    |nil=>
     have:=YlF (x:=a) h
     simp only[eff,Yhw,this]
    |cons _ _=>rfl
  case idxArr m size=>
   rcases xs with _| ⟨a,_| ⟨b,_| ⟨c,l⟩⟩⟩ <;> try rfl
   ·cases a <;> try rfl
    case ptr j off=>cases off <;> rfl
   ·cases a <;> try rfl
    case ptr j off=>
     have:=h j rfl
     cases off <;> cases b <;> try rfl
     simp only[eff,YeB,this]
   ·cases a <;> try rfl
    case ptr j off=>cases off <;> cases b <;> rfl
  case sliceArr m size lo hi=>
   rcases xs with _| ⟨a,_| ⟨b,l⟩⟩
   ·cases lo <;> cases hi <;> rfl
   ·cases lo <;> cases hi <;> try rfl
    cases a <;> try rfl
    case ptr j off=>
     have:=h j rfl
     cases off <;> try rfl
     simp only[eff,YbC,this]
   ·cases lo <;> cases hi <;> try rfl
    cases a <;> try rfl
    case ptr j off=>cases off <;> rfl
  case isNil neg=>
   rcases xs with _| ⟨a,_| ⟨b,l⟩⟩
   ·rfl
   ·rfl
   ·rcases l with _| ⟨c,l⟩
    ·cases b <;> try rfl
     cases a <;> try rfl
     case own i lo m sz=>
      have:=h i rfl
      simp only[eff,eNil,this]
    ·cases b <;> rfl
theorem Ylj{hp:List HO}{n:Nat}{o:VO}(ho:o.isStore=true){xs:List SV}{e:Ef}(h:eff hp n o xs=some e):∃k ho,e.upd= .set k ho/\blk (Yc3 xs)=some k:=by
 cases o <;> simp only[VO.isStore,reduceCtorEq]at ho
 simp only[eff,YhU]at h
 split at h
 ·rename_i a v
  obtain⟨e',h',rfl⟩:=YGh.1 h
  cases a <;> simp only[storeAt,reduceCtorEq]at h'
  ·rename_i i off
   split at h'
   ·cases h';exact⟨_,_,rfl,rfl⟩
   ·split at h'
    ·cases h';exact⟨_,_,rfl,rfl⟩
    ·cases h'
   ·cases h'
   ·cases h'
  ·rename_i i k off sz
   split at h'
   ·cases h';exact⟨_,_,rfl,rfl⟩
   ·cases h'
 ·cases h
theorem YrS{hp:List HO}{n:Nat}{o:VO}(hq:o.quiet=false)(ho:o.isStore=false)(ha:o.isAppend=false)(hb:o.bad=false){xs:List SV}{e:Ef}(h:eff hp n o xs=some e):∃ho,e.upd= .new ho:=by
 cases o <;> simp only[VO.quiet,VO.isStore,VO.isAppend,VO.bad,reduceCtorEq]at hq ho ha hb <;> simp only[eff]at h
 ·cases h;exact⟨_,rfl⟩
 ·cases h;exact⟨_,rfl⟩
 ·unfold eBox at h;split at h
  ·cases h;exact⟨_,rfl⟩
  ·cases h
 ·obtain⟨⟨p,cs⟩,h',h⟩:=YGe.1 h
  cases h;exact⟨_,rfl⟩
 ·unfold YqL at h;split at h
  ·cases h;exact⟨_,rfl⟩
  ·cases h
 all_goals cases h
theorem Yco(s:S):∀(xs:List X),Yc3 (s.args xs)=s.x (YcN xs)
 | []=>rfl
 |_::_=>rfl
theorem YfU(gb:Bool):∀(xs:List SV),Yc3 (Yf5 gb xs).2=YoO (Yc3 xs)
 | []=>rfl
 |x::_=>by cases x <;> rfl
theorem YeW(o:VO)(gb:Bool)(xs:List SV):Yc3 (YU o gb xs).2=YoO (Yc3 xs):=by
 unfold YU YjL
 split
 ·exact YfU gb xs
 ·split
  ·rename_i x y
   cases x <;> rfl
  ·exact YfU gb _
theorem Yuq{v:VOp}{s:S}{k:Nat}{ho:HO}(hq:v.op.quiet=true)(h:v.op.readsHp=true->∀b,blk (YoO (s.x (YcN v.xs)))=some b->b≠k):fEff v (s.upd (.set k ho))=fEff v s:=by
 have key:∀xs:List SV,(v.op.readsHp=true->∀b,blk (Yc3 xs)=some b->b≠k)->eff (s.upd (.set k ho)).hp (lenH (s.upd (.set k ho)).hp) v.op xs=eff s.hp (lenH s.hp) v.op xs:=by
  intro xs hx
  cases hr:v.op.readsHp with
  |false=>exact Yi1 hq hr xs
  |true=>exact YqR hq fun b hb=>YR _ _ _ _ (fun e=>hx hr b hb e.symm)
 have hfr:(s.upd (.set k ho)).fr=s.fr:=rfl
 have ha:(s.upd (.set k ho)).args v.xs=s.args v.xs:=YlA hfr _
 unfold fEff
 cases hg:v.g with
 |none=>
  simp only[ha]
  rw[key]
  intro hr b hb
  refine h hr b ?_
  rw[Yco]at hb
  cases hx:s.x (YcN v.xs) <;> rw[hx]at hb <;> first|exact hb|cases hb
 |some gp=>
  obtain⟨g,pol⟩:=gp
  simp only[ha,hfr]
  cases Yab (getL s.fr g) pol with
  |none=>rfl
  |some gb=>
   simp only
   rw[key]
   intro hr b hb
   refine h hr b ?_
   rw[YeW,Yco]at hb
   exact hb
theorem YdV{b:Nat}{v:SV}(h:refs b v=false):Yd7 b v=v:=by unfold Yd7;rw[h];rfl
theorem Yk1{b:Nat}:∀{l:List SV},Yhg b l=false->Yj b l=l
 | [],_=>rfl
 |x::l,h=>by
  simp only[Yhg,YG8]at h
  simp only[Yj,YdV h.1,Yk1 h.2]
theorem YcU(b:Nat):∀(n:Nat)(l:List SV),YG n (Yj b l)=Yj b (YG n l)
 |0,_=>rfl
 |_+1,[]=>rfl
 |n+1,_::l=>YcU b n l
theorem YeL(b:Nat):∀(n:Nat)(l:List SV),YL n (Yj b l)=Yj b (YL n l)
 |0,_=>rfl
 |_+1,[]=>rfl
 |n+1,x::l=>congrArg (Yd7 b x::·) (YeL b n l)
theorem YdT(b:Nat):∀(l:List SV),lenL (Yj b l)=lenL l
 | []=>rfl
 |_::l=>congrArg (·+1) (YdT b l)
theorem Yid(b:Nat):∀(l r:List SV),Yj b (l++r)=Yj b l++Yj b r
 | [],_=>rfl
 |x::l,r=>congrArg (Yd7 b x::·) (Yid b l r)
theorem YgT(b:Nat)(get:Nat->List SV):∀(n k:Nat),YgS n k (fun j=>Yj b (get j))=Yj b (YgS n k get)
 |0,_=>rfl
 |n+1,k=>by simp only[YgS,Yid,YgT b get n (k+1)]
theorem YiK{hp hp':List HO}{b:Nat}(hg:∀i,i≠b->getH hp' i=Ye9 b (getH hp i)){x:SV}(hx:refs b x=false){p:Prop}{cs:List SV}(h:Yaz hp x=some (p,cs)):∃cs',Yaz hp' x=some (p,cs')/\(cs'=cs\/cs'=Yj b cs):=by
 cases x <;> simp only[Yaz,reduceCtorEq]at h⊢
 case xp t c=>exact⟨cs,h,.inl rfl⟩
 case ptr i off=>
  have hne:i≠b:=by rintro rfl;simp [refs]at hx
  rw[hg i hne]
  cases hh:getH hp i with
  |gone=>rw[hh]at h;cases h
  |smap l=>rw[hh]at h;cases h
  |box c=>
   rw[hh]at h;cases h
   exact⟨_,rfl,.inr (YcU b off c)⟩
  |own z sz n get=>
   rw[hh]at h
   simp only at h
   cases off with
   |zero=>
    cases h
    exact⟨_,rfl,.inr (YgT b get n 0)⟩
   |succ k=>cases h
 case elem i k off sz=>
  have hne:i≠b:=by rintro rfl;simp [refs]at hx
  rw[hg i hne]
  cases hh:getH hp i with
  |gone=>rw[hh]at h;cases h
  |smap l=>rw[hh]at h;cases h
  |box c=>rw[hh]at h;cases h
  |own z sz' n get=>
   rw[hh]at h;cases h
   exact⟨_,rfl,.inr (YcU b off (get k))⟩
theorem YlT{b:Nat}{agg:Bool}{l:List SV}(h:refs b (Yf9 agg l)=false):Yf9 agg (Yj b l)=Yf9 agg l:=by
 cases agg with
 |true=>simp only[Yf9,refs]at h⊢;rw[Yk1 h]
 |false=>
  rcases l with _| ⟨x,_| ⟨y,l⟩⟩
  ·rfl
  ·simp only[Yf9,Yj]at h⊢;exact YdV h
  ·rfl
theorem Ykr{hp hp':List HO}{n n' b:Nat}(hg:∀i,i≠b->getH hp' i=Ye9 b (getH hp i)){o:VO}(hq:o.quiet=true){xs:List SV}(hx:refs b (Yc3 xs)=false){e:Ef}(hr:refs b e.val=false)(h:eff hp n o xs=some e):eff hp' n' o xs=some e:=by
 cases hrd:o.readsHp with
 |false=>rw[Yi1 hq hrd xs (hp:=hp) (n:=n)];exact h
 |true=>
  cases o <;> simp only[VO.readsHp,reduceCtorEq]at hrd
  case load agg size=>
   simp only[eff,Yhw]at h⊢
   split at h
   ·rename_i a
    obtain⟨⟨p,cs⟩,hc,h⟩:=YGe.1 h
    obtain⟨cs',hc',hor⟩:=YiK hg hx hc
    have hc':Yaz hp' a=some (p,cs'):=hc'
    simp only[hc',Option.bind_some]
    cases h
    rcases hor with rfl|rfl
    ·rfl
    ·simp only[YI,YdT,YeL,YlT hr]
   ·cases h
  case idxArr m size=>
   simp only[eff,YeB]at h⊢
   split at h
   ·rename_i j k i
    have hne:j≠b:=by rintro rfl;simp [Yc3,refs]at hx
    rw[hg j hne]
    cases hh:getH hp j with
    |gone=>rw[hh]at h;cases h
    |smap l=>rw[hh]at h;cases h
    |box c=>rw[hh]at h;exact h
    |own z sz' n get=>rw[hh]at h;exact h
   ·cases h
  case sliceArr m size lo hi=>
   simp only[eff]at h⊢
   unfold YbC at h⊢
   split at h
   ·rename_i j
    have hne:j≠b:=by rintro rfl;simp [Yc3,refs]at hx
    rw[hg j hne]
    cases hh:getH hp j with
    |gone=>rw[hh]at h;cases h
    |smap l=>rw[hh]at h;cases h
    |box c=>rw[hh]at h;cases h
    |own z sz' n get=>rw[hh]at h;exact h
   ·cases h
  case isNil neg=>
   simp only[eff]at h⊢
   unfold eNil at h⊢
   split at h
   ·rename_i x
    split at h <;> try exact h
    rename_i i _ _ _
    have hne:i≠b:=by rintro rfl;simp [Yc3,refs]at hx
    rw[hg i hne]
    cases hh:getH hp i with
    |gone=>rw[hh]at h;cases h
    |smap l=>rw[hh]at h;cases h
    |box c=>rw[hh]at h;cases h
    |own z sz' n get=>rw[hh]at h;exact h
   ·cases h
theorem Yp5{hp:List HO}{n:Nat}{o:VO}(ha:o.isAppend=true){xs:List SV}{e:Ef}(h:eff hp n o xs=some e):(∃ho,e.upd= .new ho)\/∃b ho,e.upd= .app b ho/\blk (Yc3 xs)=some b:=by
 cases o <;> simp only[VO.isAppend,reduceCtorEq]at ha
 simp only[eff,YbB]at h
 split at h
 ·rename_i a x
  split at h
  ·obtain⟨⟨m,gx⟩,_,h⟩:=YGe.1 h
   cases h;exact .inl ⟨_,rfl⟩
  ·split at h
   ·obtain⟨⟨m,gx⟩,_,rfl⟩:=YGh.1 h
    exact .inr ⟨_,_,rfl,rfl⟩
   ·cases h
  ·obtain⟨⟨k,gy⟩,_,h⟩:=YGe.1 h
   obtain⟨⟨m,gx⟩,_,h⟩:=YGe.1 h
   cases h;exact .inl ⟨_,rfl⟩
  ·cases h
 ·cases h
theorem Yh1(b:Nat):∀(l:List SV)(n:Nat),getL (Yj b l) n=Yd7 b (getL l n)
 | [],_=>rfl
 |_::_,0=>rfl
 |_::l,n+1=>Yh1 b l n
theorem YdU(b:Nat):∀(l:List SV)(n:Nat)(x:SV),Yj b (setL l n x)=setL (Yj b l) n (Yd7 b x)
 | [],_,_=>rfl
 |_::_,0,_=>rfl
 |y::l,n+1,x=>congrArg (Yd7 b y::·) (YdU b l n x)
theorem YcL:∀(l:List SV)(n:Nat)(x:SV),n<lenL l->getL (setL l n x) n=x
 |_::_,0,_,_=>rfl
 |_::l,n+1,x,h=>YcL l n x (by simpa [lenL]using h)
theorem Yhk:∀(l:List SV)(n:Nat)(x:SV),lenL l<=n->setL l n x=l
 | [],_,_,_=>rfl
 |_::l,0,_,h=>by simp [lenL]at h
 |y::l,n+1,x,h=>congrArg (y::·) (Yhk l n x (by simpa [lenL]using h))
theorem Yxq{s:S}{d:Option Nat}{x:SV}{b:Nat}{ho:HO}(h:∀n,d=some n->refs b (getL (s.put d x).fr n)=false):(s.put d x).upd (.app b ho)=(s.upd (.app b ho)).put d x:=by
 cases d with
 |none=>rfl
 |some n=>
  have h:=h n rfl
  simp only[S.put,S.upd]at h⊢
  rw[YdU]
  rcases YGz n (lenL s.fr)with hn|hn
  ·rw[YcL _ _ _ hn]at h
   rw[YdV h]
  ·rw[Yhk _ _ _ (by rw[YdT];exact hn),Yhk _ _ _ (by rw[YdT];exact hn)]
theorem YF7{s:S}{b:Nat}{ho:HO}{y:X}(h:refs b (s.x y)=false):(s.upd (.app b ho)).x y=s.x y:=by
 cases y with
 |cn v=>rfl
 |tm n=>
  show getL (Yj b s.fr) n=getL s.fr n
  rw[Yh1];exact YdV h
theorem Yj9{s:S}{b:Nat}{ho:HO}:∀{xs:List X},(∀y∈xs,refs b (s.x y)=false)->(s.upd (.app b ho)).args xs=s.args xs
 | [],_=>rfl
 |y::l,h=>by
  simp only[S.args]
  rw[YF7 (h y YGy),Yj9 fun z hz=>h z (YGx _ hz)]
theorem YoE{b:Nat}{x:SV}:refs b (YoO x)=refs b x:=by cases x <;> rfl
theorem Yup{v:VOp}{s:S}{b:Nat}{ho:HO}(hq:v.op.quiet=true)(hxs:∀y∈v.xs,refs b (s.x y)=false)(hgd:∀g pol,v.g=some (g,pol)->refs b (getL s.fr g)=false){r:Prop×SV}(hr:refs b r.2=false)(h:fEff v s=some r):fEff v (s.upd (.app b ho))=some r:=by
 have hgg:∀i,i≠b->getH (s.upd (.app b ho)).hp i=Ye9 b (getH s.hp i):=by
  intro i hi
  show getH (setH (YaI b s.hp) b ho) i=_
  rw[YR _ _ _ _ hi.symm,YdO]
 have ha:(s.upd (.app b ho)).args v.xs=s.args v.xs:=Yj9 hxs
 have hh:refs b (Yc3 (s.args v.xs))=false:=by
  rw[Yco]
  cases hx:v.xs with
  |nil=>rfl
  |cons y l=>exact hxs y (by rw[hx];exact YGy)
 unfold fEff at h⊢
 cases hg:v.g with
 |none=>
  rw[hg]at h
  simp only at h⊢
  rw[ha]
  cases he:eff s.hp (lenH s.hp) v.op (s.args v.xs)with
  |none=>rw[he]at h;cases h
  |some e=>
   rw[he]at h
   obtain⟨p,x,u⟩:=e
   cases u <;> cases h
   rw[Ykr hgg hq hh (e:=⟨p,x,.no⟩) hr he]
 |some gp=>
  obtain⟨g,pol⟩:=gp
  rw[hg]at h
  simp only at h⊢
  have hgv:getL (s.upd (.app b ho)).fr g=getL s.fr g:=YF7 (y:= .tm g) (hgd g pol hg)
  rw[ha,hgv]
  cases hgb:Yab (getL s.fr g) pol with
  |none=>rw[hgb]at h;cases h
  |some gb=>
   rw[hgb]at h
   simp only at h⊢
   cases he:eff s.hp (lenH s.hp) v.op (YU v.op gb (s.args v.xs)).2 with
   |none=>rw[he]at h;cases h
   |some e=>
    rw[he]at h
    obtain⟨p,x,u⟩:=e
    cases u <;> cases h
    rw[Ykr hgg hq (by rw[YeW,YoE];exact hh) (e:=⟨p,x,.no⟩) (by simpa [refs]using hr) he]
end Go.Vx
namespace Go.Vx
def chk1(ap:Bool)(x y:SV):Prop:=
 match ap with
 |false=>YhL x y
 |true=>napP x y
def YZ(E:Env)(G:VOp->(S->Prop)->S->Prop)(tab:List DT)(i:Nat)(L:Array Bool)(A:S->Prop)(s:S):Prop:=
 match tab[i]? with
 |some (.silent _)=>A s
 |some (.op v chk)=>(∀c∈chk,L.getD c.1 false=true->chk1 v.op.isAppend (s.x c.2) (s.x (YcN v.xs)))/\dopW E v A s
 |some (.loud v)=>dopW E v A s\/G v A s
 |none=>False
theorem Ycg{d:Option Nat}{l:List Nat}(h:disj d l=true):∀n,d=some n->n∉l:=by
 rintro n rfl hm
 simp [disj,hm]at h
theorem Yww{x y:X}(h:xeq x y=true):x=y:=by
 cases x <;> cases y <;> simp only[xeq,YGC]at h
 rw[YGD h]
section
variable {E:Env} {G:VOp->(S->Prop)->S->Prop} {tab:List DT} {ops:Array Oper} {md:Region.Mode} {clo:Nat->Nat->Bool}
theorem Yik(hG:∀v (A B:S->Prop) s,(∀s,A s->B s)->G v A s->G v B s)(j:Nat)(L:Array Bool)(s:S)(A B:S->Prop)(h:∀s,A s->B s)(hs:YZ E G tab j L A s):YZ E G tab j L B s:=by
 unfold YZ at*
 split
 ·rename_i d hd;rw[hd]at hs;exact h _ hs
 ·rename_i v chk hd;rw[hd]at hs;exact⟨hs.1,Yaw h hs.2⟩
 ·rename_i v hd;rw[hd]at hs;exact hs.imp (Yaw h) (hG v A B s h)
 ·rename_i hd;rw[hd]at hs;exact hs
structure Ywy (md:Region.Mode) (ops:Array Oper) (clo:Nat->Nat->Bool):Prop where
 ready:∀(L:Array Bool)(j i:Nat),Down md ops L->j∈Region.ready md ops L->clo j i=true->L.getD i false=true
 listed:∀(L:Array Bool)(j i:Nat),Down md ops L->L.getD j false=true->clo j i=true->L.getD i false=true
theorem Ydw{L:Array Bool}{i:Nat}(h:i∈Region.ready md ops L):L.getD i false=false:=by
 have h0:=(mem_ready.1 h).1
 rcases YGz i L.size with h'|h'
 ·simp [h']at h0⊢;exact h0
 ·simp [Array.getElem?_eq_none h']
theorem Yku{L:Array Bool}{i j:Nat}(h:L.getD j false=true):(L.setIfInBounds i true).getD j false=true:=getD_set_true h
theorem Yie{b:Nat}{x:SV}(h:Yqs x=true):refs b x=false:=by cases x <;> first|rfl|cases h
theorem YlO:∀(l:List SV)(n:Nat),lenL l<=n->getL l n= .junk
 | [],_,_=>rfl
 |_::_,0,h=>by simp [lenL]at h
 |_::l,n+1,h=>YlO l n (by simpa [lenL]using h)
theorem YkI{n:Nat}:∀{l:List X},.tm n∈l->n∈YY l
 |x::l,h=>by
  rcases YGK.1 h with rfl|h
  ·simp [YY,X.slot]
  ·simp [YY,YkI h]
theorem YgW{i:Nat}{chk:List (Nat×X)}{x:X}(h:YvW i chk x=true):(i,x)∈chk:=by
 obtain⟨c,hc,h⟩:=List.any_eq_true.1 h
 simp only[YGi]at h
 have h1:=YGD h.1
 have h2:=Yww h.2
 rw[<-h1,<-h2];exact hc
theorem Yyb{v u:VOp}{s:S}(hv:v.op.quiet=true){r:Prop×SV}
 (hap:u.op.isAppend=true->∀b,blk (s.x (YcN u.xs))=some b->(∀y∈v.xs,refs b (s.x y)=false)/\(∀g pol,v.g=some (g,pol)->refs b (getL s.fr g)=false)/\refs b r.2=false)
 (hst:u.op.isStore=true->v.op.readsHp=true->YhL (s.x (YcN v.xs)) (s.x (YcN u.xs))){e:Ef}
 (hq:u.op.quiet=false)(hbad:u.op.bad=false)(he:eff s.hp (lenH s.hp) u.op (s.args u.xs)=some e)(hf:fEff v s=some r):(s.put v.dst r.2).upd e.upd=(s.upd e.upd).put v.dst r.2/\fEff v (s.upd e.upd)=some r:=by
 cases hs:u.op.isStore with
 |true=>
  obtain⟨k,ho,h1,h2⟩:=Ylj hs he
  rw[h1]
  refine⟨Yml trivial,?_⟩
  rw[Yuq hv]
  ·exact hf
  ·intro hr b hb hbk
   subst hbk
   have:=hst hs hr
   rw[Yco]at h2
   simp [YhL,Yp3,hb,h2]at this
 |false=>
  cases ha:u.op.isAppend with
  |false=>
   obtain⟨ho,h1⟩:=YrS hq hs ha hbad he
   rw[h1]
   exact⟨Yml trivial,YeU (s:=s) hv rfl (Ykv _ _) hf⟩
  |true=>
   rcases Yp5 ha he with⟨ho,h1⟩ | ⟨b,ho,h1,h2⟩
   ·rw[h1]
    exact⟨Yml trivial,YeU (s:=s) hv rfl (Ykv _ _) hf⟩
   ·rw[h1]
    rw[Yco]at h2
    obtain⟨k1,k2,k3⟩:=hap ha b h2
    refine⟨Yxq fun n hn=>?_,Yup hv k1 k2 k3 hf⟩
    rcases YGz n (lenL s.fr)with hl|hl
    ·rw[hn];simp only[S.put];rw[YcL _ _ _ hl];exact k3
    ·rw[hn];simp only[S.put];rw[Yhk _ _ _ hl,YlO _ _ hl];rfl
theorem YoN(hc:Ywy md ops clo){i:Nat}{v:VOp}(hi:tab[i]? =some (.op v []))(hv:v.op.quiet=true)(hcomm:∀(j:Nat) (t:DT),tab[j]? =some t->Yqu clo i v j t=true)
 (j:Nat)(L:Array Bool)(s:S)(A:S->Prop)(hd:Down md ops L)(hri:i∈Region.ready md ops L)(hrj:j∈Region.ready md ops L)(hji:j≠i)
 (h:YZ E G tab i L (YZ E G tab j (L.setIfInBounds i true) A) s):YZ E G tab j L (YZ E G tab i (L.setIfInBounds j true) A) s:=by
 have hstepi:∀(L:Array Bool)(A:S->Prop)(s:S),YZ E G tab i L A s↔dopW E v A s:=by
  intro L A s
  unfold YZ
  rw[hi]
  exact⟨fun h=>h.2,fun h=>⟨fun c hc=>(by cases hc),h⟩⟩
 rw[hstepi]at h
 have hmono:∀{B C:S->Prop}{t:S},(∀s,B s->C s)->dopW E v B t->dopW E v C t:=fun hbc hh=>Yaw hbc hh
 cases ht:tab[j]? with
 |none=>
  have:dopW E v (fun _=>False) s:=hmono (fun s' hs'=>by unfold YZ at hs';rw[ht]at hs';exact hs') h
  exact(YgN hv this).elim
 |some t=>
  have hcm:=hcomm j t ht
  unfold Yqu at hcm
  have e1:YGS i j=false:=by
   cases hb:YGS i j with
   |false=>rfl
   |true=>exact absurd (YGD hb).symm hji
  have e2:clo j i=false:=by
   cases hb:clo j i with
   |false=>rfl
   |true=>have:=hc.ready L j i hd hrj hb;rw[Ydw hri]at this;cases this
  have e3:clo i j=false:=by
   cases hb:clo i j with
   |false=>rfl
   |true=>have:=hc.ready L i j hd hri hb;rw[Ydw hrj]at this;cases this
  rw[e1,e2,e3]at hcm
  simp only[YHx]at hcm
  cases t with
  |silent d=>
   have hsj:∀(L:Array Bool)(A:S->Prop)(s:S),YZ E G tab j L A s=A s:=by
    intro L A s;unfold YZ;rw[ht]
   rw[hsj,hstepi]
   exact hmono (fun s' hs'=>by rw[hsj]at hs';exact hs') h
  |loud u=>simp at hcm
  |op u chk=>
   simp only[YGi,YG6,YGA,List.all_eq_true]at hcm
   obtain⟨⟨⟨⟨⟨c1,c2⟩,c3⟩,c4⟩,c5⟩,c6⟩:=hcm
   have hsj:∀(L:Array Bool)(A:S->Prop)(s:S),YZ E G tab j L A s=((∀c∈chk,L.getD c.1 false=true->chk1 u.op.isAppend (s.x c.2) (s.x (YcN u.xs)))/\dopW E u A s):=by
    intro L A s;unfold YZ;rw[ht]
   have d1:=Ycg c1
   have d3:=Ycg c3
   have d2:∀n,v.dst=some n->u.dst≠some n:=fun n hn hu=>Ycg c2 n hn (by simp [hu])
   rw[hsj]
   unfold dopW at h
   rw[hv]at h
   simp only[Yhf]at h
   cases hf:fEff v s with
   |none=>rw[hf]at h;exact h.elim
   |some r=>
    obtain⟨p,x⟩:=r
    rw[hf]at h
    obtain⟨hp,h⟩:=h
    rw[hsj]at h
    obtain⟨hchk,h⟩:=h
    have htgt:(s.put v.dst x).x (YcN u.xs)=s.x (YcN u.xs):=by
     refine YoU fun n hn hm=>d1 n hn ?_
     cases hx:u.xs with
     |nil=>rw[hx]at hm;simp [YcN,X.slot]at hm
     |cons y l=>rw[hx]at hm;simp only[VOp.reads,hx,YY,YGT];exact .inl (.inl hm)
    refine⟨fun c hcm hcl=>?_,?_⟩
    ·have:=hchk c hcm (Yku hcl)
     rw[htgt]at this
     rcases c5 c hcm with(hh|hh) |hh
     ·rw[YoU (Ycg hh)]at this;exact this
     ·have:=hc.listed L c.1 i hd hcl hh
      rw[Ydw hri]at this;cases this
     ·rw[YGD hh,Ydw hri]at hcl;cases hcl
    ·have hlt:i<L.size:=by
      obtain⟨_,o,ho,_⟩:=mem_ready.1 hri
      rw[hd.1];exact(YGX.1 ho).1
     have hli:(L.setIfInBounds i true).getD i false=true:=by simp [hlt]
     refine Yaw (fun s' hs'=>?_) (Yuk hv d1 d2 d3 (fun e hq hbad hcl he=>Yyb (r:=(p,x)) hv (fun hap b hb=>?_) (fun hst hrd=>?_) hq hbad he hf) hf h)
     ·rw[hstepi]
      unfold dopW
      rw[hv]
      simp only[Yhf]
      rw[hs'.1]
      exact⟨hp,hs'.2⟩
     ·rcases c4 with c4|c4
      ·rw[hap]at c4;cases c4
      simp only[YB2,YGi,List.all_eq_true]at c4
      obtain⟨⟨⟨e1,e2⟩,e3⟩,e4⟩:=c4
      have dv:=Ycg e1
      have at1:∀y:X,(i,y)∈chk->refs b ((s.put v.dst x).x y)=false/\Yz6 ((s.put v.dst x).x y)=true:=by
       intro y hy
       have:=hchk (i,y) hy hli
       rw[hap,htgt]at this
       simp only[chk1,napP,napB,hb]at this
       exact this
      refine⟨fun y hy=>?_,fun g pol hg=>?_,?_⟩
      ·have h1:=e2 y hy
       cases y with
       |cn c=>exact Yie h1
       |tm n=>
        have h2:=(at1 _ (YgW h1)).1
        rwa [YoU (fun m hm hmm=>dv m hm (by
         simp only[X.slot,YGU]at hmm
         subst hmm
         simp only[VOp.reads,YGT]
         exact .inl (YkI hy)))]at h2
      ·rw[hg]at e3
       have h2:=(at1 _ (YgW e3)).1
       rwa [YoU (fun m hm hmm=>dv m hm (by
        simp only[X.slot,YGU]at hmm
        subst hmm
        simp [VOp.reads,hg]))]at h2
      ·cases hdst:v.dst with
       |none=>rw[hdst]at e4;cases e4
       |some d=>
        rw[hdst]at e4
        obtain⟨h1,h2⟩:=at1 _ (YgW e4)
        rw[hdst]at h1 h2
        simp only[S.x,S.put]at h1 h2
        rcases YGz d (lenL s.fr)with hl|hl
        ·rw[YcL _ _ _ hl]at h1;exact h1
        ·rw[YlO _ _ (by rw[Yhk _ _ _ hl];exact hl)]at h2;cases h2
     ·rcases c6 with(h6|h6) |h6
      ·rw[hst]at h6;cases h6
      ·rw[hrd]at h6;cases h6
      ·obtain⟨c,hcm,hcb⟩:=List.any_eq_true.1 h6.2
       simp only[YGi]at hcb
       have hci:=YGD hcb.1
       have hcx:=Yww hcb.2
       have:=hchk c hcm (by rw[hci];exact hli)
       have hna:u.op.isAppend=false:=by cases hu:u.op <;> rw[hu]at hst <;> first|rfl|cases hst
       rw[htgt,hcx,YoU (Ycg h6.1),hna]at this
       exact this
end
end Go.Vx
