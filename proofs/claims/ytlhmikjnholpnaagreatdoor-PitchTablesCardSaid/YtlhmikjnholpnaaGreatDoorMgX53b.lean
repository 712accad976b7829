/- The operations that make memory or write to memory of the call's own. -/
import Derived.Test.YtlhmikjnholpnaaGreatDoorMgX53a
import Derived.MapKept
import Derived.Laws.Externs
import Derived.Sort.LoopGhostIn
import Derived.RangeFuncRecord
import Derived.TacticsIn
import Derived.OrdersIn
import Derived.Scope
import Derived.Orders
open Array renaming getElem?_eq_some_iff->Xr,length_toList->Um
open Bool renaming and_eq_true->YS,false_eq_true->XQ,or_eq_true->Qj
open Int renaming mul_comm->KM,natCast_mul->Qr,toNat_of_nonneg->K7
open Go.IntWalk renaming i64_in->Yg
open List renaming all_eq_true->VJ,cons_append->Ws,getElem?_append->Wt,getElem?_append_left->QY,getElem?_append_right->Z0,getElem?_cons_zero->VK,getElem?_drop->Wu,getElem?_eq_some_iff->UY,getElem?_set->VM,getElem?_singleton->Uo,getElem?_take->XR,length_append->JO,length_cons->XS,length_map->VN,length_take->Qs,map_cons->KH,map_nil->Vf,mem_append->Ky,mem_cons->Kz,mem_cons_of_mem->KX,mem_cons_self->KR,mem_map->QM,nil_append->VP
open Nat renaming add_assoc->Zk,add_mul->YM,add_zero->KO,beq->YJ,div_add_mod->KP,eq_of_beq_eq_true->Jy,le_of_eq->Yx,le_of_lt->JZ,le_refl->Yt,le_trans->Yh,lt_of_lt_of_le->Qt,lt_or_ge->YY,lt_trichotomy->Ww,mod_lt->Kj,mul_comm->Yl,mul_le_mul_right->Yp,not_lt_zero->J8,one_mul->Y2,succ_mul->XT,zero_add->KJ,zero_le->JJ,zero_mul->JP
open Option renaming bind_eq_some_iff->YE,map_eq_some_iff->YQ
open Or renaming inl->KD,inr->KK
set_option linter.all false
namespace Go.Vx
open Go.RowKit
def Rc(hp:List HO):Upd->List HO
 | .no=>hp
 | .new ho=>Qg hp ho
 | .set i ho=>KL hp i ho
 | .app i ho=>KL (Xl i hp) i ho
def Ycz:Upd->Option Nat
 | .app i _=>some i
 |_=>none
section
variable {P:Program} {ρ:Operand->Value} {w w':World} {bs bs':List BK} {B:Bd} {hp:List HO}
def MOk(P:Program)(ρ:Operand->Value)(op:Op)(w:World)(bs:List BK)(B:Bd)(hp:List HO)(e:Ef):Prop:=
 ∃r v w' bs',(∀dst type pos after guard,(execOp ρ ⟨dst,op,type,pos,after,guard⟩).run P w= .ok r w')/\(r= .value v\/(r= .skip/\v=undef))/\
  Rep w' bs' B e.val v/\Hp w' bs' B (Rc hp e.upd)/\Keeps w bs w' bs'/\Stays (Ycz e.upd) bs bs'/\Below B w w'
theorem Keeps.refl:Keeps w bs w bs:=fun _ hf _ h=>⟨h,hf⟩
theorem Stays.refl{e:Option Nat}:Stays e bs bs:=fun _ _ _ h _=>h
theorem QOk.mok{op:Op}{e:Ef}(h:QOk P ρ op w bs B e)(hH:Hp w bs B hp):MOk P ρ op w bs B hp e:=by
 obtain⟨hu,v,hrun,hr⟩:=h
 exact⟨.value v,v,w,bs,hrun,.inl rfl,hr,by rw[hu];exact hH,Keeps.refl,Stays.refl,Below.refl _ _⟩
theorem Gs:∀(hp:List HO)(x:HO),Yi (Qg hp x)=Yi hp+1
 | [],_=>rfl
 |_::l,x=>by simp [Qg,Yi,Gs l x]
theorem Gi:∀(hp:List HO)(x:HO)(i:Nat),i<Yi hp->Ys (Qg hp x) i=Ys hp i
 | [],_,_,h=>by simp [Yi]at h
 |_::_,_,0,_=>rfl
 |_::l,x,i+1,h=>by simpa [Qg,Ys]using Gi l x i (by simpa [Yi]using h)
theorem MD:∀(hp:List HO)(x:HO),Ys (Qg hp x) (Yi hp)=x
 | [],_=>rfl
 |_::l,x=>by simpa [Qg,Yi,Ys]using MD l x
theorem WU:∀(hp:List HO)(i:Nat),Yi hp<=i->Ys hp i= .gone
 | [],i,_=>by cases i <;> rfl
 |_::l,0,h=>by simp [Yi]at h
 |_::l,i+1,h=>by simpa [Ys]using WU l i (by simpa [Yi]using h)
theorem Hn:∀(hp:List HO)(i:Nat)(x:HO),Yi (KL hp i x)=Yi hp
 | [],i,_=>by cases i <;> rfl
 |_::_,0,_=>rfl
 |_::l,i+1,x=>by simp [KL,Yi,Hn l i x]
theorem H9:∀(hp:List HO)(i:Nat)(x:HO),i<Yi hp->Ys (KL hp i x) i=x
 | [],_,_,h=>by simp [Yi]at h
 |_::_,0,_,_=>rfl
 |_::l,i+1,x,h=>by simpa [KL,Ys]using H9 l i x (by simpa [Yi]using h)
theorem WV:∀(hp:List HO)(i j:Nat)(x:HO),i≠j->Ys (KL hp i x) j=Ys hp j
 | [],i,j,_,_=>by cases i <;> rfl
 |_::_,0,0,_,h=>absurd rfl h
 |_::_,0,j+1,_,_=>rfl
 |_::_,i+1,0,_,_=>rfl
 |_::l,i+1,j+1,x,h=>by simpa [KL,Ys]using WV l i j x (by omega)
theorem HRep.keepG{B':Bd}{i:Nat}{ho:HO}(hk:ZG w bs B w' bs' B')(hb:Stays none bs bs')(hi:bs'[i]? =bs[i]?)
 (hblk:∀b c n,bs[i]? =some (.blk b c n)->w'.heap[b]? =w.heap[b]?)(h:HRep w bs B i ho):HRep w' bs' B' i ho:=by
 cases ho with
 |gone=>simpa [HRep,hi]using h
 |box cs=>
  obtain⟨b,vs,T,h1,h2,h3⟩:=h
  exact⟨b,vs,T,by rw[hi];exact h1,by rw[hblk _ _ _ h1];exact h2,h3.keepG hk hb JA⟩
 |smap l=>
  obtain⟨b,es,c,h1,h2,h3⟩:=h
  exact⟨b,es,c,by rw[hi];exact h1,by rw[hblk _ _ _ h1];exact h2,h3⟩
 |own z size n get=>
  rcases h with⟨h1,h2,h3⟩ | ⟨b,cap,vs,T,h1,h2,h3,h4,h5,h6⟩
  ·exact .inl ⟨by rw[hi];exact h1,h2,h3⟩
  ·exact .inr ⟨b,cap,vs,T,by rw[hi];exact h1,h2,by rw[hblk _ _ _ h1];exact h3,h4,h5,fun k hk'=>(h6 k hk').keepG hk hb JA⟩
theorem HRep.keepC{i:Nat}{ho:HO}(hk:KeepsC w bs w' bs')(hb:Stays none bs bs')(hi:bs'[i]? =bs[i]?)
 (hblk:∀b c n,bs[i]? =some (.blk b c n)->w'.heap[b]? =w.heap[b]?)(h:HRep w bs B i ho):HRep w' bs' B i ho:=h.keepG hk.g hb hi hblk
theorem HRep.keep{i:Nat}{ho:HO}(hk:Keeps w bs w' bs')(hb:Stays none bs bs')(hi:bs'[i]? =bs[i]?)
 (hblk:∀b c n,bs[i]? =some (.blk b c n)->w'.heap[b]? =w.heap[b]?)(h:HRep w bs B i ho):HRep w' bs' B i ho:=h.keepC hk.c hb hi hblk
def World.push(w:World)(o:Obj):World:={ w with heap:=w.heap.push o}
theorem Au{b:Nat}{o o':Obj}(h:w.heap[b]? =some o'):(World.push w o).heap[b]? =some o':=by
 have hb:b<w.heap.size:=(Xr.1 h).1
 simp only[World.push,Array.getElem?_push]
 rw[if_neg (by omega)];exact h
theorem Ue{o:Obj}:(World.push w o).heap[w.heap.size]? =some o:=by
 show(w.heap.push o)[w.heap.size]? =some o
 exact Array.getElem?_push_size
theorem Vu(o:Obj)(hB:B<=w.heap.size):Below B w (World.push w o):=(Below.refl B w).alloc hB o
theorem At(oo:Obj)(cap n:Nat):Keeps w bs (World.push w oo) (bs++[.blk w.heap.size cap n]):=by
 intro b hf o ho
 refine⟨Au ho,fun i b' c m h=>?_⟩
 rw[Wt]at h
 split at h
 ·exact hf i b' c m h
 ·have hb:b<w.heap.size:=(Xr.1 ho).1
  rw[Uo]at h
  split at h
  ·cases h;omega
  ·cases h
theorem Ud(cs:Array Value)(T:TypeId)(cap n:Nat):Keeps w bs (World.push w (.cells cs T (0,0))) (bs++[.blk w.heap.size cap n]):=At _ cap n
theorem Qx(x:BK)(e:Option Nat):Stays e bs (bs++[x]):=by
 intro i y _ h _
 rw[QY (UY.1 h).1];exact h
theorem OM(hH:Hp w bs B hp)(hB:B<=w.heap.size){oo:Obj}{cap n:Nat}{ho:HO}
 (h:HRep (World.push w oo) (bs++[.blk w.heap.size cap n]) B (Yi hp) ho):
 Hp (World.push w oo) (bs++[.blk w.heap.size cap n]) B (Qg hp ho):=by
 have hlt:∀(i b c m:Nat),bs[i]? =some (.blk b c m)->b<w.heap.size:=fun i b c m h=>(hH.lo i b c m h).2
 refine⟨by simp [hH.len,Gs],fun i=>?_,fun i j b c m c' m' h1 h2=>?_,fun i b c m h1=>?_,Vz (At oo cap n) hH.reg⟩
 ·rcases Ww i (Yi hp)with hi|hi|hi
  ·rw[Gi _ _ _ hi]
   refine(hH.ent i).keep (At oo cap n) (Qx _ _) ?_ ?_
   ·rw[QY (by rw[hH.len];exact hi)]
   ·intro b c m hb
    have:=hlt i b c m hb
    simp only[World.push,Array.getElem?_push]
    rw[if_neg (by omega)]
  ·subst hi;rw[MD];exact h
  ·rw[WU _ _ (by rw[Gs];omega)]
   right
   rw[List.getElem?_eq_none];simp [hH.len];omega
 ·rw[Wt]at h1 h2
  split at h1 <;> split at h2
  ·exact hH.inj i j b c m c' m' h1 h2
  ·have:=hlt i b c m h1
   rw[Uo]at h2;split at h2 <;> cases h2;omega
  ·have:=hlt j b c' m' h2
   rw[Uo]at h1;split at h1 <;> cases h1;omega
  ·rw[Uo]at h1 h2
   split at h1 <;> split at h2 <;> first|omega| (cases h1;done) | (cases h2;done)
 ·rw[Wt]at h1
  have hs:(World.push w oo).heap.size=w.heap.size+1:=by simp [World.push]
  split at h1
  ·have:=hH.lo i b c m h1;omega
  ·rw[Uo]at h1
   split at h1 <;> cases h1
   omega
theorem Hq(hH:Hp w bs B hp)(hB:B<=w.heap.size){cs:Array Value}{T:TypeId}{cap n:Nat}{ho:HO}
 (h:HRep (World.push w (.cells cs T (0,0))) (bs++[.blk w.heap.size cap n]) B (Yi hp) ho):
 Hp (World.push w (.cells cs T (0,0))) (bs++[.blk w.heap.size cap n]) B (Qg hp ho):=OM hH hB h
theorem ZQ{x:BK}(hH:Hp w bs B hp):(bs++[x])[Yi hp]? =some x:=by rw[<-hH.len];simp
theorem YfO{elem:TypeId}{x:Operand}{xs:List SV}{e:Ef}(he:Mr (Yi hp) xs=some e)(hpre:e.pre)(hx:RepL w bs B xs ([x].map ρ))(hH:Hp w bs B hp)(hB:B<=w.heap.size):
 MOk P ρ (.box elem x) w bs B hp e:=by
 unfold Mr at he
 split at he
 ·simp only[Xe,Option.some.injEq]at he
  subst he
  obtain⟨hcl,_⟩:=CN hpre (Wf hx)
  refine⟨.value (.pointer (some ⟨w.heap.size,0,none⟩)),_,World.push w (.cells (ρ x).cells elem (0,0)),bs++[.blk w.heap.size 0 0],fun dst type pos after guard=>?_,.inl rfl,?_,?_,Ud _ _ _ _,Qx _ _,Vu _ hB⟩
  ·simp [execOp,Instr.box,newVar,newRow,World.push]
  ·exact .ptr _ _ _ _ (ZQ hH)
  ·exact Hq hH hB ⟨_,_,_,ZQ hH,Ue,hcl.keep (Ud _ _ _ _) (Qx _ _) JA⟩
 ·cases he
theorem Ye1{elem:TypeId}{z:List SV}(hz:Qq P elem=some z)(hH:Hp w bs B hp)(hB:B<=w.heap.size):
 MOk P ρ (.alloc elem) w bs B hp ⟨True,.ptr (Yi hp) 0,.new (.box z)⟩:=by
 obtain⟨v,hv,hr⟩:=Hu (P:=P) (w:=w) (bs:=bs) (B:=B) hz
 refine⟨.value (.pointer (some ⟨w.heap.size,0,none⟩)),_,World.push w (.cells v.cells elem (0,0)),bs++[.blk w.heap.size 0 0],fun dst type pos after guard=>?_,.inl rfl,?_,?_,Ud _ _ _ _,Qx _ _,Vu _ hB⟩
 ·simp [execOp,Instr.alloc,hv,newVar,newRow,World.push]
 ·exact .ptr _ _ _ _ (ZQ hH)
 ·exact Hq hH hB ⟨_,_,_,ZQ hH,Ue,hr.keep (Ud _ _ _ _) (Qx _ _) JA⟩
theorem Du{cs:List SV}{vs:List Value}(h:RepL w bs B cs vs)(size k:Nat):RepL w bs B (Jt size cs k) ((vs.drop (k*size)).take size):=(h.drop _).take _
theorem Ye0{elem t:TypeId}{n size:Nat}{z:List SV}(hz:Qq P elem=some z)(hl:YK z=n*size)(hH:Hp w bs B hp)(hB:B<=w.heap.size):
 MOk P ρ (.alloc elem) w bs B hp ⟨YK z=n*size,.ptr (Yi hp) 0,.new (.own false size n (Jt size z))⟩:=by
 obtain⟨v,hv,hr⟩:=Hu (P:=P) (w:=w) (bs:=bs) (B:=B) hz
 refine⟨.value (.pointer (some ⟨w.heap.size,0,none⟩)),_,World.push w (.cells v.cells elem (0,0)),bs++[.blk w.heap.size n n],fun dst type pos after guard=>?_,.inl rfl,?_,?_,Ud _ _ _ _,Qx _ _,Vu _ hB⟩
 ·simp [execOp,Instr.alloc,hv,newVar,newRow,World.push]
 ·exact .ptr _ _ _ _ (ZQ hH)
 ·refine Hq hH hB (.inr ⟨_,n,_,_,ZQ hH,rfl,Ue,?_,Yt _,fun k _=>Du (hr.keep (Ud _ _ _ _) (Qx _ _) JA) size k⟩)
  rw[<-hl,hr.length];simp
structure Wrote (w w':World) (b:Nat) (o:Obj):Prop where
 os:w'.os=w.os
 tape:w'.tape=w.tape
 output:w'.output=w.output
 size:w'.heap.size=w.heap.size
 at_:w'.heap[b]? =some o
 other:∀k,k≠b->w'.heap[k]? =w.heap[k]?
theorem Yn6{cs:List Value}{off:Nat}{v:Value}{vs:List Value}(h:off<cs.length):JH (cs.set off v) (off+1) vs=JH cs off (v::vs):=by
 have e1:(cs.set off v).take (off+1)=cs.take off++[v]:=by
  rw[List.set_eq_take_append_cons_drop,if_pos h,List.take_append]
  simp [Qs,Nat.min_eq_left (JZ h)]
  exact List.take_of_length_le (by simp;omega)
 have e2:(cs.set off v).drop (off+1+vs.length)=cs.drop (off+(vs.length+1)):=by
  rw[List.set_eq_take_append_cons_drop,if_pos h,List.drop_append]
  simp [Qs,Nat.min_eq_left (JZ h)]
  rw[show off+1+vs.length-off=vs.length+1 by omega]
  simp only[List.drop_succ_cons,List.drop_drop]
  rw[List.drop_of_length_le (by simp;omega),VP]
  congr 1;omega
 simp [JH,e1,e2]
theorem YnO{b off:Nat}{cs:Array Value}{T:TypeId}{v:Value}(hb:w.heap[b]? =some (.cells cs T (0,0))):
 Wrote w (w.setCell ⟨b,off,none⟩ v) b (.cells (cs.setIfInBounds off v) T (0,0)):=by
 refine⟨rfl,rfl,rfl,by simp [World.setCell],?_,fun k hk=>?_⟩
 ·simp [World.setCell,Array.getElem?_modify,hb]
 ·simp only[World.setCell,Array.getElem?_modify]
  rw[if_neg (by omega)]
theorem Wrote.trans{w1 w2:World}{b:Nat}{o o':Obj}(h:Wrote w w1 b o)(h':Wrote w1 w2 b o'):Wrote w w2 b o':=
 ⟨h'.os.trans h.os,h'.tape.trans h.tape,h'.output.trans h.output,h'.size.trans h.size,h'.at_,fun k hk=>(h'.other k hk).trans (h.other k hk)⟩
theorem Pz{b off T:Nat}:∀{vs:List Value}{cs:Array Value}{w:World}{i:Nat},w.heap[b]? =some (.cells cs T (0,0))->off+i+vs.length<=cs.size->(∀u∈vs,u.oneCell'=true)->
 ∃w' cs',(storeCells ⟨b,off,none⟩ vs i).run P w= .ok () w'/\Wrote w w' b (.cells cs' T (0,0))/\cs'.toList=JH cs.toList (off+i) vs
 | [],cs,w,i,hb,hl,ho=>⟨w,cs,rfl,⟨rfl,rfl,rfl,rfl,hb,fun _ _=>rfl⟩,by simp [JH]⟩
 |v::vs,cs,w,i,hb,hl,ho=>by
  simp only[XS]at hl
  have hw:=YnO (off:=off+i) (v:=v) hb
  obtain⟨w',cs',hrun,hw',hcs⟩:=Pz (off:=off) (vs:=vs) (cs:=cs.setIfInBounds (off+i) v) (w:=w.setCell ⟨b,off+i,none⟩ v) (i:=i+1) hw.at_ (by simp;omega) (fun u hu=>ho u (by simp [hu]))
  refine⟨w',cs',?_,hw.trans hw',?_⟩
  ·have hc:w.cell? ⟨b,off+i,none⟩=some (cs[off+i]'(by omega)):=by simp [World.cell?,hb]
   have hf:w.frozen? ⟨b,off+i,none⟩=false:=by simp [World.frozen?,hb]
   simp only[storeCells,Sem.run_bind,ZH,run_store _ _ _ _ _ (ho v (by simp)),hc,hf,XQ,if_false,Result.andThen_ok,hrun]
  ·rw[hcs,Array.toList_setIfInBounds,show off+(i+1)=off+i+1 by omega,Yn6 (by simp;omega)]
theorem spliceV_get?{cs vs:List Value}{off:Nat}(h:off+vs.length<=cs.length)(i:Nat):
 (JH cs off vs)[i]? =if i<off then cs[i]? else if i<off+vs.length then vs[i-off]? else cs[i]? :=by
 unfold JH
 rw[List.append_assoc,Wt]
 simp only[Qs,Nat.min_eq_left (show off<=cs.length by omega)]
 split
 ·rw[XR,if_pos ‹_›]
 ·rw[Wt]
  split
  ·rw[if_pos (by omega)]
  ·rw[if_neg (by omega),Wu];congr 1;omega
theorem Yn7{vs u:List Value}{p off sz:Nat}(h1:off+u.length<=sz)(h2:p+sz<=vs.length):
 JH ((vs.drop p).take sz) off u=((JH vs (p+off) u).drop p).take sz:=by
 apply List.ext_getElem?
 intro i
 rw[spliceV_get? (by simp;omega),XR,XR,Wu,Wu,spliceV_get? (by omega)]
 by_cases hi:i<sz
 ·simp only[hi,if_true]
  by_cases ha:i<off
  ·simp only[ha,if_true,show p+i<p+off by omega]
  ·simp only[ha,if_false,show¬p+i<p+off by omega]
   by_cases hb:i<off+u.length
   ·simp only[hb,if_true,show p+i<p+off+u.length by omega];congr 1;omega
   ·simp only[hb,if_false,show¬p+i<p+off+u.length by omega]
 ·simp only[hi,if_false]
  simp only[show¬i<off by omega,if_false,show¬i<off+u.length by omega]
theorem Yn8{vs u:List Value}{p q off sz:Nat}(h1:off+u.length<=sz)(h2:p+sz<=vs.length)(h:q+sz<=p\/p+sz<=q):
 (vs.drop q).take sz=((JH vs (p+off) u).drop q).take sz:=by
 apply List.ext_getElem?
 intro i
 rw[XR,XR,Wu,Wu,spliceV_get? (by omega)]
 by_cases hi:i<sz
 ·simp only[hi,if_true]
  by_cases ha:q+i<p+off
  ·rw[if_pos ha]
  ·rw[if_neg ha,if_neg (by omega)]
 ·simp only[hi,if_false]
theorem Wrote.below{b:Nat}{o:Obj}(h:Wrote w w' b o)(hB:B<=b):Below B w w':=
 ⟨h.os,h.tape,h.output,Yx h.size.symm,fun k hk=>h.other k (by omega)⟩
theorem Wrote.keeps{b i c n:Nat}{o:Obj}(h:Wrote w w' b o)(hb:bs[i]? =some (.blk b c n)):Keeps w bs w' bs:=by
 intro k hf o' ho
 have:b≠k:=hf i b c n hb
 exact⟨by rw[h.other k (by omega)];exact ho,hf⟩
theorem AP{b i c n:Nat}{o:Obj}{ho:HO}(hH:Hp w bs B hp)(hw:Wrote w w' b o)(hb:bs[i]? =some (.blk b c n))(hi:i<Yi hp)(h:HRep w' bs B i ho):
 Hp w' bs B (KL hp i ho):=by
 refine⟨by rw[Hn];exact hH.len,fun j=>?_,hH.inj,fun j b' c' n' h1=>by rw[hw.size];exact hH.lo j b' c' n' h1,Vz (hw.keeps hb) hH.reg⟩
 by_cases hij:i=j
 ·subst hij;rw[H9 _ _ _ hi];exact h
 ·rw[WV _ _ _ _ hij]
  refine(hH.ent j).keep (hw.keeps hb) Stays.refl rfl ?_
  intro b' c' n' hb'
  refine hw.other b' fun he=>hij ?_
  subst he
  exact hH.inj i j _ _ _ _ _ hb hb'
theorem Lw{i:Nat}{x:BK}(hH:Hp w bs B hp)(h:bs[i]? =some x):i<Yi hp:=by
 rw[<-hH.len];exact(UY.1 h).1
theorem AG{x y:Operand}{t:TypeId}{size b off:Nat}{T:TypeId}{cs:Array Value}(hs:sizeOf? P t=some size)(hx:ρ x= .pointer (some ⟨b,off,none⟩))(hb:w.heap[b]? =some (.cells cs T (0,0)))
 (hl:(ρ y).cells.size=size)(hc:off+size<=cs.size)(ho:∀u∈(ρ y).cells.toList,u.oneCell'=true):
 ∃w' cs',(∀dst type pos after guard,(execOp ρ ⟨dst,.store t x y,type,pos,after,guard⟩).run P w= .ok .skip w')/\Wrote w w' b (.cells cs' T (0,0))/\cs'.toList=JH cs.toList off (ρ y).cells.toList:=by
 obtain⟨w',cs',hrun,hw,hcs⟩:=Pz (P:=P) (off:=off) (i:=0) (vs:=(ρ y).cells.toList) hb (by simp [hl];exact hc) ho
 refine⟨w',cs',fun dst type pos after guard=>?_,hw,hcs⟩
 simp [execOp,Instr.storeAt,hx,Instr.sureAddr,storeVar,Qy hs,hl,hrun]
theorem Yop{x y:Operand}{t:TypeId}{size:Nat}{xs:List SV}{e:Ef}(hs:sizeOf? P t=some size)(he:H1 hp size xs=some e)(hpre:e.pre)
 (hx:RepL w bs B xs ([x,y].map ρ))(hH:Hp w bs B hp):MOk P ρ (.store t x y) w bs B hp e:=by
 unfold H1 at he
 split at he
 ·rename_i a v
  obtain⟨e',he',rfl⟩:=YQ.1 he
  obtain⟨hl,hone,hpre⟩:=hpre
  obtain⟨ha,hv⟩:=two hx
  obtain⟨hcl,hoc⟩:=CN hone hv
  have hsz:(ρ y).cells.size=size:=by rw[<-hl,hcl.length];simp
  unfold storeAt at he'
  split at he'
  ·rename_i i off
   obtain⟨b,n,hb,hρ⟩:=ha.ptr_inv
   have hi:=Lw hH hb
   have hent:=hH.ent i
   split at he'
   ·rename_i cs hg
    cases he'
    rw[hg]at hent
    obtain⟨b',vs,T,h1,h2,h3⟩:=hent
    rw[hb]at h1;cases h1
    obtain⟨w',cs',hrun,hw,hcs⟩:=AG hs hρ h2 hsz (by rw[h3.length]at hpre;simpa using hpre) hoc
    refine⟨.skip,undef,w',bs,hrun,.inr ⟨rfl,rfl⟩,.x _ _ (.junk _),?_,hw.keeps hb,Stays.refl,hw.below (hH.lo _ _ _ _ hb).1⟩
    refine AP hH hw hb hi ⟨b,cs',T,hb,hw.at_,?_⟩
    rw[hcs]
    exact(h3.splice off hcl (by rw[hl];exact hpre)).keep (hw.keeps hb) Stays.refl JA
   ·rename_i z sz m get hg
    split at he'
    ·cases he'
     obtain⟨hp1,hp2⟩:=hpre
     rw[hg]at hent
     rcases hent with⟨h,_⟩ | ⟨b',cap,vs,T,h1,h2,h3,h4,h5,h6⟩
     ·rw[hb]at h;cases h
     rw[hb]at h1;cases h1
     obtain⟨w',cs',hrun,hw,hcs⟩:=AG hs hρ h3 hsz (by rw[h4,hp1];omega) hoc
     refine⟨.skip,undef,w',bs,hrun,.inr ⟨rfl,rfl⟩,.x _ _ (.junk _),?_,hw.keeps hb,Stays.refl,hw.below (hH.lo _ _ _ _ hb).1⟩
     have hcs':cs'.toList=(ρ y).cells.toList:=by
      rw[hcs];simp only[JH,List.take_zero,VP,KJ]
      rw[List.drop_of_length_le (by simp [hsz,h4,hp1])];simp
     refine AP hH hw hb hi (.inr ⟨b,_,cs',T,hb,h2,hw.at_,?_,Yt _,fun k hk=>?_⟩)
     ·have:=congrArg List.length hcs';simp at this;rw[this,hsz,hp1]
     ·rw[hcs']
      exact(Du hcl _ k).keep (hw.keeps hb) Stays.refl JA
    ·cases he'
   ·cases he'
   ·cases he'
  ·rename_i i k off sz
   obtain⟨b,c,n,hb,hρ,hkn⟩:=ha.elem_inv
   have hi:=Lw hH hb
   have hent:=hH.ent i
   split at he'
   ·rename_i z size' m get hg
    cases he'
    obtain⟨hk,rfl,hoff⟩:=hpre
    rw[hg]at hent
    rcases hent with⟨h,_⟩ | ⟨b',cap,vs,T,h1,h2,h3,h4,h5,h6⟩
    ·rw[hb]at h;cases h
    rw[hb]at h1;cases h1
    have hkc:k*sz+sz<=c*sz:=by rw[<-XT];exact Yp _ (by omega)
    obtain⟨w',cs',hrun,hw,hcs⟩:=AG hs hρ h3 hsz (by rw[h4];omega) hoc
    refine⟨.skip,undef,w',bs,hrun,.inr ⟨rfl,rfl⟩,.x _ _ (.junk _),?_,hw.keeps hb,Stays.refl,hw.below (hH.lo _ _ _ _ hb).1⟩
    have hlen:cs'.size=vs.size:=by
     have:=congrArg List.length hcs
     rw[Yb8 (by simp [hsz,h4];omega)]at this
     simpa using this
    refine AP hH hw hb hi (.inr ⟨b,c,cs',T,hb,h2,hw.at_,by rw[hlen,h4],h5,fun j hj=>?_⟩)
    by_cases hjk:j=k
    ·subst hjk
     simp only[if_true]
     have hsp:=((h6 j hj).splice off hcl (by rw[(h6 j hj).length,hl];simp [h4];omega)).keep (hw.keeps hb) Stays.refl JA
     have heq:JH ((vs.toList.drop (j*sz)).take sz) off (ρ y).cells.toList=(cs'.toList.drop (j*sz)).take sz:=by
      rw[hcs]
      exact Yn7 (by simpa [hsz]using hoff) (by simp [h4];omega)
     rw[<-heq];exact hsp
    ·simp only[if_neg hjk]
     have heq:(vs.toList.drop (j*sz)).take sz=(cs'.toList.drop (j*sz)).take sz:=by
      rw[hcs]
      refine Yn8 (by simpa [hsz]using hoff) (by simp [h4];omega) ?_
      rcases Nat.lt_or_gt_of_ne hjk with h|h
      ·left;rw[<-XT];exact Yp _ h
      ·right;rw[<-XT];exact Yp _ h
     rw[<-heq];exact(h6 j hj).keep (hw.keeps hb) Stays.refl JA
   ·cases he'
  ·cases he'
 ·cases he
def Kl(f:Nat->List Value):Nat->List Value
 |0=>[]
 |n+1=>Kl f n++f n
theorem VA{f:Nat->List Value}{size:Nat}:∀{n:Nat},(∀k,k<n->(f k).length=size)->(Kl f n).length=n*size
 |0,_=>by simp [Kl]
 |n+1,h=>by
  simp only[Kl,JO,h n (by omega),VA (n:=n) (fun k hk=>h k (by omega))]
  rw[XT]
theorem AC{f:Nat->List Value}{size:Nat}:∀{n:Nat},(∀k,k<n->(f k).length=size)->∀k,k<n->((Kl f n).drop (k*size)).take size=f k
 |0,_,k,hk=>by omega
 |n+1,h,k,hk=>by
  have hl:=VA (f:=f) (size:=size) (n:=n) (fun k hk=>h k (by omega))
  simp only[Kl]
  rcases YY k n with h1|h1
  ·have ih:=AC (f:=f) (size:=size) (n:=n) (fun k hk=>h k (by omega)) k h1
   have:k*size+size<=n*size:=by rw[<-XT];exact Yp _ h1
   rw[List.drop_append_of_le_length (by omega),List.take_append_of_le_length (by simp;omega),ih]
  ·have:k=n:=by omega
   subst this
   rw[List.drop_append,List.drop_of_length_le (by omega),hl,Nat.sub_self]
   simp [List.take_of_length_le (Yx (h k (by omega)))]
theorem Pt{f:Nat->List Value}{size:Nat}(hs:0<size):∀{n:Nat},(∀k,k<n->(f k).length=size)->∀j v,(Kl f n)[j]? =some v->j/size<n/\(f (j/size))[j%size]? =some v
 |0,_,j,v,h=>by simp [Kl]at h
 |n+1,h,j,v,hv=>by
  have hl:=VA (f:=f) (size:=size) (n:=n) (fun k hk=>h k (by omega))
  simp only[Kl,Wt]at hv
  split at hv
  ·obtain⟨h1,h2⟩:=Pt hs (n:=n) (fun k hk=>h k (by omega)) j v hv
   exact⟨by omega,h2⟩
  ·rename_i hj
   rw[hl]at hj hv
   have hlt:j-n*size<size:=by
    have:=(UY.1 hv).1
    rw[h n (by omega)]at this;exact this
   have hd:j/size=n:=by
    rw[Nat.div_eq_iff hs]
    constructor
    ·omega
    ·omega
   have hm:j%size=j-n*size:=by rw[Nat.mod_eq_sub,hd,Yl]
   rw[hd,hm]
   exact⟨by omega,hv⟩
theorem Ybx{f:Nat->List Value}:∀{n:Nat}{u:Value},u∈Kl f n->∃k,k<n/\u∈f k
 |0,u,h=>by simp [Kl]at h
 |n+1,u,h=>by
  simp only[Kl,Ky]at h
  rcases h with h|h
  ·obtain⟨k,h1,h2⟩:=Ybx h;exact⟨k,by omega,h2⟩
  ·exact⟨n,by omega,h⟩
theorem Fv{x:SV}{v:Value}{m size:Nat}{gx:Nat->List SV}(h:XA hp x=some (m,gx))(hs:0<size)(hl:∀k,k<m->YK (gx k)=size/\Jg (gx k))(hx:Rep w bs B x v)(hH:Hp w bs B hp):
 ∃a c f,v= .slice a m c/\(∀k,k<m->(f k).length=size)/\(∀k,k<m->RepL w bs B (gx k) (f k))/\(∀u∈Kl f m,u.oneCell'=true)/\
  (∃arr,(Builtin.firstCells size m v).run P w= .ok arr w/\arr.toList=Kl f m):=by
 have fin:∀(f:Nat->List Value),(∀k,k<m->RepL w bs B (gx k) (f k))->∀u∈Kl f m,u.oneCell'=true:=by
  intro f hf u hu
  obtain⟨k,hk,hu⟩:=Ybx hu
  exact Yaa _ _ (hl k hk).2 (hf k hk) u hu
 have flen:∀(f:Nat->List Value),(∀k,k<m->RepL w bs B (gx k) (f k))->∀k,k<m->(f k).length=size:=by
  intro f hf k hk
  rw[<-(hf k hk).length];exact(hl k hk).1
 have load:∀(ad:Addr)(f:Nat->List Value),ad.spot=none->(∀k,k<m->RepL w bs B (gx k) (f k))->(∀k,k<m->Cells w ad.block (ad.off+k*size) (f k))->
  ∃arr,(loadCells ad (m*size)).run P w= .ok arr w/\arr.toList=Kl f m:=by
  intro ad f hsp hf hc
  refine⟨(Kl f m).toArray,?_,by simp⟩
  unfold loadCells
  rw[<-VA (flen f hf),Px hsp (fun j v hj=>?_)]
  ·simp
  ·obtain⟨h1,h2⟩:=Pt hs (flen f hf) j v hj
   have:=(hc _ h1).cell h2
   rw[KJ]
   have he:ad.off+j/size*size+j%size=ad.off+j:=by
    have:=KP j size
    rw[Yl]at this;omega
   rwa [he]at this
 unfold XA at h
 split at h
 ·cases h
  have:=hx.nil_inv;subst this
  exact⟨none,0,fun _=>[],rfl,fun k hk=>by omega,fun k hk=>by omega,by simp [Kl], #[],rfl,by simp [Kl]⟩
 ·cases h
  cases hx with
  |x _ _ hx=>
   cases hx with
   |vs t z n sz get a cap vals hz hc hn hcell h=>
    refine⟨a,cap,vals,rfl,flen vals (fun k hk=>(h k hk).rep),fun k hk=>(h k hk).rep,fin vals (fun k hk=>(h k hk).rep),?_⟩
    by_cases hm:m=0
    ·subst hm
     cases a with
     |none=>exact⟨#[],rfl,by simp [Kl]⟩
     |some ad=>exact⟨#[],by simp [Builtin.firstCells,loadCells,loadCellsFrom],by simp [Kl]⟩
    ·obtain⟨ad,rfl,hsp,_⟩:=hcell 0 (by omega)
     refine load ad vals hsp (fun k hk=>(h k hk).rep) (fun k hk=>?_)
     obtain⟨ad',had,_,_,_,hlen,hc'⟩:=hcell k hk
     cases had
     have hsz:=hlen.symm.trans (flen vals (fun k hk=>(h k hk).rep) k hk)
     rw[hsz]at hc';exact hc'
 ·rename_i i lo n sz
  split at h
  ·rename_i z s' n' get hg
   cases hbq:YJ sz s' with
   |false=>rw[hbq]at h;cases h
   |true=>
   rw[hbq]at h
   cases h
   have hss:=Jy hbq
   subst hss
   have hent:=hH.ent i
   rw[hg]at hent
   cases hx with
   |x _ _ hx=>cases hx
   |ownNil _ _ hbs=>exact⟨none,0,fun _=>[],rfl,fun k hk=>by omega,fun k hk=>by omega,by simp [Kl], #[],rfl,by simp [Kl]⟩
   |own _ _ _ _ b cap mm ad hbs hlm ha=>
    rcases hent with⟨h,_⟩ | ⟨b',cap',vs,T,h1,h2,h3,h4,h5,h6⟩
    ·rw[hbs]at h;cases h
    rw[hbs]at h1;cases h1
    have hf:∀k,k<m->RepL w bs B (get (QE lo k)) ((vs.toList.drop ((lo+k)*sz)).take sz):=by
     intro k hk;rw[HI];exact h6 (lo+k) (by omega)
    refine⟨some ad,cap-lo,fun k=>(vs.toList.drop ((lo+k)*sz)).take sz,rfl,flen _ hf,hf,fin _ hf,?_⟩
    by_cases hm:m=0
    ·subst hm
     exact⟨#[],by simp [Builtin.firstCells,loadCells,loadCellsFrom],by simp [Kl]⟩
    ·have hs':sz=size:=by
      have h0:=flen _ hf 0 (by omega)
      simp only[KO,Qs,List.length_drop,Um,h4]at h0
      have:lo*sz+sz<=cap*sz:=by rw[<-XT];exact Yp _ (by omega)
      omega
     subst hs'
     have had:ad=⟨b,lo*sz,none⟩:=by
      rcases ha with ha|ha
      ·exact ha
      ·omega
     subst had
     refine load _ _ rfl hf (fun k hk=>⟨vs,T,_,h3,fun j v hj=>?_⟩)
     rw[XR]at hj
     split at hj
     ·rw[Wu]at hj
      simp only[<-YM]
      simpa using hj
     ·cases hj
  ·cases h
 ·cases h
theorem CI{c:Call}{ty:TypeId}{t1 t2 el el2:TypeId}{size bytes:Nat}{z:List SV}{va vx:Value}{a:Option Addr}{n cap m cx:Nat}{ax:Option Addr}{old new:Array Value}
 (hc:c.callee= .builtin .append)(ht1:c.argTypes[0]? =some t1)(ht2:c.argTypes[1]? =some t2)(hu1:P.underlying t1=some (.slice el))(hu2:P.underlying t2=some (.slice el2))
 (hs:sizeOf? P el=some size)(hby:bytesOf? P el=some bytes)(hz:Qq P el=some z)(hzl:z.length=size)(hb0:0<bytes)(hs0:0<size)
 (hargs:c.args.map ρ= #[.slice a n cap,.slice ax m cx]) (hcap:Y8 (n+m) bytes) (hgrow:cap<n+m)
 (ho:(Builtin.firstCells size n (.slice a n cap)).run P w.drew= .ok old w.drew) (hn:(Builtin.firstCells size m (.slice ax m cx)).run P w.drew= .ok new w.drew):
 ∃nc rest,n+m<=nc/\(∀dst type pos after guard,(execOp ρ ⟨dst,.call c,type,pos,after,guard⟩).run P w=
  .ok (.value (.slice (some ⟨w.heap.size,0,none⟩) (n+m) nc)) (World.push w.drew (.cells (old++new++rest) el (0,0))))/\rest.size=(nc-(n+m))*size:=by
 unfold sizeOf? at hs
 obtain⟨i,hi,his⟩:=YQ.1 hs
 unfold bytesOf? at hby
 rw[hi]at hby
 simp only[Option.map_some,Option.some.injEq]at hby
 unfold Qq at hz
 rw[hi]at hz
 simp only[Option.bind_some]at hz
 obtain⟨zv,hzv,hzm⟩:=YQ.1 hz
 have hzs:zv.cells.size=size:=by rw[<-hzl,<-hzm];simp
 have hfit:=growslice_fits (bytes:=i.bytes) hgrow (by rw[hby];exact hcap)
 let nc:=(n+m)+w.tape w.drawn (.appendCap (n+m) cap el)%(2^63-(n+m))
 refine⟨nc,Builtin.zeroCells zv.cells (nc-(n+m)),Nat.le_add_right _ _,fun dst type pos after guard=>?_,by simp [Builtin.zeroCells,hzs]⟩
 have hty:(typeInfo el).run P w= .ok i w:=by simp [typeInfo,hi]
 have hty2:(typeInfo el).run P w.drew= .ok i w.drew:=by simp [typeInfo,hi]
 have hzr:(zeroValue el).run P w.drew= .ok zv w.drew:=by simp [zeroValue,typeInfo,hi,hzv]
 have hsz:(sizeOf el).run P w= .ok size w:=Qy (by unfold sizeOf?;exact hs)
 have hng:¬(n+m<=cap):=by omega
 have hch:(choose (.appendCap (n+m) cap el)).run P w= .ok nc w.drew:=by
  rw[run_choose];simp only[Question.forced,XQ,if_false];rfl
 have hf1:¬((((n+m:Nat):Int)>IntKind.i64.max)/\(False\/i.bytes=0)):=by
  rintro⟨_,h|h⟩
  ·exact h
  ·omega
 have hf2:¬(Builtin.nextslicecap (n+m) cap*i.bytes>2^48):=by
  have:(2:Nat)^48=281474976710656:=by decide
  rw[this];omega
 have key:(Builtin.append_ c.argTypes type #[.slice a n cap,.slice ax m cx]).run P w= .ok (.slice (some ⟨w.heap.size,0,none⟩) (n+m) nc) (World.push w.drew (.cells (old++new++Builtin.zeroCells zv.cells (nc-(n+m))) el (0,0))):=by
  unfold Builtin.append_
  simp only[ht1,ht2,List.getElem?_toArray,VK,List.getElem?_cons_succ,Sem.run_bind,run_underlying hu1,run_underlying hu2,Result.andThen_ok,hsz,Sem.run_pure,XQ,if_false,Builtin.lenOf,hng,hf1,hty,hf2,hch,run_askRoom,ho,hn,hzr,newRow,run_newObj,Bool.not_false,if_true,Nat.add_eq]
  simp only[hf1,if_false,Sem.run_bind,hty,Result.andThen_ok,hf2,hch,hty2,run_askRoom,ho,hn,hzr,run_newObj,Sem.run_pure]
  rfl
 simp only[execOp,resolve,hc,Sem.run_bind,Sem.run_pure,Result.andThen_ok,invoke,builtin,hargs,key]
theorem Yff{c:Call}{t1 t2 el el2:TypeId}{size n cap m cx b off:Nat}{T:TypeId}{cs:Array Value}{ax:Option Addr}{new:Array Value}
 (hc:c.callee= .builtin .append)(ht1:c.argTypes[0]? =some t1)(ht2:c.argTypes[1]? =some t2)(hu1:P.underlying t1=some (.slice el))(hu2:P.underlying t2=some (.slice el2))
 (hs:sizeOf? P el=some size)(hargs:c.args.map ρ= #[.slice (some ⟨b,off,none⟩) n cap,.slice ax m cx]) (hgrow:n+m<=cap)
 (hn:(Builtin.firstCells size m (.slice ax m cx)).run P w= .ok new w) (hb:w.heap[b]? =some (.cells cs T (0,0))) (hl:off+n*size+new.size<=cs.size) (ho:∀u∈new.toList,u.oneCell'=true):
 ∃w' cs',(∀dst type pos after guard,(execOp ρ ⟨dst,.call c,type,pos,after,guard⟩).run P w= .ok (.value (.slice (some ⟨b,off,none⟩) (n+m) cap)) w')/\
  Wrote w w' b (.cells cs' T (0,0))/\cs'.toList=JH cs.toList (off+n*size) new.toList:=by
 obtain⟨w',cs',hrun,hw,hcs⟩:=Pz (P:=P) (off:=off+n*size) (i:=0) (vs:=new.toList) hb (by simpa using hl) ho
 refine⟨w',cs',fun dst type pos after guard=>?_,hw,by simpa using hcs⟩
 have hsz:(sizeOf el).run P w= .ok size w:=Qy hs
 have key:(Builtin.append_ c.argTypes type #[.slice (some ⟨b,off,none⟩) n cap,.slice ax m cx]).run P w= .ok (.slice (some ⟨b,off,none⟩) (n+m) cap) w':=by
  unfold Builtin.append_
  simp only[ht1,ht2,List.getElem?_toArray,VK,List.getElem?_cons_succ,Sem.run_bind,run_underlying hu1,run_underlying hu2,Result.andThen_ok,hsz,Sem.run_pure,XQ,if_false,Builtin.lenOf,hgrow,if_true,Bool.not_false,hn,ZH,hrun]
 simp only[execOp,resolve,hc,Sem.run_bind,Sem.run_pure,Result.andThen_ok,invoke,builtin,hargs,key]
theorem Sc{c:Call}{t1 t2 el el2:TypeId}{size cx:Nat}{ax:Option Addr}
 (hc:c.callee= .builtin .append)(ht1:c.argTypes[0]? =some t1)(ht2:c.argTypes[1]? =some t2)(hu1:P.underlying t1=some (.slice el))(hu2:P.underlying t2=some (.slice el2))
 (hs:sizeOf? P el=some size)(hargs:c.args.map ρ= #[.slice none 0 0,.slice ax 0 cx]):
 (∀dst type pos after guard,(execOp ρ ⟨dst,.call c,type,pos,after,guard⟩).run P w= .ok (.value (.slice none 0 0)) w):=by
 intro dst type pos after guard
 have hsz:(sizeOf el).run P w= .ok size w:=Qy hs
 have hn:(Builtin.firstCells size 0 (.slice ax 0 cx)).run P w= .ok #[] w:=by cases ax <;> simp [Builtin.firstCells,loadCells,loadCellsFrom]
 have key:(Builtin.append_ c.argTypes type #[.slice none 0 0,.slice ax 0 cx]).run P w= .ok (.slice none 0 0) w:=by
  unfold Builtin.append_
  simp only[ht1,ht2,List.getElem?_toArray,VK,List.getElem?_cons_succ,Sem.run_bind,run_underlying hu1,run_underlying hu2,Result.andThen_ok,hsz,Sem.run_pure,XQ,if_false,Builtin.lenOf,if_true,Bool.not_false,hn,KO,Yt]
 simp only[execOp,resolve,hc,Sem.run_bind,Sem.run_pure,Result.andThen_ok,invoke,builtin,hargs,key]
theorem Keeps.heap(h:w'.heap=w.heap):Keeps w bs w' bs:=fun b hf o ho=>⟨by rw[h];exact ho,hf⟩
theorem Hp.heap_eq(h:w'.heap=w.heap)(hH:Hp w bs B hp):Hp w' bs B hp:=
 ⟨hH.len,fun i=>(hH.ent i).keep (Keeps.heap h) Stays.refl rfl (fun _ _ _ _=>by rw[h]),hH.inj,fun i b c n hb=>by rw[h];exact hH.lo i b c n hb,Vz (Keeps.heap h) hH.reg⟩
theorem Yk6{i:Nat}{s:SV}{v:Value}(hk:Keeps w bs w' bs')(hb:Stays (some i) bs bs')(h:Rep w bs B s v):Rep w' bs' B (Wi i s) v:=by
 unfold Wi
 cases hr:Ku i s with
 |true=>exact .x _ _ (.junk _)
 |false=>exact h.keep hk hb (fun j hj=>by cases hj;exact hr)
theorem UN{i:Nat}(hk:Keeps w bs w' bs')(hb:Stays (some i) bs bs'):∀{l:List SV}{vs:List Value},RepL w bs B l vs->RepL w' bs' B (YU i l) vs
 |_,_,.nil=> .nil
 |_,_,.cons x v l vs h h'=> .cons _ _ _ _ (Yk6 hk hb h) (UN hk hb h')
theorem YaQ{i:Nat}(hk:Keeps w bs w' bs')(hb:Stays (some i) bs bs'):∀{l:List (List SV)}{vs:List (List Value)},RepLL w bs B l vs->RepLL w' bs' B (Nm i l) vs
 |_,_,.nil=> .nil
 |_,_,.cons x v l vs h h'=> .cons _ _ _ _ (UN hk hb h) (YaQ hk hb h')
def UM(i:Nat):HO->HO
 | .box cs=> .box (YU i cs)
 | .own z sz n get=> .own z sz n fun k=>YU i (get k)
 | .smap l=> .smap l
 | .gone=> .gone
theorem Bx(i:Nat):∀(hp:List HO)(j:Nat),Ys (Xl i hp) j=UM i (Ys hp j)
 | [],j=>by cases j <;> rfl
 |h::l,0=>by cases h <;> rfl
 |h::l,j+1=>by cases h <;> simpa [Xl,Ys]using Bx i l j
theorem Lp(i:Nat):∀(hp:List HO),Yi (Xl i hp)=Yi hp
 | []=>rfl
 |h::l=>by cases h <;> simp [Xl,Yi,Lp i l]
theorem CH{i:Nat}{x:BK}{ho:HO}(hH:Hp w bs B hp)(hi:i<Yi hp)(hk:Keeps w bs w' (bs.set i x))(hsz:w.heap.size<=w'.heap.size)
 (hblk:∀j b c n,j≠i->bs[j]? =some (.blk b c n)->w'.heap[b]? =w.heap[b]?)
 (hx:∀b c n,x= .blk b c n->(B<=b/\b<w'.heap.size)/\∀j c' n',j≠i->bs[j]? ≠some (.blk b c' n'))
 (h:HRep w' (bs.set i x) B i ho):Hp w' (bs.set i x) B (KL (Xl i hp) i ho):=by
 have hl:=hH.len
 have hst:Stays (some i) bs (bs.set i x):=fun j y hj hy _=>by rw[List.getElem?_set_ne (fun he=>hj (by rw[he]))];exact hy
 have get_i:(bs.set i x)[i]? =some x:=by rw[List.getElem?_set_self (by omega)]
 have get_j:∀j,j≠i->(bs.set i x)[j]? =bs[j]? :=fun j hj=>List.getElem?_set_ne (fun he=>hj he.symm)
 refine⟨by rw[Hn,Lp];simpa using hl,fun j=>?_,fun j k b c n c' n' h1 h2=>?_,fun j b c n h1=>?_,Vz hk hH.reg⟩
 ·by_cases hij:j=i
  ·subst hij;rw[H9 _ _ _ (by rw[Lp];exact hi)];exact h
  ·rw[WV _ _ _ _ (fun he=>hij he.symm),Bx]
   have hent:=hH.ent j
   cases hg:Ys hp j with
   |gone=>rw[hg]at hent;simpa [UM,HRep,get_j j hij]using hent
   |box cs=>
    rw[hg]at hent
    obtain⟨b,vs,T,h1,h2,h3⟩:=hent
    exact⟨b,vs,T,by rw[get_j j hij];exact h1,by rw[hblk j _ _ _ hij h1];exact h2,UN hk hst h3⟩
   |smap l=>
    rw[hg]at hent
    obtain⟨b,es,c,h1,h2,h3⟩:=hent
    exact⟨b,es,c,by rw[get_j j hij];exact h1,by rw[hblk j _ _ _ hij h1];exact h2,h3⟩
   |own z sz n get=>
    rw[hg]at hent
    rcases hent with⟨h1,h2,h3⟩ | ⟨b,cap,vs,T,h1,h2,h3,h4,h5,h6⟩
    ·exact .inl ⟨by rw[get_j j hij];exact h1,h2,h3⟩
    ·exact .inr ⟨b,cap,vs,T,by rw[get_j j hij];exact h1,h2,by rw[hblk j _ _ _ hij h1];exact h3,h4,h5,fun k hk'=>UN hk hst (h6 k hk')⟩
 ·by_cases hj:j=i <;> by_cases hk':k=i
  ·omega
  ·subst hj
   rw[get_i]at h1;cases h1
   rw[get_j k hk']at h2
   exact absurd h2 ((hx b c n rfl).2 k c' n' hk')
  ·subst hk'
   rw[get_i]at h2;cases h2
   rw[get_j j hj]at h1
   exact absurd h1 ((hx b c' n' rfl).2 j c n hj)
  ·rw[get_j j hj]at h1;rw[get_j k hk']at h2
   exact hH.inj j k b c n c' n' h1 h2
 ·by_cases hj:j=i
  ·subst hj
   rw[get_i]at h1;cases h1
   exact(hx b c n rfl).1
  ·rw[get_j j hj]at h1
   have:=hH.lo j b c n h1
   exact⟨this.1,by omega⟩
theorem Yke(hH:Hp w bs B hp){z:Bool}{size n:Nat}{get:Nat->List SV}(hz:z=true)(hn:n=0):Hp w (bs++[.nil]) B (Qg hp (.own z size n get)):=by
 have hst:∀e,Stays e bs (bs++[.nil]):=fun e=>Qx _ _
 have hk:Keeps w bs w (bs++[.nil]):=by
  intro b hf o ho
  refine⟨ho,fun i b' c m h=>?_⟩
  rw[Wt]at h
  split at h
  ·exact hf i b' c m h
  ·rw[Uo]at h;split at h <;> cases h
 have hget:∀(i b c m:Nat),(bs++[BK.nil])[i]? =some (.blk b c m)->bs[i]? =some (.blk b c m):=by
  intro i b c m h
  rw[Wt]at h
  split at h
  ·exact h
  ·rw[Uo]at h;split at h <;> cases h
 refine⟨by simp [hH.len,Gs],fun i=>?_,fun i j b c m c' m' h1 h2=>hH.inj i j b c m c' m' (hget _ _ _ _ h1) (hget _ _ _ _ h2),fun i b c m h1=>hH.lo i b c m (hget _ _ _ _ h1),Vz hk hH.reg⟩
 rcases Ww i (Yi hp)with hi|hi|hi
 ·rw[Gi _ _ _ hi]
  exact(hH.ent i).keep hk (hst _) (by rw[QY (by rw[hH.len];exact hi)]) (fun _ _ _ _=>rfl)
 ·subst hi;rw[MD];exact .inl ⟨ZQ hH,hz,hn⟩
 ·rw[WU _ _ (by rw[Gs];omega)]
  right
  rw[List.getElem?_eq_none];simp [hH.len];omega
theorem Yiv:Keeps w bs w (bs++[.nil]):=by
 intro b hf o ho
 refine⟨ho,fun i b' c m h=>?_⟩
 rw[Wt]at h
 split at h
 ·exact hf i b' c m h
 ·rw[Uo]at h;split at h <;> cases h
end
end Go.Vx
namespace Go.Vx
open Go.RowKit
section
variable {P:Program} {ρ:Operand->Value} {w w':World} {bs bs':List BK} {B:Bd} {hp:List HO}
theorem CJ{c:Call}{x y:Operand}(h:c.args.toList=[x,y]):c.args.map ρ= #[ρ x,ρ y]:=by
 apply Array.ext';rw[Array.toList_map,h];rfl
theorem Pu{l:List Value}{size:Nat}:∀(n:Nat),Kl (fun k=>(l.drop (k*size)).take size) n=l.take (n*size)
 |0=>by simp [Kl]
 |n+1=>by rw[Kl,Pu n,XT,List.take_add]
theorem DG:Keeps w bs w.drew bs:=Keeps.heap rfl
theorem Yby{f g:Nat->List Value}{size n m:Nat}(hf:∀k,k<n->(f k).length=size)(hg:∀k,k<m->(g k).length=size){rest:List Value}{k:Nat}(hk:k<n+m):
 ((Kl f n++Kl g m++rest).drop (k*size)).take size=if k<n then f k else g (k-n):=by
 have hl1:=VA hf
 have hl2:=VA hg
 by_cases h:k<n
 ·rw[if_pos h]
  have:k*size+size<=n*size:=by rw[<-XT];exact Yp _ h
  rw[List.append_assoc,List.drop_append_of_le_length (by omega),List.take_append_of_le_length (by simp;omega)]
  exact AC hf k h
 ·rw[if_neg h]
  obtain⟨j,rfl⟩:∃j,k=n+j:=⟨k-n,by omega⟩
  have hj:j<m:=by omega
  have:j*size+size<=m*size:=by rw[<-XT];exact Yp _ hj
  rw[List.append_assoc,YM,<-hl1,<-List.drop_drop,List.drop_left,List.drop_append_of_le_length (by omega),List.take_append_of_le_length (by simp;omega),Nat.add_sub_cancel_left]
  exact AC hg j hj
theorem Ynr{f g:Nat->List Value}{size n m nc:Nat}(hf:∀k,k<n->(f k).length=size)(hg:∀k,k<m->(g k).length=size){rest:List Value}(hr:rest.length=(nc-(n+m))*size)(hnc:n+m<=nc):
 (Kl f n++Kl g m++rest).length=nc*size:=by
 simp only[JO,VA hf,VA hg,hr]
 rw[<-YM,<-YM];congr 1;omega
theorem EY{wd:World}{f g:Nat->List Value}{fx gx:Nat->List SV}{size n m nc i:Nat}{el:TypeId}{arr:Array Value}
 (hf:∀k,k<n->(f k).length=size)(hg:∀k,k<m->(g k).length=size){rest:List Value}(hr:rest.length=(nc-(n+m))*size)(hnc:n+m<=nc)
 (harr:arr.toList=Kl f n++Kl g m++rest)(hb:bs'[i]? =some (.blk wd.heap.size nc (n+m)))
 (hfx:∀k,k<n->RepL (World.push wd (.cells arr el (0,0))) bs' B (fx k) (f k))(hgx:∀k,k<m->RepL (World.push wd (.cells arr el (0,0))) bs' B (gx k) (g k))(z:Bool)(hz:z=false):
 HRep (World.push wd (.cells arr el (0,0))) bs' B i (.own z size (n+m) fun k=>if k<n then fx k else gx (k-n)):=by
 refine KK ⟨_,nc,arr,el,hb,hz,Ue,?_,hnc,fun k hk=>?_⟩
 ·rw[<-Um,harr,Ynr hf hg hr hnc]
 ·rw[harr,Yby hf hg hk]
  by_cases h:k<n
  ·simp only[h,if_true];exact hfx k h
  ·simp only[h,if_false];exact hgx (k-n) (by omega)
theorem Yfg{c:Call}{x y:Operand}{t1 t2 el el2:TypeId}{size bytes m:Nat}{z:List SV}{b:SV}{gx:Nat->List SV}
 (hc:c.callee= .builtin .append)(ht1:c.argTypes[0]? =some t1)(ht2:c.argTypes[1]? =some t2)(hu1:P.underlying t1=some (.slice el))(hu2:P.underlying t2=some (.slice el2))
 (hs:sizeOf? P el=some size)(hby:bytesOf? P el=some bytes)(hz:Qq P el=some z)(hzl:z.length=size)(hb0:0<bytes)(hs0:0<size)(hargs:c.args.toList=[x,y])
 (hr:XA hp b=some (m,gx))(hcap:Y8 m bytes)(hl:∀k,k<m->YK (gx k)=size/\Jg (gx k))(ha:ρ x= .slice none 0 0)(hb:Rep w bs B b (ρ y))(hH:Hp w bs B hp)(hB:B<=w.heap.size)(p:Prop):
 MOk P ρ (.call c) w bs B hp ⟨p,.own (Yi hp) 0 m size,.new (.own (decide (m=0)) size m gx)⟩:=by
 have hA:=CJ (ρ:=ρ) hargs
 by_cases hm:m=0
 ·subst hm
  obtain⟨ax,cx,g,hv,_⟩:=Fv (P:=P) hr hs0 hl hb hH
  rw[ha,hv]at hA
  have hrun:=Sc hc ht1 ht2 hu1 hu2 hs hA (w:=w)
  refine⟨_,.slice none 0 0,w,bs++[.nil],hrun,.inl rfl,.ownNil _ _ (ZQ hH),Yke hH (by simp) rfl,Yiv,Qx _ _,Below.refl _ _⟩
 ·have hheap:w.drew.heap=w.heap:=rfl
  have hbel:Below B w w.drew:=(Below.refl B w).drew
  have hgr:∀{ax cx}{arr:Array Value},c.args.map ρ= #[.slice none 0 0,.slice ax m cx]->(Builtin.firstCells size m (.slice ax m cx)).run P w.drew= .ok arr w.drew->_:=
   fun {ax cx arr} h1 h2=>CI (w:=w) (ρ:=ρ) (ty:=t1) (va:=ρ x) (vx:=ρ y) (n:=0) (cap:=0) (a:=none) hc ht1 ht2 hu1 hu2 hs hby hz hzl hb0 hs0 h1 (by simpa using hcap) (by omega) (old:= #[]) (new:=arr) rfl h2
  have hbd:Rep w.drew bs B b (ρ y):=hb.keep DG Stays.refl B3
  generalize w.drew=wd at*
  have hHd:Hp wd bs B hp:=hH.heap_eq hheap
  obtain⟨ax,cx,g,hv,hgl,hgrr,hone,arr,harr,harrl⟩:=Fv (P:=P) hr hs0 hl hbd hHd
  rw[ha,hv]at hA
  rw[hv]at harr
  obtain⟨nc,rest,hnc,hrun,hrest⟩:=hgr hA harr
  rw[KJ]at hnc hrun
  have hkp:=Ud (w:=wd) (bs:=bs) (#[]++arr++rest) el nc m
  have hlast:(bs++[BK.blk wd.heap.size nc m])[Yi hp]? =some (.blk wd.heap.size nc m):=ZQ hH
  have hown:=EY (wd:=wd) (bs':=bs++[.blk wd.heap.size nc m]) (B:=B) (f:=fun _=>[]) (g:=g) (fx:=fun _=>[]) (gx:=gx) (size:=size) (n:=0) (m:=m) (nc:=nc) (i:=Yi hp) (el:=el) (arr:= #[]++arr++rest) (rest:=rest.toList)
   (fun k hk=>by omega) hgl (by simpa using hrest) (by omega) (by simp only[Array.toList_append,harrl];rfl) (by rw[KJ];exact hlast) (fun k hk=>by omega) (fun k hk=>(hgrr k hk).keep hkp (Qx _ _) JA) (decide (m=0)) (by simp [hm])
  simp only[KJ,J8,if_false,Nat.sub_zero]at hown
  refine⟨_,_,_,bs++[.blk wd.heap.size nc m],hrun,.inl rfl,?_,Hq hHd (by rw[hheap];exact hB) hown,?_,Qx _ _,?_⟩
  ·rw[hheap]at hlast
   have:=Rep.own (w:=World.push wd (.cells (#[]++arr++rest) el (0,0))) (B:=B) (Yi hp) 0 m size _ nc m ⟨w.heap.size,0,none⟩ (hheap▸hlast) (by omega) (.inl (by simp [hheap]))
   simpa [hheap]using this
  ·exact fun b hf o ho=>hkp b hf o (by rw[hheap];exact ho)
  ·exact hbel.trans (Vu _ (by rw[hheap];exact hB))
theorem Yfi{c:Call}{x y:Operand}{t1 t2 el el2:TypeId}{size bytes m i n n':Nat}{z:List SV}{b:SV}{gx get:Nat->List SV}{zb:Bool}
 (hc:c.callee= .builtin .append)(ht1:c.argTypes[0]? =some t1)(ht2:c.argTypes[1]? =some t2)(hu1:P.underlying t1=some (.slice el))(hu2:P.underlying t2=some (.slice el2))
 (hs:sizeOf? P el=some size)(hby:bytesOf? P el=some bytes)(hz:Qq P el=some z)(hzl:z.length=size)(hb0:0<bytes)(hs0:0<size)(hargs:c.args.toList=[x,y])
 (hr:XA hp b=some (m,gx))(hcap:Y8 (n+m) bytes)(hl:∀k,k<m->YK (gx k)=size/\Jg (gx k))(ha:Rep w bs B (.own i 0 n size) (ρ x))(hb:Rep w bs B b (ρ y))(hH:Hp w bs B hp)(hB:B<=w.heap.size)
 (hg:Ys hp i= .own zb size n' get)(p:Prop):
 MOk P ρ (.call c) w bs B hp ⟨p,.own i 0 (n+m) size,.app i (.own (zb&&decide (m=0)) size (n+m) fun k=>if k<n then YU i (get k)else YU i (gx (k-n)))⟩:=by
 have hA:=CJ (ρ:=ρ) hargs
 have hent:=hH.ent i
 rw[hg]at hent
 have hi:i<Yi hp:=by
  rcases YY i (Yi hp)with h|h
  ·exact h
  ·rw[WU _ _ h]at hg;cases hg
 have hib:i<bs.length:=by rw[hH.len];exact hi
 have st:∀x,Stays (some i) bs (bs.set i x):=fun x j y hj hy _=>by rw[List.getElem?_set_ne (fun he=>hj (by rw[he]))];exact hy
 have get_i:∀x:BK,(bs.set i x)[i]? =some x:=fun x=>by rw[List.getElem?_set_self hib]
 have set_inv:∀(x:BK)(j b c k:Nat),(bs.set i x)[j]? =some (.blk b c k)->bs[j]? =some (.blk b c k)\/x= .blk b c k:=by
  intro x j b c k h
  by_cases hij:i=j
  ·subst hij;rw[get_i]at h;cases h;exact .inr rfl
  ·rw[List.getElem?_set_ne hij]at h;exact .inl h
 --behind an append that grows
 have grow:∀(wd:World)(f:Nat->List Value)(g:Nat->List Value)(arr rest:Array Value)(old:Array Value)(nc:Nat),wd.heap=w.heap->Below B w wd->(∀k,k<n->(f k).length=size)->(∀k,k<m->(g k).length=size)->
  n+m<=nc->rest.size=(nc-(n+m))*size->old.toList=Kl f n->arr.toList=Kl g m->(∀k,k<n->RepL w bs B (get k) (f k))->(∀k,k<m->RepL w bs B (gx k) (g k))->(zb&&decide (m=0))=false->
  (∀dst type pos after guard,(execOp ρ ⟨dst,.call c,type,pos,after,guard⟩).run P w= .ok (.value (.slice (some ⟨w.heap.size,0,none⟩) (n+m) nc)) (World.push wd (.cells (old++arr++rest) el (0,0))))->
  MOk P ρ (.call c) w bs B hp ⟨p,.own i 0 (n+m) size,.app i (.own (zb&&decide (m=0)) size (n+m) fun k=>if k<n then YU i (get k)else YU i (gx (k-n)))⟩:=by
  intro wd f g arr rest old nc hheap hbel hfl hgl hnc hrest hold harr hfr hgr hzb hrun
  have hkp:Keeps w bs (World.push wd (.cells (old++arr++rest) el (0,0))) (bs.set i (.blk wd.heap.size nc (n+m))):=by
   intro b hf o ho
   have hbs:b<w.heap.size:=(Xr.1 ho).1
   refine⟨Au (by rw[hheap];exact ho),fun j b' c k hj=>?_⟩
   rcases set_inv _ _ _ _ _ hj with h|h
   ·exact hf j b' c k h
   ·cases h;rw[hheap];omega
  have hown:=EY (wd:=wd) (bs':=bs.set i (.blk wd.heap.size nc (n+m))) (B:=B) (f:=f) (g:=g) (fx:=fun k=>YU i (get k)) (gx:=fun k=>YU i (gx k)) (size:=size) (n:=n) (m:=m) (nc:=nc) (i:=i) (el:=el) (arr:=old++arr++rest) (rest:=rest.toList)
   hfl hgl (by simpa using hrest) hnc (by simp [hold,harr]) (get_i _) (fun k hk=>UN hkp (st _) (hfr k hk)) (fun k hk=>UN hkp (st _) (hgr k hk)) (zb&&decide (m=0)) hzb
  have hsz:(World.push wd (.cells (old++arr++rest) el (0,0))).heap.size=w.heap.size+1:=by
   show(wd.heap.push _).size=_
   rw[Array.size_push,hheap]
  refine⟨_,_,_,bs.set i (.blk wd.heap.size nc (n+m)),hrun,.inl rfl,?_,CH hH hi hkp (by omega) ?_ ?_ hown,hkp,st _,hbel.trans (Vu _ (by rw[hheap];exact hB))⟩
  ·have:=Rep.own (w:=World.push wd (.cells (old++arr++rest) el (0,0))) (bs:=bs.set i (.blk wd.heap.size nc (n+m))) (B:=B) i 0 (n+m) size _ nc (n+m) ⟨wd.heap.size,0,none⟩ (get_i _) (by omega) (.inl (by simp))
   rw[hheap]at this⊢
   simpa using this
  ·intro j b c k hj hbj
   have:=(hH.lo j b c k hbj).2
   show(wd.heap.push _)[b]? =_
   rw[Array.getElem?_push,if_neg (by rw[hheap];omega),hheap]
  ·intro b c k hx
   cases hx
   refine⟨⟨by rw[hheap];exact hB,by rw[hsz,hheap];omega⟩,fun j c' n' hj hbj=>?_⟩
   have:=(hH.lo j _ c' n' hbj).2
   rw[hheap]at this;omega
 have hgrowop:∀{a cap ax cx}{old arr:Array Value},cap<n+m->c.args.map ρ= #[.slice a n cap,.slice ax m cx]->(Builtin.firstCells size n (.slice a n cap)).run P w.drew= .ok old w.drew->(Builtin.firstCells size m (.slice ax m cx)).run P w.drew= .ok arr w.drew->_:=
  fun {a cap ax cx old arr} h0 h1 h2 h3=>CI (w:=w) (ρ:=ρ) (ty:=t1) (va:=ρ x) (vx:=ρ y) (n:=n) (cap:=cap) (a:=a) hc ht1 ht2 hu1 hu2 hs hby hz hzl hb0 hs0 h1 hcap h0 (old:=old) (new:=arr) h2 h3
 have hheap:w.drew.heap=w.heap:=rfl
 have hbel:Below B w w.drew:=(Below.refl B w).drew
 have hbd:Rep w.drew bs B b (ρ y):=hb.keep DG Stays.refl B3
 generalize w.drew=wd at*
 have hHd:Hp wd bs B hp:=hH.heap_eq hheap
 obtain⟨ax,cx,g,hv,hgl,hgr,hone,arr,harr,harrl⟩:=Fv (P:=P) hr hs0 hl hbd hHd
 have hgr':∀k,k<m->RepL w bs B (gx k) (g k):=fun k hk=>(hgr k hk).keep (Keeps.heap hheap.symm) Stays.refl JA
 rw[hv]at harr
 generalize hρ:ρ x=v at ha hA
 rw[hv]at hA
 cases ha with
 |x _ _ h=>cases h
 |ownNil _ _ hbs=>
  rcases hent with⟨_,hz1,hn'⟩ | ⟨_,_,_,_,h,_⟩
  case inr=>rw[hbs]at h;cases h
  subst hz1;subst hn'
  by_cases hm:m=0
  ·subst hm
   have hrun:=Sc hc ht1 ht2 hu1 hu2 hs hA (w:=w)
   have hbs':bs.set i .nil=bs:=by
    apply List.ext_getElem?
    intro j
    by_cases hij:i=j
    ·subst hij;rw[get_i,hbs]
    ·rw[List.getElem?_set_ne hij]
   refine⟨_,.slice none 0 0,w,bs,hrun,.inl rfl,.ownNil _ _ hbs,?_,Keeps.refl,Stays.refl,Below.refl _ _⟩
   have h1:HRep w (bs.set i .nil) B i (.own (true&&decide (0=0)) size (0+0) fun k=>if k<0 then YU i (get k)else YU i (gx (k-0))):=KD ⟨get_i _,by simp,rfl⟩
   have:=CH hH hi (by rw[hbs'];exact Keeps.refl) (Yt _) (fun _ _ _ _ _ _=>rfl) (fun _ _ _ h=>by cases h) h1
   rw[hbs']at this
   exact this
  ·have ho:(Builtin.firstCells size 0 (.slice none 0 0)).run P wd= .ok #[] wd:=rfl
   obtain⟨nc,rest,hnc,hrun,hrest⟩:=hgrowop (by omega) hA ho harr
   exact grow wd (fun _=>[]) g arr rest #[] nc hheap hbel (fun k hk=>by omega) hgl hnc hrest rfl harrl (fun k hk=>by omega) hgr' (by simp [hm]) hrun
 |own _ _ _ _ blk cap mm ad hbs hlm had=>
  rcases hent with⟨h,_⟩ | ⟨b',cap',vs,T,h1,h2,h3,h4,h5,h6⟩
  case inl=>rw[hbs]at h;cases h
  rw[hbs]at h1;cases h1
  subst h2
  simp only[Nat.sub_zero,KJ,JP]at hA had hlm
  have hnc:n*size<=cap*size:=Yp _ (by omega)
  have hfl:∀k,k<n->((vs.toList.drop (k*size)).take size).length=size:=by
   intro k hk
   have:k*size+size<=cap*size:=by rw[<-XT];exact Yp _ (by omega)
   simp [h4];omega
  by_cases hfit:n+m<=cap
  ·have had0:ad=⟨blk,0,none⟩:=by
    rcases had with h|h
    ·exact h
    ·omega
   subst had0
   obtain⟨ax',cx',gw,hvw,hglw,hgrw,honew,arrw,harrw,harrlw⟩:=Fv (P:=P) hr hs0 hl hb hH
   rw[hv]at hvw;cases hvw
   rw[hv]at harrw
   have hal:arrw.size=m*size:=by rw[<-Um,harrlw,VA hglw]
   have hle:n*size+m*size<=vs.size:=by rw[h4,<-YM];exact Yp _ hfit
   obtain⟨w',cs',hrun,hwr,hcs⟩:=Yff (P:=P) (ρ:=ρ) (w:=w) (size:=size) hc ht1 ht2 hu1 hu2 hs hA hfit harrw h3 (by rw[hal];simpa using hle) (by rw[harrlw];exact honew)
   rw[KJ]at hcs
   have hkp:Keeps w bs w' (bs.set i (.blk blk cap (n+m))):=by
    intro b0 hf o ho
    have hne:blk≠b0:=hf i blk cap _ hbs
    refine⟨by rw[hwr.other b0 (by omega)];exact ho,fun j b' c k hj=>?_⟩
    rcases set_inv _ _ _ _ _ hj with h|h
    ·exact hf j b' c k h
    ·cases h;exact hne
   have hlen:cs'.size=vs.size:=by
    have:=congrArg List.length hcs
    rw[Yb8 (by simp [hal];exact hle)]at this
    simpa using this
   have helem:∀k,k<n+m->(cs'.toList.drop (k*size)).take size=if k<n then(vs.toList.drop (k*size)).take size else gw (k-n):=by
    intro k hk
    have e:cs'.toList=Kl (fun k=>(vs.toList.drop (k*size)).take size) n++Kl gw m++vs.toList.drop (n*size+m*size):=by
     rw[hcs,Pu,<-harrlw]
     simp [JH,hal]
    rw[e]
    exact Yby hfl hglw hk
   refine⟨_,_,w',bs.set i (.blk blk cap (n+m)),hrun,.inl rfl,?_,CH hH hi hkp (Yx hwr.size.symm) ?_ ?_ (KK ⟨blk,cap,cs',T,get_i _,rfl,hwr.at_,by rw[hlen,h4],hfit,fun k hk=>?_⟩),hkp,st _,hwr.below (hH.lo _ _ _ _ hbs).1⟩
   ·have:=Rep.own (w:=w') (bs:=bs.set i (.blk blk cap (n+m))) (B:=B) i 0 (n+m) size _ cap (n+m) ⟨blk,0,none⟩ (get_i _) (by omega) (.inl (by simp))
    simpa using this
   ·intro j b0 c k hj hbj
    refine hwr.other b0 fun he=>hj ?_
    subst he
    exact hH.inj j i _ _ _ _ _ hbj hbs
   ·intro b0 c k hx
    cases hx
    refine⟨⟨(hH.lo _ _ _ _ hbs).1,by rw[hwr.size];exact(hH.lo _ _ _ _ hbs).2⟩,fun j c' n' hj hbj=>hj (hH.inj j i _ _ _ _ _ hbj hbs)⟩
   ·rw[helem k hk]
    by_cases hkn:k<n
    ·simp only[hkn,if_true];exact UN hkp (st _) (h6 k (by omega))
    ·simp only[hkn,if_false];exact UN hkp (st _) (hgrw (k-n) (by omega))
  ·have had':ad.spot=none/\Cells wd ad.block ad.off (vs.toList.take (n*size)):=by
    rcases had with rfl|hh
    ·exact⟨rfl,vs,T,_,by rw[hheap];exact h3,fun j v hj=>by
      rw[XR]at hj
      split at hj
      ·simpa using hj
      ·cases hj⟩
    ·omega
   have ho:(Builtin.firstCells size n (.slice (some ad) n cap)).run P wd= .ok (vs.toList.take (n*size)).toArray wd:=by
    have:=YbD (P:=P) (w:=wd) had'.1 had'.2
    simp only[Qs,Um,h4,Nat.min_eq_left hnc]at this
    exact this
   obtain⟨nc,rest,hnc',hrun,hrest⟩:=hgrowop (by omega) hA ho harr
   exact grow wd (fun k=>(vs.toList.drop (k*size)).take size) g arr rest _ nc hheap hbel hfl hgl hnc' hrest (by simp [Pu]) harrl (fun k hk=>h6 k (by omega)) hgr' rfl hrun
theorem Yg7{size m c c':Nat}{a:Option Addr}:Builtin.firstCells size m (.slice a m c)=Builtin.firstCells size m (.slice a m c'):=by
 cases a <;> rfl
theorem Yfe{c:Call}{x y:Operand}{t1 t2 el el2:TypeId}{size bytes n m:Nat}{z:List SV}{a b:SV}{gy gx:Nat->List SV}
 (hc:c.callee= .builtin .append)(ht1:c.argTypes[0]? =some t1)(ht2:c.argTypes[1]? =some t2)(hu1:P.underlying t1=some (.slice el))(hu2:P.underlying t2=some (.slice el2))
 (hs:sizeOf? P el=some size)(hby:bytesOf? P el=some bytes)(hz:Qq P el=some z)(hzl:z.length=size)(hb0:0<bytes)(hs0:0<size)(hargs:c.args.toList=[x,y])
 (hry:XA hp a=some (n,gy))(hr:XA hp b=some (m,gx))(hm:0<m)(hcap:Y8 (n+m) bytes)(hly:∀k,k<n->YK (gy k)=size/\Jg (gy k))(hl:∀k,k<m->YK (gx k)=size/\Jg (gx k))
 (ha:Rep w bs B (.cut a) (ρ x))(hb:Rep w bs B b (ρ y))(hH:Hp w bs B hp)(hB:B<=w.heap.size)(p:Prop):
 MOk P ρ (.call c) w bs B hp ⟨p,.own (Yi hp) 0 (n+m) size,.new (.own false size (n+m) fun k=>if k<n then gy k else gx (k-n))⟩:=by
 have hA:=CJ (ρ:=ρ) hargs
 generalize hvx:ρ x=vx at ha hA
 cases ha with
 |x _ _ h=>cases h
 |cut _ aa n' cap' ha=>
 have hheap:w.drew.heap=w.heap:=rfl
 have hbel:Below B w w.drew:=(Below.refl B w).drew
 have hgr:∀{ax cx}{old arr:Array Value},n'=n->c.args.map ρ= #[.slice aa n n,.slice ax m cx]->(Builtin.firstCells size n (.slice aa n n)).run P w.drew= .ok old w.drew->(Builtin.firstCells size m (.slice ax m cx)).run P w.drew= .ok arr w.drew->_:=
  fun {ax cx old arr} _ h1 h2 h3=>CI (w:=w) (ρ:=ρ) (ty:=t1) (va:=ρ x) (vx:=ρ y) (n:=n) (cap:=n) (a:=aa) hc ht1 ht2 hu1 hu2 hs hby hz hzl hb0 hs0 h1 hcap (by omega) (old:=old) (new:=arr) h2 h3
 have had:Rep w.drew bs B a (.slice aa n' cap'):=ha.keep DG Stays.refl B3
 have hbd:Rep w.drew bs B b (ρ y):=hb.keep DG Stays.refl B3
 generalize w.drew=wd at*
 have hHd:Hp wd bs B hp:=hH.heap_eq hheap
 obtain⟨ax,cx,g,hv,hgl,hgrr,hone,arr,harr,harrl⟩:=Fv (P:=P) hr hs0 hl hbd hHd
 obtain⟨ax2,cx2,g2,hv2,hgl2,hgrr2,hone2,arr2,harr2,harrl2⟩:=Fv (P:=P) hry hs0 hly had hHd
 simp only[Value.slice.injEq]at hv2
 obtain⟨rfl,rfl,rfl⟩:=hv2
 rw[hv]at hA
 rw[hv]at harr
 rw[Yg7 (c':=n')]at harr2
 obtain⟨nc,rest,hnc,hrun,hrest⟩:=hgr rfl hA harr2 harr
 have hkp:=Ud (w:=wd) (bs:=bs) (arr2++arr++rest) el nc (n'+m)
 have hlast:(bs++[BK.blk wd.heap.size nc (n'+m)])[Yi hp]? =some (.blk wd.heap.size nc (n'+m)):=ZQ hH
 have hown:=EY (wd:=wd) (bs':=bs++[.blk wd.heap.size nc (n'+m)]) (B:=B) (f:=g2) (g:=g) (fx:=gy) (gx:=gx) (size:=size) (n:=n') (m:=m) (nc:=nc) (i:=Yi hp) (el:=el) (arr:=arr2++arr++rest) (rest:=rest.toList)
  hgl2 hgl (by simpa using hrest) hnc (by simp only[Array.toList_append,harrl,harrl2]) hlast (fun k hk=>(hgrr2 k hk).keep hkp (Qx _ _) JA) (fun k hk=>(hgrr k hk).keep hkp (Qx _ _) JA) false rfl
 refine⟨_,_,_,bs++[.blk wd.heap.size nc (n'+m)],hrun,.inl rfl,?_,Hq hHd (by rw[hheap];exact hB) hown,?_,Qx _ _,?_⟩
 ·rw[hheap]at hlast
  have:=Rep.own (w:=World.push wd (.cells (arr2++arr++rest) el (0,0))) (B:=B) (Yi hp) 0 (n'+m) size _ nc (n'+m) ⟨w.heap.size,0,none⟩ (hheap▸hlast) (by omega) (.inl (by simp [hheap]))
  simpa [hheap]using this
 ·exact fun b hf o ho=>hkp b hf o (by rw[hheap];exact ho)
 ·exact hbel.trans (Vu _ (by rw[hheap];exact hB))
theorem Yfh{c:Call}{x y:Operand}{t1 t2 el el2:TypeId}{size bytes:Nat}{z:List SV}{xs:List SV}{e:Ef}
 (hc:c.callee= .builtin .append)(ht1:c.argTypes[0]? =some t1)(ht2:c.argTypes[1]? =some t2)(hu1:P.underlying t1=some (.slice el))(hu2:P.underlying t2=some (.slice el2))
 (hs:sizeOf? P el=some size)(hby:bytesOf? P el=some bytes)(hz:Qq P el=some z)(hzl:z.length=size)(hb0:0<bytes)(hs0:0<size)(hargs:c.args.toList=[x,y])
 (he:Vj (Yi hp) hp size bytes xs=some e)(hpre:e.pre)(hx:RepL w bs B xs ([x,y].map ρ))(hH:Hp w bs B hp)(hB:B<=w.heap.size):MOk P ρ (.call c) w bs B hp e:=by
 unfold Vj at he
 split at he
 ·rename_i a b
  obtain⟨ha,hb⟩:=two hx
  split at he
  ·obtain⟨⟨m,gx⟩,hr,he⟩:=YE.1 he
   simp only[Xe,Option.some.injEq]at he
   subst he
   exact Yfg hc ht1 ht2 hu1 hu2 hs hby hz hzl hb0 hs0 hargs hr hpre.1 hpre.2 ha.nil_inv hb hH hB _
  ·split at he
   ·rename_i hg
    obtain⟨⟨m,gx⟩,hr,heq⟩:=YQ.1 he
    simp only at heq
    subst heq
    obtain⟨rfl,rfl,hcap,hl⟩:=hpre
    exact Yfi hc ht1 ht2 hu1 hu2 hs hby hz hzl hb0 hs0 hargs hr hcap hl ha hb hH hB hg _
   ·cases he
  ·obtain⟨⟨n,gy⟩,hry,he⟩:=YE.1 he
   obtain⟨⟨m,gx⟩,hr,he⟩:=YE.1 he
   simp only[Xe,Option.some.injEq]at he
   subst he
   exact Yfe hc ht1 ht2 hu1 hu2 hs hby hz hzl hb0 hs0 hargs hry hr hpre.1 hpre.2.1 hpre.2.2.1 hpre.2.2.2 ha hb hH hB _
  ·cases he
 ·cases he
theorem Ybm{zs:List SV}{z:List Value}(h:RepL w bs B zs z):∀n,RepL w bs B (Fy n zs) (Kl (fun _=>z) n)/\(Kl (fun _=>z) n).length=n*z.length
 |0=>⟨.nil,by simp [Kl]⟩
 |n+1=>by
  obtain⟨h1,h2⟩:=Ybm h n
  have e:∀n,Kl (fun _=>z) n++z=z++Kl (fun _=>z) n:=by
   intro n
   induction n with
   |zero=>simp [Kl]
   |succ n ih=>simp only[Kl];rw[<-List.append_assoc,<-ih]
  refine⟨?_,by simp only[Kl,JO,h2];rw[XT]⟩
  simp only[Kl,e,Fy]
  exact h.append h1
theorem YdH(z:Array Value)(h:0<z.size):∀n,((Array.range (n*z.size)).map (fun i=>z[i%z.size]!)).toList=Kl (fun _=>z.toList) n:=by
 intro n
 apply List.ext_getElem?
 intro j
 have hlen:(Kl (fun _=>z.toList) n).length=n*z.size:=VA (fun _ _=>by simp)
 by_cases hj:j<n*z.size
 ·have hm:=Kj j h
  obtain⟨v,hv⟩:∃v,(Kl (fun _=>z.toList) n)[j]? =some v:=⟨(Kl (fun _=>z.toList) n)[j]'(by omega),by simp [hlen,hj]⟩
  obtain⟨_,h2⟩:=Pt h (f:=fun _=>z.toList) (n:=n) (fun _ _=>by simp) j v hv
  rw[hv]
  simp only[Array.toList_map,Array.toList_range,List.getElem?_map,List.getElem?_range hj,Option.map_some]
  rw[<-h2]
  simp [hm]
 ·rw[List.getElem?_eq_none (by simp;omega),List.getElem?_eq_none (by omega)]
theorem YjE{l c:Operand}{t el:TypeId}{size bytes:Nat}{z:List SV}{xs:List SV}{e:Ef}(hu:P.underlying t=some (.slice el))(hs:sizeOf? P el=some size)(hby:bytesOf? P el=some bytes)(hz:Qq P el=some z)
 (hb0:0<bytes)(he:Mt (Yi hp) size bytes z xs=some e)(hpre:e.pre)(hx:RepL w bs B xs ([l,c].map ρ))(hH:Hp w bs B hp)(hB:B<=w.heap.size):MOk P ρ (.makeSlice t l c) w bs B hp e:=by
 unfold Mt at he
 split at he
 ·rename_i k1 n k2 cp
  simp only[Xe,Option.some.injEq]at he
  subst he
  obtain⟨hzl,hs0,hn0,hnc,hcap⟩:=hpre
  obtain⟨h1,h2⟩:=two hx
  have h1:=h1.int_inv;have h2:=h2.int_inv
  obtain⟨zv,hzv,hzr⟩:=Hu (P:=P) (w:=w) (bs:=bs) (B:=B) hz
  have hzs:zv.cells.size=size:=by rw[<-hzl,hzr.length];simp
  unfold bytesOf? at hby
  obtain⟨ti,hti,htb⟩:=YQ.1 hby
  have hcb:cp.toNat<=140737488355328:=by
   have h3:cp.toNat*bytes<=140737488355328:=hcap
   exact Yh (Nat.le_mul_of_pos_right _ hb0) h3
  have hw1:IntKind.i64.wrap n=n:=Yg _ ⟨by omega,by omega⟩
  have hw2:IntKind.i64.wrap cp=cp:=Yg _ ⟨by omega,by omega⟩
  have hbi:(bytes:Int)*cp<=140737488355328:=by
   have h3:cp.toNat*bytes<=140737488355328:=hcap
   have h4:((cp.toNat*bytes:Nat):Int)<=140737488355328:=by generalize cp.toNat*bytes=q at h3⊢;omega
   rw[Qr,K7 (by omega),KM]at h4
   exact h4
  have hrow:=YdH zv.cells (by omega) cp.toNat
  rw[hzs]at hrow
  let row:=(Array.range (cp.toNat*size)).map (fun i=>zv.cells[i%zv.cells.size]!)
  have hrow':row.toList=Kl (fun _=>zv.cells.toList) cp.toNat:=by simp only[row,hzs];exact hrow
  have hrun:(Instr.makeSlice t (.int k1 n) (.int k2 cp)).run P w= .ok (.slice (some ⟨w.heap.size,0,none⟩) n.toNat cp.toNat) (World.push w (.cells row el (0,0))):=by
   subst htb
   have h48:(2:Int)^48=281474976710656:=by decide
   have hcond:¬((decide (cp<0) || decide ((ti.bytes:Int)*cp>2^48) || decide (n<0) || decide (n>cp))=true):=by
    rw[h48]
    simp only[Qj,decide_eq_true_eq]
    omega
   unfold Instr.makeSlice
   by_cases h0:cp.toNat*size=0
   ·have hrow0:row= #[]:=by simp [row,h0]
    simp only[Sem.run_bind,run_underlying hu,Result.andThen_ok,asInt,Uh,Sem.run_pure,typeInfo,run_program,hti,hw1,hw2,hcond,XQ,if_false,run_askRoom,Qy hs,h0,if_true,newRow,run_newObj,hrow0]
    have he0:∀f:Nat->Value,Array.map f (Array.range 0)= #[]:=fun f=>by simp
    rw[he0];rfl
   ·simp only[Sem.run_bind,run_underlying hu,Result.andThen_ok,asInt,Uh,Sem.run_pure,typeInfo,run_program,hti,hw1,hw2,hcond,XQ,if_false,run_askRoom,Qy hs,h0,newRow,run_newObj,hzv]
    rfl
  have hkp:=Ud (w:=w) (bs:=bs) row el cp.toNat n.toNat
  have hlast:(bs++[BK.blk w.heap.size cp.toNat n.toNat])[Yi hp]? =some (.blk w.heap.size cp.toNat n.toNat):=ZQ hH
  have hown:HRep (World.push w (.cells row el (0,0))) (bs++[.blk w.heap.size cp.toNat n.toNat]) B (Yi hp) (.own false size n.toNat fun _=>z):=by
   refine KK ⟨_,_,_,_,hlast,rfl,Ue,?_,by omega,fun k hk=>?_⟩
   ·rw[<-Um,hrow',VA (fun _ _=>by simpa using hzs)]
   ·rw[hrow',AC (f:=fun _=>zv.cells.toList) (n:=cp.toNat) (fun _ _=>by simpa using hzs) k (by omega)]
    exact hzr.keep hkp (Qx _ _) JA
  refine⟨.value (.slice (some ⟨w.heap.size,0,none⟩) n.toNat cp.toNat),_,World.push w (.cells row el (0,0)),bs++[.blk w.heap.size cp.toNat n.toNat],fun dst type pos after guard=>?_,.inl rfl,?_,Hq hH hB hown,hkp,Qx _ _,Vu _ hB⟩
  ·simp only[execOp,h1,h2,Sem.run_bind,hrun,Result.andThen_ok,Sem.run_pure]
  ·have:=Rep.own (w:=World.push w (.cells row el (0,0))) (B:=B) (Yi hp) 0 n.toNat size _ cp.toNat n.toNat ⟨w.heap.size,0,none⟩ hlast (by omega) (.inl (by simp))
   simpa using this
 ·cases he
theorem YfQ{t el:TypeId}{len size:Nat}{parts:Array (Nat×Operand)}{z:List SV}{xs:List SV}{p:Prop}{cs:List SV}(hu:P.underlying t=some (.slice el))(hs:sizeOf? P el=some size)(hz:Qq P el=some z)
 (hlim:len*size<=16777216)(he:Z8 (Fy len z) (parts.toList.map fun p=>(p.1*size,size)) xs=some (p,cs))(hpre:p/\YK z=size/\0<size)(hx:RepL w bs B xs ((parts.toList.map (·.2)).map ρ))
 (hH:Hp w bs B hp) (hB:B<=w.heap.size):
 MOk P ρ (.buildSlice t len parts) w bs B hp ⟨p/\YK z=size/\0<size,.own (Yi hp) 0 len size,.new (.own false size len (Jt size cs))⟩:=by
 obtain⟨hpp,hzl,hs0⟩:=hpre
 obtain⟨zv,hzv,hzr⟩:=Hu (P:=P) (w:=w) (bs:=bs) (B:=B) hz
 have hzs:zv.cells.size=size:=by rw[<-hzl,hzr.length];simp
 have hrow:=YdH zv.cells (by omega) len
 rw[hzs]at hrow
 let row:=(Array.range (len*size)).map (fun i=>(if len*size=0 then(#[]:Array Value)else zv.cells)[i%(if len*size=0 then(#[]:Array Value)else zv.cells).size]!)
 have hrow':row.toList=Kl (fun _=>zv.cells.toList) len:=by
  by_cases h0:len*size=0
  ·have hl0:len=0:=by
    rcases Nat.mul_eq_zero.1 h0 with h|h
    ·exact h
    ·omega
   subst hl0
   simp [row,Kl]
  ·simp only[row,h0,if_false,hzs];exact hrow
 obtain⟨hrr,hrl⟩:=Ybm hzr len
 rw[<-hrow']at hrr
 obtain⟨out,ho,hro⟩:=Bm (ρ:=ρ) (place:=fun i=>some (i*size,size)) (parts:=parts.toList) (cells:=row) he hpp rfl (fun x hx=>rfl) hrr (by rw[List.map_map]at hx;exact hx)
 have hol:out.size=len*size:=by
  have h1:∀{cs:List SV}{pl:List (Nat×Nat)}{xs:List SV}{p:Prop}{r:List SV},Z8 cs pl xs=some (p,r)->YK r=YK cs:=by
   intro cs pl
   induction pl generalizing cs with
   |nil=>intro xs p r h;cases xs <;> simp [Z8]at h;rw[h.2]
   |cons a pl ih=>
    intro xs p r h
    cases xs with
    |nil=>simp [Z8]at h
    |cons x xs=>
     simp only[Z8]at h
     obtain⟨⟨q,r'⟩,hq,heq⟩:=YQ.1 h
     simp only[Prod.mk.injEq]at heq
     rw[<-heq.2,ih hq,Lq]
  have h2:=h1 he
  rw[hro.length,hrr.length,hrow',hrl]at h2
  simp at h2
  rw[h2,hzs]
 have hkp:=Ud (w:=w) (bs:=bs) out el len len
 have hlast:(bs++[BK.blk w.heap.size len len])[Yi hp]? =some (.blk w.heap.size len len):=ZQ hH
 have hown:HRep (World.push w (.cells out el (0,0))) (bs++[.blk w.heap.size len len]) B (Yi hp) (.own false size len (Jt size cs)):=
  KK ⟨_,_,_,_,hlast,rfl,Ue,hol,Yt _,fun k hk=>(Du hro size k).keep hkp (Qx _ _) JA⟩
 refine⟨.value (.slice (some ⟨w.heap.size,0,none⟩) len len),.slice (some ⟨w.heap.size,0,none⟩) len len,World.push w (.cells out el (0,0)),bs++[.blk w.heap.size len len],fun dst type pos after guard=>?_,.inl rfl,?_,Hq hH hB hown,hkp,Qx _ _,Vu _ hB⟩
 ·have ho':Instr.fill (fun i=>some (i*size,size)) row (Array.map (fun x=>(x.fst,ρ x.snd)) parts).toList=some out:=by
   rw[Array.toList_map];exact ho
  have hl2:¬(len*size>2^24):=by
   have:(2:Nat)^24=16777216:=by decide
   rw[this];omega
  by_cases h0:len*size=0
  ·simp only[row,h0,if_true]at ho'
   simp only[execOp,Instr.buildSlice,bind_pure_comp,Sem.run_map,Sem.run_bind,Result.andThen_ok,run_underlying hu,Qy hs,hl2,if_false,h0,if_true,Sem.run_pure,newRow,run_newObj,ho',show¬(0>2^24)by decide]
   rfl
  ·simp only[row,h0,if_false]at ho'
   simp only[execOp,Instr.buildSlice,bind_pure_comp,Sem.run_map,Sem.run_bind,Result.andThen_ok,run_underlying hu,Qy hs,hl2,if_false,h0,Sem.run_pure,newRow,run_newObj,ho',hzv]
   rfl
 ·have:=Rep.own (w:=World.push w (.cells out el (0,0))) (B:=B) (Yi hp) 0 len size _ len len ⟨w.heap.size,0,none⟩ hlast (by omega) (.inl (by simp))
  simpa using this
end
end Go.Vx
namespace Go.Vx
open Go.RowKit
open Go.MapKept (IsKey findNow_spec run_checkKey run_findKey run_keyThatStays run_setObj_map modify_keys)
section
variable {P:Program} {ρ:Operand->Value} {w w':World} {bs bs':List BK} {B:Bd} {hp:List HO}
theorem YbR{t:TypeId}(h:FH P t=true):∃k e,P.underlying t=some (.map k e)/\P.underlying k=some .string:=by
 unfold FH at h
 split at h
 ·rename_i k e hu
  simp only[YS]at h
  refine⟨k,e,hu,?_⟩
  have h1:=h.1
  unfold AZ at h1
  split at h1
  ·assumption
  ·cases h1
 ·cases h
theorem YjN{t:TypeId}{r:Operand}{xs:List SV}{e:Ef}(ht:FH P t=true)(he:eff hp (Yi hp) .mkSet xs=some e)(hx:RepL w bs B xs ([r].map ρ))(hH:Hp w bs B hp)(hB:B<=w.heap.size):
 MOk P ρ (.makeMap t (some r)) w bs B hp e:=by
 simp only[eff]at he
 split at he
 ·rename_i k n
  simp only[Xe,Option.some.injEq]at he
  subst he
  obtain⟨kt,et,hu,hk⟩:=YbR ht
  obtain⟨v,vs,hv,h1,_⟩:=hx.cons_inv
  simp only[KH,Vf,List.cons.injEq]at hv
  obtain⟨hρ,_⟩:=hv
  have h1:=h1.int_inv
  rw[h1]at hρ
  refine⟨.value (.map (some w.heap.size)),_,World.push w (.map #[] 0),bs++[.blk w.heap.size 0 0],fun dst type pos after guard=>?_,.inl rfl,?_,?_,At _ _ _,Qx _ _,Vu _ hB⟩
  ·simp [execOp,Instr.makeMap,hρ,run_underlying hu,asInt,asIntOf,Result.andThen,run_newObj,World.push]
  ·exact .smp _ _ (ZQ hH)
  ·exact OM hH hB ⟨_,_,_,ZQ hH,Ue,[],by simp,rfl,List.nodup_nil⟩
 ·cases he
theorem Yjd{c:Call}{xs:List SV}{e:Ef}{kt et:TypeId}(hc:c.callee= .builtin .len)(ht:c.argTypes[0]?.bind P.underlying=some (.map kt et))
 (he:D4 hp xs=some e)(hx:RepL w bs B xs (c.args.toList.map ρ))(hH:Hp w bs B hp):QOk P ρ (.call c) w bs B e:=by
 unfold D4 at he
 split at he
 ·rename_i i
  obtain⟨v,hv,h1⟩:=Dd hx
  obtain⟨b,hb,rfl⟩:=h1.smp_inv
  have hent:=hH.ent i
  split at he
  ·rename_i l hg
   cases Ko he
   rw[hg]at hent
   obtain⟨b',es,clock,h2,h3,ks,h4,h5,h6⟩:=hent
   rw[hb]at h2;cases h2
   have hl:es.size=l.length:=by
    have:=congrArg List.length h4
    simp only[VN,Um]at this
    rw[this,<-h5,VN]
   obtain⟨t,ht1,hu⟩:=YE.1 ht
   refine⟨rfl,.int .i64 l.length,fun dst type pos after guard=>?_,.x _ _ (.int _ _)⟩
   simp [execOp,resolve,hc,invoke,builtin,Builtin.len_,hv,ht1,run_underlying hu,MapKept.run_getObj_map h3,hl,Result.andThen,goInt]
  ·cases he
 ·cases he
theorem YeW{es:Array MapEntry}{ks:List ByteArray}{s:ByteArray}(h:es.toList.map (·.key)=ks.map .string):∀x∈es.toList,IsKey .string x.key:=by
 intro x hx
 have:x.key∈es.toList.map (·.key):=QM.2 ⟨x,hx,rfl⟩
 rw[h]at this
 obtain⟨y,hy,hy2⟩:=QM.1 this
 rw[<-hy2];exact trivial
theorem YfS{a b:ByteArray}(h:a.data.toList=b.data.toList):a=b:=by
 obtain⟨⟨x⟩⟩:=a
 obtain⟨⟨y⟩⟩:=b
 simp only at h
 rw[h]
theorem YnN{t:TypeId}{m k x:Operand}{xs:List SV}{e:Ef}(ht:FH P t=true)(he:Ba hp xs=some e)(hx:RepL w bs B xs ([m,k,x].map ρ))(hH:Hp w bs B hp)(hB:B<=w.heap.size):
 MOk P ρ (.mapUpdate t m k x) w bs B hp e:=by
 unfold Ba at he
 split at he
 ·rename_i i s
  obtain⟨v1,l1,e1,h1,hx⟩:=hx.cons_inv
  obtain⟨v2,l2,e2,h2,hx⟩:=hx.cons_inv
  obtain⟨v3,l3,e3,h3,hx⟩:=hx.cons_inv
  simp only[KH,Vf,List.cons.injEq]at e1
  obtain⟨r1,rfl⟩:=e1
  simp only[List.cons.injEq]at e2
  obtain⟨r2,rfl⟩:=e2
  simp only[List.cons.injEq]at e3
  obtain⟨r3,rfl⟩:=e3
  obtain⟨b,hb,rfl⟩:=h1.smp_inv
  have h2:=h2.val_inv
  subst h2
  have hent:=hH.ent i
  split at he
  ·rename_i l hg
   cases he
   rw[hg]at hent
   obtain⟨b',es,clock,g1,g2,ks,g3,g4,g5⟩:=hent
   rw[hb]at g1;cases g1
   obtain⟨kt,et,hu,hk⟩:=YbR ht
   have hks:=YeW (s:=s) g3
   have hi:=Lw hH hb
   have hbl:b<w.heap.size:=(Xr.1 g2).1
   have go:∀(es':Array MapEntry)(clock':Nat),(∀dst type pos after guard,(execOp ρ ⟨dst,.mapUpdate t m k x,type,pos,after,guard⟩).run P w= .ok .skip { w with heap:=w.heap.setIfInBounds b (.map es' clock')})->
    (∃ks':List ByteArray,es'.toList.map (·.key)=ks'.map .string/\ks'.map (·.data.toList)=U3 l s.data.toList/\(U3 l s.data.toList).Nodup)->
    MOk P ρ (.mapUpdate t m k x) w bs B hp { pre:=True,val:= .junk,upd:= .set i (.smap (U3 l s.data.toList))}:=by
    intro es' clock' hrun hh
    have hw:Wrote w { w with heap:=w.heap.setIfInBounds b (.map es' clock')} b (.map es' clock'):=
     ⟨rfl,rfl,rfl,by simp,by simp [hbl],fun r hr=>by simp [Ne.symm hr]⟩
    exact⟨.skip,undef,_,bs,hrun,.inr ⟨rfl,rfl⟩,.x _ _ (.junk _),AP hH hw hb hi ⟨b,es',clock',hb,hw.at_,hh⟩,hw.keeps hb,Stays.refl,hw.below (hH.lo _ _ _ _ hb).1⟩
   rcases findNow_spec (k:= .string s) (d:= .string) trivial es.toList 0 hks with⟨f1,f2⟩ | ⟨j,en,f1,f2,f3⟩
   ·refine go (es.push { key:= .string s,val:=ρ x,born:=clock}) (clock+1) (fun dst type pos after guard=>?_) ⟨ks++[s],by simp [g3],?_,?_⟩
    ·simp [execOp,Instr.mapUpdate,r1,r2,run_underlying hu,MapKept.run_getObj_map g2,run_checkKey hk (k:= .string s) trivial,run_findKey hk f1,run_setObj_map _ g2,Result.andThen]
    ·have hn:s.data.toList∉l:=by
      rw[<-g4]
      intro hm
      obtain⟨y,hy,hye⟩:=QM.1 hm
      have:Value.string y∈es.toList.map (·.key):=by rw[g3];exact QM.2 ⟨y,hy,rfl⟩
      obtain⟨z,hz,hze⟩:=QM.1 this
      exact f2 z hz (by rw[hze,YfS hye])
     simp [U3,hn,g4]
    ·unfold U3
     split
     ·exact g5
     ·rename_i hn
      rw[List.nodup_append]
      exact⟨g5,by simp,fun a ha b hb=>by simp at hb;subst hb;intro he;subst he;exact hn ha⟩
   ·have hj:es[j]? =some en:=by simpa using f2
    have hkey:∀e',es[j]? =some e'->({ e' with key:= .string s,val:=ρ x}:MapEntry).key=e'.key:=fun e' he'=>by rw[hj]at he';cases he';exact f3.symm
    have hin:s.data.toList∈l:=by
     have:Value.string s∈es.toList.map (·.key):=QM.2 ⟨en,List.mem_of_getElem? f2,f3⟩
     rw[g3]at this
     obtain⟨y,hy,hye⟩:=QM.1 this
     cases hye
     rw[<-g4];exact QM.2 ⟨_,hy,rfl⟩
    have hadd:U3 l s.data.toList=l:=by simp [U3,hin]
    refine go (es.modify j fun e=>{ e with key:= .string s,val:=ρ x}) clock (fun dst type pos after guard=>?_) ⟨ks,by rw[modify_keys j _ hkey,g3],by rw[hadd,g4],by rw[hadd];exact g5⟩
    simp [execOp,Instr.mapUpdate,r1,r2,run_underlying hu,MapKept.run_getObj_map g2,run_checkKey hk (k:= .string s) trivial,run_findKey hk f1,hj,f3,run_keyThatStays (d:= .string) (k:= .string s) trivial,run_setObj_map _ g2,Result.andThen]
  ·cases he
 ·cases he
end
end Go.Vx
namespace Go.Vx
open Go.RowKit
section
variable {P:Program} {ρ:Operand->Value} {w w':World} {bs bs':List BK} {B:Bd} {hp:List HO}
theorem Ds{g:Bool}{s:Nat}(h:chk g s=true):g=false->s=1:=by
 intro hg;subst hg;simpa [chk]using h
theorem YqW{op:BinOp}{t yt:TypeId}{x y:Operand}{vo:VO}{xs:List SV}{e:Ef}(hv:NP P op t=some vo)(he:eff hp (Yi hp) vo xs=some e)(hpre:e.pre)
 (hx:RepL w bs B xs ([x,y].map ρ)):QOk P ρ (.binOp op t x y yt) w bs B e:=by
 cases op <;> simp only[NP]at hv
 ·split at hv <;> cases hv;exact CM (o:= .add) rfl he hpre hx
 ·split at hv <;> cases hv;exact CM (o:= .sub) rfl he hpre hx
 ·cases hv;exact CM (o:= .mul) rfl he hpre hx
 ·cases hv;exact Th (rem:=false) rfl he hpre hx
 ·cases hv;exact Th (rem:=true) rfl he hpre hx
 ·cases hv;exact Dj (o:= .and) rfl he hpre hx
 ·cases hv;exact Dj (o:= .or) rfl he hpre hx
 ·cases hv;exact Dj (o:= .xor) rfl he hpre hx
 ·cases hv;exact YbW (left:=true) rfl he hpre hx
 ·cases hv;exact YbW (left:=false) rfl he hpre hx
 ·cases hv;exact Dj (o:= .andNot) rfl he hpre hx
 ·split at hv
  ·cases hv;exact HT (o:= .eql) rfl he hpre hx
  ·split at hv
   ·cases hv;exact TJ (neg:=false) rfl ‹_› he hx
   split at hv
   ·cases hv;exact TI (neg:=false) rfl he hx
   ·obtain⟨ks,hk,rfl⟩:=YQ.1 hv
    exact TK (neg:=false) rfl hk he hpre hx
 ·split at hv
  ·cases hv;exact HT (o:= .neq) rfl he hpre hx
  ·split at hv
   ·cases hv;exact TJ (neg:=true) rfl ‹_› he hx
   split at hv
   ·cases hv;exact TI (neg:=true) rfl he hx
   ·obtain⟨ks,hk,rfl⟩:=YQ.1 hv
    exact TK (neg:=true) rfl hk he hpre hx
 ·cases hv;exact HT (o:= .lss) rfl he hpre hx
 ·cases hv;exact HT (o:= .leq) rfl he hpre hx
 ·cases hv;exact HT (o:= .gtr) rfl he hpre hx
 ·cases hv;exact HT (o:= .geq) rfl he hpre hx
theorem TP{t:TypeId}{fs:List Field}(h:Go.Vx.fieldsOf P t=some fs):∃a:Array Field,P.underlying t=some (.struct a)/\a.toList=fs:=by
 unfold Go.Vx.fieldsOf at h
 split at h
 ·cases h;exact⟨_,‹_›,rfl⟩
 ·cases h
theorem YkY{t:TypeId}{pl:List (Nat×Nat)}(h:Nf P t=some pl):(∃a:Array Field,P.underlying t=some (.struct a))\/∃n e s,P.underlying t=some (.array n e)/\sizeOf? P e=some s/\pl=(List.range n).map fun i=>(i*s,s):=by
 unfold Nf at h
 split at h
 ·exact .inl ⟨_,‹_›⟩
 ·rename_i n e hu
  obtain⟨s,hs,rfl⟩:=YQ.1 h
  exact .inr ⟨n,e,s,hu,hs,rfl⟩
 ·cases h
theorem Sp{ty:Array TypeId}{i:Nat}{d:TypeDesc}(h:ty[i]?.bind P.underlying=some d):∃t,ty[i]? =some t/\P.underlying t=some d:=YE.1 h
theorem YeY{c:Call}{f:FuncId}{xs:List SV}{e:Ef}(hcal:c.callee= .value (.func f))(hf:E4 P f=true)(hρf:∀f,ρ (.func f)= .func (.func f) #[] #[]) (he:eff hp (Yi hp) .addc xs=some e) (hpre:e.pre)
 (hx:RepL w bs B xs (c.args.toList.map ρ)):QOk P ρ (.call c) w bs B e:=by
 unfold E4 at hf
 cases hfn:P.funcs[f]? with
 |none=>rw[hfn]at hf;cases hf
 |some fn=>
  rw[hfn]at hf
  simp only[YS,beq_iff_eq]at hf
  obtain⟨⟨hb,hn⟩,ho⟩:=hf
  simp only[eff]at he
  unfold Es at he
  split at he
  ·rename_i x y z
   cases Ko he
   obtain⟨h1,h2,h3,h4⟩:=hpre
   obtain⟨v1,l1,e1,g1,hx⟩:=hx.cons_inv
   obtain⟨v2,l2,e2,g2,hx⟩:=hx.cons_inv
   obtain⟨v3,l3,e3,g3,hx⟩:=hx.cons_inv
   cases hx.nil_inv
   cases g1.int_inv;cases g2.int_inv;cases g3.int_inv
   have hrun:(callFunc f #[.int .u64 x,.int .u64 y,.int .u64 z]).run P w= .ok (.value (.tuple #[.int .u64 ((x+y+z)%18446744073709551616),.int .u64 ((x+y+z)/18446744073709551616)])) w:=by
    have hne:(fn.name== "runtime.NumGoroutine")=false:=by rw[hn];decide
    have hnx:Extern.findNext fn=none:=by
     unfold Extern.findNext
     simp only[hn,ho]
     rfl
    have hfi:Extern.find fn=some add64Entry:=by
     unfold Extern.find
     simp only[hn,ho]
     rfl
    rw[run_callFunc_extern hfn hne hb hnx hfi,run_add64 x y z h1 h2 h3 h4]
    rfl
   refine⟨rfl,.tuple #[.int .u64 ((x+y+z)%18446744073709551616),.int .u64 ((x+y+z)/18446744073709551616)],fun dst type pos after guard=>?_,?_⟩
   ·have e0: #[]++c.args.map ρ++ #[]= #[.int .u64 x,.int .u64 y,.int .u64 z]:=by
     apply Array.ext'
     simp [e1,e2,e3]
    simp only[execOp,resolve,hcal,hρf,Deferred.ofValue,Sem.run_bind,Sem.run_pure,Result.andThen_ok,invoke,e0,hrun]
   ·exact .x _ _ (.tup _ _ (.cons _ _ _ _ (.int _ _) (.cons _ _ _ _ (.int _ _) .nil)))
  ·cases he
set_option maxHeartbeats 1000000 in
theorem NQ{o:Oper}{vo:VO}{ops:List Operand}{xs:List SV}{e:Ef}(hv:vop P o=some (vo,ops))(he:eff hp (Yi hp) vo xs=some e)(hpre:e.pre)
 (hx:RepL w bs B xs (ops.map ρ))(hρ:∀v,ρ (.const v)=v)(hρf:∀f,ρ (.func f)= .func (.func f) #[] #[]) (hH:Hp w bs B hp) (hB:B<=w.heap.size):MOk P ρ o.op w bs B hp e:=by
 obtain⟨dst,op,type,pos,after,guard⟩:=o
 unfold vop at hv
 simp only at hv
 split at hv
 ·cases hv;exact(OB (.inl rfl) he hx).mok hH
 ·cases hv;exact(OB (.inr rfl) he hx).mok hH
 ·cases hv;exact(Ykf he hx).mok hH
 ·split at hv
  ·obtain⟨kk,_,hv⟩:=YQ.1 hv
   cases hv;simp [eff]at he
  ·split at hv <;> cases hv
   exact YjN ‹_› he hx hH hB
 ·split at hv
  ·cases hv;exact YnN ‹_› he hx hH hB
  ·obtain⟨kk,_,hv⟩:=YQ.1 hv
   cases hv;simp [eff]at he
 ·obtain⟨kk,_,hv⟩:=YQ.1 hv
  cases hv;simp [eff]at he
 ·cases hv;exact(SA (.inl ⟨rfl,rfl⟩) hρ he hpre hx).mok hH
 ·cases hv;exact(SA (.inr ⟨rfl,rfl⟩) hρ he hpre hx).mok hH
 ·split at hv
  ·obtain⟨z,hz,hv⟩:=YE.1 hv
   obtain⟨s,hs,hv⟩:=YQ.1 hv
   cases hv
   simp only[eff,Xe,Option.some.injEq]at he
   subst he
   exact Ye0 (t:=0) hz hpre hH hB
  ·obtain⟨z,hz,hv⟩:=YQ.1 hv
   cases hv
   simp only[eff,Xe,Option.some.injEq]at he
   subst he
   exact Ye1 hz hH hB
 ·cases hv;exact YfO he hpre hx hH hB
 ·rename_i t parts
  obtain⟨z,hz,hv⟩:=YE.1 hv
  obtain⟨pl,hpl,hv⟩:=YE.1 hv
  split at hv
  ·rename_i hall
   cases hv
   simp only[eff]at he
   obtain⟨⟨p,cs⟩,hb,he⟩:=YE.1 he
   cases Ko he
   have hin:∀x∈parts.toList,x.1<pl.length:=fun x hx=>by have:=VJ.1 hall x hx;simpa using this
   rcases YkY hpl with⟨fs,hu⟩ | ⟨n,e,s,hu,hs,rfl⟩
   ·exact(YfR hz hu hpl hin hb hpre hx).mok hH
   ·exact(YfP hz hu hs hin hb hpre hx).mok hH
  ·cases hv
 ·obtain⟨g,hg,hv⟩:=YE.1 hv
  obtain⟨s,hs,hv⟩:=YE.1 hv
  split at hv <;> cases hv
  exact(Oi hg hs (Ds ‹_›) he hpre hx hH).mok hH
 ·obtain⟨s,hs,hv⟩:=YQ.1 hv
  cases hv
  exact Yop hs he hpre hx hH
 ·split at hv <;> cases hv
  exact(OO (neg:=false) rfl ‹_› he hρ hx hH).mok hH
 ·split at hv <;> cases hv
  exact(OO (neg:=true) rfl ‹_› he hρ hx hH).mok hH
 ·obtain⟨v,hb,hv⟩:=YQ.1 hv
  cases hv
  exact(YqW hb he hpre hx).mok hH
 ·cases hv;exact(Ykm he hx).mok hH
 ·cases hv;exact(Ykd he hx).mok hH
 ·split at hv
  ·cases hv
   rename_i h1 h2
   exact(Yf8 (by rw[h1];rfl) h2 he hx).mok hH
  ·cases hv
 ·obtain⟨fs,hfs,hv⟩:=YE.1 hv
  obtain⟨fd,hfd,hv⟩:=YE.1 hv
  obtain⟨z,hz,hv⟩:=YE.1 hv
  split at hv <;> cases hv
  obtain⟨a,hu,rfl⟩:=TP hfs
  exact(Yg3 hu (by simpa using hfd) hz ‹_› he hx).mok hH
 ·obtain⟨fs,hfs,hv⟩:=YE.1 hv
  obtain⟨fd,hfd,hv⟩:=YE.1 hv
  obtain⟨z,hz,hv⟩:=YE.1 hv
  obtain⟨g,hg,hv⟩:=YE.1 hv
  split at hv <;> cases hv
  obtain⟨a,hu,rfl⟩:=TP hfs
  exact(Yg4 hu (by simpa using hfd) hg hz (Ds ‹_›) he hpre hx).mok hH
 ·split at hv
  ·obtain⟨s,hs,hv⟩:=YQ.1 hv
   cases hv
   exact(YhF ‹_› hs he hpre hx hH).mok hH
  ·obtain⟨s,hs,hv⟩:=YQ.1 hv
   cases hv
   exact(YhG ‹_› hs he hpre hx hH).mok hH
  ·cases hv
 ·split at hv
  ·obtain⟨s,hs,hv⟩:=YE.1 hv
   obtain⟨g,hg,hv⟩:=YE.1 hv
   split at hv <;> cases hv
   exact(YhW ‹_› hg hs (Ds ‹_›) he hpre hx).mok hH
  ·cases hv;exact(YhT ‹_› he hpre hx).mok hH
  ·cases hv
 ·split at hv
  ·obtain⟨s,hs,hv⟩:=YQ.1 hv
   cases hv
   exact(Yn0 ‹_› hs he hpre hx hH).mok hH
  ·obtain⟨s,hs,hv⟩:=YQ.1 hv
   cases hv
   exact(YnZ ‹_› hs he hpre hx hH).mok hH
  ·cases hv
 ·split at hv
  ·obtain⟨s,hs,hv⟩:=YQ.1 hv
   cases hv
   exact(YnY ‹_› hs he hpre hx hH).mok hH
  ·cases hv
 ·split at hv
  ·obtain⟨s,hs,hv⟩:=YE.1 hv
   obtain⟨b,hb,hv⟩:=YE.1 hv
   obtain⟨z,hz,hv⟩:=YE.1 hv
   split at hv <;> cases hv
   exact YjE ‹_› hs hb hz (And.left ‹0<b/\0<s›) he hpre hx hH hB
  ·cases hv
 ·split at hv
  ·obtain⟨s,hs,hv⟩:=YE.1 hv
   obtain⟨z,hz,hv⟩:=YE.1 hv
   split at hv <;> cases hv
   simp only[eff]at he
   obtain⟨⟨p,cs⟩,hb,he⟩:=YE.1 he
   simp only[Xe,Option.some.injEq]at he
   subst he
   exact YfQ ‹_› hs hz ‹_› hb hpre hx hH hB
  ·cases hv
 ·cases hv
  simp only[eff]at he
  cases Ko he
  exact(YjO hx).mok hH
 ·split at hv
  ·cases hv
  ·rename_i tt hni hu
   cases hv;exact(YhU (YhV hu hni) he hx).mok hH
  ·cases hv
 ·cases hv;exact(YgU he hpre hx).mok hH
 ·rename_i c
  split at hv
  ·split at hv
   ·cases hv;exact(YeY (by assumption) (by assumption) hρf he hpre hx).mok hH
   ·cases hv;simp [eff]at he
  ·cases hv;simp [eff]at he
  ·cases hv;simp [eff]at he
  ·split at hv
   ·cases hv;exact(Yjf ‹_› ‹_› he hx).mok hH
   ·cases hv;exact(Yje ‹_› ‹_› he hx).mok hH
   ·cases hv;exact(Yi9 ‹_› ‹_› he hx).mok hH
   ·cases hv;exact(Yjd ‹_› ‹_› he hx hH).mok hH
   ·cases hv
  ·cases hv;exact(Oy (mx:=false) ‹_› he hx).mok hH
  ·cases hv;exact(Oy (mx:=true) ‹_› he hx).mok hH
  ·rename_i hc
   split at hv
   ·rename_i h1 h2
    obtain⟨s,hs,hv⟩:=YE.1 hv
    obtain⟨b,hb,hv⟩:=YE.1 hv
    obtain⟨z,hz,hv⟩:=YE.1 hv
    split at hv <;> cases hv
    have hcond:0<b/\0<s/\z.length=s:=‹_›
    obtain⟨t1,ht1,hu1⟩:=Sp h1
    obtain⟨t2,ht2,hu2⟩:=Sp h2
    simp only[eff]at he
    have hxl:∃x y,c.args.toList=[x,y]:=by
     have hl:=hx.length
     unfold Vj at he
     split at he
     ·simp only[YK,VN]at hl
      match hh:c.args.toList with
      | [x,y]=>exact⟨x,y,rfl⟩
      | []=>rw[hh]at hl;simp at hl
      | [_]=>rw[hh]at hl;simp at hl
      |_::_::_::_=>rw[hh]at hl;simp at hl
     ·cases he
    obtain⟨x,y,hxy⟩:=hxl
    rw[hxy]at hx
    exact Yfh hc ht1 ht2 hu1 hu2 hs hb hz hcond.2.2 hcond.1 hcond.2.1 hxy he hpre hx hH hB
   ·cases hv
  ·cases hv
 ·cases hv
end
end Go.Vx
namespace Go.Vx
open Go.RowKit
def CSat:CRes->(SV->List HO->Prop)->Prop
 | .fin r hs,k=>k r hs
 | .pre p c,k=>p/\CSat c k
 | .imp p c,k=>p->CSat c k
 | .all α c,k=> ∀x:α,CSat (c x) k
 | .ex α c,k=> ∃x:α,CSat (c x) k
theorem CSat.mono{c:CRes}{k k':SV->List HO->Prop}(h:CSat c k)(hk:∀r hs,k r hs->k' r hs):CSat c k':=by
 induction c with
 |fin r hs=>exact hk _ _ h
 |pre p c ih=>exact⟨h.1,ih h.2⟩
 |imp p c ih=>exact fun hp=>ih (h hp)
 |all α c ih=>exact fun x=>ih x (h x)
 |ex α c ih=>exact let⟨x,hx⟩:=h;⟨x,ih x hx⟩
mutual
def Y3:SV->Prop
 | .agg cs=>Y5 cs
 | .tup cs=>Y5 cs
 | .vs t _ n _ get=>t=true/\∀k,k<n->Y5 (get k)
 | .xp t cs=>t=true/\Y5 cs
 | .fn _ a b=>Y5 a/\Y5 b
 | .iface _ v=>Y3 v
 | .opt _ v=>Y3 v
 | .cut v=>Y3 v
 |_=>True
def Y5:List SV->Prop
 | []=>True
 |x::l=>Y3 x/\Y5 l
end
def Xf:List HO->Prop
 | []=>True
 | .box cs::l=>Y5 cs/\Xf l
 | .own _ _ n get::l=>(∀k,k<n->Y5 (get k))/\Xf l
 | .smap _::l=>Xf l
 | .gone::l=>Xf l
def MF(l:List Int):List Value:=l.map fun v=> .int .i64 v
def UZ(P:Program)(c:Cx0):Prop:=∀g l,BA P g=some l->g<c.heap.size/\c.F g/\Cells c.toWorld g 0 (MF l)
def GlW(P:Program)(w:World)(bs:List BK)(B:Bd):Prop:=∀g l,BA P g=some l->Fr B bs g/\Cells w g 0 (MF l)
theorem VB{P:Program}{c:Cx0}{J:Nat->Option IK}{hJ:Ext c J}{w:World}{bs:List BK}{hp:List HO}(h:UZ P c)(hb:BelowI (c.wI J hJ).bd c.toWorld w)(hH:Hp w bs (c.wI J hJ).bd hp):GlW P w bs (c.wI J hJ).bd:=by
 intro g l hg
 obtain⟨h1,h2,cs,T,fz,h3,h4⟩:=h g l hg
 refine⟨⟨fun i b' c' n hi he=>?_,h2,(hJ.old g h1).trans (c.ex g h2)⟩,cs,T,fz,(hb.block g h1 ((hJ.old g h1).trans (c.ex g h2))).trans h3,h4⟩
 have:=(hH.lo i b' c' n hi).1
 have h5:c.heap.size<=b':=this
 omega
theorem AH{P:Program}{w:World}{bs:List BK}{B:Bd}{z:Cx0}(h:GlW P w bs B)(hw:z.toWorld=w)(hF:∀b,Fr B bs b->z.F b):UZ P z:=by
 intro g l hg
 obtain⟨h1,cs,T,fz,h3,h4⟩:=h g l hg
 subst hw
 exact⟨(Xr.1 h3).1,hF g h1,cs,T,fz,h3,h4⟩
def Sat(P:Program)(c:Cx0):Prop:=(∀(b:Nat)(K:IK),c.I b=some K->∃o,c.heap[b]? =some o/\K.ok o)/\UZ P c
def Ctr.ok(P:Program)(f:FuncId)(c:Ctr):Prop:=
 ∀(args:List SV)(vs:List Value)(z:Cx0)(k:SV->List HO->Prop),Sat P z->XRepL z.toWorld [] z.bd args vs->CSat (c.of args) k->
  Calls P f vs.toArray z.toWorld fun e w'=> ∃r hs v bs,∃J,∃hJ:Ext z J,k r hs/\e= .returned v/\Rep w' bs (z.wI J hJ).bd r v/\Hp w' bs (z.wI J hJ).bd hs/\BelowI z.bd z.toWorld w'/\(c.alias=false->Y3 r/\Xf hs)
def Ur(P:Program)(f:FuncId):Prop:=∃fn,P.funcs[f]? =some fn/\(fn.name== "runtime.NumGoroutine")=false/\fn.body.isNone=false
structure YD (P:Program) (E:Env):Prop where
 ct:∀f c,E.ct f=some c->c.ok P f/\Ur P f
 fn:∀f vf,E.fn f=some vf->∃fn,P.funcs[f]? =some fn/\Yn P fn=some vf/\Ur P f
 meth:∀t m f,E.meth t m=some f->MV P t m=some f
 mix:P.follows .mixedOrders=true
 lo:∀f,E.lo f=true->Qd P f=true
section
variable {P:Program} {w w':World} {bs bs':List BK} {B:Bd} {hp:List HO}
theorem AD{f:FuncId}{args:Array Value}(h:Ur P f):(callFunc f args).run P w= .ok (.enter f args) w:=by
 obtain⟨fn,h1,h2,h3⟩:=h
 simp only[callFunc,Sem.run_bind,run_program,Result.andThen_ok,h1,h2,h3,XQ,if_false,Sem.run_pure]
theorem YnB{t:TypeId}{m:String}{f:FuncId}(h:MV P t m=some f)(n:Nat)(v:Value):(method (n+1) t v m).run P w= .ok (f,v) w:=by
 unfold MV at h
 obtain⟨ti,h1,h⟩:=YE.1 h
 obtain⟨r,h2,h⟩:=YE.1 h
 split at h
 ·rename_i hp
  have hp':r.path.toList=[]:=by simpa using hp
  split at h
  ·rename_i g hg
   split at h
   ·cases h
   ·rename_i d hnp hd
    cases h
    simp only[method,Sem.run_bind,run_typeInfo w h1,Result.andThen_ok,h2,hp',follow,Sem.run_pure,hg,receiverAt,run_underlying hd]
    cases d <;> first|rfl| (exact absurd rfl (hnp _))
   ·cases h
  ·cases h
 ·cases h
theorem Ynw{t:TypeId}{m:String}{f:FuncId}(h:MV P t m=some f)(hen:Ur P f)(v:Value)(args:Array Value):(callMethod (.iface t v) m args).run P w= .ok (.enter f (#[v]++args)) w:=by
 have hdep:0<Made.depth:=by decide
 obtain⟨k,hk⟩:∃k,P.types.size+Made.depth=k+1:=⟨P.types.size+Made.depth-1,by omega⟩
 simp only[callMethod,Sem.run_bind,run_program,Result.andThen_ok,hk,YnB h,AD hen]
mutual
theorem Rr{t0:Bool}{B2:Bd}{r:List SV->List SV}(ht0:t0=true->B2.n<=B.n)(hF:∀b,Fr B bs b->B2.F b)(hI:∀b K,B.I b=some K->B2.I b=some K):∀{s:SV}{v:Value},XRep w bs B s v->XRep w [] B2 (JX t0 hp r s) v
 |_,_,.int k n=> .int k n
 |_,_,.bool b=> .bool b
 |_,_,.val v=> .val v
 |_,_,.nil=> .nil
 |_,_,.junk v=> .junk v
 |_,_,.agg cs vs h=> .agg _ vs (GZ ht0 hF hI h)
 |_,_,.tup cs vs h=> .tup _ vs (GZ ht0 hF hI h)
 |_,_,.fn f fs cs us vs h h'=> .fn f _ _ us vs (GZ ht0 hF hI h) (GZ ht0 hF hI h')
 |_,_,.iface t x v h=> .iface t _ v (Rr ht0 hF hI h)
 |_,_,.vs t z n size get a cap vals hz hc hn hcell h=> .vs (G6 t0 t) z n size _ a cap vals hz hc hn
   (fun k hk=>by
     obtain⟨ad,h1,h2,h3,h4,h5,h6⟩:=hcell k hk
     exact⟨ad,h1,h2,⟨V4,hF _ h3⟩,(fun h=>by cases t0 <;> simp [G6]at h;exact Yh (ht0 rfl) (h4 h)),h5,h6⟩)
   (fun k hk=>GZ ht0 hF hI (h k hk))
 |_,_,.xp t cs ad vals hs hf ht hc h=> .xp (G6 t0 t) _ ad vals hs ⟨V4,hF _ hf⟩ (fun h=>by cases t0 <;> simp [G6]at h;exact Yh (ht0 rfl) (ht h)) hc (GZ ht0 hF hI h)
 |_,_,.row n C b cap h hc=> .row n C b cap (hI _ _ h) hc
 |_,_,.rcell D n C k b hD h hk=> .rcell D n C k b hD (hI _ _ h) hk
 |_,_,.imap kk C b h=> .imap kk C b (hI _ _ h)
theorem GZ{t0:Bool}{B2:Bd}{r:List SV->List SV}(ht0:t0=true->B2.n<=B.n)(hF:∀b,Fr B bs b->B2.F b)(hI:∀b K,B.I b=some K->B2.I b=some K):∀{l:List SV}{vs:List Value},XRepL w bs B l vs->XRepL w [] B2 (Jw t0 hp r l) vs
 |_,_,.nil=> .nil
 |_,_,.cons x v l vs h h'=> .cons _ v _ vs (Rr ht0 hF hI h) (GZ ht0 hF hI h')
end
structure HpV (w:World) (bs:List BK) (B:Bd) (hp:List HO):Prop where
 ent:∀(i:Nat)(x:BK),bs[i]? =some x->x≠ .gone->HRep w bs B i (Ys hp i)
 le:∀(i b cap m:Nat),bs[i]? =some (.blk b cap m)->m<=cap
 lo:∀(i b c n:Nat),bs[i]? =some (.blk b c n)->B<=b/\b<w.heap.size
 un:∀(i b c n:Nat),bs[i]? =some (.blk b c n)->B.I b=none
theorem Hp.v(h:Hp w bs B hp):HpV w bs B hp:=⟨fun i _ _ _=>h.ent i,fun _ _ _ _ hb=>h.le hb,h.lo,fun _ _ _ _ hb=>h.un hb⟩
structure Vw (t0:Bool) (B B2:Bd) (bs:List BK):Prop where
 t:t0=true->B2.n<=B.n
 f:∀b,Fr B bs b->B2.F b
 o:∀(i b c n:Nat),bs[i]? =some (.blk b c n)->B2.F b
 i:∀b K,B.I b=some K->B2.I b=some K
mutual
theorem Rj{t0:Bool}{B2:Bd}{r:List SV->List SV}(ht0:Vw t0 B B2 bs)(hH:HpV w bs B hp)(hr:∀l vs,RepL w bs B l vs->XRepL w [] B2 (r l) vs):∀{s:SV}{v:Value},Rep w bs B s v->XRep w [] B2 (JX t0 hp r s) v
 |_,_,.x s v h=>Rr ht0.t ht0.f ht0.i h
 |_,_,.agg cs vs h=> .agg _ vs (FP ht0 hH hr h)
 |_,_,.tup cs vs h=> .tup _ vs (FP ht0 hH hr h)
 |_,_,.fn f fs cs us vs h h'=> .fn f _ _ us vs (FP ht0 hH hr h) (FP ht0 hH hr h')
 |_,_,.iface t x v h=> .iface t _ v (Rj ht0 hH hr h)
 |_,_,.ptr i off b n hb=>by
  have hent:=hH.ent i _ hb (by simp)
  unfold JX
  split
  ·rename_i cs hg
   rw[hg]at hent
   obtain⟨b',vs,T,h1,h2,h3⟩:=hent
   rw[hb]at h1;cases h1
   exact .xp t0 _ ⟨b,off,none⟩ (vs.toList.drop off) rfl ⟨V4,ht0.o _ _ _ _ hb⟩ (fun h=>Yh (ht0.t h) (hH.lo _ _ _ _ hb).1) ⟨vs,T,_,h2,fun j v hj=>by simpa using hj⟩ (hr _ _ (h3.drop off))
  ·exact .junk _
 |_,_,.own i lo n size b cap m ad hb hl ha=>by
  have hent:=hH.ent i _ hb (by simp)
  have hm:=hH.le _ _ _ _ hb
  unfold JX
  split
  ·rename_i z sz' m' get hg
   rw[hg]at hent
   rcases hent with⟨h,_⟩ | ⟨b',cap',vs,T,h1,h2,h3,h4,h5,h6⟩
   ·rw[hb]at h;cases h
   rw[hb]at h1;cases h1
   cases hbq:YJ size sz' with
   |false=>exact .junk _
   |true=>
   have:=Jy hbq
   subst this
   refine .vs t0 z n size _ (some ad) (cap-lo) (fun k=>(vs.toList.drop ((lo+k)*size)).take size) (by rw[h2];rfl) (by omega) (fun h=>by cases h) (fun k hk=>?_) (fun k hk=>?_)
   ·have had:ad=⟨b,lo*size,none⟩:=by
     rcases ha with ha|ha
     ·exact ha
     ·omega
    subst had
    refine⟨_,rfl,rfl,⟨V4,ht0.o _ _ _ _ hb⟩,(fun h=>Yh (ht0.t h) (hH.lo _ _ _ _ hb).1),?_,vs,T,_,h3,fun j v hj=>?_⟩
    ·have:(lo+k)*size+size<=cap*size:=by rw[<-XT];exact Yp _ (by omega)
     simp [h4];omega
    ·rw[XR]at hj
     split at hj
     ·rw[Wu]at hj
      simp only[<-YM]
      simpa using hj
     ·cases hj
   ·rw[HI];exact hr _ _ (h6 (lo+k) (by omega))
  ·exact .junk _
 |_,_,.ownNil i size hb=>by
  have hent:=hH.ent i _ hb (by simp)
  unfold JX
  split
  ·rename_i z sz' m' get hg
   rw[hg]at hent
   rcases hent with⟨_,hz,_⟩ | ⟨_,_,_,_,h,_⟩
   ·cases hbq:YJ size sz' with
    |false=>exact .junk _
    |true=>exact .vs t0 z 0 size _ none 0 (fun _=>[]) (by rw[hz];rfl) (Yt _) (fun _=>⟨rfl,rfl⟩) (fun k hk=>by omega) (fun k hk=>by omega)
   ·rw[hb]at h;cases h
  ·exact .junk _
 |_,_,.elem i k off size b cap m hb hkm=>by
  have hent:=hH.ent i _ hb (by simp)
  unfold JX
  split
  ·rename_i z sz' m' get hg
   rw[hg]at hent
   cases hbq:YJ size sz' with
   |false=>exact .junk _
   |true=>
   have:=Jy hbq
   subst this
   rcases hent with⟨h,_⟩ | ⟨b',cap',vs,T,h1,h2,h3,h4,h5,h6⟩
   ·rw[hb]at h;cases h
   rw[hb]at h1;cases h1
   refine .xp t0 _ ⟨b,k*size+off,none⟩ (((vs.toList.drop (k*size)).take size).drop off) rfl ⟨V4,ht0.o _ _ _ _ hb⟩ (fun h=>Yh (ht0.t h) (hH.lo _ _ _ _ hb).1) ⟨vs,T,_,h3,fun j v hj=>?_⟩ (hr _ _ ((h6 k hkm).drop off))
   rw[Wu,XR]at hj
   split at hj
   ·rw[Wu]at hj
    simp only[Zk]
    simpa using hj
   ·cases hj
  ·exact .junk _
 |_,_,.smp i b h=> .junk _
 |_,_,.optT x v h=> .junk _
 |_,_,.optF x=> .junk _
 |_,_,.cut .. => .junk _
theorem FP{t0:Bool}{B2:Bd}{r:List SV->List SV}(ht0:Vw t0 B B2 bs)(hH:HpV w bs B hp)(hr:∀l vs,RepL w bs B l vs->XRepL w [] B2 (r l) vs):∀{l:List SV}{vs:List Value},RepL w bs B l vs->XRepL w [] B2 (Jw t0 hp r l) vs
 |_,_,.nil=> .nil
 |_,_,.cons x v l vs h h'=> .cons _ v _ vs (Rj ht0 hH hr h) (FP ht0 hH hr h')
end
theorem E8{B2:Bd}:∀{l:List SV}{vs:List Value},RepL w bs B l vs->XRepL w bs' B2 (MP l) vs
 |_,_,.nil=> .nil
 |_,_,.cons x v l vs h h'=> .cons _ v _ vs (.junk _) (E8 h')
theorem Ri{t0:Bool}{B2:Bd}(ht0:Vw t0 B B2 bs)(hH:HpV w bs B hp):∀(n:Nat){l:List SV}{vs:List Value},RepL w bs B l vs->XRepL w [] B2 (viewN t0 hp n l) vs
 |0,_,_,h=>E8 h
 |n+1,_,_,h=>FP ht0 hH (fun _ _ h=>Ri ht0 hH n h) h
theorem YqY{B2:Bd}(hv:Vw false B B2 bs)(hH:HpV w bs B hp)(n:Nat){l:List SV}{vs:List Value}(h:RepL w bs B l vs):XRepL w [] B2 (viewN false hp n l) vs:=Ri hv hH n h
theorem YgT(hH:Hp w bs B hp){r:SV}{v:Value}(h:Rep w bs B r v):XRep w [] B (JT hp r) v:=
 have hv:Vw true B B bs:=⟨fun _=>Yt _,fun _ h=>h.2,fun _ _ _ _ h=>B.up _ (hH.lo _ _ _ _ h).1 (hH.un h),fun _ _ h=>h⟩
 Rj hv hH.v (fun _ _ h=>Ri hv hH.v 2 h) h
mutual
theorem Rep.noOwn:∀{s:SV}{v:Value},Rep w bs B s v->noOwn s=true->XRep w bs B s v
 |_,_,.x s v h,_=>h
 |_,_,.agg cs vs h,hn=> .agg cs vs (RepL.noOwn h hn)
 |_,_,.tup cs vs h,hn=> .tup cs vs (RepL.noOwn h hn)
 |_,_,.fn f fs cs us vs h h',hn=>by
  simp only[Vx.noOwn,YS]at hn
  exact .fn f fs cs us vs (RepL.noOwn h hn.1) (RepL.noOwn h' hn.2)
 |_,_,.iface t x v h,hn=> .iface t x v (Rep.noOwn h hn)
 |_,_,.ptr ..,hn=>by cases hn
 |_,_,.own ..,hn=>by cases hn
 |_,_,.ownNil ..,hn=>by cases hn
 |_,_,.elem ..,hn=>by cases hn
 |_,_,.smp ..,hn=>by cases hn
 |_,_,.optT ..,hn=>by cases hn
 |_,_,.optF ..,hn=>by cases hn
 |_,_,.cut ..,hn=>by cases hn
theorem RepL.noOwn:∀{l:List SV}{vs:List Value},RepL w bs B l vs->QR l=true->XRepL w bs B l vs
 |_,_,.nil,_=> .nil
 |_,_,.cons x v l vs h h',hn=>by
  simp only[QR,YS]at hn
  exact .cons x v l vs (Rep.noOwn h hn.1) (RepL.noOwn h' hn.2)
end
theorem XRepL.viewN{B2:Bd}(hF:∀b,Fr B bs b->B2.F b)(hI:∀b K,B.I b=some K->B2.I b=some K):∀(n:Nat){l:List SV}{vs:List Value},XRepL w bs B l vs->XRepL w [] B2 (Vx.viewN false hp n l) vs
 |0,_,_,h=>E8 h.rep
 |_+1,_,_,h=>GZ (fun h=>by cases h) hF hI h
theorem Dl{w:World}(al:Bool)(hH:HpV w bs B hp)(hB:B.n<=w.heap.size)(n:Nat){l:List SV}{vs:List Value}(h:RepL w bs B l vs)(hn:al=true->QR l=true):
 ∃z:Cx0,z.toWorld=w/\z.I=B.I/\XRepL w [] z.bd (Vx.viewN false hp n l) vs/\(al=true->∀b,z.F b->Fr B bs b)/\∀b,Fr B bs b->z.F b:=by
 have hup:∀b,w.heap.size<=b->B.I b=none->Fr B bs b:=fun b hb hI=>⟨fun i b' c n h=>by have:=(hH.lo _ _ _ _ h).2;omega,B.up b (Yh hB hb) hI⟩
 cases al with
 |true=>
  let z:Cx0:={ toWorld:=w,F:=Fr B bs,I:=B.I,up:=hup,ex:=fun b hb=>B.ex b hb.2}
  exact⟨z,rfl,rfl,(h.noOwn (hn rfl)).viewN (B2:=z.bd) (fun _ h=>h) (fun _ _ h=>h) n,fun _ _ h=>h,fun _ h=>h⟩
 |false=>
  let z:Cx0:={ toWorld:=w,F:=fun b=>B.I b=none,I:=B.I,up:=fun _ _ h=>h,ex:=fun _ h=>h}
  exact⟨z,rfl,rfl,YqY (B2:=z.bd) ⟨fun h=>(by cases h),fun b hb=>B.ex b hb.2,fun i b c n hb=>hH.un i b c n hb,fun _ _ h=>h⟩ hH n h,fun h=>(by cases h),fun b h=>B.ex b h.2⟩
end
end Go.Vx
namespace Go.Vx
open Go.RowKit
section
variable {w:World} {bs bs':List BK} {B:Bd} {m n:Nat}
structure Cut (bs bs':List BK) (m n:Nat):Prop where
 len:bs.length=m
 len':bs'.length=n
 old:∀(i:Nat)(x:BK),i<n->bs[i]? =some x->bs'[i]? =some x
 ghost:∀i,m<=i->i<n->bs'[i]? =some .nil
theorem Cut.blk(h:Cut bs bs' m n){i b c k:Nat}(hi:bs'[i]? =some (.blk b c k)):bs[i]? =some (.blk b c k):=by
 have hin:i<n:=by rw[<-h.len'];exact(UY.1 hi).1
 rcases YY i m with hm|hm
 ·have:i<bs.length:=by rw[h.len];exact hm
  obtain⟨x,hx⟩:∃x,bs[i]? =some x:=⟨bs[i],by simp⟩
  have h2:=h.old i x hin hx
  rw[hi]at h2;cases h2;exact hx
 ·rw[h.ghost i hm hin]at hi;cases hi
theorem Cut.free(h:Cut bs bs' m n){b:Nat}(hf:JD bs b):JD bs' b:=fun i b' c k hi=>hf i b' c k (h.blk hi)
theorem Cut.keeps(h:Cut bs bs' m n):Keeps w bs w bs':=fun _ hf _ ho=>⟨ho,h.free hf⟩
mutual
theorem HP(hc:Cut bs bs' m n):∀{s:SV}{v:Value},Rep w bs B s v->bnd n s->Rep w bs' B s v
 |_,_,.x s v h,_=> .x s v (h.keep hc.keeps)
 |_,_,.agg cs vs h,hb=> .agg cs vs (F5 hc h hb)
 |_,_,.tup cs vs h,hb=> .tup cs vs (F5 hc h hb)
 |_,_,.fn f fs cs us vs h h',hb=> .fn f fs cs us vs (F5 hc h hb.1) (F5 hc h' hb.2)
 |_,_,.iface t x v h,hb=> .iface t x v (HP hc h hb)
 |_,_,.ptr i off b n h,hb=> .ptr i off b n (hc.old _ _ hb h)
 |_,_,.own i lo n size b cap m ad h hl ha,hb=> .own i lo n size b cap m ad (hc.old _ _ hb h) hl ha
 |_,_,.ownNil i size h,hb=> .ownNil i size (hc.old _ _ hb h)
 |_,_,.elem i k off size b cap m h hk,hb=> .elem i k off size b cap m (hc.old _ _ hb h) hk
 |_,_,.smp i b h,hb=> .smp i b (hc.old _ _ hb h)
 |_,_,.optT x v h,hb=> .optT x v (HP hc h hb)
 |_,_,.optF x,_=> .optF x
 |_,_,.cut x a n cap h,hb=> .cut x a n cap (HP hc h hb)
theorem F5(hc:Cut bs bs' m n):∀{l:List SV}{vs:List Value},RepL w bs B l vs->Jl n l->RepL w bs' B l vs
 |_,_,.nil,_=> .nil
 |_,_,.cons x v l vs h h',hb=> .cons _ _ _ _ (HP hc h hb.1) (F5 hc h' hb.2)
end
mutual
theorem YiQ:∀{a:SV}{v:Value},XRep w bs B a v->∀(b:SV),leX a b->XRep w bs B b v
 |_,_,.int k n,b,h=>by cases b <;> first|exact .junk _| (obtain⟨rfl,rfl⟩:=h;exact .int _ _) |cases h
 |_,_,.bool c,b,h=>by cases b <;> first|exact .junk _| (cases h;done) | (cases h;exact .bool _)
 |_,_,.val v,b,h=>by cases b <;> first|exact .junk _| (cases h;done) | (cases h;exact .val _)
 |_,_,.nil,b,h=>by
  cases b <;> first|exact .junk _| (cases h;exact .nil) | (obtain⟨rfl,rfl⟩:=h;exact .vs _ _ _ _ _ none 0 (fun _=>[]) rfl (Yt _) (fun _=>⟨rfl,rfl⟩) (fun k hk=>by omega) (fun k hk=>by omega)) |cases h
 |_,_,.junk v,b,h=>by cases b <;> first|exact .junk _|cases h
 |_,_,.agg cs vs hl,b,h=>by
  cases b with
  |agg ds=>exact .agg _ _ (Hm hl ds h)
  |junk=>exact .junk _
  |_=>cases h
 |_,_,.tup cs vs hl,b,h=>by
  cases b with
  |tup ds=>exact .tup _ _ (Hm hl ds h)
  |junk=>exact .junk _
  |_=>cases h
 |_,_,.fn f fs cs us vs h1 h2,b,h=>by cases b <;> first|exact .junk _| (cases h;done) | (cases h;exact .fn f fs cs us vs h1 h2)
 |_,_,.iface t x v h1,b,h=>by cases b <;> first|exact .junk _| (cases h;done) | (cases h;exact .iface t x v h1)
 |_,_,.vs t z n size get a cap vals hz hcap hn hcell hh,b,h=>by
  cases b with
  |vs t' z' l' sz' get'=>
   obtain⟨h1,rfl,rfl,rfl,h5⟩:=h
   refine .vs _ _ _ _ _ a cap vals hz hcap hn (fun k hk=>?_) (fun k hk=>Hm (hh k hk) (get' k) (h5 k hk))
   obtain⟨ad,e1,e2,e3,e4,e5,e6⟩:=hcell k hk
   exact⟨ad,e1,e2,e3,fun ht=>e4 (h1 ht),e5,e6⟩
  |junk=>exact .junk _
  |_=>cases h
 |_,_,.xp t cs ad vals hs hf ht hcc hh,b,h=>by
  cases b with
  |xp t' ds=>exact .xp _ _ ad vals hs hf (fun ht'=>ht (h.1 ht')) hcc (Hm hh ds h.2)
  |junk=>exact .junk _
  |_=>cases h
 |_,_,.row n C b cap h1 h2,b',h=>by cases b' <;> first|exact .junk _| (cases h;done) | (cases h;exact .row _ _ _ _ h1 h2)
 |_,_,.rcell D n C k b h1 h2 h3,b',h=>by cases b' <;> first|exact .junk _| (cases h;done) | (cases h;exact .rcell _ _ _ _ _ h1 h2 h3)
 |_,_,.imap kk C b h1,b',h=>by cases b' <;> first|exact .junk _| (cases h;done) | (cases h;exact .imap _ _ _ h1)
theorem Hm:∀{a:List SV}{v:List Value},XRepL w bs B a v->∀(b:List SV),QK a b->XRepL w bs B b v
 |_,_,.nil,b,h=>by
  cases b with
  |nil=>exact .nil
  |cons _ _=>cases h
 |_,_,.cons x v l vs h1 h2,b,h=>by
  cases b with
  |nil=>cases h
  |cons y r=>exact .cons _ _ _ _ (YiQ h1 y h.1) (Hm h2 r h.2)
end
mutual
theorem YiR:∀(a:SV),leX a a
 | .int k n=>⟨rfl,rfl⟩
 | .bool b=>rfl
 | .val v=>rfl
 | .nil=>rfl
 | .agg cs=>YW cs
 | .tup cs=>YW cs
 | .vs t z l sz get=>⟨id,rfl,rfl,rfl,fun k _=>YW (get k)⟩
 | .xp t cs=>⟨id,YW cs⟩
 | .ptr i off=>rfl
 | .own .. =>rfl
 | .elem .. =>rfl
 | .fn .. =>rfl
 | .iface .. =>rfl
 | .opt .. =>rfl
 | .cut .. =>rfl
 | .row .. =>rfl
 | .rcell .. =>rfl
 | .imap .. =>rfl
 | .smp .. =>rfl
 | .junk=>trivial
theorem YW:∀(a:List SV),QK a a
 | []=>trivial
 |x::l=>⟨YiR x,YW l⟩
end
mutual
theorem I8(hc:Cut bs bs' m n):∀(a b:SV){v:Value},le m n a b->Rep w bs B a v->Rep w bs' B b v:=by
 intro a b v h hr
 unfold le at h
 split at h
 ·exact .x _ _ (.junk _)
 ·obtain⟨rfl,rfl⟩:=h;rw[hr.int_inv];exact .x _ _ (.int _ _)
 ·subst h;rw[hr.bool_inv];exact .x _ _ (.bool _)
 ·obtain⟨h1,h2,rfl,rfl⟩:=h;rw[hr.nil_inv];exact .ownNil _ _ (hc.ghost _ h1 h2)
 ·obtain⟨rfl,rfl⟩:=h;rw[hr.nil_inv]
  exact .x _ _ (.vs _ _ _ _ _ none 0 (fun _=>[]) rfl (Yt _) (fun _=>⟨rfl,rfl⟩) (fun k hk=>by omega) (fun k hk=>by omega))
 ·rename_i cs ds
  obtain⟨vs,rfl,hl⟩:=hr.agg_inv
  exact .agg _ _ (V8 hc cs ds h hl)
 ·rename_i cs ds
  obtain⟨vs,rfl,hl⟩:=hr.tup_inv
  exact .tup _ _ (V8 hc cs ds h hl)
 ·obtain⟨h1,rfl,rfl,rfl,h5⟩:=h
  cases hr with
  |x _ _ hr=>
   have hr:=hr.keep (hc.keeps (w:=w))
   cases hr with
   |vs _ _ _ _ _ a cap vals hz hcap hn hcell hh=>
    refine .x _ _ (.vs _ _ _ _ _ a cap vals hz hcap hn (fun k hk=>?_) (fun k hk=>Hm (hh k hk) _ (h5 k hk)))
    obtain⟨ad,e1,e2,e3,e4,e5,e6⟩:=hcell k hk
    exact⟨ad,e1,e2,e3,fun ht=>e4 (h1 ht),e5,e6⟩
 ·obtain⟨rfl,rfl,rfl,rfl,h5⟩:=h
  exact HP hc hr h5
 ·obtain⟨h1,h2⟩:=h
  cases hr with
  |x _ _ hr=>
   have hr:=hr.keep (hc.keeps (w:=w))
   cases hr with
   |xp _ _ ad vals hs hf ht hcc hh=>exact .x _ _ (.xp _ _ ad vals hs hf (fun h=>ht (h1 h)) hcc (Hm hh _ h2))
 ·obtain⟨rfl,h2⟩:=h
  exact HP hc hr h2
theorem V8(hc:Cut bs bs' m n):∀(a b:List SV){v:List Value},leL m n a b->RepL w bs B a v->RepL w bs' B b v:=by
 intro a b v h hr
 unfold leL at h
 split at h
 ·cases hr;exact .nil
 ·rename_i x l y r
  obtain⟨u,us,rfl,h1,h2⟩:=hr.cons_inv
  exact .cons _ _ _ _ (I8 hc x y h.1 h1) (V8 hc l r h.2 h2)
 ·cases h
end
theorem I3(hc:Cut bs bs' m n):∀(a b:List (List SV)){v:List (List Value)},UI m n a b->RepLL w bs B a v->RepLL w bs' B b v
 | [],[],_,_,hr=>by cases hr;exact .nil
 |x::l,y::r,_,h,.cons _ v _ vs h1 h2=> .cons _ _ _ _ (V8 hc x y h.1 h1) (I3 hc l r h.2 h2)
 | [],_::_,_,h,_=>h.elim
 |_::_,[],_,h,_=>h.elim
theorem Lf{x y:HO}{l r:List HO}:leH m n (x::l) (y::r)=(WC m n x y/\leH m n l r):=by cases y <;> rfl
theorem Lg:∀(a b:List HO),leH m n a b->∀i,i<Yi b->(i<Yi a/\WC m n (Ys a i) (Ys b i))\/(Yi a<=i/\∃z sz l get,Ys b i= .own z sz l get/\z=true/\l=0)
 |_,[],_,i,hi=>by simp [Yi]at hi
 | [],.own z sz l get::r,h,0,_=> .inr ⟨JJ _,z,sz,l,get,rfl,h.1,h.2.1⟩
 | [],.own z sz l get::r,h,i+1,hi=>by
   rcases Lg [] r h.2.2 i (by simpa [Yi]using hi)with h1| ⟨_,h2⟩
   ·simp [Yi]at h1
   ·exact .inr ⟨JJ _,h2⟩
 | [],.box _::_,h,_,_=>h.elim
 | [],.smap _::_,h,_,_=>h.elim
 | [],.gone::_,h,_,_=>h.elim
 |x::l,y::r,h,0,_=> .inl ⟨by simp [Yi],(Lf▸h:WC m n x y/\leH m n l r).1⟩
 |x::l,y::r,h,i+1,hi=>by
  rcases Lg l r (Lf▸h:WC m n x y/\leH m n l r).2 i (by simpa [Yi]using hi)with⟨h1,h2⟩ | ⟨h1,h2⟩
  ·exact .inl ⟨by simpa [Yi]using h1,h2⟩
  ·exact .inr ⟨by simpa [Yi]using h1,h2⟩
theorem I5{w0:Cx}{as:List (List Deferred)}{s s':S}{tmps:List Value}{saved:List (List Value)}(h:leS s s')(hr:Rel w0 as s tmps saved w):Rel w0 as s' tmps saved w:=by
 obtain⟨bs,h1,h2,hH,hb,ho⟩:=hr
 obtain⟨l1,l2,l3⟩:=h
 let bs':=bs.take (Yi s'.hp)++List.replicate (Yi s'.hp-Yi s.hp) .nil
 have hlen:=hH.len
 have hc:Cut bs bs' (Yi s.hp) (Yi s'.hp):=by
  refine⟨hlen,by simp [bs',hlen];omega,fun i x hi hx=>?_,fun i h1 h2=>?_⟩
  ·have:i<bs.length:=(UY.1 hx).1
   simp only[bs']
   rw[QY (by simp;omega),XR,if_pos hi];exact hx
  ·simp only[bs']
   rw[Z0 (by simp;omega),List.getElem?_replicate,if_pos (by simp;omega)]
 refine⟨bs',V8 hc _ _ l1 h1,I3 hc _ _ l2 h2,⟨hc.len',fun i=>?_,fun i j b c k c' k' e1 e2=>hH.inj i j b c k c' k' (hc.blk e1) (hc.blk e2),fun i b c k e1=>hH.lo i b c k (hc.blk e1),Vz hc.keeps hH.reg⟩,hb,ho.keep hc.keeps⟩
 rcases YY i (Yi s'.hp)with hi|hi
 ·rcases Lg _ _ l3 i hi with⟨g1,g2⟩ | ⟨g1,z,sz,l,get,g2,rfl,rfl⟩
  ·have hent:=hH.ent i
   have hx:∀x,bs[i]? =some x->bs'[i]? =some x:=fun x hx=>hc.old i x hi hx
   cases ha:Ys s.hp i <;> cases hbb:Ys s'.hp i <;> rw[ha,hbb]at g2 <;> simp only[WC]at g2
   ·rw[ha]at hent
    obtain⟨b,vs,T,e1,e2,e3⟩:=hent
    exact⟨b,vs,T,hx _ e1,e2,V8 hc _ _ g2 e3⟩
   ·obtain⟨rfl,rfl,rfl,g3⟩:=g2
    rw[ha]at hent
    rcases hent with⟨e1,e2,e3⟩ | ⟨b,cap,vs,T,e1,e2,e3,e4,e5,e6⟩
    ·exact .inl ⟨hx _ e1,e2,e3⟩
    ·exact .inr ⟨b,cap,vs,T,hx _ e1,e2,e3,e4,e5,fun k hk=>V8 hc _ _ (g3 k hk) (e6 k hk)⟩
   ·subst g2
    rw[ha]at hent
    obtain⟨b,es,c,e1,e2,e3⟩:=hent
    exact⟨b,es,c,hx _ e1,e2,e3⟩
   ·rw[ha]at hent
    rcases hent with e|e
    ·exact .inl (hx _ e)
    ·rw[List.getElem?_eq_none_iff,hlen]at e;omega
  ·rw[g2];exact .inl ⟨hc.ghost i g1 hi,rfl,rfl⟩
 ·rw[WU _ _ hi]
  right
  rw[List.getElem?_eq_none_iff,hc.len'];exact hi
structure Frz (w:World) (bs bs':List BK) (B:Bd) (i:Nat) (z:Bool) (sz N:Nat) (get:Nat->List SV):Prop where
 ne:∀j,j≠i->bs'[j]? =bs[j]?
 at':∀b c n,bs'[i]? ≠some (.blk b c n)
 nil:bs[i]? =some .nil->z=true
 blk:∀b cap m,bs[i]? =some (.blk b cap m)->z=false/\m=N/\B.n<=b/\∃(vs:Array Value) (T:TypeId),w.heap[b]? =some (.cells vs T (0,0))/\vs.size=cap*sz/\m<=cap/\∀k,k<m->XRepL w bs B (get k) ((vs.toList.drop (k*sz)).take sz)
 inj:∀(j b c n c' n':Nat),bs[i]? =some (.blk b c n)->bs[j]? =some (.blk b c' n')->j=i
 un:∀(b c n:Nat),bs[i]? =some (.blk b c n)->B.I b=none
section
variable {i sz N:Nat} {z:Bool} {get:Nat->List SV}
theorem Frz.back(h:Frz w bs bs' B i z sz N get){j b c n:Nat}(hj:bs'[j]? =some (.blk b c n)):j≠i/\bs[j]? =some (.blk b c n):=by
 have hne:j≠i:=fun he=>h.at' b c n (he▸hj)
 exact⟨hne,(h.ne j hne)▸hj⟩
theorem Frz.free(h:Frz w bs bs' B i z sz N get){b:Nat}(hf:JD bs b):JD bs' b:=fun j b' c k hj=>hf j b' c k (h.back hj).2
theorem Frz.keeps(h:Frz w bs bs' B i z sz N get):Keeps w bs w bs':=fun _ hf _ ho=>⟨ho,h.free hf⟩
mutual
theorem EH(i sz:Nat)(z:Bool)(get:Nat->List SV){B:Bd}:∀{s:SV}{v:Value},XRep w bs B s v->XRep w bs B (WT i z sz get s) v
 |_,_,.int k n=> .int k n
 |_,_,.bool b=> .bool b
 |_,_,.val v=> .val v
 |_,_,.nil=> .nil
 |_,_,.junk v=> .junk v
 |_,_,.agg cs vs h=> .agg _ vs (MB i sz z get h)
 |_,_,.tup cs vs h=> .tup _ vs (MB i sz z get h)
 |_,_,.fn f fs cs us vs h h'=> .fn f _ _ us vs (MB i sz z get h) (MB i sz z get h')
 |_,_,.iface t x v h=> .iface t _ v (EH i sz z get h)
 |_,_,.vs t z n size get a cap vals hz hc hn hcell h=> .vs t z n size get a cap vals hz hc hn hcell h
 |_,_,.xp t cs ad vals hs hf ht hc h=> .xp t cs ad vals hs hf ht hc h
 |_,_,.row n C b cap h1 h2=> .row n C b cap h1 h2
 |_,_,.rcell D n C k b h1 h2 h3=> .rcell D n C k b h1 h2 h3
 |_,_,.imap kk C b h1=> .imap kk C b h1
theorem MB(i sz:Nat)(z:Bool)(get:Nat->List SV){B:Bd}:∀{l:List SV}{vs:List Value},XRepL w bs B l vs->XRepL w bs B (Wc i z sz get l) vs
 |_,_,.nil=> .nil
 |_,_,.cons x v l vs h h'=> .cons _ v _ vs (EH i sz z get h) (MB i sz z get h')
end
theorem GB{a b:Nat}(h:YJ a b=true):a=b:=Jy h
mutual
theorem Bs(hf:Frz w bs bs' B i z sz N get):∀{s:SV}{v:Value},Rep w bs B s v->Rep w bs' B (WT i z sz get s) v
 |_,_,.x s v h=> .x _ v ((EH i sz z get h).keep hf.keeps)
 |_,_,.agg cs vs h=> .agg _ vs (UE hf h)
 |_,_,.tup cs vs h=> .tup _ vs (UE hf h)
 |_,_,.fn f fs cs us vs h h'=> .fn f _ _ us vs (UE hf h) (UE hf h')
 |_,_,.iface t x v h=> .iface t _ v (Bs hf h)
 |_,_,.ptr j off b n h=>by
  simp only[WT]
  cases hj:YJ j i with
  |true=>exact .x _ _ (.junk _)
  |false=>exact .ptr _ _ _ _ ((hf.ne j (XG hj)).symm▸h)
 |_,_,.own j lo n size b cap m ad h hl ha=>by
  simp only[WT]
  cases hj:YJ j i with
  |false=>exact .own _ _ _ _ b cap m ad ((hf.ne j (XG hj)).symm▸h) hl ha
  |true=>
   have:=GB hj;subst this
   simp only[cond_true]
   cases hs:YJ size sz with
   |false=>exact .x _ _ (.junk _)
   |true=>
    have:=GB hs;subst this
    obtain⟨rfl,rfl,hB,vs,T,h1,h2,h3,h4⟩:=hf.blk b cap m h
    simp only[cond_true]
    refine .x _ _ (.vs true false n size _ (some ad) (cap-lo) (fun k=>(vs.toList.drop ((QE lo k)*size)).take size) rfl (by omega) (fun h=>by cases h) (fun k hk=>?_) (fun k hk=>?_))
    ·have had:ad=⟨b,lo*size,none⟩:=by
      rcases ha with h| ⟨h,_⟩
      ·exact h
      ·omega
     have hal:QE lo k=lo+k:=by cases lo <;> simp [QE]
     have hle:(lo+k)*size+size<=cap*size:=by
      have:(lo+k+1)*size<=cap*size:=Yp _ (by omega)
      rw[YM,Y2]at this;exact this
     refine⟨ad,rfl,by rw[had],⟨fun j b' c k' hj'=>?_,?_⟩,fun _=>by rw[had];exact hB,?_,?_⟩
     ·intro he
      obtain⟨hne,hj2⟩:=hf.back hj'
      subst he
      rw[had]at hj2
      exact hne (hf.inj _ _ _ _ _ _ h hj2)
     ·rw[had];exact B.up _ hB (hf.un _ _ _ h)
     ·simp only[Qs,List.length_drop,Um,h2,hal];omega
     ·refine⟨vs,T,(0,0),by rw[had];exact h1,fun q v hq=>?_⟩
      rw[hal]at hq
      rw[had]
      rw[XR]at hq
      split at hq
      ·rw[Wu]at hq
       rw[<-hq,<-Array.getElem?_toList]
       congr 1
       simp only
       rw[YM]
      ·cases hq
    ·have hal:QE lo k=lo+k:=by cases lo <;> simp [QE]
     exact(h4 _ (by rw[hal];omega)).keep hf.keeps
 |_,_,.ownNil j size h=>by
  simp only[WT]
  cases hj:YJ j i with
  |false=>exact .ownNil _ _ ((hf.ne j (XG hj)).symm▸h)
  |true=>
   have:=GB hj;subst this
   simp only[cond_true]
   cases hs:YJ size sz with
   |false=>exact .x _ _ (.junk _)
   |true=>
    have hz:=hf.nil h
    subst hz
    exact .x _ _ (.vs _ _ _ _ _ none 0 (fun _=>[]) rfl (Yt _) (fun _=>⟨rfl,rfl⟩) (fun k hk=>by omega) (fun k hk=>by omega))
 |_,_,.elem j k off size b cap m h hk=>by
  simp only[WT]
  cases hj:YJ j i with
  |true=>exact .x _ _ (.junk _)
  |false=>exact .elem _ _ _ _ _ _ _ ((hf.ne j (XG hj)).symm▸h) hk
 |_,_,.smp j b h=>by
  simp only[WT]
  cases hj:YJ j i with
  |true=>exact .x _ _ (.junk _)
  |false=>exact .smp _ _ ((hf.ne j (XG hj)).symm▸h)
 |_,_,.optT x v h=> .optT _ v (Bs hf h)
 |_,_,.optF x=> .optF _
 |_,_,.cut x a n cap h=> .cut _ a n cap (Bs hf h)
theorem UE(hf:Frz w bs bs' B i z sz N get):∀{l:List SV}{vs:List Value},RepL w bs B l vs->RepL w bs' B (Wc i z sz get l) vs
 |_,_,.nil=> .nil
 |_,_,.cons x v l vs h h'=> .cons _ v _ vs (Bs hf h) (UE hf h')
end
theorem T7(hf:Frz w bs bs' B i z sz N get):∀{l:List (List SV)}{vs:List (List Value)},RepLL w bs B l vs->RepLL w bs' B (Bp i z sz get l) vs
 |_,_,.nil=> .nil
 |_,_,.cons x v l vs h h'=> .cons _ v _ vs (UE hf h) (T7 hf h')
def T6(i:Nat)(z:Bool)(sz:Nat)(get:Nat->List SV):HO->HO
 | .box cs=> .box (Wc i z sz get cs)
 | .own z' s n g=> .own z' s n (fun k=>Wc i z sz get (g k))
 | .smap l=> .smap l
 | .gone=> .gone
theorem Ii:∀(hp:List HO)(j:Nat),Ys (WS i z sz get hp) j=T6 i z sz get (Ys hp j)
 | [],j=>by cases j <;> rfl
 |h::l,0=>by cases h <;> rfl
 |h::l,j+1=>by cases h <;> simpa [WS,Ys]using Ii l j
theorem Ll:∀(hp:List HO),Yi (WS i z sz get hp)=Yi hp
 | []=>rfl
 |h::l=>by cases h <;> simp [WS,Yi,Ll l]
end
theorem Yhi{w0:Cx}{as:List (List Deferred)}{s:S}{tmps:List Value}{saved:List (List Value)}(i:Nat)(hp1:EG (Ys s.hp i))(hr:Rel w0 as s tmps saved w):Rel w0 as (MA s i (Ys s.hp i)) tmps saved w:=by
 cases hg:Ys s.hp i with
 |box cs=>exact hr
 |smap l=>exact hr
 |gone=>exact hr
 |own z sz N get=>
  rw[hg]at hp1
  obtain⟨bs,h1,h2,hH,hb,ho⟩:=hr
  have hlen:=hH.len
  have hi:i<Yi s.hp:=by
   rcases YY i (Yi s.hp)with h|h
   ·exact h
   ·rw[WU _ _ h]at hg;cases hg
  let bs':=bs.set i .gone
  have hent:=hH.ent i
  rw[hg]at hent
  have hat:bs'[i]? =some .gone:=by simp [bs',VM,hlen,hi]
  have hne:∀j,j≠i->bs'[j]? =bs[j]? :=fun j hj=>by simp [bs',VM];intro h;exact absurd h.symm hj
  have hf:Frz w bs bs' w0.bd i z sz N get:=by
   refine⟨hne,fun b c n h=>?_,fun h=>?_,fun b cap m h=>?_,fun j b c n c' n' e1 e2=>hH.inj _ _ _ _ _ _ _ e2 e1,fun b c n e=>hH.un e⟩
   ·rw[hat]at h;cases h
   ·rcases hent with⟨_,e,_⟩ | ⟨_,_,_,_,e,_⟩
    ·exact e
    ·rw[h]at e;cases e
   ·rcases hent with⟨e,_⟩ | ⟨b',cap',vs,T,e1,e2,e3,e4,e5,e6⟩
    ·rw[h]at e;cases e
    ·rw[h]at e1;cases e1
     exact⟨e2,rfl,(hH.lo _ _ _ _ h).1,vs,T,e3,e4,e5,fun k hk=>(e6 k hk).noOwn (hp1 k hk)⟩
  refine⟨bs',UE hf h1,T7 hf h2,⟨?_,fun j=>?_,fun j j' b c k c' k' e1 e2=>hH.inj _ _ _ _ _ _ _ (hf.back e1).2 (hf.back e2).2,fun j b c k e1=>hH.lo j b c k (hf.back e1).2,Vz hf.keeps hH.reg⟩,hb,ho.keep hf.keeps⟩
  ·simp [bs',MA,Hn,Ll,hlen]
  ·by_cases hj:j=i
   ·subst hj
    show HRep w bs' _ j (Ys (KL (WS j z sz get s.hp) j .gone) j)
    rw[H9 _ _ _ (by rw[Ll];exact hi)]
    exact .inl hat
   ·show HRep w bs' _ j (Ys (KL (WS i z sz get s.hp) i .gone) j)
    rw[WV _ _ _ _ (Ne.symm hj),Ii]
    have hentj:=hH.ent j
    cases hgj:Ys s.hp j with
    |gone=>
     rw[hgj]at hentj
     simp only[T6,HRep,hne j hj];exact hentj
    |box cs=>
     rw[hgj]at hentj
     obtain⟨b,vs,T,e1,e2,e3⟩:=hentj
     exact⟨b,vs,T,by rw[hne j hj];exact e1,e2,UE hf e3⟩
    |smap l=>
     rw[hgj]at hentj
     obtain⟨b,es,c,e1,e2,e3⟩:=hentj
     exact⟨b,es,c,by rw[hne j hj];exact e1,e2,e3⟩
    |own z' s' n' g'=>
     rw[hgj]at hentj
     rcases hentj with⟨e1,e2,e3⟩ | ⟨b,cap,vs,T,e1,e2,e3,e4,e5,e6⟩
     ·exact .inl ⟨by rw[hne j hj];exact e1,e2,e3⟩
     ·exact .inr ⟨b,cap,vs,T,by rw[hne j hj];exact e1,e2,e3,e4,e5,fun k hk=>UE hf (e6 k hk)⟩
theorem T8{w0:Cx}{as:List (List Deferred)}{tmps:List Value}{saved:List (List Value)}:∀(l:List Nat){s:S},Bq l s->Rel w0 as s tmps saved w->Rel w0 as (Br l s) tmps saved w
 | [],_,_,hr=>hr
 |i::l,_,h,hr=>T8 l h.2 (Yhi i h.1 hr)
theorem YiE{w0:Cx}{as:List (List Deferred)}{s s':S}{tmps:List Value}{saved:List (List Value)}(h:leF s s')(hr:Rel w0 as s tmps saved w):Rel w0 as s' tmps saved w:=by
 obtain⟨l,h1,h2⟩:=h
 exact I5 h2 (T8 l h1 hr)
end
end Go.Vx
namespace Go.Vx
open Go.RowKit
section
variable {P:Program} {E:Env} {Q:SV->List HO->Prop} {vr:List VR} {w0:Cx0}
theorem GQ:∀(n:Nat){al:Bool}{d:Option Nat}{c:CRes}{K:List It}{s:S},run E Q vr n (.res none al d c::K) s->
 CSat c fun r hs=> ∃m,m<n/\run E Q vr m K (S.put { fr:=s.fr,saved:=s.saved,hp:=s.hp++Js (Yi s.hp) hs} d (shift (Yi s.hp) r))
 |0,_,_,_,_,_,h=>h.elim
 |n+1,al,d,c,K,s,h=>by
  cases c with
  |fin r hs=>exact⟨n,Nat.lt_succ_self n,h⟩
  |pre p c=>exact⟨h.1,(GQ n h.2).mono fun r hs ⟨m,hm,x⟩=>⟨m,by omega,x⟩⟩
  |imp p c=>exact fun hp=>(GQ n (h hp)).mono fun r hs ⟨m,hm,x⟩=>⟨m,by omega,x⟩
  |all α c=>exact fun x=>(GQ n (h x)).mono fun r hs ⟨m,hm,x⟩=>⟨m,by omega,x⟩
  |ex α c=>exact let⟨x,hx⟩:=h;⟨x,(GQ n hx).mono fun r hs ⟨m,hm,x⟩=>⟨m,by omega,x⟩⟩
theorem AF:∀(n:Nat){gb al:Bool}{d:Option Nat}{c:CRes}{K:List It}{s:S},run E Q vr n (.res (some gb) al d c::K) s->
 ∃m r,m<n/\run E Q vr m K (s.put d (.opt gb r))/\(gb=true->CSat c fun r' hs=>r=shift (Yi s.hp) r'/\hs=[])
 |0,_,_,_,_,_,_,h=>h.elim
 |n+1,gb,al,d,c,K,s,h=>by
  cases c with
  |fin r hs=>
   cases hs with
   |nil=>exact⟨n,_,Nat.lt_succ_self n,h,fun _=>⟨rfl,rfl⟩⟩
   |cons _ _=>exact h.elim
  |pre p c=>
   obtain⟨m,r,hm,h1,h2⟩:=AF n h.2
   exact⟨m,r,by omega,h1,fun hg=>⟨h.1 hg,h2 hg⟩⟩
  |imp p c=>exact h.elim
  |all α c=>exact h.elim
  |ex α c=>
   obtain⟨x,hx⟩:=h
   obtain⟨m,r,hm,h1,h2⟩:=AF n hx
   exact⟨m,r,by omega,h1,fun hg=>⟨x,h2 hg⟩⟩
abbrev Km:=Exit->Act->World->Prop
abbrev Wd(r:Option Nat):Fence:={ fn:=fun _=>True,depth:=none,alive:=false,round:=r}
theorem YfV{r:Option Nat}{n:Nat}{f:FuncId}{args:Array Value}{w:World}{R:Ending->World->Prop}(h:Calls P f args w R):CallsIn (Wd r) n P f args w R:=
 ⟨trivial,fun cs _=>(callsIn_wide (n:=n).2 h).2 cs (room_wide _)⟩
theorem F9{f:FuncId}{n:Nat}{args:Array Value}{w:World}{R:Ending->World->Prop}(h:CallsIn (Wd none) n P f args w R):Calls P f args w R:=callsIn_wide.1 h
def Rl(w0:Cx)(s:S)(a:Act)(sv:List Act)(w:World):Prop:=Rel w0 ((a::sv).map (·.defers)) s a.tmps.toList (sv.map (·.tmps.toList)) w
structure Rec where
 fn:FuncId
 ps:List Nat
 ca:Code
 cb:Code
 D:Nat
 tmps:Array Value
def Rec.at(q:Rec)(st:LoopState)(pe:Option Code):_root_.Go.Loop:={ state:=st,pending:=pe,fn:=q.fn,tmps:=q.tmps,params:=q.ps.toArray,assign:=q.ca,body:=q.cb,defers:=q.D}
inductive Co (P:Program) (q:Rec):Option VC->_root_.Go.Loop->Prop where
 |none:Co P q none (q.at .ready none)
 |some (c:Code) (vc:VC) (h:QX P c=some vc):Co P q (some vc) (q.at .done (some c))
inductive KRel (P:Program) (w0:Cx0) (κ0:Km):List It->List Act->List (Nat×Obj)->Option Nat->Km->Prop where
 |nil:KRel P w0 κ0 [] [] [] none κ0
 |code (c:Code) (vc:VC) (K:List It) (sv:List Act) (ks:List (Nat×Obj)) (r:Option Nat) (κ:Km) (h:QX P c=some vc) (hk:KRel P w0 κ0 K sv ks r κ):KRel P w0 κ0 (.code vc::K) sv ks r (Exit.then (c.wpIn (Wd r) 0 P κ) κ)
 |ops (all:Array Oper) (rest:List Oper) (l:List VOp) (K:List It) (sv:List Act) (ks:List (Nat×Obj)) (r:Option Nat) (κ:Km) (h:Xq P all rest=some l) (hk:KRel P w0 κ0 K sv ks r κ):KRel P w0 κ0 (.ops l::K) sv ks r (Exit.then (wpListIn (Wd r) 0 P all κ rest) κ)
 |inBlock (id:Nat) (K:List It) (sv:List Act) (ks:List (Nat×Obj)) (r:Option Nat) (κ:Km) (hk:KRel P w0 κ0 K sv ks r κ):KRel P w0 κ0 (.inBlock id::K) sv ks r (Exit.inBlock id κ)
 |inScope (K:List It) (sv:List Act) (ks:List (Nat×Obj)) (r:Option Nat) (κ:Km) (hk:KRel P w0 κ0 K sv ks r κ):KRel P w0 κ0 (.inScope::K) sv ks r (Exit.noGoto κ)
 |inLoop (I:S->Prop) (J:Act->World->Prop) (K:List It) (sv:List Act) (ks:List (Nat×Obj)) (r:Option Nat) (κ:Km) (hJ:∀s a w D (hD:Ext w0 D),I s->Rl ⟨w0.wI D hD,ks⟩ s a sv w->J a w) (hk:KRel P w0 κ0 K sv ks r κ):KRel P w0 κ0 (.inLoop I::K) sv ks r (Exit.then J κ)
 |frame (d:Option Nat) (res:List VR) (fn:Func) (sa:Act) (K:List It) (sv:List Act) (ks:List (Nat×Obj)) (r:Option Nat) (κ:Km) (R:Ending->World->Prop) (h:Ul P fn.results.toList=some res)
   (hR:∀v w,κ .normal (sa.put d v) w->R (.returned v) w) (hk:KRel P w0 κ0 K sv ks r κ):KRel P w0 κ0 (.frame d res::K) (sa::sv) ks none (bodyPostM (Wd none) 0 P fn R)
 |rfrm (res:List VR) (l:Nat) (q:Rec) (lp:_root_.Go.Loop) (a b:VC) (j:Option VC) (fn:Func) (sa:Act) (K:List It) (sv:List Act) (ks:List (Nat×Obj)) (r:Option Nat) (κ:Km) (h:Ul P fn.results.toList=some res)
   (ps:List Nat) (hps:q.ps=ps) (ht:q.tmps=sa.tmps) (ha:QX P q.ca=some a) (hb:QX P q.cb=some b) (hj:Co P q j lp) (hk:KRel P w0 κ0 K sv ks r κ):
   KRel P w0 κ0 (.rfrm res l ps a b j::K) (sa::sv) ((l,.loop lp)::ks) none (bodyPostM (Wd none) 0 P fn (rangePost (Wd r) 0 P l κ sa))
 |rbeg (l:Nat) (q:Rec) (K:List It) (sv:List Act) (ks:List (Nat×Obj)) (κ:Km) (hk:KRel P w0 κ0 K sv ((l,.loop (q.at .busy none))::ks) (some l) κ):
   KRel P w0 κ0 (.rbeg::K) sv ((l,.loop (q.at .ready none))::ks) (some l) (Exit.then (fun a₁ w₁=> ∃w₂,(Instr.beginRound l).run P w₁= .ok () w₂/\κ .normal a₁ w₂) (fun _ _ _=>False))
 |rend (d:Option Nat) (l:Nat) (q:Rec) (ita:Act) (K:List It) (sv:List Act) (ks:List (Nat×Obj)) (κ:Km) (R:Ending->World->Prop) (hR:∀v w,κ .normal (ita.put d v) w->R (.returned v) w)
   (hk:KRel P w0 κ0 K sv ((l,.loop (q.at .ready none))::ks) none κ):KRel P w0 κ0 (.rend d::K) (ita::sv) ((l,.loop (q.at .busy none))::ks) (some l) (roundPost P l R)
theorem Yrh{F:Fence}{n:Nat}{c:Code}{Q:Km}{a:Act}{w:World}(h:c.wpIn F n P (Exit.noGoto Q) a w):(Code.scope c).wpIn F n P Q a w:=by
 intro b k cs hro hb hr
 have h0:(lone (b.atR a (.code (.scope c)::k)) cs w).fenced P F:=fenced_calm hb hr rfl
 have s1:_root_.Go.step P (lone (b.atR a (.code (.scope c)::k)) cs w)= .next (lone (b.atR a (.code c:: .inScope c::k)) cs w):=step_lone_go (by simp [stepG,stepG.exec,Frame.atR])
 have s2:∀(a:Act)(w:World),_root_.Go.step P (lone (b.atR a (.inScope c::k)) cs w)= .next (lone (b.atR a k) cs w):=fun a w=>step_lone_go (by simp [stepG,stepG.exec,Frame.atR])
 obtain⟨e,a₁,w₁,hq,harr⟩:=h b (.inScope c::k) cs hro hb hr
 cases e with
 |normal=>exact⟨.normal,a₁,w₁,hq,.head h0 s1 (StepsIn.trans harr (.one (fenced_calm hb hr rfl) (s2 _ _)))⟩
 |exit id'=>
  have hx:exitTo id' (.inScope c::k)=exitTo id' k:=by simp [exitTo]
  exact⟨.exit id',a₁,w₁,hq,fun k' hk=> .head h0 s1 (harr.1 k' (by rw[hx];exact hk)),
   fun hr' hk=>let⟨k₁,h1,h2⟩:=harr.2 hr' (by rw[hx];exact hk);⟨k₁,h1,.head h0 s1 h2⟩⟩
 |goto l=>exact hq.elim
 |ret=>exact⟨_,a₁,w₁,hq,.of_steps (.one h0 s1) harr⟩
 |panic ch=>exact⟨_,a₁,w₁,hq,.of_steps (.one h0 s1) harr⟩
 |outgrown=>exact⟨_,a₁,w₁,hq,.of_steps (.one h0 s1) harr⟩
theorem H4{κ0:Km}:∀{K:List It}{sv:List Act}{ks:List (Nat×Obj)}{r:Option Nat}{κ:Km}{l:Nat}{ps:List Nat}{a b:VC},ZO K=some (l,ps,a,b)->KRel P w0 κ0 K sv ks r κ->
 ∃(q:Rec) (sa:Act) (sv':List Act) (ks':List (Nat×Obj)),sv=sa::sv'/\ks=(l,.loop (q.at .ready none))::ks'/\r=none/\q.ps=ps/\q.tmps=sa.tmps/\QX P q.ca=some a/\QX P q.cb=some b
 | [],_,_,_,_,_,_,_,_,h,_=>by cases h
 | .code _::K,_,_,_,_,_,_,_,_,h,.code _ _ _ _ _ _ _ _ hk=>H4 (K:=K) h hk
 | .ops _::K,_,_,_,_,_,_,_,_,h,.ops _ _ _ _ _ _ _ _ _ hk=>H4 (K:=K) h hk
 | .inBlock _::K,_,_,_,_,_,_,_,_,h,.inBlock _ _ _ _ _ _ hk=>H4 (K:=K) h hk
 | .inScope::K,_,_,_,_,_,_,_,_,h,.inScope _ _ _ _ _ hk=>H4 (K:=K) h hk
 | .inLoop _::K,_,_,_,_,_,_,_,_,h,.inLoop _ _ _ _ _ _ _ _ hk=>H4 (K:=K) h hk
 | .frame _ _::K,_,_,_,_,_,_,_,_,h,_=>by cases h
 | .rbeg::K,_,_,_,_,_,_,_,_,h,_=>by cases h
 | .rend _::K,_,_,_,_,_,_,_,_,h,_=>by cases h
 | .dops _::K,_,_,_,_,_,_,_,_,h,_=>by cases h
 | .dtr _::K,_,_,_,_,_,_,_,_,h,_=>by cases h
 | .res _ _ _ _::K,_,_,_,_,_,_,_,_,h,_=>by cases h
 | .rfrm res l ps a b j::K,_,_,_,_,_,_,_,_,h,.rfrm _ _ q lp _ _ _ _ sa _ sv ks r κ hr _ hps ht ha hb hj hk=>by
   cases hj with
   |none=>cases h;exact⟨q,sa,sv,ks,rfl,rfl,rfl,hps,ht,ha,hb⟩
   |some c vc hc=>cases h
theorem Rec.at_inj{q q':Rec}{st st':LoopState}{pe pe':Option Code}(h:q.at st pe=q'.at st' pe'):q=q':=by
 obtain⟨fn,ps,ca,cb,D,tmps⟩:=q
 obtain⟨fn',ps',ca',cb',D',tmps'⟩:=q'
 simp only[Rec.at,_root_.Go.Loop.mk.injEq]at h
 obtain⟨_,_,rfl,rfl,h1,rfl,rfl,rfl⟩:=h
 have:ps=ps':=by simpa using h1
 rw[this]
theorem Yh0{κ0:Km}{l l':Nat}{q:Rec}{c:Code}{vc a b:VC}{res:List VR}{ps:List Nat}(hc:QX P c=some vc){K:List It}{sv:List Act}{ks:List (Nat×Obj)}{r:Option Nat}{κ:Km}(hk:KRel P w0 κ0 (.rfrm res l' ps a b none::K) sv ((l,.loop (q.at .ready none))::ks) r κ):
 KRel P w0 κ0 (.rfrm res l' ps a b (some vc)::K) sv ((l,.loop (q.at .done (some c)))::ks) r κ:=by
 generalize hks:(l,Obj.loop (q.at .ready none))::ks=ks0 at hk
 cases hk with
 |rfrm res' l' q' lp a' b' j' fn sa K' sv ks' r κ hr ps' hps ht ha hb hj hk=>
  cases hj
  simp only[List.cons.injEq,Prod.mk.injEq,Obj.loop.injEq]at hks
  obtain⟨⟨rfl,h2⟩,rfl⟩:=hks
  cases Rec.at_inj h2
  exact .rfrm res l q _ a b (some vc) fn sa K sv ks _ _ hr ps hps ht ha hb (.some c vc hc) hk
theorem Hk{κ0:Km}{l:Nat}{q:Rec}{c:Code}{vc:VC}(hc:QX P c=some vc):∀{K:List It}{sv:List Act}{ks:List (Nat×Obj)}{r:Option Nat}{κ:Km},(ZO K).isSome=true->KRel P w0 κ0 K sv ((l,.loop (q.at .ready none))::ks) r κ->
 KRel P w0 κ0 (Fc vc K) sv ((l,.loop (q.at .done (some c)))::ks) r κ
 | [],_,_,_,_,h,_=>by cases h
 | .code _::K,_,_,_,_,h,.code _ _ _ _ _ _ _ hh hk=> .code _ _ _ _ _ _ _ hh (Hk hc (K:=K) h hk)
 | .ops _::K,_,_,_,_,h,.ops _ _ _ _ _ _ _ _ hh hk=> .ops _ _ _ _ _ _ _ _ hh (Hk hc (K:=K) h hk)
 | .inBlock _::K,_,_,_,_,h,.inBlock _ _ _ _ _ _ hk=> .inBlock _ _ _ _ _ _ (Hk hc (K:=K) h hk)
 | .inScope::K,_,_,_,_,h,.inScope _ _ _ _ _ hk=> .inScope _ _ _ _ _ (Hk hc (K:=K) h hk)
 | .inLoop _::K,_,_,_,_,h,.inLoop _ J _ _ _ _ _ _ hk=> .inLoop (fun _=>False) J _ _ _ _ _ (fun _ _ _ _ _ hI _=>hI.elim) (Hk hc (K:=K) h hk)
 | .frame _ _::K,_,_,_,_,h,_=>by cases h
 | .rbeg::K,_,_,_,_,h,_=>by cases h
 | .rend _::K,_,_,_,_,h,_=>by cases h
 | .dops _::K,_,_,_,_,h,_=>by cases h
 | .dtr _::K,_,_,_,_,h,_=>by cases h
 | .res _ _ _ _::K,_,_,_,_,h,_=>by cases h
 | .rfrm _ _ _ _ _ (some _)::K,_,_,_,_,h,_=>by cases h
 | .rfrm _ _ _ _ _ none::K,sv,ks,r,κ,h,hk=>Yh0 hc hk
theorem Ft{κ0:Km}{id:Nat}:∀{K K':List It}{sv:List Act}{ks:List (Nat×Obj)}{r:Option Nat}{κ:Km},Qo id K= .go K'->KRel P w0 κ0 K sv ks r κ->∃κ',KRel P w0 κ0 K' sv ks r κ'/\∀a w,κ' .normal a w->κ (.exit id) a w
 | [],_,_,_,_,_,h,_=>by cases h
 | .inBlock j::K,K',sv,_,_,_,h,.inBlock _ _ _ _ _ κ hk=>by
   simp only[Qo]at h
   cases hb:YJ j id with
   |true=>
    rw[hb]at h;cases h
    have:=Jy hb;subst this
    exact⟨κ,hk,fun a w hq=>by simpa [Exit.inBlock]using hq⟩
   |false=>
    rw[hb]at h
    obtain⟨κ',h1,h2⟩:=Ft h hk
    refine⟨κ',h1,fun a w hq=>?_⟩
    have hne:id≠j:=fun he=>XG hb he.symm
    simpa [Exit.inBlock,hne]using h2 a w hq
 | .inScope::K,K',_,_,_,_,h,.inScope _ _ _ _ κ hk=>let⟨κ',h1,h2⟩:=Ft (show Qo id K= .go K' from h) hk;⟨κ',h1,fun a w hq=>h2 a w hq⟩
 | .code _::K,K',_,_,_,_,h,.code _ _ _ _ _ _ κ _ hk=>let⟨κ',h1,h2⟩:=Ft (show Qo id K= .go K' from h) hk;⟨κ',h1,fun a w hq=>h2 a w hq⟩
 | .ops _::K,K',_,_,_,_,h,.ops _ _ _ _ _ _ _ κ _ hk=>let⟨κ',h1,h2⟩:=Ft (show Qo id K= .go K' from h) hk;⟨κ',h1,fun a w hq=>h2 a w hq⟩
 | .inLoop _::K,K',_,_,_,_,h,.inLoop _ _ _ _ _ _ κ _ hk=>let⟨κ',h1,h2⟩:=Ft (show Qo id K= .go K' from h) hk;⟨κ',h1,fun a w hq=>h2 a w hq⟩
 | .frame _ _::K,K',_,_,_,_,h,_=>by cases h
 | .rfrm .. ::K,K',_,_,_,_,h,_=>by cases h
 | .rbeg::K,K',_,_,_,_,h,_=>by cases h
 | .rend _::K,K',_,_,_,_,h,_=>by simp only[Qo,MO]at h;split at h <;> cases h
 | .dops _::K,K',_,_,_,_,h,_=>by cases h
 | .dtr _::K,K',_,_,_,_,h,_=>by cases h
 | .res _ _ _ _::K,K',_,_,_,_,h,_=>by cases h
structure Cp (P:Program) (w0:Cx0) (κ0:Km) (K':List It) (d:Option Nat) (sv:List Act) (ks:List (Nat×Obj)) (r:Option Nat) (f:Act->World->Prop):Prop where
 mk::(h:∃(c:Code) (q:Rec) (l:Nat) (ita:Act) (sv':List Act) (ks':List (Nat×Obj)) (κ':Km),sv=ita::sv'/\ks=(l,.loop (q.at .busy none))::ks'/\r=some l/\KRel P w0 κ0 K' sv' ((l,.loop (q.at .done (some c)))::ks') none κ'/\
  ∀a w v w',(Instr.endRound l (some c)).run P w= .ok v w'->κ' .normal (ita.put d v) w'->f a w)
theorem Fs{κ0:Km}{id:Nat}{d:Option Nat}:∀{K K':List It}{sv:List Act}{ks:List (Nat×Obj)}{r:Option Nat}{κ:Km},Qo id K= .jump d K'->KRel P w0 κ0 K sv ks r κ->Cp P w0 κ0 K' d sv ks r (κ (.exit id))
 | [],_,_,_,_,_,h,_=>by cases h
 | .inBlock j::K,K',sv,_,_,_,h,.inBlock _ _ _ _ _ κ hk=>by
   simp only[Qo]at h
   cases hb:YJ j id with
   |true=>rw[hb]at h;cases h
   |false=>
    rw[hb]at h
    have hne:id≠j:=fun he=>XG hb he.symm
    have:=Fs h hk
    have e:Exit.inBlock j κ (.exit id)=κ (.exit id):=by funext a w;simp [Exit.inBlock,hne]
    rw[e];exact this
 | .inScope::K,K',_,_,_,_,h,.inScope _ _ _ _ κ hk=>Fs (κ:=κ) (show Qo id K= .jump d K' from h) hk
 | .code _::K,K',_,_,_,_,h,.code _ _ _ _ _ _ κ _ hk=>Fs (κ:=κ) (show Qo id K= .jump d K' from h) hk
 | .ops _::K,K',_,_,_,_,h,.ops _ _ _ _ _ _ _ κ _ hk=>Fs (κ:=κ) (show Qo id K= .jump d K' from h) hk
 | .inLoop _::K,K',_,_,_,_,h,.inLoop _ _ _ _ _ _ κ _ hk=>Fs (κ:=κ) (show Qo id K= .jump d K' from h) hk
 | .frame _ _::K,K',_,_,_,_,h,_=>by cases h
 | .rfrm .. ::K,K',_,_,_,_,h,_=>by cases h
 | .rbeg::K,K',_,_,_,_,h,_=>by cases h
 | .rend _::K,K',_,_,_,_,h,.rend _ l q ita _ sv ks κ R hR hk=>by
   simp only[Qo]at h
   cases hf:ZO K with
   |none=>rw[hf]at h;cases h
   |some x=>
    rw[hf]at h;cases h
    exact⟨.exit id,q,l,ita,sv,ks,κ,rfl,rfl,rfl,Hk rfl (by rw[hf];rfl) hk,fun a w v w' h1 h2=>⟨v,w',h1,hR v w' h2⟩⟩
 | .dops _::K,K',_,_,_,_,h,_=>by cases h
 | .dtr _::K,K',_,_,_,_,h,_=>by cases h
 | .res _ _ _ _::K,K',_,_,_,_,h,_=>by cases h
theorem Fq{fn0:Func}{R0:Ending->World->Prop}:∀{K K':List It}{sv:List Act}{ks:List (Nat×Obj)}{r:Option Nat}{κ:Km},Qn K= .go K'->KRel P w0 (bodyPostM (Wd none) 0 P fn0 R0) K sv ks r κ->∃κ',KRel P w0 (bodyPostM (Wd none) 0 P fn0 R0) K' sv ks r κ'/\∀a w,κ' .normal a w->κ .ret a w
 | [],_,_,_,_,_,h,.nil=>by cases h;exact⟨_,.nil,fun _ _ h=>h⟩
 | .inBlock j::K,K',sv,_,_,_,h,.inBlock _ _ _ _ _ κ hk=>let⟨κ',h1,h2⟩:=Fq (show Qn K= .go K' from h) hk;⟨κ',h1,fun a w hq=>h2 a w hq⟩
 | .inScope::K,K',_,_,_,_,h,.inScope _ _ _ _ κ hk=>let⟨κ',h1,h2⟩:=Fq (show Qn K= .go K' from h) hk;⟨κ',h1,fun a w hq=>h2 a w hq⟩
 | .code _::K,K',_,_,_,_,h,.code _ _ _ _ _ _ κ _ hk=>let⟨κ',h1,h2⟩:=Fq (show Qn K= .go K' from h) hk;⟨κ',h1,fun a w hq=>h2 a w hq⟩
 | .ops _::K,K',_,_,_,_,h,.ops _ _ _ _ _ _ _ κ _ hk=>let⟨κ',h1,h2⟩:=Fq (show Qn K= .go K' from h) hk;⟨κ',h1,fun a w hq=>h2 a w hq⟩
 | .inLoop _::K,K',_,_,_,_,h,.inLoop _ _ _ _ _ _ κ _ hk=>let⟨κ',h1,h2⟩:=Fq (show Qn K= .go K' from h) hk;⟨κ',h1,fun a w hq=>h2 a w hq⟩
 | .frame d r::K,_,_,_,_,_,h,.frame _ _ fn sa _ sv ks r' κ R hh hR hk=>by cases h;exact⟨_,.frame d r fn sa K sv ks r' κ R hh hR hk,fun _ _ h=>h⟩
 | .rfrm res l ps a b j::K,_,_,_,_,_,h,.rfrm _ _ q lp _ _ _ fn sa _ sv ks r κ hr _ hps ht ha hb hj hk=>by cases h;exact⟨_,.rfrm res l q lp a b j fn sa K sv ks r κ hr ps hps ht ha hb hj hk,fun _ _ h=>h⟩
 | .rbeg::K,_,_,_,_,_,h,_=>by cases h
 | .rend _::K,_,_,_,_,_,h,_=>by simp only[Qn,MO]at h;split at h <;> cases h
 | .dops _::K,_,_,_,_,_,h,_=>by cases h
 | .dtr _::K,_,_,_,_,_,h,_=>by cases h
 | .res _ _ _ _::K,_,_,_,_,_,h,_=>by cases h
theorem Fp{κ0:Km}{d:Option Nat}:∀{K K':List It}{sv:List Act}{ks:List (Nat×Obj)}{r:Option Nat}{κ:Km},Qn K= .jump d K'->KRel P w0 κ0 K sv ks r κ->Cp P w0 κ0 K' d sv ks r (κ .ret)
 | [],_,_,_,_,_,h,_=>by cases h
 | .inBlock j::K,K',sv,_,_,_,h,.inBlock _ _ _ _ _ κ hk=>Fp (κ:=κ) (show Qn K= .jump d K' from h) hk
 | .inScope::K,K',_,_,_,_,h,.inScope _ _ _ _ κ hk=>Fp (κ:=κ) (show Qn K= .jump d K' from h) hk
 | .code _::K,K',_,_,_,_,h,.code _ _ _ _ _ _ κ _ hk=>Fp (κ:=κ) (show Qn K= .jump d K' from h) hk
 | .ops _::K,K',_,_,_,_,h,.ops _ _ _ _ _ _ _ κ _ hk=>Fp (κ:=κ) (show Qn K= .jump d K' from h) hk
 | .inLoop _::K,K',_,_,_,_,h,.inLoop _ _ _ _ _ _ κ _ hk=>Fp (κ:=κ) (show Qn K= .jump d K' from h) hk
 | .frame _ _::K,K',_,_,_,_,h,_=>by cases h
 | .rfrm .. ::K,K',_,_,_,_,h,_=>by cases h
 | .rbeg::K,K',_,_,_,_,h,_=>by cases h
 | .rend _::K,K',_,_,_,_,h,.rend _ l q ita _ sv ks κ R hR hk=>by
   simp only[Qn]at h
   cases hf:ZO K with
   |none=>rw[hf]at h;cases h
   |some x=>
    rw[hf]at h;cases h
    exact⟨.ret,q,l,ita,sv,ks,κ,rfl,rfl,rfl,Hk rfl (by rw[hf];rfl) hk,fun a w v w' h1 h2=>⟨v,w',h1,hR v w' h2⟩⟩
 | .dops _::K,K',_,_,_,_,h,_=>by cases h
 | .dtr _::K,K',_,_,_,_,h,_=>by cases h
 | .res _ _ _ _::K,K',_,_,_,_,h,_=>by cases h
theorem Fk{κ0:Km}:∀{K:List It}{sv:List Act}{ks:List (Nat×Obj)}{r:Option Nat}{κ:Km},UJ K=true->KRel P w0 κ0 K sv ks r κ->r=none
 | [],_,_,_,_,_,.nil=>rfl
 | .code _::K,_,_,_,_,h,.code _ _ _ _ _ _ _ _ hk=>Fk (K:=K) h hk
 | .ops _::K,_,_,_,_,h,.ops _ _ _ _ _ _ _ _ _ hk=>Fk (K:=K) h hk
 | .inBlock _::K,_,_,_,_,h,.inBlock _ _ _ _ _ _ hk=>Fk (K:=K) h hk
 | .inScope::K,_,_,_,_,h,.inScope _ _ _ _ _ hk=>Fk (K:=K) h hk
 | .inLoop _::K,_,_,_,_,h,.inLoop _ _ _ _ _ _ _ _ hk=>Fk (K:=K) h hk
 | .frame _ _::_,_,_,_,_,_,.frame .. =>rfl
 | .rfrm .. ::_,_,_,_,_,_,.rfrm .. =>rfl
 | .rbeg::K,_,_,_,_,h,_=>by cases h
 | .rend _::K,_,_,_,_,h,_=>by cases h
theorem Yjp{hp:List HO}{bs:List BK}{B:Bd}{w:World}{t:TypeId}{agg:Bool}{size:Nat}{x:SV}{u:Value}{e:Ef}(ha:ZI P t=some agg)(hs:sizeOf? P t=some size)
 (h1:agg=false->size=1)(he:V2 hp agg size [x]=some e)(hpre:e.pre)(hx:RepL w bs B [x] [u])(hH:Hp w bs B hp):∃ad v,u= .pointer (some ad)/\(loadVar t ad).run P w= .ok v w/\Rep w bs B e.val v:=by
 have hq:=Oi (P:=P) (ρ:=fun _=>u) (x:= .tmp 0) ha hs h1 he hpre hx hH
 obtain⟨_,v,hrun,hr⟩:=hq
 simp only[V2]at he
 obtain⟨⟨p,cs⟩,hc,he⟩:=YE.1 he
 cases Ko he
 obtain⟨v',_,hv,hx1,_⟩:=hx.cons_inv
 cases hv
 obtain⟨ad,vals,hv,_⟩:=SM hc hpre.1 hx1 hH
 subst hv
 refine⟨ad,v,rfl,?_,hr⟩
 have h2:=hrun none 0 "" #[] none
 simp only[execOp,Instr.loadAt,Instr.sureAddr,Sem.run_bind,Sem.run_pure,Result.andThen_ok]at h2
 generalize(loadVar t ad).run P w=rr at h2
 cases rr with
 |ok a w2=>simp only[Result.andThen_ok,Result.ok.injEq,Next.value.injEq]at h2;rw[h2.1,h2.2]
 |halt a w2=>simp at h2
def rv(tmps:Array Value):ResultVar->Sem Value
 | .tmp t=>pure (tmps.getD t undef)
 | .cell a t=>do loadVar t (<-asAddr (tmps.getD a undef))
theorem Yna(fn:Func)(tmps:Array Value):results fn tmps=(do let vs<-fn.results.mapM (rv tmps);pure (if h:vs.size=1 then vs[0]else .tuple vs)):=rfl
theorem Ybq{s:S}{a:Act}{bs:List BK}{w:World}(hf:RepL w bs w0.bd s.fr a.tmps.toList)(hH:Hp w bs w0.bd s.hp):∀{rs:List ResultVar}{vs:List VR}{p:Prop}{xs:List SV},Ul P rs=some vs->ZV s vs=some (p,xs)->p->
 ∃us,(rs.mapM (rv a.tmps)).run P w= .ok us w/\RepL w bs w0.bd xs us
 | [],vs,p,xs,h,h',hp=>by
   simp only[Ul,Option.some.injEq]at h;subst h
   simp only[ZV,Option.some.injEq,Prod.mk.injEq]at h'
   obtain⟨_,rfl⟩:=h'
   exact⟨[],by simp,.nil⟩
 |r::rs,vs,p,xs,h,h',hp=>by
  simp only[Ul]at h
  obtain⟨x,hx,h⟩:=YE.1 h
  obtain⟨vs',hvs,rfl⟩:=YQ.1 h
  simp only[ZV]at h'
  obtain⟨⟨p1,v1⟩,hv1,h'⟩:=YE.1 h'
  obtain⟨⟨q,l⟩,hl,h'⟩:=YQ.1 h'
  simp only[Prod.mk.injEq]at h'
  obtain⟨rfl,rfl⟩:=h'
  obtain⟨us,hus,hr⟩:=Ybq hf hH hvs hl hp.2
  cases r with
  |tmp t=>
   simp only[GU,Option.some.injEq]at hx;subst hx
   simp only[AB,Option.some.injEq,Prod.mk.injEq]at hv1
   obtain⟨_,rfl⟩:=hv1
   refine⟨a.tmps.getD t undef::us,?_,.cons _ _ _ _ ?_ hr⟩
   ·simp only[List.mapM_cons,rv,Sem.run_bind,Sem.run_pure,Result.andThen_ok,hus]
   ·have:=hf.get t (d:=undef)
    simpa [Array.getD_eq_getD_getElem?,List.getD]using this
  |cell ad t=>
   simp only[GU]at hx
   obtain⟨g,hg,hx⟩:=YE.1 hx
   obtain⟨sz,hsz,hx⟩:=YE.1 hx
   split at hx <;> cases hx
   simp only[AB]at hv1
   obtain⟨e,he,hv1⟩:=YQ.1 hv1
   simp only[Prod.mk.injEq]at hv1
   obtain⟨rfl,rfl⟩:=hv1
   have hrep:Rep w bs w0.bd (Kr s.fr ad) (a.tmps.getD ad undef):=by
    have:=hf.get ad (d:=undef)
    simpa [Array.getD_eq_getD_getElem?,List.getD]using this
   obtain⟨adr,v,hptr,hrun,hrv⟩:=Yjp (P:=P) hg hsz (Ds ‹_›) he hp.1 (RepL.cons _ _ _ _ hrep .nil) hH
   refine⟨v::us,?_,.cons _ _ _ _ hrv hr⟩
   have e1:(asAddr (.pointer (some adr))).run P w= .ok adr w:=rfl
   simp only[List.mapM_cons,rv,Sem.run_bind,hptr,e1,Sem.run_pure,Result.andThen_ok,hrun,hus]
theorem Pq{fn:Func}{s:S}{a:Act}{bs:List BK}{w:World}(hf:RepL w bs w0.bd s.fr a.tmps.toList)(hH:Hp w bs w0.bd s.hp){vs:List VR}{p:Prop}{xs:List SV}(h:Ul P fn.results.toList=some vs)(h':ZV s vs=some (p,xs))(hp:p):
 ∃v,(results fn a.tmps).run P w= .ok v w/\Rep w bs w0.bd (GR xs) v:=by
 obtain⟨us,hus,hr⟩:=Ybq hf hH h h' hp
 have hm:(fn.results.mapM (rv a.tmps)).run P w= .ok us.toArray w:=by
  rw[Array.mapM_eq_mapM_toList]
  simp only[Sem.run_map,hus,Result.andThen_ok]
 refine⟨if h:us.toArray.size=1 then us.toArray[0]else .tuple us.toArray,?_,?_⟩
 ·rw[Yna]
  simp only[Sem.run_bind,hm,Result.andThen_ok,Sem.run_pure]
 ·cases hr with
  |nil=>exact .tup _ _ .nil
  |cons x v l us h1 h2=>
   cases h2 with
   |nil=>simpa [GR]using h1
   |cons x' v' l' us' h3 h4=>
    have:=Rep.tup _ _ (RepL.cons _ _ _ _ h1 (RepL.cons _ _ _ _ h3 h4))
    simpa [GR]using this
end
end Go.Vx
namespace Go.Vx
open Go.RowKit
section
variable {w:World} {bs bs':List BK} {B B':Bd} {i n:Nat} {C:Nat->Int->Prop}
structure Pub (w:World) (bs bs':List BK) (B B':Bd) (i n:Nat) (C:Nat->Int->Prop):Prop where
 ne:∀j,j≠i->bs'[j]? =bs[j]?
 at':∀b c n,bs'[i]? ≠some (.blk b c n)
 notnil:bs[i]? ≠some .nil
 blk:∀b cap m,bs[i]? =some (.blk b cap m)->m=n/\n<=cap/\B'.I b=some (.ints n C)
 pos:0<n
 k:ZG w bs B w bs' B'
theorem Pub.back(h:Pub w bs bs' B B' i n C){j b c m:Nat}(hj:bs'[j]? =some (.blk b c m)):j≠i/\bs[j]? =some (.blk b c m):=by
 have hne:j≠i:=fun he=>h.at' b c m (he▸hj)
 exact⟨hne,(h.ne j hne)▸hj⟩
mutual
theorem Pf(i n:Nat)(C:Nat->Int->Prop):∀{s:SV}{v:Value},XRep w bs B s v->XRep w bs B (Va i n C s) v
 |_,_,.int k n=> .int k n
 |_,_,.bool b=> .bool b
 |_,_,.val v=> .val v
 |_,_,.nil=> .nil
 |_,_,.junk v=> .junk v
 |_,_,.agg cs vs h=> .agg _ vs (Nl i n C h)
 |_,_,.tup cs vs h=> .tup _ vs (Nl i n C h)
 |_,_,.fn f fs cs us vs h h'=> .fn f _ _ us vs (Nl i n C h) (Nl i n C h')
 |_,_,.iface t x v h=> .iface t _ v (Pf i n C h)
 |_,_,.vs t z n size get a cap vals hz hc hn hcell h=> .vs t z n size get a cap vals hz hc hn hcell h
 |_,_,.xp t cs ad vals hs hf ht hc h=> .xp t cs ad vals hs hf ht hc h
 |_,_,.row n C b cap h1 h2=> .row n C b cap h1 h2
 |_,_,.rcell D n C k b h1 h2 h3=> .rcell D n C k b h1 h2 h3
 |_,_,.imap kk C b h1=> .imap kk C b h1
theorem Nl(i n:Nat)(C:Nat->Int->Prop):∀{l:List SV}{vs:List Value},XRepL w bs B l vs->XRepL w bs B (Wh i n C l) vs
 |_,_,.nil=> .nil
 |_,_,.cons x v l vs h h'=> .cons _ v _ vs (Pf i n C h) (Nl i n C h')
end
mutual
theorem Ap(hf:Pub w bs bs' B B' i n C):∀{s:SV}{v:Value},Rep w bs B s v->Rep w bs' B' (Va i n C s) v
 |_,_,.x s v h=> .x _ v ((Pf i n C h).keepG hf.k)
 |_,_,.agg cs vs h=> .agg _ vs (UL hf h)
 |_,_,.tup cs vs h=> .tup _ vs (UL hf h)
 |_,_,.fn f fs cs us vs h h'=> .fn f _ _ us vs (UL hf h) (UL hf h')
 |_,_,.iface t x v h=> .iface t _ v (Ap hf h)
 |_,_,.ptr j off b m h=>by
  simp only[Va]
  cases hj:YJ j i with
  |true=>exact .x _ _ (.junk _)
  |false=>exact .ptr _ _ _ _ ((hf.ne j (XG hj)).symm▸h)
 |_,_,.own j lo m size b cap mm ad h hl ha=>by
  simp only[Va]
  cases hj:YJ j i with
  |false=>exact .own _ _ _ _ b cap mm ad ((hf.ne j (XG hj)).symm▸h) hl ha
  |true=>
   have:=GB hj;subst this
   simp only[cond_true]
   cases h1:YJ lo 0 with
   |false=>exact .x _ _ (.junk _)
   |true=>
    cases h2:YJ m n with
    |false=>exact .x _ _ (.junk _)
    |true=>
     cases h3:YJ size 1 with
     |false=>exact .x _ _ (.junk _)
     |true=>
      have:=GB h1;subst this
      have:=GB h2;subst this
      have:=GB h3;subst this
      obtain⟨g1,g2,g3⟩:=hf.blk b cap mm h
      have had:ad=⟨b,0,none⟩:=by
       rcases ha with h| ⟨_,h⟩
       ·simpa using h
       ·omega
      subst had
      simp only[Nat.sub_zero,Bool.and_self,cond_true]
      exact .x _ _ (.row _ _ _ _ g3 g2)
 |_,_,.ownNil j size h=>by
  simp only[Va]
  cases hj:YJ j i with
  |false=>exact .ownNil _ _ ((hf.ne j (XG hj)).symm▸h)
  |true=>
   have:=GB hj;subst this
   exact absurd h hf.notnil
 |_,_,.elem j k off size b cap m h hk=>by
  simp only[Va]
  cases hj:YJ j i with
  |true=>exact .x _ _ (.junk _)
  |false=>exact .elem _ _ _ _ _ _ _ ((hf.ne j (XG hj)).symm▸h) hk
 |_,_,.smp j b h=>by
  simp only[Va]
  cases hj:YJ j i with
  |true=>exact .x _ _ (.junk _)
  |false=>exact .smp _ _ ((hf.ne j (XG hj)).symm▸h)
 |_,_,.optT x v h=> .optT _ v (Ap hf h)
 |_,_,.optF x=> .optF _
 |_,_,.cut x a n cap h=> .cut _ a n cap (Ap hf h)
theorem UL(hf:Pub w bs bs' B B' i n C):∀{l:List SV}{vs:List Value},RepL w bs B l vs->RepL w bs' B' (Wh i n C l) vs
 |_,_,.nil=> .nil
 |_,_,.cons x v l vs h h'=> .cons _ v _ vs (Ap hf h) (UL hf h')
end
theorem YaL(hf:Pub w bs bs' B B' i n C):∀{l:List (List SV)}{vs:List (List Value)},RepLL w bs B l vs->RepLL w bs' B' (Am i n C l) vs
 |_,_,.nil=> .nil
 |_,_,.cons x v l vs h h'=> .cons _ v _ vs (UL hf h) (YaL hf h')
def YaK(i n:Nat)(C:Nat->Int->Prop):HO->HO
 | .box cs=> .box (Wh i n C cs)
 | .own z' s m g=> .own z' s m (fun k=>Wh i n C (g k))
 | .smap l=> .smap l
 | .gone=> .gone
theorem Ij:∀(hp:List HO)(j:Nat),Ys (W9 i n C hp) j=YaK i n C (Ys hp j)
 | [],j=>by cases j <;> rfl
 |h::l,0=>by cases h <;> rfl
 |h::l,j+1=>by cases h <;> simpa [W9,Ys]using Ij l j
theorem Ln:∀(hp:List HO),Yi (W9 i n C hp)=Yi hp
 | []=>rfl
 |h::l=>by cases h <;> simp [W9,Yi,Ln l]
theorem Yk4{D:Int->Prop}{l:List SV}{vs:List Value}(h:Al D l)(hr:RepL w bs B l vs):∃v,vs=[.int .i64 v]/\D v:=by
 unfold Al at h
 split at h
 ·rename_i v
  obtain⟨u,us,rfl,h1,h2⟩:=hr.cons_inv
  rw[h1.int_inv,h2.nil_inv]
  exact⟨v,rfl,h⟩
 ·exact h.elim
theorem Yk3{w0:Cx0}{ks:List (Nat×Obj)}{J:Nat->Option IK}{hJ:Ext w0 J}{s:S}{a:Act}{sv:List Act}(i n:Nat)(C:Nat->Int->Prop)(hp1:Pe n C (Ys s.hp i))(hr:Rl ⟨w0.wI J hJ,ks⟩ s a sv w):
 ∃J',∃hJ':Ext w0 J',Rl ⟨w0.wI J' hJ',ks⟩ (Nk s i n C) a sv w:=by
 cases hg:Ys s.hp i with
 |box cs=>rw[hg]at hp1;exact hp1.elim
 |smap l=>rw[hg]at hp1;exact hp1.elim
 |gone=>rw[hg]at hp1;exact hp1.elim
 |own z sz N get=>
  rw[hg]at hp1
  obtain⟨⟨rfl,rfl,hpos⟩,hC⟩:=hp1
  obtain⟨bs,h1,h2,hH,hb,ho⟩:=hr
  have hlen:=hH.len
  have hi:i<Yi s.hp:=by
   rcases YY i (Yi s.hp)with h|h
   ·exact h
   ·rw[WU _ _ h]at hg;cases hg
  have hent:=hH.ent i
  rw[hg]at hent
  rcases hent with⟨_,_,h0⟩ | ⟨blk,cap,vs,T,e1,e2,e3,e4,e5,e6⟩
  ·omega
  have hun:J blk=none:=hH.un e1
  have hlo:w0.heap.size<=blk:=(hH.lo _ _ _ _ e1).1
  let J':Nat->Option IK:=fun b=>if b=blk then some (.ints N C)else J b
  have hJ':Ext w0 J':=⟨fun b hb=>by show(if b=blk then _ else _)=_;rw[if_neg (by omega)];exact hJ.old b hb,fun b K hK=>by
   show(if b=blk then _ else _)=_
   have:=hJ.sub b K hK
   rw[if_neg (by rintro rfl;rw[hun]at this;cases this)];exact this⟩
  have hsub:∀b K,J b=some K->J' b=some K:=fun b K hK=>by
   show(if b=blk then _ else _)=_
   rw[if_neg (by rintro rfl;rw[hun]at hK;cases hK)];exact hK
  let bs':=bs.set i .gone
  have hat:bs'[i]? =some .gone:=by simp [bs',VM,hlen,hi]
  have hne:∀j,j≠i->bs'[j]? =bs[j]? :=fun j hj=>by simp [bs',VM];intro h;exact absurd h.symm hj
  have hback:∀{j b c m:Nat},bs'[j]? =some (.blk b c m)->j≠i/\bs[j]? =some (.blk b c m):=by
   intro j b c m hj
   have hji:j≠i:=by rintro rfl;rw[hat]at hj;cases hj
   exact⟨hji,(hne j hji)▸hj⟩
  have hfree:∀{b},JD bs b->JD bs' b:=fun hf j b' c m hj=>hf j b' c m (hback hj).2
  have hkeep:Keeps w bs w bs':=fun _ hf _ ho=>⟨ho,hfree hf⟩
  have hk:ZG w bs (w0.wI J hJ).bd w bs' (w0.wI J' hJ').bd:=by
   refine⟨rfl,hsub,fun b hf cs T fz hcs=>⟨hcs,hfree hf.1,hf.2.1,?_⟩⟩
   show(if b=blk then _ else _)=_
   rw[if_neg (by rintro rfl;exact hf.1 _ _ _ _ e1 rfl)];exact hf.2.2
  have hsat:(IK.ints N C).ok (.cells vs T (0,0)):=by
   refine⟨vs,T,rfl,by rw[e4];omega,fun k hk=>?_⟩
   obtain⟨v,h3,h4⟩:=Yk4 (hC k hk) (e6 k hk)
   refine⟨v,?_,h4⟩
   have h5:((vs.toList.drop (k*1)).take 1)[0]? =some (.int .i64 v):=by rw[h3];rfl
   simpa [XR]using h5
  have hf:Pub w bs bs' (w0.wI J hJ).bd (w0.wI J' hJ').bd i N C:=by
   refine⟨hne,fun b c m h=>?_,fun h=>?_,fun b c m h=>?_,hpos,hk⟩
   ·rw[hat]at h;cases h
   ·rw[e1]at h;cases h
   ·rw[e1]at h;cases h
    exact⟨rfl,e5,by show(if blk=blk then _ else _)=_;rw[if_pos rfl]⟩
  refine⟨J',hJ',bs',UL hf h1,YaL hf h2,⟨?_,fun j=>?_,fun j j' b c k c' k' g1 g2=>hH.inj _ _ _ _ _ _ _ (hback g1).2 (hback g2).2,fun j b c k g1=>hH.lo j b c k (hback g1).2,fun b K hK=>?_⟩,⟨hb.os,hb.tape,hb.output,hb.size,fun k hk hI=>hb.block k hk ?_⟩,?_⟩
  ·simp [bs',Nk,Hn,Ln,hlen]
  ·by_cases hj:j=i
   ·subst hj
    show HRep w bs' _ j (Ys (KL (W9 j N C s.hp) j .gone) j)
    rw[H9 _ _ _ (by rw[Ln];exact hi)]
    exact .inl hat
   ·show HRep w bs' _ j (Ys (KL (W9 i N C s.hp) i .gone) j)
    rw[WV _ _ _ _ (Ne.symm hj),Ij]
    have hentj:=hH.ent j
    cases hgj:Ys s.hp j with
    |gone=>
     rw[hgj]at hentj
     simp only[YaK,HRep,hne j hj];exact hentj
    |smap l=>
     rw[hgj]at hentj
     obtain⟨b,es,c,q1,q2,q3⟩:=hentj
     exact⟨b,es,c,by rw[hne j hj];exact q1,q2,q3⟩
    |box cs=>
     rw[hgj]at hentj
     obtain⟨b,vs,T,q1,q2,q3⟩:=hentj
     exact⟨b,vs,T,by rw[hne j hj];exact q1,q2,UL hf q3⟩
    |own z' s' n' g'=>
     rw[hgj]at hentj
     rcases hentj with⟨q1,q2,q3⟩ | ⟨b,cap,vs,T,q1,q2,q3,q4,q5,q6⟩
     ·exact .inl ⟨by rw[hne j hj];exact q1,q2,q3⟩
     ·exact .inr ⟨b,cap,vs,T,by rw[hne j hj];exact q1,q2,q3,q4,q5,fun k hk=>UL hf (q6 k hk)⟩
  ·by_cases hb':b=blk
   ·subst hb'
    have hK':some (IK.ints N C)=some K:=by have h:J' b=some K:=hK;simpa [J']using h
    cases hK'
    refine⟨fun j b' c m hj he=>?_,_,e3,hsat⟩
    subst he
    obtain⟨g1,g2⟩:=hback hj
    exact g1 (hH.inj _ _ _ _ _ _ _ g2 e1)
   ·have h:J b=some K:=by have h:J' b=some K:=hK;simpa [J',hb']using h
    obtain⟨g1,g2⟩:=hH.reg b K h
    exact⟨hfree g1,g2⟩
  ·have hI:J' k=none:=hI
   show J k=none
   cases hq:J k with
   |none=>rfl
   |some K=>rw[hsub k K hq]at hI;cases hI
  ·have:=ho.keep hkeep
   exact⟨this.kn,this.nd,this.ms⟩
theorem YaM{w0:Cx0}{ks:List (Nat×Obj)}{a:Act}{sv:List Act}:∀(l:List (Nat×Nat×(Nat->Int->Prop))){J:Nat->Option IK}{hJ:Ext w0 J}{s:S},An l s->Rl ⟨w0.wI J hJ,ks⟩ s a sv w->∃J',∃hJ':Ext w0 J',Rl ⟨w0.wI J' hJ',ks⟩ (Ao l s) a sv w
 | [],J,hJ,_,_,hr=>⟨J,hJ,hr⟩
 | (i,n,C)::l,_,_,_,h,hr=>by
   obtain⟨J',hJ',hr'⟩:=Yk3 i n C h.1 hr
   exact YaM l h.2 hr'
theorem I4{w0:Cx0}{ks:List (Nat×Obj)}{a:Act}{sv:List Act}{J:Nat->Option IK}{hJ:Ext w0 J}{s s':S}(h:leP s s')(hr:Rl ⟨w0.wI J hJ,ks⟩ s a sv w):∃J',∃hJ':Ext w0 J',Rl ⟨w0.wI J' hJ',ks⟩ s' a sv w:=by
 obtain⟨l,h1,h2⟩:=h
 obtain⟨J',hJ',hr'⟩:=YaM l h1 hr
 exact⟨J',hJ',YiE h2 hr'⟩
end
end Go.Vx
namespace Go.Vx
open Go.RowKit
section
variable {P:Program} {E:Env} {Q:SV->List HO->Prop} {vr:List VR} {w0:Cx}
theorem Cy{s:S}{a:Act}{bs:List BK}{B:Bd}{w:World}(hS:GlW P w bs B)(hf:RepL w bs B s.fr a.tmps.toList){o:Operand}{x:X}(h:X.of P o=some x):Rep w bs B (s.x x) (a.eval o):=by
 cases o with
 |tmp t=>
  simp only[X.of,Option.some.injEq]at h;subst h
  have:=hf.get t (d:=undef)
  simpa [S.x,Act.eval,Array.getD_eq_getD_getElem?,List.getD]using this
 |const v=>
  simp only[X.of,Option.some.injEq]at h;subst h
  have hcell:∀u:Value,Rep w bs B (U8 u) u:=by
   intro u
   unfold U8
   split <;> exact .x _ _ (by constructor)
  have hcells:∀l:List Value,RepL w bs B (l.map U8) l:=by
   intro l
   induction l with
   |nil=>exact .nil
   |cons u l ih=>exact .cons _ _ _ _ (hcell u) ih
  show Rep w bs B (PS v) v
  unfold PS
  split
  ·rename_i cs
   have:=Rep.agg _ _ (hcells cs.toList)
   simpa using this
  ·exact hcell v
 |func f=>simp only[X.of,Option.some.injEq]at h;subst h;exact .x _ _ (.fn _ [] [] [] [] .nil .nil)
 |global g=>
  simp only[X.of]at h
  obtain⟨l,hl,rfl⟩:=YQ.1 h
  obtain⟨h1,h2⟩:=hS g l hl
  refine .x _ _ (.xp false (EV l) ⟨g,0,none⟩ (MF l) rfl h1 (fun h=>by cases h) h2 ?_)
  clear h hl h2
  induction l with
  |nil=>exact .nil
  |cons v l ih=>exact .cons _ _ _ _ (.int _ _) ih
theorem N8{s:S}{a:Act}{bs:List BK}{B:Bd}{w:World}(hS:GlW P w bs B)(hf:RepL w bs B s.fr a.tmps.toList):∀{os:List Operand}{xs:List X},X.ofs P os=some xs->RepL w bs B (s.args xs) (os.map a.eval)
 | [],xs,h=>by simp only[X.ofs,Option.some.injEq]at h;subst h;exact .nil
 |o::os,xs,h=>by
  simp only[X.ofs]at h
  obtain⟨y,hy,h⟩:=YE.1 h
  obtain⟨ys,hys,rfl⟩:=YQ.1 h
  exact .cons _ _ _ _ (Cy hS hf hy) (N8 hS hf hys)
theorem Ra{bs:List BK}{B:Bd}{w:World}{gb:Bool}(hg:gb=true):∀{l:List SV}{vs:List Value},RepL w bs B l vs->(GS gb l).1->RepL w bs B (GS gb l).2 vs
 |_,_,.nil,_=> .nil
 |_,_,.cons x v l vs h h',hp=>by
  refine .cons _ _ _ _ ?_ (Ra hg h' hp.2)
  have hp1:=hp.1
  cases x <;> try exact h
  rename_i b y
  have hb:=hp1 hg
  subst hb
  cases h with
  |x _ _ h=>cases h
  |optT _ _ h=>exact h
theorem YoI{bs:List BK}{B:Bd}{w:World}{gb:Bool}(hg:gb=true){x:SV}{v:Value}(h:Rep w bs B x v)(hp1:(HC gb x).1):Rep w bs B (HC gb x).2 v:=by
 cases x <;> try exact h
 rename_i b y
 have hb:=hp1 hg
 subst hb
 cases h with
 |x _ _ h=>cases h
 |optT _ _ h=>exact h
theorem NM{bs:List BK}{B:Bd}{w:World}{gb:Bool}{o:VO}(hg:gb=true){l:List SV}{vs:List Value}(h:RepL w bs B l vs)(hp:(Qh o gb l).1):RepL w bs B (Qh o gb l).2 vs:=by
 unfold Qh A9 at*
 split at hp
 ·exact Ra hg h hp
 ·split at hp
  ·cases h with
   |cons _ v _ vs h1 h2=>exact .cons _ _ _ _ (YoI hg h1 hp) h2
  ·exact Ra hg h hp
theorem Nr{s:S}{a:Act}{bs:List BK}{B:Bd}{w:World}(hf:RepL w bs B s.fr a.tmps.toList){d:Option Nat}{x:SV}{v:Value}(hx:Rep w bs B x v):RepL w bs B (s.put d x).fr (a.put d v).tmps.toList:=by
 cases d with
 |none=>exact hf
 |some d=>
  show RepL w bs B (Kq s.fr d x) (a.tmps.setIfInBounds d v).toList
  rw[Array.toList_setIfInBounds]
  exact hf.set d hx
theorem Av(s:S)(d:Option Nat)(x:SV):(s.put d x).saved=s.saved:=by cases d <;> rfl
theorem Vv(s:S)(d:Option Nat)(x:SV):(s.put d x).hp=s.hp:=by cases d <;> rfl
theorem Nq(a:Act)(d:Option Nat)(v:Value):(a.put d v).defers=a.defers:=by cases d <;> rfl
theorem NO{s:S}{a:Act}{sv:List Act}{w:World}{bs:List BK}{e:Ef}{op:Op}(hf:RepL w bs w0.bd s.fr a.tmps.toList)(hs:RepLL w bs w0.bd s.saved (sv.map (·.tmps.toList))) (hb:BelowI w0.bd w0.toWorld w) (ho:Oth w bs w0.bd w0.ks ((a::sv).map (·.defers)))
 {w':World} {bs':List BK} {v:Value} (hr:Rep w' bs' w0.bd e.val v) (hH:Hp w' bs' w0.bd (Rc s.hp e.upd)) (hk:Keeps w bs w' bs') (hst:Stays (Ycz e.upd) bs bs') (hbb:Below w0.heap.size w w') (d:Option Nat):
 Rl w0 ((s.upd e.upd).put d e.val) (a.put d v) sv w':=by
 refine⟨bs',?_,?_,?_,hb.trans (BelowI.of hbb),by rw[KH,Nq];exact ho.keep hk⟩
 ·refine Nr ?_ hr
  cases hu:e.upd <;> rw[hu]at hst <;> simp only[S.upd]
  ·exact hf.keep hk hst JA
  ·exact hf.keep hk hst JA
  ·exact hf.keep hk hst JA
  ·exact UN hk hst hf
 ·rw[Av]
  cases hu:e.upd <;> rw[hu]at hst <;> simp only[S.upd]
  ·exact hs.keep hk hst
  ·exact hs.keep hk hst
  ·exact hs.keep hk hst
  ·exact YaQ hk hst hs
 ·rw[Vv]
  cases hu:e.upd <;> rw[hu]at hH <;> simpa [S.upd,Rc]using hH
theorem Ydt{o:Oper}{vo:VO}{ops:List Operand}(h:vop P o=some (vo,ops))(hc:UK o.op=true)(hvc:vo.isCall=true):∃c:Call,o.op= .call c/\
 ((∃f,vo= .call f/\c.callee= .value (.func f)/\ops=c.args.toList)\/(∃x,vo= .callv/\c.callee= .value x/\ops=x::c.args.toList)\/(∃x m,vo= .invoke m/\c.callee= .invoke x m)):=by
 obtain⟨dst,op,type,pos,after,guard⟩:=o
 cases op <;> try (cases hc;done)
 rename_i c
 refine⟨c,rfl,?_⟩
 simp only[UK]at hc
 unfold vop at h
 simp only at h
 cases hcal:c.callee with
 |builtin b=>rw[hcal]at hc;cases hc
 |invoke x m=>rw[hcal]at h;cases h;exact .inr (.inr ⟨_,_,rfl,rfl⟩)
 |value x=>
  rw[hcal]at h
  cases x with
  |func f=>
   simp only at h
   split at h
   ·cases h;cases hvc
   ·cases h;exact .inl ⟨_,rfl,rfl,rfl⟩
  |tmp t=>cases h;exact .inr (.inl ⟨_,rfl,rfl,rfl⟩)
  |const v=>cases h;exact .inr (.inl ⟨_,rfl,rfl,rfl⟩)
  |global g=>cases h;exact .inr (.inl ⟨_,rfl,rfl,rfl⟩)
theorem S6{o:VO}{xs ys:List SV}{c:Ctr}(h:Wy E o xs=some (c,ys)):∃f,callee E o xs=some (f,ys)/\E.ct f=some c/\o.isCall=true:=by
 unfold Wy at h
 split at h
 ·rename_i f
  cases hc:E.ct f with
  |none=>rw[hc]at h;cases h
  |some c'=>rw[hc]at h;cases h;exact⟨f,rfl,hc,rfl⟩
 ·rename_i m
  split at h
  ·rename_i t v l
   cases hm:E.meth t m with
   |none=>rw[hm]at h;cases h
   |some f=>
    rw[hm]at h
    simp only[ctI]at h
    cases hc:E.ct f with
    |none=>rw[hc]at h;cases h
    |some c'=>rw[hc]at h;cases h;exact⟨f,by simp only[callee,hm,C2],hc,rfl⟩
  ·cases h
 ·cases h
theorem HQ{ρ:Operand->Value}{o:Oper}{vo:VO}{ops:List Operand}{xs ys:List SV}{f:FuncId}{w:World}{bs:List BK}{B:Bd}(hm:∀t m f,E.meth t m=some f->MV P t m=some f)(hv:vop P o=some (vo,ops))(hcall:UK o.op=true)(hc:callee E vo xs=some (f,ys))(hx:RepL w bs B xs (ops.map ρ))
 (hρ:∀f,ρ (.func f)= .func (.func f) #[] #[]) (hen:Ur P f):∃vs:List Value,RepL w bs B ys vs/\(execOp ρ o).run P w= .ok (.enter f vs.toArray) w:=by
 obtain⟨c,hop,h⟩:=Ydt hv hcall (by unfold callee at hc;split at hc <;> first|rfl|cases hc)
 obtain⟨dst,op,type,pos,after,guard⟩:=o
 simp only at hop
 subst hop
 rcases h with⟨g,rfl,hcal,rfl⟩ | ⟨x,rfl,hcal,rfl⟩ | ⟨x,m,rfl,hcal⟩
 ·simp only[callee,Option.some.injEq,Prod.mk.injEq]at hc
  obtain⟨rfl,rfl⟩:=hc
  refine⟨c.args.toList.map ρ,hx,?_⟩
  have e:(c.args.toList.map ρ).toArray= #[]++c.args.map ρ++ #[]:=by apply Array.ext';simp
  rw[e]
  simp only[execOp,resolve,hcal,hρ,Deferred.ofValue,Sem.run_bind,Sem.run_pure,Result.andThen_ok,invoke,AD hen]
 ·simp only[callee]at hc
  cases xs with
  |nil=>cases hc
  |cons fv l=>
   simp only at hc
   unfold C1 at hc
   split at hc
   ·rename_i g a b
    simp only[Option.some.injEq,Prod.mk.injEq]at hc
    obtain⟨rfl,rfl⟩:=hc
    obtain⟨v,vs,hvs,h1,h2⟩:=hx.cons_inv
    simp only[KH,List.cons.injEq]at hvs
    obtain⟨hv1,rfl⟩:=hvs
    obtain⟨us,us',rfl,h3,h4⟩:=h1.fn_inv
    refine⟨us++(c.args.toList.map ρ++us'),h3.append (h2.append h4),?_⟩
    have e:(us++(c.args.toList.map ρ++us')).toArray=us.toArray++c.args.map ρ++us'.toArray:=by apply Array.ext';simp
    rw[e]
    simp only[execOp,resolve,hcal,hv1,Deferred.ofValue,Sem.run_bind,Sem.run_pure,Result.andThen_ok,invoke,AD hen]
   ·cases hc
 ·simp only[callee]at hc
  have hops:ops=x::c.args.toList:=by
   unfold vop at hv
   simp only[hcal]at hv
   cases hv;rfl
  subst hops
  split at hc
  ·rename_i t v l
   obtain⟨hg,hys⟩:E.meth t m=some f/\v::l=ys:=by
    cases hm':E.meth t m with
    |none=>rw[hm']at hc;cases hc
    |some g=>rw[hm']at hc;cases hc;exact⟨rfl,rfl⟩
   subst hys
   obtain⟨u,us,hvs,h1,h2⟩:=hx.cons_inv
   simp only[KH,List.cons.injEq]at hvs
   obtain⟨hv1,rfl⟩:=hvs
   obtain⟨u',rfl,h3⟩:=h1.iface_inv
   refine⟨u'::c.args.toList.map ρ,.cons _ _ _ _ h3 h2,?_⟩
   have e:(u'::c.args.toList.map ρ).toArray= #[u']++c.args.map ρ:=by apply Array.ext';simp
   rw[e]
   have e2:(#[Value.iface t u']++Array.map ρ c.args).extract 1 (#[Value.iface t u']++Array.map ρ c.args).size=Array.map ρ c.args:=by
    apply Array.ext'
    simp only[Array.toList_extract,Array.toList_append,Array.size_append,List.toList_toArray,List.extract_eq_take_drop,Ws,VP,List.drop_succ_cons,List.drop_zero]
    apply List.take_of_length_le
    simp
   have e3:(#[Value.iface t u']++Array.map ρ c.args)[0]? =some (Value.iface t u'):=by
    rw[<-Array.getElem?_toList,Array.toList_append];rfl
   simp only[execOp,resolve,hcal,hv1,Sem.run_bind,Sem.run_pure,Result.andThen_ok,invoke]
   simp only[e2,e3,Ynw (hm _ _ _ hg) hen]
  ·cases hc
theorem Hr{w:World}{bs:List BK}{B:Bd}:∀{n:Nat}{xs:List SV}{vs:List Value},RepL w bs B xs vs->RepL w bs B (X1 n xs) (vs++List.replicate (n-vs.length) undef)
 |n,_,_,.nil=>by
  have:∀n,RepL w bs B (F4 n) (List.replicate n undef):=by
   intro n
   induction n with
   |zero=>exact .nil
   |succ n ih=>exact .cons _ _ _ _ (.x _ _ (.junk _)) ih
  have e:X1 n []=F4 n:=by cases n <;> rfl
  rw[e];simpa using this n
 |0,_,_,.cons x v l vs h h'=>by simpa [X1]using RepL.cons x v l vs h h'
 |n+1,_,_,.cons x v l vs h h'=>by
  have:=Hr (n:=n) h'
  simpa [X1]using RepL.cons x v _ _ h this
theorem V3{bs bs2:List BK}{b:Nat}(h:JD bs b)(h2:JD bs2 b):JD (bs++bs2) b:=by
 intro i b' c n hi
 rw[Wt]at hi
 split at hi
 ·exact h _ _ _ _ hi
 ·exact h2 _ _ _ _ hi
section
variable {w:World} {bs bs2:List BK} {B B2:Bd}
def Uq(B B2:Bd)(bs:List BK)(p:Prop):Prop:=(∀b,B2.F b->Fr B bs b)\/p
mutual
theorem Rq{d:Nat}(hB:B.n<=B2.n)(hI:B.I=B2.I)(hlo:∀(i b c n:Nat),bs[i]? =some (.blk b c n)->b<B2):∀{s:SV}{v:Value},XRep w bs2 B2 s v->Uq B B2 bs (Y3 s)->XRep w (bs++bs2) B (shift d s) v
 |_,_,.int k n,_=> .int k n
 |_,_,.bool b,_=> .bool b
 |_,_,.val v,_=> .val v
 |_,_,.nil,_=> .nil
 |_,_,.junk v,_=> .junk v
 |_,_,.agg cs vs h,hf=> .agg _ vs (NU hB hI hlo h hf)
 |_,_,.tup cs vs h,hf=> .tup _ vs (NU hB hI hlo h hf)
 |_,_,.fn f fs cs us vs h h',hf=> .fn f _ _ us vs (NU hB hI hlo h (hf.imp id And.left)) (NU hB hI hlo h' (hf.imp id And.right))
 |_,_,.iface t x v h,hf=> .iface t _ v (Rq hB hI hlo h hf)
 |_,_,.vs t z n size get a cap vals hz hc hn hcell h,hf=> .vs t z n size get a cap vals hz hc hn
   (fun k hk=>by
     obtain⟨ad,h1,h2,h3,h4,h5,h6⟩:=hcell k hk
     refine⟨ad,h1,h2,?_,fun ht=>Yh hB (h4 ht),h5,h6⟩
     rcases hf with hf|hf
     ·exact⟨V3 (hf _ h3.2).1 h3.1,(hf _ h3.2).2⟩
     ·exact⟨V3 (fun i b c m hi he=>by have:=hlo i b c m hi;have:=h4 hf.1;omega) h3.1,B.up _ (Yh hB (h4 hf.1)) (by rw[hI];exact B2.ex _ h3.2)⟩)
   (fun k hk=>UW hB hI hlo (h k hk) (hf.imp id fun hf=>hf.2 k hk))
 |_,_,.xp t cs ad vals hs hfr ht hc h,hf=> .xp t cs ad vals hs
   (by
     rcases hf with hf|hf
     ·exact⟨V3 (hf _ hfr.2).1 hfr.1,(hf _ hfr.2).2⟩
     ·exact⟨V3 (fun i b c m hi he=>by have:=hlo i b c m hi;have:=ht hf.1;omega) hfr.1,B.up _ (Yh hB (ht hf.1)) (by rw[hI];exact B2.ex _ hfr.2)⟩)
   (fun h=>Yh hB (ht h)) hc (UW hB hI hlo h (hf.imp id And.right))
 |_,_,.row n C b cap h1 h2,_=> .row n C b cap (by rw[hI];exact h1) h2
 |_,_,.rcell D n C k b h1 h2 h3,_=> .rcell D n C k b h1 (by rw[hI];exact h2) h3
 |_,_,.imap kk C b h1,_=> .imap kk C b (by rw[hI];exact h1)
theorem NU{d:Nat}(hB:B.n<=B2.n)(hI:B.I=B2.I)(hlo:∀(i b c n:Nat),bs[i]? =some (.blk b c n)->b<B2):∀{l:List SV}{vs:List Value},XRepL w bs2 B2 l vs->Uq B B2 bs (Y5 l)->XRepL w (bs++bs2) B (X6 d l) vs
 |_,_,.nil,_=> .nil
 |_,_,.cons x v l vs h h',hf=> .cons _ v _ vs (Rq hB hI hlo h (hf.imp id And.left)) (NU hB hI hlo h' (hf.imp id And.right))
theorem YdF(hB:B.n<=B2.n)(hI:B.I=B2.I)(hlo:∀(i b c n:Nat),bs[i]? =some (.blk b c n)->b<B2):∀{s:SV}{v:Value},XRep w bs2 B2 s v->Uq B B2 bs (Y3 s)->XRep w (bs++bs2) B s v
 |_,_,.int k n,_=> .int k n
 |_,_,.bool b,_=> .bool b
 |_,_,.val v,_=> .val v
 |_,_,.nil,_=> .nil
 |_,_,.junk v,_=> .junk v
 |_,_,.agg cs vs h,hf=> .agg _ vs (UW hB hI hlo h hf)
 |_,_,.tup cs vs h,hf=> .tup _ vs (UW hB hI hlo h hf)
 |_,_,.fn f fs cs us vs h h',hf=> .fn f _ _ us vs (UW hB hI hlo h (hf.imp id And.left)) (UW hB hI hlo h' (hf.imp id And.right))
 |_,_,.iface t x v h,hf=> .iface t _ v (YdF hB hI hlo h hf)
 |_,_,.vs t z n size get a cap vals hz hc hn hcell h,hf=> .vs t z n size get a cap vals hz hc hn
   (fun k hk=>by
     obtain⟨ad,h1,h2,h3,h4,h5,h6⟩:=hcell k hk
     refine⟨ad,h1,h2,?_,fun ht=>Yh hB (h4 ht),h5,h6⟩
     rcases hf with hf|hf
     ·exact⟨V3 (hf _ h3.2).1 h3.1,(hf _ h3.2).2⟩
     ·exact⟨V3 (fun i b c m hi he=>by have:=hlo i b c m hi;have:=h4 hf.1;omega) h3.1,B.up _ (Yh hB (h4 hf.1)) (by rw[hI];exact B2.ex _ h3.2)⟩)
   (fun k hk=>UW hB hI hlo (h k hk) (hf.imp id fun hf=>hf.2 k hk))
 |_,_,.xp t cs ad vals hs hfr ht hc h,hf=> .xp t cs ad vals hs
   (by
     rcases hf with hf|hf
     ·exact⟨V3 (hf _ hfr.2).1 hfr.1,(hf _ hfr.2).2⟩
     ·exact⟨V3 (fun i b c m hi he=>by have:=hlo i b c m hi;have:=ht hf.1;omega) hfr.1,B.up _ (Yh hB (ht hf.1)) (by rw[hI];exact B2.ex _ hfr.2)⟩)
   (fun h=>Yh hB (ht h)) hc (UW hB hI hlo h (hf.imp id And.right))
 |_,_,.row n C b cap h1 h2,_=> .row n C b cap (by rw[hI];exact h1) h2
 |_,_,.rcell D n C k b h1 h2 h3,_=> .rcell D n C k b h1 (by rw[hI];exact h2) h3
 |_,_,.imap kk C b h1,_=> .imap kk C b (by rw[hI];exact h1)
theorem UW(hB:B.n<=B2.n)(hI:B.I=B2.I)(hlo:∀(i b c n:Nat),bs[i]? =some (.blk b c n)->b<B2):∀{l:List SV}{vs:List Value},XRepL w bs2 B2 l vs->Uq B B2 bs (Y5 l)->XRepL w (bs++bs2) B l vs
 |_,_,.nil,_=> .nil
 |_,_,.cons x v l vs h h',hf=> .cons _ v _ vs (YdF hB hI hlo h (hf.imp id And.left)) (UW hB hI hlo h' (hf.imp id And.right))
end
theorem Ut{i:Nat}{x:BK}(h:bs2[i]? =some x):(bs++bs2)[bs.length+i]? =some x:=by
 rw[Z0 (by omega)];simpa using h
mutual
theorem NG(hB:B.n<=B2.n)(hI:B.I=B2.I)(hlo:∀(i b c n:Nat),bs[i]? =some (.blk b c n)->b<B2):∀{s:SV}{v:Value},Rep w bs2 B2 s v->Uq B B2 bs (Y3 s)->Rep w (bs++bs2) B (shift bs.length s) v
 |_,_,.x s v h,hf=> .x _ v (Rq hB hI hlo h hf)
 |_,_,.agg cs vs h,hf=> .agg _ vs (Hw hB hI hlo h hf)
 |_,_,.tup cs vs h,hf=> .tup _ vs (Hw hB hI hlo h hf)
 |_,_,.fn f fs cs us vs h h',hf=> .fn f _ _ us vs (Hw hB hI hlo h (hf.imp id And.left)) (Hw hB hI hlo h' (hf.imp id And.right))
 |_,_,.iface t x v h,hf=> .iface t _ v (NG hB hI hlo h hf)
 |_,_,.ptr i off b n h,_=> .ptr _ off b n (Ut h)
 |_,_,.own i lo n size b cap m ad h hl ha,_=> .own _ lo n size b cap m ad (Ut h) hl ha
 |_,_,.ownNil i size h,_=> .ownNil _ size (Ut h)
 |_,_,.elem i k off size b cap m h hk,_=> .elem _ k off size b cap m (Ut h) hk
 |_,_,.smp i b h,_=> .smp _ b (Ut h)
 |_,_,.optT x v h,hf=> .optT _ v (NG hB hI hlo h hf)
 |_,_,.optF x,_=> .optF _
 |_,_,.cut x a n cap h,hf=> .cut _ a n cap (NG hB hI hlo h hf)
theorem Hw(hB:B.n<=B2.n)(hI:B.I=B2.I)(hlo:∀(i b c n:Nat),bs[i]? =some (.blk b c n)->b<B2):∀{l:List SV}{vs:List Value},RepL w bs2 B2 l vs->Uq B B2 bs (Y5 l)->RepL w (bs++bs2) B (X6 bs.length l) vs
 |_,_,.nil,_=> .nil
 |_,_,.cons x v l vs h h',hf=> .cons _ v _ vs (NG hB hI hlo h (hf.imp id And.left)) (Hw hB hI hlo h' (hf.imp id And.right))
end
end
end
end Go.Vx
namespace Go.Vx
open Go.RowKit
section
variable {P:Program} {E:Env} {Q:SV->List HO->Prop} {vr:List VR} {w0:Cx}
theorem Ob:∀(a b:List HO),Yi (a++b)=Yi a+Yi b
 | [],b=>by simp [Yi]
 |_::a,b=>by simp [Yi,Ob a b];omega
theorem EN:∀(a b:List HO)(i:Nat),Ys (a++b) i=if i<Yi a then Ys a i else Ys b (i-Yi a)
 | [],b,i=>by simp [Yi]
 |x::a,b,0=>by simp [Yi,Ys]
 |x::a,b,i+1=>by
  show Ys (a++b) i=_
  rw[EN a b i]
  by_cases h:i<Yi a
  ·rw[if_pos h,if_pos (show i+1<Yi (x::a)by simp only[Yi];omega)];rfl
  ·rw[if_neg h,if_neg (show¬i+1<Yi (x::a)by simp only[Yi];omega)]
   congr 1;simp only[Yi];omega
def YnR(d:Nat):HO->HO
 | .box cs=> .box (X6 d cs)
 | .own z sz n get=> .own z sz n fun k=>X6 d (get k)
 | .smap l=> .smap l
 | .gone=> .gone
theorem Ik(d:Nat):∀(hs:List HO)(j:Nat),Ys (Js d hs) j=YnR d (Ys hs j)
 | [],j=>by cases j <;> rfl
 |h::l,0=>by cases h <;> rfl
 |h::l,j+1=>by cases h <;> simpa [Js,Ys]using Ik d l j
theorem Oc(d:Nat):∀(hs:List HO),Yi (Js d hs)=Yi hs
 | []=>rfl
 |h::l=>by cases h <;> simp [Js,Yi,Oc d l]
theorem Mz:∀(hs:List HO),Xf hs->∀i,match Ys hs i with| .box cs=>Y5 cs| .own _ _ n get=> ∀k,k<n->Y5 (get k) | .smap _=>True| .gone=>True
 | [],_,i=>by cases i <;> trivial
 | .box cs::l,h,0=>h.1
 | .own z sz n get::l,h,0=>h.1
 | .smap _::l,h,0=>trivial
 | .gone::l,h,0=>trivial
 | .box cs::l,h,i+1=>Mz l h.2 i
 | .own z sz n get::l,h,i+1=>Mz l h.2 i
 | .smap _::l,h,i+1=>Mz l h i
 | .gone::l,h,i+1=>Mz l h i
def Cq(w:World)(bs:List BK)(B:Bd)(w':World)(bs':List BK):Prop:=
 ∀b,JD bs b->B.I b=none->∀o,w.heap[b]? =some o->w'.heap[b]? =some o/\JD bs' b
theorem Oth.keepI{w w':World}{bs bs':List BK}{B B':Bd}{hp:List HO}{ks:List (Nat×Obj)}{as:List (List Deferred)}(hH:Hp w bs B hp)(hk:Cq w bs B w' bs')(hn:B'.n=B.n)(h:Oth w bs B ks as):Oth w' bs' B' ks as:=by
 have hI:∀b o,w.heap[b]? =some o->(∀K:IK,¬K.ok o)->B.I b=none:=by
  intro b o ho hno
  cases hb:B.I b with
  |none=>rfl
  |some K=>
   obtain⟨_,o',h1,h2⟩:=hH.reg b K hb
   rw[ho]at h1;cases h1
   exact absurd h2 (hno K)
 refine⟨fun x hx=>?_,h.nd,?_⟩
 ·obtain⟨h1,h2,h3,h4⟩:=h.kn x hx
  have hx2:=hI _ _ h3 (fun K hK=>by
   cases hx2:x.2 <;> rw[hx2]at h4 hK <;> first|cases h4|skip
   cases K with
   |ints n C=>obtain⟨_,_,h,_⟩:=hK;cases h
   |map kk C=>obtain⟨_,_,h,_⟩:=hK;cases h)
  exact⟨by rw[hn];exact h1,(hk _ h2 hx2 _ h3).2,(hk _ h2 hx2 _ h3).1,h4⟩
 ·obtain⟨mss,h1,h2,h3⟩:=h.ms
  refine⟨mss,h1,h2,fun D hD=>?_⟩
  obtain⟨k1,k2,k3⟩:=h3 D hD
  have hx2:=hI _ _ k3 (fun K hK=>by
   cases K with
   |ints n C=>obtain⟨_,_,h,_⟩:=hK;cases h
   |map kk C=>obtain⟨_,_,h,_⟩:=hK;cases h)
  exact⟨by rw[hn];exact k1,(hk _ k2 hx2 _ k3).2,(hk _ k2 hx2 _ k3).1⟩
theorem Yfc{z:Cx0}{w':World}{bs bs2:List BK}{B B':Bd}{hp hs:List HO}{J:Nat->Option IK}{hJ:Ext z J}(hzI:z.I=B.I)(hn:B'.n=B.n)(hBJ:B'.I=J)(hFr:∀b,b<z.heap.size->Fr B bs b->B'.F b)
 (hH:Hp z.toWorld bs B hp)(hB:B.n<=z.heap.size)(hH2:Hp w' bs2 (z.wI J hJ).bd hs)(hb:BelowI z.bd z.toWorld w')(hfr:Uq B' (z.wI J hJ).bd bs (Xf hs)):
 Hp w' (bs++bs2) B' (hp++Js (Yi hp) hs)/\ZG z.toWorld bs B w' (bs++bs2) B'/\Cq z.toWorld bs B w' (bs++bs2)/\Stays none bs (bs++bs2):=by
 have hlo:∀(i b c n:Nat),bs[i]? =some (.blk b c n)->b<z.heap.size:=fun i b c n h=>(hH.lo i b c n h).2
 have hki:Cq z.toWorld bs B w' (bs++bs2):=by
  intro b hf hI o ho
  have hbs:b<z.heap.size:=(Xr.1 ho).1
  refine⟨by rw[hb.block b hbs (by show z.I b=none;rw[hzI];exact hI)];exact ho,V3 hf fun i b' c n hi he=>?_⟩
  have:z.heap.size<=b':=(hH2.lo i b' c n hi).1;omega
 have hk:ZG z.toWorld bs B w' (bs++bs2) B':=by
  refine⟨hn,fun b K h=>by rw[hBJ];exact hJ.sub b K (by rw[hzI];exact h),fun b hf cs T fz ho=>?_⟩
  have hbs:b<z.heap.size:=(Xr.1 ho).1
  obtain⟨h1,h2⟩:=hki b hf.1 (B.ex b hf.2) _ ho
  exact⟨h1,h2,hFr b hbs hf⟩
 have hst:∀e,Stays e bs (bs++bs2):=fun e i y _ h _=>by rw[QY (UY.1 h).1];exact h
 have hlen:=hH.len
 have hB2:B'.n<=(z.wI J hJ).bd.n:=by rw[hn];exact hB
 have hI2:B'.I=(z.wI J hJ).bd.I:=hBJ
 refine⟨⟨by rw[Ob,Oc,JO,hlen,hH2.len],fun i=>?_,fun i j b c n c' n' h1 h2=>?_,fun i b c n h1=>?_,fun b K hK=>?_⟩,hk,hki,hst none⟩
 ·rw[EN]
  split
  ·rename_i hi
   refine(hH.ent i).keepG hk (hst none) (by rw[QY (by rw[hlen];exact hi)]) (fun b c n hbi=>hb.block b (hlo i b c n hbi) (by show z.I b=none;rw[hzI];exact hH.un hbi))
  ·rename_i hi
   obtain⟨j,rfl⟩:∃j,i=Yi hp+j:=⟨i-Yi hp,by omega⟩
   rw[Nat.add_sub_cancel_left,Ik]
   have hent:=hH2.ent j
   have hfj:Uq B' (z.wI J hJ).bd bs (match Ys hs j with| .box cs=>Y5 cs| .own _ _ n get=> ∀k,k<n->Y5 (get k) | .smap _=>True| .gone=>True):=hfr.imp id fun h=>Mz hs h j
   have hget:∀x,bs2[j]? =some x->(bs++bs2)[Yi hp+j]? =some x:=fun x hx=>by rw[<-hlen];exact Ut hx
   cases hg:Ys hs j with
   |gone=>
    rw[hg]at hent
    rcases hent with h|h
    ·exact .inl (hget _ h)
    ·right
     rw[List.getElem?_eq_none_iff]at h⊢
     rw[JO];omega
   |smap l=>
    rw[hg]at hent
    obtain⟨b,es,c,h1,h2⟩:=hent
    exact⟨b,es,c,hget _ h1,h2⟩
   |box cs=>
    rw[hg]at hent hfj
    obtain⟨b,vs,T,h1,h2,h3⟩:=hent
    exact⟨b,vs,T,hget _ h1,h2,by rw[<-hlen];exact Hw hB2 hI2 hlo h3 hfj⟩
   |own z sz n get=>
    rw[hg]at hent hfj
    rcases hent with⟨h1,h2,h3⟩ | ⟨b,cap,vs,T,h1,h2,h3,h4,h5,h6⟩
    ·exact .inl ⟨hget _ h1,h2,h3⟩
    ·exact .inr ⟨b,cap,vs,T,hget _ h1,h2,h3,h4,h5,fun k hk'=>by rw[<-hlen];exact Hw hB2 hI2 hlo (h6 k hk') (hfj.imp id fun h=>h k hk')⟩
 ·rw[Wt]at h1 h2
  split at h1 <;> split at h2
  ·exact hH.inj i j b c n c' n' h1 h2
  ·have:=hlo i b c n h1;have:z.heap.size<=b:=(hH2.lo _ _ _ _ h2).1;omega
  ·have:=hlo j b c' n' h2;have:z.heap.size<=b:=(hH2.lo _ _ _ _ h1).1;omega
  ·have:=hH2.inj _ _ _ _ _ _ _ h1 h2;omega
 ·rw[Wt]at h1
  split at h1
  ·have:=hH.lo i b c n h1;have:=hb.size;omega
  ·have:z.heap.size<=b/\b<w'.heap.size:=hH2.lo _ b c n h1;omega
 ·rw[hBJ]at hK
  obtain⟨h1,h2⟩:=hH2.reg b K hK
  refine⟨V3 (fun i b' c n hi he=>?_) h1,h2⟩
  subst he
  have h3:=hJ.old b' (hlo i _ c n hi)
  rw[hK,hzI,hH.un hi]at h3
  cases h3
theorem UV{o:Oper}{r:VO×List Operand}(h:vop P o=some r):∀c,o.op≠ .defer c:=by
 intro c hc
 obtain⟨dst,op,type,pos,after,guard⟩:=o
 simp only at hc
 subst hc
 cases h
section
variable {rd:Option Nat}
theorem Ci{ops:Array Oper}{κ:Km}{a:Act}{w:World}{o:Oper}{rest:List Oper}(hw:Region.wanted o (yielded ops a.tmps)=true)
 (h:o.wpIn (Wd rd) 0 P a w (wpListIn (Wd rd) 0 P ops κ rest) κ):wpListIn (Wd rd) 0 P ops κ (o::rest) a w:=by
 unfold wpListIn
 rw[if_pos hw];exact h
theorem Ch{ops:Array Oper}{κ:Km}{a:Act}{w:World}{o:Oper}{rest:List Oper}(hw:Region.wanted o (yielded ops a.tmps)=false)
 (h:wpListIn (Wd rd) 0 P ops κ rest (a.put o.dst undef) w):wpListIn (Wd rd) 0 P ops κ (o::rest) a w:=by
 unfold wpListIn
 rw[if_neg (by rw[hw];simp)];exact⟨fun _ _=>trivial,h⟩
theorem GY{o:Oper}{a:Act}{w w':World}{r:Next}{v:Value}{next:Act->World->Prop}{κ:Km}(hnd:∀c,o.op≠ .defer c)(hrun:(execOp a.eval o).run P w= .ok r w')(hr:r= .value v\/(r= .skip/\v=undef))(h:next (a.put o.dst v) w'):o.wpIn (Wd rd) 0 P a w next κ:=by
 unfold Oper.wpIn
 rw[Oper.semAt_eq _ _ _ hnd,hrun]
 refine⟨fun _ _=>trivial,?_⟩
 rcases hr with rfl| ⟨rfl,rfl⟩ <;> exact h
theorem FT{o:Oper}{a:Act}{w:World}{f:FuncId}{args:Array Value}{next:Act->World->Prop}{κ:Km}(hnd:∀c,o.op≠ .defer c)(hrun:(execOp a.eval o).run P w= .ok (.enter f args) w)
 (h:Calls P f args w fun| .returned v,w''=>next (a.put o.dst v) w''| .panicked chain,w''=>κ (.panic chain) a w''| .outgrown,_=>LetsOut κ):o.wpIn (Wd rd) 0 P a w next κ:=by
 unfold Oper.wpIn
 rw[Oper.semAt_eq _ _ _ hnd,hrun]
 exact⟨fun _ _=>trivial,fun h=>(by cases h),YfV h⟩
end
theorem E0{ops:Array Oper}{o:Oper}{a:Act}{w:World}{bs:List BK}{B:Bd}{j g:Nat}{pol gb:Bool}{s:S}(hf:RepL w bs B s.fr a.tmps.toList)(hg:o.guard=some (j,pol))(hs:NI ops j=some g)(h:XK (Kr s.fr g) pol=some gb):
 Region.wanted o (yielded ops a.tmps)=gb:=by
 have hr:=hf.get g (d:=undef)
 have hy:yielded ops a.tmps j=match a.tmps[g]? with|some (.bool b)=>some b|_=>none:=by
  unfold yielded
  unfold NI at hs
  rw[hs];rfl
 have hget:a.tmps.toList.getD g undef=(a.tmps[g]?).getD undef:=by simp [List.getD]
 rw[hget]at hr
 simp only[Region.wanted,hg,hy]
 have hb:∀b,(a.tmps[g]?).getD undef= .bool b->a.tmps[g]? =some (.bool b):=by
  intro b hb
  cases hx:a.tmps[g]? with
  |none=>rw[hx]at hb;cases hb
  |some x=>rw[hx]at hb;simp only[Option.getD_some]at hb;rw[hb]
 have hu:(a.tmps[g]?).getD undef=undef->∀b,a.tmps[g]? ≠some (.bool b):=by
  intro hu b hb
  rw[hb]at hu;cases hu
 generalize(a.tmps[g]?).getD undef=u at hr hb hu
 generalize Kr s.fr g=v at h hr
 cases v <;> simp only[XK,reduceCtorEq,Option.some.injEq]at h
 ·rename_i b
  have h1:=hb b hr.bool_inv
  subst h
  rw[h1]
  cases b <;> cases pol <;> rfl
 ·rename_i c y
  cases y <;> simp only[XK,reduceCtorEq,Option.some.injEq]at h
  rename_i b
  subst h
  cases hr with
  |x _ _ h=>cases h
  |optT _ _ h=>
   have h1:=hb b h.bool_inv
   rw[h1]
   cases b <;> cases pol <;> rfl
  |optF _=>
   have h1:=hu rfl
   simp only[Bool.false_and]
   cases hx:a.tmps[g]? with
   |none=>rfl
   |some x=>cases x <;> first|rfl|exact absurd hx (h1 _)
end
end Go.Vx
namespace Go.Vx
open Go.RowKit
section
variable {P:Program} {E:Env} {Q:SV->List HO->Prop} {vr:List VR} {w0:Cx}
theorem Ym5{w:World}{bs:List BK}{B:Bd}{s:S}{sv:List Act}{d:Option Nat}{x:SV}(h:RepLL w bs B s.saved (sv.map (·.tmps.toList))):RepLL w bs B (s.put d x).saved (sv.map (·.tmps.toList)):=by
 rw[Av];exact h
theorem HR{w0:Cx0}{ks:List (Nat×Obj)}{J1:Nat->Option IK}{hJ1:Ext w0 J1}{s:S}{a:Act}{sv:List Act}{z:Cx0}{w':World}{al:Bool}{r:SV}{hs:List HO}{v:Value}{bs2:List BK}{bs:List BK}{J:Nat->Option IK}{hJ:Ext z J}(hzI:z.I=J1)
 (hf:RepL z.toWorld bs (w0.wI J1 hJ1).bd s.fr a.tmps.toList)(hsv:RepLL z.toWorld bs (w0.wI J1 hJ1).bd s.saved (sv.map (·.tmps.toList))) (hH:Hp z.toWorld bs (w0.wI J1 hJ1).bd s.hp) (hb:BelowI (w0.wI J1 hJ1).bd w0.toWorld z.toWorld) (ho:Oth z.toWorld bs (w0.wI J1 hJ1).bd ks ((a::sv).map (·.defers))) (d:Option Nat)
 (h1:Rep w' bs2 (z.wI J hJ).bd r v) (h2:Hp w' bs2 (z.wI J hJ).bd hs) (h3:BelowI z.bd z.toWorld w') (h4:al=false->Y3 r/\Xf hs) (h5:al=true->∀b,z.F b->Fr (w0.wI J1 hJ1).bd bs b):
 ∃hJ2:Ext w0 J,∀y:SV,(∀bs',Rep w' bs' (w0.wI J hJ2).bd (shift (Yi s.hp) r) v->Rep w' bs' (w0.wI J hJ2).bd y v)->Rl ⟨w0.wI J hJ2,ks⟩ (S.put { fr:=s.fr,saved:=s.saved,hp:=s.hp++Js (Yi s.hp) hs} d y) (a.put d v) sv w':=by
 have hB:w0.heap.size<=z.heap.size:=hb.size
 have hsub:∀b K,J1 b=some K->J b=some K:=fun b K h=>hJ.sub b K (by rw[hzI];exact h)
 have hno:∀b,J b=none->J1 b=none:=fun b h=>by
  cases h1:J1 b with
  |none=>rfl
  |some K=>rw[hsub b K h1]at h;cases h
 have hold:∀b,b<z.heap.size->J b=J1 b:=fun b hlt=>(hJ.old b hlt).trans (by rw[hzI])
 have hJ2:Ext w0 J:=⟨fun b hlt=>(hold b (Qt hlt hB)).trans (hJ1.old b hlt),fun b K h=>hsub b K (hJ1.sub b K h)⟩
 refine⟨hJ2,fun y hy=>?_⟩
 have hFr:∀b,b<z.heap.size->Fr (w0.wI J1 hJ1).bd bs b->(w0.wI J hJ2).bd.F b:=fun b hlt h=>⟨h.2.1,(hold b hlt).trans h.2.2⟩
 have hap:∀{p:Prop},(Y3 r/\Xf hs->p)->Uq (w0.wI J hJ2).bd (z.wI J hJ).bd bs p:=by
  intro p hp
  cases hc:al with
  |false=>exact .inr (hp (h4 hc))
  |true=>
   refine .inl fun b hb2=>?_
   have:=h5 hc b hb2.1
   exact⟨this.1,this.2.1,hb2.2⟩
 obtain⟨k1,k2,k4,k3⟩:=Yfc (B:=(w0.wI J1 hJ1).bd) (B':=(w0.wI J hJ2).bd) hzI rfl rfl hFr hH hB h2 h3 (hap And.right)
 have hlo:∀(i b c n:Nat),bs[i]? =some (.blk b c n)->b<z.heap.size:=fun i b c n h=>(hH.lo i b c n h).2
 have hr:=NG (B:=(w0.wI J hJ2).bd) (B2:=(z.wI J hJ).bd) hB rfl hlo h1 (hap And.left)
 rw[hH.len]at hr
 refine⟨bs++bs2,?_,?_,?_,⟨h3.os.trans hb.os,h3.tape.trans hb.tape,h3.output.trans hb.output,Yh hb.size h3.size,fun k hk hI=>?_⟩,?_⟩
 ·exact Nr (s:={ fr:=s.fr,saved:=s.saved,hp:=s.hp++Js (Yi s.hp) hs}) (a:=a) (hf.keepG k2 k3 JA) (hy _ hr)
 ·rw[Av];exact hsv.keepG k2 k3
 ·rw[Vv];exact k1
 ·exact(h3.block k (Qt hk hB) (by show z.I k=none;rw[hzI];exact hno k hI)).trans (hb.block k hk (hno k hI))
 ·rw[KH,Nq];exact ho.keepI hH k4 rfl
theorem GK{s:S}{a:Act}{sv:List Act}{w:World}(hR:Rl w0 s a sv w)(d:Option Nat){x:SV}{v:Value}(hx:∀bs,RepL w bs w0.bd s.fr a.tmps.toList->Hp w bs w0.bd s.hp->Rep w bs w0.bd x v):Rl w0 (s.put d x) (a.put d v) sv w:=by
 obtain⟨bs,hf,hsv,hH,hb,ho⟩:=hR
 exact⟨bs,Nr hf (hx bs hf hH),Ym5 hsv,by rw[Vv];exact hH,hb,by rw[KH,Nq];exact ho⟩
def LI:Obj->Bool
 | .cells .. =>false
 | .map .. =>false
 |_=>true
theorem Pi{w:World}{bs:List BK}{l:Nat}{o o':Obj}(hl:w.heap[l]? =some o)(ho:LI o=true):KeepsC w bs (w.putObj l o') bs:=by
 intro b hf cs T fz hb
 have:b≠l:=by
  rintro rfl
  rw[hl]at hb;cases hb;cases ho
 exact⟨(World.putObj_heap_other this).trans hb,hf⟩
theorem YaR{w:World}{B l:Nat}{o':Obj}(hB:B<=l)(hs:l<w.heap.size):Below B w (w.putObj l o'):=
 ⟨rfl,rfl,rfl,by simp,fun k hk=>World.putObj_heap_other (by omega)⟩
theorem Ym3{w:World}{B:Bd}{bs:List BK}{l:Nat}{o o':Obj}(hl:w.heap[l]? =some o)(ho:LI o=true)(h:∀(b:Nat) (K:IK),B.I b=some K->JD bs b/\∃o,w.heap[b]? =some o/\K.ok o):
 ∀(b:Nat)(K:IK),B.I b=some K->JD bs b/\∃o,(w.putObj l o').heap[b]? =some o/\K.ok o:=by
 intro b K hI
 obtain⟨h1,o2,h2,h3⟩:=h b K hI
 refine⟨h1,o2,(World.putObj_heap_other ?_).trans h2,h3⟩
 rintro rfl
 rw[hl]at h2;cases h2
 cases K with
 |ints n C=>obtain⟨_,_,rfl,_⟩:=h3;cases ho
 |map kk C=>obtain⟨_,_,rfl,_⟩:=h3;cases ho
theorem IB{w:World}{bs:List BK}{B:Bd}{l:Nat}{o o':Obj}{hp:List HO}(hl:w.heap[l]? =some o)(ho:LI o=true)(hf:JD bs l)(hH:Hp w bs B hp):Hp (w.putObj l o') bs B hp:=
 ⟨hH.len,fun i=>(hH.ent i).keepC (Pi hl ho) (fun _ _ _ h _=>h) rfl (fun b c n hb=>World.putObj_heap_other (hf i b c n hb)),hH.inj,fun i b c n h=>by rw[World.putObj_size];exact hH.lo i b c n h,Ym3 hl ho hH.reg⟩
theorem Nv{w0:Cx0}{ks:List (Nat×Obj)}{s:S}{a:Act}{sv:List Act}{w:World}{l:Nat}{lp lp':_root_.Go.Loop}(h:Rl ⟨w0,(l,.loop lp)::ks⟩ s a sv w):Rl ⟨w0,(l,.loop lp')::ks⟩ s a sv (w.putObj l (.loop lp')):=by
 obtain⟨bs,hf,hsv,hH,hb,ho⟩:=h
 obtain⟨h1,h2,h3,_⟩:=ho.kn (l,.loop lp) KR
 simp only at h1 h2 h3
 have hsz:l<w.heap.size:=(Xr.1 h3).1
 have hk:KeepsC w bs (w.putObj l (.loop lp')) bs:=Pi h3 rfl
 have hst:Stays none bs bs:=fun _ _ _ h _=>h
 have hnd:=ho.nd
 simp only[KH,List.nodup_cons]at hnd
 refine⟨bs,hf.keepC hk hst JA,hsv.keepC hk hst,IB h3 rfl h2 hH,hb.trans (.of (YaR h1 hsz)),⟨?_,by simpa using hnd,?_⟩⟩
 ·intro x hx
  rcases Kz.1 hx with rfl|hx
  ·exact⟨h1,h2,World.putObj_heap_same hsz,rfl⟩
  ·obtain⟨k1,k2,k3,k4⟩:=ho.kn x (KX _ hx)
   refine⟨k1,k2,(World.putObj_heap_other ?_).trans k3,k4⟩
   intro e
   exact hnd.1 (QM.2 ⟨x,hx,e⟩)
 ·obtain⟨mss,m1,m2,m3⟩:=ho.ms
  refine⟨mss,m1,m2,fun D hD=>?_⟩
  obtain⟨k1,k2,k3⟩:=m3 D hD
  refine⟨k1,k2,(World.putObj_heap_other ?_).trans k3⟩
  rintro rfl
  rw[h3]at k3;cases k3
theorem Ybs{w0:Cx0}{x:Nat×Obj}{ks:List (Nat×Obj)}{s:S}{a:Act}{sv:List Act}{w:World}(h:Rl ⟨w0,x::ks⟩ s a sv w):Rl ⟨w0,ks⟩ s a sv w:=by
 obtain⟨bs,hf,hsv,hH,hb,ho⟩:=h
 have hnd:=ho.nd
 simp only[KH,List.nodup_cons]at hnd
 exact⟨bs,hf,hsv,hH,hb,fun y hy=>ho.kn y (KX _ hy),hnd.2,ho.ms⟩
theorem Nw{w0:Cx0}{ks:List (Nat×Obj)}{s:S}{a:Act}{sv:List Act}{w:World}{l:Nat}{o:Obj}(h:Rl ⟨w0,(l,o)::ks⟩ s a sv w):w.heap[l]? =some o:=by
 obtain⟨bs,hf,hsv,hH,hb,ho⟩:=h
 exact(ho.kn (l,o) KR).2.2.1
theorem Fz{w0:Cx}{s:S}{a sa:Act}{sv:List Act}{w:World}{fr:List SV}{sv':List (List SV)}(hs:s.saved=fr::sv')(h:Rl w0 s a (sa::sv) w):Rl w0 { fr:=fr,saved:=sv',hp:=s.hp} sa sv w:=by
 obtain⟨bs,hf,hsv,hH,hb,ho⟩:=h
 rw[hs]at hsv
 cases hsv with
 |cons _ _ _ _ g1 g2=>
  refine⟨bs,g1,g2,hH,hb,ho.kn,ho.nd,?_⟩
  obtain⟨mss,m1,m2,m3⟩:=ho.ms
  cases mss with
  |nil=>simp at m1
  |cons m mss=>
   simp only[KH,List.cons.injEq]at m1
   simp only[List.flatten_cons]at m2 m3
   refine⟨mss,by simpa using m1.2,(List.nodup_append.1 m2).2.1,fun D hD=>m3 D (Ky.2 (.inr hD))⟩
theorem Oth.push{w:World}{bs:List BK}{B:Bd}{ks:List (Nat×Obj)}{as:List (List Deferred)}(h:Oth w bs B ks as):Oth w bs B ks ([]::as):=by
 obtain⟨mss,m1,m2,m3⟩:=h.ms
 exact⟨h.kn,h.nd,[]::mss,by simpa using m1,by simpa using m2,by simpa using m3⟩
theorem Oth.pop{w:World}{bs:List BK}{B:Bd}{ks:List (Nat×Obj)}{d:List Deferred}{as:List (List Deferred)}(h:Oth w bs B ks (d::as)):Oth w bs B ks as:=by
 obtain⟨mss,m1,m2,m3⟩:=h.ms
 cases mss with
 |nil=>simp at m1
 |cons m mss=>
  simp only[KH,List.cons.injEq]at m1
  simp only[List.flatten_cons]at m2 m3
  exact⟨h.kn,h.nd,mss,m1.2,(List.nodup_append.1 m2).2.1,fun D hD=>m3 D (Ky.2 (.inr hD))⟩
theorem BQ{fn:Func}{R:Ending->World->Prop}{w0:Cx}{s:S}{sv:List Act}:∀(ms:List Nat){a:Act}{w:World},a.defers=ms.map W3->Rl w0 s a sv w->
 (∀w',Rl w0 s { a with defers:=[]} sv w'->∃v,(results fn a.tmps).run P w'= .ok v w'/\R (.returned v) w')->LeavesInM (Wd none) 0 P fn a.tmps R a.defers .returning w
 | [],a,w,ha,hR,h=>by
   obtain⟨tmps,defers⟩:=a
   simp only[Vf]at ha
   subst ha
   exact h w hR
 |D::ms,a,w,ha,hR,h=>by
  obtain⟨tmps,defers⟩:=a
  simp only at ha
  subst ha
  obtain⟨bs,hf,hsv,hH,hb,ho⟩:=hR
  obtain⟨mss,m1,m2,m3⟩:=ho.ms
  have hinj:∀{a b:List Nat},a.map W3=b.map W3->a=b:=by
   intro a
   induction a with
   |nil=>intro b h;cases b with
    |nil=>rfl
    |cons=>cases h
   |cons x a ih=>intro b h;cases b with
    |nil=>cases h
    |cons y b=>
     simp only[KH,List.cons.injEq,W3,Deferred.mk.injEq,Target.collected.injEq,and_true]at h
     rw[h.1,ih h.2]
  cases mss with
  |nil=>simp at m1
  |cons m mss=>
   simp only[KH,List.cons.injEq]at m1
   have:m=D::ms:=(hinj (a:=D::ms) (b:=m) (by simpa using m1.1)).symm
   subst this
   simp only[List.flatten_cons,Ws,List.nodup_cons]at m2
   obtain⟨d1,d2,d3⟩:=m3 D (by simp)
   have hsz:D<w.heap.size:=(Xr.1 d3).1
   have hk:KeepsC w bs (w.putObj D (.deferred none)) bs:=Pi d3 rfl
   have hst:Stays none bs bs:=fun _ _ _ h _=>h
   have hnext:Rl w0 s { tmps:=tmps,defers:=ms.map W3} sv (w.putObj D (.deferred none)):=by
    refine⟨bs,hf.keepC hk hst JA,hsv.keepC hk hst,IB d3 rfl d2 hH,hb.trans (.of (YaR d1 hsz)),⟨?_,ho.nd,ms::mss,?_,?_,?_⟩⟩
    ·intro x hx
     obtain⟨k1,k2,k3,k4⟩:=ho.kn x hx
     refine⟨k1,k2,(World.putObj_heap_other ?_).trans k3,k4⟩
     intro e
     rw[e,d3]at k3
     have k5:=Option.some.inj k3
     rw[<-k5]at k4;cases k4
    ·simp only[KH,List.cons.injEq];exact⟨trivial,m1.2⟩
    ·simpa using m2.2
    ·intro D' hD'
     have hne:D'≠D:=by rintro rfl;exact m2.1 (by simpa using hD')
     obtain⟨k1,k2,k3⟩:=m3 D' (by simp only[List.flatten_cons,Ws,Kz];right;simpa using hD')
     exact⟨k1,k2,(World.putObj_heap_other hne).trans k3⟩
   have ih:=BQ (fn:=fn) (R:=R) ms (a:={ tmps:=tmps,defers:=ms.map W3}) rfl hnext h
   exact⟨by simp,.inl ⟨D,_,rfl,run_takeDeferred d3,ih⟩⟩
theorem RZ{w:World}{bs:List BK}(o:Obj):Keeps w bs (w.alloc o) bs:=fun b hf _ ho=>⟨(Below.heap_alloc w o b (Xr.1 ho).1).trans ho,hf⟩
theorem Ynh{w0:Cx0}{ks:List (Nat×Obj)}{s:S}{a:Act}{sv:List Act}{w:World}{xs:List SV}{tmps:Array Value}{lp:_root_.Go.Loop}{bs:List BK}(hf:RepL w bs w0.bd s.fr a.tmps.toList)(hsv:RepLL w bs w0.bd s.saved (sv.map (·.tmps.toList))) (hH:Hp w bs w0.bd s.hp) (hb:BelowI w0.bd w0.toWorld w) (ho:Oth w bs w0.bd ks ((a::sv).map (·.defers)))
 (hx:RepL w bs w0.bd xs tmps.toList):
 Rl ⟨w0,(w.heap.size+1,.loop lp)::ks⟩ { fr:=xs,saved:=s.fr::s.saved,hp:=s.hp} { tmps:=tmps,defers:=[]} ({ a with defers:=[W3 w.heap.size]++a.defers}::sv) ((w.alloc (.deferred (some []))).alloc (.loop lp)):=by
 have hB:w0.heap.size<=w.heap.size:=hb.size
 have hk1:Keeps w bs (w.alloc (.deferred (some []))) bs:=RZ _
 have hk2:Keeps (w.alloc (.deferred (some []))) bs ((w.alloc (.deferred (some []))).alloc (.loop lp)) bs:=RZ _
 have hk:Keeps w bs ((w.alloc (.deferred (some []))).alloc (.loop lp)) bs:=fun b hf o ho=>hk2 b (hk1 b hf o ho).2 o (hk1 b hf o ho).1
 have hst:Stays none bs bs:=fun _ _ _ h _=>h
 have hs1:(w.alloc (.deferred (some []))).heap.size=w.heap.size+1:=World.size_alloc _ _
 have hs2:((w.alloc (.deferred (some []))).alloc (.loop lp)).heap.size=w.heap.size+2:=by rw[World.size_alloc,hs1]
 have hD:((w.alloc (.deferred (some []))).alloc (.loop lp)).heap[w.heap.size]? =some (.deferred (some [])):=(Below.heap_alloc _ _ _ (by rw[hs1];omega)).trans (World.alloc_heap_new w _)
 have hl:((w.alloc (.deferred (some []))).alloc (.loop lp)).heap[w.heap.size+1]? =some (.loop lp):=by
  have:=World.alloc_heap_new (w.alloc (.deferred (some []))) (.loop lp)
  rwa [hs1]at this
 have hold:∀k,k<w.heap.size->((w.alloc (.deferred (some []))).alloc (.loop lp)).heap[k]? =w.heap[k]? :=fun k hk=>(Below.heap_alloc _ _ _ (by rw[hs1];omega)).trans (Below.heap_alloc _ _ _ hk)
 have hfree:∀k,w.heap.size<=k->JD bs k:=fun k hk i b c n hi he=>by have:=(hH.lo i b c n hi).2;omega
 have hbb:Below w0.heap.size w ((w.alloc (.deferred (some []))).alloc (.loop lp)):=((Below.refl _ w).alloc hB _).alloc (by rw[hs1];exact Yh hB (by omega)) _
 refine⟨bs,hx.keep hk hst JA,.cons _ _ _ _ (hf.keep hk hst JA) (hsv.keep hk hst),⟨hH.len,fun i=>(hH.ent i).keep hk hst rfl (fun b c n hi=>hold b (hH.lo i b c n hi).2),hH.inj,fun i b c n hi=>?_,Vz hk hH.reg⟩,hb.trans (.of hbb),⟨?_,?_,?_⟩⟩
 ·have:=hH.lo i b c n hi;rw[hs2];exact⟨this.1,by omega⟩
 ·intro x hx
  rcases Kz.1 hx with rfl|hx
  ·exact⟨by simp only;exact Yh hB (by omega),hfree _ (by simp only;omega),hl,rfl⟩
  ·exact(ho.keep hk).kn x hx
 ·simp only[KH,List.nodup_cons]
  refine⟨fun hm=>?_,ho.nd⟩
  obtain⟨x,hx,he⟩:=QM.1 hm
  have:=(Xr.1 (ho.kn x hx).2.2.1).1
  omega
 ·obtain⟨mss,m1,m2,m3⟩:=(ho.keep hk).ms
  obtain⟨mss',m1',m2',m3'⟩:=ho.ms
  cases mss' with
  |nil=>simp at m1'
  |cons m mss'=>
   simp only[KH,List.cons.injEq]at m1'
   refine⟨[]::(w.heap.size::m)::mss',?_,?_,?_⟩
   ·simp only[KH,Vf,List.cons.injEq,Ws,VP,true_and]
    exact⟨m1'.1,m1'.2⟩
   ·simp only[List.flatten_cons,VP,Ws,List.nodup_cons]
    refine⟨fun hm=>?_,by simpa using m2'⟩
    have:=m3' w.heap.size (by simpa using hm)
    have:=(Xr.1 this.2.2).1
    omega
   ·intro D hD'
    simp only[List.flatten_cons,VP,Ws,Kz]at hD'
    rcases hD' with rfl|hD'
    ·exact⟨hB,hfree _ (Yt _),hD⟩
    ·obtain⟨k1,k2,k3⟩:=m3' D (by simpa using hD')
     exact⟨k1,k2,(hk _ k2 _ k3).1⟩
theorem Ps{w0:Cx}{s:S}{a:Act}{sv:List Act}{w:World}(h:Rl w0 s a sv w):∃ms:List Nat,a.defers=ms.map W3:=by
 obtain⟨bs,hf,hsv,hH,hb,ho⟩:=h
 obtain⟨mss,m1,_⟩:=ho.ms
 cases mss with
 |nil=>simp at m1
 |cons m mss=>simp only[KH,List.cons.injEq]at m1;exact⟨m,m1.1⟩
end
end Go.Vx
namespace Go.Vx
section
variable {σ:Type} {ops:Array Oper} {md:Region.Mode} (step:Nat->Array Bool->(σ->Prop)->σ->Prop) (K:σ->Prop)
def WN(md:Region.Mode)(ops:Array Oper):Nat->Array Bool->σ->Prop
 |0,L,s=>Region.ready md ops L=[]/\K s
 |n+1,L,s=>(Region.ready md ops L=[]->K s)/\∀i∈Region.ready md ops L,step i L (WN md ops n (L.setIfInBounds i true)) s
def Down(md:Region.Mode)(ops:Array Oper)(L:Array Bool):Prop:=
 L.size=ops.size/\∀(i:Nat)(o:Oper),ops[i]? =some o->L.getD i false=true->∀e∈o.after,Region.binds md e=true->L.getD e.on false=true
variable {step K}
theorem Down.set{L:Array Bool}(h:Down md ops L){i:Nat}(hi:i∈Region.ready md ops L):Down md ops (L.setIfInBounds i true):=by
 refine⟨by simp [h.1],fun j o hj hl e he hb=>?_⟩
 obtain⟨_,oi,hoi,hall⟩:=mem_ready.1 hi
 by_cases hij:i=j
 ·subst hij
  rw[hoi]at hj;cases hj
  exact getD_set_true (hall e he hb)
 ·rw[getD_set_ne false hij]at hl
  exact getD_set_true (h.2 j o hj hl e he hb)
theorem R6(mono:∀(j:Nat) (L:Array Bool) (s:σ) (A B:σ->Prop),(∀s,A s->B s)->step j L A s->step j L B s){i:Nat}
 (strict:∀L s,¬step i L (fun _=>False) s)
 (exch:∀(j:Nat) (L:Array Bool) (s:σ) (A:σ->Prop),Down md ops L->i∈Region.ready md ops L->j∈Region.ready md ops L->j≠i->step i L (step j (L.setIfInBounds i true) A) s->step j L (step i (L.setIfInBounds j true) A) s):
 ∀(n:Nat)(L:Array Bool)(s:σ),Down md ops L->i∈Region.ready md ops L->step i L (WN step K md ops n (L.setIfInBounds i true)) s->WN step K md ops (n+1) L s:=by
 intro n
 induction n with
 |zero=>
  intro L s _ hi h
  refine⟨fun h0=>(by rw[h0]at hi;cases hi),fun j hj=>?_⟩
  by_cases hji:j=i
  ·subst hji;exact h
  ·refine(strict L s (mono i L s _ _ (fun s' h'=>?_) h)).elim
   have:=ready_mono hj hji
   rw[h'.1]at this
   cases this
 |succ n ih=>
  intro L s hd hi h
  refine⟨fun h0=>(by rw[h0]at hi;cases hi),fun j hj=>?_⟩
  by_cases hji:j=i
  ·subst hji;exact h
  ·have h1:=mono i L s _ _ (fun s' (h':WN step K md ops (n+1) (L.setIfInBounds i true) s')=>h'.2 j (ready_mono hj hji)) h
   have h2:=exch j L s _ hd hi hj hji h1
   refine mono j L s _ _ (fun s' h'=>?_) h2
   rw[Array.setIfInBounds_comm _ _ (Ne.symm hji)]at h'
   exact ih _ _ (hd.set hj) (ready_mono hi (Ne.symm hji)) h'
theorem Ye9{rd:Option Nat}{P:Program}{Q:Exit->Act->World->Prop}(R:Array Bool->σ->Act->World->Prop)
 (hop:∀(i:Nat) (L:Array Bool) (s:σ) (A:σ->Prop) (a:Act) (w:World),i∈Region.ready md ops L->step i L A s->R L s a w->
   wpOpIn (Wd rd) 0 P ops Q i (fun a' w'=> ∃s',A s'/\R (L.setIfInBounds i true) s' a' w') a w)
 (hQ:∀(L:Array Bool) (s:σ) (a:Act) (w:World),Region.ready md ops L=[]->K s->R L s a w->Q .normal a w):
 ∀(n:Nat)(L:Array Bool)(s:σ)(a:Act)(w:World),WN step K md ops n L s->R L s a w->wpAnyIn (Wd rd) 0 P md ops Q n L a w:=by
 intro n
 induction n with
 |zero=>intro L s a w h hR;exact⟨h.1,hQ L s a w h.1 h.2 hR⟩
 |succ n ih=>
  intro L s a w h hR
  refine⟨fun h0=>hQ L s a w h0 (h.1 h0) hR,fun i hi=>?_⟩
  exact wpOpIn_mono (fun a' w' ⟨s',hA,hR'⟩=>ih _ s' a' w' hA hR') (hop i L s _ a w hi (h.2 i hi) hR)
end
end Go.Vx
