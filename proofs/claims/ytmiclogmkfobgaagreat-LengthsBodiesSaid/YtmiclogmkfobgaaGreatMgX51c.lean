/- Regions that draw their order: the check of a canonical order, by masks. -/
import Derived.Test.YtmiclogmkfobgaaGreatMgX51b
import Derived.MapKept
import Derived.WideKeyRuns
import Derived.ProofKit
import Derived.Deep.Slices
import Derived.IntWalk
open And renaming intro->YGH
open Array renaming getElem?_eq_some_iff->YGX
open Bool renaming and_eq_true->YGi,false_eq_true->YGC,not_eq_false'->YG0,not_eq_true'->YGA,or_eq_true->YG6,true_and->YHq
open Int renaming mul_le_mul_of_nonneg_right->YGE,toNat->YHE
open Go.IntWalk renaming i64_in->YGd
open List renaming getD_eq_getElem?_getD->YGl,getElem?_append->YHs,getElem?_append_left->YGR,getElem?_append_right->YG4,length_cons->YHf,map_cons->YGY,mem_append->YGT,mem_cons->YGK,mem_cons_of_mem->YGx,mem_cons_self->YGy,mem_singleton->YGU
open Nat renaming add_zero->YHi,beq->YGS,ble->YHG,eq_of_beq_eq_true->YGD,le_of_ble_eq_true->YG2,le_of_eq->YGu,le_refl->YGr,lt_of_lt_of_le->YGV,lt_or_ge->YGz,not_lt_zero->YG7,pow_le_pow_right->YGs,succ_mul->YHD,zero_add->YHu,zero_le->YHk
open Option renaming bind_eq_some_iff->YGe,map_eq_some_iff->YGh
set_option linter.all false
namespace Go.Vx
section
variable {md:Region.Mode} {ops:Array Oper}
theorem Yhn{i k:Nat}:(2^i).testBit k=decide (i=k):=Nat.testBit_two_pow
theorem maskL_spec{i:Nat}:∀{l:List Edge},(YkH md l).testBit i=true↔∃e∈l,Region.binds md e=true/\e.on=i
 | []=>by simp [YkH]
 |e::l=>by
  unfold YkH
  cases hb:Region.binds md e with
  |false=>simp [maskL_spec (l:=l),hb]
  |true=>simp [maskL_spec (l:=l),hb,Nat.testBit_or,Yhn]
theorem YdH{i:Nat}{o:Oper}(h:ops[i]? =some o):(YE md ops).getD i 0=YkH md o.after.toList:=by
 simp [YE,h]
theorem Ydr{cl:List Nat}{m i:Nat}:∀{j:Nat},(Ydq cl m j).testBit i=true->∃k,k<j/\m.testBit k=true/\(cl.getD k 0).testBit i=true
 |0,h=>by simp [Ydq]at h
 |j+1,h=>by
  unfold Ydq at h
  cases hb:m.testBit j with
  |false=>
   rw[hb]at h
   obtain⟨k,h1,h2⟩:=Ydr (j:=j) h
   exact⟨k,by omega,h2⟩
  |true=>
   rw[hb]at h
   simp only[cond_true,Nat.testBit_or,YG6]at h
   rcases h with h|h
   ·exact⟨j,by omega,hb,h⟩
   ·obtain⟨k,h1,h2⟩:=Ydr (j:=j) h
    exact⟨k,by omega,h2⟩
theorem Ykj{dm cl:List Nat}:∀{n:Nat},YfO dm cl n=true->∀j,j<n->cl.getD j 0=dm.getD j 0||| Ydq cl (dm.getD j 0) j
 |n+1,h,j,hj=>by
  simp only[YfO,YGi]at h
  rcases YGz j n with h'|h'
  ·exact Ykj h.2 j h'
  ·obtain rfl:j=n:=by omega
   exact YGD h.1
theorem YCl{cl:List Nat}(hl:cl.length=ops.size)(h:YfO (YE md ops) cl ops.size=true):Ywy md ops (YaA cl):=by
 have small:∀(j i:Nat),YaA cl j i=true->j<ops.size:=by
  intro j i hc
  rcases YGz j ops.size with h'|h'
  ·exact h'
  ·simp [YaA,YGl,List.getElem?_eq_none (show cl.length<=j by omega)]at hc
 have main:∀(L:Array Bool),Down md ops L->∀(N j i:Nat),j<N->(∀(o:Oper),ops[j]? =some o->∀e∈o.after,Region.binds md e=true->L.getD e.on false=true)->YaA cl j i=true->L.getD i false=true:=by
  intro L hd N
  induction N with
  |zero=>intro j i hj;omega
  |succ N ih=>
   intro j i hj hs hc
   have hjn:=small j i hc
   have ho:ops[j]? =some ops[j]:=Array.getElem?_eq_getElem hjn
   unfold YaA at hc
   rw[Ykj h j hjn,Nat.testBit_or,YG6]at hc
   have hdir:∀k,((YE md ops).getD j 0).testBit k=true->L.getD k false=true:=by
    intro k hk
    rw[YdH ho]at hk
    obtain⟨e,he,hb,rfl⟩:=maskL_spec.1 hk
    exact hs _ ho e (by simpa using he) hb
   rcases hc with hc|hc
   ·exact hdir i hc
   ·obtain⟨k,h1,h2,h3⟩:=Ydr hc
    exact ih k i (by omega) (fun o hok e he hb=>hd.2 k o hok (hdir k h2) e he hb) h3
 refine⟨fun L j i hd hr hc=>?_,fun L j i hd hl hc=>?_⟩
 ·obtain⟨_,o,ho,hall⟩:=mem_ready.1 hr
  exact main L hd (j+1) j i (by omega) (fun o' ho' e he hb=>by rw[ho]at ho';cases ho';exact hall e he hb) hc
 ·exact main L hd (j+1) j i (by omega) (fun o ho e he hb=>hd.2 j o ho hl e he hb) hc
def Corr(ops:Array Oper)(L:Array Bool)(m:Nat):Prop:=L.size=ops.size/\∀i,L.getD i false=m.testBit i
theorem and_eq_left{a m:Nat}:(a&&&m)=a↔∀k,a.testBit k=true->m.testBit k=true:=by
 constructor
 ·intro h k hk
  have:(a&&&m).testBit k=true:=by rw[h];exact hk
  rw[Nat.testBit_and,YGi]at this
  exact this.2
 ·intro h
  apply Nat.eq_of_testBit_eq
  intro k
  rw[Nat.testBit_and]
  cases hk:a.testBit k with
  |false=>rfl
  |true=>rw[h k hk];rfl
theorem Ya5{L:Array Bool}{m i:Nat}(hc:Corr ops L m):i∈Region.ready md ops L↔i<ops.size/\Ybl (YE md ops) m i=true:=by
 rw[mem_ready]
 constructor
 ·rintro⟨h0,o,ho,hall⟩
  have hi:i<ops.size:=(YGX.1 ho).1
  refine⟨hi,?_⟩
  simp only[Ybl,YGi,YGA]
  have hL:i<L.size:=by rw[hc.1];exact hi
  refine⟨?_,?_⟩
  ·rw[<-hc.2 i];simp [hL]at h0⊢;exact h0
  ·rw[YdH ho]
   rw[and_eq_left.2 (fun k hk=>?_)]
   ·exact Nat.beq_refl _
   ·obtain⟨e,he,hb,rfl⟩:=maskL_spec.1 hk
    rw[<-hc.2];exact hall e (by simpa using he) hb
 ·rintro⟨hi,hr⟩
  simp only[Ybl,YGi,YGA]at hr
  have ho:ops[i]? =some ops[i]:=Array.getElem?_eq_getElem hi
  have hL:i<L.size:=by rw[hc.1];exact hi
  refine⟨?_,_,ho,fun e he hb=>?_⟩
  ·have:=hr.1
   rw[<-hc.2 i]at this
   simp [hL]at this⊢;exact this
  ·have:=and_eq_left.1 (YGD hr.2)
   rw[hc.2]
   refine this e.on ?_
   rw[YdH ho]
   exact maskL_spec.2 ⟨e,by simpa using he,hb,rfl⟩
theorem Ym6{L:Array Bool}{m i:Nat}(hc:Corr ops L m)(hi:i<ops.size):Corr ops (L.setIfInBounds i true) (m||| 2^i):=by
 refine⟨by simp [hc.1],fun k=>?_⟩
 rw[Nat.testBit_or,Yhn]
 by_cases h:i=k
 ·subst h
  simp [hc.1,hi]
 ·rw[getD_set_ne false h,hc.2];simp [h]
theorem Ydm{dm:List Nat}{m:Nat}:∀{n:Nat},Ydl dm m n=true->∀k,k<n->Ybl dm m k=false
 |n+1,h,k,hk=>by
  simp only[Ydl,YGi,YGA]at h
  rcases YGz k n with h'|h'
  ·exact Ydm h.2 k h'
  ·obtain rfl:k=n:=by omega
   exact h.1
theorem Ydp{dm:List Nat}{m i:Nat}:∀{n:Nat},Ydo dm m i n=true->∀k,k<n->Ybl dm m k=true->k=i
 |n+1,h,k,hk,hr=>by
  simp only[Ydo,YGi,YG6,YGA]at h
  rcases YGz k n with h'|h'
  ·exact Ydp h.2 k h' hr
  ·obtain rfl:k=n:=by omega
   rcases h.1 with h1|h1
   ·exact YGD h1
   ·rw[hr]at h1;cases h1
def seqS{σ:Type}(step:Nat->Array Bool->(σ->Prop)->σ->Prop)(K:σ->Prop):List Nat->Array Bool->σ->Prop
 | [],_,s=>K s
 |i::l,L,s=>step i L (seqS step K l (L.setIfInBounds i true)) s
theorem YsB{σ:Type}{step:Nat->Array Bool->(σ->Prop)->σ->Prop}{K:σ->Prop}{free:Nat->Bool}
 (mono:∀(j:Nat) (L:Array Bool) (s:σ) (A B:σ->Prop),(∀s,A s->B s)->step j L A s->step j L B s)
 (strict:∀i L s,free i=true->¬step i L (fun _=>False) s)
 (exch:∀(i:Nat),free i=true->∀(j:Nat) (L:Array Bool) (s:σ) (A:σ->Prop),Down md ops L->i∈Region.ready md ops L->j∈Region.ready md ops L->j≠i->step i L (step j (L.setIfInBounds i true) A) s->step j L (step i (L.setIfInBounds j true) A) s):
 ∀(l:List Nat)(m:Nat)(L:Array Bool)(s:σ),seqB free (YE md ops) ops.size l m=true->Corr ops L m->Down md ops L->seqS step K l L s->anyS step K md ops l.length L s
 | [],m,L,s,hb,hc,hd,h=>by
   refine⟨?_,h⟩
   cases hr:Region.ready md ops L with
   |nil=>rfl
   |cons x r=>
    have hx:x∈Region.ready md ops L:=by rw[hr];exact YGy
    have:=(Ya5 hc).1 hx
    rw[Ydm hb x this.1]at this
    exact absurd this.2 (by simp)
 |i::l,m,L,s,hb,hc,hd,h=>by
  simp only[seqB,YGi,YG6]at hb
  obtain⟨⟨⟨h1,h2⟩,h3⟩,h4⟩:=hb
  have hin:i<ops.size:=by have:=YG2 h1;omega
  have hri:i∈Region.ready md ops L:=(Ya5 hc).2 ⟨hin,h2⟩
  have hrest:=mono i L s _ _ (fun s' hs'=>YsB mono strict exch l _ _ s' h4 (Ym6 hc hin) (hd.set hri) hs') h
  rcases h3 with h3|h3
  ·exact YhK mono (fun L s=>strict i L s h3) (exch i h3) _ L s hd hri hrest
  ·refine⟨fun h0=>(by rw[h0]at hri;cases hri),fun j hj=>?_⟩
   obtain⟨hjn,hrj⟩:=(Ya5 hc).1 hj
   obtain rfl:=Ydp h3 j hjn hrj
   exact hrest
def YoP{σ:Type}(step:Nat->Array Bool->(σ->Prop)->σ->Prop)(K:σ->Prop):OT->Array Bool->σ->Prop
 | .nil,_,s=>K s
 | .op i t,L,s=>step i L (YoP step K t (L.setIfInBounds i true)) s
 | .br a b,L,s=>YoP step K a L s/\YoP step K b L s
theorem Ykl{dm:List Nat}{m:Nat}{hs:List Nat}:∀{n:Nat},Ym7 dm m hs n=true->∀k,k<n->Ybl dm m k=true->k∈hs
 |n+1,h,k,hk,hr=>by
  simp only[Ym7,YGi,YG6,YGA]at h
  rcases YGz k n with h'|h'
  ·exact Ykl h.2 k h' hr
  ·obtain rfl:k=n:=by omega
   rcases h.1 with h1|h1
   ·exact List.contains_iff_mem.1 h1
   ·rw[hr]at h1;cases h1
theorem YeG{free:Nat->Bool}{dm:List Nat}{n:Nat}:∀{t:OT}{m:Nat}{ex:Bool},Ycy free dm n t m ex=true->∀i∈t.heads,i<n/\Ybl dm m i=true
 | .nil,_,_,_,i,hi=>by cases hi
 | .op j t,m,ex,h,i,hi=>by
   simp only[Ycy,YGi]at h
   obtain rfl:i=j:=by simpa [OT.heads]using hi
   exact⟨by have:=YG2 h.1.1.1;omega,h.1.1.2⟩
 | .br a b,m,ex,h,i,hi=>by
   simp only[Ycy,YGi]at h
   rcases YGT.1 hi with hi|hi
   ·exact YeG h.1.2 i hi
   ·exact YeG h.2 i hi
theorem Yh2{free:Nat->Bool}{dm:List Nat}{n:Nat}:∀{t:OT}{m:Nat},Ycy free dm n t m true=true->∃i,i∈t.heads
 | .nil,_,h=>by simp [Ycy]at h
 | .op j t,_,_=>⟨j,by simp [OT.heads]⟩
 | .br a b,m,h=>by
   simp only[Ycy,YGi]at h
   obtain⟨i,hi⟩:=Yh2 h.1.2
   exact⟨i,List.mem_append_left _ hi⟩
theorem Yrx{free:Nat->Bool}{dm:List Nat}{n:Nat}:∀{t:OT}{m:Nat},Ycy free dm n t m true=true->∃k,t.len=k+1
 | .nil,_,h=>by simp [Ycy]at h
 | .op j t,_,_=>⟨t.len,rfl⟩
 | .br a b,m,h=>by
   simp only[Ycy,YGi]at h
   show∃k,a.len=k+1
   exact Yrx h.1.2
theorem Ygu{σ:Type}{step:Nat->Array Bool->(σ->Prop)->σ->Prop}{K:σ->Prop}{free:Nat->Bool}
 (mono:∀(j:Nat) (L:Array Bool) (s:σ) (A B:σ->Prop),(∀s,A s->B s)->step j L A s->step j L B s)
 (strict:∀i L s,free i=true->¬step i L (fun _=>False) s)
 (exch:∀(i:Nat),free i=true->∀(j:Nat) (L:Array Bool) (s:σ) (A:σ->Prop),Down md ops L->i∈Region.ready md ops L->j∈Region.ready md ops L->j≠i->step i L (step j (L.setIfInBounds i true) A) s->step j L (step i (L.setIfInBounds j true) A) s):
 ∀(t:OT)(m:Nat)(ex:Bool)(L:Array Bool)(s:σ),Ycy free (YE md ops) ops.size t m ex=true->Corr ops L m->Down md ops L->YoP step K t L s->
  (ex=false->anyS step K md ops t.len L s)/\∀i∈t.heads,∀k,t.len=k+1->step i L (anyS step K md ops k (L.setIfInBounds i true)) s
 | .nil,m,ex,L,s,hb,hc,hd,h=>by
   simp only[Ycy,YGi]at hb
   refine⟨fun _=>⟨?_,h⟩,fun i hi=>by cases hi⟩
   cases hr:Region.ready md ops L with
   |nil=>rfl
   |cons x r=>
    have hx:x∈Region.ready md ops L:=by rw[hr];exact YGy
    have:=(Ya5 hc).1 hx
    rw[Ydm hb.2 x this.1]at this
    exact absurd this.2 (by simp)
 | .op i t,m,ex,L,s,hb,hc,hd,h=>by
   have hb0:=hb
   simp only[Ycy,YGi,YG6]at hb
   obtain⟨⟨⟨h1,h2⟩,h3⟩,h4⟩:=hb
   have hin:i<ops.size:=by have:=YG2 h1;omega
   have hri:i∈Region.ready md ops L:=(Ya5 hc).2 ⟨hin,h2⟩
   have hrest:=mono i L s _ _ (fun s' hs'=>(Ygu mono strict exch t _ false _ s' h4 (Ym6 hc hin) (hd.set hri) hs').1 rfl) h
   refine⟨fun hex=>?_,fun j hj k hk=>?_⟩
   ·rcases h3 with(h3|h3) |h3
    ·rw[hex]at h3;cases h3
    ·exact YhK mono (fun L s=>strict i L s h3) (exch i h3) _ L s hd hri hrest
    ·refine⟨fun h0=>(by rw[h0]at hri;cases hri),fun j hj=>?_⟩
     obtain⟨hjn,hrj⟩:=(Ya5 hc).1 hj
     obtain rfl:=Ydp h3 j hjn hrj
     exact hrest
   ·obtain rfl:j=i:=by simpa [OT.heads]using hj
    obtain rfl:t.len=k:=by simpa [OT.len]using hk
    exact hrest
 | .br a b,m,ex,L,s,hb,hc,hd,h=>by
   have hb0:=hb
   simp only[Ycy,YGi,YG6]at hb
   obtain⟨⟨⟨h1,h2⟩,h3⟩,h4⟩:=hb
   have hl:a.len=b.len:=YGD h2
   have ha:=(Ygu mono strict exch a m true L s h3 hc hd h.1).2
   have hb':=(Ygu mono strict exch b m true L s h4 hc hd h.2).2
   have hall:∀i∈(OT.br a b).heads,∀k,(OT.br a b).len=k+1->step i L (anyS step K md ops k (L.setIfInBounds i true)) s:=by
    intro i hi k hk
    rcases YGT.1 hi with hi|hi
    ·exact ha i hi k hk
    ·exact hb' i hi k (by rw[<-hl];exact hk)
   refine⟨fun hex=>?_,hall⟩
   rcases h1 with h1|h1
   ·rw[hex]at h1;cases h1
   ·obtain⟨k,hk⟩:=Yrx h3
    show anyS step K md ops a.len L s
    rw[hk]
    refine⟨fun h0=>?_,fun j hj=>?_⟩
    ·obtain⟨i,hi⟩:=Yh2 h3
     have:=(Ya5 hc).2 (YeG h3 i hi)
     rw[h0]at this;cases this
    ·obtain⟨hjn,hrj⟩:=(Ya5 hc).1 hj
     exact hall j (Ykl h1 j hjn hrj) k hk
theorem YgP:Down md ops (Array.replicate ops.size false):=by
 refine⟨by simp,fun i o _ h=>?_⟩
 exfalso
 rcases YGz i ops.size with h'|h'
 ·simp [h']at h
 ·simp [Array.getElem?_eq_none,h']at h
theorem Ykk:Corr ops (Array.replicate ops.size false) 0:=by
 refine⟨by simp,fun i=>?_⟩
 rcases YGz i ops.size with h'|h'
 ·simp [h']
 ·simp [Array.getElem?_eq_none,h']
end
end Go.Vx
namespace Go.Vx
open Go.RowKit
structure Pend where
 idx:Nat
 slot:Nat
 cells:AL
def YO:List SV->List Pend->List SV
 |fr,[]=>fr
 |fr,p::l=>setL (YO fr l) p.slot .junk
def YB:List HO->List Pend->List HO
 |hp,[]=>hp
 |hp,p::l=>setH (YB hp l) p.idx .gone
theorem AL.ho_ne(z:AL):z.ho≠ .gone:=by cases z <;> (intro h;cases h)
def er(Pd:List Pend)(s:S):S:={ fr:=YO s.fr Pd,saved:=s.saved,hp:=YB s.hp Pd}
def PR(w0:Cx)(Pd:List Pend)(s:S)(a:Act)(sv:List Act)(w:World):Prop:=
 Rl w0 (er Pd s) a sv w/\∀p∈Pd,getH s.hp p.idx=p.cells.ho/\setL s.fr p.slot (.ptr p.idx 0)=s.fr
section
variable {Pd:List Pend} {hp:List HO} {fr:List SV}
theorem Ya2:∀(Pd:List Pend),lenH (YB hp Pd)=lenH hp
 | []=>rfl
 |p::l=>by rw[YB,YcQ,Ya2 l]
theorem Ycb:∀{Pd:List Pend}{n:Nat},(∀p∈Pd,p.slot≠n)->getL (YO fr Pd) n=getL fr n
 | [],_,_=>rfl
 |p::l,n,h=>by
  rw[YO,YbD _ _ _ _ (h p YGy),Ycb fun q hq=>h q (YGx _ hq)]
theorem Ydf:∀{Pd:List Pend}{n:Nat},(∀p∈Pd,p.idx≠n)->getH (YB hp Pd) n=getH hp n
 | [],_,_=>rfl
 |p::l,n,h=>by
  rw[YB,YR _ _ _ _ (h p YGy),Ydf fun q hq=>h q (YGx _ hq)]
theorem Yde:∀{Pd:List Pend}{p:Pend},p∈Pd->getH (YB hp Pd) p.idx= .gone
 |q::l,p,h=>by
  rw[YB]
  by_cases he:q.idx=p.idx
  ·rw[he]
   rcases YGz p.idx (lenH (YB hp l))with hl|hl
   ·rw[YaQ _ _ _ hl]
   ·rw[Ybb _ _ (by rw[YcQ];exact hl)]
  ·rw[YR _ _ _ _ he]
   rcases YGK.1 h with rfl|h
   ·exact absurd rfl he
   ·exact Yde h
theorem Ybo:∀{Pd:List Pend}{n:Nat}{x:SV},(∀p∈Pd,p.slot≠n)->YO (setL fr n x) Pd=setL (YO fr Pd) n x
 | [],_,_,_=>rfl
 |p::l,n,x,h=>by
  rw[YO,YO,Ybo (fun q hq=>h q (YGx _ hq)),Ycv _ _ _ _ _ (fun e=>h p YGy e.symm)]
theorem Yhj:∀(l:List HO)(n m:Nat)(x y:HO),n≠m->setH (setH l n x) m y=setH (setH l m y) n x
 | [],_,_,_,_,_=>rfl
 |_::_,0,0,_,_,h=>absurd rfl h
 |_::_,0,_+1,_,_,_=>rfl
 |_::_,_+1,0,_,_,_=>rfl
 |a::l,n+1,m+1,x,y,h=>congrArg (a::·) (Yhj l n m x y (fun e=>h (by rw[e])))
theorem YeF:∀{Pd:List Pend}{n:Nat}{x:HO},(∀p∈Pd,p.idx≠n)->YB (setH hp n x) Pd=setH (YB hp Pd) n x
 | [],_,_,_=>rfl
 |p::l,n,x,h=>by
  rw[YB,YB,YeF (fun q hq=>h q (YGx _ hq)),Yhj _ _ _ _ _ (fun e=>h p YGy e.symm)]
theorem Yn1:∀(a b:List HO)(n:Nat)(x:HO),n<lenH a->setH (a++b) n x=setH a n x++b
 | [],_,_,_,h=>by simp [lenH]at h
 |_::_,_,0,_,_=>rfl
 |y::a,b,n+1,x,h=>congrArg (y::·) (Yn1 a b n x (by simpa [lenH]using h))
theorem YjG:∀(a:List HO)(x:HO),Ybt a x=a++[x]
 | [],_=>rfl
 |y::a,x=>congrArg (y::·) (YjG a x)
theorem YcM{hs:List HO}:∀{Pd:List Pend},(∀p∈Pd,p.idx<lenH hp)->YB (hp++hs) Pd=YB hp Pd++hs
 | [],_=>rfl
 |p::l,h=>by
  rw[YB,YB,YcM (fun q hq=>h q (YGx _ hq)),Yn1 _ _ _ _ (by rw[Ya2];exact h p YGy)]
theorem Ydg{x:HO}(h:∀p∈Pd,p.idx<lenH hp):YB (Ybt hp x) Pd=Ybt (YB hp Pd) x:=by
 rw[YjG,YjG,YcM h]
theorem Yjm{w:World}{bs:List BK}{B:Bd}{i:Nat}{x:BK}(hH:Hp w bs B (YB hp Pd))(hb:bs[i]? =some x)(hx:x≠ .gone):(∀p∈Pd,p.idx≠i)/\getH (YB hp Pd) i=getH hp i:=by
 have:∀p∈Pd,p.idx≠i:=by
  rintro p hp rfl
  have:=hH.ent p.idx
  rw[Yde hp]at this
  rcases this with h|h
  ·rw[hb]at h;cases h;exact hx rfl
  ·rw[hb]at h;cases h
 exact⟨this,Ydf this⟩
theorem hpV{w:World}{bs:List BK}{B:Bd}(hH:Hp w bs B (YB hp Pd)):HpV w bs B hp:=
 ⟨fun i x hb hx=>by have:=hH.ent i;rw[(Yjm hH hb hx).2]at this;exact this,fun _ _ _ _ hb=>hH.le hb,hH.lo,fun _ _ _ _ hb=>hH.un hb⟩
theorem YiH{w:World}{bs:List BK}{B:Bd}{b:Nat}:∀{x:SV}{v:Value},Rep w bs B x v->blk x=some b->∃y,bs[b]? =some y/\y≠ .gone
 |_,_,.x _ _ h,hb=>by cases h <;> cases hb
 |_,_,.agg _ _ _,hb=>by cases hb
 |_,_,.tup _ _ _,hb=>by cases hb
 |_,_,.fn _ _ _ _ _ _ _,hb=>by cases hb
 |_,_,.iface _ _ _ _,hb=>by cases hb
 |_,_,.ptr i off b' n h,hb=>by cases hb;exact⟨_,h,by simp⟩
 |_,_,.own i lo n size b' cap m ad h hl ha,hb=>by cases hb;exact⟨_,h,by simp⟩
 |_,_,.ownNil i size h,hb=>by cases hb;exact⟨_,h,by simp⟩
 |_,_,.elem i k off size b' cap m h hk,hb=>by cases hb;exact⟨_,h,by simp⟩
 |_,_,.smp _ _ _,hb=>by cases hb
 |_,_,.optT _ _ _,hb=>by cases hb
 |_,_,.optF _,hb=>by cases hb
 |_,_,.cut _ _ _ _ h,hb=>YiH h hb
theorem Yq5{w:World}{bs:List BK}{B:Bd}{xs:List SV}{vs:List Value}(h:RepL w bs B xs vs):∃v,Rep w bs B (Yc3 xs) v:=by
 cases h with
 |nil=>exact⟨undef,.x _ _ (.junk _)⟩
 |cons x v l vs h h'=>exact⟨v,h⟩
theorem YeX{w:World}{bs:List BK}{B:Bd}{b:Nat}{xs:List SV}{vs:List Value}(hH:Hp w bs B (YB hp Pd))(h:RepL w bs B xs vs)(hb:blk (Yc3 xs)=some b):(∀p∈Pd,p.idx≠b)/\getH (YB hp Pd) b=getH hp b:=by
 obtain⟨v,hv⟩:=Yq5 h
 obtain⟨y,h1,h2⟩:=YiH hv hb
 exact Yjm hH h1 h2
theorem YsN{hp hp':List HO}{n n':Nat}{o:VO}(ho:o.isStore=true){xs:List SV}(h:∀b,blk (Yc3 xs)=some b->getH hp' b=getH hp b):eff hp' n' o xs=eff hp n o xs:=by
 cases o <;> simp only[VO.isStore,reduceCtorEq]at ho
 rename_i size
 rcases xs with _| ⟨a,_| ⟨v,_| ⟨c,l⟩⟩⟩ <;> try rfl
 have key:storeAt hp' size (YaE v) a=storeAt hp size (YaE v) a:=by
  cases a <;> try rfl
  case ptr i off=>have:=h i rfl;simp only[storeAt,this]
  case elem i k off sz=>have:=h i rfl;simp only[storeAt,this]
 simp only[eff,YhU,key]
theorem Yq6{hp hp':List HO}{n:Nat}{o:VO}(hq:o.quiet=false)(ha:o.isAppend=false)(hbad:o.bad=false){xs:List SV}(h:∀b,blk (Yc3 xs)=some b->getH hp' b=getH hp b):eff hp' n o xs=eff hp n o xs:=by
 cases hs:o.isStore with
 |true=>exact YsN hs h
 |false=>cases o <;> simp only[VO.quiet,VO.isStore,VO.isAppend,VO.bad,reduceCtorEq]at hq hs ha hbad <;> rfl
end
end Go.Vx
namespace Go.Vx
open Go.RowKit
open Go.MapKept (run_setObj_map modify_keys)
section
variable {P:Program} {ρ:Operand->Value} {w w':World} {bs bs':List BK} {B:Bd} {hp:List HO}
def Bd.cx(B:Bd)(w:World):Cx0:={ toWorld:=w,F:=fun b=>B.I b=none,I:=B.I,up:=fun _ _ h=>h,ex:=fun _ h=>h}
def bdZ:Bd:=⟨0,fun _=>True,fun _=>none,fun _ _ _=>trivial,fun _ _=>rfl⟩
theorem YuE{kk:List IntKind}:∀{l l':List Int},l.length=kk.length->l'.length=kk.length->keyV kk l=keyV kk l'->l=l':=by
 intro l l' h1 h2 h
 simp only[keyV,Value.agg.injEq]at h
 have h:(kk.zip l).map (fun p=>Value.int p.1 p.2)=(kk.zip l').map (fun p=>Value.int p.1 p.2):=by simpa using congrArg Array.toList h
 induction kk generalizing l l' with
 |nil=>cases l <;> cases l' <;> simp at h1 h2⊢
 |cons k kk ih=>
  cases l with
  |nil=>simp at h1
  |cons x l=>
   cases l' with
   |nil=>simp at h2
   |cons y l'=>
    simp only[List.zip_cons_cons,YGY,List.cons.injEq,Value.int.injEq,true_and]at h
    rw[h.1,ih (by simpa using h1) (by simpa using h2) (by simp [keyV,h.2]) h.2]
def Yf8(kk:List IntKind)(l:List Int):List Value:=(kk.zip l).map fun p=> .int p.1 p.2
def Yot(kk:List IntKind)(l:List Int):List SV:=(kk.zip l).map fun p=> .int p.1 p.2
theorem YkA{kk:List IntKind}{l:List Int}:RepL w bs B (Yot kk l) (Yf8 kk l):=by
 unfold Yot Yf8
 induction kk.zip l with
 |nil=>exact .nil
 |cons p r ih=>exact .cons _ _ _ _ (.x _ _ (.int _ _)) ih
theorem YkD:∀{fs:List Field}{k:Nat}{kk:List IntKind},Ydi P k fs=some kk->YeH P k fs=some (kk.map fun _=>true)
 | [],k,kk,h=>by simp only[Ydi,Option.some.injEq]at h;subst h;rfl
 |f::fs,k,kk,h=>by
  simp only[Ydi]at h
  split at h
  ·rename_i hc
   split at h
   ·rename_i kd hu
    obtain⟨kk',h1,rfl⟩:=YGh.1 h
    simp only[YeH]
    rw[if_pos hc]
    simp [YfV,hu,YkD h1]
   ·cases h
  ·cases h
theorem YvH:∀{kk:List IntKind}{l l':List Int},l.length=kk.length->l'.length=kk.length->∃p,YbM (kk.map fun _=>true) (Yot kk l) (Yot kk l')=some (p,decide (l=l'))/\p
 | [],l,l',h1,h2=>by
   cases l <;> cases l' <;> simp at h1 h2
   exact⟨True,by simp [Yot,YbM],trivial⟩
 |k::kk,l,l',h1,h2=>by
  cases l with
  |nil=>simp at h1
  |cons x l=>
   cases l' with
   |nil=>simp at h2
   |cons y l'=>
    obtain⟨p,h3,h4⟩:=YvH (kk:=kk) (l:=l) (l':=l') (by simpa using h1) (by simpa using h2)
    refine⟨k=k/\p,?_,rfl,h4⟩
    simp only[Yot,YGY,List.zip_cons_cons,YbM]
    have h3':YbM (kk.map fun _=>true) ((kk.zip l).map fun p=> .int p.1 p.2) ((kk.zip l').map fun p=> .int p.1 p.2)=some (p,decide (l=l')):=h3
    rw[h3']
    simp
theorem Yg2{t:TypeId}{kk:List IntKind}(h:Ycc P t=some kk):∃k e fs,P.underlying t=some (.map k e)/\P.underlying k=some (.struct fs)/\P.stoodInHeld k=false/\Ydi P 0 fs.toList=some kk/\(∀w:World,(zeroValue e).run P w= .ok (.int .i64 0) w):=by
 unfold Ycc at h
 split at h
 ·rename_i k e hu
  split at h
  ·rename_i fs hk
   split at h
   ·rename_i hc
    simp only[YGi,YGA]at hc
    refine⟨k,e,fs,hu,hk,hc.2,h,fun w=>?_⟩
    have hz:=hc.1
    unfold Ywx at hz
    split at hz
    ·rename_i i hi
     split at hz
     ·rename_i hz0
      simp [zeroValue,typeInfo,hi,hz0]
     ·cases hz
    ·cases hz
   ·cases h
  ·cases h
 ·cases h
theorem Ysx{k:TypeId}{fs:Array Field}{kk:List IntKind}(hk:P.underlying k=some (.struct fs))(hs:P.stoodInHeld k=false)(hi:Ydi P 0 fs.toList=some kk){l l':List Int}(h1:l.length=kk.length)(h2:l'.length=kk.length):
 (Op.equal k (keyV kk l) (keyV kk l')).run P w= .ok (decide (l=l')) w:=by
 obtain⟨p,h3,h4⟩:=YvH h1 h2
 have hu':P.underlying k=some (.struct (P.fieldsOf k)):=by simp [Program.fieldsOf,hk]
 have hf:(P.fieldsOf k).toList=fs.toList:=by simp [Program.fieldsOf,hk]
 have hrun:=run_equalIn_struct (P:=P) w 9999 k (Yf8 kk l).toArray (Yf8 kk l').toArray hu' hs
 rw[hf,YeD (d:=9998) (X:=Yf8 kk l) (Y:=Yf8 kk l') (bs:=[]) (B:=bdZ) (YkD hi) h3 h4 (by simpa using YkA) (by simpa using YkA)]at hrun
 simpa [Op.equal,Op.maxDepth,keyV,Yf8]using hrun
theorem YbI{k:TypeId}{fs:Array Field}{kk:List IntKind}(hk:P.underlying k=some (.struct fs))(hs:P.stoodInHeld k=false)(hi:Ydi P 0 fs.toList=some kk){l:List Int}(h1:l.length=kk.length):
 ∀(es:List MapEntry)(i:Nat),(∀e∈es,∃l,l.length=kk.length/\e.key=keyV kk l)->
  ((Instr.findAsking k (keyV kk l) es i).run P w= .ok none w)\/∃j e,(Instr.findAsking k (keyV kk l) es i).run P w= .ok (some (i+j,e.val)) w/\es[j]? =some e/\e.key=keyV kk l
 | [],i,_=> .inl rfl
 |e::es,i,h=>by
  obtain⟨l',h2,h3⟩:=h e YGy
  have hq:=Ysx (w:=w) hk hs hi h1 h2
  unfold Instr.findAsking
  rw[h3]
  simp only[Sem.run_bind,hq,Result.andThen_ok]
  by_cases hl:l=l'
  ·right
   refine⟨0,e,by simp [hl],rfl,by rw[h3,hl]⟩
  ·simp only[hl,decide_false,YGC,if_false]
   rcases YbI hk hs hi h1 es (i+1) (fun e he=>h e (YGx _ he))with h4| ⟨j,e',h4,h5,h6⟩
   ·exact .inl h4
   ·exact .inr ⟨j+1,e',by rw[h4,show i+1+j=i+(j+1)by omega],by simpa using h5,h6⟩
theorem YdY{kk:List IntKind}{l:List Int}{k:TypeId}{fs:Array Field}(hk:P.underlying k=some (.struct fs))(hi:Ydi P 0 fs.toList=some kk)(h1:l.length=kk.length)(em:Bool):(Instr.checkKey em 10000 k (keyV kk l)).run P w= .ok () w:=by
 have key:∀(gs:List Field)(j:Nat)(kj:List IntKind)(lj:List Int)(X:List Value),Ydi P j gs=some kj->lj.length=kj.length->X.drop j=Yf8 kj lj->
  (forIn gs PUnit.unit (fun(f:Field) (_:PUnit)=>(if f.name≠ "_" then do let a<-part f.type X.toArray f.offset;Instr.checkKey em 9999 f.type a;pure (ForInStep.yield PUnit.unit)else pure (ForInStep.yield PUnit.unit):Sem (ForInStep PUnit)))).run P w= .ok PUnit.unit w:=by
  intro gs
  induction gs with
  |nil=>intro j kj lj X _ _ _;simp
  |cons f gs ih=>
   intro j kj lj X hkj hlj hX
   simp only[Ydi]at hkj
   split at hkj
   ·rename_i hc
    simp only[YGi,beq_iff_eq,bne_iff_ne,ne_eq]at hc
    obtain⟨⟨c1,c2⟩,c3⟩:=hc
    split at hkj
    ·rename_i kd hu
     obtain⟨kj',hk',rfl⟩:=YGh.1 hkj
     cases lj with
     |nil=>simp at hlj
     |cons x lj=>
      have hX':X.drop j= .int kd x::Yf8 kj' lj:=by rw[hX];rfl
      obtain⟨d1,d2⟩:=YaF hX'
      have hp:(part f.type X.toArray f.offset).run P w= .ok (.int kd x) w:=by
       rw[c2]
       exact Ydy (b:=true) (by simp [YfV,hu]) d1
      have hck:(Instr.checkKey em 9999 f.type (.int kd x)).run P w= .ok () w:=by
       unfold Instr.checkKey
       simp [run_underlying hu,Result.andThen]
      have ih':=ih (j+1) kj' lj X hk' (by simpa using hlj) d2
      simp only[List.forIn_cons,Sem.run_bind,ne_eq,c3,not_false_eq_true,if_true,hp,Result.andThen_ok,hck,Sem.run_pure]
      exact ih'
    ·cases hkj
   ·cases hkj
 have:=key fs.toList 0 kk l (Yf8 kk l) hi h1 rfl
 unfold Instr.checkKey
 simp only[Sem.run_bind,run_underlying hk,Result.andThen_ok,keyV]
 rw[<-Array.forIn_toList]
 simp [Yf8]at this⊢
 rw[this]
 rfl
theorem YjB{kk:List IntKind}{l:List Int}:Instr.sameBits 10000 (keyV kk l) (keyV kk l)=true:=by
 have h:∀(vs:List (IntKind×Int)),((vs.map fun p=>Value.int p.1 p.2).zip (vs.map fun p=>Value.int p.1 p.2)).all (fun(x,y)=>Instr.sameBits 9999 x y)=true:=by
  intro vs
  induction vs with
  |nil=>rfl
  |cons p r ih=>simp only[YGY,List.zip_cons_cons,List.all_cons,ih,Bool.and_true];simp [Instr.sameBits]
 unfold keyV Instr.sameBits
 simp only[beq_self_eq_true,YHq]
 exact h (kk.zip l)
theorem Yjf:∀{kk:List IntKind}{cs:List SV}{p:Prop}{l:List Int}{vs:List Value},Yje kk cs=some (p,l)->p->RepL w bs B cs vs->vs=Yf8 kk l/\l.length=kk.length
 | [],cs,p,l,vs,h,hp,hr=>by
   cases cs with
   |nil=>simp only[Yje,Option.some.injEq,Prod.mk.injEq]at h;obtain⟨_,rfl⟩:=h;cases hr;exact⟨rfl,rfl⟩
   |cons=>simp [Yje]at h
 |k::kk,cs,p,l,vs,h,hp,hr=>by
  cases cs with
  |nil=>simp [Yje]at h
  |cons c cs=>
   cases c <;> simp only[Yje,reduceCtorEq]at h
   rename_i k' x
   obtain⟨⟨q,r⟩,h1,h2⟩:=YGh.1 h
   simp only[Prod.mk.injEq]at h2
   obtain⟨rfl,rfl⟩:=h2
   obtain⟨rfl,hq⟩:=hp
   obtain⟨v,vs',rfl,g1,g2⟩:=hr.cons_inv
   obtain⟨rfl,hl⟩:=Yjf h1 hq g2
   rw[g1.int_inv]
   exact⟨rfl,by simp [hl]⟩
theorem hp0{z:Cx0}{w':World}{J:Nat->Option IK}{hJ:Ext z J}(h:∀(b:Nat) (K:IK),J b=some K->∃o,w'.heap[b]? =some o/\K.ok o):Hp w' [] (z.wI J hJ).bd []:=
 ⟨rfl,fun i=> .inr (by simp),fun _ _ _ _ _ _ _ h=>by simp at h,fun _ _ _ _ h=>by simp at h,fun b K hb=>⟨Ybn,h b K hb⟩⟩
theorem Yaa(z:Cx0):Ext z z.I:=⟨fun _ _=>rfl,fun _ _ h=>h⟩
def POk(P:Program)(ρ:Operand->Value)(op:Op)(w:World)(B:Bd)(k:SV->List HO->Prop):Prop:=
 ∃r v w' x J,∃hJ:Ext (B.cx w) J,(∀dst type pos after guard,(execOp ρ ⟨dst,op,type,pos,after,guard⟩).run P w= .ok r w')/\(r= .value v\/(r= .skip/\v=undef))/\k x []/\
  Rep w' [] ((B.cx w).wI J hJ).bd x v/\Hp w' [] ((B.cx w).wI J hJ).bd []/\BelowI (B.cx w).bd w w'/\Yl x
theorem Yf6{b:Nat}{o:Obj}{K:IK}(hw:Wrote w w' b o)(hI:B.I b=some K):BelowI (B.cx w).bd w w':=
 ⟨hw.os,hw.tape,hw.output,YGu hw.size.symm,fun k hk hIk=>hw.other k (by rintro rfl;have h:B.I k=none:=hIk;rw[hI]at h;cases h)⟩
theorem Ylp(hH:Hp w bs B hp){b:Nat}{o:Obj}{K:IK}(hw:Wrote w w' b o)(hI:B.I b=some K)(ho:K.ok o):∀(b:Nat)(K:IK),B.I b=some K->∃o,w'.heap[b]? =some o/\K.ok o:=by
 intro b' K' hI'
 by_cases hb:b'=b
 ·subst hb
  rw[hI]at hI';cases hI'
  exact⟨o,hw.at_,ho⟩
 ·obtain⟨_,o',h1,h2⟩:=hH.reg b' K' hI'
  exact⟨o',by rw[hw.other b' hb];exact h1,h2⟩
theorem Ylc{b:Nat}{o o':Obj}(hb:w.heap[b]? =some o):Wrote w { w with heap:=w.heap.setIfInBounds b o'} b o':=by
 have hbl:b<w.heap.size:=(YGX.1 hb).1
 exact⟨rfl,rfl,rfl,by simp,by simp [hbl],fun r hr=>by simp [Ne.symm hr]⟩
inductive Yog (P:Program):Op->VO->List Operand->Prop where
 |load (t:TypeId) (a:Operand) (g:Bool) (s:Nat) (hg:Yeu P t=some g) (hs:sizeOf? P t=some s) (hc:chk g s=true):Yog P (.load t a) (.load g s) [a]
 |store (t:TypeId) (a x:Operand) (s:Nat) (hs:sizeOf? P t=some s):Yog P (.store t a x) (.store s) [a,x]
 |mk (t:TypeId) (kk:List IntKind) (h:Ycc P t=some kk):Yog P (.makeMap t none) (.mkMap kk) []
 |get (t:TypeId) (m k:Operand) (kk:List IntKind) (h:Ycc P t=some kk):Yog P (.lookup t m k true) (.mapGet kk) [m,k]
 |put (t:TypeId) (m k x:Operand) (kk:List IntKind) (h:Ycc P t=some kk):Yog P (.mapUpdate t m k x) (.mapPut kk) [m,k,x]
theorem Yvy{op:BinOp}{t:TypeId}{v:VO}(hv:vbin P op t=some v)(xs:List SV):psd v xs=none:=by
 cases op <;> simp only[vbin]at hv
 ·split at hv <;> cases hv;rfl
 ·split at hv <;> cases hv;rfl
 ·cases hv;rfl
 ·cases hv;rfl
 ·cases hv;rfl
 ·cases hv;rfl
 ·cases hv;rfl
 ·cases hv;rfl
 ·cases hv;rfl
 ·cases hv;rfl
 ·cases hv;rfl
 ·split at hv
  ·cases hv;rfl
  ·split at hv
   ·cases hv;rfl
   split at hv
   ·cases hv;rfl
   ·obtain⟨ks,hk,rfl⟩:=YGh.1 hv
    rfl
 ·split at hv
  ·cases hv;rfl
  ·split at hv
   ·cases hv;rfl
   split at hv
   ·cases hv;rfl
   ·obtain⟨ks,hk,rfl⟩:=YGh.1 hv
    rfl
 ·cases hv;rfl
 ·cases hv;rfl
 ·cases hv;rfl
 ·cases hv;rfl
theorem YBg{o:Oper}{vo:VO}{ops:List Operand}(hv:vop P o=some (vo,ops)):Yog P o.op vo ops\/∀xs,psd vo xs=none:=by
 obtain⟨dst,op,type,pos,after,guard⟩:=o
 unfold vop at hv
 simp only at hv
 split at hv
 ·cases hv;exact .inr fun _=>rfl
 ·cases hv;exact .inr fun _=>rfl
 ·cases hv;exact .inr fun _=>rfl
 ·split at hv
  ·obtain⟨kk,hk,hv⟩:=YGh.1 hv
   cases hv;exact .inl (.mk _ kk hk)
  ·split at hv <;> cases hv
   exact .inr fun _=>rfl
 ·split at hv
  ·cases hv;exact .inr fun _=>rfl
  ·obtain⟨kk,hk,hv⟩:=YGh.1 hv
   cases hv;exact .inl (.put _ _ _ _ kk hk)
 ·obtain⟨kk,hk,hv⟩:=YGh.1 hv
  cases hv;exact .inl (.get _ _ _ kk hk)
 ·cases hv;exact .inr fun _=>rfl
 ·cases hv;exact .inr fun _=>rfl
 ·split at hv
  ·obtain⟨z,hz,hv⟩:=YGe.1 hv
   obtain⟨s,hs,hv⟩:=YGh.1 hv
   cases hv;exact .inr fun _=>rfl
  ·obtain⟨z,hz,hv⟩:=YGh.1 hv
   cases hv;exact .inr fun _=>rfl
 ·cases hv;exact .inr fun _=>rfl
 ·obtain⟨z,hz,hv⟩:=YGe.1 hv
  obtain⟨pl,hpl,hv⟩:=YGe.1 hv
  split at hv <;> cases hv
  exact .inr fun _=>rfl
 ·obtain⟨g,hg,hv⟩:=YGe.1 hv
  obtain⟨s,hs,hv⟩:=YGe.1 hv
  split at hv <;> cases hv
  exact .inl (.load _ _ g s hg hs ‹_›)
 ·obtain⟨s,hs,hv⟩:=YGh.1 hv
  cases hv
  exact .inl (.store _ _ _ s hs)
 ·split at hv <;> cases hv
  exact .inr fun _=>rfl
 ·split at hv <;> cases hv
  exact .inr fun _=>rfl
 ·obtain⟨v,hb,hv⟩:=YGh.1 hv
  cases hv
  exact .inr (Yvy hb)
 ·cases hv;exact .inr fun _=>rfl
 ·cases hv;exact .inr fun _=>rfl
 ·split at hv <;> cases hv
  exact .inr fun _=>rfl
 ·obtain⟨fs,hfs,hv⟩:=YGe.1 hv
  obtain⟨fd,hfd,hv⟩:=YGe.1 hv
  obtain⟨z,hz,hv⟩:=YGe.1 hv
  split at hv <;> cases hv
  exact .inr fun _=>rfl
 ·obtain⟨fs,hfs,hv⟩:=YGe.1 hv
  obtain⟨fd,hfd,hv⟩:=YGe.1 hv
  obtain⟨z,hz,hv⟩:=YGe.1 hv
  obtain⟨g,hg,hv⟩:=YGe.1 hv
  split at hv <;> cases hv
  exact .inr fun _=>rfl
 ·split at hv
  ·obtain⟨s,hs,hv⟩:=YGh.1 hv
   cases hv;exact .inr fun _=>rfl
  ·obtain⟨s,hs,hv⟩:=YGh.1 hv
   cases hv;exact .inr fun _=>rfl
  ·cases hv
 ·split at hv
  ·obtain⟨s,hs,hv⟩:=YGe.1 hv
   obtain⟨g,hg,hv⟩:=YGe.1 hv
   split at hv <;> cases hv
   exact .inr fun _=>rfl
  ·cases hv;exact .inr fun _=>rfl
  ·cases hv
 ·split at hv
  ·obtain⟨s,hs,hv⟩:=YGh.1 hv
   cases hv;exact .inr fun _=>rfl
  ·obtain⟨s,hs,hv⟩:=YGh.1 hv
   cases hv;exact .inr fun _=>rfl
  ·cases hv
 ·split at hv
  ·obtain⟨s,hs,hv⟩:=YGh.1 hv
   cases hv;exact .inr fun _=>rfl
  ·cases hv
 ·split at hv
  ·obtain⟨s,hs,hv⟩:=YGe.1 hv
   obtain⟨b,hb,hv⟩:=YGe.1 hv
   obtain⟨z,hz,hv⟩:=YGe.1 hv
   split at hv <;> cases hv
   exact .inr fun _=>rfl
  ·cases hv
 ·split at hv
  ·obtain⟨s,hs,hv⟩:=YGe.1 hv
   obtain⟨z,hz,hv⟩:=YGe.1 hv
   split at hv <;> cases hv
   exact .inr fun _=>rfl
  ·cases hv
 ·cases hv;exact .inr fun _=>rfl
 ·split at hv
  ·cases hv
  ·cases hv;exact .inr fun _=>rfl
  ·cases hv
 ·cases hv;exact .inr fun _=>rfl
 ·rename_i c
  split at hv
  ·split at hv
   ·cases hv;exact .inr fun _=>rfl
   ·cases hv;exact .inr fun _=>rfl
  ·cases hv;exact .inr fun _=>rfl
  ·cases hv;exact .inr fun _=>rfl
  ·split at hv
   ·cases hv;exact .inr fun _=>rfl
   ·cases hv;exact .inr fun _=>rfl
   ·cases hv;exact .inr fun _=>rfl
   ·cases hv;exact .inr fun _=>rfl
   ·cases hv
  ·cases hv;exact .inr fun _=>rfl
  ·cases hv;exact .inr fun _=>rfl
  ·split at hv
   ·obtain⟨s,hs,hv⟩:=YGe.1 hv
    obtain⟨b,hb,hv⟩:=YGe.1 hv
    obtain⟨z,hz,hv⟩:=YGe.1 hv
    split at hv <;> cases hv
    exact .inr fun _=>rfl
   ·cases hv
  ·cases hv
 ·cases hv
theorem YuM{t:TypeId}{a:Operand}{C:Int->Prop}{k:SV->List HO->Prop}(hg:Yeu P t=some false)(hc:∀v,C v->k (.int .i64 v) [])(hx:Rep w bs B (.rcell C) (ρ a))(hH:Hp w bs B hp):POk P ρ (.load t a) w B k:=by
 obtain⟨n,D,j,b,rfl,hI,hj,hv⟩:=hx.rcell_inv
 obtain⟨_,o,ho,vs,T,rfl,hn,hall⟩:=hH.reg b _ hI
 obtain⟨v,hvv,hC⟩:=hall j hj
 refine⟨.value (.int .i64 v),.int .i64 v,w,.int .i64 v,B.I,Yaa (B.cx w),fun dst type pos after guard=>?_,.inl rfl,hc v hC,.x _ _ (.int _ _),hp0 fun b K h=>(hH.reg b K h).2,BelowI.refl _ _,trivial⟩
 simp only[execOp,Instr.loadAt,hv,Instr.sureAddr,loadVar,Sem.run_bind,Sem.run_pure,Result.andThen_ok,Ycu hg,YGC,if_false,run_load]
 have hcell:w.cell? ⟨b,j,none⟩=some (.int .i64 v):=by
  have h1:Cells w b 0 vs.toList:=⟨vs,T,(0,0),ho,fun q u hq=>by simpa using hq⟩
  have:=h1.cell (j:=j) (v:= .int .i64 v) (by simpa using hvv)
  simpa using this
 rw[hcell];rfl
theorem YsM{t:TypeId}{a x:Operand}{C:Int->Prop}{v:Int}{k:SV->List HO->Prop}(hs:sizeOf? P t=some 1)(hC:C v)(hc:k .junk [])(hx:Rep w bs B (.rcell C) (ρ a))(hy:ρ x= .int .i64 v)(hH:Hp w bs B hp):POk P ρ (.store t a x) w B k:=by
 obtain⟨n,D,j,b,rfl,hI,hj,hv⟩:=hx.rcell_inv
 obtain⟨_,o,ho,vs,T,rfl,hn,hall⟩:=hH.reg b _ hI
 obtain⟨w',cs',hrun,hw,hcs⟩:=YcX (P:=P) (ρ:=ρ) (x:=a) (y:=x) hs hv ho (by rw[hy];rfl) (by omega) (by rw[hy];simp [Value.cells,Value.oneCell'])
 have hcs':cs'.toList=vs.toList.set j (.int .i64 v):=by
  rw[hcs,hy]
  simp only[Value.cells,YJ,YHf,List.length_nil]
  rw[List.set_eq_take_append_cons_drop,if_pos (by simp;omega)]
  simp
 have hok:(IK.ints n D).ok (.cells cs' T (0,0)):=by
  refine⟨cs',T,rfl,?_,fun q hq=>?_⟩
  ·rw[<-Array.length_toList,hcs'];simpa using hn
  ·rw[<-Array.getElem?_toList,hcs',List.getElem?_set]
   split
   ·rename_i he
    subst he
    rw[if_pos (by simp;omega)]
    exact⟨v,rfl,hC⟩
   ·obtain⟨u,h1,h2⟩:=hall q hq
    exact⟨u,by rw[Array.getElem?_toList];exact h1,h2⟩
 exact⟨.skip,undef,w',.junk,B.I,Yaa (B.cx w),hrun,.inr ⟨rfl,rfl⟩,hc,.x _ _ (.junk _),hp0 (Ylp hH hw hI hok),Yf6 hw hI,trivial⟩
theorem YuO{t:TypeId}{kk:List IntKind}{k:SV->List HO->Prop}{C:List Int->Int->Prop}(hc:k (.imap kk C) [])(hH:Hp w bs B hp):POk P ρ (.makeMap t none) w B k:=by
 let J:Nat->Option IK:=fun b=>if b=w.heap.size then some (.map kk C)else B.I b
 have hJ:Ext (B.cx w) J:=⟨fun b hb=>by show(if b=w.heap.size then _ else _)=_;rw[if_neg (by have h:b<w.heap.size:=hb;omega)];rfl,fun b K hK=>by
  show(if b=w.heap.size then _ else _)=_
  have hK:B.I b=some K:=hK
  obtain⟨_,o,ho,_⟩:=hH.reg b K hK
  have:=(YGX.1 ho).1
  rw[if_neg (by omega)];exact hK⟩
 refine⟨.value (.map (some w.heap.size)),_,World.push w (.map #[] 0),.imap kk C,J,hJ,fun dst type pos after guard=>?_,.inl rfl,hc,.x _ _ (.imap _ _ _ (by show J _=_;simp [J])),hp0 fun b K hK=>?_,.of (Y1 (B:=(B.cx w).bd) _ (YGr _)),trivial⟩
 ·simp [execOp,Instr.makeMap,Result.andThen,run_newObj,World.push]
 ·by_cases hb:b=w.heap.size
  ·subst hb
   have:K= .map kk C:=by have h:J w.heap.size=some K:=hK;simp [J]at h;exact h.symm
   subst this
   exact⟨_,YaX, #[],0,rfl,fun e he=>by simp at he⟩
  ·have h:J b=some K:=hK
   simp only[J,if_neg hb]at h
   obtain⟨_,o,ho,hok⟩:=hH.reg b K h
   exact⟨o,Ygq ho,hok⟩
theorem YrJ{t:TypeId}{m y:Operand}{kk:List IntKind}{C:List Int->Int->Prop}{l:List Int}{k:SV->List HO->Prop}(ht:Ycc P t=some kk)(hc:∀r:Option Int,(∀v,r=some v->C l v)->k (.tup [.int .i64 (r.getD 0),.bool r.isSome]) [])
 (hx:Rep w bs B (.imap kk C) (ρ m))(hy:ρ y=keyV kk l)(hl:l.length=kk.length)(hH:Hp w bs B hp):POk P ρ (.lookup t m y true) w B k:=by
 obtain⟨b,hI,hv⟩:=hx.imap_inv
 obtain⟨_,o,ho,es,clock,rfl,hall⟩:=hH.reg b _ hI
 obtain⟨kt,et,fs,hu,hk,hst,hki,hz⟩:=Yg2 ht
 have hkeys:∀e∈es.toList,∃l,l.length=kk.length/\e.key=keyV kk l:=fun e he=>by
  obtain⟨l,v,h1,h2,_⟩:=hall e he;exact⟨l,h1,h2⟩
 have hwide:(match P.underlying kt with|some (.array _ _) |some (.struct _)=>true|_=>false)=true:=by rw[hk]
 have hfin:∀a,(Instr.findAsking kt (keyV kk l) es.toList 0).run P w= .ok a w->(Instr.findKey kt (keyV kk l) es.toList).run P w= .ok a w:=fun a h=>by rw[run_findKey_eq w hwide];exact h
 have fin:∀r:Option Int,(∀v,r=some v->C l v)->(∀dst type pos after guard,(execOp ρ ⟨dst,.lookup t m y true,type,pos,after,guard⟩).run P w= .ok (.value (.tuple #[.int .i64 (r.getD 0),.bool r.isSome])) w)->POk P ρ (.lookup t m y true) w B k:=fun r hr hrun=>
  ⟨_,.tuple #[.int .i64 (r.getD 0),.bool r.isSome],w,_,B.I,Yaa (B.cx w),hrun,.inl rfl,hc r hr,.x _ _ (.tup _ _ (.cons _ _ _ _ (.int _ _) (.cons _ _ _ _ (.bool _) .nil))),hp0 fun b K h=>(hH.reg b K h).2,BelowI.refl _ _,by simp [Yl,Ym]⟩
 rcases YbI (w:=w) hk hst hki hl es.toList 0 hkeys with h| ⟨j,e,h,h2,h3⟩
 ·refine fin none (fun _ h=>by cases h) fun dst type pos after guard=>?_
  simp [execOp,Instr.lookup,run_underlying hu,hv,hy,MapKept.run_getObj_map ho,YdY hk hki hl,hfin _ h,Result.andThen,hz w]
 ·obtain⟨l',v,g1,g2,g3,g4⟩:=hall e (List.mem_of_getElem? h2)
  have:l'=l:=YuE g1 hl (by rw[<-g2,h3])
  subst this
  refine fin (some v) (fun u hu=>by cases hu;exact g4) fun dst type pos after guard=>?_
  simp [execOp,Instr.lookup,run_underlying hu,hv,hy,MapKept.run_getObj_map ho,YdY hk hki hl,hfin _ h,Result.andThen,g3]
theorem YrK{t:TypeId}{m y x:Operand}{kk:List IntKind}{C:List Int->Int->Prop}{l:List Int}{v:Int}{k:SV->List HO->Prop}(ht:Ycc P t=some kk)(hC:C l v)(hc:k .junk [])
 (hx:Rep w bs B (.imap kk C) (ρ m))(hy:ρ y=keyV kk l)(hl:l.length=kk.length)(hxv:ρ x= .int .i64 v)(hH:Hp w bs B hp):POk P ρ (.mapUpdate t m y x) w B k:=by
 obtain⟨b,hI,hv⟩:=hx.imap_inv
 obtain⟨_,o,ho,es,clock,rfl,hall⟩:=hH.reg b _ hI
 obtain⟨kt,et,fs,hu,hk,hst,hki,hz⟩:=Yg2 ht
 have hkeys:∀e∈es.toList,∃l,l.length=kk.length/\e.key=keyV kk l:=fun e he=>by
  obtain⟨l,v,h1,h2,_⟩:=hall e he;exact⟨l,h1,h2⟩
 have hwide:(match P.underlying kt with|some (.array _ _) |some (.struct _)=>true|_=>false)=true:=by rw[hk]
 have hfin:∀a,(Instr.findAsking kt (keyV kk l) es.toList 0).run P w= .ok a w->(Instr.findKey kt (keyV kk l) es.toList).run P w= .ok a w:=fun a h=>by rw[run_findKey_eq w hwide];exact h
 have fin:∀(es':Array MapEntry)(clock':Nat),(∀dst type pos after guard,(execOp ρ ⟨dst,.mapUpdate t m y x,type,pos,after,guard⟩).run P w= .ok .skip { w with heap:=w.heap.setIfInBounds b (.map es' clock')})->(∀e∈es'.toList,∃l v,l.length=kk.length/\e.key=keyV kk l/\e.val= .int .i64 v/\C l v)->POk P ρ (.mapUpdate t m y x) w B k:=fun es' clock' hrun hall'=>
  ⟨.skip,undef,_,.junk,B.I,Yaa (B.cx w),hrun,.inr ⟨rfl,rfl⟩,hc,.x _ _ (.junk _),hp0 (Ylp hH (Ylc ho) hI ⟨es',clock',rfl,hall'⟩),Yf6 (Ylc ho) hI,trivial⟩
 rcases YbI (w:=w) hk hst hki hl es.toList 0 hkeys with h| ⟨j,e,h,h2,h3⟩
 ·refine fin (es.push { key:=keyV kk l,val:= .int .i64 v,born:=clock}) (clock+1) (fun dst type pos after guard=>?_) fun e he=>?_
  ·simp [execOp,Instr.mapUpdate,run_underlying hu,hv,hy,hxv,MapKept.run_getObj_map ho,YdY hk hki hl,hfin _ h,Result.andThen,run_setObj_map _ ho]
  ·simp only[Array.toList_push,YGT,YGU]at he
   rcases he with he|rfl
   ·exact hall e he
   ·exact⟨l,v,hl,rfl,rfl,hC⟩
 ·have hj:es[j]? =some e:=by simpa using h2
  have hks:(Instr.keyThatStays (keyV kk l) (keyV kk l)).run P w= .ok (keyV kk l) w:=by simp [Instr.keyThatStays,YjB]
  refine fin (es.modify j fun e=>{ e with key:=keyV kk l,val:= .int .i64 v}) clock (fun dst type pos after guard=>?_) fun e' he=>?_
  ·simp [execOp,Instr.mapUpdate,run_underlying hu,hv,hy,hxv,MapKept.run_getObj_map ho,YdY hk hki hl,hfin _ h,hj,h3,hks,Result.andThen,run_setObj_map _ ho]
  ·obtain⟨q,hq⟩:=List.mem_iff_getElem?.1 he
   rw[Array.getElem?_toList,Array.getElem?_modify]at hq
   split at hq
   ·obtain⟨e0,_,rfl⟩:=YGh.1 hq
    exact⟨l,v,hl,rfl,rfl,hC⟩
   ·exact hall e' (List.mem_of_getElem? (by rw[Array.getElem?_toList];exact hq))
theorem Ywe{o:Oper}{vo:VO}{ops:List Operand}{xs:List SV}{c:CRes}{k:SV->List HO->Prop}(hv:vop P o=some (vo,ops))(hp1:psd vo xs=some c)(hc:CSat c k)(hx:RepL w bs B xs (ops.map ρ))(hH:Hp w bs B hp):POk P ρ o.op w B k:=by
 have hcase:=YBg hv
 generalize o.op=op at hcase
 rcases hcase with h|h
 ·cases h with
  |load t a g s hg hs hck=>
   unfold psd at hp1
   cases g with
   |true=>cases hp1
   |false=>
    simp only at hp1
    split at hp1 <;> cases hp1
    exact YuM hg hc (one1 hx) hH
  |store t a x s hs=>
   unfold psd at hp1
   simp only at hp1
   split at hp1 <;> cases hp1
   obtain⟨h1,h2⟩:=two hx
   obtain⟨⟨rfl,hC⟩,hc⟩:=hc
   exact YsM hs hC hc h1 h2.int_inv hH
  |mk t kk ht=>
   unfold psd at hp1
   simp only at hp1
   split at hp1 <;> cases hp1
   obtain⟨C,hC⟩:=hc
   exact YuO hC hH
  |get t m y kk ht=>
   unfold psd at hp1
   simp only at hp1
   split at hp1
   ·rename_i ks C cs
    obtain⟨⟨p,l⟩,hk,heq⟩:=YGh.1 hp1
    simp only at heq
    subst heq
    obtain⟨⟨rfl,hpp⟩,hc⟩:=hc
    obtain⟨h1,h2⟩:=two hx
    obtain⟨vs,h3,h4⟩:=h2.agg_inv
    obtain⟨rfl,h5⟩:=Yjf hk hpp h4
    exact YrJ ht hc h1 h3 h5 hH
   ·cases hp1
  |put t m y x kk ht=>
   unfold psd at hp1
   simp only at hp1
   split at hp1
   ·rename_i ks C cs v
    obtain⟨⟨p,l⟩,hk,heq⟩:=YGh.1 hp1
    simp only at heq
    subst heq
    obtain⟨⟨⟨rfl,hpp⟩,hC⟩,hc⟩:=hc
    obtain⟨v1,l1,e1,h1,hx⟩:=hx.cons_inv
    obtain⟨v2,l2,e2,h2,hx⟩:=hx.cons_inv
    obtain⟨v3,l3,e3,h3,hx⟩:=hx.cons_inv
    simp only[YGY,List.map_nil,List.cons.injEq]at e1
    obtain⟨r1,rfl⟩:=e1
    simp only[List.cons.injEq]at e2
    obtain⟨r2,rfl⟩:=e2
    simp only[List.cons.injEq]at e3
    obtain⟨r3,rfl⟩:=e3
    obtain⟨vs,h5,h6⟩:=h2.agg_inv
    obtain⟨rfl,h7⟩:=Yjf hk hpp h6
    exact YrK ht hC hc (r1▸h1) (r2.trans h5) h7 (r3.trans h3.int_inv) hH
   ·cases hp1
 ·rw[h xs]at hp1;cases hp1
end
end Go.Vx
namespace Go.Vx
open Go.RowKit
section
variable {P:Program} {E:Env} {w0:Cx} {rd:Option Nat} {Pd:List Pend} {A:S->Prop} {s:S}
theorem Ydc{d:Option Nat}{x:SV}(hd:∀p∈Pd,d≠some p.slot):er Pd (s.put d x)=(er Pd s).put d x:=by
 cases d with
 |none=>rfl
 |some n=>simp only[er,S.put];rw[Ybo fun p hp e=>hd p hp (by rw[e])]
theorem YqU:∀{xs:List X},(∀p∈Pd,p.slot∉YY xs)->(er Pd s).args xs=s.args xs
 | [],_=>rfl
 |x::l,h=>by
  simp only[S.args]
  rw[YqU fun p hp hm=>h p hp (by simp [YY,hm])]
  cases x with
  |cn _=>rfl
  |tm n=>simp only[S.x,er];rw[Ycb fun p hp e=>h p hp (by simp [YY,X.slot,e])]
theorem YaH{d:Option Nat}{x:SV}(hd:∀p∈Pd,d≠some p.slot)(h:∀p∈Pd,getH s.hp p.idx=p.cells.ho/\setL s.fr p.slot (.ptr p.idx 0)=s.fr):
 ∀p∈Pd,getH (s.put d x).hp p.idx=p.cells.ho/\setL (s.put d x).fr p.slot (.ptr p.idx 0)=(s.put d x).fr:=fun p hp=>by
 refine⟨by rw[Ydu];exact(h p hp).1,?_⟩
 cases d with
 |none=>exact(h p hp).2
 |some n=>
  show setL (setL s.fr n x) p.slot _=setL s.fr n x
  rw[Ycv _ _ _ _ _ (fun e=>hd p hp (by rw[e])),(h p hp).2]
theorem YfC(h:∀p∈Pd,getH s.hp p.idx=p.cells.ho/\setL s.fr p.slot (.ptr p.idx 0)=s.fr):∀p∈Pd,p.idx<lenH s.hp:=fun p hp=>by
 rcases YGz p.idx (lenH s.hp)with h'|h'
 ·exact h'
 ·have:=(h p hp).1
  rw[Ybb _ _ h']at this;exact absurd this.symm (AL.ho_ne _)
theorem YbV{ops:Array Oper}{κ:Kont}{i:Nat}{o:Oper}{a:Act}{w:World}{K:Act->World->Prop}(hi:ops[i]? =some o)(hw:Region.wanted o (yielded ops a.tmps)=true)(h:o.wpIn (Wd rd) 0 P a w K κ):wpOpIn (Wd rd) 0 P ops κ i K a w:=by
 unfold wpOpIn;simp only[hi,hw,if_true];exact h
theorem Ys4{ops:Array Oper}{κ:Kont}{i:Nat}{o:Oper}{a:Act}{w:World}{K:Act->World->Prop}(hi:ops[i]? =some o)(hw:Region.wanted o (yielded ops a.tmps)=false)(h:K (a.put o.dst undef) w):wpOpIn (Wd rd) 0 P ops κ i K a w:=by
 unfold wpOpIn;simp only[hi,hw];exact⟨fun _ _=>trivial,h⟩
theorem YfJ{all:Array Oper}{o:Oper}{v:VOp}(h:Ygc P all o=some v):∃ops,vop P o=some (v.op,ops)/\X.ofs ops=some v.xs/\(v.op.isCall=true->Ybr o.op=true)/\v.dst=o.dst/\
 ((o.guard=none/\v.g=none)\/∃j b g,o.guard=some (j,b)/\Ylf all j=some g/\v.g=some (g,b)):=by
 unfold Ygc at h
 obtain⟨⟨vo,ops⟩,h1,h⟩:=YGe.1 h
 obtain⟨xs,h2,h⟩:=YGe.1 h
 split at h
 ·cases h
 ·rename_i hne
  have hne:vo.isCall=true->Ybr o.op=true:=by simpa using hne
  split at h
  ·cases h;exact⟨ops,h1,h2,hne,rfl,.inl ⟨‹_›,rfl⟩⟩
  ·obtain⟨g,hg,rfl⟩:=YGh.1 h
   exact⟨ops,h1,h2,hne,rfl,.inr ⟨_,_,g,‹_›,hg,rfl⟩⟩
theorem Yjc{o:VO}{xs:List SV}{r:FuncId×List SV}(h:callee E o xs=some r):o.isCall=true:=by
 unfold callee at h
 split at h <;> first|rfl|cases h
theorem YCa{m n o:Nat}(h:m≠n):refs n (.ptr m o)=false:=by
 show YGS m n=false
 cases hb:YGS m n with
 |false=>rfl
 |true=>exact absurd (YGD hb) h
theorem Ydt{b:Nat}:∀{l:List SV},YgI l=true->Yj b l=l
 | [],_=>rfl
 |x::l,h=>by
  simp only[YgI,YGi]at h
  simp only[Yj,YdV (Yie h.1),Ydt h.2]
theorem Yl4{b:Nat}{z:AL}(h:z.clean=true):Ye9 b z.ho=z.ho:=by
 cases z with
 |box c=>simp only[AL.ho,Ye9,Ydt (show YgI c=true from h)]
 |arr n sz c=>
  have:(fun k=>Yj b (YaN sz c k))=YaN sz c:=by
   funext k
   unfold YaN
   rw[<-YeL,<-YcU,Ydt (show YgI c=true from h)]
  simp only[AL.ho,Ye9,this]
theorem Yic(b:Nat):∀(hp:List HO)(i:Nat)(h:HO),YaI b (setH hp i h)=setH (YaI b hp) i (Ye9 b h)
 | [],_,_=>rfl
 |x::l,0,h=>by cases x <;> cases h <;> rfl
 |x::l,i+1,h=>by
  have:=Yic b l i h
  cases x <;> simp only[setH,YaI,this]
theorem Ydh(b:Nat)(fr:List SV):∀(Pd:List Pend),YO (Yj b fr) Pd=Yj b (YO fr Pd)
 | []=>rfl
 |p::l=>by rw[YO,YO,Ydh b fr l,YdU];rfl
theorem YeV(b:Nat)(hp:List HO):∀(Pd:List Pend),YB (YaI b hp) Pd=YaI b (YB hp Pd)
 | []=>rfl
 |p::l=>by rw[YB,YB,YeV b hp l,Yic];rfl
theorem YCw{b:Nat}{ho:HO}(hne:∀p∈Pd,p.idx≠b):er Pd (s.upd (.app b ho))=(er Pd s).upd (.app b ho):=by
 simp only[er,S.upd]
 rw[Ydh,YeF hne,YeV]
theorem Yk5{hp hp':List HO}{x:SV}(h:∀b,blk x=some b->getH hp' b=getH hp b):Yc4 hp' x=Yc4 hp x:=by
 cases x <;> try rfl
 case own i lo n sz=>simp only[Yc4,h i rfl]
theorem Yoj{hp hp':List HO}{n n':Nat}(hn:n'=n){o:VO}(ha:o.isAppend=true){xs:List SV}(h:∀y∈xs,∀b,blk y=some b->getH hp' b=getH hp b):eff hp' n' o xs=eff hp n o xs:=by
 subst hn
 cases o <;> simp only[VO.isAppend,reduceCtorEq]at ha
 rcases xs with _| ⟨a,_| ⟨x,_| ⟨c,l⟩⟩⟩ <;> try rfl
 have h1:=Yk5 (h x (by simp))
 have h2:=h a (by simp)
 cases a <;> try rfl
 ·simp only[eff,YbB,h1]
 ·rename_i i lo n sz
  have:=h2 i rfl
  cases lo with
  |zero=>simp only[eff,YbB,h1,this]
  |succ _=>rfl
 ·rename_i y
  have:=Yk5 (x:=y) (fun b hb=>h2 b hb)
  simp only[eff,YbB,h1,this]
theorem Ysr{w:World}{bs:List BK}{B:Bd}:∀{xs:List SV}{vs:List Value},RepL w bs B xs vs->∀{y:SV},y∈xs->∃v,Rep w bs B y v
 |_,_,.nil,y,hy=>by cases hy
 |_,_,.cons x v l vs h h',y,hy=>by
  rcases YGK.1 hy with rfl|hy
  ·exact⟨v,h⟩
  ·exact Ysr h' hy
theorem Yko(hE:Yq P E){all:Array Oper}{o:Oper}{v:VOp}{i:Nat}(hi:all[i]? =some o)(hv:Ygc P all o=some v)(hs1:∀p∈Pd,p.slot∉v.reads)(hs2:∀p∈Pd,v.dst≠some p.slot)
 (hs3:v.op.isAppend=true->∀p∈Pd,p.cells.clean=true){κ:Kont}{a:Act}{sv:List Act}{w:World}(h:dopW E v A s){c0:Cx0}{ks:List (Nat×Obj)}{J:Nat->Option IK}{hJ:Ext c0 J}(hR:PR ⟨c0.wI J hJ,ks⟩ Pd s a sv w):
 wpOpIn (Wd rd) 0 P all κ i (fun a' w'=> ∃s',A s'/\∃J',∃hJ':Ext c0 J',PR ⟨c0.wI J' hJ',ks⟩ Pd s' a' sv w') a w:=by
 obtain⟨ops,h1,h2,h3,h4,h5⟩:=YfJ hv
 obtain⟨hRl,hPd⟩:=hR
 obtain⟨bs,hf,hsv,hH,hb,hoth⟩:=id hRl
 have hB:c0.heap.size<=w.heap.size:=hb.size
 have hargs:(er Pd s).args v.xs=s.args v.xs:=YqU fun p hp hm=>hs1 p hp (by simp [VOp.reads,hm])
 have hx:RepL w bs (c0.wI J hJ).bd (s.args v.xs) (ops.map a.eval):=by rw[<-hargs];exact Yt4 hf h2
 have hlen:lenH (er Pd s).hp=lenH s.hp:=Ya2 Pd
 have hgs:∀g pol,v.g=some (g,pol)->getL (er Pd s).fr g=getL s.fr g:=fun g pol hg=>Ycb fun p hp e=>hs1 p hp (by simp [VOp.reads,hg,e])
 have heq:∀(xs:List SV)(vs:List Value),v.op.quiet=true->RepL w bs (c0.wI J hJ).bd xs vs->eff (er Pd s).hp (lenH (er Pd s).hp) v.op xs=eff s.hp (lenH s.hp) v.op xs:=
  fun xs vs hq hxs=>YqR hq fun b hb=>(YeX hH hxs hb).2
 unfold dopW at h
 cases hq:v.op.quiet with
 |true=>
  rw[hq]at h
  simp only[Yhf]at h
  cases hfe:fEff v s with
  |none=>rw[hfe]at h;exact h.elim
  |some r=>
   obtain⟨p,x⟩:=r
   rw[hfe]at h
   obtain⟨hp,hA⟩:=h
   unfold fEff at hfe
   rcases h5 with⟨hg,hvg⟩ | ⟨j,pol,g,hg,hsl,hvg⟩
   ·rw[hvg]at hfe
    simp only at hfe
    cases he:eff s.hp (lenH s.hp) v.op (s.args v.xs)with
    |none=>rw[he]at hfe;cases hfe
    |some e=>
     obtain⟨q,y,u⟩:=e
     rw[he]at hfe
     cases u <;> try cases hfe
     rw[<-heq _ _ hq hx]at he
     obtain⟨r',val,w',bs',hrn,hr,k1,k2,k3,k4,k5⟩:=Ylm (ρ:=a.eval) h1 he hp hx (fun _=>rfl) (fun _=>rfl) hH hB
     refine YbV hi (by simp [Region.wanted,hg]) (Ya8 (Y6 h1) (hrn o.dst o.type o.pos o.after o.guard) hr ?_)
     refine⟨_,hA,J,hJ,?_,YaH hs2 hPd⟩
     rw[Ydc hs2,<-h4]
     exact Yht (e:=⟨p,x,.no⟩) (op:=o.op) hf hsv hb hoth k1 k2 k3 k4 k5 v.dst
   ·rw[hvg]at hfe
    simp only at hfe
    cases hgb:Yab (getL s.fr g) pol with
    |none=>rw[hgb]at hfe;cases hfe
    |some gb=>
     rw[hgb]at hfe
     simp only at hfe
     have hw:=Yja (w:=w) hf hg hsl (by rw[hgs g pol hvg];exact hgb)
     cases he:eff s.hp (lenH s.hp) v.op (YU v.op gb (s.args v.xs)).2 with
     |none=>rw[he]at hfe;cases hfe
     |some e=>
      obtain⟨q,y,u⟩:=e
      rw[he]at hfe
      cases u <;> try cases hfe
      obtain⟨hp1,hp2⟩:=hp
      cases gb with
      |true=>
       have hx':=Ycz rfl hx hp1
       rw[<-heq _ _ hq hx']at he
       obtain⟨r',val,w',bs',hrn,hr,k1,k2,k3,k4,k5⟩:=Ylm (ρ:=a.eval) h1 he (hp2 rfl) hx' (fun _=>rfl) (fun _=>rfl) hH hB
       refine YbV hi hw (Ya8 (Y6 h1) (hrn o.dst o.type o.pos o.after o.guard) hr ?_)
       refine⟨_,hA,J,hJ,?_,YaH hs2 hPd⟩
       rw[Ydc hs2,<-h4]
       exact Yht (e:=⟨q,.opt true y,.no⟩) (op:=o.op) hf hsv hb hoth (.optT _ _ k1) k2 k3 k4 k5 v.dst
      |false=>
       refine Ys4 hi hw ⟨_,hA,J,hJ,?_,YaH hs2 hPd⟩
       rw[Ydc hs2,<-h4]
       exact Ydv hRl v.dst fun _ _ _=> .optF _
 |false=>
  rw[hq]at h
  simp only at h
  rcases h5 with⟨hg,hvg⟩ | ⟨j,pol,g,hg,hsl,hvg⟩
  ·rw[hvg]at h
   simp only at h
   unfold Yky at h
   cases hc:callee E v.op (s.args v.xs)with
   |none=>
    rw[hc]at h
    simp only[psdW]at h
    have hlt:=YfC hPd
    cases hps:psd v.op (s.args v.xs)with
    |some c=>
     rw[hps]at h
     obtain⟨r,val,w',x,J2,hJ2,hrn,hr,hA,k1,k2,k3,k4⟩:=Ywe (ρ:=a.eval) h1 hps h hx hH
     refine YbV hi (by simp [Region.wanted,hg]) (Ya8 (Y6 h1) (hrn o.dst o.type o.pos o.after o.guard) hr ?_)
     obtain⟨hJ3,hcr⟩:=YdG (al:=false) (z:=Bd.cx (c0.wI J hJ).bd w) (w0:=c0) (J1:=J) (hJ1:=hJ) (hJ:=hJ2) rfl hf hsv hH hb hoth v.dst k1 k2 k3 (fun _=>⟨k4,trivial⟩) (fun h=>by cases h)
     have hcr:=hcr _ fun _ h=>h
     have hPd':∀p∈Pd,getH ({ fr:=s.fr,saved:=s.saved,hp:=s.hp++YW (lenH s.hp) []}:S).hp p.idx=p.cells.ho/\setL ({ fr:=s.fr,saved:=s.saved,hp:=s.hp++YW (lenH s.hp) []}:S).fr p.slot (.ptr p.idx 0)=({ fr:=s.fr,saved:=s.saved,hp:=s.hp++YW (lenH s.hp) []}:S).fr:=fun p hp=>
      ⟨by rw[<-(hPd p hp).1];exact Ygl _ _ _ (by rw[(hPd p hp).1];exact AL.ho_ne _),(hPd p hp).2⟩
     refine⟨_,hA,J2,hJ3,?_,YaH hs2 hPd'⟩
     rw[Ydc hs2,<-h4]
     have:er Pd { fr:=s.fr,saved:=s.saved,hp:=s.hp++YW (lenH s.hp) []}= { fr:=(er Pd s).fr,saved:=(er Pd s).saved,hp:=(er Pd s).hp++YW (lenH (er Pd s).hp) []}:=by
      rw[hlen];simp only[er];rw[YcM hlt]
     rw[this]
     rw[hlen]at hcr⊢
     exact hcr
    |none=>
    rw[hps]at h
    simp only at h
    cases hbad:v.op.bad with
    |true=>rw[hbad]at h;exact h.elim
    |false=>
    rw[hbad]at h
    simp only[badW,effW]at h
    cases he:eff s.hp (lenH s.hp) v.op (s.args v.xs)with
    |none=>rw[he]at h;exact h.elim
    |some e=>
     rw[he]at h
     obtain⟨hp,hA⟩:=h
     have he2:eff (er Pd s).hp (lenH (er Pd s).hp) v.op (s.args v.xs)=some e:=by
      rw[hlen,<-he]
      cases ha:v.op.isAppend with
      |true=>
       exact Yoj rfl ha fun y hy b hb=>by
        obtain⟨z,hz⟩:=Ysr hx hy
        obtain⟨k,h1,h2⟩:=YiH hz hb
        exact(Yjm hH h1 h2).2
      |false=>exact Yq6 hq ha hbad fun b hb=>(YeX hH hx hb).2
     obtain⟨r',val,w',bs',hrn,hr,k1,k2,k3,k4,k5⟩:=Ylm (ρ:=a.eval) h1 he2 hp hx (fun _=>rfl) (fun _=>rfl) hH hB
     refine YbV hi (by simp [Region.wanted,hg]) (Ya8 (Y6 h1) (hrn o.dst o.type o.pos o.after o.guard) hr ?_)
     have hrel:=Yht (e:=e) (op:=o.op) hf hsv hb hoth k1 k2 k3 k4 k5 v.dst
     refine⟨_,hA,J,hJ,?_⟩
     cases ha:v.op.isAppend with
     |true=>
      have hcl:=hs3 ha
      rcases Yp5 ha he with⟨ho,hu⟩ | ⟨b,ho,hu,hk⟩
      ·rw[hu]at hrel⊢
       have hlt:=YfC hPd
       have hPd':∀p∈Pd,getH (s.upd (.new ho)).hp p.idx=p.cells.ho/\setL (s.upd (.new ho)).fr p.slot (.ptr p.idx 0)=(s.upd (.new ho)).fr:=fun p hp=>
        ⟨by rw[<-(hPd p hp).1];exact Y2 _ _ _ (hlt p hp),(hPd p hp).2⟩
       refine⟨?_,YaH hs2 hPd'⟩
       rw[Ydc hs2,<-h4]
       have:er Pd (s.upd (.new ho))=(er Pd s).upd (.new ho):=by
        simp only[er,S.upd];rw[Ydg hlt]
       rw[this];exact hrel
      ·have hne:=(YeX hH hx hk).1
       rw[hu]at hrel⊢
       have hPd':∀p∈Pd,getH (s.upd (.app b ho)).hp p.idx=p.cells.ho/\setL (s.upd (.app b ho)).fr p.slot (.ptr p.idx 0)=(s.upd (.app b ho)).fr:=fun p hp=>by
        refine⟨?_,?_⟩
        ·show getH (setH (YaI b s.hp) b ho) p.idx=_
         rw[YR _ _ _ _ (fun e=>hne p hp e.symm),YdO,(hPd p hp).1,Yl4 (hcl p hp)]
        ·show setL (Yj b s.fr) p.slot (.ptr p.idx 0)=Yj b s.fr
         have e:=congrArg (Yj b) (hPd p hp).2
         rw[YdU,YdV (YCa (hne p hp))]at e
         exact e
       refine⟨?_,YaH hs2 hPd'⟩
       rw[Ydc hs2,<-h4]
       have:er Pd (s.upd (.app b ho))=(er Pd s).upd (.app b ho):=YCw hne
       rw[this];exact hrel
     |false=>
      cases hst:v.op.isStore with
      |true=>
       obtain⟨k,ho,hu,hk⟩:=Ylj hst he
       have hne:=(YeX hH hx hk).1
       rw[hu]at hrel⊢
       have hPd':∀p∈Pd,getH (s.upd (.set k ho)).hp p.idx=p.cells.ho/\setL (s.upd (.set k ho)).fr p.slot (.ptr p.idx 0)=(s.upd (.set k ho)).fr:=fun p hp=>
        ⟨by rw[<-(hPd p hp).1];exact YR _ _ _ _ (fun e=>hne p hp e.symm),(hPd p hp).2⟩
       refine⟨?_,YaH hs2 hPd'⟩
       rw[Ydc hs2,<-h4]
       have:er Pd (s.upd (.set k ho))=(er Pd s).upd (.set k ho):=by
        simp only[er,S.upd];rw[YeF hne]
       rw[this];exact hrel
      |false=>
       obtain⟨ho,hu⟩:=YrS hq hst ha hbad he
       rw[hu]at hrel⊢
       have hlt:=YfC hPd
       have hPd':∀p∈Pd,getH (s.upd (.new ho)).hp p.idx=p.cells.ho/\setL (s.upd (.new ho)).fr p.slot (.ptr p.idx 0)=(s.upd (.new ho)).fr:=fun p hp=>
        ⟨by rw[<-(hPd p hp).1];exact Y2 _ _ _ (hlt p hp),(hPd p hp).2⟩
       refine⟨?_,YaH hs2 hPd'⟩
       rw[Ydc hs2,<-h4]
       have:er Pd (s.upd (.new ho))=(er Pd s).upd (.new ho):=by
        simp only[er,S.upd];rw[Ydg hlt]
       rw[this];exact hrel
   |some fy=>
    obtain⟨f,ys⟩:=fy
    rw[hc]at h
    simp only[ctW]at h
    cases hct:E.ct f with
    |none=>rw[hct]at h;exact h.elim
    |some c=>
     rw[hct]at h
     obtain⟨hok,hen⟩:=hE.ct f c hct
     obtain⟨vs,hys,hrun⟩:=Yfq hE.meth h1 (h3 (Yjc hc)) hc hx (fun _=>rfl) hen
     refine YbV hi (by simp [Region.wanted,hg]) (YaU (Y6 h1) hrun ?_)
     obtain⟨z,hzw,hzI,hargs2,hal⟩:=YcF c.alias (hpV hH) hB 3 hys h.1
     subst hzw
     refine(hok _ vs z _ (fun b K hb=>(hH.reg b K (by rw[hzI]at hb;exact hb)).2) hargs2 h.2).mono ?_
     rintro e w' ⟨r,hs,val,bs2,J2,hJ2,hA,rfl,k1,k2,k3,k4⟩
     obtain⟨hJ3,hcr⟩:=YdG (w0:=c0) (J1:=J) (hJ1:=hJ) (hJ:=hJ2) hzI hf hsv hH hb hoth v.dst k1 k2 k3 k4 hal
     have hcr:=hcr _ fun _ h=>h
     have hlt:=YfC hPd
     have hPd':∀p∈Pd,getH ({ fr:=s.fr,saved:=s.saved,hp:=s.hp++YW (lenH s.hp) hs}:S).hp p.idx=p.cells.ho/\setL ({ fr:=s.fr,saved:=s.saved,hp:=s.hp++YW (lenH s.hp) hs}:S).fr p.slot (.ptr p.idx 0)=({ fr:=s.fr,saved:=s.saved,hp:=s.hp++YW (lenH s.hp) hs}:S).fr:=fun p hp=>
      ⟨by rw[<-(hPd p hp).1];exact Ygl _ _ _ (by rw[(hPd p hp).1];exact AL.ho_ne _),(hPd p hp).2⟩
     refine⟨_,hA,J2,hJ3,?_,YaH hs2 hPd'⟩
     rw[Ydc hs2,<-h4]
     have:er Pd { fr:=s.fr,saved:=s.saved,hp:=s.hp++YW (lenH s.hp) hs}= { fr:=(er Pd s).fr,saved:=(er Pd s).saved,hp:=(er Pd s).hp++YW (lenH (er Pd s).hp) hs}:=by
      rw[hlen];simp only[er];rw[YcM hlt]
     rw[this]
     rw[hlen]at hcr⊢
     exact hcr
  ·rw[hvg]at h
   simp only at h
   unfold YgX at h
   cases hgb:Yab (getL s.fr g) pol with
   |none=>rw[hgb]at h;exact h.elim
   |some gb=>
    rw[hgb]at h
    simp only[ctGW]at h
    have hw:=Yja (w:=w) hf hg hsl (by rw[hgs g pol hvg];exact hgb)
    cases hct:ctOf E v.op (YU v.op gb (s.args v.xs)).2 with
    |none=>rw[hct]at h;exact h.elim
    |some c=>
     rw[hct]at h
     obtain⟨c,ys⟩:=c
     obtain⟨hp1,hno,r,hA,hcs⟩:=h
     cases gb with
     |false=>
      refine Ys4 hi hw ⟨_,hA,J,hJ,?_,YaH hs2 hPd⟩
      rw[Ydc hs2,<-h4]
      exact Ydv hRl v.dst fun _ _ _=> .optF _
     |true=>
      obtain⟨f,hcl,hct',hic⟩:=Ym8 hct
      obtain⟨hok,hen⟩:=hE.ct f c hct'
      obtain⟨vs,hys,hrn⟩:=Yfq hE.meth h1 (h3 hic) hcl (Ycz rfl hx hp1) (fun _=>rfl) hen
      refine YbV hi hw (YaU (Y6 h1) hrn ?_)
      obtain⟨z,hzw,hzI,hargs2,hal⟩:=YcF c.alias (hpV hH) hB 3 hys hno
      subst hzw
      refine(hok _ vs z _ (fun b K hb=>(hH.reg b K (by rw[hzI]at hb;exact hb)).2) hargs2 (hcs rfl)).mono ?_
      rintro e w' ⟨r',hs,val,bs2,J2,hJ2,⟨rfl,rfl⟩,rfl,k1,k2,k3,k4⟩
      obtain⟨hJ3,hcr⟩:=YdG (w0:=c0) (J1:=J) (hJ1:=hJ) (hJ:=hJ2) hzI hf hsv hH hb hoth v.dst k1 k2 k3 k4 hal
      have hcr:=hcr (.opt true (shift (lenH (er Pd s).hp) r')) fun _ h=> .optT _ _ h
      have e0:({ fr:=(er Pd s).fr,saved:=(er Pd s).saved,hp:=(er Pd s).hp++YW (lenH (er Pd s).hp) []}:S)=er Pd s:=by simp [YW]
      rw[e0]at hcr
      refine⟨_,hA,J2,hJ3,?_,YaH hs2 hPd⟩
      rw[Ydc hs2,<-h4,<-hlen]
      exact hcr
end
end Go.Vx
namespace Go.Vx
open Go.RowKit
section
variable {P:Program} {E:Env} {w:World} {w0:Cx} {rd:Option Nat} {Pd:List Pend} {A:S->Prop} {s:S} {bs:List BK} {B:Bd} {hp hp':List HO}
theorem YbJ{cs:Array Value}{T:TypeId}{cap n i:Nat}:Keeps w bs (World.push w (.cells cs T (0,0))) (bs.set i (.blk w.heap.size cap n)):=by
 intro b hf o ho
 refine⟨Ygq ho,fun j b' c m h=>?_⟩
 have hb:b<w.heap.size:=(YGX.1 ho).1
 rw[List.getElem?_set]at h
 split at h
 ·split at h
  ·cases h;omega
  ·cases h
 ·exact hf j b' c m h
theorem Ylb{i:Nat}{x:BK}{e:Option Nat}(hg:bs[i]? =some .gone\/bs[i]? =none):Stays e bs (bs.set i x):=by
 intro j y _ h hy
 rw[List.getElem?_set]
 split
 ·rename_i hij
  subst hij
  rcases hg with hg|hg
  ·rw[hg]at h;cases h;exact absurd rfl hy
  ·rw[hg]at h;cases h
 ·exact h
theorem Yyf(hH:Hp w bs B hp)(hB:B<=w.heap.size){cs:Array Value}{T:TypeId}{i:Nat}{c0 m0:Nat}(hi:i<lenH hp)(hg:getH hp i= .gone)(hl:lenH hp'=lenH hp)(hne:∀j,j≠i->getH hp' j=getH hp j)
 (h:HRep (World.push w (.cells cs T (0,0))) (bs.set i (.blk w.heap.size c0 m0)) B i (getH hp' i)):
 Hp (World.push w (.cells cs T (0,0))) (bs.set i (.blk w.heap.size c0 m0)) B hp':=by
 have hlt:∀(i b c m:Nat),bs[i]? =some (.blk b c m)->b<w.heap.size:=fun i b c m h=>(hH.lo i b c m h).2
 have hgo:bs[i]? =some .gone\/bs[i]? =none:=by have:=hH.ent i;rw[hg]at this;exact this
 have hib:i<bs.length:=by rw[hH.len];exact hi
 refine⟨by simp [hH.len,hl],fun j=>?_,fun j k b c m c' m' h1 h2=>?_,fun j b c m h1=>?_,YaJ YbJ hH.reg⟩
 ·by_cases hij:j=i
  ·subst hij;exact h
  ·rw[hne j hij]
   refine(hH.ent j).keep YbJ (Ylb hgo) ?_ ?_
   ·rw[List.getElem?_set,if_neg (Ne.symm hij)]
   ·intro b c m hb
    have:=hlt j b c m hb
    simp only[World.push,Array.getElem?_push]
    rw[if_neg (by omega)]
 ·rw[List.getElem?_set]at h1 h2
  split at h1 <;> split at h2
  ·omega
  ·first| (rw[if_pos hib]at h1;cases h1) |cases h1
   have:=hlt k _ _ _ h2;omega
  ·first| (rw[if_pos hib]at h2;cases h2) |cases h2
   have:=hlt j _ _ _ h1;omega
  ·exact hH.inj j k b c m c' m' h1 h2
 ·have hs:(World.push w (.cells cs T (0,0))).heap.size=w.heap.size+1:=by simp [World.push]
  rw[List.getElem?_set]at h1
  split at h1
  ·first| (rw[if_pos hib]at h1;cases h1) |cases h1;omega
  ·have:=hH.lo j b c m h1;omega
theorem Yff:∀(l:List SV)(n:Nat)(x y:SV),setL (setL l n x) n y=setL l n y
 | [],_,_,_=>rfl
 |_::_,0,_,_=>rfl
 |a::l,n+1,x,y=>congrArg (a::·) (Yff l n x y)
def AL.is(P:Program)(elem:TypeId):AL->Prop
 | .box z=>Yah P elem=some z
 | .arr n size z=>Yah P elem=some z/\lenL z=n*size
def AL.z:AL->List SV
 | .box z=>z
 | .arr _ _ z=>z
def AL.n:AL->Nat
 | .box _=>0
 | .arr n _ _=>n
theorem AL.is_z{elem:TypeId}:∀{x:AL},x.is P elem->Yah P elem=some x.z
 | .box _,h=>h
 | .arr _ _ _,h=>h.1
theorem Yoh{p:Pend}{o:Oper}{elem:TypeId}{i:Nat}{all:Array Oper}(hi:all[i]? =some o)(hop:o.op= .alloc elem)(hgd:o.guard=none)(hz:p.cells.is P elem)(hdst:o.dst=some p.slot)
 (hidx:∀q∈Pd,q.idx≠p.idx)(hslot:∀q∈Pd,q.slot≠p.slot){κ:Kont}{a:Act}{sv:List Act}{K:Act->World->Prop}
 (hR:PR w0 (p::Pd) s a sv w)(h:∀a' w',PR w0 Pd s a' sv w'->K a' w'):wpOpIn (Wd rd) 0 P all κ i K a w:=by
 obtain⟨⟨bs,hf,hsv,hH,hb,hoth⟩,hPd⟩:=hR
 have hB:w0.heap.size<=w.heap.size:=hb.size
 obtain⟨v,hv,hr⟩:=Y5 (P:=P) (w:=w) (bs:=bs) (B:=w0.bd) (AL.is_z hz)
 obtain⟨hp1,hp2⟩:=hPd p YGy
 have hlt:p.idx<lenH s.hp:=YfC hPd p YGy
 have hg:getH (YB s.hp (p::Pd)) p.idx= .gone:=Yde YGy
 have hgo:bs[p.idx]? =some .gone\/bs[p.idx]? =none:=by have:=hH.ent p.idx;simp only[er]at this;rw[hg]at this;exact this
 have hlen:bs.length=lenH s.hp:=by rw[hH.len];exact Ya2 _
 have hget:(bs.set p.idx (BK.blk w.heap.size p.cells.n p.cells.n))[p.idx]? =some (.blk w.heap.size p.cells.n p.cells.n):=by
  rw[List.getElem?_set,if_pos rfl,if_pos (by omega)]
 have hst:∀e,Stays e bs (bs.set p.idx (.blk w.heap.size p.cells.n p.cells.n)):=fun e=>Ylb hgo
 have hrun:(execOp a.eval o).run P w= .ok (.value (.pointer (some ⟨w.heap.size,0,none⟩))) (World.push w (.cells v.cells elem (0,0))):=by
  obtain⟨dst,op,type,pos,after,guard⟩:=o
  simp only at hop
  subst hop
  simp [execOp,Instr.alloc,hv,newVar,newRow,World.push]
 refine YbV hi (by simp [Region.wanted,hgd]) (Ya8 (by rw[hop];intro c h;cases h) hrun (.inl rfl) (h _ _ ⟨⟨bs.set p.idx (.blk w.heap.size p.cells.n p.cells.n),?_,?_,?_,?_,by rw[YGY,YbH];exact hoth.keep YbJ⟩,fun q hq=>hPd q (YGx _ hq)⟩))
 ·have hfr:(er Pd s).fr=(S.put (er (p::Pd) s) (some p.slot) (.ptr p.idx 0)).fr:=by
   simp only[er,S.put,YO,Yff]
   rw[<-Ybo hslot,hp2]
  rw[hfr,hdst]
  exact Yhe (hf.keep YbJ (hst none) Yi) (.ptr _ _ _ _ hget)
 ·exact RepLL.keep YbJ (hst none) hsv
 ·refine Yyf hH hB (by simp only[er];rw[Ya2];exact hlt) hg (by simp only[er];rw[Ya2,Ya2]) (fun j hj=>?_) ?_
  ·simp only[er,YB]
   rw[YR _ _ _ _ (Ne.symm hj)]
  ·simp only[er]
   rw[Ydf hidx,hp1]
   revert hget hst hz hr
   cases p.cells with
   |box z=>exact fun hz hr hget hst=>⟨_,_,_,hget,YaX,hr.keep YbJ (hst none) Yi⟩
   |arr n size z=>
    intro hz hr hget hst
    refine .inr ⟨_,n,_,_,hget,rfl,YaX,?_,YGr _,fun k _=>Ygg (hr.keep YbJ (hst none) Yi) size k⟩
    show _=n*size
    have hl:=hz.2
    have hl2:=hr.length
    simp only[AL.z]at hl2
    rw[<-hl,hl2];simp
 ·exact hb.trans (.of (Y1 (B:=w0.bd) _ hB))
end
end Go.Vx
namespace Go.Vx
open Go.RowKit
section
variable {P:Program} {E:Env} {w:World} {w0:Cx} {rd:Option Nat} {Pd Pd':List Pend} {A:S->Prop} {s:S} {bs:List BK} {B:Bd} {hp hp':List HO}
theorem Ycp:Keeps w bs w (bs++[.gone]):=by
 intro b hf o ho
 refine⟨ho,fun i b' c m h=>?_⟩
 rw[YHs]at h
 split at h
 ·exact hf i b' c m h
 ·rw[List.getElem?_singleton]at h;split at h <;> cases h
theorem Yym(hH:Hp w bs B hp):Hp w (bs++[.gone]) B (Ybt hp .gone):=by
 have hst:∀e,Stays e bs (bs++[.gone]):=fun e=>Yw _ _
 have hget:∀(i b c m:Nat),(bs++[BK.gone])[i]? =some (.blk b c m)->bs[i]? =some (.blk b c m):=by
  intro i b c m h
  rw[YHs]at h
  split at h
  ·exact h
  ·rw[List.getElem?_singleton]at h;split at h <;> cases h
 refine⟨by simp [hH.len,Ya3],fun i=>?_,fun i j b c m c' m' h1 h2=>hH.inj i j b c m c' m' (hget _ _ _ _ h1) (hget _ _ _ _ h2),fun i b c m h1=>hH.lo i b c m (hget _ _ _ _ h1),YaJ Ycp hH.reg⟩
 rcases Nat.lt_trichotomy i (lenH hp)with hi|hi|hi
 ·rw[Y2 _ _ _ hi]
  exact(hH.ent i).keep Ycp (hst _) (by rw[YGR (by rw[hH.len];exact hi)]) (fun _ _ _ _=>rfl)
 ·subst hi;rw[Ya1];exact .inl (Y4 hH)
 ·rw[Ybb _ _ (by rw[Ya3];omega)]
  right
  rw[List.getElem?_eq_none];simp [hH.len];omega
theorem RepL.junkAt:∀{l:List SV}{vs:List Value}(_:RepL w bs B l vs)(n:Nat),RepL w bs B (setL l n .junk) vs
 |_,_,.nil,n=>by cases n <;> exact .nil
 |_,_,.cons _ _ _ _ _ h',0=> .cons _ _ _ _ (.x _ _ (.junk _)) h'
 |_,_,.cons _ _ _ _ h h',n+1=> .cons _ _ _ _ h (RepL.junkAt h' n)
theorem Yf1:∀(l:List HO)(x y:HO),setH (Ybt l x) (lenH l) y=Ybt l y
 | [],_,_=>rfl
 |a::l,x,y=>congrArg (a::·) (Yf1 l x y)
theorem YuY{a:Act}{sv:List Act}(hR:PR w0 Pd s a sv w){d:Nat}{z:AL}(hd:∀q∈Pd,q.slot≠d):
 PR w0 (⟨lenH s.hp,d,z⟩::Pd) ((s.upd (.new z.ho)).put (some d) (.ptr (lenH s.hp) 0)) a sv w:=by
 obtain⟨⟨bs,hf,hsv,hH,hb,hoth⟩,hPd⟩:=hR
 have hlt:=YfC hPd
 refine⟨⟨bs++[.gone],?_,?_,?_,hb,hoth.keep Ycp⟩,fun p hp=>?_⟩
 ·have e:(er (⟨lenH s.hp,d,z⟩::Pd) ((s.upd (.new z.ho)).put (some d) (.ptr (lenH s.hp) 0))).fr=setL (er Pd s).fr d .junk:=by
   show setL (YO (setL s.fr d (.ptr (lenH s.hp) 0)) Pd) d .junk=setL (YO s.fr Pd) d .junk
   rw[Ybo hd,Yff]
  rw[e]
  exact(hf.junkAt d).keep Ycp (Yw _ none) Yi
 ·exact RepLL.keep Ycp (Yw _ none) hsv
 ·have e:(er (⟨lenH s.hp,d,z⟩::Pd) ((s.upd (.new z.ho)).put (some d) (.ptr (lenH s.hp) 0))).hp=Ybt (er Pd s).hp .gone:=by
   show setH (YB (Ybt s.hp z.ho) Pd) (lenH s.hp) .gone=Ybt (YB s.hp Pd) .gone
   rw[Ydg hlt]
   have:=Yf1 (YB s.hp Pd) z.ho .gone
   rw[Ya2]at this
   exact this
  rw[e]
  exact Yym hH
 ·rcases YGK.1 hp with rfl|hp
  ·exact⟨Ya1 _ _,Yff _ _ _ _⟩
  ·refine⟨?_,?_⟩
   ·show getH (Ybt s.hp z.ho) p.idx=_
    rw[Y2 _ _ _ (hlt p hp)];exact(hPd p hp).1
   ·show setL (setL s.fr d _) p.slot _=setL s.fr d _
    rw[Ycv _ _ _ _ _ (fun e=>hd p hp e.symm),(hPd p hp).2]
def YuZ:Nat->List (Nat×AL)->List Pend->List Pend
 |_,[],Pd=>Pd
 |n,(d,z)::l,Pd=>YuZ (n+1) l (⟨n,d,z⟩::Pd)
def YeR:List (Nat×AL)->List Nat->Bool
 | [],_=>true
 | (d,_)::l,ds=>!ds.contains d&&YeR l (d::ds)
theorem YnK{a:Act}{sv:List Act}:∀(al:List (Nat×AL))(Pd:List Pend)(s:S),YeR al (Pd.map (·.slot))=true->PR w0 Pd s a sv w->PR w0 (YuZ (lenH s.hp) al Pd) (YhC s al) a sv w
 | [],_,_,_,h=>h
 | (d,z)::l,Pd,s,hdis,h=>by
   simp only[YeR,YGi,YGA]at hdis
   have hd:∀q∈Pd,q.slot≠d:=by
    intro q hq he
    have:(Pd.map (·.slot)).contains d=true:=by
     rw[List.contains_iff_mem,List.mem_map];exact⟨q,hq,he⟩
    rw[hdis.1]at this;cases this
   have:=YnK l (⟨lenH s.hp,d,z⟩::Pd) _ (by simpa using hdis.2) (YuY h (z:=z) hd)
   have hl:lenH ((s.upd (.new z.ho)).put (some d) (.ptr (lenH s.hp) 0)).hp=lenH s.hp+1:=Ya3 _ _
   rw[hl]at this
   exact this
theorem Ywa{a:Act}{sv:List Act}(h:Rl w0 s a sv w):PR w0 [] s a sv w:=⟨h,fun _ hp=>by cases hp⟩
theorem Yx7(p q:Pend)(l:List Pend):er (p::q::l) s=er (q::p::l) s:=by
 have h1:∀(fr:List SV),setL (setL fr q.slot .junk) p.slot .junk=setL (setL fr p.slot .junk) q.slot .junk:=fun fr=>by
  by_cases h:q.slot=p.slot
  ·rw[h]
  ·exact Ycv _ _ _ _ _ h
 have h2:∀(hp:List HO),setH (setH hp q.idx .gone) p.idx .gone=setH (setH hp p.idx .gone) q.idx .gone:=fun hp=>by
  by_cases h:q.idx=p.idx
  ·rw[h]
  ·exact Yhj _ _ _ _ _ h
 simp only[er,YO,YB,h1,h2]
theorem Yx5(p:Pend){l l':List Pend}(h:er l s=er l' s):er (p::l) s=er (p::l') s:=by
 simp only[er,S.mk.injEq,true_and]at h
 simp only[er,YO,YB,h.1,h.2]
theorem Yx6(h:Pd.Perm Pd'):er Pd s=er Pd' s:=by
 induction h with
 |nil=>rfl
 |cons p _ ih=>exact Yx5 p ih
 |swap p q l=>exact Yx7 q p l
 |trans _ _ ih1 ih2=>exact ih1.trans ih2
theorem Yr5{a:Act}{sv:List Act}(h:Pd.Perm Pd')(hR:PR w0 Pd s a sv w):PR w0 Pd' s a sv w:=
 ⟨by rw[<-Yx6 h];exact hR.1,fun p hp=>hR.2 p (h.mem_iff.2 hp)⟩
end
end Go.Vx
namespace Go.Vx
open Go.RowKit
def Yac(sil:List (Nat×Pend))(L:Array Bool):List Pend:=
 match sil with
 | []=>[]
 |x::r=>bif L.getD x.1 false then Yac r L else x.2::Yac r L
theorem mem_pendOf{p:Pend}{L:Array Bool}:∀{sil:List (Nat×Pend)},p∈Yac sil L↔∃k,(k,p)∈sil/\L.getD k false=false
 | []=>by simp [Yac]
 |x::r=>by
  unfold Yac
  cases hl:L.getD x.1 false with
  |true=>
   simp only[cond_true]
   rw[mem_pendOf (sil:=r)]
   constructor
   ·rintro⟨k,h1,h2⟩;exact⟨k,YGx _ h1,h2⟩
   ·rintro⟨k,h1,h2⟩
    rcases YGK.1 h1 with rfl|h1
    ·rw[hl]at h2;cases h2
    ·exact⟨k,h1,h2⟩
  |false=>
   simp only[cond_false,YGK]
   rw[mem_pendOf (sil:=r)]
   constructor
   ·rintro(rfl| ⟨k,h1,h2⟩)
    ·exact⟨x.1,.inl rfl,hl⟩
    ·exact⟨k,.inr h1,h2⟩
   ·rintro⟨k,rfl|h1,h2⟩
    ·exact .inl rfl
    ·exact .inr ⟨k,h1,h2⟩
theorem YeK{L:Array Bool}{i:Nat}:∀{sil:List (Nat×Pend)},(∀p,(i,p)∉sil)->Yac sil (L.setIfInBounds i true)=Yac sil L
 | [],_=>rfl
 |x::r,h=>by
  unfold Yac
  have hx:i≠x.1:=by
   intro e
   exact h x.2 (by rw[e];exact YGy)
  rw[getD_set_ne false hx,YeK (sil:=r) fun p hp=>h p (YGx _ hp)]
theorem Yg9{L:Array Bool}{i:Nat}{p:Pend}(hi:i<L.size)(hl:L.getD i false=false):∀{sil:List (Nat×Pend)},(sil.map (·.1)).Nodup->(i,p)∈sil->(Yac sil L).Perm (p::Yac sil (L.setIfInBounds i true))
 |x::r,hn,hm=>by
  rw[YGY,List.nodup_cons]at hn
  by_cases hx:x.1=i
  ·have hp:x=(i,p):=by
    rcases YGK.1 hm with rfl|hm
    ·rfl
    ·exact absurd (List.mem_map.2 ⟨_,hm,hx.symm⟩) hn.1
   subst hp
   have hr:∀q,(i,q)∉r:=fun q hq=>hn.1 (List.mem_map.2 ⟨_,hq,rfl⟩)
   unfold Yac
   simp only[hl,cond_false]
   have:(L.setIfInBounds i true).getD i false=true:=by simp [hi]
   rw[this,YeK hr]
   exact List.Perm.refl _
  ·have hm':(i,p)∈r:=by
    rcases YGK.1 hm with rfl|hm
    ·exact absurd rfl hx
    ·exact hm
   have ih:=Yg9 hi hl hn.2 hm'
   unfold Yac
   rw[getD_set_ne false (Ne.symm hx)]
   cases L.getD x.1 false with
   |true=>exact ih
   |false=>exact(List.Perm.cons _ ih).trans (List.Perm.swap _ _ _)
theorem Yg8{n:Nat}:∀{sil:List (Nat×Pend)},Yac sil (Array.replicate n false)=sil.map (·.2)
 | []=>rfl
 |x::r=>by
  unfold Yac
  have:(Array.replicate n false).getD x.1 false=false:=by
   rcases YGz x.1 n with h'|h'
   ·simp [h']
   ·simp [Array.getElem?_eq_none,h']
  rw[this,Yg8 (sil:=r)]
  rfl
theorem YhI{md:Region.Mode}{ops:Array Oper}(hb:∀(i:Nat) (o:Oper),ops[i]? =some o->∀e∈o.after,Region.binds md e=true->e.on<i){L:Array Bool}(hd:Down md ops L)(hr:Region.ready md ops L=[]):
 ∀(N i:Nat),i<N->i<ops.size->L.getD i false=true
 |N+1,i,hi,hn=>by
  cases hl:L.getD i false with
  |true=>rfl
  |false=>
   have ho:ops[i]? =some ops[i]:=Array.getElem?_eq_getElem hn
   have hL:i<L.size:=by rw[hd.1];exact hn
   have:i∈Region.ready md ops L:=mem_ready.2 ⟨by simp [hL]at hl⊢;exact hl,_,ho,fun e he hbi=>by
    have:=hb i _ ho e he hbi
    exact YhI hb hd hr N e.on (by omega) (by omega)⟩
   rw[hr]at this;cases this
section
variable {P:Program} {E:Env} {G:VOp->(S->Prop)->S->Prop} {w0:Cx} {rd:Option Nat} {all:Array Oper} {tab:List DT} {sil:List (Nat×Pend)} {clo:Nat->Nat->Bool} {md:Region.Mode}
structure YwW (P:Program) (all:Array Oper) (tab:List DT) (sil:List (Nat×Pend)) (clo:Nat->Nat->Bool):Prop where
 nodup:(sil.map (·.1)).Nodup
 apart:∀x∈sil,∀y∈sil,x.1≠y.1->x.2.slot≠y.2.slot/\x.2.idx≠y.2.idx
 silent:∀(i d:Nat),tab[i]? =some (.silent d)->∃p o elem,(i,p)∈sil/\all[i]? =some o/\o.op= .alloc elem/\o.guard=none/\p.cells.is P elem/\o.dst=some p.slot
 op:∀(i:Nat)(v:VOp)(chk:List (Nat×X)),tab[i]? =some (.op v chk)->(∀p,(i,p)∉sil)/\(∃o,all[i]? =some o/\Ygc P all o=some v)/\
  ∀x∈sil,(clo i x.1=true\/(x.2.slot∉v.reads/\(v.op.isAppend=true->x.2.cells.clean=true)))/\v.dst≠some x.2.slot
 loud:∀(i:Nat)(v:VOp),tab[i]? =some (.loud v)->sil=[]/\∃o,all[i]? =some o/\Ygc P all o=some v
structure YhG (P:Program) (G:VOp->(S->Prop)->S->Prop) (rd:Option Nat) (all:Array Oper) (κ:Kont) (c0:Cx0) (ks:List (Nat×Obj)) (sv:List Act):Prop where
 mono:∀v (A B:S->Prop) s,(∀s,A s->B s)->G v A s->G v B s
 ok:∀{i:Nat}{o:Oper}{v:VOp}{A:S->Prop}{s:S},all[i]? =some o->Ygc P all o=some v->G v A s->∀{J:Nat->Option IK}{hJ:Ext c0 J}{a:Act}{w:World},Rl ⟨c0.wI J hJ,ks⟩ s a sv w->
  wpOpIn (Wd rd) 0 P all κ i (fun a' w'=> ∃s',A s'/\∃J',∃hJ':Ext c0 J',Rl ⟨c0.wI J' hJ',ks⟩ s' a' sv w') a w
theorem hop(hE:Yq P E)(hc:Ywy md all clo)(hr:YwW P all tab sil clo){c0:Cx0}{ks:List (Nat×Obj)}{κ:Kont}{sv:List Act}(hG:YhG P G rd all κ c0 ks sv)(i:Nat)(L:Array Bool)(s:S)(A:S->Prop)(a:Act)(w:World)
 (hi:i∈Region.ready md all L)(h:YZ E G tab i L A s)(hR:Down md all L/\∃J,∃hJ:Ext c0 J,PR ⟨c0.wI J hJ,ks⟩ (Yac sil L) s a sv w):
 wpOpIn (Wd rd) 0 P all κ i (fun a' w'=> ∃s',A s'/\(Down md all (L.setIfInBounds i true)/\∃J,∃hJ:Ext c0 J,PR ⟨c0.wI J hJ,ks⟩ (Yac sil (L.setIfInBounds i true)) s' a' sv w')) a w:=by
 obtain⟨hd,J,hJ,hR⟩:=hR
 have hd':=hd.set hi
 unfold YZ at h
 cases ht:tab[i]? with
 |none=>rw[ht]at h;exact h.elim
 |some t=>
  rw[ht]at h
  cases t with
  |silent d=>
   obtain⟨p,o,elem,hm,ho,hop,hg,hz,hdst⟩:=hr.silent i d ht
   have hsz:i<L.size:=by rw[hd.1];exact(YGX.1 ho).1
   have hR':=Yr5 (Yg9 hsz (Ydw hi) hr.nodup hm) hR
   have hap:∀q∈Yac sil (L.setIfInBounds i true),q.slot≠p.slot/\q.idx≠p.idx:=by
    intro q hq
    obtain⟨k,hk,hkl⟩:=mem_pendOf.1 hq
    refine hr.apart (k,q) hk (i,p) hm ?_
    rintro(rfl:k=i)
    simp [hsz]at hkl
   exact Yoh ho hop hg hz hdst (fun q hq=>(hap q hq).2) (fun q hq=>(hap q hq).1) hR' fun a' w' h'=>⟨s,h,hd',J,hJ,h'⟩
  |op v chk=>
   obtain⟨hns,⟨o,ho,hv⟩,hst⟩:=hr.op i v chk ht
   have hpend:∀p∈Yac sil L,(p.slot∉v.reads/\(v.op.isAppend=true->p.cells.clean=true))/\v.dst≠some p.slot:=by
    intro p hp
    obtain⟨k,hk,hkl⟩:=mem_pendOf.1 hp
    obtain⟨h1,h2⟩:=hst (k,p) hk
    refine⟨h1.resolve_left fun hck=>?_,h2⟩
    have:=hc.ready L i k hd hi hck
    rw[hkl]at this;cases this
   refine wpOpIn_mono (fun a' w' ⟨s',h1,J',hJ',h2⟩=>⟨s',h1,hd',J',hJ',by rw[YeK hns];exact h2⟩) (Yko hE ho hv (fun p hp=>(hpend p hp).1.1) (fun p hp=>(hpend p hp).2) (fun ha p hp=>(hpend p hp).1.2 ha) h.2 hR)
  |loud v=>
   obtain⟨hsil,o,ho,hv⟩:=hr.loud i v ht
   have hpe:∀L,Yac sil L=[]:=fun L=>by rw[hsil];rfl
   rw[hpe]at hR
   simp only[hpe]
   rcases h with h|h
   ·exact wpOpIn_mono (fun a' w' ⟨s',h1,J',hJ',h2⟩=>⟨s',h1,hd',J',hJ',h2⟩) (Yko hE ho hv (fun p hp=>(by cases hp)) (fun p hp=>(by cases hp)) (fun ha p hp=>(by cases hp)) h hR)
   ·exact wpOpIn_mono (fun a' w' ⟨s',h1,J',hJ',h2⟩=>⟨s',h1,hd',J',hJ',Ywa h2⟩) (hG.ok ho hv h hR.1)
theorem Yk6(hE:Yq P E)(hm:P.follows .mixedOrders=true){cl:List Nat}(hl:cl.length=all.size)(hcl:YfO (YE .any all) cl all.size=true)(hr:YwW P all tab sil (YaA cl)){free:Nat->Bool}
 (hfree:∀i,free i=true->(∃d,tab[i]? =some (.silent d))\/∃v,tab[i]? =some (.op v [])/\v.op.quiet=true/\∀(j:Nat) (t:DT),tab[j]? =some t->Yqu (YaA cl) i v j t=true)
 {K:S->Prop}{κ:Kont}{s:S}{a:Act}{sv:List Act}{w:World}{id:Nat}
 (h:(∀(j:Nat) (L:Array Bool) (s:S) (A B:S->Prop),(∀s,A s->B s)->YZ E G tab j L A s->YZ E G tab j L B s)->(∀i L s,free i=true->¬YZ E G tab i L (fun _=>False) s)->
   (∀(i:Nat),free i=true->∀(j:Nat) (L:Array Bool) (s:S) (A:S->Prop),Down .any all L->i∈Region.ready .any all L->j∈Region.ready .any all L->j≠i->YZ E G tab i L (YZ E G tab j (L.setIfInBounds i true) A) s->YZ E G tab j L (YZ E G tab i (L.setIfInBounds j true) A) s)->
   anyS (YZ E G tab) K .any all all.size (Array.replicate all.size false) s){c0:Cx0}{ks:List (Nat×Obj)}{J:Nat->Option IK}{hJ:Ext c0 J}(hG:YhG P G rd all κ c0 ks sv)(hR:PR ⟨c0.wI J hJ,ks⟩ (sil.map (·.2)) s a sv { w with drawn:=w.drawn+1}) (hK:∀s a w J (hJ:Ext c0 J),K s->Rl ⟨c0.wI J hJ,ks⟩ s a sv w->κ .normal a w) (hall:∀x∈sil,x.1<all.size) (hbel:∀(i:Nat)(o:Oper),all[i]? =some o->∀e∈o.after,Region.binds .any e=true->e.on<i):(Code.region id all true).wpIn (Wd rd) 0 P κ a w:=by
 have hc:=YCl hl hcl
 refine wpIn_region_any hm ?_
 have hany:=h (Yik hG.mono) ?_ ?_
 ·refine Yoi (step:=YZ E G tab) (K:=K) (P:=P) (Q:=κ) (fun L s a w=>Down .any all L/\∃J,∃hJ:Ext c0 J,PR ⟨c0.wI J hJ,ks⟩ (Yac sil L) s a sv w) (fun i L s A a w hi hs hR=>hop hE hc hr hG i L s A a w hi hs hR) ?_ _ _ s a _ hany ⟨YgP,J,hJ,?_⟩
  ·rintro L s a w hr0 hKs ⟨hd,J,hJ,hPR⟩
   have:Yac sil L=[]:=by
    cases hp:Yac sil L with
    |nil=>rfl
    |cons p r=>
     obtain⟨k,hk,hkl⟩:=mem_pendOf.1 (show p∈Yac sil L by rw[hp];exact YGy)
     have:=YhI hbel hd hr0 (k+1) k (by omega) (hall _ hk)
     rw[hkl]at this;cases this
   rw[this]at hPR
   exact hK s a w J hJ hKs hPR.1
  ·rw[Yg8];exact hR
 ·intro i L s hf hstep
  rcases hfree i hf with⟨d,ht⟩ | ⟨v,ht,hq,_⟩
  ·unfold YZ at hstep;rw[ht]at hstep;exact hstep
  ·unfold YZ at hstep;rw[ht]at hstep;exact YgN hq hstep.2
 ·intro i hf j L s A hd hri hrj hji hs
  rcases hfree i hf with⟨d,ht⟩ | ⟨v,ht,hq,hcm⟩
  ·have hsi:∀(L:Array Bool)(A:S->Prop)(s:S),YZ E G tab i L A s=A s:=by
    intro L A s;unfold YZ;rw[ht]
   rw[hsi]at hs
   refine Yik hG.mono j L s _ _ (fun s' hs'=>by rw[hsi];exact hs') ?_
   unfold YZ at hs⊢
   cases htj:tab[j]? with
   |none=>rw[htj]at hs;exact hs
   |some t=>
    rw[htj]at hs
    cases t with
    |silent d=>exact hs
    |op u chk=>exact⟨fun c hcm hcl=>hs.1 c hcm (getD_set_true hcl),hs.2⟩
    |loud u=>exact hs
  ·exact YoN hc ht hq hcm j L s A hd hri hrj hji hs
theorem Yvb{s:S}{a:Act}{sv:List Act}{w:World}(h:Rl w0 s a sv w)(n:Nat):Rl w0 s a sv { w with drawn:=n}:=by
 obtain⟨bs,hf,hsv,hH,hb,hoth⟩:=h
 have hk:Keeps w bs { w with drawn:=n} bs:=fun b hf o ho=>⟨ho,hf⟩
 have hst:Stays none bs bs:=fun _ _ _ h _=>h
 exact⟨bs,hf.keep hk hst Yi,hsv.keep hk hst,⟨hH.len,fun i=>(hH.ent i).keep hk hst rfl (fun _ _ _ _=>rfl),hH.inj,hH.lo,YaJ hk hH.reg⟩,⟨hb.os,hb.tape,hb.output,hb.size,hb.block⟩,hoth.keep hk⟩
end
end Go.Vx
namespace Go.Vx
open Go.RowKit
def YeC(lf:FuncId->Bool)(clo:Nat->Nat->Bool)(all:List VOp)(v:VOp)(j:Nat):DT:=
 match Y0 v with
 |some (d,_)=> .silent d
 |none=>bif Yg0 lf v then .loud v else .op v (bif v.op.isStore then Yuj clo j all 0 else bif v.op.isAppend then Yt9 clo j all 0 else [])
theorem Ycx{lf:FuncId->Bool}{clo:Nat->Nat->Bool}{all:List VOp}:∀(l:List VOp)(j i:Nat),(Ybi lf clo all l j)[i]? =(l[i]?).map fun v=>YeC lf clo all v (j+i)
 | [],_,_=>by simp [Ybi]
 |v::l,j,0=>by
  simp only[Ybi,List.getElem?_cons_zero,Option.map_some,YHi,YeC]
  cases Y0 v <;> rfl
 |v::l,j,i+1=>by
  simp only[Ybi,List.getElem?_cons_succ]
  rw[Ycx l (j+1) i]
  congr 1
  funext v
  rw[show j+1+i=j+(i+1)by omega]
theorem mem_silOf{k d:Nat}{z:AL}:∀{l:List VOp}{j:Nat},(k,d,z)∈Yc5 l j↔∃i v,l[i]? =some v/\k=j+i/\Y0 v=some (d,z)
 | [],j=>by simp [Yc5]
 |v::l,j=>by
  have ih:=mem_silOf (k:=k) (d:=d) (z:=z) (l:=l) (j:=j+1)
  unfold Yc5
  cases hs:Y0 v with
  |none=>
   simp only
   rw[ih]
   constructor
   ·rintro⟨i,u,h1,h2,h3⟩;exact⟨i+1,u,by simpa using h1,by omega,h3⟩
   ·rintro⟨i,u,h1,h2,h3⟩
    cases i with
    |zero=>simp only[List.getElem?_cons_zero,Option.some.injEq]at h1;subst h1;rw[hs]at h3;cases h3
    |succ i=>exact⟨i,u,by simpa using h1,by omega,h3⟩
  |some r=>
   obtain⟨d',z'⟩:=r
   simp only[YGK]
   rw[ih]
   constructor
   ·rintro(h| ⟨i,u,h1,h2,h3⟩)
    ·cases h;exact⟨0,v,rfl,rfl,hs⟩
    ·exact⟨i+1,u,by simpa using h1,by omega,h3⟩
   ·rintro⟨i,u,h1,h2,h3⟩
    cases i with
    |zero=>simp only[List.getElem?_cons_zero,Option.some.injEq]at h1;subst h1;rw[hs]at h3;cases h3;left;rw[h2];rfl
    |succ i=>exact .inr ⟨i,u,by simpa using h1,by omega,h3⟩
theorem Yil{P:Program}{all:Array Oper}:∀{rest:List Oper}{vs:List VOp},YaM P all rest=some vs->∀(i:Nat)(v:VOp),vs[i]? =some v->∃o,rest[i]? =some o/\Ygc P all o=some v
 | [],vs,h,i,v,hv=>by simp only[YaM,Option.some.injEq]at h;subst h;simp at hv
 |o::l,vs,h,i,v,hv=>by
  simp only[YaM]at h
  obtain⟨x,hx,h⟩:=YGe.1 h
  obtain⟨y,hy,rfl⟩:=YGh.1 h
  cases i with
  |zero=>simp only[List.getElem?_cons_zero,Option.some.injEq]at hv;subst hv;exact⟨o,rfl,hx⟩
  |succ i=>exact Yil hy i v (by simpa using hv)
theorem YhT{clo:Nat->Nat->Bool}{i:Nat}{v:VOp}:∀{l:List DT}{j:Nat},YgJ clo i v l j=true->∀(k:Nat)(t:DT),l[k]? =some t->Yqu clo i v (j+k) t=true
 |t::l,j,h,0,u,hu=>by
  simp only[YgJ,YGi]at h
  simp only[List.getElem?_cons_zero,Option.some.injEq]at hu;subst hu;exact h.1
 |t::l,j,h,k+1,u,hu=>by
  simp only[YgJ,YGi]at h
  have:=YhT h.2 k u (by simpa using hu)
  rw[show j+1+k=j+(k+1)by omega]at this
  exact this
end Go.Vx
namespace Go.Vx
open Go.RowKit
theorem Yrt:∀l:List SV,lenE l=lenL l
 | []=>rfl
 |_::l=>congrArg (·+1) (Yrt l)
def AL.op:AL->VO
 | .box z=> .alloc z
 | .arr n size z=> .allocArr n size z
def AL.ok:AL->Prop
 | .box _=>True
 | .arr n size z=>lenL z=n*size
theorem Yle{v:VOp}{d:Nat}{z:AL}(h:Y0 v=some (d,z)):v.dst=some d/\v.g=none/\v.op=z.op/\z.ok:=by
 unfold Y0 at h
 split at h
 ·cases h;exact⟨rfl,rfl,rfl,trivial⟩
 ·rename_i n size z' _
  cases hb:YGS (lenE z') (n*size)with
  |true=>rw[hb]at h;cases h;exact⟨rfl,rfl,rfl,(Yrt z').symm.trans (YGD hb)⟩
  |false=>rw[hb]at h;cases h
 ·cases h
theorem YoR{P:Program}{o:Oper}{z:AL}{ops:List Operand}{elem:TypeId}(ho:o.op= .alloc elem)(h:vop P o=some (AL.op z,ops))(hk:AL.ok z):z.is P elem:=by
 obtain⟨dst,op,type,pos,after,guard⟩:=o
 simp only at ho
 subst ho
 unfold vop at h
 simp only at h
 split at h
 ·obtain⟨_,hz,h⟩:=YGe.1 h
  obtain⟨_,_,h⟩:=YGh.1 h
  cases z <;> cases h
  exact⟨hz,hk⟩
 ·obtain⟨_,hz,h⟩:=YGh.1 h
  cases z <;> cases h
  exact hz
theorem YhJ:∀{os:List Oper}{vs:List VOp},Yev os vs=true->∀(i:Nat)(o:Oper)(v:VOp),os[i]? =some o->vs[i]? =some v->(Y0 v).isSome=true->∃e,o.op= .alloc e
 | [],_,_,i,o,v,h,_,_=>by simp at h
 |_::_,[],_,i,o,v,_,h,_=>by simp at h
 |o'::os,v'::vs,h,0,o,v,h1,h2,h3=>by
  simp only[List.getElem?_cons_zero,Option.some.injEq]at h1 h2
  subst h1;subst h2
  simp only[Yev,YGi]at h
  have h:=h.1
  cases hs:Y0 v' with
  |none=>rw[hs]at h3;cases h3
  |some x=>
   rw[hs]at h
   simp only at h
   split at h
   ·exact⟨_,‹_›⟩
   ·cases h
 |o'::os,v'::vs,h,i+1,o,v,h1,h2,h3=>by
  simp only[Yev,YGi]at h
  exact YhJ h.2 i o v (by simpa using h1) (by simpa using h2) h3
def silP:Nat->List (Nat×Nat×AL)->List (Nat×Pend)
 |_,[]=>[]
 |n,(j,d,z)::l=>(j,⟨n,d,z⟩)::silP (n+1) l
theorem Ye2{j:Nat}{p:Pend}:∀{l:List (Nat×Nat×AL)}{n:Nat},(j,p)∈silP n l->n<=p.idx/\(j,p.slot,p.cells)∈l
 | [],_,h=>by cases h
 | (j',d,z)::l,n,h=>by
   rcases YGK.1 h with h|h
   ·cases h;exact⟨YGr _,YGy⟩
   ·have:=Ye2 h;exact⟨by omega,YGx _ this.2⟩
theorem Yn5{j d:Nat}{z:AL}:∀{l:List (Nat×Nat×AL)}{n:Nat},(j,d,z)∈l->∃p,(j,p)∈silP n l/\p.slot=d/\p.cells=z
 | [],_,h=>by cases h
 | (j',d',z')::l,n,h=>by
   rcases YGK.1 h with h|h
   ·cases h;exact⟨_,YGy,rfl,rfl⟩
   ·obtain⟨p,h1,h2⟩:=Yn5 (n:=n+1) h
    exact⟨p,YGx _ h1,h2⟩
theorem Yn4:∀{l:List (Nat×Nat×AL)}{n:Nat},(silP n l).map (·.1)=l.map (·.1)
 | [],_=>rfl
 | (j,d,z)::l,n=>by simp only[silP,YGY,Yn4]
theorem Yvj{x:Nat×Nat×AL}{l:List VOp}{j:Nat}(h:x∈Yc5 l j):j<=x.1:=by
 obtain⟨k,d,z⟩:=x
 obtain⟨i,v,_,h2,_⟩:=mem_silOf.1 h
 simp only;omega
theorem YeN:∀{l:List VOp}{j:Nat},((Yc5 l j).map (·.1)).Nodup
 | [],_=> .nil
 |v::l,j=>by
  unfold Yc5
  cases Y0 v with
  |none=>exact YeN
  |some r=>
   obtain⟨d,z⟩:=r
   simp only[YGY,List.nodup_cons]
   refine⟨fun h=>?_,YeN⟩
   obtain⟨x,hx,h⟩:=List.mem_map.1 h
   have:=Yvj hx;omega
theorem Yda:∀{l:List Nat},Ych l=true->l.Nodup
 | [],_=> .nil
 |d::l,h=>by
  simp only[Ych,YGi,YGA]at h
  rw[List.nodup_cons]
  refine⟨fun hm=>?_,Yda h.2⟩
  have:l.contains d=true:=by rw[List.contains_iff_mem];exact hm
  rw[h.1]at this;cases this
theorem Yii:∀{l:List (Nat×Nat×AL)}{n:Nat},(l.map (·.2.1)).Nodup->∀x∈silP n l,∀y∈silP n l,x.1≠y.1->x.2.slot≠y.2.slot/\x.2.idx≠y.2.idx
 | [],_,_,x,hx,_,_,_=>by cases hx
 | (j,d,z)::l,n,hn,x,hx,y,hy,hxy=>by
   simp only[YGY,List.nodup_cons]at hn
   have key:∀u∈silP (n+1) l,u.2.slot≠d/\u.2.idx≠n:=by
    rintro⟨k,p⟩ hu
    obtain⟨h1,h2⟩:=Ye2 hu
    refine⟨fun e=>hn.1 (List.mem_map.2 ⟨_,h2,e⟩),?_⟩
    simp only;omega
   rcases YGK.1 hx with rfl|hx <;> rcases YGK.1 hy with rfl|hy
   ·exact absurd rfl hxy
   ·exact⟨fun e=>(key y hy).1 e.symm,fun e=>(key y hy).2 e.symm⟩
   ·exact key x hx
   ·exact Yii hn.2 x hx y hy hxy
theorem pends_perm:∀{l:List (Nat×Nat×AL)}{n:Nat}{Pd:List Pend},(YuZ n (l.map (·.2)) Pd).Perm ((silP n l).map (·.2)++Pd)
 | [],_,_=>List.Perm.refl _
 | (j,d,z)::l,n,Pd=>by
   simp only[YGY,YuZ,silP,List.cons_append]
   exact pends_perm.trans List.perm_middle
theorem YlK{al:List (Nat×AL)}:∀{ds:List Nat},(al.map (·.1)).Nodup->(∀d∈al.map (·.1),d∉ds)->YeR al ds=true:=by
 induction al with
 |nil=>intros;rfl
 |cons x al ih=>
  obtain⟨d,z⟩:=x
  intro ds hn hd
  simp only[YGY,List.nodup_cons]at hn
  simp only[YeR,YGi,YGA]
  refine⟨?_,ih hn.2 fun e he hm=>?_⟩
  ·cases hc:ds.contains d with
   |false=>rfl
   |true=>rw[List.contains_iff_mem]at hc;exact absurd hc (hd d (by simp))
  ·rcases YGK.1 hm with rfl|hm
   ·exact hn.1 he
   ·exact hd e (by simp only[YGY,YGK];exact .inr he) hm
theorem Ygs{clo:Nat->Nat->Bool}{sil:List (Nat×Nat×AL)}:∀{l:List DT}{j:Nat},Yfg clo sil l j=true->∀(k:Nat)(v:VOp)(chk:List (Nat×X)),l[k]? =some (.op v chk)->
 ∀x∈sil,(clo (j+k) x.1=true\/(x.2.1∉v.reads/\(v.op.isAppend=true->x.2.2.clean=true)))/\v.dst≠some x.2.1
 | [],_,_,k,v,chk,h,_,_=>by simp at h
 | .silent _::l,j,h,0,v,chk,hk,_,_=>by simp at hk
 | .silent _::l,j,h,k+1,v,chk,hk,x,hx=>by
   have:=Ygs (l:=l) (j:=j+1) h k v chk (by simpa using hk) x hx
   rwa [show j+1+k=j+(k+1)by omega]at this
 | .loud _::l,j,h,0,v,chk,hk,_,_=>by simp at hk
 | .loud _::l,j,h,k+1,v,chk,hk,x,hx=>by
   simp only[Yfg,YGi]at h
   have:=Ygs (l:=l) (j:=j+1) h.2 k v chk (by simpa using hk) x hx
   rwa [show j+1+k=j+(k+1)by omega]at this
 | .op u c::l,j,h,0,v,chk,hk,x,hx=>by
   simp only[List.getElem?_cons_zero,Option.some.injEq,DT.op.injEq]at hk
   obtain⟨rfl,rfl⟩:=hk
   simp only[Yfg,YGi,List.all_eq_true]at h
   have:=h.1 x hx
   simp only[YG6,YGi,YGA]at this
   refine⟨?_,?_⟩
   ·rcases this.1 with h1| ⟨h1,h2⟩
    ·exact .inl h1
    ·exact .inr ⟨fun hm=>absurd ((List.contains_iff_mem (a:=x.2.1)).2 hm) (by rw[h1];simp),fun ha=>by rcases h2 with h2|h2;(rw[ha]at h2;cases h2);exact h2⟩
   ·intro e
    have:=this.2
    rw[e]at this
    simp at this
 | .op u c::l,j,h,k+1,v,chk,hk,x,hx=>by
   simp only[Yfg,YGi]at h
   have:=Ygs (l:=l) (j:=j+1) h.2 k v chk (by simpa using hk) x hx
   rwa [show j+1+k=j+(k+1)by omega]at this
theorem Yd0{clo:Nat->Nat->Bool}{sil:List (Nat×Nat×AL)}:∀{l:List DT}{j:Nat},Yfg clo sil l j=true->∀(k:Nat)(v:VOp),l[k]? =some (.loud v)->sil=[]
 | [],_,_,k,v,h=>by simp at h
 | .silent _::l,j,h,0,v,hk=>by simp at hk
 | .silent _::l,j,h,k+1,v,hk=>Yd0 (l:=l) (j:=j+1) h k v (by simpa using hk)
 | .op u c::l,j,h,0,v,hk=>by simp at hk
 | .op u c::l,j,h,k+1,v,hk=>by
   simp only[Yfg,YGi]at h
   exact Yd0 (l:=l) (j:=j+1) h.2 k v (by simpa using hk)
 | .loud _::l,j,h,0,v,hk=>by
   simp only[Yfg,YGi]at h
   have h:=h.1
   split at h
   ·rfl
   ·cases h
 | .loud _::l,j,h,k+1,v,hk=>by
   simp only[Yfg,YGi]at h
   exact Yd0 (l:=l) (j:=j+1) h.2 k v (by simpa using hk)
theorem YhM:∀{l:List Nat}{j:Nat},Yey l j=true->∀k,l.getD k 0<2^(j+k)
 | [],j,_,k=>by simp;exact Nat.two_pow_pos _
 |m::l,j,h,0=>by
  simp only[Yey,YGi]at h
  have:=h.1
  simp only[Nat.blt_eq]at this
  simpa using this
 |m::l,j,h,k+1=>by
  simp only[Yey,YGi]at h
  have:=YhM h.2 k
  rw[show j+1+k=j+(k+1)by omega]at this
  simpa using this
theorem Yno{clo:Nat->Nat->Bool}{tab:List DT}:∀(n j i:Nat),(Yhz clo tab n j).getD i false=true->Yyh clo tab (j+i)=true
 |0,_,_,h=>by simp [Yhz]at h
 |n+1,j,0,h=>by simpa [Yhz]using h
 |n+1,j,i+1,h=>by
  have:=Yno (clo:=clo) (tab:=tab) n (j+1) i (by simpa [Yhz]using h)
  rwa [show j+1+i=j+(i+1)by omega]at this
theorem Ybv{P:Program}{all:Array Oper}:∀{rest:List Oper}{vs:List VOp},YaM P all rest=some vs->vs.length=rest.length
 | [],vs,h=>by simp only[YaM,Option.some.injEq]at h;subst h;rfl
 |o::l,vs,h=>by
  simp only[YaM]at h
  obtain⟨x,hx,h⟩:=YGe.1 h
  obtain⟨y,hy,rfl⟩:=YGh.1 h
  simp [Ybv hy]
def OT.all:OT->List Nat
 | .nil=>[]
 | .op i t=>i::t.all
 | .br a b=>a.all++b.all
def YgO(E:Env)(G:VOp->(S->Prop)->S->Prop)(A:S->Prop):List DOp->S->Prop
 | [],s=>A s
 | ⟨v,chk⟩::l,s=>chkG v.op.isAppend s (s.x (YcN v.xs)) chk/\(dopW E v (YgO E G A l) s\/G v (YgO E G A l) s)
def dtrP(E:Env)(G:VOp->(S->Prop)->S->Prop)(A:S->Prop):DTr->S->Prop
 | .leaf,s=>A s
 | .ops l t,s=>YgO E G (dtrP E G A t) l s
 | .br a b,s=>dtrP E G A a s/\dtrP E G A b s
theorem Yqn{s:S}{y:SV}:∀{l:List X},chkA s y l->∀x∈l,napP (s.x x) y
 |x::l,h,z,hz=>by
  rcases YGK.1 hz with rfl|hz
  ·exact h.1
  ·exact Yqn h.2 z hz
theorem Yqr{s:S}{y:SV}:∀{l:List X},chkP s y l->∀x∈l,YhL (s.x x) y
 |x::l,h,z,hz=>by
  rcases YGK.1 hz with rfl|hz
  ·exact h.1
  ·exact Yqr h.2 z hz
theorem Yqq{ap:Bool}{s:S}{y:SV}{l:List X}(h:chkG ap s y l)(x:X)(hx:x∈l):chk1 ap (s.x x) y:=by
 cases ap with
 |false=>exact Yqr h x hx
 |true=>exact Yqn h x hx
theorem Yhi{E:Env}{G:VOp->(S->Prop)->S->Prop}{A:S->Prop}{tab:List DT}(hGm:∀v (A B:S->Prop) s,(∀s,A s->B s)->G v A s->G v B s)(hGn:∀(i:Nat) (v:VOp) (chk:List (Nat×X)) (A:S->Prop) (s:S),tab[i]? =some (.op v chk)->¬G v A s):
 ∀{order:List Nat}{L:Array Bool}{s:S},(∀i∈order,i<tab.length)->YgO E G A (Ykn tab order) s->seqS (YZ E G tab) A order L s
 | [],_,_,_,h=>h
 |i::order,L,s,hi,h=>by
  have hlt:=hi i YGy
  unfold Ykn at h
  unfold seqS YZ
  cases ht:tab[i]? with
  |none=>rw[List.getElem?_eq_none_iff]at ht;omega
  |some t=>
   rw[ht]at h
   cases t with
   |silent d=>exact Yhi hGm hGn (fun j hj=>hi j (YGx _ hj)) h
   |op v chk=>
    simp only at h⊢
    refine⟨fun c hc _=>Yqq h.1 c.2 (List.mem_map.2 ⟨c,hc,rfl⟩),Yaw (fun s' h'=>Yhi hGm hGn (fun j hj=>hi j (YGx _ hj)) h') (h.2.resolve_right (hGn i v chk _ _ ht))⟩
   |loud v=>
    simp only at h⊢
    exact h.2.imp (Yaw fun s' h'=>Yhi hGm hGn (fun j hj=>hi j (YGx _ hj)) h') (hGm v _ _ s fun s' h'=>Yhi hGm hGn (fun j hj=>hi j (YGx _ hj)) h')
theorem Yc0{E:Env}{G:VOp->(S->Prop)->S->Prop}{A:S->Prop}{tab:List DT}(hGm:∀v (A B:S->Prop) s,(∀s,A s->B s)->G v A s->G v B s)(hGn:∀(i:Nat) (v:VOp) (chk:List (Nat×X)) (A:S->Prop) (s:S),tab[i]? =some (.op v chk)->¬G v A s):
 ∀{t:OT}{L:Array Bool}{s:S},(∀i∈t.all,i<tab.length)->dtrP E G A (Yop tab t) s->YoP (YZ E G tab) A t L s
 | .nil,_,_,_,h=>h
 | .op i t,L,s,hi,h=>by
   have hlt:=hi i (by simp [OT.all])
   have hr:∀j∈t.all,j<tab.length:=fun j hj=>hi j (by simp [OT.all,hj])
   unfold Yop dtrP Ykn at h
   unfold YoP YZ
   cases ht:tab[i]? with
   |none=>rw[List.getElem?_eq_none_iff]at ht;omega
   |some x=>
    rw[ht]at h
    cases x with
    |silent d=>exact Yc0 hGm hGn hr h
    |op v chk=>
     simp only[YgO]at h⊢
     refine⟨fun c hc _=>Yqq h.1 c.2 (List.mem_map.2 ⟨c,hc,rfl⟩),Yaw (fun s' h'=>Yc0 hGm hGn hr h') (h.2.resolve_right (hGn i v chk _ _ ht))⟩
    |loud v=>
     simp only[YgO]at h⊢
     exact h.2.imp (Yaw fun s' h'=>Yc0 hGm hGn hr h') (hGm v _ _ s fun s' h'=>Yc0 hGm hGn hr h')
 | .br a b,L,s,hi,h=>⟨Yc0 hGm hGn (fun j hj=>hi j (by simp [OT.all,hj])) h.1,Yc0 hGm hGn (fun j hj=>hi j (by simp [OT.all,hj])) h.2⟩
theorem Ygt{free:Nat->Bool}{dm:List Nat}{n:Nat}:∀{t:OT}{m:Nat}{ex:Bool},Ycy free dm n t m ex=true->∀i∈t.all,i<n
 | .op i t,m,ex,h,j,hj=>by
   simp only[Ycy,YGi]at h
   rcases YGK.1 hj with rfl|hj
   ·have:=YG2 h.1.1.1;omega
   ·exact Ygt h.2 j hj
 | .br a b,m,ex,h,j,hj=>by
   simp only[Ycy,YGi]at h
   rcases YGT.1 hj with hj|hj
   ·exact Ygt h.1.2 j hj
   ·exact Ygt h.2 j hj
theorem YsA{free:Nat->Bool}{dm:List Nat}{n:Nat}:∀{l:List Nat}{m:Nat},seqB free dm n l m=true->∀i∈l,i<n
 |i::l,m,h,j,hj=>by
  simp only[seqB,YGi]at h
  rcases YGK.1 hj with rfl|hj
  ·have:=YG2 h.1.1.1;omega
  ·exact YsA h.2 j hj
section
variable {P:Program} {E:Env} {G:VOp->(S->Prop)->S->Prop} {w0:Cx} {rd:Option Nat}
theorem Ync(hE:Yq P E)(hm:P.follows .mixedOrders=true){ops:Array Oper}{vs:List VOp}(hvs:YaM P ops ops.toList=some vs)(c0:Yev ops.toList vs=true)(c1:YGS (clos (YE .any ops)).length ops.size=true)(c2:YfO (YE .any ops) (clos (YE .any ops)) ops.size=true)(c3:Yey (YE .any ops) 0=true)
 (c4:Yfg (YaA (clos (YE .any ops))) (Yc5 vs 0) (Ybi (Ybp P) (YaA (clos (YE .any ops))) vs vs 0) 0=true)(c5:Ych ((Yc5 vs 0).map (·.2.1))=true) {A:S->Prop} {κ:Kont} {s:S} {a:Act} {sv:List Act} {w:World} {id:Nat}
 (h:∀s0,s0=YhC s ((Yc5 vs 0).map (·.2))->(∀(j:Nat)(L:Array Bool)(s:S)(A B:S->Prop),(∀s,A s->B s)->YZ E G (Ybi (Ybp P) (YaA (clos (YE .any ops))) vs vs 0) j L A s->YZ E G (Ybi (Ybp P) (YaA (clos (YE .any ops))) vs vs 0) j L B s)->
   (∀i L s,(Yhz (YaA (clos (YE .any ops))) (Ybi (Ybp P) (YaA (clos (YE .any ops))) vs vs 0) ops.size 0).getD i false=true->¬YZ E G (Ybi (Ybp P) (YaA (clos (YE .any ops))) vs vs 0) i L (fun _=>False) s)->
   (∀(i:Nat),(Yhz (YaA (clos (YE .any ops))) (Ybi (Ybp P) (YaA (clos (YE .any ops))) vs vs 0) ops.size 0).getD i false=true->∀(j:Nat)(L:Array Bool)(s:S)(A:S->Prop),Down .any ops L->i∈Region.ready .any ops L->j∈Region.ready .any ops L->j≠i->YZ E G (Ybi (Ybp P) (YaA (clos (YE .any ops))) vs vs 0) i L (YZ E G (Ybi (Ybp P) (YaA (clos (YE .any ops))) vs vs 0) j (L.setIfInBounds i true) A) s->YZ E G (Ybi (Ybp P) (YaA (clos (YE .any ops))) vs vs 0) j L (YZ E G (Ybi (Ybp P) (YaA (clos (YE .any ops))) vs vs 0) i (L.setIfInBounds j true) A) s)->
   anyS (YZ E G (Ybi (Ybp P) (YaA (clos (YE .any ops))) vs vs 0)) A .any ops ops.size (Array.replicate ops.size false) s0) {cx:Cx0} {ks:List (Nat×Obj)} {J:Nat->Option IK} {hJ:Ext cx J} (hG:YhG P G rd ops κ cx ks sv) (hGn:∀v A s,G v A s->Yg0 (Ybp P) v=true) (hR:Rl ⟨cx.wI J hJ,ks⟩ s a sv w) (hK:∀s a w J (hJ:Ext cx J),A s->Rl ⟨cx.wI J hJ,ks⟩ s a sv w->κ .normal a w):(Code.region id ops true).wpIn (Wd rd) 0 P κ a w:=by
 have hlen:vs.length=ops.size:=by rw[Ybv hvs];simp
 have htl:∀(clo:Nat->Nat->Bool)(l:List VOp)(j:Nat),(Ybi (Ybp P) clo vs l j).length=l.length:=by
  intro clo l
  induction l with
  |nil=>intro j;rfl
  |cons v l ih=>intro j;simp only[Ybi,YHf,ih]
 have hsn:((Yc5 vs 0).map (·.2.1)).Nodup:=Yda c5
 have hget:∀(i:Nat)(v:VOp),vs[i]? =some v->∃o,ops[i]? =some o/\Ygc P ops o=some v:=by
  intro i v hv
  obtain⟨o,h1,h2⟩:=Yil hvs i v hv
  exact⟨o,by simpa using h1,h2⟩
 have hok:YwW P ops (Ybi (Ybp P) (YaA (clos (YE .any ops))) vs vs 0) (silP (lenH s.hp) (Yc5 vs 0)) (YaA (clos (YE .any ops))):=by
  refine⟨by rw[Yn4];exact YeN,Yii hsn,fun i d ht=>?_,fun i v chk ht=>?_,fun i v ht=>?_⟩
  ·rw[Ycx]at ht
   obtain⟨v,hv,he⟩:=YGh.1 ht
   unfold YeC at he
   cases hs:Y0 v with
   |none=>rw[hs]at he;simp only at he;cases hl:Yg0 (Ybp P) v <;> rw[hl]at he <;> cases he
   |some x=>
    obtain⟨d',z⟩:=x
    rw[hs]at he;cases he
    obtain⟨o,ho,hvo⟩:=hget i v hv
    obtain⟨e,hop⟩:=YhJ c0 i o v (by simpa using ho) hv (by rw[hs];rfl)
    obtain⟨g1,g2,g3,g4⟩:=Yle hs
    obtain⟨xs,k1,k2,k3,k4,k5⟩:=YfJ hvo
    obtain⟨p,hp,hp1,hp2⟩:=Yn5 (n:=lenH s.hp) (mem_silOf.2 ⟨i,v,hv,by omega,hs⟩:(i,d,z)∈Yc5 vs 0)
    refine⟨p,o,e,hp,ho,hop,?_,?_,?_⟩
    ·rcases k5 with k5| ⟨_,_,_,_,_,k5⟩
     ·exact k5.1
     ·rw[g2]at k5;cases k5
    ·rw[g3]at k1;rw[hp2];exact YoR hop k1 g4
    ·rw[<-k4,g1,hp1]
  ·rw[Ycx]at ht
   obtain⟨u,hu,he⟩:=YGh.1 ht
   unfold YeC at he
   cases hs:Y0 u with
   |some x=>rw[hs]at he;cases he
   |none=>
    rw[hs]at he
    simp only at he
    cases hl:Yg0 (Ybp P) u with
    |true=>rw[hl]at he;cases he
    |false=>
    rw[hl]at he
    simp only[cond_false,DT.op.injEq]at he
    obtain⟨rfl,hchk⟩:=he
    refine⟨fun p hp=>?_,hget i u hu,fun x hx=>?_⟩
    ·obtain⟨_,hm⟩:=Ye2 hp
     obtain⟨i',v',h1,h2,h3⟩:=mem_silOf.1 hm
     have:i'=i:=by omega
     subst this
     rw[hu]at h1;cases h1
     rw[hs]at h3;cases h3
    ·obtain⟨k,p⟩:=x
     have:=Ygs c4 i u chk (by rw[Ycx,hu];simp [YeC,hs,hl,<-hchk]) (k,p.slot,p.cells) (Ye2 hx).2
     simpa using this
  ·have hsl:=Yd0 c4 i v ht
   rw[Ycx]at ht
   obtain⟨u,hu,he⟩:=YGh.1 ht
   refine⟨by rw[hsl];rfl,?_⟩
   have:u=v:=by
    unfold YeC at he
    cases hs:Y0 u with
    |some x=>rw[hs]at he;cases he
    |none=>
     rw[hs]at he
     simp only at he
     cases hl:Yg0 (Ybp P) u <;> rw[hl]at he <;> cases he
     rfl
   subst this
   exact hget i u hu
 refine Yk6 (J:=J) (hJ:=hJ) (free:=fun i=>(Yhz (YaA (clos (YE .any ops))) (Ybi (Ybp P) (YaA (clos (YE .any ops))) vs vs 0) ops.size 0).getD i false) hE hm (YGD c1) c2 hok (fun i hi=>?_)
  (h _ rfl) hG ?_ hK (fun x hx=>?_) (fun i o ho e he hb=>?_)
 ·have:=Yno _ _ _ hi
  rw[YHu]at this
  unfold Yyh at this
  split at this
  ·exact .inl ⟨_,‹_›⟩
  ·rename_i v hv
   simp only[YGi]at this
   refine .inr ⟨v,hv,this.1,fun j t ht=>?_⟩
   have:=YhT this.2 j t ht
   rwa [YHu]at this
  ·cases this
 ·have h0:=YnK (w0:=⟨cx.wI J hJ,ks⟩) ((Yc5 vs 0).map (·.2)) [] s (YlK (by rw[List.map_map];exact hsn) (fun _ _=>by simp)) (Ywa (Yvb hR (w.drawn+1)))
  have:=pends_perm (l:=Yc5 vs 0) (n:=lenH s.hp) (Pd:=[])
  rw[List.append_nil]at this
  exact Yr5 this h0
 ·obtain⟨k,p⟩:=x
  obtain⟨i,v,h1,h2,_⟩:=mem_silOf.1 (Ye2 hx).2
  have:=(List.getElem?_eq_some_iff.1 h1).1
  simp only;omega
 ·have hlt:=YhM c3 i
  rw[YdH ho,YHu]at hlt
  have hbit:(YkH .any o.after.toList).testBit e.on=true:=maskL_spec.2 ⟨e,by simpa using he,hb,rfl⟩
  rcases YGz e.on i with h'|h'
  ·exact h'
  ·have:=Nat.testBit_lt_two_pow (YGV hlt (YGs (by omega) h'))
   rw[this]at hbit;cases hbit
theorem Ymc{lf:FuncId->Bool}{clo:Nat->Nat->Bool}{vs:List VOp}:∀(l:List VOp)(j:Nat),(Ybi lf clo vs l j).length=l.length
 | [],_=>rfl
 |_::l,j=>by simp only[Ybi,YHf,Ymc l]
theorem YnI{lf:FuncId->Bool}{clo:Nat->Nat->Bool}{vs:List VOp}(hGn:∀v A s,G v A s->Yg0 lf v=true)(i:Nat)(v:VOp)(chk:List (Nat×X))(A:S->Prop)(s:S)(h:(Ybi lf clo vs vs 0)[i]? =some (.op v chk)):¬G v A s:=fun hg=>by
 rw[Ycx]at h
 obtain⟨u,hu,he⟩:=YGh.1 h
 unfold YeC at he
 cases hs:Y0 u with
 |some x=>rw[hs]at he;cases he
 |none=>
  rw[hs]at he
  simp only at he
  cases hl:Yg0 lf u with
  |true=>rw[hl]at he;cases he
  |false=>
   rw[hl]at he
   cases he
   rw[hGn _ _ _ hg]at hl;cases hl
theorem Yoo(hE:Yq P E)(hm:P.follows .mixedOrders=true){ops:Array Oper}{al:List (Nat×AL)}{dl:List DOp}(hd:Ynb P ops=some (al,dl)){A:S->Prop}{κ:Kont}{s:S}{a:Act}{sv:List Act}{w:World}{id:Nat}
 (h:YgO E G A dl (YhC s al)){cx:Cx0}{ks:List (Nat×Obj)}{J:Nat->Option IK}{hJ:Ext cx J}(hG:YhG P G rd ops κ cx ks sv)(hGn:∀v A s,G v A s->Yg0 (Ybp P) v=true)(hR:Rl ⟨cx.wI J hJ,ks⟩ s a sv w)(hK:∀s a w J (hJ:Ext cx J),A s->Rl ⟨cx.wI J hJ,ks⟩ s a sv w->κ .normal a w):(Code.region id ops true).wpIn (Wd rd) 0 P κ a w:=by
 unfold Ynb at hd
 obtain⟨vs,hvs,hd⟩:=YGe.1 hd
 simp only at hd
 split at hd
 ·rename_i hc
  simp only[Option.some.injEq,Prod.mk.injEq]at hd
  obtain⟨rfl,rfl⟩:=hd
  simp only[YGi]at hc
  obtain⟨⟨⟨⟨⟨⟨⟨c0,c1⟩,c2⟩,c3⟩,c4⟩,c5⟩,c6⟩,c7⟩:=hc
  have hlen:vs.length=ops.size:=by rw[Ybv hvs];simp
  refine Ync hE hm hvs c0 c1 c2 c3 c4 c5 (fun s0 hs0 m1 m2 m3=>?_) hG hGn hR hK
  subst hs0
  rw[<-YGD c6]
  have:=YsB m1 m2 m3 _ 0 (Array.replicate ops.size false) _ c7 Ykk YgP (Yhi hG.mono (YnI hGn) (fun i hi=>by rw[Ymc,hlen];exact YsA c7 i hi) h)
  rw[YGD c6]at this⊢
  exact this
 ·cases hd
theorem YlL(hE:Yq P E)(hm:P.follows .mixedOrders=true){ops:Array Oper}{al:List (Nat×AL)}{t:DTr}(hd:YiS P ops=some (al,t)){A:S->Prop}{κ:Kont}{s:S}{a:Act}{sv:List Act}{w:World}{id:Nat}
 (h:dtrP E G A t (YhC s al)){cx:Cx0}{ks:List (Nat×Obj)}{J:Nat->Option IK}{hJ:Ext cx J}(hG:YhG P G rd ops κ cx ks sv)(hGn:∀v A s,G v A s->Yg0 (Ybp P) v=true)(hR:Rl ⟨cx.wI J hJ,ks⟩ s a sv w)(hK:∀s a w J (hJ:Ext cx J),A s->Rl ⟨cx.wI J hJ,ks⟩ s a sv w->κ .normal a w):(Code.region id ops true).wpIn (Wd rd) 0 P κ a w:=by
 unfold YiS at hd
 obtain⟨vs,hvs,hd⟩:=YGe.1 hd
 simp only at hd
 split at hd
 ·rename_i hc
  simp only[Option.some.injEq,Prod.mk.injEq]at hd
  obtain⟨rfl,rfl⟩:=hd
  simp only[YGi]at hc
  obtain⟨⟨⟨⟨⟨⟨⟨c0,c1⟩,c2⟩,c3⟩,c4⟩,c5⟩,c6⟩,c7⟩:=hc
  have hlen:vs.length=ops.size:=by rw[Ybv hvs];simp
  refine Ync hE hm hvs c0 c1 c2 c3 c4 c5 (fun s0 hs0 m1 m2 m3=>?_) hG hGn hR hK
  subst hs0
  have:=(Ygu m1 m2 m3 _ 0 false (Array.replicate ops.size false) _ c7 Ykk YgP (Yc0 hG.mono (YnI hGn) (fun i hi=>by rw[Ymc,hlen];exact Ygt c7 i hi) h)).1 rfl
  rw[YGD c6]at this
  exact this
 ·cases hd
end
end Go.Vx
namespace Go.Vx
open Go.RowKit
section
variable {P:Program} {E:Env} {Q:SV->List HO->Prop} {vr:List VR} {w0:Cx0} {rd:Option Nat} {ks:List (Nat×Obj)}
def inG(E:Env)(Q:SV->List HO->Prop)(vr:List VR)(N:Nat)(K0:List It)(v:VOp)(A:S->Prop)(s:S):Prop:=
 ∃f d xs ys vf,∃B:S->Prop,v=⟨d,none,.call f,xs⟩/\E.lo f=true/\callee E (.call f) (s.args xs)=some (f,ys)/\E.ct f=none/\E.fn f=some vf/\
  (∃m,m<=N/\run E Q vr m (.code vf.body:: .frame d vf.res:: .inLoop B::K0) { fr:=padL vf.ntmps ys,saved:=s.fr::s.saved,hp:=s.hp})/\∀s',B s'->A s'
theorem Yjb{N:Nat}{K0:List It}(v:VOp)(A B:S->Prop)(s:S)(h:∀s,A s->B s)(hg:inG E Q vr N K0 v A s):inG E Q vr N K0 v B s:=by
 obtain⟨f,d,xs,ys,vf,C,h1,h2,h3,h4,h5,h6,h7⟩:=hg
 exact⟨f,d,xs,ys,vf,C,h1,h2,h3,h4,h5,h6,fun s' hs=>h _ (h7 s' hs)⟩
theorem YlE{f g:FuncId}{xs ys:List SV}(h:callee E (.call f) xs=some (g,ys)):g=f:=by
 simp only[callee,Option.some.injEq,Prod.mk.injEq]at h
 exact h.1.symm
theorem YxU{n N:Nat}(hN:n<=N){v:VOp}{K K0:List It}(hK:Yf2 K=K0){s:S}(h:dop E (run E Q vr n) v K s):dopW E v (fun s'=> ∃m,m<=n/\run E Q vr m K s') s\/inG E Q vr N K0 v (fun s'=> ∃m,m<=n/\run E Q vr m K s') s:=by
 obtain⟨d,g,op,xs⟩:=v
 cases g with
 |none=>
  simp only[dop]at h
  unfold dopW
  simp only
  cases hq:op.quiet with
  |true=>
   left
   rw[hq]at h
   simp only[dpl,dq]at h
   simp only[fEff]
   cases he:eff s.hp (lenH s.hp) op (s.args xs)with
   |none=>rw[he]at h;exact h.elim
   |some e=>
    obtain⟨p,x,u⟩:=e
    rw[he]at h
    cases u <;> try exact h.elim
    exact⟨h.1,n,YGr _,h.2⟩
  |false=>
   rw[hq]at h
   simp only[dpl,dcl]at h
   simp only[Yky]
   cases hc:callee E op (s.args xs)with
   |none=>
    left
    rw[hc]at h
    simp only[psdD]at h
    simp only[psdW]
    cases hps:psd op (s.args xs)with
    |some c=>
     rw[hps]at h
     exact(Ydz n h).mono fun r hs ⟨m,hm,h2⟩=>⟨m,by omega,h2⟩
    |none=>
    rw[hps]at h
    simp only at h⊢
    cases hbad:op.bad with
    |true=>rw[hbad]at h;exact h.elim
    |false=>
    rw[hbad]at h
    simp only[effD,effK]at h
    simp only[badW,effW]
    cases he:eff s.hp (lenH s.hp) op (s.args xs)with
    |none=>rw[he]at h;exact h.elim
    |some e=>rw[he]at h;exact⟨h.1,n,YGr _,h.2⟩
   |some fy=>
    obtain⟨f,ys⟩:=fy
    rw[hc]at h
    simp only[dct]at h
    simp only[ctW]
    cases hct:E.ct f with
    |none=>
     right
     rw[hct]at h
     simp only[dinl]at h
     split at h
     ·rename_i g
      split at h
      ·rename_i hlo
       split at h
       ·rename_i vf hfn
        obtain⟨B,h1,h2⟩:=h
        obtain rfl:=YlE hc
        rw[hK]at h1
        exact⟨_,d,xs,ys,vf,B,rfl,hlo,hc,hct,hfn,⟨n,hN,h1⟩,fun s' hs=>⟨n,YGr _,h2 s' hs⟩⟩
       ·exact h.elim
      ·exact h.elim
     ·exact h.elim
    |some c=>
     left
     rw[hct]at h
     exact⟨h.1,(Ydz n h.2).mono fun r hs ⟨m,hm,h2⟩=>⟨m,by omega,h2⟩⟩
 |some gp=>
  left
  obtain⟨g,pol⟩:=gp
  simp only[dop,dgd]at h
  unfold dopW
  simp only
  cases hgd:Yab (getL s.fr g) pol with
  |none=>rw[hgd]at h;exact h.elim
  |some gb=>
   rw[hgd]at h
   simp only[dgq]at h
   cases hq:op.quiet with
   |true=>
    rw[hq]at h
    simp only[effG]at h
    simp only[fEff,hgd]
    cases he:eff s.hp (lenH s.hp) op (YU op gb (s.args xs)).2 with
    |none=>rw[he]at h;exact h.elim
    |some e=>
     obtain⟨p,x,u⟩:=e
     rw[he]at h
     cases u <;> try exact h.elim
     exact⟨⟨h.1,h.2.1⟩,n,YGr _,h.2.2⟩
   |false=>
    rw[hq]at h
    simp only[dctG]at h
    simp only[YgX,hgd,ctGW]
    cases hct:ctOf E op (YU op gb (s.args xs)).2 with
    |none=>rw[hct]at h;exact h.elim
    |some c=>
     rw[hct]at h
     obtain⟨c,ys⟩:=c
     obtain⟨hp,hno,h⟩:=h
     obtain⟨m,r,hm,h1,h2⟩:=Ygr n h
     exact⟨hp,hno,r,⟨m,by omega,h1⟩,h2⟩
theorem Yci{N:Nat}{K0:List It}{A B:S->Prop}:∀(l:List DOp),(∀s,A s->B s)->∀{s:S},YgO E (inG E Q vr N K0) A l s->YgO E (inG E Q vr N K0) B l s
 | [],h,_,hs=>h _ hs
 | ⟨_,_⟩::l,h,_,hs=>⟨hs.1,hs.2.imp (Yaw (fun _ h'=>Yci l h h')) (Yjb _ _ _ _ fun _ h'=>Yci l h h')⟩
theorem YiR{N:Nat}{K0:List It}:∀(l:List DOp)(n:Nat)(hn:n<=N){K:List It}(hK:Yf2 K=K0){s:S},run E Q vr n (.dops l::K) s->YgO E (inG E Q vr N K0) (fun s'=> ∃m,m<n/\run E Q vr m K s') l s
 |_,0,_,_,_,_,h=>h.elim
 | [],n+1,_,_,_,_,h=>⟨n,Nat.lt_succ_self _,h⟩
 | ⟨v,chk⟩::l,n+1,hn,K,hK,_,h=>by
   refine⟨h.1,?_⟩
   have key:∀(s:S),(∃m,m<=n/\run E Q vr m (.dops l::K) s)->YgO E (inG E Q vr N K0) (fun s'=> ∃m,m<n+1/\run E Q vr m K s') l s:=fun s ⟨m,hm,h'⟩=>
    Yci l (fun _ ⟨m',hm',h''⟩=>⟨m',by omega,h''⟩) (YiR l m (by omega) hK h')
   exact(YxU (n:=n) (N:=N) (by omega) (K:= .dops l::K) (K0:=K0) hK h.2).imp (Yaw key) (Yjb _ _ _ _ key)
theorem Yck{N:Nat}{K0:List It}{A B:S->Prop}:∀(t:DTr),(∀s,A s->B s)->∀{s:S},dtrP E (inG E Q vr N K0) A t s->dtrP E (inG E Q vr N K0) B t s
 | .leaf,h,_,hs=>h _ hs
 | .ops l t,h,_,hs=>Yci l (fun _ h'=>Yck t h h') hs
 | .br a b,h,_,hs=>⟨Yck a h hs.1,Yck b h hs.2⟩
theorem YiT{N:Nat}{K0:List It}:∀(t:DTr)(n:Nat)(hn:n<=N){K:List It}(hK:Yf2 K=K0){s:S},run E Q vr n (.dtr t::K) s->dtrP E (inG E Q vr N K0) (fun s'=> ∃m,m<n/\run E Q vr m K s') t s
 |_,0,_,_,_,_,h=>h.elim
 | .leaf,n+1,_,_,_,_,h=>⟨n,Nat.lt_succ_self _,h⟩
 | .ops l t,n+1,hn,K,hK,_,h=>Yci l (fun _ ⟨m,hm,h'⟩=>Yck t (fun _ ⟨m',hm',h''⟩=>⟨m',by omega,h''⟩) (YiT t m (by omega) hK h')) (YiR l n (by omega) (K:= .dtr t::K) hK h)
 | .br a b,n+1,hn,K,hK,_,h=>⟨Yck a (fun _ ⟨m',hm',h''⟩=>⟨m',by omega,h''⟩) (YiT a n (by omega) hK h.1),Yck b (fun _ ⟨m',hm',h''⟩=>⟨m',by omega,h''⟩) (YiT b n (by omega) hK h.2)⟩
theorem YeY{fn:Func}{c:Code}{b:VC}{f:FuncId}(hf:P.funcs[f]? =some fn)(hbody:fn.body=some c){R:Ending->World->Prop}{args:Array Value}{w:World}
 (h:(Exit.then (c.wpIn (Wd none) 0 P (bodyPostM (Wd none) 0 P fn R)) (bodyPostM (Wd none) 0 P fn R)) .normal { tmps:=args++Array.replicate (fn.ntmps-args.size) undef,defers:=[]} w):CallsIn (Wd none) 0 P f args w R:=
 callsIn_of_wp_marks hf hbody trivial h
theorem YdC{fn:Func}{vf:VF}(h:Yg P fn=some vf):∃c,fn.body=some c/\YcB P c=some vf.body/\YhF P fn.results.toList=some vf.res/\vf.ntmps=fn.ntmps:=by
 unfold Yg at h
 obtain⟨c,hbody,h⟩:=YGe.1 h
 obtain⟨b,hcode,h⟩:=YGe.1 h
 obtain⟨res,hres,rfl⟩:=YGh.1 h
 exact⟨c,hbody,hcode,hres,rfl⟩
theorem YnO{w:World}{bs:List BK}{B:Bd}:∀{ps:List Nat}{ys fr:List SV}{vs:List Value}{tmps:Array Value},RepL w bs B fr tmps.toList->RepL w bs B ys vs->RepL w bs B (Yk3 fr ps ys) ((ps.zip vs).foldl (fun t (p:Nat×Value)=>t.setIfInBounds p.1 p.2) tmps).toList
 | [],ys,fr,vs,tmps,h,_=>by cases ys <;> simpa [Yk3]using h
 |p::ps,_,fr,_,tmps,h,.nil=>by simpa [Yk3]using h
 |p::ps,_,fr,_,tmps,h,.cons y v ys vs h1 h2=>by
  simp only[Yk3,List.zip_cons_cons,List.foldl_cons]
  refine YnO ?_ h2
  rw[Array.toList_setIfInBounds]
  exact h.set p h1
theorem YnJ(hE:Yq P E){fn0:Func}{R0:Ending->World->Prop}{n:Nat}(ih:∀m,m<=n->∀(K:List It) (s:S),run E Q vr m K s->∀(sv:List Act) (ks:List (Nat×Obj)) (rd:Option Nat) (κ:Kont) (a:Act) (w:World),KRel P w0 (bodyPostM (Wd none) 0 P fn0 R0) K sv ks rd κ->∀ {D:Nat->Option IK} {hD:Ext w0 D},Rl ⟨w0.wI D hD,ks⟩ s a sv w->κ .normal a w)
 {all:Array Oper}{o:Oper}{rest:List Oper}{l:List VOp}{vo:VO}{ops:List Operand}{xs:List SV}{K:List It}{s:S}{sv:List Act}{κ:Kont}{a:Act}{w:World}
 (hv:vop P o=some (vo,ops))(hcc:vo.isCall=true->Ybr o.op=true)(hrest:YaM P all rest=some l){D:Nat->Option IK}{hD:Ext w0 D}(hx:∀bs,RepL w bs (w0.wI D hD).bd s.fr a.tmps.toList->RepL w bs (w0.wI D hD).bd xs (ops.map a.eval))
 (h:YoI E (run E Q vr n) o.dst vo xs (.ops l::K) s)(hk:KRel P w0 (bodyPostM (Wd none) 0 P fn0 R0) K sv ks rd κ)(hR:Rl ⟨w0.wI D hD,ks⟩ s a sv w):o.wpIn (Wd rd) 0 P a w (wpListIn (Wd rd) 0 P all κ rest) κ:=by
 have hK:KRel P w0 (bodyPostM (Wd none) 0 P fn0 R0) (.ops l::K) sv ks rd (Exit.then (wpListIn (Wd rd) 0 P all κ rest) κ):= .ops all rest l K sv ks rd κ hrest hk
 obtain⟨bs,hf,hsv,hH,hb,hoth⟩:=id hR
 have hxx:=hx bs hf
 have hB:w0.heap.size<=w.heap.size:=hb.size
 have hnd:=Y6 hv
 unfold YoI at h
 cases hc:callee E vo xs with
 |none=>
  rw[hc]at h
  simp only[opK]at h
  cases hy:yld vo xs with
  |some ly=>
   obtain⟨l',ys⟩:=ly
   rw[hy]at h
   simp only[yldK]at h
   have hvo:vo= .callv/\xs= .fn (.yield l') [] []::ys:=by
    unfold yld at hy
    split at hy
    ·split at hy
     ·cases hy;exact⟨rfl,rfl⟩
     ·cases hy
    ·cases hy
   obtain⟨rfl,rfl⟩:=hvo
   cases hfr:YeE (.ops l::K)with
   |none=>rw[hfr]at h;exact h.elim
   |some x=>
    obtain⟨l2,ps,va,vb⟩:=x
    rw[hfr]at h
    cases hss:s.saved with
    |nil=>rw[hss]at h;exact h.elim
    |cons fr svs=>
     rw[hss]at h
     obtain⟨⟨rfl,hlen⟩,hrun⟩:=h
     obtain⟨q,sa,sv',ks',rfl,rfl,rfl,rfl,htm,hva,hvb⟩:=YdM hfr hK
     obtain⟨c,hop,hcall⟩:=Yof hv (hcc rfl) rfl
     rcases hcall with⟨_,h1,_⟩ | ⟨x,_,hcal,rfl⟩ | ⟨_,_,h1,_⟩
     ·cases h1
     ·obtain⟨v,vs,hvs,g1,g2⟩:=hxx.cons_inv
      simp only[YGY,List.cons.injEq]at hvs
      obtain⟨hv1,rfl⟩:=hvs
      obtain⟨us,us',rfl,g3,g4⟩:=g1.fn_inv
      cases g3.nil_inv;cases g4.nil_inv
      have hrec:=Ya6 hR
      have hsz:(#[]++c.args.map a.eval++ #[]:Array Value).size=q.ps.length:=by
       have:=g2.length
       simp only[List.length_map,Array.length_toList]at this
       have e2:∀l:List Nat,lenN l=l.length:=fun l=>by induction l with|nil=>rfl|cons _ l ih=>simp [lenN,ih]
       rw[e2]at hlen
       simp;omega
      have hex:(execOp a.eval o).run P w= .ok (.round l' q.fn ((q.ps.toArray.zip (#[]++c.args.map a.eval++ #[])).foldl (fun tmps (t,a)=>tmps.setIfInBounds t a) q.tmps) q.ca q.cb) w:=by
       obtain⟨dst,op,type,pos,after,guard⟩:=o
       simp only at hop
       subst hop
       simp only[execOp,resolve,hcal,hv1,Deferred.ofValue,Sem.run_bind,Sem.run_pure,Result.andThen_ok,invoke]
       exact run_yield hrec (by simpa [Rec.at]using hsz)
      unfold Oper.wpIn
      rw[Oper.semAt_eq _ _ _ hnd,hex]
      refine⟨fun _ _=>trivial,fun h=>(by cases h),?_⟩
      refine roundIn_of_wpIn trivial ?_
      refine ih n (YGr _) _ _ hrun (a::sa::sv') _ _ _ { tmps:=_,defers:=[]} _ (.code q.ca va _ _ _ (some l') _ hva (.rbeg l' q _ _ ks' _ (.code q.cb vb _ _ _ (some l') _ hvb (.rend o.dst l' q a _ _ ks' _ _ (fun v w h=>h) hK)))) (D:=D) (hD:=hD) ?_
      rw[hss]at hsv
      cases hsv with
      |cons _ _ _ _ k1 k2=>
       refine⟨bs,?_,.cons _ _ _ _ hf (by rw[hss];exact .cons _ _ _ _ k1 k2),hH,hb,hoth.push⟩
       have:=YnO (ps:=q.ps) k1 g2
       rw[htm]
       have e:q.ps.toArray.zip (#[]++c.args.map a.eval++ #[])=(q.ps.zip (c.args.toList.map a.eval)).toArray:=by apply Array.ext';simp
       rw[e]
       simpa using this
     ·cases h1
  |none=>
  rw[hy]at h
  simp only[yldK,psdK]at h
  cases hps:psd vo xs with
  |some c=>
   rw[hps]at h
   obtain⟨r,val,w',x,D2,hD2,hrn,hr,⟨m,hm,hrun⟩,k1,k2,k3,k4⟩:=Ywe (ρ:=a.eval) hv hps (Ydz n h) hxx hH
   refine Ya8 hnd (hrn o.dst o.type o.pos o.after o.guard) hr ?_
   obtain⟨hD3,hcr⟩:=YdG (al:=false) (z:=Bd.cx (w0.wI D hD).bd w) (w0:=w0) (J1:=D) (hJ1:=hD) (hJ:=hD2) rfl hf hsv hH hb hoth o.dst k1 k2 k3 (fun _=>⟨k4,trivial⟩) (fun h=>by cases h)
   exact ih m (by omega) _ _ hrun sv _ _ _ _ _ hK (hcr _ fun _ h=>h)
  |none=>
  rw[hps]at h
  simp only[effK]at h
  cases he:eff s.hp (lenH s.hp) vo xs with
  |none=>rw[he]at h;exact h.elim
  |some e=>
   rw[he]at h
   obtain⟨r,v,w',bs',hrun,hr,h1,h2,h3,h4,h5⟩:=Ylm (ρ:=a.eval) hv he h.1 hxx (fun _=>rfl) (fun _=>rfl) hH hB
   refine Ya8 hnd (hrun o.dst o.type o.pos o.after o.guard) hr ?_
   exact ih n (YGr _) _ _ h.2 sv _ _ _ _ _ hK (Yht (op:=o.op) hf hsv hb hoth h1 h2 h3 h4 h5 o.dst)
 |some fy=>
  obtain⟨f,ys⟩:=fy
  rw[hc]at h
  have hcall:vo.isCall=true:=by
   unfold callee at hc
   split at hc <;> first|rfl|cases hc
  simp only[opK,Yqk]at h
  cases hct:E.ct f with
  |some c=>
   rw[hct]at h
   obtain⟨hok,hen⟩:=hE.ct f c hct
   obtain⟨vs,hys,hrun⟩:=Yfq hE.meth hv (hcc hcall) hc hxx (fun _=>rfl) hen
   refine YaU hnd hrun ?_
   obtain⟨z,hzw,hzI,hargs2,hal⟩:=YcF c.alias hH.v hB 3 hys h.1
   subst hzw
   refine(hok _ vs z _ (fun b K hb=>(hH.reg b K (by rw[hzI]at hb;exact hb)).2) hargs2 (Ydz n h.2)).mono ?_
   rintro e w' ⟨r,hs,v,bs2,D2,hD2,⟨m,hm,hrun'⟩,rfl,h1,h2,h3,h4⟩
   obtain⟨hD3,hcr⟩:=YdG (w0:=w0) (J1:=D) (hJ1:=hD) (hJ:=hD2) hzI hf hsv hH hb hoth o.dst h1 h2 h3 h4 hal
   exact ih m (by omega) _ _ hrun' sv _ _ _ _ _ hK (hcr _ fun _ h=>h)
  |none=>
   rw[hct]at h
   simp only[inlK]at h
   cases hfn:E.fn f with
   |none=>rw[hfn]at h;exact h.elim
   |some vf=>
    rw[hfn]at h
    obtain⟨fn,hfs,hvf,hen⟩:=hE.fn f vf hfn
    obtain⟨vs,hys,hrun⟩:=Yfq hE.meth hv (hcc hcall) hc hxx (fun _=>rfl) hen
    refine YaU hnd hrun ?_
    obtain⟨c,hbody,hcode,hres,hnt⟩:=YdC hvf
    refine YcG (n:=0) (YeY (b:=vf.body) hfs hbody ?_)
    refine ih n (YGr _) _ _ h (a::sv) _ _ _ _ _ (.code c vf.body _ _ _ _ _ hcode (.frame o.dst vf.res fn a _ _ _ _ _ _ hres (fun v w h=>h) hK)) (D:=D) (hD:=hD) ?_
    refine⟨bs,?_,.cons _ _ _ _ hf hsv,hH,hb,hoth.push⟩
    have:=YfB (n:=fn.ntmps) hys
    rw[hnt]
    simpa using this
theorem Ymo{all:Array Oper}{rest:List Oper}{v:VOp}{l:List VOp}(h:YaM P all rest=some (v::l)):∃o r,rest=o::r/\Ygc P all o=some v/\YaM P all r=some l:=by
 cases rest with
 |nil=>cases h
 |cons o r=>
  simp only[YaM]at h
  obtain⟨x,hx,h⟩:=YGe.1 h
  obtain⟨y,hy,h⟩:=YGh.1 h
  cases h
  exact⟨o,r,rfl,hx,hy⟩
theorem YoS{all:Array Oper}{rest:List Oper}(h:YaM P all rest=some []):rest=[]:=by
 cases rest with
 |nil=>rfl
 |cons o r=>
  simp only[YaM]at h
  obtain⟨x,hx,h⟩:=YGe.1 h
  obtain⟨y,hy,h⟩:=YGh.1 h
  cases h
theorem Ys2{all:Array Oper}{o:Oper}{v:VOp}(h:Ygc P all o=some v):∃ops,vop P o=some (v.op,ops)/\X.ofs ops=some v.xs/\(v.op.isCall=true->Ybr o.op=true)/\v.dst=o.dst/\
 ((o.guard=none/\v.g=none)\/∃j b g,o.guard=some (j,b)/\Ylf all j=some g/\v.g=some (g,b)):=by
 unfold Ygc at h
 obtain⟨⟨vo,ops⟩,h1,h⟩:=YGe.1 h
 obtain⟨xs,h2,h⟩:=YGe.1 h
 split at h
 ·cases h
 ·rename_i hne
  have hne:vo.isCall=true->Ybr o.op=true:=by simpa using hne
  split at h
  ·cases h;exact⟨ops,h1,h2,hne,rfl,.inl ⟨‹_›,rfl⟩⟩
  ·obtain⟨g,hg,rfl⟩:=YGh.1 h
   exact⟨ops,h1,h2,hne,rfl,.inr ⟨_,_,g,‹_›,hg,rfl⟩⟩
theorem Yh3{κ0:Kont}{K:List It}{sv:List Act}{ks:List (Nat×Obj)}{r:Option Nat}{κ:Kont}(h:KRel P w0 κ0 K sv ks r κ):Yf2 K=K:=by
 cases h <;> rfl
theorem YrF(hE:Yq P E){n:Nat}{K:List It}{v:VOp}{A:S->Prop}{s:S}(h:inG E Q vr n K v A s):Yg0 (Ybp P) v=true:=by
 obtain⟨f,d,xs,ys,vf,B,rfl,hlo,_⟩:=h
 exact hE.lo f hlo
theorem YrG(hE:Yq P E){fn0:Func}{R0:Ending->World->Prop}{n:Nat}(ih:∀m,m<=n->∀(K:List It) (s:S),run E Q vr m K s->∀(sv:List Act) (ks:List (Nat×Obj)) (rd:Option Nat) (κ:Kont) (a:Act) (w:World),KRel P w0 (bodyPostM (Wd none) 0 P fn0 R0) K sv ks rd κ->∀ {D:Nat->Option IK} {hD:Ext w0 D},Rl ⟨w0.wI D hD,ks⟩ s a sv w->κ .normal a w)
 {all:Array Oper}{K:List It}{sv:List Act}{ks:List (Nat×Obj)}{rd:Option Nat}{κ:Kont}(hk:KRel P w0 (bodyPostM (Wd none) 0 P fn0 R0) K sv ks rd κ):YhG P (inG E Q vr n K) rd all κ w0 ks sv:=by
 refine⟨Yjb,?_⟩
 intro i o v A s hi hv hg J hJ a w hR
 obtain⟨f,d,xs,ys,vf,B,rfl,hlo,hc,hct,hfn,⟨m,hm,hrun'⟩,hB⟩:=hg
 obtain⟨ops,h1,h2,h3,h4,h5⟩:=YfJ hv
 obtain⟨bs,hf,hsv,hH,hb,hoth⟩:=id hR
 have hx:RepL w bs (w0.wI J hJ).bd (s.args xs) (ops.map a.eval):=Yt4 hf h2
 obtain⟨fn,hfs,hvf,hen⟩:=hE.fn f vf hfn
 obtain⟨vs,hys,hrun⟩:=Yfq hE.meth h1 (h3 rfl) hc hx (fun _=>rfl) hen
 rcases h5 with⟨hg0,_⟩ | ⟨_,_,_,_,_,hvg⟩
 ·refine YbV hi (by simp [Region.wanted,hg0]) (YaU (Y6 h1) hrun ?_)
  obtain⟨c,hbody,hcode,hres,hnt⟩:=YdC hvf
  refine YcG (n:=0) (YeY (b:=vf.body) hfs hbody ?_)
  have h4:d=o.dst:=h4
  subst h4
  refine ih m hm _ _ hrun' (a::sv) _ _ _ _ _ (.code c vf.body _ _ _ _ _ hcode (.frame o.dst vf.res fn a _ _ _ _ _ _ hres (fun v w h=>h) (.inLoop B (fun a' w'=> ∃s',A s'/\∃J',∃hJ':Ext w0 J',Rl ⟨w0.wI J' hJ',ks⟩ s' a' sv w') K sv ks rd κ (fun s' a' w' D hD hBs hR'=>⟨s',hB s' hBs,D,hD,hR'⟩) hk))) (D:=J) (hD:=hJ) ?_
  refine⟨bs,?_,.cons _ _ _ _ hf hsv,hH,hb,hoth.push⟩
  have:=YfB (n:=fn.ntmps) hys
  rw[hnt]
  simpa using this
 ·cases hvg
theorem Yk8(hE:Yq P E){fn0:Func}{R0:Ending->World->Prop}(hres:YhF P fn0.results.toList=some vr)
 (hR0:∀r hp v w' bs D (hD:Ext w0 D),Q r hp->Rep w' bs (w0.wI D hD).bd r v->Hp w' bs (w0.wI D hD).bd hp->BelowI w0.bd w0.toWorld w'->R0 (.returned v) w'):
 ∀(n:Nat)(K:List It)(s:S),run E Q vr n K s->∀(sv:List Act)(ks:List (Nat×Obj))(rd:Option Nat)(κ:Kont)(a:Act)(w:World),KRel P w0 (bodyPostM (Wd none) 0 P fn0 R0) K sv ks rd κ->∀{D:Nat->Option IK}{hD:Ext w0 D},Rl ⟨w0.wI D hD,ks⟩ s a sv w->κ .normal a w:=by
 have main:∀(N n:Nat),n<=N->∀(K:List It)(s:S),run E Q vr n K s->∀(sv:List Act)(ks:List (Nat×Obj))(rd:Option Nat)(κ:Kont)(a:Act)(w:World),KRel P w0 (bodyPostM (Wd none) 0 P fn0 R0) K sv ks rd κ->∀{D:Nat->Option IK}{hD:Ext w0 D},Rl ⟨w0.wI D hD,ks⟩ s a sv w->κ .normal a w:=by
  intro N
  induction N with
  |zero=>
   intro n hn K s h
   have:n=0:=by omega
   subst this;exact h.elim
  |succ N ihN=>
   intro n hn K s h sv ks rd κ a w hk D hD hR
   cases n with
   |zero=>exact h.elim
   |succ n=>
   have ih:∀m,m<=n->∀(K:List It)(s:S),run E Q vr m K s->∀(sv:List Act)(ks:List (Nat×Obj))(rd:Option Nat)(κ:Kont)(a:Act)(w:World),KRel P w0 (bodyPostM (Wd none) 0 P fn0 R0) K sv ks rd κ->∀{D:Nat->Option IK}{hD:Ext w0 D},Rl ⟨w0.wI D hD,ks⟩ s a sv w->κ .normal a w:=fun m hm=>ihN m (by omega)
   have ihn:=ih n (YGr _)
   have hjump:∀{K':List It}{d:Option Nat}{f:Act->World->Prop},YoG (run E Q vr n) d false K' s.hp s.saved->YwA P w0 (bodyPostM (Wd none) 0 P fn0 R0) K' d sv ks rd f->f a w:=by
    rintro K' d f hr ⟨c,q,l,ita,sv',ks',κ',rfl,rfl,rfl,hk',hf⟩
    cases hs:s.saved with
    |nil=>rw[hs]at hr;exact hr.elim
    |cons fr svs=>
     rw[hs]at hr
     have hat:=Ya6 hR
     have hend:=run_endRound (P:=P) (some c) hat
     have h2:=Yig hs (Ydx (lp':=q.at .done (some c)) hR)
     exact hf a w _ _ hend (ihn _ _ hr sv' _ _ _ _ _ hk' (Ydv h2 d fun _ _ _=> .x _ _ (.bool _)))
   cases K with
   |nil=>
    cases hk
    rw[YD7]at h
    cases hv:YaB s vr with
    |none=>rw[hv]at h;exact h.elim
    |some x=>
     obtain⟨p,vs⟩:=x
     rw[hv]at h
     obtain⟨ms,hms⟩:=Yjw hR
     refine Ye0 ms hms hR fun w' hR'=>?_
     obtain⟨bs,hf,hsv,hH,hb,hoth⟩:=hR'
     obtain⟨v,h1,h2⟩:=YfD (P:=P) hf hH hres hv h.1
     exact⟨v,h1,hR0 _ _ _ _ _ D hD h.2 h2 hH ⟨hb.os,hb.tape,hb.output,hb.size,fun k hk hI=>hb.block k hk ((hD.old k hk).trans hI)⟩⟩
   |cons x K=>
   cases x with
   |inBlock i=>
    cases hk with|inBlock _ _ _ _ _ κ hk=>exact ihn _ _ h sv _ _ κ a w hk hR
   |inScope=>
    cases hk with|inScope _ _ _ _ κ hk=>exact ihn _ _ h sv _ _ κ a w hk hR
   |inLoop I=>
    cases hk with|inLoop _ J _ _ _ _ κ hJ hk=>exact hJ s a w D hD h hR
   |frame d res=>
    cases hk with
    |frame _ _ fn sa _ sv _ rd κ R hr hRR hk=>
     rw[Ysl]at h
     cases hv:YaB s res with
     |none=>rw[hv]at h;exact h.elim
     |some x=>
      obtain⟨p,vs⟩:=x
      rw[hv]at h
      cases hs:s.saved with
      |nil=>rw[hs]at h;exact h.elim
      |cons fr sv'=>
       rw[hs]at h
       obtain⟨ms,hms⟩:=Yjw hR
       refine Ye0 ms hms hR fun w' hR'=>?_
       obtain⟨bs,hf,hsv,hH,hb,hoth⟩:=id hR'
       obtain⟨v,h1,h2⟩:=YfD (P:=P) hf hH hr hv h.1
       refine⟨v,h1,hRR v w' (ihn _ _ h.2 sv _ _ κ _ w' hk (D:=D) (hD:=hD) ?_)⟩
       obtain⟨bs2,k1,k2,k3,k4,k5⟩:=Yig hs hR'
       rw[hs]at hsv
       cases hsv with
       |cons _ _ _ _ g1 g2=>
        have hp:=Yig hs hR'
        refine⟨bs,Yhe (s:={ fr:=fr,saved:=sv',hp:=s.hp}) (a:=sa) g1 h2,?_,?_,hb,?_⟩
        ·rw[Yfb];exact g2
        ·rw[Ydu];exact hH
        ·rw[YGY,YbH]
         exact hoth.pop
   |rfrm res l ps va vb j=>
    cases hk with
    |rfrm _ _ q lp _ _ _ fn sa _ sv ks rd κ hr _ hps htm hva hvb hj hk=>
     rw[Ywj]at h
     cases hv:YaB s res with
     |none=>rw[hv]at h;exact h.elim
     |some x=>
      obtain⟨p,vs⟩:=x
      rw[hv]at h
      cases hs:s.saved with
      |nil=>rw[hs]at h;exact h.elim
      |cons fr sv'=>
       rw[hs]at h
       obtain⟨hp,h⟩:=h
       obtain⟨ms,hms⟩:=Yjw hR
       refine Ye0 ms hms hR fun w' hR'=>?_
       obtain⟨bs,hf,hsv,hH,hb,hoth⟩:=id hR'
       obtain⟨v,h1,h2⟩:=YfD (P:=P) hf hH hr hv hp
       have hat:=Ya6 hR'
       cases hj with
       |none=>
        refine⟨v,h1,none,_,run_endLoop hat (by simp [Rec.at]),?_⟩
        exact ihn _ _ h sv _ _ κ sa _ hk (Yk7 (Ydx (Yig hs hR')))
       |some c vc hc=>
        refine⟨v,h1,some c,_,run_endLoop hat (by simp [Rec.at]),?_⟩
        exact ihn _ _ h sv _ _ _ sa _ (.code c vc K sv ks rd κ hc hk) (Yk7 (Ydx (Yig hs hR')))
   |rbeg=>
    cases hk with
    |rbeg l q _ _ ks κ hk=>
     exact⟨_,run_beginRound (Ya6 hR) rfl,ihn _ _ h sv _ _ κ a _ hk (Ydx hR)⟩
   |rend d=>
    cases hk with
    |rend _ l q ita _ sv ks κ R hRR hk=>
     rw[Ywi]at h
     cases hs:s.saved with
     |nil=>rw[hs]at h;exact h.elim
     |cons fr sv'=>
      rw[hs]at h
      refine⟨_,_,run_endRound none (Ya6 hR),hRR _ _ (ihn _ _ h sv _ _ κ _ _ hk (D:=D) (hD:=hD) ?_)⟩
      exact Ydv (Yig hs (Ydx (lp':=q.at .ready none) hR)) d fun _ _ _=> .x _ _ (.bool _)
   |dops l=>cases hk
   |dtr t=>cases hk
   |res g al d c=>cases hk
   |ops l=>
    cases hk with
    |ops all rest _ _ _ _ _ κ hl hk=>
    show wpListIn (Wd rd) 0 P all κ rest a w
    cases l with
    |nil=>rw[YoS hl];exact ihn _ _ h sv _ _ κ a w hk hR
    |cons v l=>
     obtain⟨o,r,rfl,hvo,hlr⟩:=Ymo hl
     obtain⟨ops,h1,h2,h3,h4,h5⟩:=Ys2 hvo
     obtain⟨dst,g,op,xs⟩:=v
     simp only at h1 h2 h3 h4 h5
     subst h4
     have hnd:=Y6 h1
     have hx:∀bs,RepL w bs (w0.wI D hD).bd s.fr a.tmps.toList->RepL w bs (w0.wI D hD).bd (s.args xs) (ops.map a.eval):=fun bs hf=>Yt4 hf h2
     rcases h5 with⟨hg,rfl⟩ | ⟨j,pol,gs,hg,hsl,rfl⟩
     ·rw[r_op]at h
      exact Yfl (by simp [Region.wanted,hg]) (YnJ hE ih h1 h3 hlr hx h hk hR)
     ·rw[YEb]at h
      have hKr:KRel P w0 (bodyPostM (Wd none) 0 P fn0 R0) (.ops l::K) sv ks rd (Exit.then (wpListIn (Wd rd) 0 P all κ r) κ):= .ops all r l K sv ks rd κ hlr hk
      cases hgd:Yab (getL s.fr gs) pol with
      |none=>rw[hgd]at h;exact h.elim
      |some gb=>
       rw[hgd,r_g]at h
       obtain⟨bs,hf,hsv,hH,hb,hoth⟩:=id hR
       have hw:=Yja (w:=w) hf hg hsl hgd
       have hB:w0.heap.size<=w.heap.size:=hb.size
       cases hq:op.quiet with
       |true=>
        rw[hq]at h
        simp only[gK]at h
        cases he:eff s.hp (lenH s.hp) op (YU op gb (s.args xs)).2 with
        |none=>
         rw[he]at h
         obtain⟨rfl,v,hrun⟩:=h
         exact Yd4 hw (ihn _ _ hrun sv _ _ _ _ _ hKr (Ydv hR o.dst fun _ _ _=> .optF _))
        |some e=>
         rw[he]at h
         obtain⟨q,val,u⟩:=e
         cases u <;> try exact h.elim
         obtain⟨hp1,hp2,hrun⟩:=h
         cases gb with
         |true=>
          obtain⟨r',v,w',bs',hrn,hr,k1,k2,k3,k4,k5⟩:=Ylm (ρ:=a.eval) h1 he (hp2 rfl) (Ycz rfl (hx bs hf) hp1) (fun _=>rfl) (fun _=>rfl) hH hB
          refine Yfl hw (Ya8 hnd (hrn o.dst o.type o.pos o.after o.guard) hr ?_)
          refine ihn _ _ hrun sv _ _ _ _ _ hKr (D:=D) (hD:=hD) ?_
          exact Yht (e:=⟨q,.opt true val,.no⟩) (op:=o.op) hf hsv hb hoth (.optT _ _ k1) k2 k3 k4 k5 o.dst
         |false=>
          exact Yd4 hw (ihn _ _ hrun sv _ _ _ _ _ hKr (Ydv hR o.dst fun _ _ _=> .optF _))
       |false=>
        rw[hq]at h
        simp only[gK,Yqj]at h
        cases hct:ctOf E op (YU op gb (s.args xs)).2 with
        |none=>
         rw[hct]at h
         obtain⟨hp1,ht,hfl⟩:=h
         cases gb with
         |true=>exact Yfl hw (YnJ hE ih h1 h3 hlr (fun bs hf=>Ycz rfl (hx bs hf) hp1) (ht rfl) hk hR)
         |false=>exact Yd4 hw (ihn _ _ (hfl rfl) sv _ _ _ _ _ hKr (Ydv hR o.dst fun _ _ _=> .x _ _ (.junk _)))
        |some c=>
         rw[hct]at h
         obtain⟨c,ys⟩:=c
         obtain⟨hp1,hno,hrun⟩:=h
         obtain⟨m,rr,hm,hrun',hcs⟩:=Ygr n hrun
         cases gb with
         |false=>exact Yd4 hw (ih m (by omega) _ _ hrun' sv _ _ _ _ _ hKr (Ydv hR o.dst fun _ _ _=> .optF _))
         |true=>
          obtain⟨f,hcl,hct',hic⟩:=Ym8 hct
          obtain⟨hok,hen⟩:=hE.ct f c hct'
          obtain⟨vs,hys,hrn⟩:=Yfq hE.meth h1 (h3 hic) hcl (Ycz rfl (hx bs hf) hp1) (fun _=>rfl) hen
          refine Yfl hw (YaU hnd hrn ?_)
          obtain⟨z,hzw,hzI,hargs2,hal⟩:=YcF c.alias hH.v hB 3 hys hno
          subst hzw
          refine(hok _ vs z _ (fun b K hb=>(hH.reg b K (by rw[hzI]at hb;exact hb)).2) hargs2 (hcs rfl)).mono ?_
          rintro e w' ⟨r',hs,v,bs2,D2,hD2,⟨rfl,rfl⟩,rfl,k1,k2,k3,k4⟩
          obtain⟨hD3,hcr⟩:=YdG (w0:=w0) (J1:=D) (hJ1:=hD) (hJ:=hD2) (d:=o.dst) hzI hf hsv hH hb hoth k1 k2 k3 k4 hal
          have hcr:=hcr (.opt true (shift (lenH s.hp) r')) fun _ h=> .optT _ _ h
          refine ih m (by omega) _ _ hrun' sv _ _ _ _ _ hKr (D:=D2) (hD:=hD3) ?_
          have e0:({ fr:=s.fr,saved:=s.saved,hp:=s.hp++YW (lenH s.hp) []}:S)=s:=by simp [YW]
          rw[e0]at hcr
          exact hcr
   |code c=>
    cases hk with
    |code cc _ _ _ _ _ κ hcode hk=>
    show cc.wpIn (Wd rd) 0 P κ a w
    cases cc <;> simp only[YcB,reduceCtorEq]at hcode <;> try (cases hcode;exact h.elim)
    case skip=>cases hcode;exact wpIn_skip (ihn _ _ h sv _ _ κ a w hk hR)
    case region id ops draw=>
     cases draw with
     |true=>
      simp only[if_true]at hcode
      unfold YCs at hcode
      cases hd:Ynb P ops with
      |none=>
       rw[hd]at hcode
       simp only at hcode
       cases hdt:YiS P ops with
       |none=>rw[hdt]at hcode;cases hcode;exact h.elim
       |some r=>
        obtain⟨al,t⟩:=r
        rw[hdt]at hcode
        cases hcode
        exact YlL hE hE.mix hdt (YiT (N:=n) (K0:=K) t n (YGr _) (Yh3 hk) h) (YrG hE ih hk) (fun v A s hg=>YrF hE hg) hR fun s' a' w' D' hD' ⟨m,hm,hrun⟩ hR'=>ih m (by omega) _ _ hrun sv _ _ κ a' w' hk hR'
      |some r=>
      obtain⟨al,dl⟩:=r
      rw[hd]at hcode
      cases hcode
      exact Yoo hE hE.mix hd (YiR (N:=n) (K0:=K) dl n (YGr _) (Yh3 hk) h) (YrG hE ih hk) (fun v A s hg=>YrF hE hg) hR fun s' a' w' D' hD' ⟨m,hm,hrun⟩ hR'=>ih m (by omega) _ _ hrun sv _ _ κ a' w' hk hR'
     |false=>
      simp only[YGC,if_false]at hcode
      cases hl:YaM P ops ops.toList with
      |none=>rw[hl]at hcode;cases hcode;exact h.elim
      |some l=>
      rw[hl]at hcode
      cases hcode
      exact wpIn_region_list (ihn _ _ h sv _ _ _ a w (.ops ops ops.toList l K sv ks rd κ hl hk) hR)
    case seq x y=>
     obtain⟨vx,hx,hcode⟩:=YGe.1 hcode
     obtain⟨vy,hy,rfl⟩:=YGh.1 hcode
     exact wpIn_seq (ihn _ _ h sv _ _ _ a w (.code x vx _ sv ks rd _ hx (.code y vy K sv ks rd κ hy hk)) hR)
    case cond cnd x y=>
     obtain⟨z,hz,hcode⟩:=YGe.1 hcode
     obtain⟨vx,hx,hcode⟩:=YGe.1 hcode
     obtain⟨vy,hy,rfl⟩:=YGh.1 hcode
     rw[Ywg]at h
     obtain⟨bs,hf,hsv,hH,hb,hoth⟩:=id hR
     have hrep:=X_of (w:=w) hf hz
     generalize s.x z=v at h hrep
     cases v <;> try exact h.elim
     rename_i b
     have hb1:=hrep.bool_inv
     obtain⟨ht,hfl⟩:=h
     refine wpIn_cond_split hb1 (fun hb=>ihn _ _ (ht hb) sv _ _ _ a w (.code x vx K sv ks rd κ hx hk) hR) (fun hb=>ihn _ _ (hfl hb) sv _ _ _ a w (.code y vy K sv ks rd κ hy hk) hR)
    case block id c=>
     obtain⟨vc,hc,rfl⟩:=YGh.1 hcode
     exact wpIn_block (ihn _ _ h sv _ _ _ a w (.code c vc _ sv ks rd _ hc (.inBlock id K sv ks rd κ hk)) hR)
    case scope c=>
     obtain⟨vc,hc,rfl⟩:=YGh.1 hcode
     exact YoT (ihn _ _ h sv _ _ _ a w (.code c vc _ sv ks rd _ hc (.inScope K sv ks rd κ hk)) hR)
    case label l=>cases hcode;exact wpIn_label (ihn _ _ h sv _ _ κ a w hk hR)
    case loop c=>
     obtain⟨vc,hc,rfl⟩:=YGh.1 hcode
     obtain⟨σ,head,inv,μ,lf,hlf,⟨x0,hx0,hle0⟩,hround⟩:=h
     obtain⟨D0,hD0,hR0'⟩:=Yv0 (hlf _ _ hle0) hR
     refine wpIn_loop_ghost (fun k a w=> ∃x D,∃hD:Ext w0 D,μ x=k/\inv x/\Rl ⟨w0.wI D hD,ks⟩ (head x) a sv w) (μ x0) ⟨x0,D0,hD0,rfl,hx0,hR0'⟩ ?_
     rintro k a w ⟨x,D,hD,rfl,hx,hRx⟩
     exact ihn _ _ (hround x hx) sv _ _ _ a w (.code c vc _ sv ks rd _ hc (.inLoop _ _ K sv ks rd κ (by
      rintro s' a' w' D' hD' ⟨y,hy,hlt,hle⟩ hR'
      obtain⟨D1,hD1,hR1⟩:=Yv0 (hlf _ _ hle) hR'
      exact⟨μ y,hlt,y,D1,hD1,rfl,hy,hR1⟩) hk)) hRx
    case exit id=>
     cases hcode
     rw[Ywh]at h
     cases hp:YbG id K with
     |no=>rw[hp]at h;exact h.elim
     |go K'=>
      rw[hp]at h
      obtain⟨κ',h1,h2⟩:=YdS hp hk
      exact wpIn_exit (h2 _ _ (ihn _ _ h sv _ _ κ' a w h1 hR))
     |jump d K'=>
      rw[hp]at h
      exact wpIn_exit (hjump h (Yby hp hk))
    case ret=>
     cases hcode
     rw[YEg]at h
     cases hp:Yad K with
     |no=>rw[hp]at h;exact h.elim
     |go K'=>
      rw[hp]at h
      obtain⟨κ',h1,h2⟩:=Ycr hp hk
      exact wpIn_ret (h2 _ _ (ihn _ _ h sv _ _ κ' a w h1 hR))
     |jump d K'=>
      rw[hp]at h
      exact wpIn_ret (hjump h (YaS hp hk))
    case rangeFunc g ps ca cb=>
     obtain⟨z,hz,hcode⟩:=YGe.1 hcode
     obtain⟨va,hva,hcode⟩:=YGe.1 hcode
     obtain⟨vb,hvb,rfl⟩:=YGh.1 hcode
     rw[Yso]at h
     obtain⟨bs,hf,hsv,hH,hb,hoth⟩:=id hR
     have hrep:=X_of (w:=w) hf hz
     generalize s.x z=v at h hrep
     unfold YnS at h
     split at h
     ·rename_i gf us cs
      unfold YnR at h
      cases hfn:E.fn gf with
      |none=>rw[hfn]at h;exact h.elim
      |some vf=>
       rw[hfn]at h
       obtain⟨hnr,h⟩:=h
       have hrd:=YaR hnr hk
       subst hrd
       obtain⟨fn,hfs,hvf,hen⟩:=hE.fn gf vf hfn
       obtain⟨c,hbody,hcode,hres',hnt⟩:=YdC hvf
       obtain⟨uv,cv,hgv,g1,g2⟩:=hrep.fn_inv
       refine wpIn_rangeFunc fun fr _=>?_
       have hB:w0.heap.size<=w.heap.size:=hb.size
       obtain⟨q,hq⟩:∃q:Rec,q= { fn:=fr,ps:=ps.toList,ca:=ca,cb:=cb,D:=w.heap.size,tmps:=a.tmps}:=⟨_,rfl⟩
       obtain⟨W1,hW1⟩:∃W1,W1=(w.alloc (.deferred (some []))).alloc (.loop (q.at .ready none)):=⟨_,rfl⟩
       have hent:(Instr.enterLoop fr a.tmps ps ca cb (Wd none).round).run P w= .ok (w.heap.size+1,[mark w.heap.size]) W1:=by
        rw[hW1,hq]
        exact run_enterLoop_outer _ _ _ _ _
       refine⟨w.heap.size+1,[mark w.heap.size],W1,{ target:= .fn (.func gf) cv.toArray,args:=uv.toArray++ #[.func (.yield (w.heap.size+1)) #[] #[]]},W1,gf,(uv++(.func (.yield (w.heap.size+1)) #[] #[]::cv)).toArray,W1,
        hent,?_,fun _ _=>trivial,?_,fun h=>(by cases h),?_⟩
       ·simp only[resolve,hgv,Deferred.ofValue,Sem.run_bind,Sem.run_pure,Result.andThen_ok]
        simp [Act.eval]
       ·simp only[invoke,YbU hen]
        simp
       ·refine YeY (b:=vf.body) hfs hbody ?_
        refine ihn _ _ (h (w.heap.size+1)) ({ a with defers:=[mark w.heap.size]++a.defers}::sv) _ _ _ { tmps:=_,defers:=[]} _ (.code c vf.body _ _ _ _ _ hcode (.rfrm vf.res _ q (q.at .ready none) va vb none fn _ _ _ _ _ _ hres' ps.toList (by rw[hq]) (by rw[hq]) (by rw[hq];exact hva) (by rw[hq];exact hvb) .none hk)) (D:=D) (hD:=hD) ?_
        rw[hW1]
        refine Yvc hf hsv hH hb hoth ?_
        have hy:Rep w bs (w0.wI D hD).bd (.fn (.yield (w.heap.size+1)) [] []) (.func (.yield (w.heap.size+1)) #[] #[]):= .x _ _ (.fn _ [] [] [] [] .nil .nil)
        have:=YfB (n:=fn.ntmps) (g1.append (.cons _ _ _ _ hy g2))
        rw[hnt]
        simpa using this
     ·exact h.elim
 exact fun n=>main n n (YGr _)
end
end Go.Vx
namespace Go.Vx
open Go.RowKit
section
variable {P:Program} {E:Env}
def YD(al:Bool)(k:SV->List HO->Prop)(r:SV)(hp:List HO):Prop:=
 ∃r',k r' []/\le 0 0 (expo hp r) r'/\(al=false->Yl r')
theorem YlG:Cut [] [] 0 0:=⟨rfl,rfl,fun _ _ h=>absurd h (YG7 _),fun _ _ h=>absurd h (YG7 _)⟩
theorem XRepL.up{w:World}{bs:List BK}{B:Bd}{l:List SV}{vs:List Value}(h:XRepL w bs B l vs):RepL w bs B l vs:=h.rep
theorem Yb{f:FuncId}{fn:Func}{vf:VF}(hf:P.funcs[f]? =some fn)(hvf:Yg P fn=some vf)(hE:Yq P E)(n:Nat)(c:Ctr)
 (h:∀(args:List SV) (k:SV->List HO->Prop),CSat (c.of args) k->∃args',leL 0 0 args args'/\run E (YD c.alias k) vf.res n [.code vf.body] { fr:=padL vf.ntmps args',saved:=[],hp:=[]}):c.ok P f:=by
 intro args vs z k hsat hx hc
 obtain⟨args',hle,hrun⟩:=h args k hc
 have hk0:YbP z.toWorld [] z.bd z.toWorld [] (z.wI z.I (Yaa z)).bd:=⟨rfl,fun _ _ h=>h,fun b hf cs T fz ho=>⟨ho,Ybn,hf.2,z.ex b hf.2⟩⟩
 have hx2:RepL z.toWorld [] (z.wI z.I (Yaa z)).bd args' vs:=YeZ YlG _ _ hle (XRepL.keepG hk0 hx).rep
 obtain⟨body,hbody,hcode,hres,hnt⟩:=YdC hvf
 refine YcG (n:=0) (YeY (b:=vf.body) hf hbody ?_)
 refine Yk8 (w0:=z) (fn0:=fn) (R0:=fun e w'=> ∃r hs v bs,∃J,∃hJ:Ext z J,k r hs/\e= .returned v/\Rep w' bs (z.wI J hJ).bd r v/\Hp w' bs (z.wI J hJ).bd hs/\BelowI z.bd z.toWorld w'/\(c.alias=false->Yl r/\Ybk hs)) hE hres (by
  rintro r hp v w' bs D hD ⟨r',hk,hle,hfr⟩ hr hH hb
  refine⟨r',[],v,[],D,hD,hk,rfl,YC2 YlG _ _ hle (.x _ _ (Yya hH hr)),hp0 fun b K hb=>(hH.reg b K hb).2,hb,fun ha=>⟨hfr ha,trivial⟩⟩) n _ _ hrun [] [] none _
  {tmps:=vs.toArray++Array.replicate (fn.ntmps-vs.toArray.size) undef,defers:=[]} z.toWorld (.code body vf.body [] [] [] none _ hcode .nil) (D:=z.I) (hD:=Yaa z) ?_
 refine⟨[],?_,.nil,hp0 (hJ:=Yaa z) hsat,BelowI.refl _ _,⟨fun _ h=>(by cases h),.nil,[[]],rfl,by simp,fun _ h=>(by simp at h)⟩⟩
 have:=YfB (n:=fn.ntmps) hx2
 rw[hnt]
 simpa using this
def YvB:List VOp->List Nat
 | []=>[]
 | ⟨some d,_,_,_⟩::l=>d::YvB l
 | ⟨none,_,_,_⟩::l=>YvB l
def wrAl:List (Nat×AL)->List Nat
 | []=>[]
 | (d,_)::l=>d::wrAl l
def Ylo:List DOp->List Nat
 | []=>[]
 | ⟨⟨some d,_,_,_⟩,_⟩::l=>d::Ylo l
 | ⟨⟨none,_,_,_⟩,_⟩::l=>Ylo l
def Ys5:DTr->List Nat
 | .leaf=>[]
 | .ops l t=>Ylo l++Ys5 t
 | .br a b=>Ys5 a++Ys5 b
def wrC:VC->List Nat
 | .region l=>YvB l
 | .draw al l=>wrAl al++Ylo l
 | .drawT al t=>wrAl al++Ys5 t
 | .seq a b=>wrC a++wrC b
 | .cond _ a b=>wrC a++wrC b
 | .block _ c=>wrC c
 | .loop c=>wrC c
 |_=>[]
def junkAt:List SV->List Nat->List SV
 |fr,[]=>fr
 |fr,n::l=>junkAt (setL fr n .junk) l
def Yk2:List SV->List (Nat×SV)->List SV
 |fr,[]=>fr
 |fr,(n,v)::l=>Yk2 (setL fr n v) l
def Ysg:List HO->List (Nat×HO)->List HO
 |hp,[]=>hp
 |hp,(n,v)::l=>Ysg (setH hp n v) l
def Ykw(s:S)(body:VC)(ghosts:List HO)(YY:List (Nat×SV))(blocks:List (Nat×HO)):S:=
 {fr:=Yk2 (junkAt s.fr (wrC body)) YY,saved:=s.saved,hp:=Ysg (s.hp++ghosts) blocks}
theorem Loop.at{r:List It->S->Prop}{body:VC}{K:List It}{s:S}(σ:Type)(YY:σ->List (Nat×SV))(blocks:σ->List (Nat×HO))(ghosts:List HO)(inv:σ->Prop)(μ:σ->Nat)
 (h0:∃x,inv x/\leS s (Ykw s body ghosts (YY x) (blocks x)))
 (h:∀x,inv x->r (.code body:: .inLoop (fun s'=> ∃y,inv y/\μ y<μ x/\leS s' (Ykw s body ghosts (YY y) (blocks y)))::K) (Ykw s body ghosts (YY x) (blocks x))):Loop r body K s leP:=
 ⟨σ,fun x=>Ykw s body ghosts (YY x) (blocks x),inv,μ,leS,fun _ _ h=>⟨[],trivial,[],trivial,h⟩,h0,h⟩
def keepG:List Nat->List SV->List SV
 | [],l=>Yow l
 |_,[]=>[]
 |0::ks,x::l=>x::keepG ks l
 | (k+1)::ks,_::l=> .junk::keepG (k::ks) l
def Yfw(s:S)(keep:List Nat)(ghosts:List HO)(YY:List (Nat×SV))(blocks:List (Nat×HO)):S:=
 {fr:=Yk2 (keepG keep s.fr) YY,saved:=s.saved,hp:=Ysg (s.hp++ghosts) blocks}
theorem Loop.keep{r:List It->S->Prop}{body:VC}{K:List It}{s:S}(keep:List Nat)(σ:Type)(YY:σ->List (Nat×SV))(blocks:σ->List (Nat×HO))(ghosts:List HO)(inv:σ->Prop)(μ:σ->Nat)
 (h0:∃x,inv x/\leS s (Yfw s keep ghosts (YY x) (blocks x)))
 (h:∀x,inv x->r (.code body:: .inLoop (fun s'=> ∃y,inv y/\μ y<μ x/\leS s' (Yfw s keep ghosts (YY y) (blocks y)))::K) (Yfw s keep ghosts (YY x) (blocks x))):Loop r body K s leP:=
 ⟨σ,fun x=>Yfw s keep ghosts (YY x) (blocks x),inv,μ,leS,fun _ _ h=>⟨[],trivial,[],trivial,h⟩,h0,h⟩
end
end Go.Vx
namespace Go.Vx
variable {al:Bool} {k:SV->List HO->Prop} {hp:List HO} {m n:Nat}
theorem Yf{κ:IntKind}{x:Int}(h:k (.int κ x) []):YD al k (.int κ x) hp:=⟨_,h,by simp [expo,view,le],fun _=>by simp [Yl]⟩
theorem YK{b:Bool}(h:k (.bool b) []):YD al k (.bool b) hp:=⟨_,h,by simp [expo,view,le],fun _=>by simp [Yl]⟩
theorem YC{x r':SV}(h:k r' [])(hl:le 0 0 (expo hp x) r')(hf:al=false->Yl r'):YD al k x hp:=⟨_,h,hl,hf⟩
theorem YyH{x:SV}:le m n x .junk=True:=by cases x <;> simp [le]
theorem YC0{κ κ':IntKind}{x y:Int}:le m n (.int κ x) (.int κ' y)=(κ=κ'/\x=y):=by simp [le]
theorem Yrp{x y:Bool}:le m n (.bool x) (.bool y)=(x=y):=by simp [le]
theorem YC1:le m n .nil .nil=True:=by simp [le,bnd]
theorem Yv1{a b:List SV}:le m n (.agg a) (.agg b)=leL m n a b:=by simp [le]
theorem YC8{a b:List SV}:le m n (.tup a) (.tup b)=leL m n a b:=by simp [le]
theorem YuK{t t' z z':Bool}{l l' sz sz':Nat}{g g':Nat->List SV}:le m n (.vs t z l sz g) (.vs t' z' l' sz' g')=((t'=true->t=true)/\z=z'/\l=l'/\sz=sz'/\∀k,k<l->leXL (g k) (g' k)):=by simp [le]
theorem YC5{i o i' o':Nat}:le m n (.ptr i o) (.ptr i' o')=(i=i'/\o=o'/\i'<n):=by simp [le,bnd,and_assoc]
theorem YC4{i lo l sz i' lo' l' sz':Nat}:le m n (.own i lo l sz) (.own i' lo' l' sz')=(i=i'/\lo=lo'/\l=l'/\sz=sz'/\i<n):=by simp [le]
theorem le_xp{t t':Bool}{c c':List SV}:le m n (.xp t c) (.xp t' c')=((t'=true->t=true)/\leXL c c'):=by simp [le]
theorem le_fn{f f':Fn}{a b a' b':List SV}:le m n (.fn f a b) (.fn f' a' b')=(f=f'/\a=a'/\b=b'/\bndL n a'/\bndL n b'):=by simp [le,bnd,and_assoc]
theorem YC3{b b':Bool}{x y:SV}:le m n (.opt b x) (.opt b' y)=(b=b'/\x=y/\bnd n y):=by simp [le,bnd,and_assoc]
theorem YC9{x y:Value}:le m n (.val x) (.val y)=(x=y):=by simp [le,bnd]
theorem YyF{i k o sz i' k' o' sz':Nat}:le m n (.elem i k o sz) (.elem i' k' o' sz')=(i=i'/\k=k'/\o=o'/\sz=sz'/\i'<n):=by simp [le,bnd,and_assoc]
theorem YyE{x:List SV}:leXL x x=True:=eq_true (Yd x)
theorem Yoy{i lo l sz:Nat}:le m n .nil (.own i lo l sz)=(m<=i/\i<n/\lo=0/\l=0):=by simp [le]
theorem Yrr{t z:Bool}{l sz:Nat}{g:Nat->List SV}:le m n .nil (.vs t z l sz g)=(z=true/\l=0):=by simp [le]
theorem Yrk{z:Bool}{sz l:Nat}{g:Nat->List SV}{r:List HO}:leH m n [] (.own z sz l g::r)=(z=true/\l=0/\leH m n [] r):=rfl
theorem YuL:lenH []=0:=rfl
theorem Yru{x:HO}{a:List HO}:lenH (x::a)=lenH a+1:=rfl
theorem Yro:leL m n [] []=True:=by simp [leL]
theorem Ynw{x y:SV}{a b:List SV}:leL m n (x::a) (y::b)=(le m n x y/\leL m n a b):=by simp [leL]
theorem YuH:leLL m n [] []=True:=by simp [leLL]
theorem Yrl{x y:List SV}{a b:List (List SV)}:leLL m n (x::a) (y::b)=(leL m n x y/\leLL m n a b):=by simp [leLL]
theorem YyD{h:List HO}:leH m n h []=True:=by cases h <;> simp [leH]
theorem YuF{a b:List SV}:leH1 m n (.box a) (.box b)=leL m n a b:=by simp [leH1]
theorem YC6{a:Nat}{C:Nat->Int->Prop}:le m n (.row a C) (.row a C)=True:=eq_true ⟨rfl,trivial⟩
theorem YuJ{C:Int->Prop}:le m n (.rcell C) (.rcell C)=True:=eq_true ⟨rfl,trivial⟩
theorem YyG{kk:List IntKind}{C:List Int->Int->Prop}:le m n (.imap kk C) (.imap kk C)=True:=eq_true ⟨rfl,trivial⟩
theorem YC7{i:Nat}:le m n (.smp i) (.smp i)=(i<n):=propext ⟨fun h=>h.2,fun h=>⟨rfl,h⟩⟩
theorem YxF{a:Nat}{C:Nat->Int->Prop}:bnd n (.row a C)=True:=rfl
theorem Yqh{C:Int->Prop}:bnd n (.rcell C)=True:=rfl
theorem Yuf{kk:List IntKind}{C:List Int->Int->Prop}:bnd n (.imap kk C)=True:=rfl
theorem YxG{i:Nat}:bnd n (.smp i)=(i<n):=rfl
theorem Yrj{l l':List (List UInt8)}:leH1 m n (.smap l) (.smap l')=(l=l'):=rfl
theorem Yri:leH1 m n .gone .gone=True:=by simp [leH1]
theorem YuG{z z':Bool}{sz sz' l l':Nat}{g g':Nat->List SV}:leH1 m n (.own z sz l g) (.own z' sz' l' g')=(z=z'/\sz=sz'/\l=l'/\∀k,k<l->leL m n (g k) (g' k)):=by simp [leH1]
theorem YCW{fr fr':List SV}{sv sv':List (List SV)}{h h':List HO}:leS ⟨fr,sv,h⟩ ⟨fr',sv',h'⟩=(leL (lenH h) (lenH h') fr fr'/\leLL (lenH h) (lenH h') sv sv'/\leH (lenH h) (lenH h') h h'):=rfl
theorem Yqg{k:IntKind}{x:Int}:bnd n (.int k x)=True:=rfl
theorem Yud{b:Bool}:bnd n (.bool b)=True:=rfl
theorem YxI{v:Value}:bnd n (.val v)=True:=rfl
theorem YxB:bnd n .nil=True:=rfl
theorem Yug:bnd n .junk=True:=rfl
theorem YvL{t z:Bool}{l sz:Nat}{g:Nat->List SV}:bnd n (.vs t z l sz g)=True:=rfl
theorem YCf{t:Bool}{c:List SV}:bnd n (.xp t c)=True:=rfl
theorem YxA{c:List SV}:bnd n (.agg c)=bndL n c:=rfl
theorem YxH{c:List SV}:bnd n (.tup c)=bndL n c:=rfl
theorem YxE{i o:Nat}:bnd n (.ptr i o)=(i<n):=rfl
theorem YxD{i a b c:Nat}:bnd n (.own i a b c)=(i<n):=rfl
theorem Yue{i a b c:Nat}:bnd n (.elem i a b c)=(i<n):=rfl
theorem YCe{f:Fn}{a b:List SV}:bnd n (.fn f a b)=(bndL n a/\bndL n b):=rfl
theorem Yqf{t:TypeId}{v:SV}:bnd n (.iface t v)=bnd n v:=rfl
theorem YxC{b:Bool}{v:SV}:bnd n (.opt b v)=bnd n v:=rfl
theorem Ym3:bndL n []=True:=rfl
theorem Ykd{x:SV}{l:List SV}:bndL n (x::l)=(bnd n x/\bndL n l):=rfl
mutual
theorem Yv:∀(x:SV),bnd n x->le m n x x
 | .int _ _,_=>⟨rfl,rfl⟩
 | .bool _,_=>rfl
 | .val _,h=>⟨rfl,h⟩
 | .nil,h=>⟨rfl,h⟩
 | .agg cs,h=>YS cs h
 | .tup cs,h=>YS cs h
 | .vs _ _ _ _ get,_=>⟨id,rfl,rfl,rfl,fun k _=>Yd (get k)⟩
 | .xp _ cs,_=>⟨id,Yd cs⟩
 | .ptr _ _,h=>⟨rfl,h⟩
 | .own _ _ _ _,h=>⟨rfl,rfl,rfl,rfl,h⟩
 | .elem _ _ _ _,h=>⟨rfl,h⟩
 | .fn _ _ _,h=>⟨rfl,h⟩
 | .iface _ _,h=>⟨rfl,h⟩
 | .opt _ _,h=>⟨rfl,h⟩
 | .cut _,h=>⟨rfl,h⟩
 | .row _ _,h=>⟨rfl,h⟩
 | .rcell _,h=>⟨rfl,h⟩
 | .imap _ _,h=>⟨rfl,h⟩
 | .smp _,h=>⟨rfl,h⟩
 | .junk,_=>trivial
theorem YS:∀(x:List SV),bndL n x->leL m n x x
 | [],_=>trivial
 |x::l,h=>⟨Yv x h.1,YS l h.2⟩
end
mutual
theorem YCY:∀(x y:SV),leX x y->bnd n y->le m n x y
 | .agg cs,y,h,hb=>by
   cases y with
   |agg ds=>exact Yjh cs ds h hb
   |junk=>trivial
   |_=>cases h
 | .tup cs,y,h,hb=>by
   cases y with
   |tup ds=>exact Yjh cs ds h hb
   |junk=>trivial
   |_=>cases h
 | .int _ _,y,h,hb=>by cases y <;> first|trivial|exact h|cases h
 | .bool _,y,h,hb=>by cases y <;> first|trivial|exact h|cases h
 | .val _,y,h,hb=>by cases y <;> first|trivial| (cases h;done) | (cases h;exact⟨rfl,hb⟩)
 | .nil,y,h,hb=>by cases y <;> first|trivial|exact h| (cases h;done) | (cases h;exact⟨rfl,hb⟩)
 | .vs _ _ _ _ _,y,h,hb=>by cases y <;> first|trivial|exact h|cases h
 | .xp _ _,y,h,hb=>by cases y <;> first|trivial|exact h|cases h
 | .ptr _ _,y,h,hb=>by cases y <;> first|trivial| (cases h;done) | (cases h;exact⟨rfl,hb⟩)
 | .own _ _ _ _,y,h,hb=>by cases y <;> first|trivial| (cases h;done) | (cases h;exact⟨rfl,rfl,rfl,rfl,hb⟩)
 | .elem _ _ _ _,y,h,hb=>by cases y <;> first|trivial| (cases h;done) | (cases h;exact⟨rfl,hb⟩)
 | .fn _ _ _,y,h,hb=>by cases y <;> first|trivial| (cases h;done) | (cases h;exact⟨rfl,hb⟩)
 | .iface _ _,y,h,hb=>by cases y <;> first|trivial| (cases h;done) | (cases h;exact⟨rfl,hb⟩)
 | .opt _ _,y,h,hb=>by cases y <;> first|trivial| (cases h;done) | (cases h;exact⟨rfl,hb⟩)
 | .cut _,y,h,hb=>by cases y <;> first|trivial| (cases h;done) | (cases h;exact⟨rfl,hb⟩)
 | .row _ _,y,h,hb=>by cases y <;> first|trivial| (cases h;done) | (cases h;exact⟨rfl,hb⟩)
 | .rcell _,y,h,hb=>by cases y <;> first|trivial| (cases h;done) | (cases h;exact⟨rfl,hb⟩)
 | .imap _ _,y,h,hb=>by cases y <;> first|trivial| (cases h;done) | (cases h;exact⟨rfl,hb⟩)
 | .smp _,y,h,hb=>by cases y <;> first|trivial| (cases h;done) | (cases h;exact⟨rfl,hb⟩)
 | .junk,y,h,hb=>by cases y <;> first|trivial| (cases h;done)
theorem Yjh:∀(x y:List SV),leXL x y->bndL n y->leL m n x y
 | [],y,h,hb=>by
   cases y with
   |nil=>trivial
   |cons _ _=>exact h.elim
 |x::l,y,h,hb=>by
  cases y with
  |nil=>exact h.elim
  |cons a r=>exact⟨YCY x a h.1 hb.1,Yjh l r h.2 hb.2⟩
end
theorem Ykf:∀(k:Nat)(l:List SV),bndL n l->bndL n (YL k l)
 |0,_,_=>trivial
 |_+1,[],_=>trivial
 |k+1,_::l,h=>⟨h.1,Ykf k l h.2⟩
theorem Yke:∀(k:Nat)(l:List SV),bndL n l->bndL n (YG k l)
 |0,_,h=>h
 |_+1,[],_=>trivial
 |k+1,_::l,h=>Yke k l h.2
theorem Yrn{sz k:Nat}{cs:List SV}(h:bndL n cs=True):leL m n (YaN sz cs k) (YaN sz cs k)=True:=
 eq_true (YS _ (Ykf _ _ (Yke _ _ (of_eq_true h))))
theorem Yz3(n:Nat):Yhm n 0=n:=rfl
theorem Ylw(k:Nat):Yb9 0 k=k:=rfl
theorem YsP(n:Nat):Yhm n (YHE 1)=n-1:=rfl
theorem YpW(k:Nat):Yb9 (YHE 1) k=1+k:=rfl
end Go.Vx
namespace Go.Vx
open Go.RowKit Go.WideShapes Go.ChangeShapes
inductive Sh where
 |int (k:IntKind)
 |bool
 |str
 |slice (l:List Sh)
def Ybd:List Sh->Nat
 | []=>0
 |_::l=>Ybd l+1
mutual
def okS:Sh->SV->Prop
 | .int k,v=> ∃n,v= .int k n/\(Lit.int k n).wf=true
 | .bool,v=> ∃b,v= .bool b
 | .str,v=> ∃s:ByteArray,v= .val (.string s)/\s.size<=maxLen
 | .slice l,v=> ∃z n get,v= .vs false z n (Ybd l) get/\n<=maxLen/\∀k,k<n->okSL l (get k)
def okSL:List Sh->List SV->Prop
 | [],[]=>True
 |s::l,v::r=>okS s v/\okSL l r
 |_,_=>False
end
def Ycm(P:Program)(fl:TypeId->Option (List Sh)):Nat->List Field->Option (List Sh)
 |_,[]=>some []
 |off,f::fs=>bif YGS f.offset off then(fl f.type).bind fun l=>bif YGS (Ybd l) (P.cellsOf f.type)then(Ycm P fl (off+P.cellsOf f.type) fs).map (l++·)else none else none
def YzJ:Nat->List Sh->List Sh
 |0,_=>[]
 |n+1,l=>l++YzJ n l
def flat(P:Program):Nat->TypeId->Option (List Sh)
 |0,_=>none
 |n+1,t=>match P.underlying t with
  |some (.int k)=>some [.int k]
  |some .bool=>some [.bool]
  |some .string=>some [.str]
  |some (.slice e)=>(flat P n e).bind fun l=>bif YGS (Ybd l) (P.cellsOf e)then(bif YHG 1 (Ybd l)then some [.slice l]else none)else none
  |some (.struct fs)=>(Ycm P (flat P n) 0 fs.toList).bind fun l=>bif YGS (Ybd l) (P.cellsOf t)then some l else none
  |some (.array m e)=>(flat P n e).bind fun l=>bif YGS (Ybd l) (P.cellsOf e)then(bif YGS (m*P.cellsOf e) (P.cellsOf t)then some (YzJ m l)else none)else none
  |_=>none
theorem YkE:∀(a b:List Sh),Ybd (a++b)=Ybd a+Ybd b
 | [],b=>by simp [Ybd]
 |_::a,b=>by simp [Ybd,YkE a b];omega
theorem Yjq:∀{a b:List Sh}{x y:List SV},okSL a x->okSL b y->okSL (a++b) (x++y)
 | [],_,[],_,_,h=>h
 | [],_,_::_,_,h,_=>h.elim
 |_::_,_,[],_,h,_=>h.elim
 |_::_,_,_::_,_,h,h'=>⟨h.1,Yjq h.2 h'⟩
def bd0(n:Nat):Bd:=⟨n,fun _=>True,fun _=>none,fun _ _ _=>trivial,fun _ _=>rfl⟩
def cx0(w:World):Cx0:={ toWorld:=w,F:=fun _=>True,I:=fun _=>none,up:=fun _ _ _=>trivial,ex:=fun _ _=>rfl}
section
variable {H:Type} {enc:TypeId×Value->H} {P:Program} {w:World} {B:Nat} {base:Nat} {spare:Nat->Bool} {held:Bool}
theorem XRepL.append:∀{l r:List SV}{vs us:List Value},XRepL w [] (bd0 B) l vs->XRepL w [] (bd0 B) r us->XRepL w [] (bd0 B) (l++r) (vs++us)
 |_,_,_,_,.nil,h=>h
 |_,_,_,_,.cons x v l vs h h',hr=> .cons _ _ _ _ h (XRepL.append h' hr)
theorem Yec{fl:TypeId->Option (List Sh)}{fuel:Nat}{cs:List Value}
 (ih:∀(t:TypeId) (cs:List Value) (x:DataW H×List MemPlace) (l:List Sh),fl t=some l->DataW.trod enc P w base spare held fuel t cs=some x->∃svs,XRepL w [] (bd0 B) svs cs/\okSL l svs):
 ∀(fs:List Field)(off:Nat)(l:List Sh),Ycm P fl off fs=some l->(∀f∈fs,∃x,DataW.trod enc P w base spare held fuel f.type ((cs.drop f.offset).take (P.cellsOf f.type))=some x)->off+Ybd l=cs.length->
  ∃svs,XRepL w [] (bd0 B) svs (cs.drop off)/\okSL l svs
 | [],off,l,h,_,hl=>by
   simp only[Ycm,Option.some.injEq]at h
   subst h
   simp only[Ybd,YHi]at hl
   refine⟨[],?_,trivial⟩
   rw[List.drop_of_length_le (by omega)];exact .nil
 |f::fs,off,l,h,hall,hl=>by
  unfold Ycm at h
  cases hb:YGS f.offset off with
  |false=>rw[hb]at h;cases h
  |true=>
   rw[hb]at h
   have ho:=YGD hb
   obtain⟨l1,h1,h⟩:=YGe.1 h
   cases hb2:YGS (Ybd l1) (P.cellsOf f.type)with
   |false=>rw[hb2]at h;cases h
   |true=>
    rw[hb2]at h
    have hsz:=YGD hb2
    obtain⟨l2,h2,rfl⟩:=YGh.1 h
    obtain⟨x,hx⟩:=hall f YGy
    obtain⟨s1,r1,o1⟩:=ih _ _ _ _ h1 hx
    obtain⟨s2,r2,o2⟩:=Yec ih fs _ _ h2 (fun g hg=>hall g (YGx _ hg)) (by rw[YkE]at hl;omega)
    refine⟨s1++s2,?_,Yjq o1 o2⟩
    have:=r1.append r2
    rw[ho]at this
    have e:(cs.drop off).take (P.cellsOf f.type)++cs.drop (off+P.cellsOf f.type)=cs.drop off:=by
     rw[<-List.drop_drop];exact List.take_append_drop _ _
    rwa [e]at this
theorem YgR{fuel:Nat}{cs:List Value}{e:TypeId}{l:List Sh}(hs:Ybd l=P.cellsOf e)
 (ih:∀(cs:List Value) (x:DataW H×List MemPlace),DataW.trod enc P w base spare held fuel e cs=some x->∃svs,XRepL w [] (bd0 B) svs cs/\okSL l svs):
 ∀(k j:Nat),(∀i,j<=i->i<j+k->∃x,DataW.trod enc P w base spare held fuel e ((cs.drop (i*P.cellsOf e)).take (P.cellsOf e))=some x)->j*P.cellsOf e+k*P.cellsOf e=cs.length->
  ∃svs,XRepL w [] (bd0 B) svs (cs.drop (j*P.cellsOf e))/\okSL (YzJ k l) svs
 |0,j,_,hl=>by
  refine⟨[],?_,trivial⟩
  rw[List.drop_of_length_le (by omega)];exact .nil
 |k+1,j,hall,hl=>by
  obtain⟨x,hx⟩:=hall j (YGr _) (by omega)
  obtain⟨s1,r1,o1⟩:=ih _ _ hx
  obtain⟨s2,r2,o2⟩:=YgR hs ih k (j+1) (fun i h1 h2=>hall i (by omega) (by omega)) (by rw[YHD]at hl⊢;omega)
  refine⟨s1++s2,?_,Yjq o1 o2⟩
  have:=r1.append r2
  have e:(cs.drop (j*P.cellsOf e)).take (P.cellsOf e)++cs.drop ((j+1)*P.cellsOf e)=cs.drop (j*P.cellsOf e):=by
   rw[YHD,<-List.drop_drop];exact List.take_append_drop _ _
  rwa [e]at this
theorem Yg1{α β:Type}{g:α->Option β}:∀{l:List α}{r:List β},l.mapM g=some r->∀x∈l,∃y,g x=some y
 | [],_,_,x,hx=>by cases hx
 |a::l,r,h,x,hx=>by
  rw[List.mapM_cons]at h
  cases ha:g a with
  |none=>rw[ha]at h;cases h
  |some y=>
   rw[ha]at h
   cases hl:l.mapM g with
   |none=>rw[hl]at h;cases h
   |some ys=>
    rcases YGK.1 hx with rfl|hx
    ·exact⟨y,ha⟩
    ·exact Yg1 hl x hx
theorem Yki{a:Addr}{n:Nat}{cs:List Value}(h:w.cells? base a n=some cs):cs.length=n/\∀j v,cs[j]? =some v->w.cell? (a.add j)=some v:=by
 unfold World.cells? at h
 split at h
 ·have key:∀(l:List Nat)(r:List Value),l.mapM (fun i=>w.cell? (a.add i))=some r->r.length=l.length/\∀(j:Nat)(v:Value),r[j]? =some v->∃i,l[j]? =some i/\w.cell? (a.add i)=some v:=by
   intro l
   induction l with
   |nil=>intro r h;simp at h;subst h;exact⟨rfl,fun j v h=>by simp at h⟩
   |cons i l ih=>
    intro r h
    rw[List.mapM_cons]at h
    cases hi:w.cell? (a.add i)with
    |none=>rw[hi]at h;cases h
    |some v0=>
     rw[hi]at h
     cases hl:l.mapM (fun i=>w.cell? (a.add i))with
     |none=>rw[hl]at h;cases h
     |some r'=>
      rw[hl]at h
      cases h
      obtain⟨h1,h2⟩:=ih r' hl
      refine⟨by simp [h1],fun j v hj=>?_⟩
      cases j with
      |zero=>simp only[List.getElem?_cons_zero,Option.some.injEq]at hj;subst hj;exact⟨i,rfl,hi⟩
      |succ j=>obtain⟨i',k1,k2⟩:=h2 j v (by simpa using hj);exact⟨i',by simpa using k1,k2⟩
  obtain⟨h1,h2⟩:=key _ _ h
  refine⟨by simpa using h1,fun j v hj=>?_⟩
  obtain⟨i,k1,k2⟩:=h2 j v hj
  have:j<n:=by
   have:=(List.getElem?_eq_some_iff.1 hj).1
   simp at h1;omega
  rw[List.getElem?_range this]at k1
  cases k1;exact k2
 ·cases h
theorem Yfs{a:Addr}{v:Value}(h:w.cell? a=some v):a.spot=none/\∃cs T fz,w.heap[a.block]? =some (.cells cs T fz)/\cs[a.off]? =some v:=by
 unfold World.cell? at h
 split at h
 ·split at h
  ·cases h
  ·rename_i hs
   exact⟨by cases hq:a.spot with|none=>rfl|some _=>rw[hq]at hs;simp at hs,_,_,_,‹_›,h⟩
 ·cases h
theorem Yvu:∀(n fuel:Nat)(t:TypeId)(cs:List Value)(x:DataW H×List MemPlace)(l:List Sh),flat P n t=some l->DataW.trod enc P w base spare held fuel t cs=some x->∃svs,XRepL w [] (bd0 B) svs cs/\okSL l svs:=by
 intro n
 induction n with
 |zero=>intro fuel t cs x l h;cases h
 |succ n ih=>
  intro fuel t cs x l h hx
  unfold flat at h
  split at h
  ·rename_i k hu
   cases h
   obtain⟨m,rfl,_,hw⟩:=DataW.trod_int hu hx
   exact⟨[.int k m],.cons _ _ _ _ (.int _ _) .nil,⟨m,rfl,hw⟩,trivial⟩
  ·rename_i hu
   cases h
   obtain⟨b,rfl,_⟩:=DataW.trod_bool hu hx
   exact⟨[.bool b],.cons _ _ _ _ (.bool _) .nil,⟨b,rfl⟩,trivial⟩
  ·rename_i hu
   cases h
   obtain⟨s,rfl,_,hs⟩:=DataW.trod_string hu hx
   exact⟨[.val (.string s)],.cons _ _ _ _ (.val _) .nil,⟨s,rfl,hs⟩,trivial⟩
  ·rename_i e hu
   obtain⟨le,he,h⟩:=YGe.1 h
   cases hb:YGS (Ybd le) (P.cellsOf e)with
   |false=>rw[hb]at h;cases h
   |true=>
   rw[hb]at h
   have hsz:=YGD hb
   cases hb1:YHG 1 (Ybd le)with
   |false=>rw[hb1]at h;cases h
   |true=>
   rw[hb1]at h
   have hpos:=YG2 hb1
   cases h
   rcases Deep.open_slice hu hx with⟨rfl,_⟩ | ⟨a,len,cap,m,fu,D,Pl,rfl,hba,hlc,hcm,hm,_,hel⟩
   ·exact⟨[.vs false true 0 (Ybd le) fun _=>[]],.cons _ _ _ _ (.vs _ _ _ _ _ none 0 (fun _=>[]) rfl (YGr _) (fun _=>⟨rfl,rfl⟩) (fun k hk=>by omega) (fun k hk=>by omega)) .nil,
     ⟨true,0,_,rfl,YHk _,fun k hk=>by omega⟩,trivial⟩
   ·have hlm:len<=m:=by rw[hm];split <;> omega
    have hel':∀k,∃vals svs,k<len->w.cells? base (a.add (k*P.cellsOf e)) (P.cellsOf e)=some vals/\XRepL w [] (bd0 B) svs vals/\okSL le svs:=by
     intro k
     by_cases hk:k<len
     ·obtain⟨cs',h1,h2⟩:=hel k (by omega)
      obtain⟨svs,h3,h4⟩:=ih fu e cs' _ _ he h2
      exact⟨cs',svs,fun _=>⟨h1,h3,h4⟩⟩
     ·exact⟨[],[],fun h=>absurd h hk⟩
    obtain⟨vals,hv⟩:=Classical.axiomOfChoice hel'
    obtain⟨get,hg⟩:=Classical.axiomOfChoice hv
    refine⟨[.vs false false len (Ybd le) get],.cons _ _ _ _ (.vs _ _ _ _ _ (some a) cap vals rfl hlc (fun h=>by cases h) (fun k hk=>?_) (fun k hk=>(hg k hk).2.1)) .nil,⟨false,len,get,rfl,by omega,fun k hk=>(hg k hk).2.2⟩,trivial⟩
    have h0:=(hg 0 (by omega)).1
    obtain⟨l0,c0⟩:=Yki h0
    have hsp:a.spot=none:=by
     cases hv0:vals 0 with
     |nil=>rw[hv0]at l0;simp at l0;omega
     |cons v r=>
      have:=(Yfs (c0 0 v (by rw[hv0];rfl))).1
      simpa [Addr.add]using this
    obtain⟨lk,ck⟩:=Yki (hg k hk).1
    refine⟨a,rfl,hsp,⟨Ybn,trivial⟩,(fun h=>by cases h),by rw[lk,hsz],?_⟩
    cases hvk:vals k with
    |nil=>rw[hvk]at lk;simp at lk;omega
    |cons v r=>
     rw[hvk]at ck
     have e1:∀j,(a.add (k*P.cellsOf e)).add j=⟨a.block,a.off+k*P.cellsOf e+j,none⟩:=by
      intro j
      obtain⟨ab,ao,asp⟩:=a
      simp only at hsp
      subst hsp
      unfold Addr.add
      split <;> split <;> simp_all <;> omega
     obtain⟨_,cs2,T,fz,hb,hc⟩:=Yfs (ck 0 v rfl)
     rw[e1]at hb
     refine⟨cs2,T,fz,hb,fun j u hj=>?_⟩
     obtain⟨_,cs3,T3,fz3,hb3,hc3⟩:=Yfs (ck j u hj)
     rw[e1]at hb3 hc3
     simp only at hb hb3 hc3
     rw[hb]at hb3;cases hb3
     rw[hsz]
     exact hc3
  ·rename_i fs hu
   obtain⟨l0,hf,h⟩:=YGe.1 h
   cases hb:YGS (Ybd l0) (P.cellsOf t)with
   |false=>rw[hb]at h;cases h
   |true=>
    rw[hb]at h
    cases h
    have hsz:=YGD hb
    cases fuel with
    |zero=>simp [DataW.trod]at hx
    |succ fuel=>
     unfold DataW.trod at hx
     rw[hu]at hx
     simp only at hx
     split at hx
     ·rename_i hlen
      obtain⟨xs,hxs,_⟩:=YGh.1 hx
      have:=Yec (cs:=cs) (B:=B) (fun t cs x l h h'=>ih fuel t cs x l h h') fs.toList 0 l hf (fun f hf=>Yg1 hxs f hf) (by omega)
      simpa using this
     ·cases hx
  ·rename_i m e hu
   obtain⟨l0,hf,h⟩:=YGe.1 h
   cases hb:YGS (Ybd l0) (P.cellsOf e)with
   |false=>rw[hb]at h;cases h
   |true=>
    rw[hb]at h
    have hsz:=YGD hb
    cases hb2:YGS (m*P.cellsOf e) (P.cellsOf t)with
    |false=>rw[hb2]at h;cases h
    |true=>
     rw[hb2]at h
     cases h
     have hsz2:=YGD hb2
     cases fuel with
     |zero=>simp [DataW.trod]at hx
     |succ fuel=>
      unfold DataW.trod at hx
      rw[hu]at hx
      simp only at hx
      split at hx
      ·rename_i hlen
       obtain⟨xs,hxs,_⟩:=YGh.1 hx
       have:=YgR (cs:=cs) (B:=B) hsz (fun cs x h'=>ih fuel e cs x l0 hf h') m 0 (fun i _ hi=>Yg1 hxs i (List.mem_range.2 (by omega))) (by omega)
       simpa using this
      ·cases hx
  ·cases h
structure PSh where
 agg:Bool
 l:List Sh
def okP(p:PSh)(v:SV):Prop:=
 match p.agg with
 |true=> ∃cs,v= .agg cs/\okSL p.l cs
 |false=>okSL p.l [v]
def okPL:List PSh->List SV->Prop
 | [],[]=>True
 |p::l,v::r=>okP p v/\okPL l r
 |_,_=>False
def Yy8(P:Program)(t:TypeId):Option PSh:=
 (flat P 16 t).bind fun l=>match P.underlying t with
   |some (.struct _)=>some ⟨true,l⟩
   |some (.array _ _)=>some ⟨true,l⟩
   |some (.int _) |some .bool|some .string|some (.slice _)=>some ⟨false,l⟩
   |_=>none
def YkX(P:Program):List TypeId->Option (List PSh)
 | []=>some []
 |t::l=>(Yy8 P t).bind fun p=>(YkX P l).map (p::·)
theorem Ygk{n:Nat}{t:TypeId}{l:List Sh}(h:flat P n t=some l)(hu:(∃k,P.underlying t=some (.int k))\/P.underlying t=some .bool\/P.underlying t=some .string\/∃e,P.underlying t=some (.slice e)):∃s,l=[s]:=by
 cases n with
 |zero=>cases h
 |succ n=>
  unfold flat at h
  rcases hu with⟨k,hu⟩ |hu|hu| ⟨e,hu⟩ <;> rw[hu]at h <;> simp only at h
  ·cases h;exact⟨_,rfl⟩
  ·cases h;exact⟨_,rfl⟩
  ·cases h;exact⟨_,rfl⟩
  ·obtain⟨le,_,h⟩:=YGe.1 h
   cases hb:YGS (Ybd le) (P.cellsOf e)with
   |false=>rw[hb]at h;cases h
   |true=>
    rw[hb]at h
    cases hb1:YHG 1 (Ybd le)with
    |false=>rw[hb1]at h;cases h
    |true=>rw[hb1]at h;cases h;exact⟨_,rfl⟩
theorem Yr1{r:Reach}{b0:Nat}{t:TypeId}{v:Value}{d:DataW H}{ps:List MemPlace}{p:PSh}(hp:Yy8 P t=some p)(hval:Value.okWide P w r b0 t v)(hd:DataW.Trod enc P w base spare held t v d ps):∃sv,XRep w [] (bd0 B) sv v/\okP p sv:=by
 obtain⟨fuel,hf⟩:=id hd
 unfold Yy8 at hp
 obtain⟨l,hl,hp⟩:=YGe.1 hp
 obtain⟨svs,h1,h2⟩:=Yvu (B:=B) 16 fuel t _ _ l hl hf
 have one:∀(c:Value),v.cells.toList=[c]->v=c->(∃s,l=[s])->∃sv,XRep w [] (bd0 B) sv v/\okP ⟨false,l⟩ sv:=by
  rintro c hc rfl ⟨s,rfl⟩
  rw[hc]at h1
  cases h1 with
  |cons sv _ svs' _ k1 k2=>
   cases k2
   exact⟨sv,k1,h2⟩
 split at hp
 ·rename_i fs hu
  cases hp
  unfold Value.okWide at hval
  rw[hu]at hval
  simp only at hval
  obtain⟨cs,rfl,_⟩:=hval
  refine⟨.agg svs,?_,svs,rfl,h2⟩
  have:=XRep.agg (w:=w) (bs:=[]) (B:=bd0 B) svs cs.toList h1
  simpa using this
 ·rename_i m e hu
  cases hp
  unfold Value.okWide at hval
  rw[hu]at hval
  simp only at hval
  obtain⟨cs,rfl,_⟩:=hval
  refine⟨.agg svs,?_,svs,rfl,h2⟩
  have:=XRep.agg (w:=w) (bs:=[]) (B:=bd0 B) svs cs.toList h1
  simpa using this
 ·rename_i k hu
  cases hp
  obtain⟨n,rfl⟩:=okWide_int hu hval
  exact one _ rfl rfl (Ygk hl (.inl ⟨_,hu⟩))
 ·rename_i hu
  cases hp
  obtain⟨n,rfl⟩:=okWide_bool hu hval
  exact one _ rfl rfl (Ygk hl (.inr (.inl hu)))
 ·rename_i hu
  cases hp
  obtain⟨n,rfl⟩:=okWide_string hu hval
  exact one _ rfl rfl (Ygk hl (.inr (.inr (.inl hu))))
 ·rename_i e hu
  cases hp
  obtain⟨a,len,cap,rfl⟩:=okWide_slice hu hval
  exact one _ rfl rfl (Ygk hl (.inr (.inr (.inr ⟨_,hu⟩))))
 ·cases hp
theorem Yib{r:Reach}{b0:Nat}:∀{ts:List TypeId}{vs:List Value}{ds:List (DataW H)}{ps:List MemPlace}{shs:List PSh},YkX P ts=some shs->(∀(j:Nat) t v,ts[j]? =some t->vs[j]? =some v->Value.okWide P w r b0 t v)->
 DataW.TrodAll enc P w base spare held ts vs ds ps->∃svs,XRepL w [] (bd0 B) svs vs/\okPL shs svs
 | [],vs,ds,ps,shs,h,_,hd=>by
   simp only[YkX,Option.some.injEq]at h
   subst h
   obtain⟨rfl,_,_⟩:=trodAll_nil hd
   exact⟨[],.nil,trivial⟩
 |t::ts,vs,ds,ps,shs,h,hv,hd=>by
  unfold YkX at h
  obtain⟨p,hp,h⟩:=YGe.1 h
  obtain⟨shs',hs,rfl⟩:=YGh.1 h
  obtain⟨v,vs',d,ds',p1,q1,rfl,rfl,rfl,h1,h2⟩:=trodAll_cons hd
  obtain⟨sv,k1,k2⟩:=Yr1 (B:=B) hp (hv 0 t v rfl rfl) h1
  obtain⟨svs,k3,k4⟩:=Yib hs (fun j t' v' ht hv'=>hv (j+1) t' v' (by simpa using ht) (by simpa using hv')) h2
  exact⟨sv::svs,.cons _ _ _ _ k1 k3,k2,k4⟩
end
def YzI(P:Program)(ts:List TypeId):Bool:=ts.all fun t=>P.readableRec t&&Nat.blt t P.types.size
theorem YfY{H:Type}{enc:TypeId×Value->H}{P:Program}(hl:laidOutB P=true){W W':World}(hb:Below W.heap.size W W'):
 ∀{ts:List TypeId}{vs:List Value}{ds:List (DataW H)}{ps:List MemPlace},YzI P ts=true->DataW.TrodAll enc P W 0 (fun _=>true) true ts vs ds ps->DataW.TrodAll enc P W' 0 (fun b=>decide (b<W.heap.size)) true ts vs ds ps
 | [],vs,ds,ps,_,h=>by
   obtain⟨rfl,rfl,rfl⟩:=trodAll_nil h
   rfl
 |t::ts,vs,ds,ps,hr,h=>by
  obtain⟨v,vs',d,ds',p1,q1,rfl,rfl,rfl,h1,h2⟩:=trodAll_cons h
  simp only[YzI,List.all_cons,YGi]at hr
  have hlt:∀x∈p1,x.block<W.heap.size:=by obtain⟨m,hm⟩:=h1;exact DataW.trod_lt m _ _ _ hm
  refine⟨_,_,Below.trod hl hr.1.1 ?_ h1 hb hlt,YfY hl hb hr.2 h2,rfl⟩
  have:=hr.1.2
  simpa using this
theorem Yho{H:Type}{enc:TypeId×Value->H}{P:Program}{W:World}{base:Nat}{spare:Nat->Bool}{held:Bool}:
 ∀{ts:List TypeId}{vs:List Value}{ds:List (DataW H)}{ps:List MemPlace},DataW.TrodAll enc P W base spare held ts vs ds ps->ds.length=ts.length
 | [],vs,ds,ps,h=>by obtain⟨_,rfl,_⟩:=trodAll_nil h;rfl
 |t::ts,vs,ds,ps,h=>by
  obtain⟨v,vs',d,ds',p1,q1,rfl,rfl,rfl,h1,h2⟩:=trodAll_cons h
  simp [Yho h2]
theorem YT{s:Sh}{l:List Sh}{c:List SV}(h:okSL (s::l) c):∃x r,c=x::r/\okS s x/\okSL l r:=by
 cases c with
 |nil=>exact h.elim
 |cons x r=>exact⟨x,r,rfl,h.1,h.2⟩
theorem YfX{c:List SV}(h:okSL [] c):c=[]:=by
 cases c with
 |nil=>rfl
 |cons x r=>exact h.elim
theorem YcR{p:PSh}{l:List PSh}{c:List SV}(h:okPL (p::l) c):∃x r,c=x::r/\okP p x/\okPL l r:=by
 cases c with
 |nil=>exact h.elim
 |cons x r=>exact⟨x,r,rfl,h.1,h.2⟩
theorem YkR{c:List SV}(h:okPL [] c):c=[]:=by
 cases c with
 |nil=>rfl
 |cons x r=>exact h.elim
theorem Yl0{l:List Sh}{v:SV}(h:okP ⟨true,l⟩ v):∃cs,v= .agg cs/\okSL l cs:=h
theorem Yg7{s:Sh}{v:SV}(h:okP ⟨false,[s]⟩ v):okS s v:=h.1
theorem YyL{α:Type}[Inhabited α]{n:Nat}{P:Nat->α->Prop}(h:∀k,k<n->∃x,P k x):∃l:List α,l.length=n/\∀k,k<n->P k (l.getD k default):=by
 induction n with
 |zero=>exact⟨[],rfl,fun k hk=>absurd hk (YG7 _)⟩
 |succ n ih=>
  obtain⟨l,h1,h2⟩:=ih fun k hk=>h k (by omega)
  obtain⟨x,hx⟩:=h n (by omega)
  refine⟨l++[x],by simp [h1],fun k hk=>?_⟩
  rcases YGz k n with h'|h'
  ·have:=h2 k h'
   rw[YGl]at this⊢
   rwa [YGR (by omega)]
  ·obtain rfl:k=n:=by omega
   rw[YGl,YG4 (by omega),h1,Nat.sub_self]
   exact hx
def lawC(shs:List PSh):Ctr:={ alias:=false,of:=fun l=> .pre (okPL shs l) (.fin (.bool true) [])}
theorem Yox{C:Checked}{f:FuncId}{fn:Func}{s:ChangeSpec}{dom:List PathCond}{os:Os}{H:Type}{enc:TypeId×Value->H}{shs:List PSh}{tb:TypeId}
 (own:ownKnob C.prog.godebug=none)(started:os.Started)(noInit:C.prog.inits.idxOf? f=none)(hfn:C.prog.funcs[f]? =some fn)(hl:laidOutB C.prog=true)
 (witness:∃(w:World) (tape:Tape) (i:Input),w.os=os/\(w.forCall tape i).Shaped C.prog/\i.vars=[]/\Input.okWide C.prog (w.forCall tape i) .any w.heap.size f i/\
   s.pre6 enc C.prog fn dom false (w.forCall tape i).memory i.args/\({}:Assume).holds C.prog (lone (Frame.enter C.prog f i.args .normal) [] (w.forCall tape i)))
 (hsh:YkX C.prog fn.params.toList=some shs)(hread:YzI C.prog fn.params.toList=true)(hres:fn.resultTypes.toList=[tb])(htb:C.prog.underlying tb=some .bool)(hvars:s.vars=[])
 (hspec:∀ds:List (DataW H),ds.length=fn.params.toList.length->(s.fn H ds).results=[.lit (.bool true)]/\(s.fn H ds).args=ds/\(s.fn H ds).vars=[])(hc:(lawC shs).ok C.prog f):
 ReturnsInHanded {} C os f .any (s.pre6 enc C.prog fn dom false) (s.post enc C.prog fn false true false false):=by
 refine returnsInHanded_of_change own started noInit hfn witness ?_
 intro W base args ds gs before hval hW hcnd _
 obtain⟨p,q,hA,hV,hbef,hfz,hnd⟩:=id hW
 have hlen:=Yho hA
 rw[hvars]at hV
 obtain⟨rfl,rfl⟩:=trodVars_none hV
 obtain⟨svs,k1,k2⟩:=Yib (B:=W.heap.size) hsh (fun j t v ht hv=>hval j t v (by simpa using ht) (by simpa using hv)) hA
 have hcall:=hc svs args.toList (cx0 W) (fun r hs=>r= .bool true) (fun b K h=>by cases h) k1 ⟨k2,rfl⟩
 simp only[Array.toArray_toList]at hcall
 refine hcall.mono fun e W' h=>?_
 obtain⟨r,hs,v,bs,J,hJ,rfl,rfl,hr,_,hbI,_⟩:=h
 have hb:Below W.heap.size W W':=⟨hbI.os,hbI.tape,hbI.output,hbI.size,fun k hk=>hbI.block k hk rfl⟩
 have hv:=hr.bool_inv
 subst hv
 obtain⟨s1,s2,s3⟩:=hspec ds hlen
 refine⟨_,rfl,ds,[],before,[],p,[],hW,?_,?_,?_,hb.frame _,fun h=>by cases h⟩
 ·rw[List.append_nil,s1,hres]
  have hsz:fn.resultTypes.size=1:=by rw[<-Array.length_toList,hres];rfl
  have:(Value.bool true).resultList fn.resultTypes.size=[.bool true]:=by rw[hsz];rfl
  rw[this]
  exact trodAll_mk1 (shut_bool htb true)
 ·rw[List.append_nil,s2]
  exact YfY hl hb hread hA
 ·rw[List.append_nil,s3,hvars];rfl
end Go.Vx
namespace Go.Vx
def idxK(ho:HO)(n size j:Nat)(i:Int):Option Ef:=
 match ho with
 | .own _ sz m _=>YI (0<=i/\i<n/\sz=size/\m=n) (.elem j i.toNat 0 size)
 | .box _=>YI (0<=i/\i<n) (.ptr j (idxN i size))
 |_=>none
theorem q_idx{hp:List HO}{n size j:Nat}{k:IntKind}{i:Int}:YeB hp n size [.ptr j 0,.int k i]=idxK (getH hp j) n size j i:=rfl
theorem Yys:idxN 0 1=0:=rfl
theorem Yyt:idxN 0 2=0:=rfl
theorem Yyu:idxN 0 3=0:=rfl
theorem Yyv:idxN 0 4=0:=rfl
theorem Yyw:idxN 1 2=2:=rfl
theorem Yyz:idxN 2 2=4:=rfl
theorem Yyx:idxN 1 3=3:=rfl
theorem Yyy:idxN 1 4=4:=rfl
def stoK(ho:HO)(size i off:Nat)(vals:List SV):Option Ef:=
 match ho with
 | .box cs=>some { pre:=off+size<=lenL cs,val:= .junk,upd:= .set i (.box (Yaf cs off vals))}
 | .own z sz n _=>match off with
   |0=>some { pre:=size=n*sz/\0<sz,val:= .junk,upd:= .set i (.own z sz n (YaN sz vals))}
   |_=>none
 | .smap _=>none
 | .gone=>none
def stoE(ho:HO)(size i k off sz:Nat)(vals:List SV):Option Ef:=
 match ho with
 | .own z size' n get=>some { pre:=k<n/\sz=size'/\off+size<=sz,val:= .junk,upd:= .set i (.own z size' n fun j=>if j=k then Yaf (get k) off vals else get j)}
 |_=>none
theorem YDN{hp:List HO}{size i off:Nat}{vals:List SV}:storeAt hp size vals (.ptr i off)=stoK (getH hp i) size i off vals:=rfl
theorem YDK{size i off:Nat}{cs vals:List SV}:stoK (.box cs) size i off vals=some { pre:=off+size<=lenL cs,val:= .junk,upd:= .set i (.box (Yaf cs off vals))}:=rfl
theorem YDM{z:Bool}{sz n size i:Nat}{g:Nat->List SV}{vals:List SV}:stoK (.own z sz n g) size i 0 vals=some { pre:=size=n*sz/\0<sz,val:= .junk,upd:= .set i (.own z sz n (YaN sz vals))}:=rfl
theorem YDL{hp:List HO}{size i k off sz:Nat}{vals:List SV}:storeAt hp size vals (.elem i k off sz)=stoE (getH hp i) size i k off sz vals:=rfl
def appN(nx size bytes:Nat)(r:Option (Nat×(Nat->List SV))):Option Ef:=
 r.bind fun(m,gx)=>eNew (.own (decide (m=0)) size m gx) (.own (nx) 0 m size) (YP m bytes/\∀k,k<m->lenL (gx k)=size/\ones (gx k))
def appO(ho:HO)(i n sz size bytes:Nat)(r:Option (Nat×(Nat->List SV))):Option Ef:=
 match ho with
 | .own z s' _ get=>r.map fun(m,gx)=>
     {pre:=sz=size/\s'=size/\YP (n+m) bytes/\∀k,k<m->lenL (gx k)=size/\ones (gx k),val:= .own i 0 (n+m) size,
      upd:= .app i (.own (z&&decide (m=0)) size (n+m) fun k=>if k<n then Yj i (get k)else Yj i (gx (k-n)))}
 |_=>none
theorem YDE{nx:Nat}{hp:List HO}{size bytes:Nat}{x:SV}:YbB nx hp size bytes [.nil,x]=appN nx size bytes (Yc4 hp x):=rfl
theorem YDF{nx:Nat}{hp:List HO}{size bytes i n sz:Nat}{x:SV}:YbB nx hp size bytes [.own i 0 n sz,x]=appO (getH hp i) i n sz size bytes (Yc4 hp x):=rfl
def appC(nx size bytes:Nat)(ry r:Option (Nat×(Nat->List SV))):Option Ef:=
 ry.bind fun(n,gy)=>r.bind fun(m,gx)=>eNew (.own false size (n+m) fun k=>if k<n then gy k else gx (k-n)) (.own (nx) 0 (n+m) size)
  (0<m/\YP (n+m) bytes/\(∀k,k<n->lenL (gy k)=size/\ones (gy k))/\∀k,k<m->lenL (gx k)=size/\ones (gx k))
theorem YDD{nx:Nat}{hp:List HO}{size bytes:Nat}{y x:SV}:YbB nx hp size bytes [.cut y,x]=appC nx size bytes (Yc4 hp y) (Yc4 hp x):=rfl
def sliK(ho:HO)(n size j:Nat):Option Ef:=
 match ho with
 | .own _ sz m _=>YI (sz=size/\m=n) (.own j 0 n size)
 |_=>none
theorem q_sli{hp:List HO}{n size j:Nat}:YbC hp n size false false [.ptr j 0]=sliK (getH hp j) n size j:=rfl
theorem YDJ{n:Nat}{get:Nat->List SV}:Yjt 0 n get=some (True,YgS n 0 get):=rfl
theorem q_fl1{get:Nat->List SV}:YgS 1 0 get=get 0++[]:=rfl
theorem q_fl2{get:Nat->List SV}:YgS 2 0 get=get 0++(get 1++[]):=rfl
theorem q_fl3{get:Nat->List SV}:YgS 3 0 get=get 0++(get 1++(get 2++[])):=rfl
theorem q_fl4{get:Nat->List SV}:YgS 4 0 get=get 0++(get 1++(get 2++(get 3++[]))):=rfl
theorem q_ch1{cs:List SV}:YaN 1 cs 0=YL 1 cs:=rfl
theorem YDG{cs:List SV}:YaN 1 cs 1=YL 1 (YG 1 cs):=rfl
theorem YDH{cs:List SV}:YaN 1 cs 2=YL 1 (YG 2 cs):=rfl
theorem YDI{cs:List SV}:YaN 1 cs 3=YL 1 (YG 3 cs):=rfl
theorem q_fo(b:Bool):(false|| b)=b:=rfl
theorem q_to(b:Bool):(true|| b)=true:=rfl
def Ykx(s:S)(i:Nat)(keep:List Nat)(ghosts:List HO)(YY:List (Nat×SV))(blocks:List (Nat×HO)):S:=
 {fr:=Yk2 (keepG keep s.fr) YY,saved:=Yhc i s.saved,hp:=Ysg (s.hp++ghosts) blocks}
theorem Loop.keepP{r:List It->S->Prop}{body:VC}{K:List It}{s:S}(i:Nat)(keep:List Nat)(σ:Type)(YY:σ->List (Nat×SV))(blocks:σ->List (Nat×HO))(ghosts:List HO)(inv:σ->Prop)(μ:σ->Nat)
 (h0:∃x,inv x/\leS s (Ykx s i keep ghosts (YY x) (blocks x)))
 (h:∀x,inv x->r (.code body:: .inLoop (fun s'=> ∃y,inv y/\μ y<μ x/\leS s' (Ykx s i keep ghosts (YY y) (blocks y)))::K) (Ykx s i keep ghosts (YY x) (blocks x))):Loop r body K s leP:=
 ⟨σ,fun x=>Ykx s i keep ghosts (YY x) (blocks x),inv,μ,leS,fun _ _ h=>⟨[],trivial,[],trivial,h⟩,h0,h⟩
theorem Loop.keepF{r:List It->S->Prop}{body:VC}{K:List It}{s:S}(keep:List Nat)(σ:Type)(YY:σ->List (Nat×SV))(blocks:σ->List (Nat×HO))(ghosts:List HO)(inv:σ->Prop)(μ:σ->Nat)
 (h0:∃x,inv x/\leF s (Yfw s keep ghosts (YY x) (blocks x)))
 (h:∀x,inv x->r (.code body:: .inLoop (fun s'=> ∃y,inv y/\μ y<μ x/\leF s' (Yfw s keep ghosts (YY y) (blocks y)))::K) (Yfw s keep ghosts (YY x) (blocks x))):Loop r body K s leP:=
 ⟨σ,fun x=>Yfw s keep ghosts (YY x) (blocks x),inv,μ,leF,fun _ _ h=>⟨[],trivial,h⟩,h0,h⟩
theorem Loop.keepG{r:List It->S->Prop}{body:VC}{K:List It}{s:S}(keep:List Nat)(σ:Type)(YY:σ->List (Nat×SV))(blocks:σ->List (Nat×HO))(ghosts:List HO)(inv:σ->Prop)(μ:σ->Nat)
 (h0:∃x,inv x/\leP s (Yfw s keep ghosts (YY x) (blocks x)))
 (h:∀x,inv x->r (.code body:: .inLoop (fun s'=> ∃y,inv y/\μ y<μ x/\leP s' (Yfw s keep ghosts (YY y) (blocks y)))::K) (Yfw s keep ghosts (YY x) (blocks x))):Loop r body K s leP:=
 ⟨σ,fun x=>Yfw s keep ghosts (YY x) (blocks x),inv,μ,leP,fun _ _ h=>h,h0,h⟩
open Go.RowKit in
theorem YfP{P:Program}{E:Env}{f:FuncId}{fn:Func}{vf:VF}(hf:P.funcs[f]? =some fn)(hvf:Yg P fn=some vf)(hE:Yq P E)(n:Nat)(c:Ctr)
 (h:∀(args:List SV) (k:SV->List HO->Prop),CSat (c.of args) k->∃args',leL 0 0 args args'/\run E (fun r hp=>k r hp/\Yl r/\Ybk hp) vf.res n [.code vf.body] { fr:=padL vf.ntmps args',saved:=[],hp:=[]}):c.ok P f:=by
 intro args vs z k hsat hx hc
 obtain⟨args',hle,hrun⟩:=h args k hc
 have hk0:YbP z.toWorld [] z.bd z.toWorld [] (z.wI z.I (Yaa z)).bd:=⟨rfl,fun _ _ h=>h,fun b hf cs T fz ho=>⟨ho,Ybn,hf.2,z.ex b hf.2⟩⟩
 have hx2:RepL z.toWorld [] (z.wI z.I (Yaa z)).bd args' vs:=YeZ YlG _ _ hle (XRepL.keepG hk0 hx).rep
 obtain⟨body,hbody,hcode,hres,hnt⟩:=YdC hvf
 refine YcG (n:=0) (YeY (b:=vf.body) hf hbody ?_)
 refine Yk8 (w0:=z) (fn0:=fn) (R0:=fun e w'=> ∃r hs v bs,∃J,∃hJ:Ext z J,k r hs/\e= .returned v/\Rep w' bs (z.wI J hJ).bd r v/\Hp w' bs (z.wI J hJ).bd hs/\BelowI z.bd z.toWorld w'/\(c.alias=false->Yl r/\Ybk hs)) hE hres (by
  rintro r hp v w' bs D hD ⟨hk,hfr⟩ hr hH hb
  exact⟨r,hp,v,bs,D,hD,hk,rfl,hr,hH,hb,fun ha=>hfr⟩) n _ _ hrun [] [] none _
  {tmps:=vs.toArray++Array.replicate (fn.ntmps-vs.toArray.size) undef,defers:=[]} z.toWorld (.code body vf.body [] [] [] none _ hcode .nil) (D:=z.I) (hD:=Yaa z) ?_
 refine⟨[],?_,.nil,hp0 (hJ:=Yaa z) hsat,BelowI.refl _ _,⟨fun _ h=>(by cases h),.nil,[[]],rfl,by simp,fun _ h=>(by simp at h)⟩⟩
 have:=YfB (n:=fn.ntmps) hx2
 rw[hnt]
 simpa using this
theorem YbR{r:List It->S->Prop}{body:VC}{d:Option Nat}{res:List VR}{s1:S}{K:List It}(s2:S)(h1:r (.code body:: .frame d res:: .inLoop (fun s'=>s'=s2)::Yf2 K) s1)(h2:r K s2):YqT r body d res s1 K:=
 ⟨fun s'=>s'=s2,h1,fun s' hs=>by rw[hs];exact h2⟩
@[reducible] def Zm (d a:Nat):VOp:=u1 d .mov [.tm a]
@[reducible] def Zi (d:Nat) (k:Int):VOp:=u1 d .mov [.cn (.int .i64 k)]
@[reducible] def Ze (d i a:Nat):VOp:=u1 d (.ext i) [.tm a]
@[reducible] def Zt (d s a:Nat):VOp:=u1 d (.load true s) [.tm a]
@[reducible] def Zf (d s a:Nat):VOp:=u1 d (.load false s) [.tm a]
@[reducible] def Zs (s a b:Nat):VOp:=u0 (.store s) [.tm a,.tm b]
@[reducible] def Za (d f a:Nat):VOp:=u1 d (.fieldAddr f) [.tm a]
@[reducible] def Zc (d f a:Nat):VOp:=u1 d (.call f) [.tm a]
@[reducible] def Zd (d f a b:Nat):VOp:=u1 d (.call f) [.tm a,.tm b]
@[reducible] def Zx (d s a b:Nat):VOp:=u1 d (.idxAddr s) [.tm a,.tm b]
@[reducible] def Zp (d a:Nat) (k:Int):VOp:=u1 d (.ari .add) [.tm a,.cn (.int .i64 k)]
@[reducible] def Zq (d:Nat) (c:Cmp) (a:Nat) (k:Int):VOp:=u1 d (.cmp c) [.tm a,.cn (.int .i64 k)]
@[reducible] def Zr (d:Nat) (c:Cmp) (a b:Nat):VOp:=u1 d (.cmp c) [.tm a,.tm b]
@[reducible] def Zl (d a:Nat):VOp:=u1 d .len [.tm a]
@[reducible] def Zn (d:Nat):VOp:=u1 d (.alloc [.int .i64 0,.int .i64 0]) []
@[reducible] def Zo (d:Nat) (o:Ari) (a b:Nat):VOp:=u1 d (.ari o) [.tm a,.tm b]
@[reducible] def Zg (d g:Nat) (t:Bool) (a:Nat):VOp:=u2 d g t .mov [.tm a]
@[reducible] def Zh (d g:Nat) (t:Bool) (s a:Nat):VOp:=u2 d g t (.load false s) [.tm a]
@[reducible] def Zj (d g:Nat) (t:Bool) (f a:Nat):VOp:=u2 d g t (.fieldAddr f) [.tm a]
@[reducible] def Zu (d a:Nat):DOp:=w1 d .mov [.tm a]
@[reducible] def Zv (d s a:Nat):DOp:=w1 d (.load false s) [.tm a]
@[reducible] def Zw (d s a:Nat):DOp:=w1 d (.load true s) [.tm a]
@[reducible] def Zy (d f a:Nat):DOp:=w1 d (.fieldAddr f) [.tm a]
@[reducible] def Zz (d f a b:Nat):DOp:=w1 d (.call f) [.tm a,.tm b]
@[reducible] def ZX (d s a b:Nat):DOp:=w1 d (.idxAddr s) [.tm a,.tm b]
@[reducible] def ZS (s a b:Nat):DOp:=w0 (.store s) [.tm a,.tm b]
@[reducible] def ZE (d i a:Nat):DOp:=w1 d (.ext i) [.tm a]
@[reducible] def ZR (l:List VOp) (c:VC):VC:= .seq (.region l) c
@[reducible] def ZC (a:Nat) (c d:VC):VC:= .cond (.tm a) c d
attribute [go_sem] Zm Zi Ze Zt Zf Zs Za Zc Zd Zx Zp Zq Zr Zl Zn Zo Zg Zh Zj Zu Zv Zw Zy Zz ZX ZS ZE ZR ZC
attribute [go_sem] pubV pubL Yu2 Yga pub1 pubC Yze pubS pubP YEd YEe Yzv Yzw YD4 psd YeT YiU Ynd YiY YiW Yje Ysn YzA VO.bad u0 u1 u2 w0 w1 YlD ctM ctI frzV frzL Yuv Yf7 frz1 Yyj frzS frzP Yng YD7 YD8 r_nil r_op YEb Yzz r_op0 YEj YEk r_y YEf Ywi Yzx Ywj Yzy Yso Yu8 Yu7 YD2 Yzq YzC YEi r_tbr YEw YEx VO.isAppend chkG chkA napP napB Yz6 YDY r_dop YDZ YD1 YD0 r_dq r_dq0 YDR YDQ YDT YDS YDX Yzp r_dgd YDW YDV YDU r_op1 r_eff YD3 YDP Yzm r_inl r_g r_gq r_gc YD5 Yzr YD6 Yzs Yzn Yu4 r_fin r_pre r_imp r_all r_ex YD9 YEc r_exg Ysm Yu6 Ysl Yu5 YEh YzB Yu9 r_seq Ywg Yzo Yzl Ywh Yzt Yzu YEg YEa YzR YzS s_xt s_xc padL Ykc callee YiJ eff ctOf getL setL S.put S.upd Yf5 Ymk YU YjL YCU Yab Yyk eMov eNot eNeg Yun eExt YiV eLen YiX eEqb eEqv YbM eNil Yg4 Ykp eCmp eAri ari eBit eDiv eSh YgQ Yfv Yfu kEq YI cmpB VO.quiet YaB YnU Yf3 Yad YbG cond eNew eBox YaE lenH Ybt YdK Yne Yhw Yaz getH setH YG YL Yf9 lenL lenS shift Yc2 YW viewN Ybu view andT Yow Ygj YCK YCL YCM YCN Ynh YhU Yaf ones one Ynj YhQ Yz3 Ylw YsP YpW YqL Yc4 repL YQ YaN Yj Yhc YaI Yd7 refs Yhg YvB wrAl Ys5 Ylo wrC junkAt Yk2 Ysg Ykw Yfw keepG YcN chkP YhL Yp3 blk YoO YhC AL.ho yld Yk3 lenN YeE Ybq You YkC YyA idxK q_idx Yys Yyt Yyu Yyv Yyw Yyz Yyx Yyy stoE YDN YDK YDM YDL appN appO YDE YDF appC YDD YiZ sliK q_sli noOwn YaD YDJ q_fl1 q_fl2 q_fl3 q_fl4 q_ch1 YDG YDH YDI Ykx q_fo q_to
theorem it_p(α:Prop):(α->True)=True:=implies_true α
theorem it_t(α:Type):(α->True)=True:=implies_true α
theorem fc_t{b:Prop}(α:Type)[Nonempty α]:(α->b)↔b:=forall_const α
theorem fc_p{b:Prop}(α:Prop)[Nonempty α]:(α->b)↔b:=forall_const α
theorem ne_t{α:Type}(a b:α):(a≠b)=¬(a=b):=rfl
def Ya:=YGH @imp_self (YGH @true_and (YGH @and_true (YGH @it_p (YGH @it_t (YGH @YCW (YGH @Ynw (YGH @Yro (YGH @YyH (YGH @YC0 (YGH @Yrp (YGH @YC1 (YGH @YuH (YGH @Yrl (YGH @Yjg (YGH @YyD (YGH @YuF (YGH @YuG (YGH @Yri (YGH @YuK (YGH @Yv1 (YGH @YC8 (YGH @YC5 (YGH @YC4 (YGH @le_xp (YGH @le_fn (YGH @YC3 (YGH @YC9 (YGH @YyF (YGH @Yoy (YGH @Yrr (YGH @Yrk (YGH @Yrn (YGH @YyE (YGH @Yqg (YGH @Yud (YGH @YxI (YGH @YxB (YGH @Yug (YGH @YvL (YGH @YCf (YGH @YxA (YGH @YxH (YGH @YxE (YGH @YxD (YGH @Yue (YGH @YCe (YGH @Yqf (YGH @YxC (YGH @YxF (YGH @Yqh (YGH @Yuf (YGH @YxG (YGH @YC6 (YGH @YuJ (YGH @YyG (YGH @YC7 (YGH @Yrj (YGH @Ym3 (YGH @Ykd (YGH @Yru (@YuL)))))))))))))))))))))))))))))))))))))))))))))))))))))))))))))
def Yc:=YGH @true_imp_iff (YGH @fc_p (YGH @it_p (YGH @it_t (YGH @fc_t (YGH @ne_t (YGH @true_and (YGH @and_true (YGH @imp_self (YGH @decide_eq_true_eq (YGH @decide_eq_false_iff_not (YGH @Bool.not_not (YGH @false_imp_iff (YGH @YGA (YGH @YG0 (YGH @YGC (YGH @and_self (@not_false_eq_true)))))))))))))))))
attribute [go_sem] Option.bind Option.map List.append_nil YGS List.cons_append List.nil_append List.append_eq YGY List.map_nil ite_self
end Go.Vx
namespace Go.Proofs.YtmiclogmkfobgaaGreat
open Go Go.Vx
theorem Yed{i n:Nat}(h:i<n)(hn:n<=9223372036854775807):IntKind.i64.wrap ((i:Int)+1)=((i+1:Nat):Int):=by
 rw[YGd _ (by omega)];simp
theorem Yk{α:Type}[Inhabited α]{l:List α}{i:Nat}(h:i<l.length):l.getD i default∈l:=by
 rw[YGl,List.getElem?_eq_getElem h];exact List.getElem_mem h
theorem YdP{α:Type}[Inhabited α]{l:List α}{x:α}(h:x∈l):∃i,i<l.length/\l.getD i default=x:=by
 obtain⟨j,hj,rfl⟩:=List.getElem_of_mem h
 exact⟨j,hj,by rw[YGl,List.getElem?_eq_getElem hj];rfl⟩
theorem Yfi{α:Type}[Inhabited α]{l:List α}{f:α->Bool}{i:Nat}(h:i<l.length):(l.take (i+1)).all f=((l.take i).all f&&f (l.getD i default)):=by
 rw[List.take_add_one,List.all_append,YGl,List.getElem?_eq_getElem h]
 simp
theorem Yfj{α:Type}[Inhabited α]{l:List α}{f:α->Bool}{i:Nat}(h:i<l.length):(l.take (i+1)).any f=((l.take i).any f|| f (l.getD i default)):=by
 rw[List.take_add_one,List.any_append,YGl,List.getElem?_eq_getElem h]
 simp
theorem Yag{α:Type}[Inhabited α]{l:List α}{i:Nat}(h:i<l.length):l.take (i+1)=l.take i++[l.getD i default]:=by
 rw[List.take_add_one,YGl,List.getElem?_eq_getElem h];rfl
theorem Yr{α β:Type}[Inhabited α]{l:List α}{f:β->α->β}{b:β}{i:Nat}(h:i<l.length):(l.take (i+1)).foldl f b=f ((l.take i).foldl f b) (l.getD i default):=by
 rw[Yag h,List.foldl_append]
 rfl
def YbS(f:Nat->Bool):Nat->Nat->Nat
 |0,k=>k
 |n+1,k=>if f k then k else YbS f n (k+1)
theorem YcP{f:Nat->Bool}:∀(n k:Nat),k<=YbS f n k/\YbS f n k<=n+k/\(∀j,k<=j->j<YbS f n k->f j=false)/\(YbS f n k<n+k->f (YbS f n k)=true)
 |0,k=>⟨YGr _,by simp [YbS],fun j h1 h2=>by simp [YbS]at h2;omega,fun h=>by simp [YbS]at h⟩
 |n+1,k=>by
  unfold YbS
  split
  ·rename_i h;exact⟨YGr _,by omega,fun j h1 h2=>by omega,fun _=>h⟩
  ·rename_i h
   obtain⟨h1,h2,h3,h4⟩:=YcP (f:=f) n (k+1)
   refine⟨by omega,by omega,fun j a b=>?_,fun hlt=>h4 (by omega)⟩
   rcases YGz k j with h'|h'
   ·exact h3 j h' b
   ·obtain rfl:j=k:=by omega
    simpa using h
theorem YgZ{f:Nat->Bool}{n m:Nat}(h1:∀j,j<m->f j=false)(h2:m<=n)(h3:m<n->f m=true):YbS f n 0=m:=by
 obtain⟨a,b,c,d⟩:=YcP (f:=f) n 0
 rcases Nat.lt_trichotomy (YbS f n 0) m with h|h|h
 ·have:=h1 _ h
  rw[d (by omega)]at this;cases this
 ·exact h
 ·have:=c m (YHk _) h
  rw[h3 (by omega)]at this;cases this
theorem YbE{a b c d:Int}(h1:a<=c)(h2:b<=d)(ha:0<=a)(hd:0<=d):a*b<=c*d:=
 Int.le_trans (Int.mul_le_mul_of_nonneg_left h2 ha) (YGE h1 hd)
def noC:CRes:= .pre False (.fin .junk [])
def trueC:Ctr:={ alias:=false,of:=fun a=>match a with
 | []=> .fin (.bool true) []
 |_=>noC}
def lsP{α:Type}[Inhabited α](size:Nat)(e:α->List SV)(n sz:Nat)(get:Nat->List SV)(l:List α):Prop:=sz=size/\n=l.length/\∀k,k<n->leXL (get k) (e (l.getD k default))
def enc2(x:Int×Int):List SV:=[.int .i64 x.1,.int .i64 x.2]
theorem YrL:maxLen=9223372036854775807:=by decide
def Yxv:List Sh:=[.int .i64,.int .i64]
theorem iv_of{c:List SV}(h:okSL Yxv c):∃p:Int×Int,c=enc2 p:=by
 obtain⟨_,_,rfl,⟨n1,rfl,_⟩,e1⟩:=YT h
 obtain⟨_,_,rfl,⟨n2,rfl,_⟩,e2⟩:=YT e1
 cases YfX e2
 exact⟨(n1,n2),rfl⟩
theorem Yvk{α:Type}[Inhabited α]{sh:List Sh}{e:α->List SV}(hof:∀c,okSL sh c->∃a,leXL c (e a)){v:SV}(h:okS (.slice sh) v):∃(z:Bool) (l:List α),l.length<=maxLen/\leX v (.vs false z l.length (Ybd sh) (fun k=>e (l.getD k default))):=by
 obtain⟨z,n,get,rfl,hn,hg⟩:=h
 obtain⟨l,hl,hp⟩:=YyL (P:=fun k a=>leXL (get k) (e a)) fun k hk=>hof _ (hg k hk)
 exact⟨z,l,by rw[hl];exact hn,fun h=>h,rfl,hl.symm,rfl,hp⟩
theorem YCQ{v:SV}(h:okS (.slice Yxv) v):∃(z:Bool) (l:List (Int×Int)),l.length<=maxLen/\leX v (.vs false z l.length 2 (fun k=>enc2 (l.getD k default))):=
 Yvk (fun c hc=>let⟨p,h⟩:=iv_of hc;⟨p,by rw[h];exact Yd _⟩) h
end Go.Proofs.YtmiclogmkfobgaaGreat
