/- Regions that draw their order: the check of a canonical order, by masks. -/
import Derived.Test.YtijadllhfgajlaaGreatMgX3b
import Derived.MapKept
import Derived.WideKeyRuns
import Derived.ProofKit
import Derived.Deep.Slices
import Derived.IntWalk
open And renaming intro->YGV
open Array renaming getElem?_eq_some_iff->YG5
open Bool renaming and_eq_true->YGA,and_true->YHE,false_eq_true->YGM,not_eq_false'->YHe,not_eq_true'->YGP,or_eq_true->YHd,true_and->YHn
open Int renaming mul_le_mul_of_nonneg_right->YGS,toNat->YHQ
open Go.IntWalk renaming i64_in->YGy
open List renaming getD_eq_getElem?_getD->YGB,getElem?_append->YHB,getElem?_append_left->YG4,length_cons->YHF,map_cons->YG6,mem_append->YG2,mem_cons->YGQ,mem_cons_of_mem->YGK,mem_cons_self->YGI,mem_singleton->YHa
open Nat renaming add_zero->YHw,beq->YHf,eq_of_beq_eq_true->YGW,le_of_eq->YHM,le_refl->YGH,lt_of_lt_of_le->YG1,lt_or_ge->YGN,not_lt_zero->YHH,pow_le_pow_right->YGG,succ_mul->YHN,zero_add->YHC,zero_le->YHl
open Option renaming bind_eq_some_iff->YGx,map_eq_some_iff->YGz
set_option linter.all false
namespace Go.Vx
section
variable {md:Region.Mode} {ops:Array Oper}
theorem YhJ{i k:Nat}:(2^i).testBit k=decide (i=k):=Nat.testBit_two_pow
theorem maskL_spec{i:Nat}:∀{l:List Edge},(Yk9 md l).testBit i=true↔∃e∈l,Region.binds md e=true/\e.on=i
 | []=>by simp [Yk9]
 |e::l=>by
   unfold Yk9
   cases hb:Region.binds md e with
   |false=>simp [maskL_spec (l:=l),hb]
   |true=>simp [maskL_spec (l:=l),hb,Nat.testBit_or,YhJ]
theorem YdG{i:Nat}{o:Oper}(h:ops[i]? =some o):(YG md ops).getD i 0=Yk9 md o.after.toList:=by
 simp [YG,h]
theorem Ydq{cl:List Nat}{m i:Nat}:∀{j:Nat},(Ydp cl m j).testBit i=true->∃k,k<j/\m.testBit k=true/\(cl.getD k 0).testBit i=true
 |0,h=>by simp [Ydp]at h
 |j+1,h=>by
   unfold Ydp at h
   cases hb:m.testBit j with
   |false=>
     rw[hb]at h
     obtain⟨k,h1,h2⟩:=Ydq (j:=j) h
     exact⟨k,by omega,h2⟩
   |true=>
     rw[hb]at h
     simp only[cond_true,Nat.testBit_or,YHd]at h
     rcases h with h|h
     . exact⟨j,by omega,hb,h⟩
     . obtain⟨k,h1,h2⟩:=Ydq (j:=j) h
       exact⟨k,by omega,h2⟩
theorem YkM{dm cl:List Nat}:∀{n:Nat},Yf8 dm cl n=true->∀j,j<n->cl.getD j 0=dm.getD j 0||| Ydp cl (dm.getD j 0) j
 |n+1,h,j,hj=>by
   simp only[Yf8,YGA]at h
   rcases YGN j n with h'|h'
   . exact YkM h.2 j h'
   . obtain rfl:j=n:=by omega
     exact YGW h.1
theorem YC1{cl:List Nat}(hl:cl.length=ops.size)(h:Yf8 (YG md ops) cl ops.size=true):YwO md ops (YaD cl):=by
 have small:∀(j i:Nat),YaD cl j i=true->j<ops.size:=by
   intro j i hc
   rcases YGN j ops.size with h'|h'
   . exact h'
   . simp [YaD,YGB,List.getElem?_eq_none (show cl.length<=j by omega)]at hc
 have main:∀(L:Array Bool),Down md ops L->∀(N j i:Nat),j<N->(∀(o:Oper),ops[j]? =some o->∀e∈o.after,Region.binds md e=true->L.getD e.on false=true)->YaD cl j i=true->L.getD i false=true:=by
   intro L hd N
   induction N with
   |zero=>intro j i hj;omega
   |succ N ih=>
     intro j i hj hs hc
     have hjn:=small j i hc
     have ho:ops[j]? =some ops[j]:=Array.getElem?_eq_getElem hjn
     unfold YaD at hc
     rw[YkM h j hjn,Nat.testBit_or,YHd]at hc
     have hdir:∀k,((YG md ops).getD j 0).testBit k=true->L.getD k false=true:=by
       intro k hk
       rw[YdG ho]at hk
       obtain⟨e,he,hb,rfl⟩:=maskL_spec.1 hk
       exact hs _ ho e (by simpa using he) hb
     rcases hc with hc|hc
     . exact hdir i hc
     . obtain⟨k,h1,h2,h3⟩:=Ydq hc
       exact ih k i (by omega) (fun o hok e he hb=>hd.2 k o hok (hdir k h2) e he hb) h3
 refine⟨fun L j i hd hr hc=>?_,fun L j i hd hl hc=>?_⟩
 . obtain⟨_,o,ho,hall⟩:=mem_ready.1 hr
   exact main L hd (j+1) j i (by omega) (fun o' ho' e he hb=>by rw[ho]at ho';cases ho';exact hall e he hb) hc
 . exact main L hd (j+1) j i (by omega) (fun o ho e he hb=>hd.2 j o ho hl e he hb) hc
def Corr(ops:Array Oper)(L:Array Bool)(m:Nat):Prop:=L.size=ops.size/\∀i,L.getD i false=m.testBit i
theorem and_eq_left{a m:Nat}:(a&&&m)=a↔∀k,a.testBit k=true->m.testBit k=true:=by
 constructor
 . intro h k hk
   have:(a&&&m).testBit k=true:=by rw[h];exact hk
   rw[Nat.testBit_and,YGA]at this
   exact this.2
 . intro h
   apply Nat.eq_of_testBit_eq
   intro k
   rw[Nat.testBit_and]
   cases hk:a.testBit k with
   |false=>rfl
   |true=>rw[h k hk];rfl
theorem Ybb{L:Array Bool}{m i:Nat}(hc:Corr ops L m):i∈Region.ready md ops L↔i<ops.size/\Ybn (YG md ops) m i=true:=by
 rw[mem_ready]
 constructor
 . rintro⟨h0,o,ho,hall⟩
   have hi:i<ops.size:=(YG5.1 ho).1
   refine⟨hi,?_⟩
   simp only[Ybn,YGA,YGP]
   have hL:i<L.size:=by rw[hc.1];exact hi
   refine⟨?_,?_⟩
   . rw[<-hc.2 i];simp [hL]at h0⊢;exact h0
   . rw[YdG ho]
     rw[and_eq_left.2 (fun k hk=>?_)]
     . exact Nat.beq_refl _
     . obtain⟨e,he,hb,rfl⟩:=maskL_spec.1 hk
       rw[<-hc.2];exact hall e (by simpa using he) hb
 . rintro⟨hi,hr⟩
   simp only[Ybn,YGA,YGP]at hr
   have ho:ops[i]? =some ops[i]:=Array.getElem?_eq_getElem hi
   have hL:i<L.size:=by rw[hc.1];exact hi
   refine⟨?_,_,ho,fun e he hb=>?_⟩
   . have:=hr.1
     rw[<-hc.2 i]at this
     simp [hL]at this⊢;exact this
   . have:=and_eq_left.1 (YGW hr.2)
     rw[hc.2]
     refine this e.on ?_
     rw[YdG ho]
     exact maskL_spec.2 ⟨e,by simpa using he,hb,rfl⟩
theorem Ynl{L:Array Bool}{m i:Nat}(hc:Corr ops L m)(hi:i<ops.size):Corr ops (L.setIfInBounds i true) (m||| 2^i):=by
 refine⟨by simp [hc.1],fun k=>?_⟩
 rw[Nat.testBit_or,YhJ]
 by_cases h:i=k
 . subst h
   simp [hc.1,hi]
 . rw[getD_set_ne false h,hc.2];simp [h]
theorem Ydl{dm:List Nat}{m:Nat}:∀{n:Nat},Ydk dm m n=true->∀k,k<n->Ybn dm m k=false
 |n+1,h,k,hk=>by
   simp only[Ydk,YGA,YGP]at h
   rcases YGN k n with h'|h'
   . exact Ydl h.2 k h'
   . obtain rfl:k=n:=by omega
     exact h.1
theorem Ydo{dm:List Nat}{m i:Nat}:∀{n:Nat},Ydn dm m i n=true->∀k,k<n->Ybn dm m k=true->k=i
 |n+1,h,k,hk,hr=>by
   simp only[Ydn,YGA,YHd,YGP]at h
   rcases YGN k n with h'|h'
   . exact Ydo h.2 k h' hr
   . obtain rfl:k=n:=by omega
     rcases h.1 with h1|h1
     . exact YGW h1
     . rw[hr]at h1;cases h1
def seqS{σ:Type}(step:Nat->Array Bool->(σ->Prop)->σ->Prop)(K:σ->Prop):List Nat->Array Bool->σ->Prop
 | [],_,s=>K s
 |i::l,L,s=>step i L (seqS step K l (L.setIfInBounds i true)) s
theorem Ysw{σ:Type}{step:Nat->Array Bool->(σ->Prop)->σ->Prop}{K:σ->Prop}{free:Nat->Bool}
   (mono:∀(j:Nat) (L:Array Bool) (s:σ) (A B:σ->Prop),(∀s,A s->B s)->step j L A s->step j L B s)
   (strict:∀i L s,free i=true->¬step i L (fun _=>False) s)
   (exch:∀(i:Nat),free i=true->∀(j:Nat) (L:Array Bool) (s:σ) (A:σ->Prop),Down md ops L->i∈Region.ready md ops L->j∈Region.ready md ops L->j≠i->step i L (step j (L.setIfInBounds i true) A) s->step j L (step i (L.setIfInBounds j true) A) s):
   ∀(l:List Nat)(m:Nat)(L:Array Bool)(s:σ),seqB free (YG md ops) ops.size l m=true->Corr ops L m->Down md ops L->seqS step K l L s->anyS step K md ops l.length L s
 | [],m,L,s,hb,hc,hd,h=>by
   refine⟨?_,h⟩
   cases hr:Region.ready md ops L with
   |nil=>rfl
   |cons x r=>
     have hx:x∈Region.ready md ops L:=by rw[hr];exact YGI
     have:=(Ybb hc).1 hx
     rw[Ydl hb x this.1]at this
     exact absurd this.2 (by simp)
 |i::l,m,L,s,hb,hc,hd,h=>by
   simp only[seqB,YGA,YHd]at hb
   obtain⟨⟨⟨h1,h2⟩,h3⟩,h4⟩:=hb
   have hin:i<ops.size:=by have:=Nat.le_of_ble_eq_true h1;omega
   have hri:i∈Region.ready md ops L:=(Ybb hc).2 ⟨hin,h2⟩
   have hrest:=mono i L s _ _ (fun s' hs'=>Ysw mono strict exch l _ _ s' h4 (Ynl hc hin) (hd.set hri) hs') h
   rcases h3 with h3|h3
   . exact Yia mono (fun L s=>strict i L s h3) (exch i h3) _ L s hd hri hrest
   . refine⟨fun h0=>(by rw[h0]at hri;cases hri),fun j hj=>?_⟩
     obtain⟨hjn,hrj⟩:=(Ybb hc).1 hj
     obtain rfl:=Ydo h3 j hjn hrj
     exact hrest
def Yo4{σ:Type}(step:Nat->Array Bool->(σ->Prop)->σ->Prop)(K:σ->Prop):OT->Array Bool->σ->Prop
 | .nil,_,s=>K s
 | .op i t,L,s=>step i L (Yo4 step K t (L.setIfInBounds i true)) s
 | .br a b,L,s=>Yo4 step K a L s/\Yo4 step K b L s
theorem YkO{dm:List Nat}{m:Nat}{hs:List Nat}:∀{n:Nat},Ynm dm m hs n=true->∀k,k<n->Ybn dm m k=true->k∈hs
 |n+1,h,k,hk,hr=>by
   simp only[Ynm,YGA,YHd,YGP]at h
   rcases YGN k n with h'|h'
   . exact YkO h.2 k h' hr
   . obtain rfl:k=n:=by omega
     rcases h.1 with h1|h1
     . exact List.contains_iff_mem.1 h1
     . rw[hr]at h1;cases h1
theorem YeG{free:Nat->Bool}{dm:List Nat}{n:Nat}:∀{t:OT}{m:Nat}{ex:Bool},Ycx free dm n t m ex=true->∀i∈t.heads,i<n/\Ybn dm m i=true
 | .nil,_,_,_,i,hi=>by cases hi
 | .op j t,m,ex,h,i,hi=>by
   simp only[Ycx,YGA]at h
   obtain rfl:i=j:=by simpa [OT.heads]using hi
   exact⟨by have:=Nat.le_of_ble_eq_true h.1.1.1;omega,h.1.1.2⟩
 | .br a b,m,ex,h,i,hi=>by
   simp only[Ycx,YGA]at h
   rcases YG2.1 hi with hi|hi
   . exact YeG h.1.2 i hi
   . exact YeG h.2 i hi
theorem Yip{free:Nat->Bool}{dm:List Nat}{n:Nat}:∀{t:OT}{m:Nat},Ycx free dm n t m true=true->∃i,i∈t.heads
 | .nil,_,h=>by simp [Ycx]at h
 | .op j t,_,_=>⟨j,by simp [OT.heads]⟩
 | .br a b,m,h=>by
   simp only[Ycx,YGA]at h
   obtain⟨i,hi⟩:=Yip h.1.2
   exact⟨i,List.mem_append_left _ hi⟩
theorem Yrt{free:Nat->Bool}{dm:List Nat}{n:Nat}:∀{t:OT}{m:Nat},Ycx free dm n t m true=true->∃k,t.len=k+1
 | .nil,_,h=>by simp [Ycx]at h
 | .op j t,_,_=>⟨t.len,rfl⟩
 | .br a b,m,h=>by
   simp only[Ycx,YGA]at h
   show∃k,a.len=k+1
   exact Yrt h.1.2
theorem YgQ{σ:Type}{step:Nat->Array Bool->(σ->Prop)->σ->Prop}{K:σ->Prop}{free:Nat->Bool}
   (mono:∀(j:Nat) (L:Array Bool) (s:σ) (A B:σ->Prop),(∀s,A s->B s)->step j L A s->step j L B s)
   (strict:∀i L s,free i=true->¬step i L (fun _=>False) s)
   (exch:∀(i:Nat),free i=true->∀(j:Nat) (L:Array Bool) (s:σ) (A:σ->Prop),Down md ops L->i∈Region.ready md ops L->j∈Region.ready md ops L->j≠i->step i L (step j (L.setIfInBounds i true) A) s->step j L (step i (L.setIfInBounds j true) A) s):
   ∀(t:OT)(m:Nat)(ex:Bool)(L:Array Bool)(s:σ),Ycx free (YG md ops) ops.size t m ex=true->Corr ops L m->Down md ops L->Yo4 step K t L s->
     (ex=false->anyS step K md ops t.len L s)/\∀i∈t.heads,∀k,t.len=k+1->step i L (anyS step K md ops k (L.setIfInBounds i true)) s
 | .nil,m,ex,L,s,hb,hc,hd,h=>by
   simp only[Ycx,YGA]at hb
   refine⟨fun _=>⟨?_,h⟩,fun i hi=>by cases hi⟩
   cases hr:Region.ready md ops L with
   |nil=>rfl
   |cons x r=>
     have hx:x∈Region.ready md ops L:=by rw[hr];exact YGI
     have:=(Ybb hc).1 hx
     rw[Ydl hb.2 x this.1]at this
     exact absurd this.2 (by simp)
 | .op i t,m,ex,L,s,hb,hc,hd,h=>by
   have hb0:=hb
   simp only[Ycx,YGA,YHd]at hb
   obtain⟨⟨⟨h1,h2⟩,h3⟩,h4⟩:=hb
   have hin:i<ops.size:=by have:=Nat.le_of_ble_eq_true h1;omega
   have hri:i∈Region.ready md ops L:=(Ybb hc).2 ⟨hin,h2⟩
   have hrest:=mono i L s _ _ (fun s' hs'=>(YgQ mono strict exch t _ false _ s' h4 (Ynl hc hin) (hd.set hri) hs').1 rfl) h
   refine⟨fun hex=>?_,fun j hj k hk=>?_⟩
   . rcases h3 with(h3|h3) |h3
     . rw[hex]at h3;cases h3
     . exact Yia mono (fun L s=>strict i L s h3) (exch i h3) _ L s hd hri hrest
     . refine⟨fun h0=>(by rw[h0]at hri;cases hri),fun j hj=>?_⟩
       obtain⟨hjn,hrj⟩:=(Ybb hc).1 hj
       obtain rfl:=Ydo h3 j hjn hrj
       exact hrest
   . obtain rfl:j=i:=by simpa [OT.heads]using hj
     obtain rfl:t.len=k:=by simpa [OT.len]using hk
     exact hrest
 | .br a b,m,ex,L,s,hb,hc,hd,h=>by
   have hb0:=hb
   simp only[Ycx,YGA,YHd]at hb
   obtain⟨⟨⟨h1,h2⟩,h3⟩,h4⟩:=hb
   have hl:a.len=b.len:=YGW h2
   have ha:=(YgQ mono strict exch a m true L s h3 hc hd h.1).2
   have hb':=(YgQ mono strict exch b m true L s h4 hc hd h.2).2
   have hall:∀i∈(OT.br a b).heads,∀k,(OT.br a b).len=k+1->step i L (anyS step K md ops k (L.setIfInBounds i true)) s:=by
     intro i hi k hk
     rcases YG2.1 hi with hi|hi
     . exact ha i hi k hk
     . exact hb' i hi k (by rw[<-hl];exact hk)
   refine⟨fun hex=>?_,hall⟩
   rcases h1 with h1|h1
   . rw[hex]at h1;cases h1
   . obtain⟨k,hk⟩:=Yrt h3
     show anyS step K md ops a.len L s
     rw[hk]
     refine⟨fun h0=>?_,fun j hj=>?_⟩
     . obtain⟨i,hi⟩:=Yip h3
       have:=(Ybb hc).2 (YeG h3 i hi)
       rw[h0]at this;cases this
     . obtain⟨hjn,hrj⟩:=(Ybb hc).1 hj
       exact hall j (YkO h1 j hjn hrj) k hk
theorem Yha:Down md ops (Array.replicate ops.size false):=by
 refine⟨by simp,fun i o _ h=>?_⟩
 exfalso
 rcases YGN i ops.size with h'|h'
 . simp [h']at h
 . simp [Array.getElem?_eq_none,h']at h
theorem YkN:Corr ops (Array.replicate ops.size false) 0:=by
 refine⟨by simp,fun i=>?_⟩
 rcases YGN i ops.size with h'|h'
 . simp [h']
 . simp [Array.getElem?_eq_none,h']
end
end Go.Vx
namespace Go.Vx
open Go.RowKit
structure Pend where
 idx:Nat
 slot:Nat
 cells:AL
def YQ:List SV->List Pend->List SV
 |fr,[]=>fr
 |fr,p::l=>setL (YQ fr l) p.slot .junk
def YD:List HO->List Pend->List HO
 |hp,[]=>hp
 |hp,p::l=>setH (YD hp l) p.idx .gone
theorem AL.ho_ne(z:AL):z.ho≠ .gone:=by cases z <;> (intro h;cases h)
def er(Pd:List Pend)(s:S):S:={ fr:=YQ s.fr Pd,saved:=s.saved,hp:=YD s.hp Pd}
def PR(w0:Cx)(Pd:List Pend)(s:S)(a:Act)(sv:List Act)(w:World):Prop:=
 Rl w0 (er Pd s) a sv w/\∀p∈Pd,getH s.hp p.idx=p.cells.ho/\setL s.fr p.slot (.ptr p.idx 0)=s.fr
section
variable {Pd:List Pend} {hp:List HO} {fr:List SV}
theorem Ya8:∀(Pd:List Pend),lenH (YD hp Pd)=lenH hp
 | []=>rfl
 |p::l=>by rw[YD,YcL,Ya8 l]
theorem Ycd:∀{Pd:List Pend}{n:Nat},(∀p∈Pd,p.slot≠n)->getL (YQ fr Pd) n=getL fr n
 | [],_,_=>rfl
 |p::l,n,h=>by
   rw[YQ,YbG _ _ _ _ (h p YGI),Ycd fun q hq=>h q (YGK _ hq)]
theorem Ydg:∀{Pd:List Pend}{n:Nat},(∀p∈Pd,p.idx≠n)->getH (YD hp Pd) n=getH hp n
 | [],_,_=>rfl
 |p::l,n,h=>by
   rw[YD,YS _ _ _ _ (h p YGI),Ydg fun q hq=>h q (YGK _ hq)]
theorem Ydf:∀{Pd:List Pend}{p:Pend},p∈Pd->getH (YD hp Pd) p.idx= .gone
 |q::l,p,h=>by
   rw[YD]
   by_cases he:q.idx=p.idx
   . rw[he]
     rcases YGN p.idx (lenH (YD hp l))with hl|hl
     . rw[YaW _ _ _ hl]
     . rw[Ybh _ _ (by rw[YcL];exact hl)]
   . rw[YS _ _ _ _ he]
     rcases YGQ.1 h with rfl|h
     . exact absurd rfl he
     . exact Ydf h
theorem Ybr:∀{Pd:List Pend}{n:Nat}{x:SV},(∀p∈Pd,p.slot≠n)->YQ (setL fr n x) Pd=setL (YQ fr Pd) n x
 | [],_,_,_=>rfl
 |p::l,n,x,h=>by
   rw[YQ,YQ,Ybr (fun q hq=>h q (YGK _ hq)),Ycu _ _ _ _ _ (fun e=>h p YGI e.symm)]
theorem YhE:∀(l:List HO)(n m:Nat)(x y:HO),n≠m->setH (setH l n x) m y=setH (setH l m y) n x
 | [],_,_,_,_,_=>rfl
 |_::_,0,0,_,_,h=>absurd rfl h
 |_::_,0,_+1,_,_,_=>rfl
 |_::_,_+1,0,_,_,_=>rfl
 |a::l,n+1,m+1,x,y,h=>congrArg (a::·) (YhE l n m x y (fun e=>h (by rw[e])))
theorem YeF:∀{Pd:List Pend}{n:Nat}{x:HO},(∀p∈Pd,p.idx≠n)->YD (setH hp n x) Pd=setH (YD hp Pd) n x
 | [],_,_,_=>rfl
 |p::l,n,x,h=>by
   rw[YD,YD,YeF (fun q hq=>h q (YGK _ hq)),YhE _ _ _ _ _ (fun e=>h p YGI e.symm)]
theorem Yoh:∀(a b:List HO)(n:Nat)(x:HO),n<lenH a->setH (a++b) n x=setH a n x++b
 | [],_,_,_,h=>by simp [lenH]at h
 |_::_,_,0,_,_=>rfl
 |y::a,b,n+1,x,h=>congrArg (y::·) (Yoh a b n x (by simpa [lenH]using h))
theorem Yj6:∀(a:List HO)(x:HO),Ybx a x=a++[x]
 | [],_=>rfl
 |y::a,x=>congrArg (y::·) (Yj6 a x)
theorem YcH{hs:List HO}:∀{Pd:List Pend},(∀p∈Pd,p.idx<lenH hp)->YD (hp++hs) Pd=YD hp Pd++hs
 | [],_=>rfl
 |p::l,h=>by
   rw[YD,YD,YcH (fun q hq=>h q (YGK _ hq)),Yoh _ _ _ _ (by rw[Ya8];exact h p YGI)]
theorem Ydh{x:HO}(h:∀p∈Pd,p.idx<lenH hp):YD (Ybx hp x) Pd=Ybx (YD hp Pd) x:=by
 rw[Yj6,Yj6,YcH h]
theorem YjL{w:World}{bs:List BK}{B:Bd}{i:Nat}{x:BK}(hH:Hp w bs B (YD hp Pd))(hb:bs[i]? =some x)(hx:x≠ .gone):(∀p∈Pd,p.idx≠i)/\getH (YD hp Pd) i=getH hp i:=by
 have:∀p∈Pd,p.idx≠i:=by
   rintro p hp rfl
   have:=hH.ent p.idx
   rw[Ydf hp]at this
   rcases this with h|h
   . rw[hb]at h;cases h;exact hx rfl
   . rw[hb]at h;cases h
 exact⟨this,Ydg this⟩
theorem hpV{w:World}{bs:List BK}{B:Bd}(hH:Hp w bs B (YD hp Pd)):HpV w bs B hp:=
 ⟨fun i x hb hx=>by have:=hH.ent i;rw[(YjL hH hb hx).2]at this;exact this,fun _ _ _ _ hb=>hH.le hb,hH.lo,fun _ _ _ _ hb=>hH.un hb⟩
theorem Yi9{w:World}{bs:List BK}{B:Bd}{b:Nat}:∀{x:SV}{v:Value},Rep w bs B x v->blk x=some b->∃y,bs[b]? =some y/\y≠ .gone
 |_,_,.x _ _ h,hb=>by cases h <;> cases hb
 |_,_,.agg _ _ _,hb=>by cases hb
 |_,_,.tup _ _ _,hb=>by cases hb
 |_,_,.fn _ _ _ _ _ _ _,hb=>by cases hb
 |_,_,.iface _ _ _ _,hb=>by cases hb
 |_,_,.ptr i off b' n h,hb=>by cases hb;exact⟨_,h,by simp⟩
 |_,_,.own i lo n size b' cap m ad h hl ha,hb=>by cases hb;exact⟨_,h,by simp⟩
 |_,_,.ownNil i size h,hb=>by cases hb;exact⟨_,h,by simp⟩
 |_,_,.elem i k off size b' cap m h hk,hb=>by cases hb;exact⟨_,h,by simp⟩
 |_,_,.smp _ _ _,hb=>by cases hb
 |_,_,.optT _ _ _,hb=>by cases hb
 |_,_,.optF _,hb=>by cases hb
 |_,_,.cut _ _ _ _ h,hb=>Yi9 h hb
theorem Yq2{w:World}{bs:List BK}{B:Bd}{xs:List SV}{vs:List Value}(h:RepL w bs B xs vs):∃v,Rep w bs B (Yc0 xs) v:=by
 cases h with
 |nil=>exact⟨undef,.x _ _ (.junk _)⟩
 |cons x v l vs h h'=>exact⟨v,h⟩
theorem Ye2{w:World}{bs:List BK}{B:Bd}{b:Nat}{xs:List SV}{vs:List Value}(hH:Hp w bs B (YD hp Pd))(h:RepL w bs B xs vs)(hb:blk (Yc0 xs)=some b):(∀p∈Pd,p.idx≠b)/\getH (YD hp Pd) b=getH hp b:=by
 obtain⟨v,hv⟩:=Yq2 h
 obtain⟨y,h1,h2⟩:=Yi9 hv hb
 exact YjL hH h1 h2
theorem YsK{hp hp':List HO}{n n':Nat}{o:VO}(ho:o.isStore=true){xs:List SV}(h:∀b,blk (Yc0 xs)=some b->getH hp' b=getH hp b):eff hp' n' o xs=eff hp n o xs:=by
 cases o <;> simp only[VO.isStore,reduceCtorEq]at ho
 rename_i size
 rcases xs with _| ⟨a,_| ⟨v,_| ⟨c,l⟩⟩⟩ <;> try rfl
 have key:storeAt hp' size (YaI v) a=storeAt hp size (YaI v) a:=by
   cases a <;> try rfl
   case ptr i off=>have:=h i rfl;simp only[storeAt,this]
   case elem i k off sz=>have:=h i rfl;simp only[storeAt,this]
 simp only[eff,Yii,key]
theorem Yq3{hp hp':List HO}{n:Nat}{o:VO}(hq:o.quiet=false)(ha:o.isAppend=false)(hbad:o.bad=false){xs:List SV}(h:∀b,blk (Yc0 xs)=some b->getH hp' b=getH hp b):eff hp' n o xs=eff hp n o xs:=by
 cases hs:o.isStore with
 |true=>exact YsK hs h
 |false=>cases o <;> simp only[VO.quiet,VO.isStore,VO.isAppend,VO.bad,reduceCtorEq]at hq hs ha hbad <;> rfl
end
end Go.Vx
namespace Go.Vx
open Go.RowKit
open Go.MapKept (run_setObj_map modify_keys)
section
variable {P:Program} {ρ:Operand->Value} {w w':World} {bs bs':List BK} {B:Bd} {hp:List HO}
def Bd.cx(B:Bd)(w:World):Cx0:={ toWorld:=w,F:=fun b=>B.I b=none,I:=B.I,up:=fun _ _ h=>h,ex:=fun _ h=>h}
def bdZ:Bd:=⟨0,fun _=>True,fun _=>none,fun _ _ _=>trivial,fun _ _=>rfl⟩
theorem YuQ{kk:List IntKind}:∀{l l':List Int},l.length=kk.length->l'.length=kk.length->keyV kk l=keyV kk l'->l=l':=by
 intro l l' h1 h2 h
 simp only[keyV,Value.agg.injEq]at h
 have h:(kk.zip l).map (fun p=>Value.int p.1 p.2)=(kk.zip l').map (fun p=>Value.int p.1 p.2):=by simpa using congrArg Array.toList h
 induction kk generalizing l l' with
 |nil=>cases l <;> cases l' <;> simp at h1 h2⊢
 |cons k kk ih=>
   cases l with
   |nil=>simp at h1
   |cons x l=>
     cases l' with
     |nil=>simp at h2
     |cons y l'=>
       simp only[List.zip_cons_cons,YG6,List.cons.injEq,Value.int.injEq,true_and]at h
       rw[h.1,ih (by simpa using h1) (by simpa using h2) (by simp [keyV,h.2]) h.2]
def Ygq(kk:List IntKind)(l:List Int):List Value:=(kk.zip l).map fun p=> .int p.1 p.2
def YoH(kk:List IntKind)(l:List Int):List SV:=(kk.zip l).map fun p=> .int p.1 p.2
theorem Yk2{kk:List IntKind}{l:List Int}:RepL w bs B (YoH kk l) (Ygq kk l):=by
 unfold YoH Ygq
 induction kk.zip l with
 |nil=>exact .nil
 |cons p r ih=>exact .cons _ _ _ _ (.x _ _ (.int _ _)) ih
theorem Yk5:∀{fs:List Field}{k:Nat}{kk:List IntKind},Ydj P k fs=some kk->YeH P k fs=some (kk.map fun _=>true)
 | [],k,kk,h=>by simp only[Ydj,Option.some.injEq]at h;subst h;rfl
 |f::fs,k,kk,h=>by
   simp only[Ydj]at h
   split at h
   . rename_i hc
     split at h
     . rename_i kd hu
       obtain⟨kk',h1,rfl⟩:=YGz.1 h
       simp only[YeH]
       rw[if_pos hc]
       simp [Ygd,hu,Yk5 h1]
     . cases h
   . cases h
theorem Yv0:∀{kk:List IntKind}{l l':List Int},l.length=kk.length->l'.length=kk.length->∃p,YbP (kk.map fun _=>true) (YoH kk l) (YoH kk l')=some (p,decide (l=l'))/\p
 | [],l,l',h1,h2=>by
   cases l <;> cases l' <;> simp at h1 h2
   exact⟨True,by simp [YoH,YbP],trivial⟩
 |k::kk,l,l',h1,h2=>by
   cases l with
   |nil=>simp at h1
   |cons x l=>
     cases l' with
     |nil=>simp at h2
     |cons y l'=>
       obtain⟨p,h3,h4⟩:=Yv0 (kk:=kk) (l:=l) (l':=l') (by simpa using h1) (by simpa using h2)
       refine⟨k=k/\p,?_,rfl,h4⟩
       simp only[YoH,YG6,List.zip_cons_cons,YbP]
       have h3':YbP (kk.map fun _=>true) ((kk.zip l).map fun p=> .int p.1 p.2) ((kk.zip l').map fun p=> .int p.1 p.2)=some (p,decide (l=l')):=h3
       rw[h3']
       simp
theorem Yho{t:TypeId}{kk:List IntKind}(h:Ycf P t=some kk):∃k e fs,P.underlying t=some (.map k e)/\P.underlying k=some (.struct fs)/\P.stoodInHeld k=false/\Ydj P 0 fs.toList=some kk/\(∀w:World,(zeroValue e).run P w= .ok (.int .i64 0) w):=by
 unfold Ycf at h
 split at h
 . rename_i k e hu
   split at h
   . rename_i fs hk
     split at h
     . rename_i hc
       simp only[YGA,YGP]at hc
       refine⟨k,e,fs,hu,hk,hc.2,h,fun w=>?_⟩
       have hz:=hc.1
       unfold YwN at hz
       split at hz
       . rename_i i hi
         split at hz
         . rename_i hz0
           simp [zeroValue,typeInfo,hi,hz0]
         . cases hz
       . cases hz
     . cases h
   . cases h
 . cases h
theorem Yst{k:TypeId}{fs:Array Field}{kk:List IntKind}(hk:P.underlying k=some (.struct fs))(hs:P.stoodInHeld k=false)(hi:Ydj P 0 fs.toList=some kk){l l':List Int}(h1:l.length=kk.length)(h2:l'.length=kk.length):
   (Op.equal k (keyV kk l) (keyV kk l')).run P w= .ok (decide (l=l')) w:=by
 obtain⟨p,h3,h4⟩:=Yv0 h1 h2
 have hu':P.underlying k=some (.struct (P.fieldsOf k)):=by simp [Program.fieldsOf,hk]
 have hf:(P.fieldsOf k).toList=fs.toList:=by simp [Program.fieldsOf,hk]
 have hrun:=run_equalIn_struct (P:=P) w 9999 k (Ygq kk l).toArray (Ygq kk l').toArray hu' hs
 rw[hf,YeD (d:=9998) (X:=Ygq kk l) (Y:=Ygq kk l') (bs:=[]) (B:=bdZ) (Yk5 hi) h3 h4 (by simpa using Yk2) (by simpa using Yk2)]at hrun
 simpa [Op.equal,Op.maxDepth,keyV,Ygq]using hrun
theorem YbL{k:TypeId}{fs:Array Field}{kk:List IntKind}(hk:P.underlying k=some (.struct fs))(hs:P.stoodInHeld k=false)(hi:Ydj P 0 fs.toList=some kk){l:List Int}(h1:l.length=kk.length):
   ∀(es:List MapEntry)(i:Nat),(∀e∈es,∃l,l.length=kk.length/\e.key=keyV kk l)->
     ((Instr.findAsking k (keyV kk l) es i).run P w= .ok none w)\/∃j e,(Instr.findAsking k (keyV kk l) es i).run P w= .ok (some (i+j,e.val)) w/\es[j]? =some e/\e.key=keyV kk l
 | [],i,_=> .inl rfl
 |e::es,i,h=>by
   obtain⟨l',h2,h3⟩:=h e YGI
   have hq:=Yst (w:=w) hk hs hi h1 h2
   unfold Instr.findAsking
   rw[h3]
   simp only[Sem.run_bind,hq,Result.andThen_ok]
   by_cases hl:l=l'
   . right
     refine⟨0,e,by simp [hl],rfl,by rw[h3,hl]⟩
   . simp only[hl,decide_false,YGM,if_false]
     rcases YbL hk hs hi h1 es (i+1) (fun e he=>h e (YGK _ he))with h4| ⟨j,e',h4,h5,h6⟩
     . exact .inl h4
     . exact .inr ⟨j+1,e',by rw[h4,show i+1+j=i+(j+1)by omega],by simpa using h5,h6⟩
theorem YdV{kk:List IntKind}{l:List Int}{k:TypeId}{fs:Array Field}(hk:P.underlying k=some (.struct fs))(hi:Ydj P 0 fs.toList=some kk)(h1:l.length=kk.length)(em:Bool):(Instr.checkKey em 10000 k (keyV kk l)).run P w= .ok () w:=by
 have key:∀(gs:List Field)(j:Nat)(kj:List IntKind)(lj:List Int)(X:List Value),Ydj P j gs=some kj->lj.length=kj.length->X.drop j=Ygq kj lj->
     (forIn gs PUnit.unit (fun(f:Field) (_:PUnit)=>(if f.name≠ "_" then do let a<-part f.type X.toArray f.offset;Instr.checkKey em 9999 f.type a;pure (ForInStep.yield PUnit.unit)else pure (ForInStep.yield PUnit.unit):Sem (ForInStep PUnit)))).run P w= .ok PUnit.unit w:=by
   intro gs
   induction gs with
   |nil=>intro j kj lj X _ _ _;simp
   |cons f gs ih=>
     intro j kj lj X hkj hlj hX
     simp only[Ydj]at hkj
     split at hkj
     . rename_i hc
       simp only[YGA,beq_iff_eq,bne_iff_ne,ne_eq]at hc
       obtain⟨⟨c1,c2⟩,c3⟩:=hc
       split at hkj
       . rename_i kd hu
         obtain⟨kj',hk',rfl⟩:=YGz.1 hkj
         cases lj with
         |nil=>simp at hlj
         |cons x lj=>
           have hX':X.drop j= .int kd x::Ygq kj' lj:=by rw[hX];rfl
           obtain⟨d1,d2⟩:=YaJ hX'
           have hp:(part f.type X.toArray f.offset).run P w= .ok (.int kd x) w:=by
             rw[c2]
             exact Ydx (b:=true) (by simp [Ygd,hu]) d1
           have hck:(Instr.checkKey em 9999 f.type (.int kd x)).run P w= .ok () w:=by
             unfold Instr.checkKey
             simp [run_underlying hu,Result.andThen]
           have ih':=ih (j+1) kj' lj X hk' (by simpa using hlj) d2
           simp only[List.forIn_cons,Sem.run_bind,ne_eq,c3,not_false_eq_true,if_true,hp,Result.andThen_ok,hck,Sem.run_pure]
           exact ih'
       . cases hkj
     . cases hkj
 have:=key fs.toList 0 kk l (Ygq kk l) hi h1 rfl
 unfold Instr.checkKey
 simp only[Sem.run_bind,run_underlying hk,Result.andThen_ok,keyV]
 rw[<-Array.forIn_toList]
 simp [Ygq]at this⊢
 rw[this]
 rfl
theorem Yj1{kk:List IntKind}{l:List Int}:Instr.sameBits 10000 (keyV kk l) (keyV kk l)=true:=by
 have h:∀(vs:List (IntKind×Int)),((vs.map fun p=>Value.int p.1 p.2).zip (vs.map fun p=>Value.int p.1 p.2)).all (fun(x,y)=>Instr.sameBits 9999 x y)=true:=by
   intro vs
   induction vs with
   |nil=>rfl
   |cons p r ih=>simp only[YG6,List.zip_cons_cons,List.all_cons,ih,YHE];simp [Instr.sameBits]
 unfold keyV Instr.sameBits
 simp only[beq_self_eq_true,YHn]
 exact h (kk.zip l)
theorem YjF:∀{kk:List IntKind}{cs:List SV}{p:Prop}{l:List Int}{vs:List Value},YjE kk cs=some (p,l)->p->RepL w bs B cs vs->vs=Ygq kk l/\l.length=kk.length
 | [],cs,p,l,vs,h,hp,hr=>by
   cases cs with
   |nil=>simp only[YjE,Option.some.injEq,Prod.mk.injEq]at h;obtain⟨_,rfl⟩:=h;cases hr;exact⟨rfl,rfl⟩
   |cons=>simp [YjE]at h
 |k::kk,cs,p,l,vs,h,hp,hr=>by
   cases cs with
   |nil=>simp [YjE]at h
   |cons c cs=>
     cases c <;> simp only[YjE,reduceCtorEq]at h
     rename_i k' x
     obtain⟨⟨q,r⟩,h1,h2⟩:=YGz.1 h
     simp only[Prod.mk.injEq]at h2
     obtain⟨rfl,rfl⟩:=h2
     obtain⟨rfl,hq⟩:=hp
     obtain⟨v,vs',rfl,g1,g2⟩:=hr.cons_inv
     obtain⟨rfl,hl⟩:=YjF h1 hq g2
     rw[g1.int_inv]
     exact⟨rfl,by simp [hl]⟩
theorem hp0{z:Cx0}{w':World}{J:Nat->Option IK}{hJ:Ext z J}(h:∀(b:Nat) (K:IK),J b=some K->∃o,w'.heap[b]? =some o/\K.ok o):Hp w' [] (z.wI J hJ).bd []:=
 ⟨rfl,fun i=> .inr (by simp),fun _ _ _ _ _ _ _ h=>by simp at h,fun _ _ _ _ h=>by simp at h,fun b K hb=>⟨Ybq,h b K hb⟩⟩
theorem Yac(z:Cx0):Ext z z.I:=⟨fun _ _=>rfl,fun _ _ h=>h⟩
def POk(P:Program)(ρ:Operand->Value)(op:Op)(w:World)(B:Bd)(k:SV->List HO->Prop):Prop:=
 ∃r v w' x J,∃hJ:Ext (B.cx w) J,(∀dst type pos after guard,(execOp ρ ⟨dst,op,type,pos,after,guard⟩).run P w= .ok r w')/\(r= .value v\/(r= .skip/\v=undef))/\k x []/\
   Rep w' [] ((B.cx w).wI J hJ).bd x v/\Hp w' [] ((B.cx w).wI J hJ).bd []/\BelowI (B.cx w).bd w w'/\Yl x
theorem Ygm{b:Nat}{o:Obj}{K:IK}(hw:Wrote w w' b o)(hI:B.I b=some K):BelowI (B.cx w).bd w w':=
 ⟨hw.os,hw.tape,hw.output,YHM hw.size.symm,fun k hk hIk=>hw.other k (by rintro rfl;have h:B.I k=none:=hIk;rw[hI]at h;cases h)⟩
theorem YlT(hH:Hp w bs B hp){b:Nat}{o:Obj}{K:IK}(hw:Wrote w w' b o)(hI:B.I b=some K)(ho:K.ok o):∀(b:Nat)(K:IK),B.I b=some K->∃o,w'.heap[b]? =some o/\K.ok o:=by
 intro b' K' hI'
 by_cases hb:b'=b
 . subst hb
   rw[hI]at hI';cases hI'
   exact⟨o,hw.at_,ho⟩
 . obtain⟨_,o',h1,h2⟩:=hH.reg b' K' hI'
   exact⟨o',by rw[hw.other b' hb];exact h1,h2⟩
theorem YlF{b:Nat}{o o':Obj}(hb:w.heap[b]? =some o):Wrote w { w with heap:=w.heap.setIfInBounds b o'} b o':=by
 have hbl:b<w.heap.size:=(YG5.1 hb).1
 exact⟨rfl,rfl,rfl,by simp,by simp [hbl],fun r hr=>by simp [Ne.symm hr]⟩
inductive Yov (P:Program):Op->VO->List Operand->Prop where
 |load (t:TypeId) (a:Operand) (g:Bool) (s:Nat) (hg:Yet P t=some g) (hs:sizeOf? P t=some s) (hc:chk g s=true):Yov P (.load t a) (.load g s) [a]
 |store (t:TypeId) (a x:Operand) (s:Nat) (hs:sizeOf? P t=some s):Yov P (.store t a x) (.store s) [a,x]
 |mk (t:TypeId) (kk:List IntKind) (h:Ycf P t=some kk):Yov P (.makeMap t none) (.mkMap kk) []
 |get (t:TypeId) (m k:Operand) (kk:List IntKind) (h:Ycf P t=some kk):Yov P (.lookup t m k true) (.mapGet kk) [m,k]
 |put (t:TypeId) (m k x:Operand) (kk:List IntKind) (h:Ycf P t=some kk):Yov P (.mapUpdate t m k x) (.mapPut kk) [m,k,x]
theorem YvR{op:BinOp}{t:TypeId}{v:VO}(hv:vbin P op t=some v)(xs:List SV):psd v xs=none:=by
 cases op <;> simp only[vbin]at hv
 . split at hv <;> cases hv;rfl
 . split at hv <;> cases hv;rfl
 . cases hv;rfl
 . cases hv;rfl
 . cases hv;rfl
 . cases hv;rfl
 . cases hv;rfl
 . cases hv;rfl
 . cases hv;rfl
 . cases hv;rfl
 . cases hv;rfl
 . split at hv
   . cases hv;rfl
   . split at hv
     . cases hv;rfl
     split at hv
     . cases hv;rfl
     . obtain⟨ks,hk,rfl⟩:=YGz.1 hv
       rfl
 . split at hv
   . cases hv;rfl
   . split at hv
     . cases hv;rfl
     split at hv
     . cases hv;rfl
     . obtain⟨ks,hk,rfl⟩:=YGz.1 hv
       rfl
 . cases hv;rfl
 . cases hv;rfl
 . cases hv;rfl
 . cases hv;rfl
theorem YBW{o:Oper}{vo:VO}{ops:List Operand}(hv:vop P o=some (vo,ops)):Yov P o.op vo ops\/∀xs,psd vo xs=none:=by
 obtain⟨dst,op,type,pos,after,guard⟩:=o
 unfold vop at hv
 simp only at hv
 split at hv
 . cases hv;exact .inr fun _=>rfl
 . cases hv;exact .inr fun _=>rfl
 . cases hv;exact .inr fun _=>rfl
 . split at hv
   . obtain⟨kk,hk,hv⟩:=YGz.1 hv
     cases hv;exact .inl (.mk _ kk hk)
   . split at hv <;> cases hv
     exact .inr fun _=>rfl
 . split at hv
   . cases hv;exact .inr fun _=>rfl
   . obtain⟨kk,hk,hv⟩:=YGz.1 hv
     cases hv;exact .inl (.put _ _ _ _ kk hk)
 . obtain⟨kk,hk,hv⟩:=YGz.1 hv
   cases hv;exact .inl (.get _ _ _ kk hk)
 . cases hv;exact .inr fun _=>rfl
 . cases hv;exact .inr fun _=>rfl
 . split at hv
   . obtain⟨z,hz,hv⟩:=YGx.1 hv
     obtain⟨s,hs,hv⟩:=YGz.1 hv
     cases hv;exact .inr fun _=>rfl
   . obtain⟨z,hz,hv⟩:=YGz.1 hv
     cases hv;exact .inr fun _=>rfl
 . cases hv;exact .inr fun _=>rfl
 . obtain⟨z,hz,hv⟩:=YGx.1 hv
   obtain⟨pl,hpl,hv⟩:=YGx.1 hv
   split at hv <;> cases hv
   exact .inr fun _=>rfl
 . obtain⟨g,hg,hv⟩:=YGx.1 hv
   obtain⟨s,hs,hv⟩:=YGx.1 hv
   split at hv <;> cases hv
   exact .inl (.load _ _ g s hg hs ‹_›)
 . obtain⟨s,hs,hv⟩:=YGz.1 hv
   cases hv
   exact .inl (.store _ _ _ s hs)
 . split at hv <;> cases hv
   exact .inr fun _=>rfl
 . split at hv <;> cases hv
   exact .inr fun _=>rfl
 . obtain⟨v,hb,hv⟩:=YGz.1 hv
   cases hv
   exact .inr (YvR hb)
 . cases hv;exact .inr fun _=>rfl
 . cases hv;exact .inr fun _=>rfl
 . split at hv <;> cases hv
   exact .inr fun _=>rfl
 . obtain⟨fs,hfs,hv⟩:=YGx.1 hv
   obtain⟨fd,hfd,hv⟩:=YGx.1 hv
   obtain⟨z,hz,hv⟩:=YGx.1 hv
   split at hv <;> cases hv
   exact .inr fun _=>rfl
 . obtain⟨fs,hfs,hv⟩:=YGx.1 hv
   obtain⟨fd,hfd,hv⟩:=YGx.1 hv
   obtain⟨z,hz,hv⟩:=YGx.1 hv
   obtain⟨g,hg,hv⟩:=YGx.1 hv
   split at hv <;> cases hv
   exact .inr fun _=>rfl
 . split at hv
   . obtain⟨s,hs,hv⟩:=YGz.1 hv
     cases hv;exact .inr fun _=>rfl
   . obtain⟨s,hs,hv⟩:=YGz.1 hv
     cases hv;exact .inr fun _=>rfl
   . cases hv
 . split at hv
   . obtain⟨s,hs,hv⟩:=YGx.1 hv
     obtain⟨g,hg,hv⟩:=YGx.1 hv
     split at hv <;> cases hv
     exact .inr fun _=>rfl
   . cases hv;exact .inr fun _=>rfl
   . cases hv
 . split at hv
   . obtain⟨s,hs,hv⟩:=YGz.1 hv
     cases hv;exact .inr fun _=>rfl
   . obtain⟨s,hs,hv⟩:=YGz.1 hv
     cases hv;exact .inr fun _=>rfl
   . cases hv
 . split at hv
   . obtain⟨s,hs,hv⟩:=YGz.1 hv
     cases hv;exact .inr fun _=>rfl
   . cases hv
 . split at hv
   . obtain⟨s,hs,hv⟩:=YGx.1 hv
     obtain⟨b,hb,hv⟩:=YGx.1 hv
     obtain⟨z,hz,hv⟩:=YGx.1 hv
     split at hv <;> cases hv
     exact .inr fun _=>rfl
   . cases hv
 . split at hv
   . obtain⟨s,hs,hv⟩:=YGx.1 hv
     obtain⟨z,hz,hv⟩:=YGx.1 hv
     split at hv <;> cases hv
     exact .inr fun _=>rfl
   . cases hv
 . cases hv;exact .inr fun _=>rfl
 . split at hv
   . cases hv
   . cases hv;exact .inr fun _=>rfl
   . cases hv
 . cases hv;exact .inr fun _=>rfl
 . rename_i c
   split at hv
   . split at hv
     . cases hv;exact .inr fun _=>rfl
     . cases hv;exact .inr fun _=>rfl
   . cases hv;exact .inr fun _=>rfl
   . cases hv;exact .inr fun _=>rfl
   . split at hv
     . cases hv;exact .inr fun _=>rfl
     . cases hv;exact .inr fun _=>rfl
     . cases hv;exact .inr fun _=>rfl
     . cases hv;exact .inr fun _=>rfl
     . cases hv
   . cases hv;exact .inr fun _=>rfl
   . cases hv;exact .inr fun _=>rfl
   . split at hv
     . obtain⟨s,hs,hv⟩:=YGx.1 hv
       obtain⟨b,hb,hv⟩:=YGx.1 hv
       obtain⟨z,hz,hv⟩:=YGx.1 hv
       split at hv <;> cases hv
       exact .inr fun _=>rfl
     . cases hv
   . cases hv
 . cases hv
theorem YuZ{t:TypeId}{a:Operand}{C:Int->Prop}{k:SV->List HO->Prop}(hg:Yet P t=some false)(hc:∀v,C v->k (.int .i64 v) [])(hx:Rep w bs B (.rcell C) (ρ a))(hH:Hp w bs B hp):POk P ρ (.load t a) w B k:=by
 obtain⟨n,D,j,b,rfl,hI,hj,hv⟩:=hx.rcell_inv
 obtain⟨_,o,ho,vs,T,rfl,hn,hall⟩:=hH.reg b _ hI
 obtain⟨v,hvv,hC⟩:=hall j hj
 refine⟨.value (.int .i64 v),.int .i64 v,w,.int .i64 v,B.I,Yac (B.cx w),fun dst type pos after guard=>?_,.inl rfl,hc v hC,.x _ _ (.int _ _),hp0 fun b K h=>(hH.reg b K h).2,BelowI.refl _ _,trivial⟩
 simp only[execOp,Instr.loadAt,hv,Instr.sureAddr,loadVar,Sem.run_bind,Sem.run_pure,Result.andThen_ok,Yct hg,YGM,if_false,run_load]
 have hcell:w.cell? ⟨b,j,none⟩=some (.int .i64 v):=by
   have h1:Cells w b 0 vs.toList:=⟨vs,T,(0,0),ho,fun q u hq=>by simpa using hq⟩
   have:=h1.cell (j:=j) (v:= .int .i64 v) (by simpa using hvv)
   simpa using this
 rw[hcell];rfl
theorem YsJ{t:TypeId}{a x:Operand}{C:Int->Prop}{v:Int}{k:SV->List HO->Prop}(hs:sizeOf? P t=some 1)(hC:C v)(hc:k .junk [])(hx:Rep w bs B (.rcell C) (ρ a))(hy:ρ x= .int .i64 v)(hH:Hp w bs B hp):POk P ρ (.store t a x) w B k:=by
 obtain⟨n,D,j,b,rfl,hI,hj,hv⟩:=hx.rcell_inv
 obtain⟨_,o,ho,vs,T,rfl,hn,hall⟩:=hH.reg b _ hI
 obtain⟨w',cs',hrun,hw,hcs⟩:=YcS (P:=P) (ρ:=ρ) (x:=a) (y:=x) hs hv ho (by rw[hy];rfl) (by omega) (by rw[hy];simp [Value.cells,Value.oneCell'])
 have hcs':cs'.toList=vs.toList.set j (.int .i64 v):=by
   rw[hcs,hy]
   simp only[Value.cells,YM,YHF,List.length_nil]
   rw[List.set_eq_take_append_cons_drop,if_pos (by simp;omega)]
   simp
 have hok:(IK.ints n D).ok (.cells cs' T (0,0)):=by
   refine⟨cs',T,rfl,?_,fun q hq=>?_⟩
   . rw[<-Array.length_toList,hcs'];simpa using hn
   . rw[<-Array.getElem?_toList,hcs',List.getElem?_set]
     split
     . rename_i he
       subst he
       rw[if_pos (by simp;omega)]
       exact⟨v,rfl,hC⟩
     . obtain⟨u,h1,h2⟩:=hall q hq
       exact⟨u,by rw[Array.getElem?_toList];exact h1,h2⟩
 exact⟨.skip,undef,w',.junk,B.I,Yac (B.cx w),hrun,.inr ⟨rfl,rfl⟩,hc,.x _ _ (.junk _),hp0 (YlT hH hw hI hok),Ygm hw hI,trivial⟩
theorem Yu1{t:TypeId}{kk:List IntKind}{k:SV->List HO->Prop}{C:List Int->Int->Prop}(hc:k (.imap kk C) [])(hH:Hp w bs B hp):POk P ρ (.makeMap t none) w B k:=by
 let J:Nat->Option IK:=fun b=>if b=w.heap.size then some (.map kk C)else B.I b
 have hJ:Ext (B.cx w) J:=⟨fun b hb=>by show(if b=w.heap.size then _ else _)=_;rw[if_neg (by have h:b<w.heap.size:=hb;omega)];rfl,fun b K hK=>by
   show(if b=w.heap.size then _ else _)=_
   have hK:B.I b=some K:=hK
   obtain⟨_,o,ho,_⟩:=hH.reg b K hK
   have:=(YG5.1 ho).1
   rw[if_neg (by omega)];exact hK⟩
 refine⟨.value (.map (some w.heap.size)),_,World.push w (.map #[] 0),.imap kk C,J,hJ,fun dst type pos after guard=>?_,.inl rfl,hc,.x _ _ (.imap _ _ _ (by show J _=_;simp [J])),hp0 fun b K hK=>?_,.of (Y2 (B:=(B.cx w).bd) _ (YGH _)),trivial⟩
 . simp [execOp,Instr.makeMap,Result.andThen,run_newObj,World.push]
 . by_cases hb:b=w.heap.size
   . subst hb
     have:K= .map kk C:=by have h:J w.heap.size=some K:=hK;simp [J]at h;exact h.symm
     subst this
     exact⟨_,Ya4, #[],0,rfl,fun e he=>by simp at he⟩
   . have h:J b=some K:=hK
     simp only[J,if_neg hb]at h
     obtain⟨_,o,ho,hok⟩:=hH.reg b K h
     exact⟨o,YgM ho,hok⟩
theorem YrC{t:TypeId}{m y:Operand}{kk:List IntKind}{C:List Int->Int->Prop}{l:List Int}{k:SV->List HO->Prop}(ht:Ycf P t=some kk)(hc:∀r:Option Int,(∀v,r=some v->C l v)->k (.tup [.int .i64 (r.getD 0),.bool r.isSome]) [])
   (hx:Rep w bs B (.imap kk C) (ρ m))(hy:ρ y=keyV kk l)(hl:l.length=kk.length)(hH:Hp w bs B hp):POk P ρ (.lookup t m y true) w B k:=by
 obtain⟨b,hI,hv⟩:=hx.imap_inv
 obtain⟨_,o,ho,es,clock,rfl,hall⟩:=hH.reg b _ hI
 obtain⟨kt,et,fs,hu,hk,hst,hki,hz⟩:=Yho ht
 have hkeys:∀e∈es.toList,∃l,l.length=kk.length/\e.key=keyV kk l:=fun e he=>by
   obtain⟨l,v,h1,h2,_⟩:=hall e he;exact⟨l,h1,h2⟩
 have hwide:(match P.underlying kt with|some (.array _ _) |some (.struct _)=>true|_=>false)=true:=by rw[hk]
 have hfin:∀a,(Instr.findAsking kt (keyV kk l) es.toList 0).run P w= .ok a w->(Instr.findKey kt (keyV kk l) es.toList).run P w= .ok a w:=fun a h=>by rw[run_findKey_eq w hwide];exact h
 have fin:∀r:Option Int,(∀v,r=some v->C l v)->(∀dst type pos after guard,(execOp ρ ⟨dst,.lookup t m y true,type,pos,after,guard⟩).run P w= .ok (.value (.tuple #[.int .i64 (r.getD 0),.bool r.isSome])) w)->POk P ρ (.lookup t m y true) w B k:=fun r hr hrun=>
   ⟨_,.tuple #[.int .i64 (r.getD 0),.bool r.isSome],w,_,B.I,Yac (B.cx w),hrun,.inl rfl,hc r hr,.x _ _ (.tup _ _ (.cons _ _ _ _ (.int _ _) (.cons _ _ _ _ (.bool _) .nil))),hp0 fun b K h=>(hH.reg b K h).2,BelowI.refl _ _,by simp [Yl,Yo]⟩
 rcases YbL (w:=w) hk hst hki hl es.toList 0 hkeys with h| ⟨j,e,h,h2,h3⟩
 . refine fin none (fun _ h=>by cases h) fun dst type pos after guard=>?_
   simp [execOp,Instr.lookup,run_underlying hu,hv,hy,MapKept.run_getObj_map ho,YdV hk hki hl,hfin _ h,Result.andThen,hz w]
 . obtain⟨l',v,g1,g2,g3,g4⟩:=hall e (List.mem_of_getElem? h2)
   have:l'=l:=YuQ g1 hl (by rw[<-g2,h3])
   subst this
   refine fin (some v) (fun u hu=>by cases hu;exact g4) fun dst type pos after guard=>?_
   simp [execOp,Instr.lookup,run_underlying hu,hv,hy,MapKept.run_getObj_map ho,YdV hk hki hl,hfin _ h,Result.andThen,g3]
theorem YrD{t:TypeId}{m y x:Operand}{kk:List IntKind}{C:List Int->Int->Prop}{l:List Int}{v:Int}{k:SV->List HO->Prop}(ht:Ycf P t=some kk)(hC:C l v)(hc:k .junk [])
   (hx:Rep w bs B (.imap kk C) (ρ m))(hy:ρ y=keyV kk l)(hl:l.length=kk.length)(hxv:ρ x= .int .i64 v)(hH:Hp w bs B hp):POk P ρ (.mapUpdate t m y x) w B k:=by
 obtain⟨b,hI,hv⟩:=hx.imap_inv
 obtain⟨_,o,ho,es,clock,rfl,hall⟩:=hH.reg b _ hI
 obtain⟨kt,et,fs,hu,hk,hst,hki,hz⟩:=Yho ht
 have hkeys:∀e∈es.toList,∃l,l.length=kk.length/\e.key=keyV kk l:=fun e he=>by
   obtain⟨l,v,h1,h2,_⟩:=hall e he;exact⟨l,h1,h2⟩
 have hwide:(match P.underlying kt with|some (.array _ _) |some (.struct _)=>true|_=>false)=true:=by rw[hk]
 have hfin:∀a,(Instr.findAsking kt (keyV kk l) es.toList 0).run P w= .ok a w->(Instr.findKey kt (keyV kk l) es.toList).run P w= .ok a w:=fun a h=>by rw[run_findKey_eq w hwide];exact h
 have fin:∀(es':Array MapEntry)(clock':Nat),(∀dst type pos after guard,(execOp ρ ⟨dst,.mapUpdate t m y x,type,pos,after,guard⟩).run P w= .ok .skip { w with heap:=w.heap.setIfInBounds b (.map es' clock')})->(∀e∈es'.toList,∃l v,l.length=kk.length/\e.key=keyV kk l/\e.val= .int .i64 v/\C l v)->POk P ρ (.mapUpdate t m y x) w B k:=fun es' clock' hrun hall'=>
   ⟨.skip,undef,_,.junk,B.I,Yac (B.cx w),hrun,.inr ⟨rfl,rfl⟩,hc,.x _ _ (.junk _),hp0 (YlT hH (YlF ho) hI ⟨es',clock',rfl,hall'⟩),Ygm (YlF ho) hI,trivial⟩
 rcases YbL (w:=w) hk hst hki hl es.toList 0 hkeys with h| ⟨j,e,h,h2,h3⟩
 . refine fin (es.push { key:=keyV kk l,val:= .int .i64 v,born:=clock}) (clock+1) (fun dst type pos after guard=>?_) fun e he=>?_
   . simp [execOp,Instr.mapUpdate,run_underlying hu,hv,hy,hxv,MapKept.run_getObj_map ho,YdV hk hki hl,hfin _ h,Result.andThen,run_setObj_map _ ho]
   . simp only[Array.toList_push,YG2,YHa]at he
     rcases he with he|rfl
     . exact hall e he
     . exact⟨l,v,hl,rfl,rfl,hC⟩
 . have hj:es[j]? =some e:=by simpa using h2
   have hks:(Instr.keyThatStays (keyV kk l) (keyV kk l)).run P w= .ok (keyV kk l) w:=by simp [Instr.keyThatStays,Yj1]
   refine fin (es.modify j fun e=>{ e with key:=keyV kk l,val:= .int .i64 v}) clock (fun dst type pos after guard=>?_) fun e' he=>?_
   . simp [execOp,Instr.mapUpdate,run_underlying hu,hv,hy,hxv,MapKept.run_getObj_map ho,YdV hk hki hl,hfin _ h,hj,h3,hks,Result.andThen,run_setObj_map _ ho]
   . obtain⟨q,hq⟩:=List.mem_iff_getElem?.1 he
     rw[Array.getElem?_toList,Array.getElem?_modify]at hq
     split at hq
     . obtain⟨e0,_,rfl⟩:=YGz.1 hq
       exact⟨l,v,hl,rfl,rfl,hC⟩
     . exact hall e' (List.mem_of_getElem? (by rw[Array.getElem?_toList];exact hq))
theorem Ywq{o:Oper}{vo:VO}{ops:List Operand}{xs:List SV}{c:CRes}{k:SV->List HO->Prop}(hv:vop P o=some (vo,ops))(hp1:psd vo xs=some c)(hc:CSat c k)(hx:RepL w bs B xs (ops.map ρ))(hH:Hp w bs B hp):POk P ρ o.op w B k:=by
 have hcase:=YBW hv
 generalize o.op=op at hcase
 rcases hcase with h|h
 . cases h with
   |load t a g s hg hs hck=>
     unfold psd at hp1
     cases g with
     |true=>cases hp1
     |false=>
       simp only at hp1
       split at hp1 <;> cases hp1
       exact YuZ hg hc (one1 hx) hH
   |store t a x s hs=>
     unfold psd at hp1
     simp only at hp1
     split at hp1 <;> cases hp1
     obtain⟨h1,h2⟩:=two hx
     obtain⟨⟨rfl,hC⟩,hc⟩:=hc
     exact YsJ hs hC hc h1 h2.int_inv hH
   |mk t kk ht=>
     unfold psd at hp1
     simp only at hp1
     split at hp1 <;> cases hp1
     obtain⟨C,hC⟩:=hc
     exact Yu1 hC hH
   |get t m y kk ht=>
     unfold psd at hp1
     simp only at hp1
     split at hp1
     . rename_i ks C cs
       obtain⟨⟨p,l⟩,hk,heq⟩:=YGz.1 hp1
       simp only at heq
       subst heq
       obtain⟨⟨rfl,hpp⟩,hc⟩:=hc
       obtain⟨h1,h2⟩:=two hx
       obtain⟨vs,h3,h4⟩:=h2.agg_inv
       obtain⟨rfl,h5⟩:=YjF hk hpp h4
       exact YrC ht hc h1 h3 h5 hH
     . cases hp1
   |put t m y x kk ht=>
     unfold psd at hp1
     simp only at hp1
     split at hp1
     . rename_i ks C cs v
       obtain⟨⟨p,l⟩,hk,heq⟩:=YGz.1 hp1
       simp only at heq
       subst heq
       obtain⟨⟨⟨rfl,hpp⟩,hC⟩,hc⟩:=hc
       obtain⟨v1,l1,e1,h1,hx⟩:=hx.cons_inv
       obtain⟨v2,l2,e2,h2,hx⟩:=hx.cons_inv
       obtain⟨v3,l3,e3,h3,hx⟩:=hx.cons_inv
       simp only[YG6,List.map_nil,List.cons.injEq]at e1
       obtain⟨r1,rfl⟩:=e1
       simp only[List.cons.injEq]at e2
       obtain⟨r2,rfl⟩:=e2
       simp only[List.cons.injEq]at e3
       obtain⟨r3,rfl⟩:=e3
       obtain⟨vs,h5,h6⟩:=h2.agg_inv
       obtain⟨rfl,h7⟩:=YjF hk hpp h6
       exact YrD ht hC hc (r1▸h1) (r2.trans h5) h7 (r3.trans h3.int_inv) hH
     . cases hp1
 . rw[h xs]at hp1;cases hp1
end
end Go.Vx
namespace Go.Vx
open Go.RowKit
section
variable {P:Program} {E:Env} {w0:Cx} {rd:Option Nat} {Pd:List Pend} {A:S->Prop} {s:S}
theorem Yde{d:Option Nat}{x:SV}(hd:∀p∈Pd,d≠some p.slot):er Pd (s.put d x)=(er Pd s).put d x:=by
 cases d with
 |none=>rfl
 |some n=>simp only[er,S.put];rw[Ybr fun p hp e=>hd p hp (by rw[e])]
theorem YqV:∀{xs:List X},(∀p∈Pd,p.slot∉YX xs)->(er Pd s).args xs=s.args xs
 | [],_=>rfl
 |x::l,h=>by
   simp only[S.args]
   rw[YqV fun p hp hm=>h p hp (by simp [YX,hm])]
   cases x with
   |cn _=>rfl
   |tm n=>simp only[S.x,er];rw[Ycd fun p hp e=>h p hp (by simp [YX,X.slot,e])]
theorem YaM{d:Option Nat}{x:SV}(hd:∀p∈Pd,d≠some p.slot)(h:∀p∈Pd,getH s.hp p.idx=p.cells.ho/\setL s.fr p.slot (.ptr p.idx 0)=s.fr):
   ∀p∈Pd,getH (s.put d x).hp p.idx=p.cells.ho/\setL (s.put d x).fr p.slot (.ptr p.idx 0)=(s.put d x).fr:=fun p hp=>by
 refine⟨by rw[Ydt];exact(h p hp).1,?_⟩
 cases d with
 |none=>exact(h p hp).2
 |some n=>
   show setL (setL s.fr n x) p.slot _=setL s.fr n x
   rw[Ycu _ _ _ _ _ (fun e=>hd p hp (by rw[e])),(h p hp).2]
theorem YfW(h:∀p∈Pd,getH s.hp p.idx=p.cells.ho/\setL s.fr p.slot (.ptr p.idx 0)=s.fr):∀p∈Pd,p.idx<lenH s.hp:=fun p hp=>by
 rcases YGN p.idx (lenH s.hp)with h'|h'
 . exact h'
 . have:=(h p hp).1
   rw[Ybh _ _ h']at this;exact absurd this.symm (AL.ho_ne _)
theorem YbX{ops:Array Oper}{κ:Kont}{i:Nat}{o:Oper}{a:Act}{w:World}{K:Act->World->Prop}(hi:ops[i]? =some o)(hw:Region.wanted o (yielded ops a.tmps)=true)(h:o.wpIn (Wd rd) 0 P a w K κ):wpOpIn (Wd rd) 0 P ops κ i K a w:=by
 unfold wpOpIn;simp only[hi,hw,if_true];exact h
theorem Ys3{ops:Array Oper}{κ:Kont}{i:Nat}{o:Oper}{a:Act}{w:World}{K:Act->World->Prop}(hi:ops[i]? =some o)(hw:Region.wanted o (yielded ops a.tmps)=false)(h:K (a.put o.dst undef) w):wpOpIn (Wd rd) 0 P ops κ i K a w:=by
 unfold wpOpIn;simp only[hi,hw];exact⟨fun _ _=>trivial,h⟩
theorem Yf3{all:Array Oper}{o:Oper}{v:VOp}(h:Ygu P all o=some v):∃ops,vop P o=some (v.op,ops)/\X.ofs ops=some v.xs/\(v.op.isCall=true->Ybv o.op=true)/\v.dst=o.dst/\
   ((o.guard=none/\v.g=none)\/∃j b g,o.guard=some (j,b)/\YlI all j=some g/\v.g=some (g,b)):=by
 unfold Ygu at h
 obtain⟨⟨vo,ops⟩,h1,h⟩:=YGx.1 h
 obtain⟨xs,h2,h⟩:=YGx.1 h
 split at h
 . cases h
 . rename_i hne
   have hne:vo.isCall=true->Ybv o.op=true:=by simpa using hne
   split at h
   . cases h;exact⟨ops,h1,h2,hne,rfl,.inl ⟨‹_›,rfl⟩⟩
   . obtain⟨g,hg,rfl⟩:=YGz.1 h
     exact⟨ops,h1,h2,hne,rfl,.inr ⟨_,_,g,‹_›,hg,rfl⟩⟩
theorem YjC{o:VO}{xs:List SV}{r:FuncId×List SV}(h:callee E o xs=some r):o.isCall=true:=by
 unfold callee at h
 split at h <;> first|rfl|cases h
theorem YCP{m n o:Nat}(h:m≠n):refs n (.ptr m o)=false:=by
 show YHf m n=false
 cases hb:YHf m n with
 |false=>rfl
 |true=>exact absurd (YGW hb) h
theorem Yds{b:Nat}:∀{l:List SV},Yg4 l=true->Yk b l=l
 | [],_=>rfl
 |x::l,h=>by
   simp only[Yg4,YGA]at h
   simp only[Yk,YdS (YiA h.1),Yds h.2]
theorem Ymx{b:Nat}{z:AL}(h:z.clean=true):Yfg b z.ho=z.ho:=by
 cases z with
 |box c=>simp only[AL.ho,Yfg,Yds (show Yg4 c=true from h)]
 |arr n sz c=>
   have:(fun k=>Yk b (YaS sz c k))=YaS sz c:=by
     funext k
     unfold YaS
     rw[<-YeN,<-YcO,Yds (show Yg4 c=true from h)]
   simp only[AL.ho,Yfg,this]
theorem Yiy(b:Nat):∀(hp:List HO)(i:Nat)(h:HO),YaN b (setH hp i h)=setH (YaN b hp) i (Yfg b h)
 | [],_,_=>rfl
 |x::l,0,h=>by cases x <;> cases h <;> rfl
 |x::l,i+1,h=>by
   have:=Yiy b l i h
   cases x <;> simp only[setH,YaN,this]
theorem Ydi(b:Nat)(fr:List SV):∀(Pd:List Pend),YQ (Yk b fr) Pd=Yk b (YQ fr Pd)
 | []=>rfl
 |p::l=>by rw[YQ,YQ,Ydi b fr l,YdR];rfl
theorem Ye0(b:Nat)(hp:List HO):∀(Pd:List Pend),YD (YaN b hp) Pd=YaN b (YD hp Pd)
 | []=>rfl
 |p::l=>by rw[YD,YD,Ye0 b hp l,Yiy];rfl
theorem YC8{b:Nat}{ho:HO}(hne:∀p∈Pd,p.idx≠b):er Pd (s.upd (.app b ho))=(er Pd s).upd (.app b ho):=by
 simp only[er,S.upd]
 rw[Ydi,YeF hne,Ye0]
theorem Ylx{hp hp':List HO}{x:SV}(h:∀b,blk x=some b->getH hp' b=getH hp b):Yc1 hp' x=Yc1 hp x:=by
 cases x <;> try rfl
 case own i lo n sz=>simp only[Yc1,h i rfl]
theorem Yoy{hp hp':List HO}{n n':Nat}(hn:n'=n){o:VO}(ha:o.isAppend=true){xs:List SV}(h:∀y∈xs,∀b,blk y=some b->getH hp' b=getH hp b):eff hp' n' o xs=eff hp n o xs:=by
 subst hn
 cases o <;> simp only[VO.isAppend,reduceCtorEq]at ha
 rcases xs with _| ⟨a,_| ⟨x,_| ⟨c,l⟩⟩⟩ <;> try rfl
 have h1:=Ylx (h x (by simp))
 have h2:=h a (by simp)
 cases a <;> try rfl
 . simp only[eff,YbE,h1]
 . rename_i i lo n sz
   have:=h2 i rfl
   cases lo with
   |zero=>simp only[eff,YbE,h1,this]
   |succ _=>rfl
 . rename_i y
   have:=Ylx (x:=y) (fun b hb=>h2 b hb)
   simp only[eff,YbE,h1,this]
theorem Ysn{w:World}{bs:List BK}{B:Bd}:∀{xs:List SV}{vs:List Value},RepL w bs B xs vs->∀{y:SV},y∈xs->∃v,Rep w bs B y v
 |_,_,.nil,y,hy=>by cases hy
 |_,_,.cons x v l vs h h',y,hy=>by
   rcases YGQ.1 hy with rfl|hy
   . exact⟨v,h⟩
   . exact Ysn h' hy
theorem YkR(hE:Yq P E){all:Array Oper}{o:Oper}{v:VOp}{i:Nat}(hi:all[i]? =some o)(hv:Ygu P all o=some v)(hs1:∀p∈Pd,p.slot∉v.reads)(hs2:∀p∈Pd,v.dst≠some p.slot)
   (hs3:v.op.isAppend=true->∀p∈Pd,p.cells.clean=true){κ:Kont}{a:Act}{sv:List Act}{w:World}(h:dopW E v A s){c0:Cx0}{ks:List (Nat×Obj)}{J:Nat->Option IK}{hJ:Ext c0 J}(hR:PR ⟨c0.wI J hJ,ks⟩ Pd s a sv w):
   wpOpIn (Wd rd) 0 P all κ i (fun a' w'=> ∃s',A s'/\∃J',∃hJ':Ext c0 J',PR ⟨c0.wI J' hJ',ks⟩ Pd s' a' sv w') a w:=by
 obtain⟨ops,h1,h2,h3,h4,h5⟩:=Yf3 hv
 obtain⟨hRl,hPd⟩:=hR
 obtain⟨bs,hf,hsv,hH,hb,hoth⟩:=id hRl
 have hB:c0.heap.size<=w.heap.size:=hb.size
 have hargs:(er Pd s).args v.xs=s.args v.xs:=YqV fun p hp hm=>hs1 p hp (by simp [VOp.reads,hm])
 have hx:RepL w bs (c0.wI J hJ).bd (s.args v.xs) (ops.map a.eval):=by rw[<-hargs];exact Yuk hf h2
 have hlen:lenH (er Pd s).hp=lenH s.hp:=Ya8 Pd
 have hgs:∀g pol,v.g=some (g,pol)->getL (er Pd s).fr g=getL s.fr g:=fun g pol hg=>Ycd fun p hp e=>hs1 p hp (by simp [VOp.reads,hg,e])
 have heq:∀(xs:List SV)(vs:List Value),v.op.quiet=true->RepL w bs (c0.wI J hJ).bd xs vs->eff (er Pd s).hp (lenH (er Pd s).hp) v.op xs=eff s.hp (lenH s.hp) v.op xs:=
   fun xs vs hq hxs=>YqT hq fun b hb=>(Ye2 hH hxs hb).2
 unfold dopW at h
 cases hq:v.op.quiet with
 |true=>
   rw[hq]at h
   simp only[Yhz]at h
   cases hfe:fEff v s with
   |none=>rw[hfe]at h;exact h.elim
   |some r=>
     obtain⟨p,x⟩:=r
     rw[hfe]at h
     obtain⟨hp,hA⟩:=h
     unfold fEff at hfe
     rcases h5 with⟨hg,hvg⟩ | ⟨j,pol,g,hg,hsl,hvg⟩
     . rw[hvg]at hfe
       simp only at hfe
       cases he:eff s.hp (lenH s.hp) v.op (s.args v.xs)with
       |none=>rw[he]at hfe;cases hfe
       |some e=>
         obtain⟨q,y,u⟩:=e
         rw[he]at hfe
         cases u <;> try cases hfe
         rw[<-heq _ _ hq hx]at he
         obtain⟨r',val,w',bs',hrn,hr,k1,k2,k3,k4,k5⟩:=YlP (ρ:=a.eval) h1 he hp hx (fun _=>rfl) (fun _=>rfl) hH hB
         refine YbX hi (by simp [Region.wanted,hg]) (Ybe (Y8 h1) (hrn o.dst o.type o.pos o.after o.guard) hr ?_)
         refine⟨_,hA,J,hJ,?_,YaM hs2 hPd⟩
         rw[Yde hs2,<-h4]
         exact YhO (e:=⟨p,x,.no⟩) (op:=o.op) hf hsv hb hoth k1 k2 k3 k4 k5 v.dst
     . rw[hvg]at hfe
       simp only at hfe
       cases hgb:Yad (getL s.fr g) pol with
       |none=>rw[hgb]at hfe;cases hfe
       |some gb=>
         rw[hgb]at hfe
         simp only at hfe
         have hw:=Yjz (w:=w) hf hg hsl (by rw[hgs g pol hvg];exact hgb)
         cases he:eff s.hp (lenH s.hp) v.op (YT v.op gb (s.args v.xs)).2 with
         |none=>rw[he]at hfe;cases hfe
         |some e=>
           obtain⟨q,y,u⟩:=e
           rw[he]at hfe
           cases u <;> try cases hfe
           obtain⟨hp1,hp2⟩:=hp
           cases gb with
           |true=>
             have hx':=Ycy rfl hx hp1
             rw[<-heq _ _ hq hx']at he
             obtain⟨r',val,w',bs',hrn,hr,k1,k2,k3,k4,k5⟩:=YlP (ρ:=a.eval) h1 he (hp2 rfl) hx' (fun _=>rfl) (fun _=>rfl) hH hB
             refine YbX hi hw (Ybe (Y8 h1) (hrn o.dst o.type o.pos o.after o.guard) hr ?_)
             refine⟨_,hA,J,hJ,?_,YaM hs2 hPd⟩
             rw[Yde hs2,<-h4]
             exact YhO (e:=⟨q,.opt true y,.no⟩) (op:=o.op) hf hsv hb hoth (.optT _ _ k1) k2 k3 k4 k5 v.dst
           |false=>
             refine Ys3 hi hw ⟨_,hA,J,hJ,?_,YaM hs2 hPd⟩
             rw[Yde hs2,<-h4]
             exact Ydu hRl v.dst fun _ _ _=> .optF _
 |false=>
   rw[hq]at h
   simp only at h
   rcases h5 with⟨hg,hvg⟩ | ⟨j,pol,g,hg,hsl,hvg⟩
   . rw[hvg]at h
     simp only at h
     unfold Yk0 at h
     cases hc:callee E v.op (s.args v.xs)with
     |none=>
       rw[hc]at h
       simp only[psdW]at h
       have hlt:=YfW hPd
       cases hps:psd v.op (s.args v.xs)with
       |some c=>
         rw[hps]at h
         obtain⟨r,val,w',x,J2,hJ2,hrn,hr,hA,k1,k2,k3,k4⟩:=Ywq (ρ:=a.eval) h1 hps h hx hH
         refine YbX hi (by simp [Region.wanted,hg]) (Ybe (Y8 h1) (hrn o.dst o.type o.pos o.after o.guard) hr ?_)
         obtain⟨hJ3,hcr⟩:=YdF (al:=false) (z:=Bd.cx (c0.wI J hJ).bd w) (w0:=c0) (J1:=J) (hJ1:=hJ) (hJ:=hJ2) rfl hf hsv hH hb hoth v.dst k1 k2 k3 (fun _=>⟨k4,trivial⟩) (fun h=>by cases h)
         have hcr:=hcr _ fun _ h=>h
         have hPd':∀p∈Pd,getH ({ fr:=s.fr,saved:=s.saved,hp:=s.hp++YV (lenH s.hp) []}:S).hp p.idx=p.cells.ho/\setL ({ fr:=s.fr,saved:=s.saved,hp:=s.hp++YV (lenH s.hp) []}:S).fr p.slot (.ptr p.idx 0)=({ fr:=s.fr,saved:=s.saved,hp:=s.hp++YV (lenH s.hp) []}:S).fr:=fun p hp=>
           ⟨by rw[<-(hPd p hp).1];exact YgE _ _ _ (by rw[(hPd p hp).1];exact AL.ho_ne _),(hPd p hp).2⟩
         refine⟨_,hA,J2,hJ3,?_,YaM hs2 hPd'⟩
         rw[Yde hs2,<-h4]
         have:er Pd { fr:=s.fr,saved:=s.saved,hp:=s.hp++YV (lenH s.hp) []}= { fr:=(er Pd s).fr,saved:=(er Pd s).saved,hp:=(er Pd s).hp++YV (lenH (er Pd s).hp) []}:=by
           rw[hlen];simp only[er];rw[YcH hlt]
         rw[this]
         rw[hlen]at hcr⊢
         exact hcr
       |none=>
       rw[hps]at h
       simp only at h
       cases hbad:v.op.bad with
       |true=>rw[hbad]at h;exact h.elim
       |false=>
       rw[hbad]at h
       simp only[badW,effW]at h
       cases he:eff s.hp (lenH s.hp) v.op (s.args v.xs)with
       |none=>rw[he]at h;exact h.elim
       |some e=>
         rw[he]at h
         obtain⟨hp,hA⟩:=h
         have he2:eff (er Pd s).hp (lenH (er Pd s).hp) v.op (s.args v.xs)=some e:=by
           rw[hlen,<-he]
           cases ha:v.op.isAppend with
           |true=>
             exact Yoy rfl ha fun y hy b hb=>by
               obtain⟨z,hz⟩:=Ysn hx hy
               obtain⟨k,h1,h2⟩:=Yi9 hz hb
               exact(YjL hH h1 h2).2
           |false=>exact Yq3 hq ha hbad fun b hb=>(Ye2 hH hx hb).2
         obtain⟨r',val,w',bs',hrn,hr,k1,k2,k3,k4,k5⟩:=YlP (ρ:=a.eval) h1 he2 hp hx (fun _=>rfl) (fun _=>rfl) hH hB
         refine YbX hi (by simp [Region.wanted,hg]) (Ybe (Y8 h1) (hrn o.dst o.type o.pos o.after o.guard) hr ?_)
         have hrel:=YhO (e:=e) (op:=o.op) hf hsv hb hoth k1 k2 k3 k4 k5 v.dst
         refine⟨_,hA,J,hJ,?_⟩
         cases ha:v.op.isAppend with
         |true=>
           have hcl:=hs3 ha
           rcases Yqc ha he with⟨ho,hu⟩ | ⟨b,ho,hu,hk⟩
           . rw[hu]at hrel⊢
             have hlt:=YfW hPd
             have hPd':∀p∈Pd,getH (s.upd (.new ho)).hp p.idx=p.cells.ho/\setL (s.upd (.new ho)).fr p.slot (.ptr p.idx 0)=(s.upd (.new ho)).fr:=fun p hp=>
               ⟨by rw[<-(hPd p hp).1];exact Y3 _ _ _ (hlt p hp),(hPd p hp).2⟩
             refine⟨?_,YaM hs2 hPd'⟩
             rw[Yde hs2,<-h4]
             have:er Pd (s.upd (.new ho))=(er Pd s).upd (.new ho):=by
               simp only[er,S.upd];rw[Ydh hlt]
             rw[this];exact hrel
           . have hne:=(Ye2 hH hx hk).1
             rw[hu]at hrel⊢
             have hPd':∀p∈Pd,getH (s.upd (.app b ho)).hp p.idx=p.cells.ho/\setL (s.upd (.app b ho)).fr p.slot (.ptr p.idx 0)=(s.upd (.app b ho)).fr:=fun p hp=>by
               refine⟨?_,?_⟩
               . show getH (setH (YaN b s.hp) b ho) p.idx=_
                 rw[YS _ _ _ _ (fun e=>hne p hp e.symm),YdM,(hPd p hp).1,Ymx (hcl p hp)]
               . show setL (Yk b s.fr) p.slot (.ptr p.idx 0)=Yk b s.fr
                 have e:=congrArg (Yk b) (hPd p hp).2
                 rw[YdR,YdS (YCP (hne p hp))]at e
                 exact e
             refine⟨?_,YaM hs2 hPd'⟩
             rw[Yde hs2,<-h4]
             have:er Pd (s.upd (.app b ho))=(er Pd s).upd (.app b ho):=YC8 hne
             rw[this];exact hrel
         |false=>
           cases hst:v.op.isStore with
           |true=>
             obtain⟨k,ho,hu,hk⟩:=YlL hst he
             have hne:=(Ye2 hH hx hk).1
             rw[hu]at hrel⊢
             have hPd':∀p∈Pd,getH (s.upd (.set k ho)).hp p.idx=p.cells.ho/\setL (s.upd (.set k ho)).fr p.slot (.ptr p.idx 0)=(s.upd (.set k ho)).fr:=fun p hp=>
               ⟨by rw[<-(hPd p hp).1];exact YS _ _ _ _ (fun e=>hne p hp e.symm),(hPd p hp).2⟩
             refine⟨?_,YaM hs2 hPd'⟩
             rw[Yde hs2,<-h4]
             have:er Pd (s.upd (.set k ho))=(er Pd s).upd (.set k ho):=by
               simp only[er,S.upd];rw[YeF hne]
             rw[this];exact hrel
           |false=>
             obtain⟨ho,hu⟩:=YrL hq hst ha hbad he
             rw[hu]at hrel⊢
             have hlt:=YfW hPd
             have hPd':∀p∈Pd,getH (s.upd (.new ho)).hp p.idx=p.cells.ho/\setL (s.upd (.new ho)).fr p.slot (.ptr p.idx 0)=(s.upd (.new ho)).fr:=fun p hp=>
               ⟨by rw[<-(hPd p hp).1];exact Y3 _ _ _ (hlt p hp),(hPd p hp).2⟩
             refine⟨?_,YaM hs2 hPd'⟩
             rw[Yde hs2,<-h4]
             have:er Pd (s.upd (.new ho))=(er Pd s).upd (.new ho):=by
               simp only[er,S.upd];rw[Ydh hlt]
             rw[this];exact hrel
     |some fy=>
       obtain⟨f,ys⟩:=fy
       rw[hc]at h
       simp only[ctW]at h
       cases hct:E.ct f with
       |none=>rw[hct]at h;exact h.elim
       |some c=>
         rw[hct]at h
         obtain⟨hok,hen⟩:=hE.ct f c hct
         obtain⟨vs,hys,hrun⟩:=YfG hE.meth h1 (h3 (YjC hc)) hc hx (fun _=>rfl) hen
         refine YbX hi (by simp [Region.wanted,hg]) (Ya0 (Y8 h1) hrun ?_)
         obtain⟨z,hzw,hzI,hargs2,hal⟩:=YcC c.alias (hpV hH) hB 3 hys h.1
         subst hzw
         refine(hok _ vs z _ (fun b K hb=>(hH.reg b K (by rw[hzI]at hb;exact hb)).2) hargs2 h.2).mono ?_
         rintro e w' ⟨r,hs,val,bs2,J2,hJ2,hA,rfl,k1,k2,k3,k4⟩
         obtain⟨hJ3,hcr⟩:=YdF (w0:=c0) (J1:=J) (hJ1:=hJ) (hJ:=hJ2) hzI hf hsv hH hb hoth v.dst k1 k2 k3 k4 hal
         have hcr:=hcr _ fun _ h=>h
         have hlt:=YfW hPd
         have hPd':∀p∈Pd,getH ({ fr:=s.fr,saved:=s.saved,hp:=s.hp++YV (lenH s.hp) hs}:S).hp p.idx=p.cells.ho/\setL ({ fr:=s.fr,saved:=s.saved,hp:=s.hp++YV (lenH s.hp) hs}:S).fr p.slot (.ptr p.idx 0)=({ fr:=s.fr,saved:=s.saved,hp:=s.hp++YV (lenH s.hp) hs}:S).fr:=fun p hp=>
           ⟨by rw[<-(hPd p hp).1];exact YgE _ _ _ (by rw[(hPd p hp).1];exact AL.ho_ne _),(hPd p hp).2⟩
         refine⟨_,hA,J2,hJ3,?_,YaM hs2 hPd'⟩
         rw[Yde hs2,<-h4]
         have:er Pd { fr:=s.fr,saved:=s.saved,hp:=s.hp++YV (lenH s.hp) hs}= { fr:=(er Pd s).fr,saved:=(er Pd s).saved,hp:=(er Pd s).hp++YV (lenH (er Pd s).hp) hs}:=by
           rw[hlen];simp only[er];rw[YcH hlt]
         rw[this]
         rw[hlen]at hcr⊢
         exact hcr
   . rw[hvg]at h
     simp only at h
     unfold Yhh at h
     cases hgb:Yad (getL s.fr g) pol with
     |none=>rw[hgb]at h;exact h.elim
     |some gb=>
       rw[hgb]at h
       simp only[ctGW]at h
       have hw:=Yjz (w:=w) hf hg hsl (by rw[hgs g pol hvg];exact hgb)
       cases hct:ctOf E v.op (YT v.op gb (s.args v.xs)).2 with
       |none=>rw[hct]at h;exact h.elim
       |some c=>
         rw[hct]at h
         obtain⟨c,ys⟩:=c
         obtain⟨hp1,hno,r,hA,hcs⟩:=h
         cases gb with
         |false=>
           refine Ys3 hi hw ⟨_,hA,J,hJ,?_,YaM hs2 hPd⟩
           rw[Yde hs2,<-h4]
           exact Ydu hRl v.dst fun _ _ _=> .optF _
         |true=>
           obtain⟨f,hcl,hct',hic⟩:=Ynn hct
           obtain⟨hok,hen⟩:=hE.ct f c hct'
           obtain⟨vs,hys,hrn⟩:=YfG hE.meth h1 (h3 hic) hcl (Ycy rfl hx hp1) (fun _=>rfl) hen
           refine YbX hi hw (Ya0 (Y8 h1) hrn ?_)
           obtain⟨z,hzw,hzI,hargs2,hal⟩:=YcC c.alias (hpV hH) hB 3 hys hno
           subst hzw
           refine(hok _ vs z _ (fun b K hb=>(hH.reg b K (by rw[hzI]at hb;exact hb)).2) hargs2 (hcs rfl)).mono ?_
           rintro e w' ⟨r',hs,val,bs2,J2,hJ2,⟨rfl,rfl⟩,rfl,k1,k2,k3,k4⟩
           obtain⟨hJ3,hcr⟩:=YdF (w0:=c0) (J1:=J) (hJ1:=hJ) (hJ:=hJ2) hzI hf hsv hH hb hoth v.dst k1 k2 k3 k4 hal
           have hcr:=hcr (.opt true (shift (lenH (er Pd s).hp) r')) fun _ h=> .optT _ _ h
           have e0:({ fr:=(er Pd s).fr,saved:=(er Pd s).saved,hp:=(er Pd s).hp++YV (lenH (er Pd s).hp) []}:S)=er Pd s:=by simp [YV]
           rw[e0]at hcr
           refine⟨_,hA,J2,hJ3,?_,YaM hs2 hPd⟩
           rw[Yde hs2,<-h4,<-hlen]
           exact hcr
end
end Go.Vx
namespace Go.Vx
open Go.RowKit
section
variable {P:Program} {E:Env} {w:World} {w0:Cx} {rd:Option Nat} {Pd:List Pend} {A:S->Prop} {s:S} {bs:List BK} {B:Bd} {hp hp':List HO}
theorem YbM{cs:Array Value}{T:TypeId}{cap n i:Nat}:Keeps w bs (World.push w (.cells cs T (0,0))) (bs.set i (.blk w.heap.size cap n)):=by
 intro b hf o ho
 refine⟨YgM ho,fun j b' c m h=>?_⟩
 have hb:b<w.heap.size:=(YG5.1 ho).1
 rw[List.getElem?_set]at h
 split at h
 . split at h
   . cases h;omega
   . cases h
 . exact hf j b' c m h
theorem YlE{i:Nat}{x:BK}{e:Option Nat}(hg:bs[i]? =some .gone\/bs[i]? =none):Stays e bs (bs.set i x):=by
 intro j y _ h hy
 rw[List.getElem?_set]
 split
 . rename_i hij
   subst hij
   rcases hg with hg|hg
   . rw[hg]at h;cases h;exact absurd rfl hy
   . rw[hg]at h;cases h
 . exact h
theorem YyD(hH:Hp w bs B hp)(hB:B<=w.heap.size){cs:Array Value}{T:TypeId}{i:Nat}{c0 m0:Nat}(hi:i<lenH hp)(hg:getH hp i= .gone)(hl:lenH hp'=lenH hp)(hne:∀j,j≠i->getH hp' j=getH hp j)
   (h:HRep (World.push w (.cells cs T (0,0))) (bs.set i (.blk w.heap.size c0 m0)) B i (getH hp' i)):
   Hp (World.push w (.cells cs T (0,0))) (bs.set i (.blk w.heap.size c0 m0)) B hp':=by
 have hlt:∀(i b c m:Nat),bs[i]? =some (.blk b c m)->b<w.heap.size:=fun i b c m h=>(hH.lo i b c m h).2
 have hgo:bs[i]? =some .gone\/bs[i]? =none:=by have:=hH.ent i;rw[hg]at this;exact this
 have hib:i<bs.length:=by rw[hH.len];exact hi
 refine⟨by simp [hH.len,hl],fun j=>?_,fun j k b c m c' m' h1 h2=>?_,fun j b c m h1=>?_,YaO YbM hH.reg⟩
 . by_cases hij:j=i
   . subst hij;exact h
   . rw[hne j hij]
     refine(hH.ent j).keep YbM (YlE hgo) ?_ ?_
     . rw[List.getElem?_set,if_neg (Ne.symm hij)]
     . intro b c m hb
       have:=hlt j b c m hb
       simp only[World.push,Array.getElem?_push]
       rw[if_neg (by omega)]
 . rw[List.getElem?_set]at h1 h2
   split at h1 <;> split at h2
   . omega
   . first| (rw[if_pos hib]at h1;cases h1) |cases h1
     have:=hlt k _ _ _ h2;omega
   . first| (rw[if_pos hib]at h2;cases h2) |cases h2
     have:=hlt j _ _ _ h1;omega
   . exact hH.inj j k b c m c' m' h1 h2
 . have hs:(World.push w (.cells cs T (0,0))).heap.size=w.heap.size+1:=by simp [World.push]
   rw[List.getElem?_set]at h1
   split at h1
   . first| (rw[if_pos hib]at h1;cases h1) |cases h1;omega
   . have:=hH.lo j b c m h1;omega
theorem Yfm:∀(l:List SV)(n:Nat)(x y:SV),setL (setL l n x) n y=setL l n y
 | [],_,_,_=>rfl
 |_::_,0,_,_=>rfl
 |a::l,n+1,x,y=>congrArg (a::·) (Yfm l n x y)
def AL.is(P:Program)(elem:TypeId):AL->Prop
 | .box z=>Yaj P elem=some z
 | .arr n size z=>Yaj P elem=some z/\lenL z=n*size
def AL.z:AL->List SV
 | .box z=>z
 | .arr _ _ z=>z
def AL.n:AL->Nat
 | .box _=>0
 | .arr n _ _=>n
theorem AL.is_z{elem:TypeId}:∀{x:AL},x.is P elem->Yaj P elem=some x.z
 | .box _,h=>h
 | .arr _ _ _,h=>h.1
theorem Yow{p:Pend}{o:Oper}{elem:TypeId}{i:Nat}{all:Array Oper}(hi:all[i]? =some o)(hop:o.op= .alloc elem)(hgd:o.guard=none)(hz:p.cells.is P elem)(hdst:o.dst=some p.slot)
   (hidx:∀q∈Pd,q.idx≠p.idx)(hslot:∀q∈Pd,q.slot≠p.slot){κ:Kont}{a:Act}{sv:List Act}{K:Act->World->Prop}
   (hR:PR w0 (p::Pd) s a sv w)(h:∀a' w',PR w0 Pd s a' sv w'->K a' w'):wpOpIn (Wd rd) 0 P all κ i K a w:=by
 obtain⟨⟨bs,hf,hsv,hH,hb,hoth⟩,hPd⟩:=hR
 have hB:w0.heap.size<=w.heap.size:=hb.size
 obtain⟨v,hv,hr⟩:=Y7 (P:=P) (w:=w) (bs:=bs) (B:=w0.bd) (AL.is_z hz)
 obtain⟨hp1,hp2⟩:=hPd p YGI
 have hlt:p.idx<lenH s.hp:=YfW hPd p YGI
 have hg:getH (YD s.hp (p::Pd)) p.idx= .gone:=Ydf YGI
 have hgo:bs[p.idx]? =some .gone\/bs[p.idx]? =none:=by have:=hH.ent p.idx;simp only[er]at this;rw[hg]at this;exact this
 have hlen:bs.length=lenH s.hp:=by rw[hH.len];exact Ya8 _
 have hget:(bs.set p.idx (BK.blk w.heap.size p.cells.n p.cells.n))[p.idx]? =some (.blk w.heap.size p.cells.n p.cells.n):=by
   rw[List.getElem?_set,if_pos rfl,if_pos (by omega)]
 have hst:∀e,Stays e bs (bs.set p.idx (.blk w.heap.size p.cells.n p.cells.n)):=fun e=>YlE hgo
 have hrun:(execOp a.eval o).run P w= .ok (.value (.pointer (some ⟨w.heap.size,0,none⟩))) (World.push w (.cells v.cells elem (0,0))):=by
   obtain⟨dst,op,type,pos,after,guard⟩:=o
   simp only at hop
   subst hop
   simp [execOp,Instr.alloc,hv,newVar,newRow,World.push]
 refine YbX hi (by simp [Region.wanted,hgd]) (Ybe (by rw[hop];intro c h;cases h) hrun (.inl rfl) (h _ _ ⟨⟨bs.set p.idx (.blk w.heap.size p.cells.n p.cells.n),?_,?_,?_,?_,by rw[YG6,YbJ];exact hoth.keep YbM⟩,fun q hq=>hPd q (YGK _ hq)⟩))
 . have hfr:(er Pd s).fr=(S.put (er (p::Pd) s) (some p.slot) (.ptr p.idx 0)).fr:=by
     simp only[er,S.put,YQ,Yfm]
     rw[<-Ybr hslot,hp2]
   rw[hfr,hdst]
   exact Yhy (hf.keep YbM (hst none) Yj) (.ptr _ _ _ _ hget)
 . exact RepLL.keep YbM (hst none) hsv
 . refine YyD hH hB (by simp only[er];rw[Ya8];exact hlt) hg (by simp only[er];rw[Ya8,Ya8]) (fun j hj=>?_) ?_
   . simp only[er,YD]
     rw[YS _ _ _ _ (Ne.symm hj)]
   . simp only[er]
     rw[Ydg hidx,hp1]
     revert hget hst hz hr
     cases p.cells with
     |box z=>exact fun hz hr hget hst=>⟨_,_,_,hget,Ya4,hr.keep YbM (hst none) Yj⟩
     |arr n size z=>
       intro hz hr hget hst
       refine .inr ⟨_,n,_,_,hget,rfl,Ya4,?_,YGH _,fun k _=>Ygz (hr.keep YbM (hst none) Yj) size k⟩
       show _=n*size
       have hl:=hz.2
       have hl2:=hr.length
       simp only[AL.z]at hl2
       rw[<-hl,hl2];simp
 . exact hb.trans (.of (Y2 (B:=w0.bd) _ hB))
end
end Go.Vx
namespace Go.Vx
open Go.RowKit
section
variable {P:Program} {E:Env} {w:World} {w0:Cx} {rd:Option Nat} {Pd Pd':List Pend} {A:S->Prop} {s:S} {bs:List BK} {B:Bd} {hp hp':List HO}
theorem Ycp:Keeps w bs w (bs++[.gone]):=by
 intro b hf o ho
 refine⟨ho,fun i b' c m h=>?_⟩
 rw[YHB]at h
 split at h
 . exact hf i b' c m h
 . rw[List.getElem?_singleton]at h;split at h <;> cases h
theorem YyL(hH:Hp w bs B hp):Hp w (bs++[.gone]) B (Ybx hp .gone):=by
 have hst:∀e,Stays e bs (bs++[.gone]):=fun e=>YA _ _
 have hget:∀(i b c m:Nat),(bs++[BK.gone])[i]? =some (.blk b c m)->bs[i]? =some (.blk b c m):=by
   intro i b c m h
   rw[YHB]at h
   split at h
   . exact h
   . rw[List.getElem?_singleton]at h;split at h <;> cases h
 refine⟨by simp [hH.len,Ya9],fun i=>?_,fun i j b c m c' m' h1 h2=>hH.inj i j b c m c' m' (hget _ _ _ _ h1) (hget _ _ _ _ h2),fun i b c m h1=>hH.lo i b c m (hget _ _ _ _ h1),YaO Ycp hH.reg⟩
 rcases Nat.lt_trichotomy i (lenH hp)with hi|hi|hi
 . rw[Y3 _ _ _ hi]
   exact(hH.ent i).keep Ycp (hst _) (by rw[YG4 (by rw[hH.len];exact hi)]) (fun _ _ _ _=>rfl)
 . subst hi;rw[Ya7];exact .inl (Y5 hH)
 . rw[Ybh _ _ (by rw[Ya9];omega)]
   right
   rw[List.getElem?_eq_none];simp [hH.len];omega
theorem RepL.junkAt:∀{l:List SV}{vs:List Value}(_:RepL w bs B l vs)(n:Nat),RepL w bs B (setL l n .junk) vs
 |_,_,.nil,n=>by cases n <;> exact .nil
 |_,_,.cons _ _ _ _ _ h',0=> .cons _ _ _ _ (.x _ _ (.junk _)) h'
 |_,_,.cons _ _ _ _ h h',n+1=> .cons _ _ _ _ h (RepL.junkAt h' n)
theorem Ygi:∀(l:List HO)(x y:HO),setH (Ybx l x) (lenH l) y=Ybx l y
 | [],_,_=>rfl
 |a::l,x,y=>congrArg (a::·) (Ygi l x y)
theorem Yvg{a:Act}{sv:List Act}(hR:PR w0 Pd s a sv w){d:Nat}{z:AL}(hd:∀q∈Pd,q.slot≠d):
   PR w0 (⟨lenH s.hp,d,z⟩::Pd) ((s.upd (.new z.ho)).put (some d) (.ptr (lenH s.hp) 0)) a sv w:=by
 obtain⟨⟨bs,hf,hsv,hH,hb,hoth⟩,hPd⟩:=hR
 have hlt:=YfW hPd
 refine⟨⟨bs++[.gone],?_,?_,?_,hb,hoth.keep Ycp⟩,fun p hp=>?_⟩
 . have e:(er (⟨lenH s.hp,d,z⟩::Pd) ((s.upd (.new z.ho)).put (some d) (.ptr (lenH s.hp) 0))).fr=setL (er Pd s).fr d .junk:=by
     show setL (YQ (setL s.fr d (.ptr (lenH s.hp) 0)) Pd) d .junk=setL (YQ s.fr Pd) d .junk
     rw[Ybr hd,Yfm]
   rw[e]
   exact(hf.junkAt d).keep Ycp (YA _ none) Yj
 . exact RepLL.keep Ycp (YA _ none) hsv
 . have e:(er (⟨lenH s.hp,d,z⟩::Pd) ((s.upd (.new z.ho)).put (some d) (.ptr (lenH s.hp) 0))).hp=Ybx (er Pd s).hp .gone:=by
     show setH (YD (Ybx s.hp z.ho) Pd) (lenH s.hp) .gone=Ybx (YD s.hp Pd) .gone
     rw[Ydh hlt]
     have:=Ygi (YD s.hp Pd) z.ho .gone
     rw[Ya8]at this
     exact this
   rw[e]
   exact YyL hH
 . rcases YGQ.1 hp with rfl|hp
   . exact⟨Ya7 _ _,Yfm _ _ _ _⟩
   . refine⟨?_,?_⟩
     . show getH (Ybx s.hp z.ho) p.idx=_
       rw[Y3 _ _ _ (hlt p hp)];exact(hPd p hp).1
     . show setL (setL s.fr d _) p.slot _=setL s.fr d _
       rw[Ycu _ _ _ _ _ (fun e=>hd p hp e.symm),(hPd p hp).2]
def Yvh:Nat->List (Nat×AL)->List Pend->List Pend
 |_,[],Pd=>Pd
 |n,(d,z)::l,Pd=>Yvh (n+1) l (⟨n,d,z⟩::Pd)
def YeS:List (Nat×AL)->List Nat->Bool
 | [],_=>true
 | (d,_)::l,ds=>!ds.contains d&&YeS l (d::ds)
theorem Yn2{a:Act}{sv:List Act}:∀(al:List (Nat×AL))(Pd:List Pend)(s:S),YeS al (Pd.map (·.slot))=true->PR w0 Pd s a sv w->PR w0 (Yvh (lenH s.hp) al Pd) (YhV s al) a sv w
 | [],_,_,_,h=>h
 | (d,z)::l,Pd,s,hdis,h=>by
   simp only[YeS,YGA,YGP]at hdis
   have hd:∀q∈Pd,q.slot≠d:=by
     intro q hq he
     have:(Pd.map (·.slot)).contains d=true:=by
       rw[List.contains_iff_mem,List.mem_map];exact⟨q,hq,he⟩
     rw[hdis.1]at this;cases this
   have:=Yn2 l (⟨lenH s.hp,d,z⟩::Pd) _ (by simpa using hdis.2) (Yvg h (z:=z) hd)
   have hl:lenH ((s.upd (.new z.ho)).put (some d) (.ptr (lenH s.hp) 0)).hp=lenH s.hp+1:=Ya9 _ _
   rw[hl]at this
   exact this
theorem Ywn{a:Act}{sv:List Act}(h:Rl w0 s a sv w):PR w0 [] s a sv w:=⟨h,fun _ hp=>by cases hp⟩
theorem Yyy(p q:Pend)(l:List Pend):er (p::q::l) s=er (q::p::l) s:=by
 have h1:∀(fr:List SV),setL (setL fr q.slot .junk) p.slot .junk=setL (setL fr p.slot .junk) q.slot .junk:=fun fr=>by
   by_cases h:q.slot=p.slot
   . rw[h]
   . exact Ycu _ _ _ _ _ h
 have h2:∀(hp:List HO),setH (setH hp q.idx .gone) p.idx .gone=setH (setH hp p.idx .gone) q.idx .gone:=fun hp=>by
   by_cases h:q.idx=p.idx
   . rw[h]
   . exact YhE _ _ _ _ _ h
 simp only[er,YQ,YD,h1,h2]
theorem Yyw(p:Pend){l l':List Pend}(h:er l s=er l' s):er (p::l) s=er (p::l') s:=by
 simp only[er,S.mk.injEq,true_and]at h
 simp only[er,YQ,YD,h.1,h.2]
theorem Yyx(h:Pd.Perm Pd'):er Pd s=er Pd' s:=by
 induction h with
 |nil=>rfl
 |cons p _ ih=>exact Yyw p ih
 |swap p q l=>exact Yyy q p l
 |trans _ _ ih1 ih2=>exact ih1.trans ih2
theorem YrV{a:Act}{sv:List Act}(h:Pd.Perm Pd')(hR:PR w0 Pd s a sv w):PR w0 Pd' s a sv w:=
 ⟨by rw[<-Yyx h];exact hR.1,fun p hp=>hR.2 p (h.mem_iff.2 hp)⟩
end
end Go.Vx
namespace Go.Vx
open Go.RowKit
def Yae(sil:List (Nat×Pend))(L:Array Bool):List Pend:=
 match sil with
 | []=>[]
 |x::r=>bif L.getD x.1 false then Yae r L else x.2::Yae r L
theorem mem_pendOf{p:Pend}{L:Array Bool}:∀{sil:List (Nat×Pend)},p∈Yae sil L↔∃k,(k,p)∈sil/\L.getD k false=false
 | []=>by simp [Yae]
 |x::r=>by
   unfold Yae
   cases hl:L.getD x.1 false with
   |true=>
     simp only[cond_true]
     rw[mem_pendOf (sil:=r)]
     constructor
     . rintro⟨k,h1,h2⟩;exact⟨k,YGK _ h1,h2⟩
     . rintro⟨k,h1,h2⟩
       rcases YGQ.1 h1 with rfl|h1
       . rw[hl]at h2;cases h2
       . exact⟨k,h1,h2⟩
   |false=>
     simp only[cond_false,YGQ]
     rw[mem_pendOf (sil:=r)]
     constructor
     . rintro(rfl| ⟨k,h1,h2⟩)
       . exact⟨x.1,.inl rfl,hl⟩
       . exact⟨k,.inr h1,h2⟩
     . rintro⟨k,rfl|h1,h2⟩
       . exact .inl rfl
       . exact .inr ⟨k,h1,h2⟩
theorem YeL{L:Array Bool}{i:Nat}:∀{sil:List (Nat×Pend)},(∀p,(i,p)∉sil)->Yae sil (L.setIfInBounds i true)=Yae sil L
 | [],_=>rfl
 |x::r,h=>by
   unfold Yae
   have hx:i≠x.1:=by
     intro e
     exact h x.2 (by rw[e];exact YGI)
   rw[getD_set_ne false hx,YeL (sil:=r) fun p hp=>h p (YGK _ hp)]
theorem Yhv{L:Array Bool}{i:Nat}{p:Pend}(hi:i<L.size)(hl:L.getD i false=false):∀{sil:List (Nat×Pend)},(sil.map (·.1)).Nodup->(i,p)∈sil->(Yae sil L).Perm (p::Yae sil (L.setIfInBounds i true))
 |x::r,hn,hm=>by
   rw[YG6,List.nodup_cons]at hn
   by_cases hx:x.1=i
   . have hp:x=(i,p):=by
       rcases YGQ.1 hm with rfl|hm
       . rfl
       . exact absurd (List.mem_map.2 ⟨_,hm,hx.symm⟩) hn.1
     subst hp
     have hr:∀q,(i,q)∉r:=fun q hq=>hn.1 (List.mem_map.2 ⟨_,hq,rfl⟩)
     unfold Yae
     simp only[hl,cond_false]
     have:(L.setIfInBounds i true).getD i false=true:=by simp [hi]
     rw[this,YeL hr]
     exact List.Perm.refl _
   . have hm':(i,p)∈r:=by
       rcases YGQ.1 hm with rfl|hm
       . exact absurd rfl hx
       . exact hm
     have ih:=Yhv hi hl hn.2 hm'
     unfold Yae
     rw[getD_set_ne false (Ne.symm hx)]
     cases L.getD x.1 false with
     |true=>exact ih
     |false=>exact(List.Perm.cons _ ih).trans (List.Perm.swap _ _ _)
theorem Yhu{n:Nat}:∀{sil:List (Nat×Pend)},Yae sil (Array.replicate n false)=sil.map (·.2)
 | []=>rfl
 |x::r=>by
   unfold Yae
   have:(Array.replicate n false).getD x.1 false=false:=by
     rcases YGN x.1 n with h'|h'
     . simp [h']
     . simp [Array.getElem?_eq_none,h']
   rw[this,Yhu (sil:=r)]
   rfl
theorem Yh7{md:Region.Mode}{ops:Array Oper}(hb:∀(i:Nat) (o:Oper),ops[i]? =some o->∀e∈o.after,Region.binds md e=true->e.on<i){L:Array Bool}(hd:Down md ops L)(hr:Region.ready md ops L=[]):
   ∀(N i:Nat),i<N->i<ops.size->L.getD i false=true
 |N+1,i,hi,hn=>by
   cases hl:L.getD i false with
   |true=>rfl
   |false=>
     have ho:ops[i]? =some ops[i]:=Array.getElem?_eq_getElem hn
     have hL:i<L.size:=by rw[hd.1];exact hn
     have:i∈Region.ready md ops L:=mem_ready.2 ⟨by simp [hL]at hl⊢;exact hl,_,ho,fun e he hbi=>by
       have:=hb i _ ho e he hbi
       exact Yh7 hb hd hr N e.on (by omega) (by omega)⟩
     rw[hr]at this;cases this
section
variable {P:Program} {E:Env} {G:VOp->(S->Prop)->S->Prop} {w0:Cx} {rd:Option Nat} {all:Array Oper} {tab:List DT} {sil:List (Nat×Pend)} {clo:Nat->Nat->Bool} {md:Region.Mode}
structure Yxr (P:Program) (all:Array Oper) (tab:List DT) (sil:List (Nat×Pend)) (clo:Nat->Nat->Bool):Prop where
 nodup:(sil.map (·.1)).Nodup
 apart:∀x∈sil,∀y∈sil,x.1≠y.1->x.2.slot≠y.2.slot/\x.2.idx≠y.2.idx
 silent:∀(i d:Nat),tab[i]? =some (.silent d)->∃p o elem,(i,p)∈sil/\all[i]? =some o/\o.op= .alloc elem/\o.guard=none/\p.cells.is P elem/\o.dst=some p.slot
 op:∀(i:Nat)(v:VOp)(chk:List (Nat×X)),tab[i]? =some (.op v chk)->(∀p,(i,p)∉sil)/\(∃o,all[i]? =some o/\Ygu P all o=some v)/\
   ∀x∈sil,(clo i x.1=true\/(x.2.slot∉v.reads/\(v.op.isAppend=true->x.2.cells.clean=true)))/\v.dst≠some x.2.slot
 loud:∀(i:Nat)(v:VOp),tab[i]? =some (.loud v)->sil=[]/\∃o,all[i]? =some o/\Ygu P all o=some v
structure Yh5 (P:Program) (G:VOp->(S->Prop)->S->Prop) (rd:Option Nat) (all:Array Oper) (κ:Kont) (c0:Cx0) (ks:List (Nat×Obj)) (sv:List Act):Prop where
 mono:∀v (A B:S->Prop) s,(∀s,A s->B s)->G v A s->G v B s
 ok:∀{i:Nat}{o:Oper}{v:VOp}{A:S->Prop}{s:S},all[i]? =some o->Ygu P all o=some v->G v A s->∀{J:Nat->Option IK}{hJ:Ext c0 J}{a:Act}{w:World},Rl ⟨c0.wI J hJ,ks⟩ s a sv w->
   wpOpIn (Wd rd) 0 P all κ i (fun a' w'=> ∃s',A s'/\∃J',∃hJ':Ext c0 J',Rl ⟨c0.wI J' hJ',ks⟩ s' a' sv w') a w
theorem hop(hE:Yq P E)(hc:YwO md all clo)(hr:Yxr P all tab sil clo){c0:Cx0}{ks:List (Nat×Obj)}{κ:Kont}{sv:List Act}(hG:Yh5 P G rd all κ c0 ks sv)(i:Nat)(L:Array Bool)(s:S)(A:S->Prop)(a:Act)(w:World)
   (hi:i∈Region.ready md all L)(h:YZ E G tab i L A s)(hR:Down md all L/\∃J,∃hJ:Ext c0 J,PR ⟨c0.wI J hJ,ks⟩ (Yae sil L) s a sv w):
   wpOpIn (Wd rd) 0 P all κ i (fun a' w'=> ∃s',A s'/\(Down md all (L.setIfInBounds i true)/\∃J,∃hJ:Ext c0 J,PR ⟨c0.wI J hJ,ks⟩ (Yae sil (L.setIfInBounds i true)) s' a' sv w')) a w:=by
 obtain⟨hd,J,hJ,hR⟩:=hR
 have hd':=hd.set hi
 unfold YZ at h
 cases ht:tab[i]? with
 |none=>rw[ht]at h;exact h.elim
 |some t=>
   rw[ht]at h
   cases t with
   |silent d=>
     obtain⟨p,o,elem,hm,ho,hop,hg,hz,hdst⟩:=hr.silent i d ht
     have hsz:i<L.size:=by rw[hd.1];exact(YG5.1 ho).1
     have hR':=YrV (Yhv hsz (Ydv hi) hr.nodup hm) hR
     have hap:∀q∈Yae sil (L.setIfInBounds i true),q.slot≠p.slot/\q.idx≠p.idx:=by
       intro q hq
       obtain⟨k,hk,hkl⟩:=mem_pendOf.1 hq
       refine hr.apart (k,q) hk (i,p) hm ?_
       rintro(rfl:k=i)
       simp [hsz]at hkl
     exact Yow ho hop hg hz hdst (fun q hq=>(hap q hq).2) (fun q hq=>(hap q hq).1) hR' fun a' w' h'=>⟨s,h,hd',J,hJ,h'⟩
   |op v chk=>
     obtain⟨hns,⟨o,ho,hv⟩,hst⟩:=hr.op i v chk ht
     have hpend:∀p∈Yae sil L,(p.slot∉v.reads/\(v.op.isAppend=true->p.cells.clean=true))/\v.dst≠some p.slot:=by
       intro p hp
       obtain⟨k,hk,hkl⟩:=mem_pendOf.1 hp
       obtain⟨h1,h2⟩:=hst (k,p) hk
       refine⟨h1.resolve_left fun hck=>?_,h2⟩
       have:=hc.ready L i k hd hi hck
       rw[hkl]at this;cases this
     refine wpOpIn_mono (fun a' w' ⟨s',h1,J',hJ',h2⟩=>⟨s',h1,hd',J',hJ',by rw[YeL hns];exact h2⟩) (YkR hE ho hv (fun p hp=>(hpend p hp).1.1) (fun p hp=>(hpend p hp).2) (fun ha p hp=>(hpend p hp).1.2 ha) h.2 hR)
   |loud v=>
     obtain⟨hsil,o,ho,hv⟩:=hr.loud i v ht
     have hpe:∀L,Yae sil L=[]:=fun L=>by rw[hsil];rfl
     rw[hpe]at hR
     simp only[hpe]
     rcases h with h|h
     . exact wpOpIn_mono (fun a' w' ⟨s',h1,J',hJ',h2⟩=>⟨s',h1,hd',J',hJ',h2⟩) (YkR hE ho hv (fun p hp=>(by cases hp)) (fun p hp=>(by cases hp)) (fun ha p hp=>(by cases hp)) h hR)
     . exact wpOpIn_mono (fun a' w' ⟨s',h1,J',hJ',h2⟩=>⟨s',h1,hd',J',hJ',Ywn h2⟩) (hG.ok ho hv h hR.1)
theorem Yly(hE:Yq P E)(hm:P.follows .mixedOrders=true){cl:List Nat}(hl:cl.length=all.size)(hcl:Yf8 (YG .any all) cl all.size=true)(hr:Yxr P all tab sil (YaD cl)){free:Nat->Bool}
   (hfree:∀i,free i=true->(∃d,tab[i]? =some (.silent d))\/∃v,tab[i]? =some (.op v [])/\v.op.quiet=true/\∀(j:Nat) (t:DT),tab[j]? =some t->YqG (YaD cl) i v j t=true)
   {K:S->Prop}{κ:Kont}{s:S}{a:Act}{sv:List Act}{w:World}{id:Nat}
   (h:(∀(j:Nat) (L:Array Bool) (s:S) (A B:S->Prop),(∀s,A s->B s)->YZ E G tab j L A s->YZ E G tab j L B s)->(∀i L s,free i=true->¬YZ E G tab i L (fun _=>False) s)->
     (∀(i:Nat),free i=true->∀(j:Nat) (L:Array Bool) (s:S) (A:S->Prop),Down .any all L->i∈Region.ready .any all L->j∈Region.ready .any all L->j≠i->YZ E G tab i L (YZ E G tab j (L.setIfInBounds i true) A) s->YZ E G tab j L (YZ E G tab i (L.setIfInBounds j true) A) s)->
     anyS (YZ E G tab) K .any all all.size (Array.replicate all.size false) s){c0:Cx0}{ks:List (Nat×Obj)}{J:Nat->Option IK}{hJ:Ext c0 J}(hG:Yh5 P G rd all κ c0 ks sv)(hR:PR ⟨c0.wI J hJ,ks⟩ (sil.map (·.2)) s a sv { w with drawn:=w.drawn+1}) (hK:∀s a w J (hJ:Ext c0 J),K s->Rl ⟨c0.wI J hJ,ks⟩ s a sv w->κ .normal a w) (hall:∀x∈sil,x.1<all.size) (hbel:∀(i:Nat)(o:Oper),all[i]? =some o->∀e∈o.after,Region.binds .any e=true->e.on<i):(Code.region id all true).wpIn (Wd rd) 0 P κ a w:=by
 have hc:=YC1 hl hcl
 refine wpIn_region_any hm ?_
 have hany:=h (YiG hG.mono) ?_ ?_
 . refine Yox (step:=YZ E G tab) (K:=K) (P:=P) (Q:=κ) (fun L s a w=>Down .any all L/\∃J,∃hJ:Ext c0 J,PR ⟨c0.wI J hJ,ks⟩ (Yae sil L) s a sv w) (fun i L s A a w hi hs hR=>hop hE hc hr hG i L s A a w hi hs hR) ?_ _ _ s a _ hany ⟨Yha,J,hJ,?_⟩
   . rintro L s a w hr0 hKs ⟨hd,J,hJ,hPR⟩
     have:Yae sil L=[]:=by
       cases hp:Yae sil L with
       |nil=>rfl
       |cons p r=>
         obtain⟨k,hk,hkl⟩:=mem_pendOf.1 (show p∈Yae sil L by rw[hp];exact YGI)
         have:=Yh7 hbel hd hr0 (k+1) k (by omega) (hall _ hk)
         rw[hkl]at this;cases this
     rw[this]at hPR
     exact hK s a w J hJ hKs hPR.1
   . rw[Yhu];exact hR
 . intro i L s hf hstep
   rcases hfree i hf with⟨d,ht⟩ | ⟨v,ht,hq,_⟩
   . unfold YZ at hstep;rw[ht]at hstep;exact hstep
   . unfold YZ at hstep;rw[ht]at hstep;exact Yg8 hq hstep.2
 . intro i hf j L s A hd hri hrj hji hs
   rcases hfree i hf with⟨d,ht⟩ | ⟨v,ht,hq,hcm⟩
   . have hsi:∀(L:Array Bool)(A:S->Prop)(s:S),YZ E G tab i L A s=A s:=by
       intro L A s;unfold YZ;rw[ht]
     rw[hsi]at hs
     refine YiG hG.mono j L s _ _ (fun s' hs'=>by rw[hsi];exact hs') ?_
     unfold YZ at hs⊢
     cases htj:tab[j]? with
     |none=>rw[htj]at hs;exact hs
     |some t=>
       rw[htj]at hs
       cases t with
       |silent d=>exact hs
       |op u chk=>exact⟨fun c hcm hcl=>hs.1 c hcm (getD_set_true hcl),hs.2⟩
       |loud u=>exact hs
   . exact Yo2 hc ht hq hcm j L s A hd hri hrj hji hs
theorem Yvu{s:S}{a:Act}{sv:List Act}{w:World}(h:Rl w0 s a sv w)(n:Nat):Rl w0 s a sv { w with drawn:=n}:=by
 obtain⟨bs,hf,hsv,hH,hb,hoth⟩:=h
 have hk:Keeps w bs { w with drawn:=n} bs:=fun b hf o ho=>⟨ho,hf⟩
 have hst:Stays none bs bs:=fun _ _ _ h _=>h
 exact⟨bs,hf.keep hk hst Yj,hsv.keep hk hst,⟨hH.len,fun i=>(hH.ent i).keep hk hst rfl (fun _ _ _ _=>rfl),hH.inj,hH.lo,YaO hk hH.reg⟩,⟨hb.os,hb.tape,hb.output,hb.size,hb.block⟩,hoth.keep hk⟩
end
end Go.Vx
namespace Go.Vx
open Go.RowKit
def YeC(lf:FuncId->Bool)(clo:Nat->Nat->Bool)(all:List VOp)(v:VOp)(j:Nat):DT:=
 match Y0 v with
 |some (d,_)=> .silent d
 |none=>bif Yhl lf v then .loud v else .op v (bif v.op.isStore then YuA clo j all 0 else bif v.op.isAppend then Yun clo j all 0 else [])
theorem Ycw{lf:FuncId->Bool}{clo:Nat->Nat->Bool}{all:List VOp}:∀(l:List VOp)(j i:Nat),(Ybk lf clo all l j)[i]? =(l[i]?).map fun v=>YeC lf clo all v (j+i)
 | [],_,_=>by simp [Ybk]
 |v::l,j,0=>by
   simp only[Ybk,List.getElem?_cons_zero,Option.map_some,YHw,YeC]
   cases Y0 v <;> rfl
 |v::l,j,i+1=>by
   simp only[Ybk,List.getElem?_cons_succ]
   rw[Ycw l (j+1) i]
   congr 1
   funext v
   rw[show j+1+i=j+(i+1)by omega]
theorem mem_silOf{k d:Nat}{z:AL}:∀{l:List VOp}{j:Nat},(k,d,z)∈Yc3 l j↔∃i v,l[i]? =some v/\k=j+i/\Y0 v=some (d,z)
 | [],j=>by simp [Yc3]
 |v::l,j=>by
   have ih:=mem_silOf (k:=k) (d:=d) (z:=z) (l:=l) (j:=j+1)
   unfold Yc3
   cases hs:Y0 v with
   |none=>
     simp only
     rw[ih]
     constructor
     . rintro⟨i,u,h1,h2,h3⟩;exact⟨i+1,u,by simpa using h1,by omega,h3⟩
     . rintro⟨i,u,h1,h2,h3⟩
       cases i with
       |zero=>simp only[List.getElem?_cons_zero,Option.some.injEq]at h1;subst h1;rw[hs]at h3;cases h3
       |succ i=>exact⟨i,u,by simpa using h1,by omega,h3⟩
   |some r=>
     obtain⟨d',z'⟩:=r
     simp only[YGQ]
     rw[ih]
     constructor
     . rintro(h| ⟨i,u,h1,h2,h3⟩)
       . cases h;exact⟨0,v,rfl,rfl,hs⟩
       . exact⟨i+1,u,by simpa using h1,by omega,h3⟩
     . rintro⟨i,u,h1,h2,h3⟩
       cases i with
       |zero=>simp only[List.getElem?_cons_zero,Option.some.injEq]at h1;subst h1;rw[hs]at h3;cases h3;left;rw[h2];rfl
       |succ i=>exact .inr ⟨i,u,by simpa using h1,by omega,h3⟩
theorem YiH{P:Program}{all:Array Oper}:∀{rest:List Oper}{vs:List VOp},YaR P all rest=some vs->∀(i:Nat)(v:VOp),vs[i]? =some v->∃o,rest[i]? =some o/\Ygu P all o=some v
 | [],vs,h,i,v,hv=>by simp only[YaR,Option.some.injEq]at h;subst h;simp at hv
 |o::l,vs,h,i,v,hv=>by
   simp only[YaR]at h
   obtain⟨x,hx,h⟩:=YGx.1 h
   obtain⟨y,hy,rfl⟩:=YGz.1 h
   cases i with
   |zero=>simp only[List.getElem?_cons_zero,Option.some.injEq]at hv;subst hv;exact⟨o,rfl,hx⟩
   |succ i=>exact YiH hy i v (by simpa using hv)
theorem Yih{clo:Nat->Nat->Bool}{i:Nat}{v:VOp}:∀{l:List DT}{j:Nat},Yg5 clo i v l j=true->∀(k:Nat)(t:DT),l[k]? =some t->YqG clo i v (j+k) t=true
 |t::l,j,h,0,u,hu=>by
   simp only[Yg5,YGA]at h
   simp only[List.getElem?_cons_zero,Option.some.injEq]at hu;subst hu;exact h.1
 |t::l,j,h,k+1,u,hu=>by
   simp only[Yg5,YGA]at h
   have:=Yih h.2 k u (by simpa using hu)
   rw[show j+1+k=j+(k+1)by omega]at this
   exact this
end Go.Vx
namespace Go.Vx
open Go.RowKit
theorem Yrp:∀l:List SV,lenE l=lenL l
 | []=>rfl
 |_::l=>congrArg (·+1) (Yrp l)
def AL.op:AL->VO
 | .box z=> .alloc z
 | .arr n size z=> .allocArr n size z
def AL.ok:AL->Prop
 | .box _=>True
 | .arr n size z=>lenL z=n*size
theorem YlH{v:VOp}{d:Nat}{z:AL}(h:Y0 v=some (d,z)):v.dst=some d/\v.g=none/\v.op=z.op/\z.ok:=by
 unfold Y0 at h
 split at h
 . cases h;exact⟨rfl,rfl,rfl,trivial⟩
 . rename_i n size z' _
   cases hb:YHf (lenE z') (n*size)with
   |true=>rw[hb]at h;cases h;exact⟨rfl,rfl,rfl,(Yrp z').symm.trans (YGW hb)⟩
   |false=>rw[hb]at h;cases h
 . cases h
theorem Yo6{P:Program}{o:Oper}{z:AL}{ops:List Operand}{elem:TypeId}(ho:o.op= .alloc elem)(h:vop P o=some (AL.op z,ops))(hk:AL.ok z):z.is P elem:=by
 obtain⟨dst,op,type,pos,after,guard⟩:=o
 simp only at ho
 subst ho
 unfold vop at h
 simp only at h
 split at h
 . obtain⟨_,hz,h⟩:=YGx.1 h
   obtain⟨_,_,h⟩:=YGz.1 h
   cases z <;> cases h
   exact⟨hz,hk⟩
 . obtain⟨_,hz,h⟩:=YGz.1 h
   cases z <;> cases h
   exact hz
theorem Yh8:∀{os:List Oper}{vs:List VOp},Yeu os vs=true->∀(i:Nat)(o:Oper)(v:VOp),os[i]? =some o->vs[i]? =some v->(Y0 v).isSome=true->∃e,o.op= .alloc e
 | [],_,_,i,o,v,h,_,_=>by simp at h
 |_::_,[],_,i,o,v,_,h,_=>by simp at h
 |o'::os,v'::vs,h,0,o,v,h1,h2,h3=>by
   simp only[List.getElem?_cons_zero,Option.some.injEq]at h1 h2
   subst h1;subst h2
   simp only[Yeu,YGA]at h
   have h:=h.1
   cases hs:Y0 v' with
   |none=>rw[hs]at h3;cases h3
   |some x=>
     rw[hs]at h
     simp only at h
     split at h
     . exact⟨_,‹_›⟩
     . cases h
 |o'::os,v'::vs,h,i+1,o,v,h1,h2,h3=>by
   simp only[Yeu,YGA]at h
   exact Yh8 h.2 i o v (by simpa using h1) (by simpa using h2) h3
def silP:Nat->List (Nat×Nat×AL)->List (Nat×Pend)
 |_,[]=>[]
 |n,(j,d,z)::l=>(j,⟨n,d,z⟩)::silP (n+1) l
theorem Ye9{j:Nat}{p:Pend}:∀{l:List (Nat×Nat×AL)}{n:Nat},(j,p)∈silP n l->n<=p.idx/\(j,p.slot,p.cells)∈l
 | [],_,h=>by cases h
 | (j',d,z)::l,n,h=>by
   rcases YGQ.1 h with h|h
   . cases h;exact⟨YGH _,YGI⟩
   . have:=Ye9 h;exact⟨by omega,YGK _ this.2⟩
theorem Yol{j d:Nat}{z:AL}:∀{l:List (Nat×Nat×AL)}{n:Nat},(j,d,z)∈l->∃p,(j,p)∈silP n l/\p.slot=d/\p.cells=z
 | [],_,h=>by cases h
 | (j',d',z')::l,n,h=>by
   rcases YGQ.1 h with h|h
   . cases h;exact⟨_,YGI,rfl,rfl⟩
   . obtain⟨p,h1,h2⟩:=Yol (n:=n+1) h
     exact⟨p,YGK _ h1,h2⟩
theorem Yok:∀{l:List (Nat×Nat×AL)}{n:Nat},(silP n l).map (·.1)=l.map (·.1)
 | [],_=>rfl
 | (j,d,z)::l,n=>by simp only[silP,YG6,Yok]
theorem YvD{x:Nat×Nat×AL}{l:List VOp}{j:Nat}(h:x∈Yc3 l j):j<=x.1:=by
 obtain⟨k,d,z⟩:=x
 obtain⟨i,v,_,h2,_⟩:=mem_silOf.1 h
 simp only;omega
theorem YeO:∀{l:List VOp}{j:Nat},((Yc3 l j).map (·.1)).Nodup
 | [],_=> .nil
 |v::l,j=>by
   unfold Yc3
   cases Y0 v with
   |none=>exact YeO
   |some r=>
     obtain⟨d,z⟩:=r
     simp only[YG6,List.nodup_cons]
     refine⟨fun h=>?_,YeO⟩
     obtain⟨x,hx,h⟩:=List.mem_map.1 h
     have:=YvD hx;omega
theorem Ydc:∀{l:List Nat},Yci l=true->l.Nodup
 | [],_=> .nil
 |d::l,h=>by
   simp only[Yci,YGA,YGP]at h
   rw[List.nodup_cons]
   refine⟨fun hm=>?_,Ydc h.2⟩
   have:l.contains d=true:=by rw[List.contains_iff_mem];exact hm
   rw[h.1]at this;cases this
theorem YiE:∀{l:List (Nat×Nat×AL)}{n:Nat},(l.map (·.2.1)).Nodup->∀x∈silP n l,∀y∈silP n l,x.1≠y.1->x.2.slot≠y.2.slot/\x.2.idx≠y.2.idx
 | [],_,_,x,hx,_,_,_=>by cases hx
 | (j,d,z)::l,n,hn,x,hx,y,hy,hxy=>by
   simp only[YG6,List.nodup_cons]at hn
   have key:∀u∈silP (n+1) l,u.2.slot≠d/\u.2.idx≠n:=by
     rintro⟨k,p⟩ hu
     obtain⟨h1,h2⟩:=Ye9 hu
     refine⟨fun e=>hn.1 (List.mem_map.2 ⟨_,h2,e⟩),?_⟩
     simp only;omega
   rcases YGQ.1 hx with rfl|hx <;> rcases YGQ.1 hy with rfl|hy
   . exact absurd rfl hxy
   . exact⟨fun e=>(key y hy).1 e.symm,fun e=>(key y hy).2 e.symm⟩
   . exact key x hx
   . exact YiE hn.2 x hx y hy hxy
theorem pends_perm:∀{l:List (Nat×Nat×AL)}{n:Nat}{Pd:List Pend},(Yvh n (l.map (·.2)) Pd).Perm ((silP n l).map (·.2)++Pd)
 | [],_,_=>List.Perm.refl _
 | (j,d,z)::l,n,Pd=>by
   simp only[YG6,Yvh,silP,List.cons_append]
   exact pends_perm.trans List.perm_middle
theorem Ymc{al:List (Nat×AL)}:∀{ds:List Nat},(al.map (·.1)).Nodup->(∀d∈al.map (·.1),d∉ds)->YeS al ds=true:=by
 induction al with
 |nil=>intros;rfl
 |cons x al ih=>
   obtain⟨d,z⟩:=x
   intro ds hn hd
   simp only[YG6,List.nodup_cons]at hn
   simp only[YeS,YGA,YGP]
   refine⟨?_,ih hn.2 fun e he hm=>?_⟩
   . cases hc:ds.contains d with
     |false=>rfl
     |true=>rw[List.contains_iff_mem]at hc;exact absurd hc (hd d (by simp))
   . rcases YGQ.1 hm with rfl|hm
     . exact hn.1 he
     . exact hd e (by simp only[YG6,YGQ];exact .inr he) hm
theorem YgO{clo:Nat->Nat->Bool}{sil:List (Nat×Nat×AL)}:∀{l:List DT}{j:Nat},Yfn clo sil l j=true->∀(k:Nat)(v:VOp)(chk:List (Nat×X)),l[k]? =some (.op v chk)->
   ∀x∈sil,(clo (j+k) x.1=true\/(x.2.1∉v.reads/\(v.op.isAppend=true->x.2.2.clean=true)))/\v.dst≠some x.2.1
 | [],_,_,k,v,chk,h,_,_=>by simp at h
 | .silent _::l,j,h,0,v,chk,hk,_,_=>by simp at hk
 | .silent _::l,j,h,k+1,v,chk,hk,x,hx=>by
   have:=YgO (l:=l) (j:=j+1) h k v chk (by simpa using hk) x hx
   rwa [show j+1+k=j+(k+1)by omega]at this
 | .loud _::l,j,h,0,v,chk,hk,_,_=>by simp at hk
 | .loud _::l,j,h,k+1,v,chk,hk,x,hx=>by
   simp only[Yfn,YGA]at h
   have:=YgO (l:=l) (j:=j+1) h.2 k v chk (by simpa using hk) x hx
   rwa [show j+1+k=j+(k+1)by omega]at this
 | .op u c::l,j,h,0,v,chk,hk,x,hx=>by
   simp only[List.getElem?_cons_zero,Option.some.injEq,DT.op.injEq]at hk
   obtain⟨rfl,rfl⟩:=hk
   simp only[Yfn,YGA,List.all_eq_true]at h
   have:=h.1 x hx
   simp only[YHd,YGA,YGP]at this
   refine⟨?_,?_⟩
   . rcases this.1 with h1| ⟨h1,h2⟩
     . exact .inl h1
     . exact .inr ⟨fun hm=>absurd ((List.contains_iff_mem (a:=x.2.1)).2 hm) (by rw[h1];simp),fun ha=>by rcases h2 with h2|h2;(rw[ha]at h2;cases h2);exact h2⟩
   . intro e
     have:=this.2
     rw[e]at this
     simp at this
 | .op u c::l,j,h,k+1,v,chk,hk,x,hx=>by
   simp only[Yfn,YGA]at h
   have:=YgO (l:=l) (j:=j+1) h.2 k v chk (by simpa using hk) x hx
   rwa [show j+1+k=j+(k+1)by omega]at this
theorem YdW{clo:Nat->Nat->Bool}{sil:List (Nat×Nat×AL)}:∀{l:List DT}{j:Nat},Yfn clo sil l j=true->∀(k:Nat)(v:VOp),l[k]? =some (.loud v)->sil=[]
 | [],_,_,k,v,h=>by simp at h
 | .silent _::l,j,h,0,v,hk=>by simp at hk
 | .silent _::l,j,h,k+1,v,hk=>YdW (l:=l) (j:=j+1) h k v (by simpa using hk)
 | .op u c::l,j,h,0,v,hk=>by simp at hk
 | .op u c::l,j,h,k+1,v,hk=>by
   simp only[Yfn,YGA]at h
   exact YdW (l:=l) (j:=j+1) h.2 k v (by simpa using hk)
 | .loud _::l,j,h,0,v,hk=>by
   simp only[Yfn,YGA]at h
   have h:=h.1
   split at h
   . rfl
   . cases h
 | .loud _::l,j,h,k+1,v,hk=>by
   simp only[Yfn,YGA]at h
   exact YdW (l:=l) (j:=j+1) h.2 k v (by simpa using hk)
theorem Yic:∀{l:List Nat}{j:Nat},Yex l j=true->∀k,l.getD k 0<2^(j+k)
 | [],j,_,k=>by simp;exact Nat.two_pow_pos _
 |m::l,j,h,0=>by
   simp only[Yex,YGA]at h
   have:=h.1
   simp only[Nat.blt_eq]at this
   simpa using this
 |m::l,j,h,k+1=>by
   simp only[Yex,YGA]at h
   have:=Yic h.2 k
   rw[show j+1+k=j+(k+1)by omega]at this
   simpa using this
theorem YnB{clo:Nat->Nat->Bool}{tab:List DT}:∀(n j i:Nat),(YhT clo tab n j).getD i false=true->YyF clo tab (j+i)=true
 |0,_,_,h=>by simp [YhT]at h
 |n+1,j,0,h=>by simpa [YhT]using h
 |n+1,j,i+1,h=>by
   have:=YnB (clo:=clo) (tab:=tab) n (j+1) i (by simpa [YhT]using h)
   rwa [show j+1+i=j+(i+1)by omega]at this
theorem Ybz{P:Program}{all:Array Oper}:∀{rest:List Oper}{vs:List VOp},YaR P all rest=some vs->vs.length=rest.length
 | [],vs,h=>by simp only[YaR,Option.some.injEq]at h;subst h;rfl
 |o::l,vs,h=>by
   simp only[YaR]at h
   obtain⟨x,hx,h⟩:=YGx.1 h
   obtain⟨y,hy,rfl⟩:=YGz.1 h
   simp [Ybz hy]
def OT.all:OT->List Nat
 | .nil=>[]
 | .op i t=>i::t.all
 | .br a b=>a.all++b.all
def Yg9(E:Env)(G:VOp->(S->Prop)->S->Prop)(A:S->Prop):List DOp->S->Prop
 | [],s=>A s
 | ⟨v,chk⟩::l,s=>chkG v.op.isAppend s (s.x (YcI v.xs)) chk/\(dopW E v (Yg9 E G A l) s\/G v (Yg9 E G A l) s)
def dtrP(E:Env)(G:VOp->(S->Prop)->S->Prop)(A:S->Prop):DTr->S->Prop
 | .leaf,s=>A s
 | .ops l t,s=>Yg9 E G (dtrP E G A t) l s
 | .br a b,s=>dtrP E G A a s/\dtrP E G A b s
theorem Yqx{s:S}{y:SV}:∀{l:List X},chkA s y l->∀x∈l,napP (s.x x) y
 |x::l,h,z,hz=>by
   rcases YGQ.1 hz with rfl|hz
   . exact h.1
   . exact Yqx h.2 z hz
theorem YqB{s:S}{y:SV}:∀{l:List X},chkP s y l->∀x∈l,Yib (s.x x) y
 |x::l,h,z,hz=>by
   rcases YGQ.1 hz with rfl|hz
   . exact h.1
   . exact YqB h.2 z hz
theorem YqA{ap:Bool}{s:S}{y:SV}{l:List X}(h:chkG ap s y l)(x:X)(hx:x∈l):chk1 ap (s.x x) y:=by
 cases ap with
 |false=>exact YqB h x hx
 |true=>exact Yqx h x hx
theorem YhD{E:Env}{G:VOp->(S->Prop)->S->Prop}{A:S->Prop}{tab:List DT}(hGm:∀v (A B:S->Prop) s,(∀s,A s->B s)->G v A s->G v B s)(hGn:∀(i:Nat) (v:VOp) (chk:List (Nat×X)) (A:S->Prop) (s:S),tab[i]? =some (.op v chk)->¬G v A s):
   ∀{order:List Nat}{L:Array Bool}{s:S},(∀i∈order,i<tab.length)->Yg9 E G A (YkQ tab order) s->seqS (YZ E G tab) A order L s
 | [],_,_,_,h=>h
 |i::order,L,s,hi,h=>by
   have hlt:=hi i YGI
   unfold YkQ at h
   unfold seqS YZ
   cases ht:tab[i]? with
   |none=>rw[List.getElem?_eq_none_iff]at ht;omega
   |some t=>
     rw[ht]at h
     cases t with
     |silent d=>exact YhD hGm hGn (fun j hj=>hi j (YGK _ hj)) h
     |op v chk=>
       simp only at h⊢
       refine⟨fun c hc _=>YqA h.1 c.2 (List.mem_map.2 ⟨c,hc,rfl⟩),Yaz (fun s' h'=>YhD hGm hGn (fun j hj=>hi j (YGK _ hj)) h') (h.2.resolve_right (hGn i v chk _ _ ht))⟩
     |loud v=>
       simp only at h⊢
       exact h.2.imp (Yaz fun s' h'=>YhD hGm hGn (fun j hj=>hi j (YGK _ hj)) h') (hGm v _ _ s fun s' h'=>YhD hGm hGn (fun j hj=>hi j (YGK _ hj)) h')
theorem YcV{E:Env}{G:VOp->(S->Prop)->S->Prop}{A:S->Prop}{tab:List DT}(hGm:∀v (A B:S->Prop) s,(∀s,A s->B s)->G v A s->G v B s)(hGn:∀(i:Nat) (v:VOp) (chk:List (Nat×X)) (A:S->Prop) (s:S),tab[i]? =some (.op v chk)->¬G v A s):
   ∀{t:OT}{L:Array Bool}{s:S},(∀i∈t.all,i<tab.length)->dtrP E G A (YoD tab t) s->Yo4 (YZ E G tab) A t L s
 | .nil,_,_,_,h=>h
 | .op i t,L,s,hi,h=>by
   have hlt:=hi i (by simp [OT.all])
   have hr:∀j∈t.all,j<tab.length:=fun j hj=>hi j (by simp [OT.all,hj])
   unfold YoD dtrP YkQ at h
   unfold Yo4 YZ
   cases ht:tab[i]? with
   |none=>rw[List.getElem?_eq_none_iff]at ht;omega
   |some x=>
     rw[ht]at h
     cases x with
     |silent d=>exact YcV hGm hGn hr h
     |op v chk=>
       simp only[Yg9]at h⊢
       refine⟨fun c hc _=>YqA h.1 c.2 (List.mem_map.2 ⟨c,hc,rfl⟩),Yaz (fun s' h'=>YcV hGm hGn hr h') (h.2.resolve_right (hGn i v chk _ _ ht))⟩
     |loud v=>
       simp only[Yg9]at h⊢
       exact h.2.imp (Yaz fun s' h'=>YcV hGm hGn hr h') (hGm v _ _ s fun s' h'=>YcV hGm hGn hr h')
 | .br a b,L,s,hi,h=>⟨YcV hGm hGn (fun j hj=>hi j (by simp [OT.all,hj])) h.1,YcV hGm hGn (fun j hj=>hi j (by simp [OT.all,hj])) h.2⟩
theorem YgP{free:Nat->Bool}{dm:List Nat}{n:Nat}:∀{t:OT}{m:Nat}{ex:Bool},Ycx free dm n t m ex=true->∀i∈t.all,i<n
 | .op i t,m,ex,h,j,hj=>by
   simp only[Ycx,YGA]at h
   rcases YGQ.1 hj with rfl|hj
   . have:=Nat.le_of_ble_eq_true h.1.1.1;omega
   . exact YgP h.2 j hj
 | .br a b,m,ex,h,j,hj=>by
   simp only[Ycx,YGA]at h
   rcases YG2.1 hj with hj|hj
   . exact YgP h.1.2 j hj
   . exact YgP h.2 j hj
theorem Ysv{free:Nat->Bool}{dm:List Nat}{n:Nat}:∀{l:List Nat}{m:Nat},seqB free dm n l m=true->∀i∈l,i<n
 |i::l,m,h,j,hj=>by
   simp only[seqB,YGA]at h
   rcases YGQ.1 hj with rfl|hj
   . have:=Nat.le_of_ble_eq_true h.1.1.1;omega
   . exact Ysv h.2 j hj
section
variable {P:Program} {E:Env} {G:VOp->(S->Prop)->S->Prop} {w0:Cx} {rd:Option Nat}
theorem Ynr(hE:Yq P E)(hm:P.follows .mixedOrders=true){ops:Array Oper}{vs:List VOp}(hvs:YaR P ops ops.toList=some vs)(c0:Yeu ops.toList vs=true)(c1:YHf (clos (YG .any ops)).length ops.size=true)(c2:Yf8 (YG .any ops) (clos (YG .any ops)) ops.size=true)(c3:Yex (YG .any ops) 0=true)
   (c4:Yfn (YaD (clos (YG .any ops))) (Yc3 vs 0) (Ybk (Ybt P) (YaD (clos (YG .any ops))) vs vs 0) 0=true)(c5:Yci ((Yc3 vs 0).map (·.2.1))=true) {A:S->Prop} {κ:Kont} {s:S} {a:Act} {sv:List Act} {w:World} {id:Nat}
   (h:∀s0,s0=YhV s ((Yc3 vs 0).map (·.2))->(∀(j:Nat)(L:Array Bool)(s:S)(A B:S->Prop),(∀s,A s->B s)->YZ E G (Ybk (Ybt P) (YaD (clos (YG .any ops))) vs vs 0) j L A s->YZ E G (Ybk (Ybt P) (YaD (clos (YG .any ops))) vs vs 0) j L B s)->
     (∀i L s,(YhT (YaD (clos (YG .any ops))) (Ybk (Ybt P) (YaD (clos (YG .any ops))) vs vs 0) ops.size 0).getD i false=true->¬YZ E G (Ybk (Ybt P) (YaD (clos (YG .any ops))) vs vs 0) i L (fun _=>False) s)->
     (∀(i:Nat),(YhT (YaD (clos (YG .any ops))) (Ybk (Ybt P) (YaD (clos (YG .any ops))) vs vs 0) ops.size 0).getD i false=true->∀(j:Nat)(L:Array Bool)(s:S)(A:S->Prop),Down .any ops L->i∈Region.ready .any ops L->j∈Region.ready .any ops L->j≠i->YZ E G (Ybk (Ybt P) (YaD (clos (YG .any ops))) vs vs 0) i L (YZ E G (Ybk (Ybt P) (YaD (clos (YG .any ops))) vs vs 0) j (L.setIfInBounds i true) A) s->YZ E G (Ybk (Ybt P) (YaD (clos (YG .any ops))) vs vs 0) j L (YZ E G (Ybk (Ybt P) (YaD (clos (YG .any ops))) vs vs 0) i (L.setIfInBounds j true) A) s)->
     anyS (YZ E G (Ybk (Ybt P) (YaD (clos (YG .any ops))) vs vs 0)) A .any ops ops.size (Array.replicate ops.size false) s0) {cx:Cx0} {ks:List (Nat×Obj)} {J:Nat->Option IK} {hJ:Ext cx J} (hG:Yh5 P G rd ops κ cx ks sv) (hGn:∀v A s,G v A s->Yhl (Ybt P) v=true) (hR:Rl ⟨cx.wI J hJ,ks⟩ s a sv w) (hK:∀s a w J (hJ:Ext cx J),A s->Rl ⟨cx.wI J hJ,ks⟩ s a sv w->κ .normal a w):(Code.region id ops true).wpIn (Wd rd) 0 P κ a w:=by
 have hlen:vs.length=ops.size:=by rw[Ybz hvs];simp
 have htl:∀(clo:Nat->Nat->Bool)(l:List VOp)(j:Nat),(Ybk (Ybt P) clo vs l j).length=l.length:=by
   intro clo l
   induction l with
   |nil=>intro j;rfl
   |cons v l ih=>intro j;simp only[Ybk,YHF,ih]
 have hsn:((Yc3 vs 0).map (·.2.1)).Nodup:=Ydc c5
 have hget:∀(i:Nat)(v:VOp),vs[i]? =some v->∃o,ops[i]? =some o/\Ygu P ops o=some v:=by
   intro i v hv
   obtain⟨o,h1,h2⟩:=YiH hvs i v hv
   exact⟨o,by simpa using h1,h2⟩
 have hok:Yxr P ops (Ybk (Ybt P) (YaD (clos (YG .any ops))) vs vs 0) (silP (lenH s.hp) (Yc3 vs 0)) (YaD (clos (YG .any ops))):=by
   refine⟨by rw[Yok];exact YeO,YiE hsn,fun i d ht=>?_,fun i v chk ht=>?_,fun i v ht=>?_⟩
   . rw[Ycw]at ht
     obtain⟨v,hv,he⟩:=YGz.1 ht
     unfold YeC at he
     cases hs:Y0 v with
     |none=>rw[hs]at he;simp only at he;cases hl:Yhl (Ybt P) v <;> rw[hl]at he <;> cases he
     |some x=>
       obtain⟨d',z⟩:=x
       rw[hs]at he;cases he
       obtain⟨o,ho,hvo⟩:=hget i v hv
       obtain⟨e,hop⟩:=Yh8 c0 i o v (by simpa using ho) hv (by rw[hs];rfl)
       obtain⟨g1,g2,g3,g4⟩:=YlH hs
       obtain⟨xs,k1,k2,k3,k4,k5⟩:=Yf3 hvo
       obtain⟨p,hp,hp1,hp2⟩:=Yol (n:=lenH s.hp) (mem_silOf.2 ⟨i,v,hv,by omega,hs⟩:(i,d,z)∈Yc3 vs 0)
       refine⟨p,o,e,hp,ho,hop,?_,?_,?_⟩
       . rcases k5 with k5| ⟨_,_,_,_,_,k5⟩
         . exact k5.1
         . rw[g2]at k5;cases k5
       . rw[g3]at k1;rw[hp2];exact Yo6 hop k1 g4
       . rw[<-k4,g1,hp1]
   . rw[Ycw]at ht
     obtain⟨u,hu,he⟩:=YGz.1 ht
     unfold YeC at he
     cases hs:Y0 u with
     |some x=>rw[hs]at he;cases he
     |none=>
       rw[hs]at he
       simp only at he
       cases hl:Yhl (Ybt P) u with
       |true=>rw[hl]at he;cases he
       |false=>
       rw[hl]at he
       simp only[cond_false,DT.op.injEq]at he
       obtain⟨rfl,hchk⟩:=he
       refine⟨fun p hp=>?_,hget i u hu,fun x hx=>?_⟩
       . obtain⟨_,hm⟩:=Ye9 hp
         obtain⟨i',v',h1,h2,h3⟩:=mem_silOf.1 hm
         have:i'=i:=by omega
         subst this
         rw[hu]at h1;cases h1
         rw[hs]at h3;cases h3
       . obtain⟨k,p⟩:=x
         have:=YgO c4 i u chk (by rw[Ycw,hu];simp [YeC,hs,hl,<-hchk]) (k,p.slot,p.cells) (Ye9 hx).2
         simpa using this
   . have hsl:=YdW c4 i v ht
     rw[Ycw]at ht
     obtain⟨u,hu,he⟩:=YGz.1 ht
     refine⟨by rw[hsl];rfl,?_⟩
     have:u=v:=by
       unfold YeC at he
       cases hs:Y0 u with
       |some x=>rw[hs]at he;cases he
       |none=>
         rw[hs]at he
         simp only at he
         cases hl:Yhl (Ybt P) u <;> rw[hl]at he <;> cases he
         rfl
     subst this
     exact hget i u hu
 refine Yly (J:=J) (hJ:=hJ) (free:=fun i=>(YhT (YaD (clos (YG .any ops))) (Ybk (Ybt P) (YaD (clos (YG .any ops))) vs vs 0) ops.size 0).getD i false) hE hm (YGW c1) c2 hok (fun i hi=>?_)
   (h _ rfl) hG ?_ hK (fun x hx=>?_) (fun i o ho e he hb=>?_)
 . have:=YnB _ _ _ hi
   rw[YHC]at this
   unfold YyF at this
   split at this
   . exact .inl ⟨_,‹_›⟩
   . rename_i v hv
     simp only[YGA]at this
     refine .inr ⟨v,hv,this.1,fun j t ht=>?_⟩
     have:=Yih this.2 j t ht
     rwa [YHC]at this
   . cases this
 . have h0:=Yn2 (w0:=⟨cx.wI J hJ,ks⟩) ((Yc3 vs 0).map (·.2)) [] s (Ymc (by rw[List.map_map];exact hsn) (fun _ _=>by simp)) (Ywn (Yvu hR (w.drawn+1)))
   have:=pends_perm (l:=Yc3 vs 0) (n:=lenH s.hp) (Pd:=[])
   rw[List.append_nil]at this
   exact YrV this h0
 . obtain⟨k,p⟩:=x
   obtain⟨i,v,h1,h2,_⟩:=mem_silOf.1 (Ye9 hx).2
   have:=(List.getElem?_eq_some_iff.1 h1).1
   simp only;omega
 . have hlt:=Yic c3 i
   rw[YdG ho,YHC]at hlt
   have hbit:(Yk9 .any o.after.toList).testBit e.on=true:=maskL_spec.2 ⟨e,by simpa using he,hb,rfl⟩
   rcases YGN e.on i with h'|h'
   . exact h'
   . have:=Nat.testBit_lt_two_pow (YG1 hlt (YGG (by omega) h'))
     rw[this]at hbit;cases hbit
theorem YmJ{lf:FuncId->Bool}{clo:Nat->Nat->Bool}{vs:List VOp}:∀(l:List VOp)(j:Nat),(Ybk lf clo vs l j).length=l.length
 | [],_=>rfl
 |_::l,j=>by simp only[Ybk,YHF,YmJ l]
theorem YnZ{lf:FuncId->Bool}{clo:Nat->Nat->Bool}{vs:List VOp}(hGn:∀v A s,G v A s->Yhl lf v=true)(i:Nat)(v:VOp)(chk:List (Nat×X))(A:S->Prop)(s:S)(h:(Ybk lf clo vs vs 0)[i]? =some (.op v chk)):¬G v A s:=fun hg=>by
 rw[Ycw]at h
 obtain⟨u,hu,he⟩:=YGz.1 h
 unfold YeC at he
 cases hs:Y0 u with
 |some x=>rw[hs]at he;cases he
 |none=>
   rw[hs]at he
   simp only at he
   cases hl:Yhl lf u with
   |true=>rw[hl]at he;cases he
   |false=>
     rw[hl]at he
     cases he
     rw[hGn _ _ _ hg]at hl;cases hl
theorem YoC(hE:Yq P E)(hm:P.follows .mixedOrders=true){ops:Array Oper}{al:List (Nat×AL)}{dl:List DOp}(hd:Ynq P ops=some (al,dl)){A:S->Prop}{κ:Kont}{s:S}{a:Act}{sv:List Act}{w:World}{id:Nat}
   (h:Yg9 E G A dl (YhV s al)){cx:Cx0}{ks:List (Nat×Obj)}{J:Nat->Option IK}{hJ:Ext cx J}(hG:Yh5 P G rd ops κ cx ks sv)(hGn:∀v A s,G v A s->Yhl (Ybt P) v=true)(hR:Rl ⟨cx.wI J hJ,ks⟩ s a sv w)(hK:∀s a w J (hJ:Ext cx J),A s->Rl ⟨cx.wI J hJ,ks⟩ s a sv w->κ .normal a w):(Code.region id ops true).wpIn (Wd rd) 0 P κ a w:=by
 unfold Ynq at hd
 obtain⟨vs,hvs,hd⟩:=YGx.1 hd
 simp only at hd
 split at hd
 . rename_i hc
   simp only[Option.some.injEq,Prod.mk.injEq]at hd
   obtain⟨rfl,rfl⟩:=hd
   simp only[YGA]at hc
   obtain⟨⟨⟨⟨⟨⟨⟨c0,c1⟩,c2⟩,c3⟩,c4⟩,c5⟩,c6⟩,c7⟩:=hc
   have hlen:vs.length=ops.size:=by rw[Ybz hvs];simp
   refine Ynr hE hm hvs c0 c1 c2 c3 c4 c5 (fun s0 hs0 m1 m2 m3=>?_) hG hGn hR hK
   subst hs0
   rw[<-YGW c6]
   have:=Ysw m1 m2 m3 _ 0 (Array.replicate ops.size false) _ c7 YkN Yha (YhD hG.mono (YnZ hGn) (fun i hi=>by rw[YmJ,hlen];exact Ysv c7 i hi) h)
   rw[YGW c6]at this⊢
   exact this
 . cases hd
theorem Ymd(hE:Yq P E)(hm:P.follows .mixedOrders=true){ops:Array Oper}{al:List (Nat×AL)}{t:DTr}(hd:Yjm P ops=some (al,t)){A:S->Prop}{κ:Kont}{s:S}{a:Act}{sv:List Act}{w:World}{id:Nat}
   (h:dtrP E G A t (YhV s al)){cx:Cx0}{ks:List (Nat×Obj)}{J:Nat->Option IK}{hJ:Ext cx J}(hG:Yh5 P G rd ops κ cx ks sv)(hGn:∀v A s,G v A s->Yhl (Ybt P) v=true)(hR:Rl ⟨cx.wI J hJ,ks⟩ s a sv w)(hK:∀s a w J (hJ:Ext cx J),A s->Rl ⟨cx.wI J hJ,ks⟩ s a sv w->κ .normal a w):(Code.region id ops true).wpIn (Wd rd) 0 P κ a w:=by
 unfold Yjm at hd
 obtain⟨vs,hvs,hd⟩:=YGx.1 hd
 simp only at hd
 split at hd
 . rename_i hc
   simp only[Option.some.injEq,Prod.mk.injEq]at hd
   obtain⟨rfl,rfl⟩:=hd
   simp only[YGA]at hc
   obtain⟨⟨⟨⟨⟨⟨⟨c0,c1⟩,c2⟩,c3⟩,c4⟩,c5⟩,c6⟩,c7⟩:=hc
   have hlen:vs.length=ops.size:=by rw[Ybz hvs];simp
   refine Ynr hE hm hvs c0 c1 c2 c3 c4 c5 (fun s0 hs0 m1 m2 m3=>?_) hG hGn hR hK
   subst hs0
   have:=(YgQ m1 m2 m3 _ 0 false (Array.replicate ops.size false) _ c7 YkN Yha (YcV hG.mono (YnZ hGn) (fun i hi=>by rw[YmJ,hlen];exact YgP c7 i hi) h)).1 rfl
   rw[YGW c6]at this
   exact this
 . cases hd
end
end Go.Vx
namespace Go.Vx
open Go.RowKit
section
variable {P:Program} {E:Env} {Q:SV->List HO->Prop} {vr:List VR} {w0:Cx0} {rd:Option Nat} {ks:List (Nat×Obj)}
def inG(E:Env)(Q:SV->List HO->Prop)(vr:List VR)(N:Nat)(K0:List It)(v:VOp)(A:S->Prop)(s:S):Prop:=
 ∃f d xs ys vf,∃B:S->Prop,v=⟨d,none,.call f,xs⟩/\E.lo f=true/\callee E (.call f) (s.args xs)=some (f,ys)/\E.ct f=none/\E.fn f=some vf/\
   (∃m,m<=N/\run E Q vr m (.code vf.body:: .frame d vf.res:: .inLoop B::K0) { fr:=padL vf.ntmps ys,saved:=s.fr::s.saved,hp:=s.hp})/\∀s',B s'->A s'
theorem YjB{N:Nat}{K0:List It}(v:VOp)(A B:S->Prop)(s:S)(h:∀s,A s->B s)(hg:inG E Q vr N K0 v A s):inG E Q vr N K0 v B s:=by
 obtain⟨f,d,xs,ys,vf,C,h1,h2,h3,h4,h5,h6,h7⟩:=hg
 exact⟨f,d,xs,ys,vf,C,h1,h2,h3,h4,h5,h6,fun s' hs=>h _ (h7 s' hs)⟩
theorem Yl7{f g:FuncId}{xs ys:List SV}(h:callee E (.call f) xs=some (g,ys)):g=f:=by
 simp only[callee,Option.some.injEq,Prod.mk.injEq]at h
 exact h.1.symm
theorem Yyt{n N:Nat}(hN:n<=N){v:VOp}{K K0:List It}(hK:Ygj K=K0){s:S}(h:dop E (run E Q vr n) v K s):dopW E v (fun s'=> ∃m,m<=n/\run E Q vr m K s') s\/inG E Q vr N K0 v (fun s'=> ∃m,m<=n/\run E Q vr m K s') s:=by
 obtain⟨d,g,op,xs⟩:=v
 cases g with
 |none=>
   simp only[dop]at h
   unfold dopW
   simp only
   cases hq:op.quiet with
   |true=>
     left
     rw[hq]at h
     simp only[dpl,dq]at h
     simp only[fEff]
     cases he:eff s.hp (lenH s.hp) op (s.args xs)with
     |none=>rw[he]at h;exact h.elim
     |some e=>
       obtain⟨p,x,u⟩:=e
       rw[he]at h
       cases u <;> try exact h.elim
       exact⟨h.1,n,YGH _,h.2⟩
   |false=>
     rw[hq]at h
     simp only[dpl,dcl]at h
     simp only[Yk0]
     cases hc:callee E op (s.args xs)with
     |none=>
       left
       rw[hc]at h
       simp only[psdD]at h
       simp only[psdW]
       cases hps:psd op (s.args xs)with
       |some c=>
         rw[hps]at h
         exact(Ydy n h).mono fun r hs ⟨m,hm,h2⟩=>⟨m,by omega,h2⟩
       |none=>
       rw[hps]at h
       simp only at h⊢
       cases hbad:op.bad with
       |true=>rw[hbad]at h;exact h.elim
       |false=>
       rw[hbad]at h
       simp only[effD,effK]at h
       simp only[badW,effW]
       cases he:eff s.hp (lenH s.hp) op (s.args xs)with
       |none=>rw[he]at h;exact h.elim
       |some e=>rw[he]at h;exact⟨h.1,n,YGH _,h.2⟩
     |some fy=>
       obtain⟨f,ys⟩:=fy
       rw[hc]at h
       simp only[dct]at h
       simp only[ctW]
       cases hct:E.ct f with
       |none=>
         right
         rw[hct]at h
         simp only[dinl]at h
         split at h
         . rename_i g
           split at h
           . rename_i hlo
             split at h
             . rename_i vf hfn
               obtain⟨B,h1,h2⟩:=h
               obtain rfl:=Yl7 hc
               rw[hK]at h1
               exact⟨_,d,xs,ys,vf,B,rfl,hlo,hc,hct,hfn,⟨n,hN,h1⟩,fun s' hs=>⟨n,YGH _,h2 s' hs⟩⟩
             . exact h.elim
           . exact h.elim
         . exact h.elim
       |some c=>
         left
         rw[hct]at h
         exact⟨h.1,(Ydy n h.2).mono fun r hs ⟨m,hm,h2⟩=>⟨m,by omega,h2⟩⟩
 |some gp=>
   left
   obtain⟨g,pol⟩:=gp
   simp only[dop,dgd]at h
   unfold dopW
   simp only
   cases hgd:Yad (getL s.fr g) pol with
   |none=>rw[hgd]at h;exact h.elim
   |some gb=>
     rw[hgd]at h
     simp only[dgq]at h
     cases hq:op.quiet with
     |true=>
       rw[hq]at h
       simp only[effG]at h
       simp only[fEff,hgd]
       cases he:eff s.hp (lenH s.hp) op (YT op gb (s.args xs)).2 with
       |none=>rw[he]at h;exact h.elim
       |some e=>
         obtain⟨p,x,u⟩:=e
         rw[he]at h
         cases u <;> try exact h.elim
         exact⟨⟨h.1,h.2.1⟩,n,YGH _,h.2.2⟩
     |false=>
       rw[hq]at h
       simp only[dctG]at h
       simp only[Yhh,hgd,ctGW]
       cases hct:ctOf E op (YT op gb (s.args xs)).2 with
       |none=>rw[hct]at h;exact h.elim
       |some c=>
         rw[hct]at h
         obtain⟨c,ys⟩:=c
         obtain⟨hp,hno,h⟩:=h
         obtain⟨m,r,hm,h1,h2⟩:=YgN n h
         exact⟨hp,hno,r,⟨m,by omega,h1⟩,h2⟩
theorem Ycj{N:Nat}{K0:List It}{A B:S->Prop}:∀(l:List DOp),(∀s,A s->B s)->∀{s:S},Yg9 E (inG E Q vr N K0) A l s->Yg9 E (inG E Q vr N K0) B l s
 | [],h,_,hs=>h _ hs
 | ⟨_,_⟩::l,h,_,hs=>⟨hs.1,hs.2.imp (Yaz (fun _ h'=>Ycj l h h')) (YjB _ _ _ _ fun _ h'=>Ycj l h h')⟩
theorem Yjl{N:Nat}{K0:List It}:∀(l:List DOp)(n:Nat)(hn:n<=N){K:List It}(hK:Ygj K=K0){s:S},run E Q vr n (.dops l::K) s->Yg9 E (inG E Q vr N K0) (fun s'=> ∃m,m<n/\run E Q vr m K s') l s
 |_,0,_,_,_,_,h=>h.elim
 | [],n+1,_,_,_,_,h=>⟨n,Nat.lt_succ_self _,h⟩
 | ⟨v,chk⟩::l,n+1,hn,K,hK,_,h=>by
   refine⟨h.1,?_⟩
   have key:∀(s:S),(∃m,m<=n/\run E Q vr m (.dops l::K) s)->Yg9 E (inG E Q vr N K0) (fun s'=> ∃m,m<n+1/\run E Q vr m K s') l s:=fun s ⟨m,hm,h'⟩=>
     Ycj l (fun _ ⟨m',hm',h''⟩=>⟨m',by omega,h''⟩) (Yjl l m (by omega) hK h')
   exact(Yyt (n:=n) (N:=N) (by omega) (K:= .dops l::K) (K0:=K0) hK h.2).imp (Yaz key) (YjB _ _ _ _ key)
theorem Yck{N:Nat}{K0:List It}{A B:S->Prop}:∀(t:DTr),(∀s,A s->B s)->∀{s:S},dtrP E (inG E Q vr N K0) A t s->dtrP E (inG E Q vr N K0) B t s
 | .leaf,h,_,hs=>h _ hs
 | .ops l t,h,_,hs=>Ycj l (fun _ h'=>Yck t h h') hs
 | .br a b,h,_,hs=>⟨Yck a h hs.1,Yck b h hs.2⟩
theorem Yjn{N:Nat}{K0:List It}:∀(t:DTr)(n:Nat)(hn:n<=N){K:List It}(hK:Ygj K=K0){s:S},run E Q vr n (.dtr t::K) s->dtrP E (inG E Q vr N K0) (fun s'=> ∃m,m<n/\run E Q vr m K s') t s
 |_,0,_,_,_,_,h=>h.elim
 | .leaf,n+1,_,_,_,_,h=>⟨n,Nat.lt_succ_self _,h⟩
 | .ops l t,n+1,hn,K,hK,_,h=>Ycj l (fun _ ⟨m,hm,h'⟩=>Yck t (fun _ ⟨m',hm',h''⟩=>⟨m',by omega,h''⟩) (Yjn t m (by omega) hK h')) (Yjl l n (by omega) (K:= .dtr t::K) hK h)
 | .br a b,n+1,hn,K,hK,_,h=>⟨Yck a (fun _ ⟨m',hm',h''⟩=>⟨m',by omega,h''⟩) (Yjn a n (by omega) hK h.1),Yck b (fun _ ⟨m',hm',h''⟩=>⟨m',by omega,h''⟩) (Yjn b n (by omega) hK h.2)⟩
theorem Ye3{fn:Func}{c:Code}{b:VC}{f:FuncId}(hf:P.funcs[f]? =some fn)(hbody:fn.body=some c){R:Ending->World->Prop}{args:Array Value}{w:World}
   (h:(Exit.then (c.wpIn (Wd none) 0 P (bodyPostM (Wd none) 0 P fn R)) (bodyPostM (Wd none) 0 P fn R)) .normal { tmps:=args++Array.replicate (fn.ntmps-args.size) undef,defers:=[]} w):CallsIn (Wd none) 0 P f args w R:=
 callsIn_of_wp_marks hf hbody trivial h
theorem YdB{fn:Func}{vf:VF}(h:Yf P fn=some vf):∃c,fn.body=some c/\YcA P c=some vf.body/\YhZ P fn.results.toList=some vf.res/\vf.ntmps=fn.ntmps:=by
 unfold Yf at h
 obtain⟨c,hbody,h⟩:=YGx.1 h
 obtain⟨b,hcode,h⟩:=YGx.1 h
 obtain⟨res,hres,rfl⟩:=YGz.1 h
 exact⟨c,hbody,hcode,hres,rfl⟩
theorem Yn6{w:World}{bs:List BK}{B:Bd}:∀{ps:List Nat}{ys fr:List SV}{vs:List Value}{tmps:Array Value},RepL w bs B fr tmps.toList->RepL w bs B ys vs->RepL w bs B (Ylv fr ps ys) ((ps.zip vs).foldl (fun t (p:Nat×Value)=>t.setIfInBounds p.1 p.2) tmps).toList
 | [],ys,fr,vs,tmps,h,_=>by cases ys <;> simpa [Ylv]using h
 |p::ps,_,fr,_,tmps,h,.nil=>by simpa [Ylv]using h
 |p::ps,_,fr,_,tmps,h,.cons y v ys vs h1 h2=>by
   simp only[Ylv,List.zip_cons_cons,List.foldl_cons]
   refine Yn6 ?_ h2
   rw[Array.toList_setIfInBounds]
   exact h.set p h1
theorem Yn0(hE:Yq P E){fn0:Func}{R0:Ending->World->Prop}{n:Nat}(ih:∀m,m<=n->∀(K:List It) (s:S),run E Q vr m K s->∀(sv:List Act) (ks:List (Nat×Obj)) (rd:Option Nat) (κ:Kont) (a:Act) (w:World),KRel P w0 (bodyPostM (Wd none) 0 P fn0 R0) K sv ks rd κ->∀ {D:Nat->Option IK} {hD:Ext w0 D},Rl ⟨w0.wI D hD,ks⟩ s a sv w->κ .normal a w)
   {all:Array Oper}{o:Oper}{rest:List Oper}{l:List VOp}{vo:VO}{ops:List Operand}{xs:List SV}{K:List It}{s:S}{sv:List Act}{κ:Kont}{a:Act}{w:World}
   (hv:vop P o=some (vo,ops))(hcc:vo.isCall=true->Ybv o.op=true)(hrest:YaR P all rest=some l){D:Nat->Option IK}{hD:Ext w0 D}(hx:∀bs,RepL w bs (w0.wI D hD).bd s.fr a.tmps.toList->RepL w bs (w0.wI D hD).bd xs (ops.map a.eval))
   (h:YoX E (run E Q vr n) o.dst vo xs (.ops l::K) s)(hk:KRel P w0 (bodyPostM (Wd none) 0 P fn0 R0) K sv ks rd κ)(hR:Rl ⟨w0.wI D hD,ks⟩ s a sv w):o.wpIn (Wd rd) 0 P a w (wpListIn (Wd rd) 0 P all κ rest) κ:=by
 have hK:KRel P w0 (bodyPostM (Wd none) 0 P fn0 R0) (.ops l::K) sv ks rd (Exit.then (wpListIn (Wd rd) 0 P all κ rest) κ):= .ops all rest l K sv ks rd κ hrest hk
 obtain⟨bs,hf,hsv,hH,hb,hoth⟩:=id hR
 have hxx:=hx bs hf
 have hB:w0.heap.size<=w.heap.size:=hb.size
 have hnd:=Y8 hv
 unfold YoX at h
 cases hc:callee E vo xs with
 |none=>
   rw[hc]at h
   simp only[opK]at h
   cases hy:yld vo xs with
   |some ly=>
     obtain⟨l',ys⟩:=ly
     rw[hy]at h
     simp only[yldK]at h
     have hvo:vo= .callv/\xs= .fn (.yield l') [] []::ys:=by
       unfold yld at hy
       split at hy
       . split at hy
         . cases hy;exact⟨rfl,rfl⟩
         . cases hy
       . cases hy
     obtain⟨rfl,rfl⟩:=hvo
     cases hfr:YeE (.ops l::K)with
     |none=>rw[hfr]at h;exact h.elim
     |some x=>
       obtain⟨l2,ps,va,vb⟩:=x
       rw[hfr]at h
       cases hss:s.saved with
       |nil=>rw[hss]at h;exact h.elim
       |cons fr svs=>
         rw[hss]at h
         obtain⟨⟨rfl,hlen⟩,hrun⟩:=h
         obtain⟨q,sa,sv',ks',rfl,rfl,rfl,rfl,htm,hva,hvb⟩:=YdL hfr hK
         obtain⟨c,hop,hcall⟩:=You hv (hcc rfl) rfl
         rcases hcall with⟨_,h1,_⟩ | ⟨x,_,hcal,rfl⟩ | ⟨_,_,h1,_⟩
         . cases h1
         . obtain⟨v,vs,hvs,g1,g2⟩:=hxx.cons_inv
           simp only[YG6,List.cons.injEq]at hvs
           obtain⟨hv1,rfl⟩:=hvs
           obtain⟨us,us',rfl,g3,g4⟩:=g1.fn_inv
           cases g3.nil_inv;cases g4.nil_inv
           have hrec:=Ybc hR
           have hsz:(#[]++c.args.map a.eval++ #[]:Array Value).size=q.ps.length:=by
             have:=g2.length
             simp only[List.length_map,Array.length_toList]at this
             have e2:∀l:List Nat,lenN l=l.length:=fun l=>by induction l with|nil=>rfl|cons _ l ih=>simp [lenN,ih]
             rw[e2]at hlen
             simp;omega
           have hex:(execOp a.eval o).run P w= .ok (.round l' q.fn ((q.ps.toArray.zip (#[]++c.args.map a.eval++ #[])).foldl (fun tmps (t,a)=>tmps.setIfInBounds t a) q.tmps) q.ca q.cb) w:=by
             obtain⟨dst,op,type,pos,after,guard⟩:=o
             simp only at hop
             subst hop
             simp only[execOp,resolve,hcal,hv1,Deferred.ofValue,Sem.run_bind,Sem.run_pure,Result.andThen_ok,invoke]
             exact run_yield hrec (by simpa [Rec.at]using hsz)
           unfold Oper.wpIn
           rw[Oper.semAt_eq _ _ _ hnd,hex]
           refine⟨fun _ _=>trivial,fun h=>(by cases h),?_⟩
           refine roundIn_of_wpIn trivial ?_
           refine ih n (YGH _) _ _ hrun (a::sa::sv') _ _ _ { tmps:=_,defers:=[]} _ (.code q.ca va _ _ _ (some l') _ hva (.rbeg l' q _ _ ks' _ (.code q.cb vb _ _ _ (some l') _ hvb (.rend o.dst l' q a _ _ ks' _ _ (fun v w h=>h) hK)))) (D:=D) (hD:=hD) ?_
           rw[hss]at hsv
           cases hsv with
           |cons _ _ _ _ k1 k2=>
             refine⟨bs,?_,.cons _ _ _ _ hf (by rw[hss];exact .cons _ _ _ _ k1 k2),hH,hb,hoth.push⟩
             have:=Yn6 (ps:=q.ps) k1 g2
             rw[htm]
             have e:q.ps.toArray.zip (#[]++c.args.map a.eval++ #[])=(q.ps.zip (c.args.toList.map a.eval)).toArray:=by apply Array.ext';simp
             rw[e]
             simpa using this
         . cases h1
   |none=>
   rw[hy]at h
   simp only[yldK,psdK]at h
   cases hps:psd vo xs with
   |some c=>
     rw[hps]at h
     obtain⟨r,val,w',x,D2,hD2,hrn,hr,⟨m,hm,hrun⟩,k1,k2,k3,k4⟩:=Ywq (ρ:=a.eval) hv hps (Ydy n h) hxx hH
     refine Ybe hnd (hrn o.dst o.type o.pos o.after o.guard) hr ?_
     obtain⟨hD3,hcr⟩:=YdF (al:=false) (z:=Bd.cx (w0.wI D hD).bd w) (w0:=w0) (J1:=D) (hJ1:=hD) (hJ:=hD2) rfl hf hsv hH hb hoth o.dst k1 k2 k3 (fun _=>⟨k4,trivial⟩) (fun h=>by cases h)
     exact ih m (by omega) _ _ hrun sv _ _ _ _ _ hK (hcr _ fun _ h=>h)
   |none=>
   rw[hps]at h
   simp only[effK]at h
   cases he:eff s.hp (lenH s.hp) vo xs with
   |none=>rw[he]at h;exact h.elim
   |some e=>
     rw[he]at h
     obtain⟨r,v,w',bs',hrun,hr,h1,h2,h3,h4,h5⟩:=YlP (ρ:=a.eval) hv he h.1 hxx (fun _=>rfl) (fun _=>rfl) hH hB
     refine Ybe hnd (hrun o.dst o.type o.pos o.after o.guard) hr ?_
     exact ih n (YGH _) _ _ h.2 sv _ _ _ _ _ hK (YhO (op:=o.op) hf hsv hb hoth h1 h2 h3 h4 h5 o.dst)
 |some fy=>
   obtain⟨f,ys⟩:=fy
   rw[hc]at h
   have hcall:vo.isCall=true:=by
     unfold callee at hc
     split at hc <;> first|rfl|cases hc
   simp only[opK,Yqu]at h
   cases hct:E.ct f with
   |some c=>
     rw[hct]at h
     obtain⟨hok,hen⟩:=hE.ct f c hct
     obtain⟨vs,hys,hrun⟩:=YfG hE.meth hv (hcc hcall) hc hxx (fun _=>rfl) hen
     refine Ya0 hnd hrun ?_
     obtain⟨z,hzw,hzI,hargs2,hal⟩:=YcC c.alias hH.v hB 3 hys h.1
     subst hzw
     refine(hok _ vs z _ (fun b K hb=>(hH.reg b K (by rw[hzI]at hb;exact hb)).2) hargs2 (Ydy n h.2)).mono ?_
     rintro e w' ⟨r,hs,v,bs2,D2,hD2,⟨m,hm,hrun'⟩,rfl,h1,h2,h3,h4⟩
     obtain⟨hD3,hcr⟩:=YdF (w0:=w0) (J1:=D) (hJ1:=hD) (hJ:=hD2) hzI hf hsv hH hb hoth o.dst h1 h2 h3 h4 hal
     exact ih m (by omega) _ _ hrun' sv _ _ _ _ _ hK (hcr _ fun _ h=>h)
   |none=>
     rw[hct]at h
     simp only[inlK]at h
     cases hfn:E.fn f with
     |none=>rw[hfn]at h;exact h.elim
     |some vf=>
       rw[hfn]at h
       obtain⟨fn,hfs,hvf,hen⟩:=hE.fn f vf hfn
       obtain⟨vs,hys,hrun⟩:=YfG hE.meth hv (hcc hcall) hc hxx (fun _=>rfl) hen
       refine Ya0 hnd hrun ?_
       obtain⟨c,hbody,hcode,hres,hnt⟩:=YdB hvf
       refine YcD (n:=0) (Ye3 (b:=vf.body) hfs hbody ?_)
       refine ih n (YGH _) _ _ h (a::sv) _ _ _ _ _ (.code c vf.body _ _ _ _ _ hcode (.frame o.dst vf.res fn a _ _ _ _ _ _ hres (fun v w h=>h) hK)) (D:=D) (hD:=hD) ?_
       refine⟨bs,?_,.cons _ _ _ _ hf hsv,hH,hb,hoth.push⟩
       have:=YfV (n:=fn.ntmps) hys
       rw[hnt]
       simpa using this
theorem YmV{all:Array Oper}{rest:List Oper}{v:VOp}{l:List VOp}(h:YaR P all rest=some (v::l)):∃o r,rest=o::r/\Ygu P all o=some v/\YaR P all r=some l:=by
 cases rest with
 |nil=>cases h
 |cons o r=>
   simp only[YaR]at h
   obtain⟨x,hx,h⟩:=YGx.1 h
   obtain⟨y,hy,h⟩:=YGz.1 h
   cases h
   exact⟨o,r,rfl,hx,hy⟩
theorem Yo7{all:Array Oper}{rest:List Oper}(h:YaR P all rest=some []):rest=[]:=by
 cases rest with
 |nil=>rfl
 |cons o r=>
   simp only[YaR]at h
   obtain⟨x,hx,h⟩:=YGx.1 h
   obtain⟨y,hy,h⟩:=YGz.1 h
   cases h
theorem Ys0{all:Array Oper}{o:Oper}{v:VOp}(h:Ygu P all o=some v):∃ops,vop P o=some (v.op,ops)/\X.ofs ops=some v.xs/\(v.op.isCall=true->Ybv o.op=true)/\v.dst=o.dst/\
   ((o.guard=none/\v.g=none)\/∃j b g,o.guard=some (j,b)/\YlI all j=some g/\v.g=some (g,b)):=by
 unfold Ygu at h
 obtain⟨⟨vo,ops⟩,h1,h⟩:=YGx.1 h
 obtain⟨xs,h2,h⟩:=YGx.1 h
 split at h
 . cases h
 . rename_i hne
   have hne:vo.isCall=true->Ybv o.op=true:=by simpa using hne
   split at h
   . cases h;exact⟨ops,h1,h2,hne,rfl,.inl ⟨‹_›,rfl⟩⟩
   . obtain⟨g,hg,rfl⟩:=YGz.1 h
     exact⟨ops,h1,h2,hne,rfl,.inr ⟨_,_,g,‹_›,hg,rfl⟩⟩
theorem Yiq{κ0:Kont}{K:List It}{sv:List Act}{ks:List (Nat×Obj)}{r:Option Nat}{κ:Kont}(h:KRel P w0 κ0 K sv ks r κ):Ygj K=K:=by
 cases h <;> rfl
theorem Yry(hE:Yq P E){n:Nat}{K:List It}{v:VOp}{A:S->Prop}{s:S}(h:inG E Q vr n K v A s):Yhl (Ybt P) v=true:=by
 obtain⟨f,d,xs,ys,vf,B,rfl,hlo,_⟩:=h
 exact hE.lo f hlo
theorem Yrz(hE:Yq P E){fn0:Func}{R0:Ending->World->Prop}{n:Nat}(ih:∀m,m<=n->∀(K:List It) (s:S),run E Q vr m K s->∀(sv:List Act) (ks:List (Nat×Obj)) (rd:Option Nat) (κ:Kont) (a:Act) (w:World),KRel P w0 (bodyPostM (Wd none) 0 P fn0 R0) K sv ks rd κ->∀ {D:Nat->Option IK} {hD:Ext w0 D},Rl ⟨w0.wI D hD,ks⟩ s a sv w->κ .normal a w)
   {all:Array Oper}{K:List It}{sv:List Act}{ks:List (Nat×Obj)}{rd:Option Nat}{κ:Kont}(hk:KRel P w0 (bodyPostM (Wd none) 0 P fn0 R0) K sv ks rd κ):Yh5 P (inG E Q vr n K) rd all κ w0 ks sv:=by
 refine⟨YjB,?_⟩
 intro i o v A s hi hv hg J hJ a w hR
 obtain⟨f,d,xs,ys,vf,B,rfl,hlo,hc,hct,hfn,⟨m,hm,hrun'⟩,hB⟩:=hg
 obtain⟨ops,h1,h2,h3,h4,h5⟩:=Yf3 hv
 obtain⟨bs,hf,hsv,hH,hb,hoth⟩:=id hR
 have hx:RepL w bs (w0.wI J hJ).bd (s.args xs) (ops.map a.eval):=Yuk hf h2
 obtain⟨fn,hfs,hvf,hen⟩:=hE.fn f vf hfn
 obtain⟨vs,hys,hrun⟩:=YfG hE.meth h1 (h3 rfl) hc hx (fun _=>rfl) hen
 rcases h5 with⟨hg0,_⟩ | ⟨_,_,_,_,_,hvg⟩
 . refine YbX hi (by simp [Region.wanted,hg0]) (Ya0 (Y8 h1) hrun ?_)
   obtain⟨c,hbody,hcode,hres,hnt⟩:=YdB hvf
   refine YcD (n:=0) (Ye3 (b:=vf.body) hfs hbody ?_)
   have h4:d=o.dst:=h4
   subst h4
   refine ih m hm _ _ hrun' (a::sv) _ _ _ _ _ (.code c vf.body _ _ _ _ _ hcode (.frame o.dst vf.res fn a _ _ _ _ _ _ hres (fun v w h=>h) (.inLoop B (fun a' w'=> ∃s',A s'/\∃J',∃hJ':Ext w0 J',Rl ⟨w0.wI J' hJ',ks⟩ s' a' sv w') K sv ks rd κ (fun s' a' w' D hD hBs hR'=>⟨s',hB s' hBs,D,hD,hR'⟩) hk))) (D:=J) (hD:=hJ) ?_
   refine⟨bs,?_,.cons _ _ _ _ hf hsv,hH,hb,hoth.push⟩
   have:=YfV (n:=fn.ntmps) hys
   rw[hnt]
   simpa using this
 . cases hvg
theorem YlB(hE:Yq P E){fn0:Func}{R0:Ending->World->Prop}(hres:YhZ P fn0.results.toList=some vr)
   (hR0:∀r hp v w' bs D (hD:Ext w0 D),Q r hp->Rep w' bs (w0.wI D hD).bd r v->Hp w' bs (w0.wI D hD).bd hp->BelowI w0.bd w0.toWorld w'->R0 (.returned v) w'):
   ∀(n:Nat)(K:List It)(s:S),run E Q vr n K s->∀(sv:List Act)(ks:List (Nat×Obj))(rd:Option Nat)(κ:Kont)(a:Act)(w:World),KRel P w0 (bodyPostM (Wd none) 0 P fn0 R0) K sv ks rd κ->∀{D:Nat->Option IK}{hD:Ext w0 D},Rl ⟨w0.wI D hD,ks⟩ s a sv w->κ .normal a w:=by
 have main:∀(N n:Nat),n<=N->∀(K:List It)(s:S),run E Q vr n K s->∀(sv:List Act)(ks:List (Nat×Obj))(rd:Option Nat)(κ:Kont)(a:Act)(w:World),KRel P w0 (bodyPostM (Wd none) 0 P fn0 R0) K sv ks rd κ->∀{D:Nat->Option IK}{hD:Ext w0 D},Rl ⟨w0.wI D hD,ks⟩ s a sv w->κ .normal a w:=by
   intro N
   induction N with
   |zero=>
     intro n hn K s h
     have:n=0:=by omega
     subst this;exact h.elim
   |succ N ihN=>
     intro n hn K s h sv ks rd κ a w hk D hD hR
     cases n with
     |zero=>exact h.elim
     |succ n=>
     have ih:∀m,m<=n->∀(K:List It)(s:S),run E Q vr m K s->∀(sv:List Act)(ks:List (Nat×Obj))(rd:Option Nat)(κ:Kont)(a:Act)(w:World),KRel P w0 (bodyPostM (Wd none) 0 P fn0 R0) K sv ks rd κ->∀{D:Nat->Option IK}{hD:Ext w0 D},Rl ⟨w0.wI D hD,ks⟩ s a sv w->κ .normal a w:=fun m hm=>ihN m (by omega)
     have ihn:=ih n (YGH _)
     have hjump:∀{K':List It}{d:Option Nat}{f:Act->World->Prop},YoV (run E Q vr n) d false K' s.hp s.saved->Yw5 P w0 (bodyPostM (Wd none) 0 P fn0 R0) K' d sv ks rd f->f a w:=by
       rintro K' d f hr ⟨c,q,l,ita,sv',ks',κ',rfl,rfl,rfl,hk',hf⟩
       cases hs:s.saved with
       |nil=>rw[hs]at hr;exact hr.elim
       |cons fr svs=>
         rw[hs]at hr
         have hat:=Ybc hR
         have hend:=run_endRound (P:=P) (some c) hat
         have h2:=YiC hs (Ydw (lp':=q.at .done (some c)) hR)
         exact hf a w _ _ hend (ihn _ _ hr sv' _ _ _ _ _ hk' (Ydu h2 d fun _ _ _=> .x _ _ (.bool _)))
     cases K with
     |nil=>
       cases hk
       rw[YEE]at h
       cases hv:YaE s vr with
       |none=>rw[hv]at h;exact h.elim
       |some x=>
         obtain⟨p,vs⟩:=x
         rw[hv]at h
         obtain⟨ms,hms⟩:=YjV hR
         refine Ye6 ms hms hR fun w' hR'=>?_
         obtain⟨bs,hf,hsv,hH,hb,hoth⟩:=hR'
         obtain⟨v,h1,h2⟩:=YfX (P:=P) hf hH hres hv h.1
         exact⟨v,h1,hR0 _ _ _ _ _ D hD h.2 h2 hH ⟨hb.os,hb.tape,hb.output,hb.size,fun k hk hI=>hb.block k hk ((hD.old k hk).trans hI)⟩⟩
     |cons x K=>
     cases x with
     |inBlock i=>
       cases hk with|inBlock _ _ _ _ _ κ hk=>exact ihn _ _ h sv _ _ κ a w hk hR
     |inScope=>
       cases hk with|inScope _ _ _ _ κ hk=>exact ihn _ _ h sv _ _ κ a w hk hR
     |inLoop I=>
       cases hk with|inLoop _ J _ _ _ _ κ hJ hk=>exact hJ s a w D hD h hR
     |frame d res=>
       cases hk with
       |frame _ _ fn sa _ sv _ rd κ R hr hRR hk=>
         rw[Ysf]at h
         cases hv:YaE s res with
         |none=>rw[hv]at h;exact h.elim
         |some x=>
           obtain⟨p,vs⟩:=x
           rw[hv]at h
           cases hs:s.saved with
           |nil=>rw[hs]at h;exact h.elim
           |cons fr sv'=>
             rw[hs]at h
             obtain⟨ms,hms⟩:=YjV hR
             refine Ye6 ms hms hR fun w' hR'=>?_
             obtain⟨bs,hf,hsv,hH,hb,hoth⟩:=id hR'
             obtain⟨v,h1,h2⟩:=YfX (P:=P) hf hH hr hv h.1
             refine⟨v,h1,hRR v w' (ihn _ _ h.2 sv _ _ κ _ w' hk (D:=D) (hD:=hD) ?_)⟩
             obtain⟨bs2,k1,k2,k3,k4,k5⟩:=YiC hs hR'
             rw[hs]at hsv
             cases hsv with
             |cons _ _ _ _ g1 g2=>
               have hp:=YiC hs hR'
               refine⟨bs,Yhy (s:={ fr:=fr,saved:=sv',hp:=s.hp}) (a:=sa) g1 h2,?_,?_,hb,?_⟩
               . rw[Yfi];exact g2
               . rw[Ydt];exact hH
               . rw[YG6,YbJ]
                 exact hoth.pop
     |rfrm res l ps va vb j=>
       cases hk with
       |rfrm _ _ q lp _ _ _ fn sa _ sv ks rd κ hr _ hps htm hva hvb hj hk=>
         rw[Yww]at h
         cases hv:YaE s res with
         |none=>rw[hv]at h;exact h.elim
         |some x=>
           obtain⟨p,vs⟩:=x
           rw[hv]at h
           cases hs:s.saved with
           |nil=>rw[hs]at h;exact h.elim
           |cons fr sv'=>
             rw[hs]at h
             obtain⟨hp,h⟩:=h
             obtain⟨ms,hms⟩:=YjV hR
             refine Ye6 ms hms hR fun w' hR'=>?_
             obtain⟨bs,hf,hsv,hH,hb,hoth⟩:=id hR'
             obtain⟨v,h1,h2⟩:=YfX (P:=P) hf hH hr hv hp
             have hat:=Ybc hR'
             cases hj with
             |none=>
               refine⟨v,h1,none,_,run_endLoop hat (by simp [Rec.at]),?_⟩
               exact ihn _ _ h sv _ _ κ sa _ hk (Ylz (Ydw (YiC hs hR')))
             |some c vc hc=>
               refine⟨v,h1,some c,_,run_endLoop hat (by simp [Rec.at]),?_⟩
               exact ihn _ _ h sv _ _ _ sa _ (.code c vc K sv ks rd κ hc hk) (Ylz (Ydw (YiC hs hR')))
     |rbeg=>
       cases hk with
       |rbeg l q _ _ ks κ hk=>
         exact⟨_,run_beginRound (Ybc hR) rfl,ihn _ _ h sv _ _ κ a _ hk (Ydw hR)⟩
     |rend d=>
       cases hk with
       |rend _ l q ita _ sv ks κ R hRR hk=>
         rw[Ywv]at h
         cases hs:s.saved with
         |nil=>rw[hs]at h;exact h.elim
         |cons fr sv'=>
           rw[hs]at h
           refine⟨_,_,run_endRound none (Ybc hR),hRR _ _ (ihn _ _ h sv _ _ κ _ _ hk (D:=D) (hD:=hD) ?_)⟩
           exact Ydu (YiC hs (Ydw (lp':=q.at .ready none) hR)) d fun _ _ _=> .x _ _ (.bool _)
     |dops l=>cases hk
     |dtr t=>cases hk
     |res g al d c=>cases hk
     |ops l=>
       cases hk with
       |ops all rest _ _ _ _ _ κ hl hk=>
       show wpListIn (Wd rd) 0 P all κ rest a w
       cases l with
       |nil=>rw[Yo7 hl];exact ihn _ _ h sv _ _ κ a w hk hR
       |cons v l=>
         obtain⟨o,r,rfl,hvo,hlr⟩:=YmV hl
         obtain⟨ops,h1,h2,h3,h4,h5⟩:=Ys0 hvo
         obtain⟨dst,g,op,xs⟩:=v
         simp only at h1 h2 h3 h4 h5
         subst h4
         have hnd:=Y8 h1
         have hx:∀bs,RepL w bs (w0.wI D hD).bd s.fr a.tmps.toList->RepL w bs (w0.wI D hD).bd (s.args xs) (ops.map a.eval):=fun bs hf=>Yuk hf h2
         rcases h5 with⟨hg,rfl⟩ | ⟨j,pol,gs,hg,hsl,rfl⟩
         . rw[r_op]at h
           exact Yfu (by simp [Region.wanted,hg]) (Yn0 hE ih h1 h3 hlr hx h hk hR)
         . rw[YEI]at h
           have hKr:KRel P w0 (bodyPostM (Wd none) 0 P fn0 R0) (.ops l::K) sv ks rd (Exit.then (wpListIn (Wd rd) 0 P all κ r) κ):= .ops all r l K sv ks rd κ hlr hk
           cases hgd:Yad (getL s.fr gs) pol with
           |none=>rw[hgd]at h;exact h.elim
           |some gb=>
             rw[hgd,r_g]at h
             obtain⟨bs,hf,hsv,hH,hb,hoth⟩:=id hR
             have hw:=Yjz (w:=w) hf hg hsl hgd
             have hB:w0.heap.size<=w.heap.size:=hb.size
             cases hq:op.quiet with
             |true=>
               rw[hq]at h
               simp only[gK]at h
               cases he:eff s.hp (lenH s.hp) op (YT op gb (s.args xs)).2 with
               |none=>
                 rw[he]at h
                 obtain⟨rfl,v,hrun⟩:=h
                 exact Yd0 hw (ihn _ _ hrun sv _ _ _ _ _ hKr (Ydu hR o.dst fun _ _ _=> .optF _))
               |some e=>
                 rw[he]at h
                 obtain⟨q,val,u⟩:=e
                 cases u <;> try exact h.elim
                 obtain⟨hp1,hp2,hrun⟩:=h
                 cases gb with
                 |true=>
                   obtain⟨r',v,w',bs',hrn,hr,k1,k2,k3,k4,k5⟩:=YlP (ρ:=a.eval) h1 he (hp2 rfl) (Ycy rfl (hx bs hf) hp1) (fun _=>rfl) (fun _=>rfl) hH hB
                   refine Yfu hw (Ybe hnd (hrn o.dst o.type o.pos o.after o.guard) hr ?_)
                   refine ihn _ _ hrun sv _ _ _ _ _ hKr (D:=D) (hD:=hD) ?_
                   exact YhO (e:=⟨q,.opt true val,.no⟩) (op:=o.op) hf hsv hb hoth (.optT _ _ k1) k2 k3 k4 k5 o.dst
                 |false=>
                   exact Yd0 hw (ihn _ _ hrun sv _ _ _ _ _ hKr (Ydu hR o.dst fun _ _ _=> .optF _))
             |false=>
               rw[hq]at h
               simp only[gK,Yqt]at h
               cases hct:ctOf E op (YT op gb (s.args xs)).2 with
               |none=>
                 rw[hct]at h
                 obtain⟨hp1,ht,hfl⟩:=h
                 cases gb with
                 |true=>exact Yfu hw (Yn0 hE ih h1 h3 hlr (fun bs hf=>Ycy rfl (hx bs hf) hp1) (ht rfl) hk hR)
                 |false=>exact Yd0 hw (ihn _ _ (hfl rfl) sv _ _ _ _ _ hKr (Ydu hR o.dst fun _ _ _=> .x _ _ (.junk _)))
               |some c=>
                 rw[hct]at h
                 obtain⟨c,ys⟩:=c
                 obtain⟨hp1,hno,hrun⟩:=h
                 obtain⟨m,rr,hm,hrun',hcs⟩:=YgN n hrun
                 cases gb with
                 |false=>exact Yd0 hw (ih m (by omega) _ _ hrun' sv _ _ _ _ _ hKr (Ydu hR o.dst fun _ _ _=> .optF _))
                 |true=>
                   obtain⟨f,hcl,hct',hic⟩:=Ynn hct
                   obtain⟨hok,hen⟩:=hE.ct f c hct'
                   obtain⟨vs,hys,hrn⟩:=YfG hE.meth h1 (h3 hic) hcl (Ycy rfl (hx bs hf) hp1) (fun _=>rfl) hen
                   refine Yfu hw (Ya0 hnd hrn ?_)
                   obtain⟨z,hzw,hzI,hargs2,hal⟩:=YcC c.alias hH.v hB 3 hys hno
                   subst hzw
                   refine(hok _ vs z _ (fun b K hb=>(hH.reg b K (by rw[hzI]at hb;exact hb)).2) hargs2 (hcs rfl)).mono ?_
                   rintro e w' ⟨r',hs,v,bs2,D2,hD2,⟨rfl,rfl⟩,rfl,k1,k2,k3,k4⟩
                   obtain⟨hD3,hcr⟩:=YdF (w0:=w0) (J1:=D) (hJ1:=hD) (hJ:=hD2) (d:=o.dst) hzI hf hsv hH hb hoth k1 k2 k3 k4 hal
                   have hcr:=hcr (.opt true (shift (lenH s.hp) r')) fun _ h=> .optT _ _ h
                   refine ih m (by omega) _ _ hrun' sv _ _ _ _ _ hKr (D:=D2) (hD:=hD3) ?_
                   have e0:({ fr:=s.fr,saved:=s.saved,hp:=s.hp++YV (lenH s.hp) []}:S)=s:=by simp [YV]
                   rw[e0]at hcr
                   exact hcr
     |code c=>
       cases hk with
       |code cc _ _ _ _ _ κ hcode hk=>
       show cc.wpIn (Wd rd) 0 P κ a w
       cases cc <;> simp only[YcA,reduceCtorEq]at hcode <;> try (cases hcode;exact h.elim)
       case skip=>cases hcode;exact wpIn_skip (ihn _ _ h sv _ _ κ a w hk hR)
       case region id ops draw=>
         cases draw with
         |true=>
           simp only[if_true]at hcode
           unfold YC7 at hcode
           cases hd:Ynq P ops with
           |none=>
             rw[hd]at hcode
             simp only at hcode
             cases hdt:Yjm P ops with
             |none=>rw[hdt]at hcode;cases hcode;exact h.elim
             |some r=>
               obtain⟨al,t⟩:=r
               rw[hdt]at hcode
               cases hcode
               exact Ymd hE hE.mix hdt (Yjn (N:=n) (K0:=K) t n (YGH _) (Yiq hk) h) (Yrz hE ih hk) (fun v A s hg=>Yry hE hg) hR fun s' a' w' D' hD' ⟨m,hm,hrun⟩ hR'=>ih m (by omega) _ _ hrun sv _ _ κ a' w' hk hR'
           |some r=>
           obtain⟨al,dl⟩:=r
           rw[hd]at hcode
           cases hcode
           exact YoC hE hE.mix hd (Yjl (N:=n) (K0:=K) dl n (YGH _) (Yiq hk) h) (Yrz hE ih hk) (fun v A s hg=>Yry hE hg) hR fun s' a' w' D' hD' ⟨m,hm,hrun⟩ hR'=>ih m (by omega) _ _ hrun sv _ _ κ a' w' hk hR'
         |false=>
           simp only[YGM,if_false]at hcode
           cases hl:YaR P ops ops.toList with
           |none=>rw[hl]at hcode;cases hcode;exact h.elim
           |some l=>
           rw[hl]at hcode
           cases hcode
           exact wpIn_region_list (ihn _ _ h sv _ _ _ a w (.ops ops ops.toList l K sv ks rd κ hl hk) hR)
       case seq x y=>
         obtain⟨vx,hx,hcode⟩:=YGx.1 hcode
         obtain⟨vy,hy,rfl⟩:=YGz.1 hcode
         exact wpIn_seq (ihn _ _ h sv _ _ _ a w (.code x vx _ sv ks rd _ hx (.code y vy K sv ks rd κ hy hk)) hR)
       case cond cnd x y=>
         obtain⟨z,hz,hcode⟩:=YGx.1 hcode
         obtain⟨vx,hx,hcode⟩:=YGx.1 hcode
         obtain⟨vy,hy,rfl⟩:=YGz.1 hcode
         rw[Ywt]at h
         obtain⟨bs,hf,hsv,hH,hb,hoth⟩:=id hR
         have hrep:=X_of (w:=w) hf hz
         generalize s.x z=v at h hrep
         cases v <;> try exact h.elim
         rename_i b
         have hb1:=hrep.bool_inv
         obtain⟨ht,hfl⟩:=h
         refine wpIn_cond_split hb1 (fun hb=>ihn _ _ (ht hb) sv _ _ _ a w (.code x vx K sv ks rd κ hx hk) hR) (fun hb=>ihn _ _ (hfl hb) sv _ _ _ a w (.code y vy K sv ks rd κ hy hk) hR)
       case block id c=>
         obtain⟨vc,hc,rfl⟩:=YGz.1 hcode
         exact wpIn_block (ihn _ _ h sv _ _ _ a w (.code c vc _ sv ks rd _ hc (.inBlock id K sv ks rd κ hk)) hR)
       case scope c=>
         obtain⟨vc,hc,rfl⟩:=YGz.1 hcode
         exact Yo8 (ihn _ _ h sv _ _ _ a w (.code c vc _ sv ks rd _ hc (.inScope K sv ks rd κ hk)) hR)
       case label l=>cases hcode;exact wpIn_label (ihn _ _ h sv _ _ κ a w hk hR)
       case loop c=>
         obtain⟨vc,hc,rfl⟩:=YGz.1 hcode
         obtain⟨σ,head,inv,μ,lf,hlf,⟨x0,hx0,hle0⟩,hround⟩:=h
         obtain⟨D0,hD0,hR0'⟩:=Ywf (hlf _ _ hle0) hR
         refine wpIn_loop_ghost (fun k a w=> ∃x D,∃hD:Ext w0 D,μ x=k/\inv x/\Rl ⟨w0.wI D hD,ks⟩ (head x) a sv w) (μ x0) ⟨x0,D0,hD0,rfl,hx0,hR0'⟩ ?_
         rintro k a w ⟨x,D,hD,rfl,hx,hRx⟩
         exact ihn _ _ (hround x hx) sv _ _ _ a w (.code c vc _ sv ks rd _ hc (.inLoop _ _ K sv ks rd κ (by
           rintro s' a' w' D' hD' ⟨y,hy,hlt,hle⟩ hR'
           obtain⟨D1,hD1,hR1⟩:=Ywf (hlf _ _ hle) hR'
           exact⟨μ y,hlt,y,D1,hD1,rfl,hy,hR1⟩) hk)) hRx
       case exit id=>
         cases hcode
         rw[Ywu]at h
         cases hp:YbI id K with
         |no=>rw[hp]at h;exact h.elim
         |go K'=>
           rw[hp]at h
           obtain⟨κ',h1,h2⟩:=YdP hp hk
           exact wpIn_exit (h2 _ _ (ihn _ _ h sv _ _ κ' a w h1 hR))
         |jump d K'=>
           rw[hp]at h
           exact wpIn_exit (hjump h (YbC hp hk))
       case ret=>
         cases hcode
         rw[YEN]at h
         cases hp:Yaf K with
         |no=>rw[hp]at h;exact h.elim
         |go K'=>
           rw[hp]at h
           obtain⟨κ',h1,h2⟩:=Ycr hp hk
           exact wpIn_ret (h2 _ _ (ihn _ _ h sv _ _ κ' a w h1 hR))
         |jump d K'=>
           rw[hp]at h
           exact wpIn_ret (hjump h (YaY hp hk))
       case rangeFunc g ps ca cb=>
         obtain⟨z,hz,hcode⟩:=YGx.1 hcode
         obtain⟨va,hva,hcode⟩:=YGx.1 hcode
         obtain⟨vb,hvb,rfl⟩:=YGz.1 hcode
         rw[Ysi]at h
         obtain⟨bs,hf,hsv,hH,hb,hoth⟩:=id hR
         have hrep:=X_of (w:=w) hf hz
         generalize s.x z=v at h hrep
         unfold Yn9 at h
         split at h
         . rename_i gf us cs
           unfold Yn8 at h
           cases hfn:E.fn gf with
           |none=>rw[hfn]at h;exact h.elim
           |some vf=>
             rw[hfn]at h
             obtain⟨hnr,h⟩:=h
             have hrd:=YaX hnr hk
             subst hrd
             obtain⟨fn,hfs,hvf,hen⟩:=hE.fn gf vf hfn
             obtain⟨c,hbody,hcode,hres',hnt⟩:=YdB hvf
             obtain⟨uv,cv,hgv,g1,g2⟩:=hrep.fn_inv
             refine wpIn_rangeFunc fun fr _=>?_
             have hB:w0.heap.size<=w.heap.size:=hb.size
             obtain⟨q,hq⟩:∃q:Rec,q= { fn:=fr,ps:=ps.toList,ca:=ca,cb:=cb,D:=w.heap.size,tmps:=a.tmps}:=⟨_,rfl⟩
             obtain⟨W1,hW1⟩:∃W1,W1=(w.alloc (.deferred (some []))).alloc (.loop (q.at .ready none)):=⟨_,rfl⟩
             have hent:(Instr.enterLoop fr a.tmps ps ca cb (Wd none).round).run P w= .ok (w.heap.size+1,[mark w.heap.size]) W1:=by
               rw[hW1,hq]
               exact run_enterLoop_outer _ _ _ _ _
             refine⟨w.heap.size+1,[mark w.heap.size],W1,{ target:= .fn (.func gf) cv.toArray,args:=uv.toArray++ #[.func (.yield (w.heap.size+1)) #[] #[]]},W1,gf,(uv++(.func (.yield (w.heap.size+1)) #[] #[]::cv)).toArray,W1,
               hent,?_,fun _ _=>trivial,?_,fun h=>(by cases h),?_⟩
             . simp only[resolve,hgv,Deferred.ofValue,Sem.run_bind,Sem.run_pure,Result.andThen_ok]
               simp [Act.eval]
             . simp only[invoke,YbW hen]
               simp
             . refine Ye3 (b:=vf.body) hfs hbody ?_
               refine ihn _ _ (h (w.heap.size+1)) ({ a with defers:=[mark w.heap.size]++a.defers}::sv) _ _ _ { tmps:=_,defers:=[]} _ (.code c vf.body _ _ _ _ _ hcode (.rfrm vf.res _ q (q.at .ready none) va vb none fn _ _ _ _ _ _ hres' ps.toList (by rw[hq]) (by rw[hq]) (by rw[hq];exact hva) (by rw[hq];exact hvb) .none hk)) (D:=D) (hD:=hD) ?_
               rw[hW1]
               refine Yvv hf hsv hH hb hoth ?_
               have hy:Rep w bs (w0.wI D hD).bd (.fn (.yield (w.heap.size+1)) [] []) (.func (.yield (w.heap.size+1)) #[] #[]):= .x _ _ (.fn _ [] [] [] [] .nil .nil)
               have:=YfV (n:=fn.ntmps) (g1.append (.cons _ _ _ _ hy g2))
               rw[hnt]
               simpa using this
         . exact h.elim
 exact fun n=>main n n (YGH _)
end
end Go.Vx
namespace Go.Vx
open Go.RowKit
section
variable {P:Program} {E:Env}
def YI(al:Bool)(k:SV->List HO->Prop)(r:SV)(hp:List HO):Prop:=
 ∃r',k r' []/\le 0 0 (expo hp r) r'/\(al=false->Yl r')
theorem Yl9:Cut [] [] 0 0:=⟨rfl,rfl,fun _ _ h=>absurd h (YHH _),fun _ _ h=>absurd h (YHH _)⟩
theorem XRepL.up{w:World}{bs:List BK}{B:Bd}{l:List SV}{vs:List Value}(h:XRepL w bs B l vs):RepL w bs B l vs:=h.rep
theorem Yb{f:FuncId}{fn:Func}{vf:VF}(hf:P.funcs[f]? =some fn)(hvf:Yf P fn=some vf)(hE:Yq P E)(n:Nat)(c:Ctr)
   (h:∀(args:List SV) (k:SV->List HO->Prop),CSat (c.of args) k->∃args',leL 0 0 args args'/\run E (YI c.alias k) vf.res n [.code vf.body] { fr:=padL vf.ntmps args',saved:=[],hp:=[]}):c.ok P f:=by
 intro args vs z k hsat hx hc
 obtain⟨args',hle,hrun⟩:=h args k hc
 have hk0:YbS z.toWorld [] z.bd z.toWorld [] (z.wI z.I (Yac z)).bd:=⟨rfl,fun _ _ h=>h,fun b hf cs T fz ho=>⟨ho,Ybq,hf.2,z.ex b hf.2⟩⟩
 have hx2:RepL z.toWorld [] (z.wI z.I (Yac z)).bd args' vs:=Ye4 Yl9 _ _ hle (XRepL.keepG hk0 hx).rep
 obtain⟨body,hbody,hcode,hres,hnt⟩:=YdB hvf
 refine YcD (n:=0) (Ye3 (b:=vf.body) hf hbody ?_)
 refine YlB (w0:=z) (fn0:=fn) (R0:=fun e w'=> ∃r hs v bs,∃J,∃hJ:Ext z J,k r hs/\e= .returned v/\Rep w' bs (z.wI J hJ).bd r v/\Hp w' bs (z.wI J hJ).bd hs/\BelowI z.bd z.toWorld w'/\(c.alias=false->Yl r/\Ybm hs)) hE hres (by
   rintro r hp v w' bs D hD ⟨r',hk,hle,hfr⟩ hr hH hb
   refine⟨r',[],v,[],D,hD,hk,rfl,YDB Yl9 _ _ hle (.x _ _ (YyB hH hr)),hp0 fun b K hb=>(hH.reg b K hb).2,hb,fun ha=>⟨hfr ha,trivial⟩⟩) n _ _ hrun [] [] none _
   { tmps:=vs.toArray++Array.replicate (fn.ntmps-vs.toArray.size) undef,defers:=[]} z.toWorld (.code body vf.body [] [] [] none _ hcode .nil) (D:=z.I) (hD:=Yac z) ?_
 refine⟨[],?_,.nil,hp0 (hJ:=Yac z) hsat,BelowI.refl _ _,⟨fun _ h=>(by cases h),.nil,[[]],rfl,by simp,fun _ h=>(by simp at h)⟩⟩
 have:=YfV (n:=fn.ntmps) hx2
 rw[hnt]
 simpa using this
def YvU:List VOp->List Nat
 | []=>[]
 | ⟨some d,_,_,_⟩::l=>d::YvU l
 | ⟨none,_,_,_⟩::l=>YvU l
def wrAl:List (Nat×AL)->List Nat
 | []=>[]
 | (d,_)::l=>d::wrAl l
def YlS:List DOp->List Nat
 | []=>[]
 | ⟨⟨some d,_,_,_⟩,_⟩::l=>d::YlS l
 | ⟨⟨none,_,_,_⟩,_⟩::l=>YlS l
def Ys4:DTr->List Nat
 | .leaf=>[]
 | .ops l t=>YlS l++Ys4 t
 | .br a b=>Ys4 a++Ys4 b
def wrC:VC->List Nat
 | .region l=>YvU l
 | .draw al l=>wrAl al++YlS l
 | .drawT al t=>wrAl al++Ys4 t
 | .seq a b=>wrC a++wrC b
 | .cond _ a b=>wrC a++wrC b
 | .block _ c=>wrC c
 | .loop c=>wrC c
 |_=>[]
def junkAt:List SV->List Nat->List SV
 |fr,[]=>fr
 |fr,n::l=>junkAt (setL fr n .junk) l
def Ylu:List SV->List (Nat×SV)->List SV
 |fr,[]=>fr
 |fr,(n,v)::l=>Ylu (setL fr n v) l
def Yr6:List HO->List (Nat×HO)->List HO
 |hp,[]=>hp
 |hp,(n,v)::l=>Yr6 (setH hp n v) l
def YkY(s:S)(body:VC)(ghosts:List HO)(YX:List (Nat×SV))(blocks:List (Nat×HO)):S:=
 { fr:=Ylu (junkAt s.fr (wrC body)) YX,saved:=s.saved,hp:=Yr6 (s.hp++ghosts) blocks}
theorem Loop.at{r:List It->S->Prop}{body:VC}{K:List It}{s:S}(σ:Type)(YX:σ->List (Nat×SV))(blocks:σ->List (Nat×HO))(ghosts:List HO)(inv:σ->Prop)(μ:σ->Nat)
   (h0:∃x,inv x/\leS s (YkY s body ghosts (YX x) (blocks x)))
   (h:∀x,inv x->r (.code body:: .inLoop (fun s'=> ∃y,inv y/\μ y<μ x/\leS s' (YkY s body ghosts (YX y) (blocks y)))::K) (YkY s body ghosts (YX x) (blocks x))):Loop r body K s leP:=
 ⟨σ,fun x=>YkY s body ghosts (YX x) (blocks x),inv,μ,leS,fun _ _ h=>⟨[],trivial,[],trivial,h⟩,h0,h⟩
def keepG:List Nat->List SV->List SV
 | [],l=>YoK l
 |_,[]=>[]
 |0::ks,x::l=>x::keepG ks l
 | (k+1)::ks,_::l=> .junk::keepG (k::ks) l
def YfM(s:S)(keep:List Nat)(ghosts:List HO)(YX:List (Nat×SV))(blocks:List (Nat×HO)):S:=
 { fr:=Ylu (keepG keep s.fr) YX,saved:=s.saved,hp:=Yr6 (s.hp++ghosts) blocks}
theorem Loop.keep{r:List It->S->Prop}{body:VC}{K:List It}{s:S}(keep:List Nat)(σ:Type)(YX:σ->List (Nat×SV))(blocks:σ->List (Nat×HO))(ghosts:List HO)(inv:σ->Prop)(μ:σ->Nat)
   (h0:∃x,inv x/\leS s (YfM s keep ghosts (YX x) (blocks x)))
   (h:∀x,inv x->r (.code body:: .inLoop (fun s'=> ∃y,inv y/\μ y<μ x/\leS s' (YfM s keep ghosts (YX y) (blocks y)))::K) (YfM s keep ghosts (YX x) (blocks x))):Loop r body K s leP:=
 ⟨σ,fun x=>YfM s keep ghosts (YX x) (blocks x),inv,μ,leS,fun _ _ h=>⟨[],trivial,[],trivial,h⟩,h0,h⟩
end
end Go.Vx
namespace Go.Vx
variable {al:Bool} {k:SV->List HO->Prop} {hp:List HO} {m n:Nat}
theorem Yh{κ:IntKind}{x:Int}(h:k (.int κ x) []):YI al k (.int κ x) hp:=⟨_,h,by simp [expo,view,le],fun _=>by simp [Yl]⟩
theorem YW{b:Bool}(h:k (.bool b) []):YI al k (.bool b) hp:=⟨_,h,by simp [expo,view,le],fun _=>by simp [Yl]⟩
theorem YE{x r':SV}(h:k r' [])(hl:le 0 0 (expo hp x) r')(hf:al=false->Yl r'):YI al k x hp:=⟨_,h,hl,hf⟩
theorem Yy8{x:SV}:le m n x .junk=True:=by cases x <;> simp [le]
theorem YDz{κ κ':IntKind}{x y:Int}:le m n (.int κ x) (.int κ' y)=(κ=κ'/\x=y):=by simp [le]
theorem Yrl{x y:Bool}:le m n (.bool x) (.bool y)=(x=y):=by simp [le]
theorem YDA:le m n .nil .nil=True:=by simp [le,bnd]
theorem Ywg{a b:List SV}:le m n (.agg a) (.agg b)=leL m n a b:=by simp [le]
theorem YDH{a b:List SV}:le m n (.tup a) (.tup b)=leL m n a b:=by simp [le]
theorem YuW{t t' z z':Bool}{l l' sz sz':Nat}{g g':Nat->List SV}:le m n (.vs t z l sz g) (.vs t' z' l' sz' g')=((t'=true->t=true)/\z=z'/\l=l'/\sz=sz'/\∀k,k<l->leXL (g k) (g' k)):=by simp [le]
theorem YDE{i o i' o':Nat}:le m n (.ptr i o) (.ptr i' o')=(i=i'/\o=o'/\i'<n):=by simp [le,bnd,and_assoc]
theorem YDD{i lo l sz i' lo' l' sz':Nat}:le m n (.own i lo l sz) (.own i' lo' l' sz')=(i=i'/\lo=lo'/\l=l'/\sz=sz'/\i<n):=by simp [le]
theorem le_xp{t t':Bool}{c c':List SV}:le m n (.xp t c) (.xp t' c')=((t'=true->t=true)/\leXL c c'):=by simp [le]
theorem le_fn{f f':Fn}{a b a' b':List SV}:le m n (.fn f a b) (.fn f' a' b')=(f=f'/\a=a'/\b=b'/\bndL n a'/\bndL n b'):=by simp [le,bnd,and_assoc]
theorem YDC{b b':Bool}{x y:SV}:le m n (.opt b x) (.opt b' y)=(b=b'/\x=y/\bnd n y):=by simp [le,bnd,and_assoc]
theorem YDI{x y:Value}:le m n (.val x) (.val y)=(x=y):=by simp [le,bnd]
theorem Yy6{i k o sz i' k' o' sz':Nat}:le m n (.elem i k o sz) (.elem i' k' o' sz')=(i=i'/\k=k'/\o=o'/\sz=sz'/\i'<n):=by simp [le,bnd,and_assoc]
theorem Yy5{x:List SV}:leXL x x=True:=eq_true (Ye x)
theorem YoM{i lo l sz:Nat}:le m n .nil (.own i lo l sz)=(m<=i/\i<n/\lo=0/\l=0):=by simp [le]
theorem Yrn{t z:Bool}{l sz:Nat}{g:Nat->List SV}:le m n .nil (.vs t z l sz g)=(z=true/\l=0):=by simp [le]
theorem Yrg{z:Bool}{sz l:Nat}{g:Nat->List SV}{r:List HO}:leH m n [] (.own z sz l g::r)=(z=true/\l=0/\leH m n [] r):=rfl
theorem YuX:lenH []=0:=rfl
theorem Yrq{x:HO}{a:List HO}:lenH (x::a)=lenH a+1:=rfl
theorem Yrk:leL m n [] []=True:=by simp [leL]
theorem YnJ{x y:SV}{a b:List SV}:leL m n (x::a) (y::b)=(le m n x y/\leL m n a b):=by simp [leL]
theorem YuT:leLL m n [] []=True:=by simp [leLL]
theorem Yrh{x y:List SV}{a b:List (List SV)}:leLL m n (x::a) (y::b)=(leL m n x y/\leLL m n a b):=by simp [leLL]
theorem Yy4{h:List HO}:leH m n h []=True:=by cases h <;> simp [leH]
theorem YuR{a b:List SV}:leH1 m n (.box a) (.box b)=leL m n a b:=by simp [leH1]
theorem YDF{a:Nat}{C:Nat->Int->Prop}:le m n (.row a C) (.row a C)=True:=eq_true ⟨rfl,trivial⟩
theorem YuV{C:Int->Prop}:le m n (.rcell C) (.rcell C)=True:=eq_true ⟨rfl,trivial⟩
theorem Yy7{kk:List IntKind}{C:List Int->Int->Prop}:le m n (.imap kk C) (.imap kk C)=True:=eq_true ⟨rfl,trivial⟩
theorem YDG{i:Nat}:le m n (.smp i) (.smp i)=(i<n):=propext ⟨fun h=>h.2,fun h=>⟨rfl,h⟩⟩
theorem Yya{a:Nat}{C:Nat->Int->Prop}:bnd n (.row a C)=True:=rfl
theorem Yqr{C:Int->Prop}:bnd n (.rcell C)=True:=rfl
theorem Yuw{kk:List IntKind}{C:List Int->Int->Prop}:bnd n (.imap kk C)=True:=rfl
theorem Yyb{i:Nat}:bnd n (.smp i)=(i<n):=rfl
theorem Yrf{l l':List (List UInt8)}:leH1 m n (.smap l) (.smap l')=(l=l'):=rfl
theorem Yre:leH1 m n .gone .gone=True:=by simp [leH1]
theorem YuS{z z':Bool}{sz sz' l l':Nat}{g g':Nat->List SV}:leH1 m n (.own z sz l g) (.own z' sz' l' g')=(z=z'/\sz=sz'/\l=l'/\∀k,k<l->leL m n (g k) (g' k)):=by simp [leH1]
theorem YDw{fr fr':List SV}{sv sv':List (List SV)}{h h':List HO}:leS ⟨fr,sv,h⟩ ⟨fr',sv',h'⟩=(leL (lenH h) (lenH h') fr fr'/\leLL (lenH h) (lenH h') sv sv'/\leH (lenH h) (lenH h') h h'):=rfl
theorem Yx5{k:IntKind}{x:Int}:bnd n (.int k x)=True:=rfl
theorem Yuu{b:Bool}:bnd n (.bool b)=True:=rfl
theorem Yyd{v:Value}:bnd n (.val v)=True:=rfl
theorem Yx6:bnd n .nil=True:=rfl
theorem Yux:bnd n .junk=True:=rfl
theorem YCV{t z:Bool}{l sz:Nat}{g:Nat->List SV}:bnd n (.vs t z l sz g)=True:=rfl
theorem YCW{t:Bool}{c:List SV}:bnd n (.xp t c)=True:=rfl
theorem Yx4{c:List SV}:bnd n (.agg c)=bndL n c:=rfl
theorem Yyc{c:List SV}:bnd n (.tup c)=bndL n c:=rfl
theorem Yx9{i o:Nat}:bnd n (.ptr i o)=(i<n):=rfl
theorem Yx8{i a b c:Nat}:bnd n (.own i a b c)=(i<n):=rfl
theorem Yuv{i a b c:Nat}:bnd n (.elem i a b c)=(i<n):=rfl
theorem YCU{f:Fn}{a b:List SV}:bnd n (.fn f a b)=(bndL n a/\bndL n b):=rfl
theorem Yqq{t:TypeId}{v:SV}:bnd n (.iface t v)=bnd n v:=rfl
theorem Yx7{b:Bool}{v:SV}:bnd n (.opt b v)=bnd n v:=rfl
theorem Yut:bndL n []=True:=rfl
theorem Yqp{x:SV}{l:List SV}:bndL n (x::l)=(bnd n x/\bndL n l):=rfl
mutual
theorem Yy:∀(x:SV),bnd n x->le m n x x
 | .int _ _,_=>⟨rfl,rfl⟩
 | .bool _,_=>rfl
 | .val _,h=>⟨rfl,h⟩
 | .nil,h=>⟨rfl,h⟩
 | .agg cs,h=>Yw cs h
 | .tup cs,h=>Yw cs h
 | .vs _ _ _ _ get,_=>⟨id,rfl,rfl,rfl,fun k _=>Ye (get k)⟩
 | .xp _ cs,_=>⟨id,Ye cs⟩
 | .ptr _ _,h=>⟨rfl,h⟩
 | .own _ _ _ _,h=>⟨rfl,rfl,rfl,rfl,h⟩
 | .elem _ _ _ _,h=>⟨rfl,h⟩
 | .fn _ _ _,h=>⟨rfl,h⟩
 | .iface _ _,h=>⟨rfl,h⟩
 | .opt _ _,h=>⟨rfl,h⟩
 | .cut _,h=>⟨rfl,h⟩
 | .row _ _,h=>⟨rfl,h⟩
 | .rcell _,h=>⟨rfl,h⟩
 | .imap _ _,h=>⟨rfl,h⟩
 | .smp _,h=>⟨rfl,h⟩
 | .junk,_=>trivial
theorem Yw:∀(x:List SV),bndL n x->leL m n x x
 | [],_=>trivial
 |x::l,h=>⟨Yy x h.1,Yw l h.2⟩
end
theorem YkH:∀(k:Nat)(l:List SV),bndL n l->bndL n (YO k l)
 |0,_,_=>trivial
 |_+1,[],_=>trivial
 |k+1,_::l,h=>⟨h.1,YkH k l h.2⟩
theorem YkG:∀(k:Nat)(l:List SV),bndL n l->bndL n (YJ k l)
 |0,_,h=>h
 |_+1,[],_=>trivial
 |k+1,_::l,h=>YkG k l h.2
theorem Yrj{sz k:Nat}{cs:List SV}(h:bndL n cs=True):leL m n (YaS sz cs k) (YaS sz cs k)=True:=
 eq_true (Yw _ (YkH _ _ (YkG _ _ (of_eq_true h))))
theorem YAu(n:Nat):YhH n 0=n:=rfl
theorem YlY(k:Nat):Yca 0 k=k:=rfl
theorem YsL(n:Nat):YhH n (YHQ 1)=n-1:=rfl
theorem Yp4(k:Nat):Yca (YHQ 1) k=1+k:=rfl
end Go.Vx
namespace Go.Vx
open Go.RowKit Go.WideShapes Go.ChangeShapes
inductive Sh where
 |int (k:IntKind)
 |bool
 |str
 |slice (l:List Sh)
def Ybs:List Sh->Nat
 | []=>0
 |_::l=>Ybs l+1
mutual
def okS:Sh->SV->Prop
 | .int k,v=> ∃n,v= .int k n/\(Lit.int k n).wf=true
 | .bool,v=> ∃b,v= .bool b
 | .str,v=> ∃s:ByteArray,v= .val (.string s)/\s.size<=maxLen
 | .slice l,v=> ∃z n get,v= .vs false z n (Ybs l) get/\n<=maxLen/\∀k,k<n->okSL l (get k)
def okSL:List Sh->List SV->Prop
 | [],[]=>True
 |s::l,v::r=>okS s v/\okSL l r
 |_,_=>False
end
def Ycl(P:Program)(fl:TypeId->Option (List Sh)):Nat->List Field->Option (List Sh)
 |_,[]=>some []
 |off,f::fs=>bif YHf f.offset off then(fl f.type).bind fun l=>bif YHf (Ybs l) (P.cellsOf f.type)then(Ycl P fl (off+P.cellsOf f.type) fs).map (l++·)else none else none
def Yz7:Nat->List Sh->List Sh
 |0,_=>[]
 |n+1,l=>l++Yz7 n l
def flat(P:Program):Nat->TypeId->Option (List Sh)
 |0,_=>none
 |n+1,t=>match P.underlying t with
   |some (.int k)=>some [.int k]
   |some .bool=>some [.bool]
   |some .string=>some [.str]
   |some (.slice e)=>(flat P n e).bind fun l=>bif YHf (Ybs l) (P.cellsOf e)then(bif Nat.ble 1 (Ybs l)then some [.slice l]else none)else none
   |some (.struct fs)=>(Ycl P (flat P n) 0 fs.toList).bind fun l=>bif YHf (Ybs l) (P.cellsOf t)then some l else none
   |some (.array m e)=>(flat P n e).bind fun l=>bif YHf (Ybs l) (P.cellsOf e)then(bif YHf (m*P.cellsOf e) (P.cellsOf t)then some (Yz7 m l)else none)else none
   |_=>none
theorem Yk6:∀(a b:List Sh),Ybs (a++b)=Ybs a+Ybs b
 | [],b=>by simp [Ybs]
 |_::a,b=>by simp [Ybs,Yk6 a b];omega
theorem YjP:∀{a b:List Sh}{x y:List SV},okSL a x->okSL b y->okSL (a++b) (x++y)
 | [],_,[],_,_,h=>h
 | [],_,_::_,_,h,_=>h.elim
 |_::_,_,[],_,h,_=>h.elim
 |_::_,_,_::_,_,h,h'=>⟨h.1,YjP h.2 h'⟩
def bd0(n:Nat):Bd:=⟨n,fun _=>True,fun _=>none,fun _ _ _=>trivial,fun _ _=>rfl⟩
def cx0(w:World):Cx0:={ toWorld:=w,F:=fun _=>True,I:=fun _=>none,up:=fun _ _ _=>trivial,ex:=fun _ _=>rfl}
section
variable {H:Type} {enc:TypeId×Value->H} {P:Program} {w:World} {B:Nat} {base:Nat} {spare:Nat->Bool} {held:Bool}
theorem XRepL.append:∀{l r:List SV}{vs us:List Value},XRepL w [] (bd0 B) l vs->XRepL w [] (bd0 B) r us->XRepL w [] (bd0 B) (l++r) (vs++us)
 |_,_,_,_,.nil,h=>h
 |_,_,_,_,.cons x v l vs h h',hr=> .cons _ _ _ _ h (XRepL.append h' hr)
theorem Yd7{fl:TypeId->Option (List Sh)}{fuel:Nat}{cs:List Value}
   (ih:∀(t:TypeId) (cs:List Value) (x:DataW H×List MemPlace) (l:List Sh),fl t=some l->DataW.trod enc P w base spare held fuel t cs=some x->∃svs,XRepL w [] (bd0 B) svs cs/\okSL l svs):
   ∀(fs:List Field)(off:Nat)(l:List Sh),Ycl P fl off fs=some l->(∀f∈fs,∃x,DataW.trod enc P w base spare held fuel f.type ((cs.drop f.offset).take (P.cellsOf f.type))=some x)->off+Ybs l=cs.length->
     ∃svs,XRepL w [] (bd0 B) svs (cs.drop off)/\okSL l svs
 | [],off,l,h,_,hl=>by
   simp only[Ycl,Option.some.injEq]at h
   subst h
   simp only[Ybs,YHw]at hl
   refine⟨[],?_,trivial⟩
   rw[List.drop_of_length_le (by omega)];exact .nil
 |f::fs,off,l,h,hall,hl=>by
   unfold Ycl at h
   cases hb:YHf f.offset off with
   |false=>rw[hb]at h;cases h
   |true=>
     rw[hb]at h
     have ho:=YGW hb
     obtain⟨l1,h1,h⟩:=YGx.1 h
     cases hb2:YHf (Ybs l1) (P.cellsOf f.type)with
     |false=>rw[hb2]at h;cases h
     |true=>
       rw[hb2]at h
       have hsz:=YGW hb2
       obtain⟨l2,h2,rfl⟩:=YGz.1 h
       obtain⟨x,hx⟩:=hall f YGI
       obtain⟨s1,r1,o1⟩:=ih _ _ _ _ h1 hx
       obtain⟨s2,r2,o2⟩:=Yd7 ih fs _ _ h2 (fun g hg=>hall g (YGK _ hg)) (by rw[Yk6]at hl;omega)
       refine⟨s1++s2,?_,YjP o1 o2⟩
       have:=r1.append r2
       rw[ho]at this
       have e:(cs.drop off).take (P.cellsOf f.type)++cs.drop (off+P.cellsOf f.type)=cs.drop off:=by
         rw[<-List.drop_drop];exact List.take_append_drop _ _
       rwa [e]at this
theorem Yhc{fuel:Nat}{cs:List Value}{e:TypeId}{l:List Sh}(hs:Ybs l=P.cellsOf e)
   (ih:∀(cs:List Value) (x:DataW H×List MemPlace),DataW.trod enc P w base spare held fuel e cs=some x->∃svs,XRepL w [] (bd0 B) svs cs/\okSL l svs):
   ∀(k j:Nat),(∀i,j<=i->i<j+k->∃x,DataW.trod enc P w base spare held fuel e ((cs.drop (i*P.cellsOf e)).take (P.cellsOf e))=some x)->j*P.cellsOf e+k*P.cellsOf e=cs.length->
     ∃svs,XRepL w [] (bd0 B) svs (cs.drop (j*P.cellsOf e))/\okSL (Yz7 k l) svs
 |0,j,_,hl=>by
   refine⟨[],?_,trivial⟩
   rw[List.drop_of_length_le (by omega)];exact .nil
 |k+1,j,hall,hl=>by
   obtain⟨x,hx⟩:=hall j (YGH _) (by omega)
   obtain⟨s1,r1,o1⟩:=ih _ _ hx
   obtain⟨s2,r2,o2⟩:=Yhc hs ih k (j+1) (fun i h1 h2=>hall i (by omega) (by omega)) (by rw[YHN]at hl⊢;omega)
   refine⟨s1++s2,?_,YjP o1 o2⟩
   have:=r1.append r2
   have e:(cs.drop (j*P.cellsOf e)).take (P.cellsOf e)++cs.drop ((j+1)*P.cellsOf e)=cs.drop (j*P.cellsOf e):=by
     rw[YHN,<-List.drop_drop];exact List.take_append_drop _ _
   rwa [e]at this
theorem Yhn{α β:Type}{g:α->Option β}:∀{l:List α}{r:List β},l.mapM g=some r->∀x∈l,∃y,g x=some y
 | [],_,_,x,hx=>by cases hx
 |a::l,r,h,x,hx=>by
   rw[List.mapM_cons]at h
   cases ha:g a with
   |none=>rw[ha]at h;cases h
   |some y=>
     rw[ha]at h
     cases hl:l.mapM g with
     |none=>rw[hl]at h;cases h
     |some ys=>
       rcases YGQ.1 hx with rfl|hx
       . exact⟨y,ha⟩
       . exact Yhn hl x hx
theorem YkL{a:Addr}{n:Nat}{cs:List Value}(h:w.cells? base a n=some cs):cs.length=n/\∀j v,cs[j]? =some v->w.cell? (a.add j)=some v:=by
 unfold World.cells? at h
 split at h
 . have key:∀(l:List Nat)(r:List Value),l.mapM (fun i=>w.cell? (a.add i))=some r->r.length=l.length/\∀(j:Nat)(v:Value),r[j]? =some v->∃i,l[j]? =some i/\w.cell? (a.add i)=some v:=by
     intro l
     induction l with
     |nil=>intro r h;simp at h;subst h;exact⟨rfl,fun j v h=>by simp at h⟩
     |cons i l ih=>
       intro r h
       rw[List.mapM_cons]at h
       cases hi:w.cell? (a.add i)with
       |none=>rw[hi]at h;cases h
       |some v0=>
         rw[hi]at h
         cases hl:l.mapM (fun i=>w.cell? (a.add i))with
         |none=>rw[hl]at h;cases h
         |some r'=>
           rw[hl]at h
           cases h
           obtain⟨h1,h2⟩:=ih r' hl
           refine⟨by simp [h1],fun j v hj=>?_⟩
           cases j with
           |zero=>simp only[List.getElem?_cons_zero,Option.some.injEq]at hj;subst hj;exact⟨i,rfl,hi⟩
           |succ j=>obtain⟨i',k1,k2⟩:=h2 j v (by simpa using hj);exact⟨i',by simpa using k1,k2⟩
   obtain⟨h1,h2⟩:=key _ _ h
   refine⟨by simpa using h1,fun j v hj=>?_⟩
   obtain⟨i,k1,k2⟩:=h2 j v hj
   have:j<n:=by
     have:=(List.getElem?_eq_some_iff.1 hj).1
     simp at h1;omega
   rw[List.getElem?_range this]at k1
   cases k1;exact k2
 . cases h
theorem YfI{a:Addr}{v:Value}(h:w.cell? a=some v):a.spot=none/\∃cs T fz,w.heap[a.block]? =some (.cells cs T fz)/\cs[a.off]? =some v:=by
 unfold World.cell? at h
 split at h
 . split at h
   . cases h
   . rename_i hs
     exact⟨by cases hq:a.spot with|none=>rfl|some _=>rw[hq]at hs;simp at hs,_,_,_,‹_›,h⟩
 . cases h
theorem YvN:∀(n fuel:Nat)(t:TypeId)(cs:List Value)(x:DataW H×List MemPlace)(l:List Sh),flat P n t=some l->DataW.trod enc P w base spare held fuel t cs=some x->∃svs,XRepL w [] (bd0 B) svs cs/\okSL l svs:=by
 intro n
 induction n with
 |zero=>intro fuel t cs x l h;cases h
 |succ n ih=>
   intro fuel t cs x l h hx
   unfold flat at h
   split at h
   . rename_i k hu
     cases h
     obtain⟨m,rfl,_,hw⟩:=DataW.trod_int hu hx
     exact⟨[.int k m],.cons _ _ _ _ (.int _ _) .nil,⟨m,rfl,hw⟩,trivial⟩
   . rename_i hu
     cases h
     obtain⟨b,rfl,_⟩:=DataW.trod_bool hu hx
     exact⟨[.bool b],.cons _ _ _ _ (.bool _) .nil,⟨b,rfl⟩,trivial⟩
   . rename_i hu
     cases h
     obtain⟨s,rfl,_,hs⟩:=DataW.trod_string hu hx
     exact⟨[.val (.string s)],.cons _ _ _ _ (.val _) .nil,⟨s,rfl,hs⟩,trivial⟩
   . rename_i e hu
     obtain⟨le,he,h⟩:=YGx.1 h
     cases hb:YHf (Ybs le) (P.cellsOf e)with
     |false=>rw[hb]at h;cases h
     |true=>
     rw[hb]at h
     have hsz:=YGW hb
     cases hb1:Nat.ble 1 (Ybs le)with
     |false=>rw[hb1]at h;cases h
     |true=>
     rw[hb1]at h
     have hpos:=Nat.le_of_ble_eq_true hb1
     cases h
     rcases Deep.open_slice hu hx with⟨rfl,_⟩ | ⟨a,len,cap,m,fu,D,Pl,rfl,hba,hlc,hcm,hm,_,hel⟩
     . exact⟨[.vs false true 0 (Ybs le) fun _=>[]],.cons _ _ _ _ (.vs _ _ _ _ _ none 0 (fun _=>[]) rfl (YGH _) (fun _=>⟨rfl,rfl⟩) (fun k hk=>by omega) (fun k hk=>by omega)) .nil,
         ⟨true,0,_,rfl,YHl _,fun k hk=>by omega⟩,trivial⟩
     . have hlm:len<=m:=by rw[hm];split <;> omega
       have hel':∀k,∃vals svs,k<len->w.cells? base (a.add (k*P.cellsOf e)) (P.cellsOf e)=some vals/\XRepL w [] (bd0 B) svs vals/\okSL le svs:=by
         intro k
         by_cases hk:k<len
         . obtain⟨cs',h1,h2⟩:=hel k (by omega)
           obtain⟨svs,h3,h4⟩:=ih fu e cs' _ _ he h2
           exact⟨cs',svs,fun _=>⟨h1,h3,h4⟩⟩
         . exact⟨[],[],fun h=>absurd h hk⟩
       obtain⟨vals,hv⟩:=Classical.axiomOfChoice hel'
       obtain⟨get,hg⟩:=Classical.axiomOfChoice hv
       refine⟨[.vs false false len (Ybs le) get],.cons _ _ _ _ (.vs _ _ _ _ _ (some a) cap vals rfl hlc (fun h=>by cases h) (fun k hk=>?_) (fun k hk=>(hg k hk).2.1)) .nil,⟨false,len,get,rfl,by omega,fun k hk=>(hg k hk).2.2⟩,trivial⟩
       have h0:=(hg 0 (by omega)).1
       obtain⟨l0,c0⟩:=YkL h0
       have hsp:a.spot=none:=by
         cases hv0:vals 0 with
         |nil=>rw[hv0]at l0;simp at l0;omega
         |cons v r=>
           have:=(YfI (c0 0 v (by rw[hv0];rfl))).1
           simpa [Addr.add]using this
       obtain⟨lk,ck⟩:=YkL (hg k hk).1
       refine⟨a,rfl,hsp,⟨Ybq,trivial⟩,(fun h=>by cases h),by rw[lk,hsz],?_⟩
       cases hvk:vals k with
       |nil=>rw[hvk]at lk;simp at lk;omega
       |cons v r=>
         rw[hvk]at ck
         have e1:∀j,(a.add (k*P.cellsOf e)).add j=⟨a.block,a.off+k*P.cellsOf e+j,none⟩:=by
           intro j
           obtain⟨ab,ao,asp⟩:=a
           simp only at hsp
           subst hsp
           unfold Addr.add
           split <;> split <;> simp_all <;> omega
         obtain⟨_,cs2,T,fz,hb,hc⟩:=YfI (ck 0 v rfl)
         rw[e1]at hb
         refine⟨cs2,T,fz,hb,fun j u hj=>?_⟩
         obtain⟨_,cs3,T3,fz3,hb3,hc3⟩:=YfI (ck j u hj)
         rw[e1]at hb3 hc3
         simp only at hb hb3 hc3
         rw[hb]at hb3;cases hb3
         rw[hsz]
         exact hc3
   . rename_i fs hu
     obtain⟨l0,hf,h⟩:=YGx.1 h
     cases hb:YHf (Ybs l0) (P.cellsOf t)with
     |false=>rw[hb]at h;cases h
     |true=>
       rw[hb]at h
       cases h
       have hsz:=YGW hb
       cases fuel with
       |zero=>simp [DataW.trod]at hx
       |succ fuel=>
         unfold DataW.trod at hx
         rw[hu]at hx
         simp only at hx
         split at hx
         . rename_i hlen
           obtain⟨xs,hxs,_⟩:=YGz.1 hx
           have:=Yd7 (cs:=cs) (B:=B) (fun t cs x l h h'=>ih fuel t cs x l h h') fs.toList 0 l hf (fun f hf=>Yhn hxs f hf) (by omega)
           simpa using this
         . cases hx
   . rename_i m e hu
     obtain⟨l0,hf,h⟩:=YGx.1 h
     cases hb:YHf (Ybs l0) (P.cellsOf e)with
     |false=>rw[hb]at h;cases h
     |true=>
       rw[hb]at h
       have hsz:=YGW hb
       cases hb2:YHf (m*P.cellsOf e) (P.cellsOf t)with
       |false=>rw[hb2]at h;cases h
       |true=>
         rw[hb2]at h
         cases h
         have hsz2:=YGW hb2
         cases fuel with
         |zero=>simp [DataW.trod]at hx
         |succ fuel=>
           unfold DataW.trod at hx
           rw[hu]at hx
           simp only at hx
           split at hx
           . rename_i hlen
             obtain⟨xs,hxs,_⟩:=YGz.1 hx
             have:=Yhc (cs:=cs) (B:=B) hsz (fun cs x h'=>ih fuel e cs x l0 hf h') m 0 (fun i _ hi=>Yhn hxs i (List.mem_range.2 (by omega))) (by omega)
             simpa using this
           . cases hx
   . cases h
structure PSh where
 agg:Bool
 l:List Sh
def okP(p:PSh)(v:SV):Prop:=
 match p.agg with
 |true=> ∃cs,v= .agg cs/\okSL p.l cs
 |false=>okSL p.l [v]
def okPL:List PSh->List SV->Prop
 | [],[]=>True
 |p::l,v::r=>okP p v/\okPL l r
 |_,_=>False
def Yzx(P:Program)(t:TypeId):Option PSh:=
 (flat P 16 t).bind fun l=>match P.underlying t with
   |some (.struct _)=>some ⟨true,l⟩
   |some (.array _ _)=>some ⟨true,l⟩
   |some (.int _) |some .bool|some .string|some (.slice _)=>some ⟨false,l⟩
   |_=>none
def Ylp(P:Program):List TypeId->Option (List PSh)
 | []=>some []
 |t::l=>(Yzx P t).bind fun p=>(Ylp P l).map (p::·)
theorem YgD{n:Nat}{t:TypeId}{l:List Sh}(h:flat P n t=some l)(hu:(∃k,P.underlying t=some (.int k))\/P.underlying t=some .bool\/P.underlying t=some .string\/∃e,P.underlying t=some (.slice e)):∃s,l=[s]:=by
 cases n with
 |zero=>cases h
 |succ n=>
   unfold flat at h
   rcases hu with⟨k,hu⟩ |hu|hu| ⟨e,hu⟩ <;> rw[hu]at h <;> simp only at h
   . cases h;exact⟨_,rfl⟩
   . cases h;exact⟨_,rfl⟩
   . cases h;exact⟨_,rfl⟩
   . obtain⟨le,_,h⟩:=YGx.1 h
     cases hb:YHf (Ybs le) (P.cellsOf e)with
     |false=>rw[hb]at h;cases h
     |true=>
       rw[hb]at h
       cases hb1:Nat.ble 1 (Ybs le)with
       |false=>rw[hb1]at h;cases h
       |true=>rw[hb1]at h;cases h;exact⟨_,rfl⟩
theorem YrR{r:Reach}{b0:Nat}{t:TypeId}{v:Value}{d:DataW H}{ps:List MemPlace}{p:PSh}(hp:Yzx P t=some p)(hval:Value.okWide P w r b0 t v)(hd:DataW.Trod enc P w base spare held t v d ps):∃sv,XRep w [] (bd0 B) sv v/\okP p sv:=by
 obtain⟨fuel,hf⟩:=id hd
 unfold Yzx at hp
 obtain⟨l,hl,hp⟩:=YGx.1 hp
 obtain⟨svs,h1,h2⟩:=YvN (B:=B) 16 fuel t _ _ l hl hf
 have one:∀(c:Value),v.cells.toList=[c]->v=c->(∃s,l=[s])->∃sv,XRep w [] (bd0 B) sv v/\okP ⟨false,l⟩ sv:=by
   rintro c hc rfl ⟨s,rfl⟩
   rw[hc]at h1
   cases h1 with
   |cons sv _ svs' _ k1 k2=>
     cases k2
     exact⟨sv,k1,h2⟩
 split at hp
 . rename_i fs hu
   cases hp
   unfold Value.okWide at hval
   rw[hu]at hval
   simp only at hval
   obtain⟨cs,rfl,_⟩:=hval
   refine⟨.agg svs,?_,svs,rfl,h2⟩
   have:=XRep.agg (w:=w) (bs:=[]) (B:=bd0 B) svs cs.toList h1
   simpa using this
 . rename_i m e hu
   cases hp
   unfold Value.okWide at hval
   rw[hu]at hval
   simp only at hval
   obtain⟨cs,rfl,_⟩:=hval
   refine⟨.agg svs,?_,svs,rfl,h2⟩
   have:=XRep.agg (w:=w) (bs:=[]) (B:=bd0 B) svs cs.toList h1
   simpa using this
 . rename_i k hu
   cases hp
   obtain⟨n,rfl⟩:=okWide_int hu hval
   exact one _ rfl rfl (YgD hl (.inl ⟨_,hu⟩))
 . rename_i hu
   cases hp
   obtain⟨n,rfl⟩:=okWide_bool hu hval
   exact one _ rfl rfl (YgD hl (.inr (.inl hu)))
 . rename_i hu
   cases hp
   obtain⟨n,rfl⟩:=okWide_string hu hval
   exact one _ rfl rfl (YgD hl (.inr (.inr (.inl hu))))
 . rename_i e hu
   cases hp
   obtain⟨a,len,cap,rfl⟩:=okWide_slice hu hval
   exact one _ rfl rfl (YgD hl (.inr (.inr (.inr ⟨_,hu⟩))))
 . cases hp
theorem Yix{r:Reach}{b0:Nat}:∀{ts:List TypeId}{vs:List Value}{ds:List (DataW H)}{ps:List MemPlace}{shs:List PSh},Ylp P ts=some shs->(∀(j:Nat) t v,ts[j]? =some t->vs[j]? =some v->Value.okWide P w r b0 t v)->
   DataW.TrodAll enc P w base spare held ts vs ds ps->∃svs,XRepL w [] (bd0 B) svs vs/\okPL shs svs
 | [],vs,ds,ps,shs,h,_,hd=>by
   simp only[Ylp,Option.some.injEq]at h
   subst h
   obtain⟨rfl,_,_⟩:=trodAll_nil hd
   exact⟨[],.nil,trivial⟩
 |t::ts,vs,ds,ps,shs,h,hv,hd=>by
   unfold Ylp at h
   obtain⟨p,hp,h⟩:=YGx.1 h
   obtain⟨shs',hs,rfl⟩:=YGz.1 h
   obtain⟨v,vs',d,ds',p1,q1,rfl,rfl,rfl,h1,h2⟩:=trodAll_cons hd
   obtain⟨sv,k1,k2⟩:=YrR (B:=B) hp (hv 0 t v rfl rfl) h1
   obtain⟨svs,k3,k4⟩:=Yix hs (fun j t' v' ht hv'=>hv (j+1) t' v' (by simpa using ht) (by simpa using hv')) h2
   exact⟨sv::svs,.cons _ _ _ _ k1 k3,k2,k4⟩
end
def Yz6(P:Program)(ts:List TypeId):Bool:=ts.all fun t=>P.readableRec t&&Nat.blt t P.types.size
theorem Ygg{H:Type}{enc:TypeId×Value->H}{P:Program}(hl:laidOutB P=true){W W':World}(hb:Below W.heap.size W W'):
   ∀{ts:List TypeId}{vs:List Value}{ds:List (DataW H)}{ps:List MemPlace},Yz6 P ts=true->DataW.TrodAll enc P W 0 (fun _=>true) true ts vs ds ps->DataW.TrodAll enc P W' 0 (fun b=>decide (b<W.heap.size)) true ts vs ds ps
 | [],vs,ds,ps,_,h=>by
   obtain⟨rfl,rfl,rfl⟩:=trodAll_nil h
   rfl
 |t::ts,vs,ds,ps,hr,h=>by
   obtain⟨v,vs',d,ds',p1,q1,rfl,rfl,rfl,h1,h2⟩:=trodAll_cons h
   simp only[Yz6,List.all_cons,YGA]at hr
   have hlt:∀x∈p1,x.block<W.heap.size:=by obtain⟨m,hm⟩:=h1;exact DataW.trod_lt m _ _ _ hm
   refine⟨_,_,Below.trod hl hr.1.1 ?_ h1 hb hlt,Ygg hl hb hr.2 h2,rfl⟩
   have:=hr.1.2
   simpa using this
theorem YhK{H:Type}{enc:TypeId×Value->H}{P:Program}{W:World}{base:Nat}{spare:Nat->Bool}{held:Bool}:
   ∀{ts:List TypeId}{vs:List Value}{ds:List (DataW H)}{ps:List MemPlace},DataW.TrodAll enc P W base spare held ts vs ds ps->ds.length=ts.length
 | [],vs,ds,ps,h=>by obtain⟨_,rfl,_⟩:=trodAll_nil h;rfl
 |t::ts,vs,ds,ps,h=>by
   obtain⟨v,vs',d,ds',p1,q1,rfl,rfl,rfl,h1,h2⟩:=trodAll_cons h
   simp [YhK h2]
theorem Y6{s:Sh}{l:List Sh}{c:List SV}(h:okSL (s::l) c):∃x r,c=x::r/\okS s x/\okSL l r:=by
 cases c with
 |nil=>exact h.elim
 |cons x r=>exact⟨x,r,rfl,h.1,h.2⟩
theorem Ygf{c:List SV}(h:okSL [] c):c=[]:=by
 cases c with
 |nil=>rfl
 |cons x r=>exact h.elim
theorem YcM{p:PSh}{l:List PSh}{c:List SV}(h:okPL (p::l) c):∃x r,c=x::r/\okP p x/\okPL l r:=by
 cases c with
 |nil=>exact h.elim
 |cons x r=>exact⟨x,r,rfl,h.1,h.2⟩
theorem Ylj{c:List SV}(h:okPL [] c):c=[]:=by
 cases c with
 |nil=>rfl
 |cons x r=>exact h.elim
theorem YeK{l:List Sh}{v:SV}(h:okP ⟨true,l⟩ v):∃cs,v= .agg cs/\okSL l cs:=h
def lawC(shs:List PSh):Ctr:={ alias:=false,of:=fun l=> .pre (okPL shs l) (.fin (.bool true) [])}
theorem YoL{C:Checked}{f:FuncId}{fn:Func}{s:ChangeSpec}{dom:List PathCond}{os:Os}{H:Type}{enc:TypeId×Value->H}{shs:List PSh}{tb:TypeId}
   (own:ownKnob C.prog.godebug=none)(started:os.Started)(noInit:C.prog.inits.idxOf? f=none)(hfn:C.prog.funcs[f]? =some fn)(hl:laidOutB C.prog=true)
   (witness:∃(w:World) (tape:Tape) (i:Input),w.os=os/\(w.forCall tape i).Shaped C.prog/\i.vars=[]/\Input.okWide C.prog (w.forCall tape i) .any w.heap.size f i/\
     s.pre6 enc C.prog fn dom false (w.forCall tape i).memory i.args/\({}:Assume).holds C.prog (lone (Frame.enter C.prog f i.args .normal) [] (w.forCall tape i)))
   (hsh:Ylp C.prog fn.params.toList=some shs)(hread:Yz6 C.prog fn.params.toList=true)(hres:fn.resultTypes.toList=[tb])(htb:C.prog.underlying tb=some .bool)(hvars:s.vars=[])
   (hspec:∀ds:List (DataW H),ds.length=fn.params.toList.length->(s.fn H ds).results=[.lit (.bool true)]/\(s.fn H ds).args=ds/\(s.fn H ds).vars=[])(hc:(lawC shs).ok C.prog f):
   ReturnsInHanded {} C os f .any (s.pre6 enc C.prog fn dom false) (s.post enc C.prog fn false true false false):=by
 refine returnsInHanded_of_change own started noInit hfn witness ?_
 intro W base args ds gs before hval hW hcnd _
 obtain⟨p,q,hA,hV,hbef,hfz,hnd⟩:=id hW
 have hlen:=YhK hA
 rw[hvars]at hV
 obtain⟨rfl,rfl⟩:=trodVars_none hV
 obtain⟨svs,k1,k2⟩:=Yix (B:=W.heap.size) hsh (fun j t v ht hv=>hval j t v (by simpa using ht) (by simpa using hv)) hA
 have hcall:=hc svs args.toList (cx0 W) (fun r hs=>r= .bool true) (fun b K h=>by cases h) k1 ⟨k2,rfl⟩
 simp only[Array.toArray_toList]at hcall
 refine hcall.mono fun e W' h=>?_
 obtain⟨r,hs,v,bs,J,hJ,rfl,rfl,hr,_,hbI,_⟩:=h
 have hb:Below W.heap.size W W':=⟨hbI.os,hbI.tape,hbI.output,hbI.size,fun k hk=>hbI.block k hk rfl⟩
 have hv:=hr.bool_inv
 subst hv
 obtain⟨s1,s2,s3⟩:=hspec ds hlen
 refine⟨_,rfl,ds,[],before,[],p,[],hW,?_,?_,?_,hb.frame _,fun h=>by cases h⟩
 . rw[List.append_nil,s1,hres]
   have hsz:fn.resultTypes.size=1:=by rw[<-Array.length_toList,hres];rfl
   have:(Value.bool true).resultList fn.resultTypes.size=[.bool true]:=by rw[hsz];rfl
   rw[this]
   exact trodAll_mk1 (shut_bool htb true)
 . rw[List.append_nil,s2]
   exact Ygg hl hb hread hA
 . rw[List.append_nil,s3,hvars];rfl
end Go.Vx
namespace Go.Vx
def idxK(ho:HO)(n size j:Nat)(i:Int):Option Ef:=
 match ho with
 | .own _ sz m _=>YL (0<=i/\i<n/\sz=size/\m=n) (.elem j i.toNat 0 size)
 | .box _=>YL (0<=i/\i<n) (.ptr j (idxN i size))
 |_=>none
theorem q_idx{hp:List HO}{n size j:Nat}{k:IntKind}{i:Int}:YeB hp n size [.ptr j 0,.int k i]=idxK (getH hp j) n size j i:=rfl
theorem YyS:idxN 0 1=0:=rfl
theorem YyT:idxN 0 2=0:=rfl
theorem YyU:idxN 0 3=0:=rfl
theorem YyV:idxN 0 4=0:=rfl
theorem YyW:idxN 1 2=2:=rfl
theorem YyZ:idxN 2 2=4:=rfl
theorem YyX:idxN 1 3=3:=rfl
theorem YyY:idxN 1 4=4:=rfl
def stoK(ho:HO)(size i off:Nat)(vals:List SV):Option Ef:=
 match ho with
 | .box cs=>some { pre:=off+size<=lenL cs,val:= .junk,upd:= .set i (.box (Yah cs off vals))}
 | .own z sz n _=>match off with
   |0=>some { pre:=size=n*sz/\0<sz,val:= .junk,upd:= .set i (.own z sz n (YaS sz vals))}
   |_=>none
 | .smap _=>none
 | .gone=>none
def stoE(ho:HO)(size i k off sz:Nat)(vals:List SV):Option Ef:=
 match ho with
 | .own z size' n get=>some { pre:=k<n/\sz=size'/\off+size<=sz,val:= .junk,upd:= .set i (.own z size' n fun j=>if j=k then Yah (get k) off vals else get j)}
 |_=>none
theorem YEl{hp:List HO}{size i off:Nat}{vals:List SV}:storeAt hp size vals (.ptr i off)=stoK (getH hp i) size i off vals:=rfl
theorem YEi{size i off:Nat}{cs vals:List SV}:stoK (.box cs) size i off vals=some { pre:=off+size<=lenL cs,val:= .junk,upd:= .set i (.box (Yah cs off vals))}:=rfl
theorem YEk{z:Bool}{sz n size i:Nat}{g:Nat->List SV}{vals:List SV}:stoK (.own z sz n g) size i 0 vals=some { pre:=size=n*sz/\0<sz,val:= .junk,upd:= .set i (.own z sz n (YaS sz vals))}:=rfl
theorem YEj{hp:List HO}{size i k off sz:Nat}{vals:List SV}:storeAt hp size vals (.elem i k off sz)=stoE (getH hp i) size i k off sz vals:=rfl
def appN(nx size bytes:Nat)(r:Option (Nat×(Nat->List SV))):Option Ef:=
 r.bind fun(m,gx)=>eNew (.own (decide (m=0)) size m gx) (.own (nx) 0 m size) (YN m bytes/\∀k,k<m->lenL (gx k)=size/\ones (gx k))
def appO(ho:HO)(i n sz size bytes:Nat)(r:Option (Nat×(Nat->List SV))):Option Ef:=
 match ho with
 | .own z s' _ get=>r.map fun(m,gx)=>
       { pre:=sz=size/\s'=size/\YN (n+m) bytes/\∀k,k<m->lenL (gx k)=size/\ones (gx k),val:= .own i 0 (n+m) size,
         upd:= .app i (.own (z&&decide (m=0)) size (n+m) fun k=>if k<n then Yk i (get k)else Yk i (gx (k-n)))}
 |_=>none
theorem YEc{nx:Nat}{hp:List HO}{size bytes:Nat}{x:SV}:YbE nx hp size bytes [.nil,x]=appN nx size bytes (Yc1 hp x):=rfl
theorem YEd{nx:Nat}{hp:List HO}{size bytes i n sz:Nat}{x:SV}:YbE nx hp size bytes [.own i 0 n sz,x]=appO (getH hp i) i n sz size bytes (Yc1 hp x):=rfl
def appC(nx size bytes:Nat)(ry r:Option (Nat×(Nat->List SV))):Option Ef:=
 ry.bind fun(n,gy)=>r.bind fun(m,gx)=>eNew (.own false size (n+m) fun k=>if k<n then gy k else gx (k-n)) (.own (nx) 0 (n+m) size)
       (0<m/\YN (n+m) bytes/\(∀k,k<n->lenL (gy k)=size/\ones (gy k))/\∀k,k<m->lenL (gx k)=size/\ones (gx k))
theorem YEb{nx:Nat}{hp:List HO}{size bytes:Nat}{y x:SV}:YbE nx hp size bytes [.cut y,x]=appC nx size bytes (Yc1 hp y) (Yc1 hp x):=rfl
def sliK(ho:HO)(n size j:Nat):Option Ef:=
 match ho with
 | .own _ sz m _=>YL (sz=size/\m=n) (.own j 0 n size)
 |_=>none
theorem q_sli{hp:List HO}{n size j:Nat}:YbF hp n size false false [.ptr j 0]=sliK (getH hp j) n size j:=rfl
theorem YEh{n:Nat}{get:Nat->List SV}:YjS 0 n get=some (True,Yhd n 0 get):=rfl
theorem q_fl1{get:Nat->List SV}:Yhd 1 0 get=get 0++[]:=rfl
theorem q_fl2{get:Nat->List SV}:Yhd 2 0 get=get 0++(get 1++[]):=rfl
theorem q_fl3{get:Nat->List SV}:Yhd 3 0 get=get 0++(get 1++(get 2++[])):=rfl
theorem q_fl4{get:Nat->List SV}:Yhd 4 0 get=get 0++(get 1++(get 2++(get 3++[]))):=rfl
theorem q_ch1{cs:List SV}:YaS 1 cs 0=YO 1 cs:=rfl
theorem YEe{cs:List SV}:YaS 1 cs 1=YO 1 (YJ 1 cs):=rfl
theorem YEf{cs:List SV}:YaS 1 cs 2=YO 1 (YJ 2 cs):=rfl
theorem YEg{cs:List SV}:YaS 1 cs 3=YO 1 (YJ 3 cs):=rfl
theorem q_fo(b:Bool):(false|| b)=b:=rfl
theorem q_to(b:Bool):(true|| b)=true:=rfl
def YkZ(s:S)(i:Nat)(keep:List Nat)(ghosts:List HO)(YX:List (Nat×SV))(blocks:List (Nat×HO)):S:=
 { fr:=Ylu (keepG keep s.fr) YX,saved:=Yhw i s.saved,hp:=Yr6 (s.hp++ghosts) blocks}
theorem Loop.keepP{r:List It->S->Prop}{body:VC}{K:List It}{s:S}(i:Nat)(keep:List Nat)(σ:Type)(YX:σ->List (Nat×SV))(blocks:σ->List (Nat×HO))(ghosts:List HO)(inv:σ->Prop)(μ:σ->Nat)
   (h0:∃x,inv x/\leS s (YkZ s i keep ghosts (YX x) (blocks x)))
   (h:∀x,inv x->r (.code body:: .inLoop (fun s'=> ∃y,inv y/\μ y<μ x/\leS s' (YkZ s i keep ghosts (YX y) (blocks y)))::K) (YkZ s i keep ghosts (YX x) (blocks x))):Loop r body K s leP:=
 ⟨σ,fun x=>YkZ s i keep ghosts (YX x) (blocks x),inv,μ,leS,fun _ _ h=>⟨[],trivial,[],trivial,h⟩,h0,h⟩
theorem Loop.keepF{r:List It->S->Prop}{body:VC}{K:List It}{s:S}(keep:List Nat)(σ:Type)(YX:σ->List (Nat×SV))(blocks:σ->List (Nat×HO))(ghosts:List HO)(inv:σ->Prop)(μ:σ->Nat)
   (h0:∃x,inv x/\leF s (YfM s keep ghosts (YX x) (blocks x)))
   (h:∀x,inv x->r (.code body:: .inLoop (fun s'=> ∃y,inv y/\μ y<μ x/\leF s' (YfM s keep ghosts (YX y) (blocks y)))::K) (YfM s keep ghosts (YX x) (blocks x))):Loop r body K s leP:=
 ⟨σ,fun x=>YfM s keep ghosts (YX x) (blocks x),inv,μ,leF,fun _ _ h=>⟨[],trivial,h⟩,h0,h⟩
theorem Loop.keepG{r:List It->S->Prop}{body:VC}{K:List It}{s:S}(keep:List Nat)(σ:Type)(YX:σ->List (Nat×SV))(blocks:σ->List (Nat×HO))(ghosts:List HO)(inv:σ->Prop)(μ:σ->Nat)
   (h0:∃x,inv x/\leP s (YfM s keep ghosts (YX x) (blocks x)))
   (h:∀x,inv x->r (.code body:: .inLoop (fun s'=> ∃y,inv y/\μ y<μ x/\leP s' (YfM s keep ghosts (YX y) (blocks y)))::K) (YfM s keep ghosts (YX x) (blocks x))):Loop r body K s leP:=
 ⟨σ,fun x=>YfM s keep ghosts (YX x) (blocks x),inv,μ,leP,fun _ _ h=>h,h0,h⟩
open Go.RowKit in
theorem Yf9{P:Program}{E:Env}{f:FuncId}{fn:Func}{vf:VF}(hf:P.funcs[f]? =some fn)(hvf:Yf P fn=some vf)(hE:Yq P E)(n:Nat)(c:Ctr)
   (h:∀(args:List SV) (k:SV->List HO->Prop),CSat (c.of args) k->∃args',leL 0 0 args args'/\run E (fun r hp=>k r hp/\Yl r/\Ybm hp) vf.res n [.code vf.body] { fr:=padL vf.ntmps args',saved:=[],hp:=[]}):c.ok P f:=by
 intro args vs z k hsat hx hc
 obtain⟨args',hle,hrun⟩:=h args k hc
 have hk0:YbS z.toWorld [] z.bd z.toWorld [] (z.wI z.I (Yac z)).bd:=⟨rfl,fun _ _ h=>h,fun b hf cs T fz ho=>⟨ho,Ybq,hf.2,z.ex b hf.2⟩⟩
 have hx2:RepL z.toWorld [] (z.wI z.I (Yac z)).bd args' vs:=Ye4 Yl9 _ _ hle (XRepL.keepG hk0 hx).rep
 obtain⟨body,hbody,hcode,hres,hnt⟩:=YdB hvf
 refine YcD (n:=0) (Ye3 (b:=vf.body) hf hbody ?_)
 refine YlB (w0:=z) (fn0:=fn) (R0:=fun e w'=> ∃r hs v bs,∃J,∃hJ:Ext z J,k r hs/\e= .returned v/\Rep w' bs (z.wI J hJ).bd r v/\Hp w' bs (z.wI J hJ).bd hs/\BelowI z.bd z.toWorld w'/\(c.alias=false->Yl r/\Ybm hs)) hE hres (by
   rintro r hp v w' bs D hD ⟨hk,hfr⟩ hr hH hb
   exact⟨r,hp,v,bs,D,hD,hk,rfl,hr,hH,hb,fun ha=>hfr⟩) n _ _ hrun [] [] none _
   { tmps:=vs.toArray++Array.replicate (fn.ntmps-vs.toArray.size) undef,defers:=[]} z.toWorld (.code body vf.body [] [] [] none _ hcode .nil) (D:=z.I) (hD:=Yac z) ?_
 refine⟨[],?_,.nil,hp0 (hJ:=Yac z) hsat,BelowI.refl _ _,⟨fun _ h=>(by cases h),.nil,[[]],rfl,by simp,fun _ h=>(by simp at h)⟩⟩
 have:=YfV (n:=fn.ntmps) hx2
 rw[hnt]
 simpa using this
theorem YbU{r:List It->S->Prop}{body:VC}{d:Option Nat}{res:List VR}{s1:S}{K:List It}(s2:S)(h1:r (.code body:: .frame d res:: .inLoop (fun s'=>s'=s2)::Ygj K) s1)(h2:r K s2):YqU r body d res s1 K:=
 ⟨fun s'=>s'=s2,h1,fun s' hs=>by rw[hs];exact h2⟩
@[reducible] def Zm (d a:Nat):VOp:=u1 d .mov [.tm a]
@[reducible] def Zi (d:Nat) (k:Int):VOp:=u1 d .mov [.cn (.int .i64 k)]
@[reducible] def Ze (d i a:Nat):VOp:=u1 d (.ext i) [.tm a]
@[reducible] def Zt (d s a:Nat):VOp:=u1 d (.load true s) [.tm a]
@[reducible] def Zf (d s a:Nat):VOp:=u1 d (.load false s) [.tm a]
@[reducible] def Zs (s a b:Nat):VOp:=u0 (.store s) [.tm a,.tm b]
@[reducible] def Za (d f a:Nat):VOp:=u1 d (.fieldAddr f) [.tm a]
@[reducible] def Zc (d f a:Nat):VOp:=u1 d (.call f) [.tm a]
@[reducible] def Zd (d f a b:Nat):VOp:=u1 d (.call f) [.tm a,.tm b]
@[reducible] def Zx (d s a b:Nat):VOp:=u1 d (.idxAddr s) [.tm a,.tm b]
@[reducible] def Zp (d a:Nat) (k:Int):VOp:=u1 d (.ari .add) [.tm a,.cn (.int .i64 k)]
@[reducible] def Zq (d:Nat) (c:Cmp) (a:Nat) (k:Int):VOp:=u1 d (.cmp c) [.tm a,.cn (.int .i64 k)]
@[reducible] def Zr (d:Nat) (c:Cmp) (a b:Nat):VOp:=u1 d (.cmp c) [.tm a,.tm b]
@[reducible] def Zl (d a:Nat):VOp:=u1 d .len [.tm a]
@[reducible] def Zn (d:Nat):VOp:=u1 d (.alloc [.int .i64 0,.int .i64 0]) []
@[reducible] def Zo (d:Nat) (o:Ari) (a b:Nat):VOp:=u1 d (.ari o) [.tm a,.tm b]
@[reducible] def Zg (d g:Nat) (t:Bool) (a:Nat):VOp:=u2 d g t .mov [.tm a]
@[reducible] def Zh (d g:Nat) (t:Bool) (s a:Nat):VOp:=u2 d g t (.load false s) [.tm a]
@[reducible] def Zj (d g:Nat) (t:Bool) (f a:Nat):VOp:=u2 d g t (.fieldAddr f) [.tm a]
@[reducible] def Zu (d a:Nat):DOp:=w1 d .mov [.tm a]
@[reducible] def Zv (d s a:Nat):DOp:=w1 d (.load false s) [.tm a]
@[reducible] def Zw (d s a:Nat):DOp:=w1 d (.load true s) [.tm a]
@[reducible] def Zy (d f a:Nat):DOp:=w1 d (.fieldAddr f) [.tm a]
@[reducible] def Zz (d f a b:Nat):DOp:=w1 d (.call f) [.tm a,.tm b]
@[reducible] def ZX (d s a b:Nat):DOp:=w1 d (.idxAddr s) [.tm a,.tm b]
@[reducible] def ZS (s a b:Nat):DOp:=w0 (.store s) [.tm a,.tm b]
@[reducible] def ZE (d i a:Nat):DOp:=w1 d (.ext i) [.tm a]
@[reducible] def ZR (l:List VOp) (c:VC):VC:= .seq (.region l) c
@[reducible] def ZC (a:Nat) (c d:VC):VC:= .cond (.tm a) c d
attribute [go_sem] Zm Zi Ze Zt Zf Zs Za Zc Zd Zx Zp Zq Zr Zl Zn Zo Zg Zh Zj Zu Zv Zw Zy Zz ZX ZS ZE ZR ZC
attribute [go_sem] pubV pubL Yvk Ygs pub1 pubC YzC pubS pubP YEK YEL YzX YzY YEB psd YeV Yjo Yns Yjs Yjq YjE Ysh Yz2 VO.bad u0 u1 u2 w0 w1 Yl6 ctM ctI frzV frzL YuH Ygo frz1 YyH frzS frzP Ynu YEE YEF r_nil r_op YEI Yz1 r_op0 YEQ YER r_y YEM Ywv YzZ Yww Yz0 Ysi Yvr Yvq YEz YzS Yz4 YEP r_tbr YE0 YE1 VO.isAppend chkG chkA napP napB YAx YEv r_dop YEw YEy YEx r_dq r_dq0 YEo YEn YEq YEp YEu YzR r_dgd YEt YEs YEr r_op1 r_eff YEA YEm YzO r_inl r_g r_gq r_gc YEC YzT YED YzU YzP Yvn r_fin r_pre r_imp r_all r_ex YEG YEJ r_exg Ysg Yvp Ysf Yvo YEO Yz3 Yvs r_seq Ywt YzQ YzN Ywu YzV YzW YEN YEH YAg YAh s_xt s_xc padL YkF callee Yjb eff ctOf getL setL S.put S.upd Ygl YmR YT Ykc YDu Yad YyI eMov eNot eNeg YuD eExt Yjp eLen Yjr eEqb eEqv YbP eNil Yhr YkS eCmp eAri ari eBit eDiv eSh Yhb YfL YfK kEq YL cmpB VO.quiet YaE Yob Ygk Yaf YbI cond eNew eBox YaI lenH Ybx YdJ Ynt YhR YaC getH setH YJ YO Ygr lenL lenS shift YcZ YV viewN Yby view andT YoK YgC YDl YDm YDn YDo Ynv Yii Yah ones one Ynw YkI YAu YlY YsL Yp4 YqS Yc1 repL YR YaS Yk Yhw YaN Yd3 refs YhA YvU wrAl Ys4 YlS wrC junkAt Ylu Yr6 YkY YfM keepG YcI chkP Yib Yqa blk Yo3 YhV AL.ho yld Ylv lenN YeE Ybu YoI Yk4 Yy1 idxK q_idx YyS YyT YyU YyV YyW YyZ YyX YyY stoE YEl YEi YEk YEj appN appO YEc YEd appC YEb Yjt sliK q_sli noOwn YaG YEh q_fl1 q_fl2 q_fl3 q_fl4 q_ch1 YEe YEf YEg YkZ q_fo q_to
theorem it_p(α:Prop):(α->True)=True:=implies_true α
theorem it_t(α:Type):(α->True)=True:=implies_true α
theorem fc_t{b:Prop}(α:Type)[Nonempty α]:(α->b)↔b:=forall_const α
theorem fc_p{b:Prop}(α:Prop)[Nonempty α]:(α->b)↔b:=forall_const α
theorem ne_t{α:Type}(a b:α):(a≠b)=¬(a=b):=rfl
def Ya:=YGV @imp_self (YGV @true_and (YGV @and_true (YGV @it_p (YGV @it_t (YGV @YDw (YGV @YnJ (YGV @Yrk (YGV @Yy8 (YGV @YDz (YGV @Yrl (YGV @YDA (YGV @YuT (YGV @Yrh (YGV @YjG (YGV @Yy4 (YGV @YuR (YGV @YuS (YGV @Yre (YGV @YuW (YGV @Ywg (YGV @YDH (YGV @YDE (YGV @YDD (YGV @le_xp (YGV @le_fn (YGV @YDC (YGV @YDI (YGV @Yy6 (YGV @YoM (YGV @Yrn (YGV @Yrg (YGV @Yrj (YGV @Yy5 (YGV @Yx5 (YGV @Yuu (YGV @Yyd (YGV @Yx6 (YGV @Yux (YGV @YCV (YGV @YCW (YGV @Yx4 (YGV @Yyc (YGV @Yx9 (YGV @Yx8 (YGV @Yuv (YGV @YCU (YGV @Yqq (YGV @Yx7 (YGV @Yya (YGV @Yqr (YGV @Yuw (YGV @Yyb (YGV @YDF (YGV @YuV (YGV @Yy7 (YGV @YDG (YGV @Yrf (YGV @Yut (YGV @Yqp (YGV @Yrq (@YuX)))))))))))))))))))))))))))))))))))))))))))))))))))))))))))))
def Yd:=YGV @true_imp_iff (YGV @fc_p (YGV @it_p (YGV @it_t (YGV @fc_t (YGV @ne_t (YGV @true_and (YGV @and_true (YGV @imp_self (YGV @decide_eq_true_eq (YGV @decide_eq_false_iff_not (YGV @Bool.not_not (YGV @false_imp_iff (YGV @YGP (YGV @YHe (YGV @YGM (YGV @and_self (@not_false_eq_true)))))))))))))))))
attribute [go_sem] Option.bind Option.map List.append_nil YHf List.cons_append List.nil_append List.append_eq YG6 List.map_nil ite_self
end Go.Vx
namespace Go.Proofs.YtijadllhfgajlaaGreat
open Go Go.Vx
theorem Yeb{i n:Nat}(h:i<n)(hn:n<=9223372036854775807):IntKind.i64.wrap ((i:Int)+1)=((i+1:Nat):Int):=by
 rw[YGy _ (by omega)];simp
theorem Yp{α:Type}[Inhabited α]{l:List α}{i:Nat}(h:i<l.length):l.getD i default∈l:=by
 rw[YGB,List.getElem?_eq_getElem h];exact List.getElem_mem h
theorem Ye8{α:Type}[Inhabited α]{l:List α}{x:α}(h:x∈l):∃i,i<l.length/\l.getD i default=x:=by
 obtain⟨j,hj,rfl⟩:=List.getElem_of_mem h
 exact⟨j,hj,by rw[YGB,List.getElem?_eq_getElem hj];rfl⟩
theorem Yfr{α:Type}[Inhabited α]{l:List α}{f:α->Bool}{i:Nat}(h:i<l.length):(l.take (i+1)).all f=((l.take i).all f&&f (l.getD i default)):=by
 rw[List.take_add_one,List.all_append,YGB,List.getElem?_eq_getElem h]
 simp
theorem Yfs{α:Type}[Inhabited α]{l:List α}{f:α->Bool}{i:Nat}(h:i<l.length):(l.take (i+1)).any f=((l.take i).any f|| f (l.getD i default)):=by
 rw[List.take_add_one,List.any_append,YGB,List.getElem?_eq_getElem h]
 simp
theorem Yai{α:Type}[Inhabited α]{l:List α}{i:Nat}(h:i<l.length):l.take (i+1)=l.take i++[l.getD i default]:=by
 rw[List.take_add_one,YGB,List.getElem?_eq_getElem h];rfl
theorem Yt{α β:Type}[Inhabited α]{l:List α}{f:β->α->β}{b:β}{i:Nat}(h:i<l.length):(l.take (i+1)).foldl f b=f ((l.take i).foldl f b) (l.getD i default):=by
 rw[Yai h,List.foldl_append]
 rfl
def YbV(f:Nat->Bool):Nat->Nat->Nat
 |0,k=>k
 |n+1,k=>if f k then k else YbV f n (k+1)
theorem YcK{f:Nat->Bool}:∀(n k:Nat),k<=YbV f n k/\YbV f n k<=n+k/\(∀j,k<=j->j<YbV f n k->f j=false)/\(YbV f n k<n+k->f (YbV f n k)=true)
 |0,k=>⟨YGH _,by simp [YbV],fun j h1 h2=>by simp [YbV]at h2;omega,fun h=>by simp [YbV]at h⟩
 |n+1,k=>by
   unfold YbV
   split
   . rename_i h;exact⟨YGH _,by omega,fun j h1 h2=>by omega,fun _=>h⟩
   . rename_i h
     obtain⟨h1,h2,h3,h4⟩:=YcK (f:=f) n (k+1)
     refine⟨by omega,by omega,fun j a b=>?_,fun hlt=>h4 (by omega)⟩
     rcases YGN k j with h'|h'
     . exact h3 j h' b
     . obtain rfl:j=k:=by omega
       simpa using h
theorem Yhk{f:Nat->Bool}{n m:Nat}(h1:∀j,j<m->f j=false)(h2:m<=n)(h3:m<n->f m=true):YbV f n 0=m:=by
 obtain⟨a,b,c,d⟩:=YcK (f:=f) n 0
 rcases Nat.lt_trichotomy (YbV f n 0) m with h|h|h
 . have:=h1 _ h
   rw[d (by omega)]at this;cases this
 . exact h
 . have:=c m (YHl _) h
   rw[h3 (by omega)]at this;cases this
theorem Yhq{a b c d:Int}(h1:a<=c)(h2:b<=d)(ha:0<=a)(hd:0<=d):a*b<=c*d:=
 Int.le_trans (Int.mul_le_mul_of_nonneg_left h2 ha) (YGS h1 hd)
def noC:CRes:= .pre False (.fin .junk [])
def trueC:Ctr:={ alias:=false,of:=fun a=>match a with
 | []=> .fin (.bool true) []
 |_=>noC}
def lsP{α:Type}[Inhabited α](size:Nat)(e:α->List SV)(n sz:Nat)(get:Nat->List SV)(l:List α):Prop:=sz=size/\n=l.length/\∀k,k<n->leXL (get k) (e (l.getD k default))
def enc2(x:Int×Int):List SV:=[.int .i64 x.1,.int .i64 x.2]
def Yx0:List Sh:=[.int .i64,.int .i64]
theorem YDr{c:List SV}(h:okSL Yx0 c):∃p:Int×Int,c=enc2 p:=by
 obtain⟨_,_,rfl,⟨n1,rfl,_⟩,e1⟩:=Y6 h
 obtain⟨_,_,rfl,⟨n2,rfl,_⟩,e2⟩:=Y6 e1
 cases Ygf e2
 exact⟨(n1,n2),rfl⟩
end Go.Proofs.YtijadllhfgajlaaGreat
