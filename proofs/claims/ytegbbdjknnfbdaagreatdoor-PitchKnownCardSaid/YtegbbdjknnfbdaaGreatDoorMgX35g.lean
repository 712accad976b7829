/- Pitches: the examples of PitchKnown, evaluated. -/
import Derived.Test.YtegbbdjknnfbdaaGreatDoorMgX35f
open Nat renaming le_refl->Yzk
set_option linter.all false
set_option maxRecDepth 100000
namespace Go.Proofs.YtegbbdjknnfbdaaGreatDoor
open Go Go.Vx
def LQ:Nat->Rt:=fun k=>[(⟨0,0,0,0,0,0,1⟩:Rt),⟨1,0,0,0,0,0,12⟩,⟨1,0,0,0,0,0,6⟩,⟨1,0,0,0,0,0,4⟩,⟨1,0,0,0,0,0,3⟩,⟨5,0,0,0,0,0,12⟩,⟨1,0,0,0,0,0,2⟩,⟨7,0,0,0,0,0,12⟩,⟨2,0,0,0,0,0,3⟩,⟨3,0,0,0,0,0,4⟩,⟨5,0,0,0,0,0,6⟩,⟨11,0,0,0,0,0,12⟩].getD k default
theorem LQ_is:∀k,k<12->Yz EQ k=LQ k:=by decide+kernel
theorem Yur{L L':Nat->Rt}(h:∀k,k<12->L k=L' k):Yi L=Yi L':=by
 funext t0 t note
 have h1:L (note%12).toNat=L' (note%12).toNat:=h _ (by omega)
 have h2:L 9=L' 9:=h 9 (by decide)
 have e:YfG L note=YfG L' note:=by
   unfold YfG
   rw[h1,h2]
 unfold Yi
 rw[e]
theorem YrO{L L':Nat->Rt}(h:Yi L=Yi L'):farL L=farL L':=by
 have e:Y2 L=Y2 L':=by
   funext a t0 t f note
   unfold Y2
   rw[h]
 funext a t0 t f note
 unfold farL
 rw[e]
theorem Yr3{L L':Nat->Rt}(h:Yi L=Yi L')(a t0 t f:Int):∀m,nrL L a t0 t f m=nrL L' a t0 t f m
 |0=>by rw[nrL,nrL,YrO h,h]
 |m+1=>by rw[nrL,nrL,Yr3 h a t0 t f m,YrO h,h]
theorem Ykn{L L':Nat->Rt}(h:Yi L=Yi L')(a t0 t f:Int):Ydy L a t0 t f=Ydy L' a t0 t f:=by
 unfold Ydy
 rw[Yr3 h]
 unfold offL
 rw[h]
def cmpN(L:Nat->Rt)(a t0 t f m n:Int):Bool:=decide ((sgnF (pjnF (farL L a t0 t f m) (Yi L t0 t n).2 (farL L a t0 t f n) (IntKind.i64.wrap (0-(Yi L t0 t m).2)))).1<0)
def atN(L:Nat->Rt)(a t0 t f n:Int):Nrs:=⟨n,farL L a t0 t f n,(Yi L t0 t n).2⟩
theorem YlQ{L:Nat->Rt}{a t0 t f n:Int}{m:Nat}(h:nrL L a t0 t f m=atN L a t0 t f n):
   nrL L a t0 t f (m+1)=if cmpN L a t0 t f ((m+1:Nat):Int) n=true then atN L a t0 t f ((m+1:Nat):Int)else atN L a t0 t f n:=by
 rw[nrL,h]
 unfold cmpN atN
 simp only
 by_cases hc:(sgnF (pjnF (farL L a t0 t f ((m+1:Nat):Int)) (Yi L t0 t n).2 (farL L a t0 t f n) (IntKind.i64.wrap (0-(Yi L t0 t ((m+1:Nat):Int)).2)))).1<0
 . rw[if_pos hc,if_pos (decide_eq_true hc)]
 . rw[if_neg hc,if_neg (by rw[decide_eq_false hc];exact Bool.false_ne_true)]
theorem YoT{L:Nat->Rt}{a t0 t f:Int}{k:Nat}(h:((List.range k).all fun m=>cmpN L a t0 t f ((m+1:Nat):Int) (m:Int))=true):∀m,m<=k->nrL L a t0 t f m=atN L a t0 t f m
 |0,_=>rfl
 |m+1,hm=>by
   have ih:=YoT h m (by omega)
   rw[YlQ ih,List.all_eq_true.1 h m (List.mem_range.2 (by omega)),if_pos rfl]
theorem Ye7{L:Nat->Rt}{a t0 t f n:Int}{k e:Nat}(h0:nrL L a t0 t f k=atN L a t0 t f n)(h:((List.range e).all fun m=>!cmpN L a t0 t f ((k+m+1:Nat):Int) n)=true):∀m,m<=e->nrL L a t0 t f (k+m)=atN L a t0 t f n
 |0,_=>h0
 |m+1,hm=>by
   have ih:=Ye7 h0 h m (by omega)
   have h1:=List.all_eq_true.1 h m (List.mem_range.2 (by omega))
   show nrL L a t0 t f (k+m+1)=_
   rw[YlQ ih,if_neg (by simpa using h1)]
theorem Ypo:Yi (Yz EQ)=Yi LQ:=Yur LQ_is
theorem na_u:((List.range 69).all fun m=>cmpN LQ 440000 15000 15000 450000 ((m+1:Nat):Int) (m:Int))=true:=by decide+kernel
theorem na_s:((List.range 70).all fun m=>!cmpN LQ 440000 15000 15000 450000 ((69+m+1:Nat):Int) 69)=true:=by decide+kernel
theorem nb_u:((List.range 70).all fun m=>cmpN LQ 440000 15000 15000 452893 ((m+1:Nat):Int) (m:Int))=true:=by decide+kernel
theorem nb_s:((List.range 69).all fun m=>!cmpN LQ 440000 15000 15000 452893 ((70+m+1:Nat):Int) 70)=true:=by decide+kernel
theorem nc_s:((List.range 139).all fun m=>!cmpN LQ 440000 15000 15000 1 ((0+m+1:Nat):Int) 0)=true:=by decide+kernel
theorem oa:offL LQ 440000 15000 15000 450000 69=38905:=by decide+kernel
theorem ob:offL LQ 440000 15000 15000 452893 70= -50000:=by decide+kernel
theorem oc:offL LQ 440000 15000 15000 1 0= -15596573:=by decide+kernel
theorem exn_1:Ydy (Yz EQ) 440000 15000 15000 450000=(69,38905):=by
 rw[Ykn Ypo,Ydy]
 have h:=Ye7 (YoT na_u 69 (Yzk _)) na_s 70 (Yzk _)
 rw[show 69+70=139 from rfl]at h
 rw[h]
 exact Prod.ext rfl oa
theorem exn_2:Ydy (Yz EQ) 440000 15000 15000 452893=(70, -50000):=by
 rw[Ykn Ypo,Ydy]
 have h:=Ye7 (YoT nb_u 70 (Yzk _)) nb_s 69 (Yzk _)
 rw[show 70+69=139 from rfl]at h
 rw[h]
 exact Prod.ext rfl ob
theorem exn_3:Ydy (Yz EQ) 440000 15000 15000 1=(0, -15596573):=by
 rw[Ykn Ypo,Ydy]
 have h:=Ye7 (L:=LQ) (a:=440000) (t0:=15000) (t:=15000) (f:=1) (n:=0) (k:=0) rfl nc_s 139 (Yzk _)
 rw[show 0+139=139 from rfl]at h
 rw[h]
 exact Prod.ext rfl oc
theorem exf_1:Ygb (Yz EQ) 15000 15000 69 440000=(440000,440000):=by decide+kernel
theorem exf_2:Ygb (Yz EQ) 15000 15000 81 440000=(880000,880000):=by decide+kernel
theorem exf_3:Ygb (Yz MT) 15000 15000 60 440000=(263181,263182):=by decide+kernel
theorem exf_4:YmD (1000*440000) 440000 15000 15000 EQ 60=((261625565,261625566),0):=by decide+kernel
theorem exf_5:Ygb (Yz EQ) 15000 15000 60 440000=(261625,261626):=by decide+kernel
theorem exf_6:Ygb (Yz EQ) 15000 20000 69 440000=(443801,443802):=by decide+kernel
theorem exs_1:YgQ 0=((331300000,331300000),0):=by decide+kernel
theorem exw_1:wavF (Yz EQ) 331300 0 69=(1000000,1000000):=by decide+kernel
theorem exw_2:wavF (Yz EQ) 440000 0 69=(752954,752955):=by decide+kernel
theorem exd_1:drfF 15000 20000=14891:=by decide+kernel
end Go.Proofs.YtegbbdjknnfbdaaGreatDoor
