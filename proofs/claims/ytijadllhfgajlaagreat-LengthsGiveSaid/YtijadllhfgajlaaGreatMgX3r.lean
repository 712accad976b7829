/- The document's example, by the exact speed of sound. -/
import Derived.Test.YtijadllhfgajlaaGreatMgX3q
open Or renaming inr->YHT
set_option linter.all false
namespace Go.Proofs.YtijadllhfgajlaaGreat
open Go Go.Vx
set_option maxRecDepth 100000
theorem spR_0:spR 273150=331300000:=by decide+kernel
theorem YsE:YY 0=((331300000,331300000),0):=by
 rw[Yop (by decide),show(273150+(0:Int)).toNat=273150 from rfl,spR_0]
 decide
def exB:Bdy:=⟨1,50000,50000,40000,10000⟩
theorem Yv7:chkB exB=0:=by decide+kernel
theorem ex_cor:YcY exB=(71875,71875)/\endF exB=(15332,15333):=by decide+kernel
theorem Yl4:Ybg exB=(addF (71875,71875) (15332,15333)).1:=by rw[Ybg,ex_cor.1,ex_cor.2]
theorem Ys2:wayF exB 0=sclF (331300000,331300000) 500 1:=by rw[wayF,YsE];rfl
theorem Yqi(x:Iv)(a b:Int):begE exB x a b 0=if x.1<a\/x.2<x.1\/b<x.2 then 2 else 0:=by
 rw[begE,Yv7,YsE,if_neg (by decide)]
 by_cases h:x.1<a\/x.2<x.1\/b<x.2
 . rw[if_pos (YHT h),if_pos h]
 . rw[if_neg (by simp only;omega),if_neg h]
theorem YC9:lenF exB (440000,440000) 0=((289269,289271),0):=by
 rw[lenF,Ys2,Yqi,Yl4];decide+kernel
theorem YDa:(pitF exB (289270,289270) 0).2=0/\(pitF exB (289270,289270) 0).1.1<=440000/\440000<=(pitF exB (289270,289270) 0).1.2:=by
 rw[pitF,Ys2,Yqi,Yl4];decide+kernel
theorem YyA:(lenF exB (20000000,20000000) 0).2=7:=by
 rw[lenF,Ys2,Yqi,Yl4];decide+kernel
end Go.Proofs.YtijadllhfgajlaaGreat
