/- Lengths: the document's example, evaluated. -/
import Derived.Test.YtmiclogmkfobgaaGreatMgX51e
set_option linter.all false
namespace Go.Proofs.YtmiclogmkfobgaaGreat
open Go Go.Vx
set_option maxRecDepth 100000
def exB:Bdy:=⟨1,50000,50000,40000,10000⟩
theorem YCy:chkB exB=0:=by decide+kernel
theorem YCz:Ydk exB=(71875,71875)/\endF exB=(15332,15333):=by decide+kernel
theorem YCA:lenF exB (440000,440000) 0=((289269,289271),0):=by decide+kernel
theorem YCB:(pitF exB (289270,289270) 0).2=0/\(pitF exB (289270,289270) 0).1.1<=440000/\440000<=(pitF exB (289270,289270) 0).1.2:=by decide+kernel
theorem Yx9:(lenF exB (20000000,20000000) 0).2=7:=by decide+kernel
end Go.Proofs.YtmiclogmkfobgaaGreat
