/- Temperatures, evaluated: part 4. -/
import Derived.Test.YtijadllhfgajlaaGreatMgX3g
set_option linter.all false
namespace Go.Proofs.YtijadllhfgajlaaGreat
open Go Go.Vx
theorem bk_3:blkR 259294 128=true:=by decide+kernel
theorem bk_11:blkR 275678 128=true:=by decide+kernel
theorem bk_19:blkR 292062 128=true:=by decide+kernel
theorem bk_27:blkR 308446 128=true:=by decide+kernel
theorem fa_0:YbR 13 79 253150 4096=true:=by decide+kernel
theorem fb_5:YbR 13 78 282625 4096=true:=by decide+kernel
theorem fb_13:YbR 13 78 315393 4096=true:=by decide+kernel
end Go.Proofs.YtijadllhfgajlaaGreat
