/- Temperatures, evaluated: part 5. -/
import Derived.Test.YtijadllhfgajlaaGreatMgX3g
set_option linter.all false
namespace Go.Proofs.YtijadllhfgajlaaGreat
open Go Go.Vx
theorem bk_4:blkR 261342 128=true:=by decide+kernel
theorem bk_12:blkR 277726 128=true:=by decide+kernel
theorem bk_20:blkR 294110 128=true:=by decide+kernel
theorem bk_28:blkR 310494 128=true:=by decide+kernel
theorem fa_1:YbR 13 79 257246 4096=true:=by decide+kernel
theorem fb_6:YbR 13 78 286721 4096=true:=by decide+kernel
theorem fb_14:YbR 13 78 319489 4096=true:=by decide+kernel
end Go.Proofs.YtijadllhfgajlaaGreat
