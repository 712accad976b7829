/- Temperatures, evaluated: part 2. -/
import Derived.Test.YtijadllhfgajlaaGreatMgX3g
set_option linter.all false
namespace Go.Proofs.YtijadllhfgajlaaGreat
open Go Go.Vx
theorem bk_1:blkR 255198 128=true:=by decide+kernel
theorem bk_9:blkR 271582 128=true:=by decide+kernel
theorem bk_17:blkR 287966 128=true:=by decide+kernel
theorem bk_25:blkR 304350 128=true:=by decide+kernel
theorem bk_33:blkR 320734 128=true:=by decide+kernel
theorem fb_3:YbR 13 78 274433 4096=true:=by decide+kernel
theorem fb_11:YbR 13 78 307201 4096=true:=by decide+kernel
end Go.Proofs.YtijadllhfgajlaaGreat
