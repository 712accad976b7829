/- Temperatures, evaluated: part 6. -/
import Derived.Test.YtijadllhfgajlaaGreatMgX3g
set_option linter.all false
namespace Go.Proofs.YtijadllhfgajlaaGreat
open Go Go.Vx
theorem bk_5:blkR 263390 128=true:=by decide+kernel
theorem bk_13:blkR 279774 128=true:=by decide+kernel
theorem bk_21:blkR 296158 128=true:=by decide+kernel
theorem bk_29:blkR 312542 128=true:=by decide+kernel
theorem fa_2:YbR 13 79 261342 802=true:=by decide+kernel
theorem fb_7:YbR 13 78 290817 4096=true:=by decide+kernel
end Go.Proofs.YtijadllhfgajlaaGreat
