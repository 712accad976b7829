/- Temperatures, evaluated: part 7. -/
import Derived.Test.YtijadllhfgajlaaGreatMgX3g
set_option linter.all false
namespace Go.Proofs.YtijadllhfgajlaaGreat
open Go Go.Vx
theorem bk_6:blkR 265438 128=true:=by decide+kernel
theorem bk_14:blkR 281822 128=true:=by decide+kernel
theorem bk_22:blkR 298206 128=true:=by decide+kernel
theorem bk_30:blkR 314590 128=true:=by decide+kernel
theorem fb_0:YbR 13 78 262145 4096=true:=by decide+kernel
theorem fb_8:YbR 13 78 294913 4096=true:=by decide+kernel
end Go.Proofs.YtijadllhfgajlaaGreat
