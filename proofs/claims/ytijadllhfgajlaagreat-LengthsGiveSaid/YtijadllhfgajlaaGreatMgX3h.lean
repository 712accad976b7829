/- Temperatures, evaluated: part 1. -/
import Derived.Test.YtijadllhfgajlaaGreatMgX3g
set_option linter.all false
namespace Go.Proofs.YtijadllhfgajlaaGreat
open Go Go.Vx
theorem bk_0:blkR 253150 128=true:=by decide+kernel
theorem bk_8:blkR 269534 128=true:=by decide+kernel
theorem bk_16:blkR 285918 128=true:=by decide+kernel
theorem bk_24:blkR 302302 128=true:=by decide+kernel
theorem bk_32:blkR 318686 128=true:=by decide+kernel
theorem fb_2:YbR 13 78 270337 4096=true:=by decide+kernel
theorem fb_10:YbR 13 78 303105 4096=true:=by decide+kernel
end Go.Proofs.YtijadllhfgajlaaGreat
