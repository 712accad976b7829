/- Temperatures, evaluated: part 3. -/
import Derived.Test.YtijadllhfgajlaaGreatMgX3g
set_option linter.all false
namespace Go.Proofs.YtijadllhfgajlaaGreat
open Go Go.Vx
theorem bk_2:blkR 257246 128=true:=by decide+kernel
theorem bk_10:blkR 273630 128=true:=by decide+kernel
theorem bk_18:blkR 290014 128=true:=by decide+kernel
theorem bk_26:blkR 306398 128=true:=by decide+kernel
theorem bk_34:blkR 322782 128=true:=by decide+kernel
theorem fb_4:YbR 13 78 278529 4096=true:=by decide+kernel
theorem fb_12:YbR 13 78 311297 4096=true:=by decide+kernel
end Go.Proofs.YtijadllhfgajlaaGreat
