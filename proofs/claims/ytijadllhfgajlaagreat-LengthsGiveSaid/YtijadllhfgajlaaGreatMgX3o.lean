/- Temperatures, evaluated: part 8. -/
import Derived.Test.YtijadllhfgajlaaGreatMgX3g
set_option linter.all false
namespace Go.Proofs.YtijadllhfgajlaaGreat
open Go Go.Vx
theorem bk_7:blkR 267486 128=true:=by decide+kernel
theorem bk_15:blkR 283870 128=true:=by decide+kernel
theorem bk_23:blkR 300254 128=true:=by decide+kernel
theorem bk_31:blkR 316638 128=true:=by decide+kernel
theorem fb_1:YbR 13 78 266241 4096=true:=by decide+kernel
theorem fb_9:YbR 13 78 299009 4096=true:=by decide+kernel
end Go.Proofs.YtijadllhfgajlaaGreat
