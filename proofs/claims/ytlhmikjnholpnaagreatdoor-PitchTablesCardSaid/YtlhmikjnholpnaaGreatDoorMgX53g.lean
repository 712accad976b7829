/- noasync. The powers of the two commas: tables. -/
import Derived.Test.YtlhmikjnholpnaaGreatDoorMgX53f
open Nat renaming ble->Y7,pow->KI
set_option linter.all false
set_option maxRecDepth 100000
namespace Go.Proofs.YtlhmikjnholpnaaGreatDoor.LB
def lnP:Nat:=533937901141508586030442368276241109591842963897614658744107967076396619494782775687324542736806412011489513615295
theorem Yh4:KV 531441 524288 lnP 0 2 38=true:=by decide+kernel
theorem Yh5:KV 531441 524288 lnP 0 40 19=true:=by decide+kernel
theorem Yh6:KV 531441 524288 lnP 0 59 15=true:=by decide+kernel
theorem Yh7:KV 531441 524288 lnP 0 74 13=true:=by decide+kernel
theorem Yh8:KV 531441 524288 lnP 0 87 12=true:=by decide+kernel
theorem Yh9:KV 531441 524288 lnP 0 99 11=true:=by decide+kernel
theorem Yh3:KV 531441 524288 lnP 0 110 11=true:=by decide+kernel
theorem Yib:KV 531441 524288 lnP 22 2 38=true:=by decide+kernel
theorem Yic:KV 531441 524288 lnP 22 40 19=true:=by decide+kernel
theorem Yid:KV 531441 524288 lnP 22 59 15=true:=by decide+kernel
theorem Yie:KV 531441 524288 lnP 22 74 13=true:=by decide+kernel
theorem Yif:KV 531441 524288 lnP 22 87 12=true:=by decide+kernel
theorem Yig:KV 531441 524288 lnP 22 99 11=true:=by decide+kernel
theorem Yia:KV 531441 524288 lnP 22 110 11=true:=by decide+kernel
theorem kP1:Gm 531441 524288 (KI 524288 7) (KI 531441 7) lnP 1 38=true:=by decide+kernel
theorem smP:Y7 (524288^6) (2*pV)=true:=by decide+kernel
theorem snP:Y7 (531441^6) (2*pV)=true:=by decide+kernel
def lnS:Nat:=489472209957983291735245219298753880585732843641907564622064578644187778865281868174608672569437365931504815813762
theorem Yii:KV 81 80 lnS 0 2 38=true:=by decide+kernel
theorem Yij:KV 81 80 lnS 0 40 19=true:=by decide+kernel
theorem Yik:KV 81 80 lnS 0 59 15=true:=by decide+kernel
theorem Yil:KV 81 80 lnS 0 74 13=true:=by decide+kernel
theorem Yim:KV 81 80 lnS 0 87 12=true:=by decide+kernel
theorem Yin:KV 81 80 lnS 0 99 11=true:=by decide+kernel
theorem Yih:KV 81 80 lnS 0 110 11=true:=by decide+kernel
theorem Yip:KV 81 80 lnS 22 2 38=true:=by decide+kernel
theorem Yiq:KV 81 80 lnS 22 40 19=true:=by decide+kernel
theorem Yir:KV 81 80 lnS 22 59 15=true:=by decide+kernel
theorem Yis:KV 81 80 lnS 22 74 13=true:=by decide+kernel
theorem Yit:KV 81 80 lnS 22 87 12=true:=by decide+kernel
theorem Yiu:KV 81 80 lnS 22 99 11=true:=by decide+kernel
theorem Yio:KV 81 80 lnS 22 110 11=true:=by decide+kernel
theorem kS1:Gm 81 80 (KI 80 20) (KI 81 20) lnS 1 25=true:=by decide+kernel
theorem smS:Y7 (80^19) (2*pV)=true:=by decide+kernel
theorem snS:Y7 (81^19) (2*pV)=true:=by decide+kernel
end Go.Proofs.YtlhmikjnholpnaaGreatDoor.LB
