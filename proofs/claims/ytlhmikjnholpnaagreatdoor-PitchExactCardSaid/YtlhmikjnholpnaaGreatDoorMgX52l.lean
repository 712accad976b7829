/- noasync. The powers of the two commas: tables. -/
import Derived.Test.YtlhmikjnholpnaaGreatDoorMgX52k
open Nat renaming ble->Y8,pow->Kx
set_option linter.all false
set_option maxRecDepth 100000
namespace Go.Proofs.YtlhmikjnholpnaaGreatDoor.LB
def lnP:Nat:=533937901141508586030442368276241109591842963897614658744107967076396619494782775687324542736806412011489513615295
theorem Yk5:KN 531441 524288 lnP 0 2 38=true:=by decide+kernel
theorem Yk6:KN 531441 524288 lnP 0 40 19=true:=by decide+kernel
theorem Yk7:KN 531441 524288 lnP 0 59 15=true:=by decide+kernel
theorem Yk8:KN 531441 524288 lnP 0 74 13=true:=by decide+kernel
theorem Yk9:KN 531441 524288 lnP 0 87 12=true:=by decide+kernel
theorem Yla:KN 531441 524288 lnP 0 99 11=true:=by decide+kernel
theorem Yk4:KN 531441 524288 lnP 0 110 11=true:=by decide+kernel
theorem Ylc:KN 531441 524288 lnP 22 2 38=true:=by decide+kernel
theorem Yld:KN 531441 524288 lnP 22 40 19=true:=by decide+kernel
theorem Yle:KN 531441 524288 lnP 22 59 15=true:=by decide+kernel
theorem Ylf:KN 531441 524288 lnP 22 74 13=true:=by decide+kernel
theorem Ylg:KN 531441 524288 lnP 22 87 12=true:=by decide+kernel
theorem Ylh:KN 531441 524288 lnP 22 99 11=true:=by decide+kernel
theorem Ylb:KN 531441 524288 lnP 22 110 11=true:=by decide+kernel
theorem kP1:U7 531441 524288 (Kx 524288 7) (Kx 531441 7) lnP 1 38=true:=by decide+kernel
theorem smP:Y8 (524288^6) (2*pV)=true:=by decide+kernel
theorem snP:Y8 (531441^6) (2*pV)=true:=by decide+kernel
def lnS:Nat:=489472209957983291735245219298753880585732843641907564622064578644187778865281868174608672569437365931504815813762
theorem Ylj:KN 81 80 lnS 0 2 38=true:=by decide+kernel
theorem Ylk:KN 81 80 lnS 0 40 19=true:=by decide+kernel
theorem Yll:KN 81 80 lnS 0 59 15=true:=by decide+kernel
theorem Ylm:KN 81 80 lnS 0 74 13=true:=by decide+kernel
theorem Yln:KN 81 80 lnS 0 87 12=true:=by decide+kernel
theorem Ylo:KN 81 80 lnS 0 99 11=true:=by decide+kernel
theorem Yli:KN 81 80 lnS 0 110 11=true:=by decide+kernel
theorem Ylq:KN 81 80 lnS 22 2 38=true:=by decide+kernel
theorem Ylr:KN 81 80 lnS 22 40 19=true:=by decide+kernel
theorem Yls:KN 81 80 lnS 22 59 15=true:=by decide+kernel
theorem Ylt:KN 81 80 lnS 22 74 13=true:=by decide+kernel
theorem Ylu:KN 81 80 lnS 22 87 12=true:=by decide+kernel
theorem Ylv:KN 81 80 lnS 22 99 11=true:=by decide+kernel
theorem Ylp:KN 81 80 lnS 22 110 11=true:=by decide+kernel
theorem kS1:U7 81 80 (Kx 80 20) (Kx 81 20) lnS 1 25=true:=by decide+kernel
theorem smS:Y8 (80^19) (2*pV)=true:=by decide+kernel
theorem snS:Y8 (81^19) (2*pV)=true:=by decide+kernel
end Go.Proofs.YtlhmikjnholpnaaGreatDoor.LB
