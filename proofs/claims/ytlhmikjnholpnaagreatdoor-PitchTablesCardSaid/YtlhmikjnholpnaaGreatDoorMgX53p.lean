/- noasync. Roots of 2 of the order 600000: the table. -/
import Derived.Test.YtlhmikjnholpnaaGreatDoorMgX53o
set_option linter.all false
set_option maxRecDepth 100000
namespace Go.Proofs.YtlhmikjnholpnaaGreatDoor.LB
theorem Ygg:Dz 600000=true:=by decide+kernel
theorem dP1:dP 1:=dPS dP0 (by decide+kernel)
theorem dP2:dP 2:=dPS dP1 (by decide+kernel)
theorem dP3:dP 3:=dPS dP2 (by decide+kernel)
theorem dP4:dP 4:=dPS dP3 (by decide+kernel)
theorem dP5:dP 5:=dPS dP4 (by decide+kernel)
theorem dP6:dP 6:=dPS dP5 (by decide+kernel)
theorem dP7:dP 7:=dPS dP6 (by decide+kernel)
theorem dP8:dP 8:=dPS dP7 (by decide+kernel)
theorem dP9:dP 9:=dPS dP8 (by decide+kernel)
theorem dP10:dP 10:=dPS dP9 (by decide+kernel)
theorem dP11:dP 11:=dPS dP10 (by decide+kernel)
theorem dP12:dP 12:=dPS dP11 (by decide+kernel)
theorem dP13:dP 13:=dPS dP12 (by decide+kernel)
theorem dP14:dP 14:=dPS dP13 (by decide+kernel)
theorem dP15:dP 15:=dPS dP14 (by decide+kernel)
theorem dP16:dP 16:=dPS dP15 (by decide+kernel)
theorem dP17:dP 17:=dPS dP16 (by decide+kernel)
theorem dP18:dP 18:=dPS dP17 (by decide+kernel)
theorem dP19:dP 19:=dPS dP18 (by decide+kernel)
theorem dP20:dP 20:=dPS dP19 (by decide+kernel)
theorem dP21:dP 21:=dPS dP20 (by decide+kernel)
theorem dP22:dP 22:=dPS dP21 (by decide+kernel)
theorem dP23:dP 23:=dPS dP22 (by decide+kernel)
theorem dP24:dP 24:=dPS dP23 (by decide+kernel)
theorem dP25:dP 25:=dPS dP24 (by decide+kernel)
theorem dP26:dP 26:=dPS dP25 (by decide+kernel)
theorem dP27:dP 27:=dPS dP26 (by decide+kernel)
end Go.Proofs.YtlhmikjnholpnaaGreatDoor.LB
