/- Roots of 2 that no fraction with a small denominator is near: evaluated, part 2 (noasync). -/
import Derived.Test.YtmiclogmkfobgaaGreatMgX51l
set_option linter.all false
set_option maxRecDepth 100000
namespace Go.Proofs.YtmiclogmkfobgaaGreat.LB
def eg125:=zT 1037 0 (zT 1036 0 (zT 1034 0 (zT 1026 0 (zT 1025 0 (zT 1023 0 eg119)))))
def eg131:=zT 1075 0 (zT 1073 0 (zT 1066 0 (zT 1062 0 (zT 1050 0 (zT 1044 0 eg125)))))
def eg137:=zT 1102 0 (zT 1098 0 (zT 1088 0 (zT 1085 0 (zT 1081 0 (zT 1078 0 eg131)))))
def eg143:=zT 1127 0 (zT 1122 0 (zT 1121 0 (zT 1120 0 (zT 1116 0 (zT 1107 0 eg137)))))
def eg149:=zT 1159 0 (zT 1155 0 (zT 1148 0 (zT 1147 0 (zT 1140 0 (zT 1128 0 eg143)))))
def eg155:=zT 1188 0 (zT 1180 0 (zT 1176 0 (zT 1175 0 (zT 1161 1 (zT 1160 0 eg149)))))
def eg161:=zT 1220 0 (zT 1209 1 (zT 1204 0 (zT 1197 0 (zT 1189 1 (zT 1189 0 eg155)))))
def eg167:=zT 1247 0 (zT 1240 1 (zT 1239 0 (zT 1230 1 (zT 1225 0 (zT 1221 1 eg161)))))
def eg173:=zT 1271 1 (zT 1271 0 (zT 1269 0 (zT 1265 0 (zT 1258 0 (zT 1247 1 eg167)))))
def eg179:=zT 1302 0 (zT 1298 0 (zT 1295 0 (zT 1288 0 (zT 1276 1 (zT 1275 0 eg173)))))
def eg185:=zT 1333 0 (zT 1332 0 (zT 1323 1 (zT 1316 1 (zT 1312 0 (zT 1311 0 eg179)))))
def eg191:=zT 1357 1 (zT 1357 0 (zT 1353 1 (zT 1350 0 (zT 1342 0 (zT 1333 1 eg185)))))
def eg197:=zT 1395 0 (zT 1392 0 (zT 1376 1 (zT 1365 0 (zT 1363 1 (zT 1363 0 eg191)))))
def eg203:=zT 1421 1 (zT 1419 1 (zT 1416 0 (zT 1406 0 (zT 1403 1 (zT 1400 1 eg197)))))
def eg209:=zT 1450 0 (zT 1443 1 (zT 1440 0 (zT 1435 0 (zT 1430 0 (zT 1426 0 eg203)))))
def eg215:=zT 1475 0 (zT 1470 1 (zT 1463 1 (zT 1462 1 (zT 1457 1 (zT 1457 0 eg209)))))
def eg221:=zT 1505 0 (zT 1488 1 (zT 1485 0 (zT 1480 0 (zT 1479 0 (zT 1475 1 eg215)))))
def eg227:=zT 1525 0 (zT 1519 1 (zT 1519 0 (zT 1517 1 (zT 1512 1 (zT 1508 0 eg221)))))
def eg233:=zT 1558 0 (zT 1551 1 (zT 1550 1 (zT 1540 1 (zT 1534 0 (zT 1525 1 eg227)))))
def eg239:=zT 1591 1 (zT 1591 0 (zT 1586 0 (zT 1581 0 (zT 1568 1 (zT 1560 1 eg233)))))
def eg241:=zT 1595 0 (zT 1593 0 eg239)
end Go.Proofs.YtmiclogmkfobgaaGreat.LB
