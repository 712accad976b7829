/- Roots of 2 that no fraction with a small denominator is near: evaluated, part 1 (noasync). -/
import Derived.Test.YtmiclogmkfobgaaGreatMgX51k
set_option linter.all false
set_option maxRecDepth 100000
namespace Go.Proofs.YtmiclogmkfobgaaGreat.LB
def eg5:=zT 187 0 (zT 171 0 (zT 147 0 (zT 123 0 (zT 95 0 (zT 61 0 zS0)))))
def eg11:=zT 279 0 (zT 261 0 (zT 248 0 (zT 235 0 (zT 220 0 (zT 205 0 eg5)))))
def eg17:=zT 350 0 (zT 340 0 (zT 325 0 (zT 315 0 (zT 301 0 (zT 294 0 eg11)))))
def eg23:=zT 414 0 (zT 407 0 (zT 399 0 (zT 387 0 (zT 376 0 (zT 366 0 eg17)))))
def eg29:=zT 468 0 (zT 459 0 (zT 451 0 (zT 440 0 (zT 432 0 (zT 425 0 eg23)))))
def eg35:=zT 518 0 (zT 513 0 (zT 495 0 (zT 490 0 (zT 481 0 (zT 475 0 eg29)))))
def eg41:=zT 559 0 (zT 552 0 (zT 549 0 (zT 539 0 (zT 532 0 (zT 527 0 eg35)))))
def eg47:=zT 609 0 (zT 598 0 (zT 590 0 (zT 585 0 (zT 575 0 (zT 564 0 eg41)))))
def eg53:=zT 649 0 (zT 645 0 (zT 637 0 (zT 627 0 (zT 616 0 (zT 611 0 eg47)))))
def eg59:=zT 684 0 (zT 675 0 (zT 671 0 (zT 666 0 (zT 660 0 (zT 651 0 eg53)))))
def eg65:=zT 715 0 (zT 713 0 (zT 705 0 (zT 703 0 (zT 700 0 (zT 696 0 eg59)))))
def eg71:=zT 756 0 (zT 748 0 (zT 740 0 (zT 735 0 (zT 731 0 (zT 725 0 eg65)))))
def eg77:=zT 784 0 (zT 782 0 (zT 779 0 (zT 777 0 (zT 770 0 (zT 765 0 eg71)))))
def eg83:=zT 825 0 (zT 819 0 (zT 816 0 (zT 806 0 (zT 800 0 (zT 798 0 eg77)))))
def eg89:=zT 860 0 (zT 854 0 (zT 851 0 (zT 846 0 (zT 836 0 (zT 832 0 eg83)))))
def eg95:=zT 897 0 (zT 893 0 (zT 888 0 (zT 884 0 (zT 874 0 (zT 864 0 eg89)))))
def eg101:=zT 928 0 (zT 925 0 (zT 918 0 (zT 910 0 (zT 902 0 (zT 899 0 eg95)))))
def eg107:=zT 952 0 (zT 946 0 (zT 944 0 (zT 943 0 (zT 935 0 (zT 931 0 eg101)))))
def eg113:=zT 989 0 (zT 987 0 (zT 984 0 (zT 976 0 (zT 969 0 (zT 960 0 eg107)))))
def eg119:=zT 1015 0 (zT 1008 0 (zT 1003 0 (zT 1001 0 (zT 999 0 (zT 990 0 eg113)))))
end Go.Proofs.YtmiclogmkfobgaaGreat.LB
