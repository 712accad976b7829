/- Roots of 2 that no fraction with a small denominator is near: evaluated, part 6 (noasync). -/
import Derived.Test.YtmiclogmkfobgaaGreatMgX51p
set_option linter.all false
set_option maxRecDepth 100000
namespace Go.Proofs.YtmiclogmkfobgaaGreat.LB
def eg625:=zT 3658 2 (zT 3658 0 (zT 3654 0 (zT 3648 1 (zT 3612 1 (zT 3599 3 eg619)))))
def eg631:=zT 3776 2 (zT 3776 0 (zT 3717 2 (zT 3717 1 (zT 3717 0 (zT 3660 1 eg625)))))
def eg637:=zT 3813 3 (zT 3813 2 (zT 3813 1 (zT 3813 0 (zT 3782 2 (zT 3782 0 eg631)))))
def eg643:=zT 3904 3 (zT 3904 1 (zT 3894 3 (zT 3894 0 (zT 3843 2 (zT 3843 1 eg637)))))
def eg649:=zT 4130 0 (zT 4032 1 (zT 4026 2 (zT 3990 2 (zT 3948 2 (zT 3906 2 eg643)))))
def eg655:=zT 4484 0 (zT 4466 2 (zT 4270 4 (zT 4270 1 (zT 4180 2 (zT 4130 3 eg649)))))
def eg661:=zT 4543 4 (zT 4543 3 (zT 4543 2 (zT 4543 1 (zT 4484 4 (zT 4484 2 eg655)))))
def eg667:=zT 4697 2 (zT 4697 1 (zT 4697 0 (zT 4636 3 (zT 4636 1 (zT 4620 3 eg661)))))
def eg673:=zT 4774 3 (zT 4774 1 (zT 4720 3 (zT 4720 1 (zT 4697 4 (zT 4697 3 eg667)))))
def eg679:=zT 4956 1 (zT 4880 3 (zT 4880 1 (zT 4785 4 (zT 4785 2 (zT 4785 0 eg673)))))
def eg685:=zT 5133 0 (zT 5124 3 (zT 5124 0 (zT 5115 3 (zT 5115 1 (zT 4956 4 eg679)))))
def eg691:=zT 5307 1 (zT 5307 0 (zT 5133 4 (zT 5133 3 (zT 5133 2 (zT 5133 1 eg685)))))
def eg697:=zT 5487 2 (zT 5487 1 (zT 5487 0 (zT 5307 4 (zT 5307 3 (zT 5307 2 eg691)))))
def eg703:=zT 5605 3 (zT 5605 2 (zT 5605 1 (zT 5605 0 (zT 5487 4 (zT 5487 3 eg697)))))
def eg709:=zT 5673 4 (zT 5673 3 (zT 5673 2 (zT 5673 1 (zT 5605 5 (zT 5605 4 eg703)))))
def eg715:=zT 5795 5 (zT 5795 4 (zT 5795 3 (zT 5795 2 (zT 5795 1 (zT 5795 0 eg709)))))
def eg721:=zT 7198 1 (zT 6710 6 (zT 6710 3 (zT 6710 0 (zT 6490 4 (zT 6490 1 eg715)))))
def eg727:=zT 10797 3 (zT 10797 2 (zT 10797 1 (zT 10797 0 (zT 7198 5 (zT 7198 3 eg721)))))
def eg733:=zT 10797 9 (zT 10797 8 (zT 10797 7 (zT 10797 6 (zT 10797 5 (zT 10797 4 eg727)))))
def eg739:=zT 17995 4 (zT 17995 3 (zT 17995 2 (zT 17995 1 (zT 17995 0 (zT 10797 10 eg733)))))
def eg745:=zT 17995 10 (zT 17995 9 (zT 17995 8 (zT 17995 7 (zT 17995 6 (zT 17995 5 eg739)))))
def eg751:=zT 17995 16 (zT 17995 15 (zT 17995 14 (zT 17995 13 (zT 17995 12 (zT 17995 11 eg745)))))
def eg753:=zT 18001 0 (zT 17995 17 eg751)
end Go.Proofs.YtmiclogmkfobgaaGreat.LB
