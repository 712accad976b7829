/- Roots of 2 that no fraction with a small denominator is near: evaluated, part 3 (noasync). -/
import Derived.Test.YtmiclogmkfobgaaGreatMgX51m
set_option linter.all false
set_option maxRecDepth 100000
namespace Go.Proofs.YtmiclogmkfobgaaGreat.LB
def eg247:=zT 1617 0 (zT 1610 1 (zT 1600 0 (zT 1599 0 (zT 1598 0 (zT 1595 1 eg241)))))
def eg253:=zT 1645 1 (zT 1645 0 (zT 1638 0 (zT 1632 1 (zT 1628 0 (zT 1624 0 eg247)))))
def eg259:=zT 1674 1 (zT 1666 0 (zT 1665 0 (zT 1653 0 (zT 1652 0 (zT 1647 1 eg253)))))
def eg265:=zT 1711 0 (zT 1708 1 (zT 1705 1 (zT 1702 1 (zT 1692 0 (zT 1677 1 eg259)))))
def eg271:=zT 1739 1 (zT 1739 0 (zT 1736 0 (zT 1722 0 (zT 1716 1 (zT 1711 1 eg265)))))
def eg277:=zT 1767 1 (zT 1764 1 (zT 1763 1 (zT 1763 0 (zT 1760 0 (zT 1740 1 eg271)))))
def eg283:=zT 1786 0 (zT 1776 1 (zT 1771 1 (zT 1770 1 (zT 1769 1 (zT 1769 0 eg277)))))
def eg289:=zT 1820 1 (zT 1813 1 (zT 1813 0 (zT 1804 1 (zT 1798 1 (zT 1794 0 eg283)))))
def eg295:=zT 1845 1 (zT 1833 1 (zT 1830 1 (zT 1829 1 (zT 1829 0 (zT 1827 0 eg289)))))
def eg301:=zT 1885 0 (zT 1880 0 (zT 1862 1 (zT 1860 0 (zT 1856 0 (zT 1850 0 eg295)))))
def eg307:=zT 1891 1 (zT 1891 0 (zT 1888 1 (zT 1887 1 (zT 1886 1 (zT 1885 1 eg301)))))
def eg313:=zT 1927 1 (zT 1927 0 (zT 1924 1 (zT 1914 0 (zT 1911 0 (zT 1892 0 eg307)))))
def eg319:=zT 1953 0 (zT 1952 0 (zT 1947 1 (zT 1947 0 (zT 1935 1 (zT 1932 0 eg313)))))
def eg325:=zT 1995 1 (zT 1984 1 (zT 1980 0 (zT 1978 0 (zT 1968 1 (zT 1960 0 eg319)))))
def eg331:=zT 2013 1 (zT 2013 0 (zT 2009 1 (zT 2009 0 (zT 2006 0 (zT 2002 0 eg325)))))
def eg337:=zT 2030 0 (zT 2021 1 (zT 2021 0 (zT 2016 1 (zT 2015 1 (zT 2015 0 eg331)))))
def eg343:=zT 2065 0 (zT 2064 0 (zT 2050 0 (zT 2040 1 (zT 2035 1 (zT 2035 0 eg337)))))
def eg349:=zT 2090 1 (zT 2074 1 (zT 2072 1 (zT 2070 0 (zT 2068 0 (zT 2065 1 eg343)))))
def eg355:=zT 2112 1 (zT 2109 1 (zT 2109 0 (zT 2107 1 (zT 2107 0 (zT 2091 1 eg349)))))
def eg361:=zT 2142 1 (zT 2135 1 (zT 2135 0 (zT 2132 1 (zT 2124 1 (zT 2115 1 eg355)))))
def eg366:=zT 2162 1 (zT 2156 1 (zT 2150 1 (zT 2146 1 (zT 2145 1 eg361))))
end Go.Proofs.YtmiclogmkfobgaaGreat.LB
