/- Roots of 2 that no fraction with a small denominator is near: evaluated, part 5 (noasync). -/
import Derived.Test.YtmiclogmkfobgaaGreatMgX51o
set_option linter.all false
set_option maxRecDepth 100000
namespace Go.Proofs.YtmiclogmkfobgaaGreat.LB
def eg497:=zT 2793 1 (zT 2790 1 (zT 2773 2 (zT 2773 1 (zT 2773 0 (zT 2772 2 eg491)))))
def eg503:=zT 2820 2 (zT 2812 2 (zT 2812 0 (zT 2806 1 (zT 2805 2 (zT 2805 0 eg497)))))
def eg509:=zT 2849 2 (zT 2849 1 (zT 2849 0 (zT 2842 2 (zT 2838 2 (zT 2832 2 eg503)))))
def eg515:=zT 2867 2 (zT 2867 1 (zT 2867 0 (zT 2860 2 (zT 2856 2 (zT 2850 1 eg509)))))
def eg521:=zT 2898 1 (zT 2891 2 (zT 2891 1 (zT 2891 0 (zT 2880 0 (zT 2870 0 eg515)))))
def eg527:=zT 2945 1 (zT 2945 0 (zT 2940 0 (zT 2928 0 (zT 2926 0 (zT 2914 1 eg521)))))
def eg533:=zT 2961 1 (zT 2961 0 (zT 2960 1 (zT 2958 1 (zT 2950 1 (zT 2945 2 eg527)))))
def eg539:=zT 3008 0 (zT 2989 2 (zT 2989 1 (zT 2989 0 (zT 2970 0 (zT 2964 0 eg533)))))
def eg545:=zT 3038 1 (zT 3010 1 (zT 3009 2 (zT 3009 1 (zT 3009 0 (zT 3008 2 eg539)))))
def eg551:=zT 3111 0 (zT 3108 0 (zT 3080 0 (zT 3068 1 (zT 3050 2 (zT 3050 0 eg545)))))
def eg557:=zT 3136 0 (zT 3135 1 (zT 3116 2 (zT 3116 0 (zT 3111 2 (zT 3111 1 eg551)))))
def eg563:=zT 3172 0 (zT 3162 0 (zT 3157 2 (zT 3157 1 (zT 3150 2 (zT 3136 2 eg557)))))
def eg569:=zT 3219 1 (zT 3219 0 (zT 3192 1 (zT 3190 1 (zT 3186 1 (zT 3172 2 eg563)))))
def eg575:=zT 3268 0 (zT 3264 0 (zT 3245 2 (zT 3245 1 (zT 3245 0 (zT 3219 2 eg569)))))
def eg581:=zT 3304 2 (zT 3304 0 (zT 3294 0 (zT 3280 1 (zT 3276 1 (zT 3268 2 eg575)))))
def eg587:=zT 3355 1 (zT 3355 0 (zT 3311 2 (zT 3311 1 (zT 3311 0 (zT 3306 1 eg581)))))
def eg593:=zT 3410 3 (zT 3410 0 (zT 3363 2 (zT 3363 1 (zT 3363 0 (zT 3355 2 eg587)))))
def eg599:=zT 3441 1 (zT 3441 0 (zT 3440 2 (zT 3422 3 (zT 3422 1 (zT 3416 2 eg593)))))
def eg605:=zT 3477 1 (zT 3477 0 (zT 3465 2 (zT 3465 0 (zT 3444 0 (zT 3441 2 eg599)))))
def eg611:=zT 3538 3 (zT 3538 1 (zT 3534 2 (zT 3520 3 (zT 3520 0 (zT 3477 2 eg605)))))
def eg617:=zT 3599 0 (zT 3572 2 (zT 3572 0 (zT 3567 2 (zT 3567 1 (zT 3540 3 eg611)))))
def eg619:=zT 3599 2 (zT 3599 1 eg617)
end Go.Proofs.YtmiclogmkfobgaaGreat.LB
