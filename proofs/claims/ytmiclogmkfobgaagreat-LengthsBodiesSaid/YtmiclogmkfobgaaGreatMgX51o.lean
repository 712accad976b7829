/- Roots of 2 that no fraction with a small denominator is near: evaluated, part 4 (noasync). -/
import Derived.Test.YtmiclogmkfobgaaGreatMgX51n
set_option linter.all false
set_option maxRecDepth 100000
namespace Go.Proofs.YtmiclogmkfobgaaGreat.LB
def eg372:=zT 2185 1 (zT 2185 0 (zT 2183 2 (zT 2183 1 (zT 2183 0 (zT 2170 1 eg366)))))
def eg378:=zT 2214 1 (zT 2205 1 (zT 2204 1 (zT 2196 1 (zT 2193 1 (zT 2193 0 eg372)))))
def eg384:=zT 2244 0 (zT 2242 0 (zT 2240 0 (zT 2236 0 (zT 2233 1 (zT 2233 0 eg378)))))
def eg390:=zT 2257 1 (zT 2257 0 (zT 2256 0 (zT 2255 1 (zT 2255 0 (zT 2254 1 eg384)))))
def eg396:=zT 2301 1 (zT 2301 0 (zT 2296 1 (zT 2294 1 (zT 2280 0 (zT 2257 2 eg390)))))
def eg402:=zT 2322 1 (zT 2320 1 (zT 2318 1 (zT 2310 0 (zT 2303 1 (zT 2303 0 eg396)))))
def eg408:=zT 2352 0 (zT 2350 0 (zT 2340 1 (zT 2337 1 (zT 2337 0 (zT 2331 1 eg402)))))
def eg414:=zT 2368 2 (zT 2368 0 (zT 2365 1 (zT 2365 0 (zT 2360 0 (zT 2356 0 eg408)))))
def eg420:=zT 2394 0 (zT 2387 1 (zT 2387 0 (zT 2379 1 (zT 2379 0 (zT 2378 1 eg414)))))
def eg426:=zT 2419 1 (zT 2419 0 (zT 2418 0 (zT 2408 0 (zT 2397 1 (zT 2397 0 eg420)))))
def eg432:=zT 2451 0 (zT 2444 2 (zT 2444 0 (zT 2442 0 (zT 2440 0 (zT 2419 2 eg426)))))
def eg438:=zT 2496 1 (zT 2494 1 (zT 2480 1 (zT 2478 1 (zT 2460 0 (zT 2451 1 eg432)))))
def eg444:=zT 2530 1 (zT 2508 2 (zT 2501 2 (zT 2501 1 (zT 2501 0 (zT 2499 1 eg438)))))
def eg450:=zT 2548 0 (zT 2542 1 (zT 2538 1 (zT 2537 2 (zT 2537 1 (zT 2537 0 eg444)))))
def eg456:=zT 2585 1 (zT 2585 0 (zT 2583 1 (zT 2580 2 (zT 2562 1 (zT 2550 0 eg450)))))
def eg462:=zT 2623 0 (zT 2622 1 (zT 2610 0 (zT 2596 2 (zT 2590 2 (zT 2585 2 eg456)))))
def eg468:=zT 2646 0 (zT 2632 2 (zT 2632 0 (zT 2624 1 (zT 2623 2 (zT 2623 1 eg462)))))
def eg474:=zT 2679 1 (zT 2666 2 (zT 2666 0 (zT 2660 0 (zT 2655 1 (zT 2652 1 eg468)))))
def eg480:=zT 2706 0 (zT 2697 1 (zT 2697 0 (zT 2695 1 (zT 2684 2 (zT 2684 0 eg474)))))
def eg486:=zT 2745 0 (zT 2726 1 (zT 2714 2 (zT 2714 0 (zT 2709 1 (zT 2709 0 eg480)))))
def eg491:=zT 2755 2 (zT 2755 1 (zT 2755 0 (zT 2752 1 (zT 2745 2 eg486))))
end Go.Proofs.YtmiclogmkfobgaaGreat.LB
