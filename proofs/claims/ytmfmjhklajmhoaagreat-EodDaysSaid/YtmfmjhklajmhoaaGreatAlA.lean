/- complinelaw27.alive: states, part 0. -/
import Derived.Test.YtmfmjhklajmhoaaGreatBb
namespace Go.Proofs.YtmfmjhklajmhoaaGreat
open Go Gv Gv.Lt
noncomputable def All0 : List (Nat × B) := []
noncomputable def All1 : List (Nat × B) := [C 0 1 1 true [ns],
C 1 2 2 true [p 0 0, ns],
C 2 1 1 true [m 3],
M 3 [] [] 0,
C 6 4 4 true [p 2 0, m 139, m 153, m 184],
C 7 1 1 true [nm],
C 8 3 3 true [p 7 0, nm, nm],
C 9 1 1 true [ns],
C 10 1 1 true [nm],
C 11 6 6 true [p 6 0, p 8 0, p 9 0, p 1 0, p 10 0, i 0],
C 12 2 2 true [ns, ns],
C 15 4 4 true [ns, r 105 4 4, r 106 7 7, r 138 5 5],
C 16 4 4 true [ns, ns, ns, ns],
C 17 1 1 true [ns],
C 18 1 1 true [ns],
C 19 6 6 true [p 15 0, p 16 0, p 17 0, p 12 0, p 18 0, i 0],
C 105 8 2 false [s 4 0x4b4e4142, i 0, s 1 0x50, i 1000, s 1 0x51, i 100, s 1 0x52, i 0],
C 106 14 2 false [s 4 0x4b4e4142, s 4 0x4b4e4142, s 2 0x4150, s 1 0x50, s 2 0x4250, s 1 0x50, s 2 0x4151, s 1 0x51, s 2 0x4251, s 1 0x51, s 2 0x4152, s 1 0x52, s 2 0x4252, s 1 0x52],
C 138 40 8 false [s 3 0x525545, b true, b false, i 1, i 1, i 0, i 0, i 2, s 3 0x445355, b true, b false, i 1, i 1, i 0, i 0, i 0, s 1 0x58, b false, b true, i 1, i 1, i 10, i 1000, i 0, s 1 0x59, b false, b true, i 10, i 20, i 3, i 5000, i 0, s 1 0x5a, b false, b false, i 5, i 10, i 7, i 0, i 0],
M 139 [(s 4 0x4b4e4142, a [s 4 0x4b4e4142, i 0]), (s 1 0x50, a [s 1 0x50, i 1000]), (s 1 0x51, a [s 1 0x51, i 100]), (s 1 0x52, a [s 1 0x52, i 0])] [0, 1, 2, 3] 4,
M 153 [(s 4 0x4b4e4142, a [s 4 0x4b4e4142, s 4 0x4b4e4142]), (s 2 0x4150, a [s 2 0x4150, s 1 0x50]), (s 2 0x4250, a [s 2 0x4250, s 1 0x50]), (s 2 0x4151, a [s 2 0x4151, s 1 0x51]), (s 2 0x4251, a [s 2 0x4251, s 1 0x51]), (s 2 0x4152, a [s 2 0x4152, s 1 0x52]), (s 2 0x4252, a [s 2 0x4252, s 1 0x52])] [0, 1, 2, 3, 4, 5, 6] 7,
M 184 [(s 1 0x58, a [s 1 0x58, b false, b true, i 1, i 1, i 10, i 1000, i 0]), (s 1 0x59, a [s 1 0x59, b false, b true, i 10, i 20, i 3, i 5000, i 0]), (s 1 0x5a, a [s 1 0x5a, b false, b false, i 5, i 10, i 7, i 0, i 0]), (s 3 0x525545, a [s 3 0x525545, b true, b false, i 1, i 1, i 0, i 0, i 2]), (s 3 0x445355, a [s 3 0x445355, b true, b false, i 1, i 1, i 0, i 0, i 0])] [0, 1, 2, 3, 4] 5]
noncomputable def All2 : List (Nat × B) := ov [C 210 154 22 true [i 19, i 0, i 0, s 1 0x50, s 2 0x4150, s 2 0x4250, s 1 0x51, b true, s 1 0x58, s 3 0x525545, s 0 0, i 50, i 100, i 0, i 0, b false, b false, s 0 0, s 0 0, s 0 0, ns, ns, i 8, i 0, i 0, s 0 0, s 0 0, s 0 0, s 0 0, b false, s 0 0, s 0 0, s 0 0, i 0, i 0, i 0, i 0, b false, b false, s 0 0, s 0 0, s 0 0, ns, ns, i 9, i 50, i 0, s 0 0, s 0 0, s 0 0, s 0 0, b false, s 0 0, s 0 0, s 0 0, i 0, i 0, i 0, i 0, b false, b false, s 0 0, s 2 0x4150, s 1 0x58, ns, ns, i 9, i 1000, i 0, s 0 0, s 0 0, s 0 0, s 0 0, b false, s 0 0, s 0 0, s 0 0, i 0, i 0, i 0, i 0, b false, b false, s 0 0, s 2 0x4251, s 1 0x59, ns, ns, i 9, i 40, i 0, s 0 0, s 0 0, s 0 0, s 0 0, b false, s 0 0, s 0 0, s 0 0, i 0, i 0, i 0, i 0, b false, b false, s 0 0, s 2 0x4251, s 3 0x525545, ns, ns, i 9, i 10000, i 0, s 0 0, s 0 0, s 0 0, s 0 0, b false, s 0 0, s 0 0, s 0 0, i 0, i 0, i 0, i 0, b false, b false, s 0 0, s 4 0x4b4e4142, s 3 0x525545, ns, ns, i 13, i 1000, i 0, s 0 0, s 0 0, s 0 0, s 0 0, b false, s 0 0, s 0 0, s 0 0, i 0, i 0, i 0, i 0, b false, b false, s 1 0x51, s 0 0, s 0 0, ns, ns]] [] All1
noncomputable def All3 : List (Nat × B) := ov [C 0 1 1 true [r 295 2 2],
C 9 1 1 true [r 293 2 2],
C 12 2 2 true [r 316 2 2, ns],
C 17 1 1 true [r 313 2 2],
C 293 42 21 false [i 1, s 1 0x50, s 2 0x4150, s 2 0x4250, s 1 0x51, b true, s 1 0x58, s 3 0x525545, s 0 0, i 50, i 100, i 0, i 0, i 2, b false, b false, b false, i 0, i 0, i 0, i 0, i 2, s 1 0x51, s 2 0x4151, s 2 0x4251, s 1 0x50, b false, s 1 0x58, s 3 0x525545, s 0 0, i 50, i 100, i 0, i 0, i 1, b false, b false, b false, i 0, i 0, i 0, i 0],
C 295 2 1 false [i 1, i 2],
C 313 42 21 false [i 1, s 1 0x50, s 2 0x4150, s 2 0x4250, s 1 0x51, b true, s 1 0x58, s 3 0x525545, s 0 0, i 50, i 100, i 0, i 0, i 2, b false, b false, b false, i 0, i 0, i 0, i 0, i 2, s 1 0x51, s 2 0x4151, s 2 0x4251, s 1 0x50, b false, s 1 0x58, s 3 0x525545, s 0 0, i 50, i 100, i 0, i 0, i 1, b false, b false, b false, i 0, i 0, i 0, i 0],
C 316 2 1 false [i 1, i 2]] [0, 9, 12, 17] All2
noncomputable def All4 : List (Nat × B) := ov [C 17 1 1 true [r 463 2 2],
C 19 6 6 true [p 15 0, p 16 0, p 17 0, p 444 0, p 18 0, i 0],
C 293 42 21 false [i 1, s 1 0x50, s 2 0x4150, s 2 0x4250, s 1 0x51, b true, s 1 0x58, s 3 0x525545, s 0 0, i 50, i 100, i 0, i 0, i 2, b false, b false, b false, i 1, i 2, i 0, i 0, i 2, s 1 0x51, s 2 0x4151, s 2 0x4251, s 1 0x50, b false, s 1 0x58, s 3 0x525545, s 0 0, i 50, i 100, i 0, i 0, i 1, b false, b false, b false, i 1, i 1, i 0, i 0],
C 295 2 1 false [i 1, i 1],
C 444 2 2 true [r 446 2 2, ns],
C 446 2 1 false [i 1, i 1],
C 463 42 21 false [i 1, s 1 0x50, s 2 0x4150, s 2 0x4250, s 1 0x51, b true, s 1 0x58, s 3 0x525545, s 0 0, i 50, i 100, i 0, i 0, i 2, b false, b false, b false, i 1, i 2, i 0, i 0, i 2, s 1 0x51, s 2 0x4151, s 2 0x4251, s 1 0x50, b false, s 1 0x58, s 3 0x525545, s 0 0, i 50, i 100, i 0, i 0, i 1, b false, b false, b false, i 1, i 1, i 0, i 0]] [17, 19, 293, 295] All3
noncomputable def All5 : List (Nat × B) := ov [C 7 1 1 true [m 472],
C 8 3 3 true [p 7 0, m 473, nm],
C 16 4 4 true [r 480 1 1, ns, r 482 1 1, r 484 1 1],
M 472 [(a [s 2 0x4150, s 1 0x58], a [i 50, i 0, i 0])] [0] 1,
M 473 [(s 1 0x58, i 50)] [0] 1,
C 480 5 5 false [s 2 0x4150, s 1 0x58, i 50, i 0, i 0],
C 482 1 1 false [s 1 0x58],
C 484 1 1 false [i 50]] [7, 8, 16] All4
noncomputable def All6 : List (Nat × B) := ov [C 16 4 4 true [r 501 2 2, ns, r 505 2 2, r 509 2 2],
M 472 [(a [s 2 0x4150, s 1 0x58], a [i 50, i 0, i 0]), (a [s 2 0x4251, s 1 0x59], a [i 1000, i 0, i 0])] [0, 1] 2,
M 473 [(s 1 0x58, i 50), (s 1 0x59, i 1000)] [0, 1] 2,
C 501 10 5 false [s 2 0x4150, s 1 0x58, i 50, i 0, i 0, s 2 0x4251, s 1 0x59, i 1000, i 0, i 0],
C 505 2 1 false [s 1 0x58, s 1 0x59],
C 509 2 1 false [i 50, i 1000]] [16, 472, 473] All5
noncomputable def All7 : List (Nat × B) := ov [C 16 4 4 true [r 530 3 3, ns, r 533 3 3, r 536 3 3],
M 472 [(a [s 2 0x4150, s 1 0x58], a [i 50, i 0, i 0]), (a [s 2 0x4251, s 1 0x59], a [i 1000, i 0, i 0]), (a [s 2 0x4251, s 3 0x525545], a [i 40, i 0, i 0])] [0, 1, 2] 3,
M 473 [(s 1 0x58, i 50), (s 1 0x59, i 1000), (s 3 0x525545, i 40)] [0, 1, 2] 3,
C 530 15 5 false [s 2 0x4150, s 1 0x58, i 50, i 0, i 0, s 2 0x4251, s 3 0x525545, i 40, i 0, i 0, s 2 0x4251, s 1 0x59, i 1000, i 0, i 0],
C 533 3 1 false [s 3 0x525545, s 1 0x58, s 1 0x59],
C 536 3 1 false [i 40, i 50, i 1000]] [16, 472, 473] All6
noncomputable def All8 : List (Nat × B) := ov [C 16 4 4 true [r 553 4 4, ns, r 533 3 3, r 554 3 3],
M 472 [(a [s 2 0x4150, s 1 0x58], a [i 50, i 0, i 0]), (a [s 2 0x4251, s 1 0x59], a [i 1000, i 0, i 0]), (a [s 2 0x4251, s 3 0x525545], a [i 40, i 0, i 0]), (a [s 4 0x4b4e4142, s 3 0x525545], a [i 10000, i 0, i 0])] [0, 1, 2, 3] 4,
M 473 [(s 1 0x58, i 50), (s 1 0x59, i 1000), (s 3 0x525545, i 10040)] [0, 1, 2] 3,
C 553 20 5 false [s 4 0x4b4e4142, s 3 0x525545, i 10000, i 0, i 0, s 2 0x4150, s 1 0x58, i 50, i 0, i 0, s 2 0x4251, s 3 0x525545, i 40, i 0, i 0, s 2 0x4251, s 1 0x59, i 1000, i 0, i 0],
C 554 3 1 false [i 10040, i 50, i 1000]] [16, 472, 473] All7
noncomputable def All9 : List (Nat × B) := ov [C 15 4 4 true [ns, r 557 4 4, r 106 7 7, r 138 5 5],
M 139 [(s 4 0x4b4e4142, a [s 4 0x4b4e4142, i 0]), (s 1 0x50, a [s 1 0x50, i 1000]), (s 1 0x51, a [s 1 0x51, i 1000]), (s 1 0x52, a [s 1 0x52, i 0])] [0, 1, 2, 3] 4,
C 557 8 2 false [s 4 0x4b4e4142, i 0, s 1 0x50, i 1000, s 1 0x51, i 1000, s 1 0x52, i 0]] [15, 139] All8
noncomputable def All10 : List (Nat × B) := ov [C 558 9 9 true [p 11 0, b false, b true, i 1, m 559, m 560, b false, b false, b false],
M 559 [] [] 0,
M 560 [] [] 0] [] All9
noncomputable def All11 : List (Nat × B) := ov [C 10 1 1 true [m 2587],
C 293 42 21 false [i 1, s 1 0x50, s 2 0x4150, s 2 0x4250, s 1 0x51, b true, s 1 0x58, s 3 0x525545, s 0 0, i 50, i 100, i 0, i 0, i 2, b false, b false, b false, i 3, i 2, i 50, i 100, i 2, s 1 0x51, s 2 0x4151, s 2 0x4251, s 1 0x50, b false, s 1 0x58, s 3 0x525545, s 0 0, i 50, i 100, i 0, i 0, i 1, b false, b false, b false, i 3, i 1, i 50, i 100],
M 472 [(a [s 2 0x4251, s 1 0x59], a [i 960, i 0, i 40]), (a [s 4 0x4b4e4142, s 3 0x525545], a [i 9940, i 0, i 0]), (a [s 2 0x4250, s 3 0x525545], a [i 100, i 0, i 0]), (a [s 2 0x4151, s 1 0x58], a [i 50, i 0, i 0])] [1, 3, 4, 5] 6,
C 558 9 9 true [p 11 0, b false, b true, i 1, m 559, m 560, b false, b true, b false],
M 559 [(i 1, a [])] [0] 1,
C 1604 2 2 false [i 1, i 50],
C 1914 2 2 false [s 1 0x59, i 40],
C 1916 4 4 false [s 2 0x4251, s 3 0x525545, i 60, r 1914 1 1],
M 2587 [(a [s 2 0x4251, s 3 0x525545], a [s 1 0x51, s 2 0x4251, s 3 0x525545, i 60, r 2596 1 1])] [0] 1,
C 2596 2 2 false [s 1 0x59, i 40]] [10, 293, 472, 558, 559] All10
noncomputable def All12 : List (Nat × B) := ov [C 2597 2 2 true [r 1604 1 1, r 1916 1 1],
C 2598 2 2 true [r 1604 1 1, r 1916 1 1],
C 2599 2 2 false [r 1604 1 1, r 1916 1 1]] [] All11
noncomputable def All13 : List (Nat × B) := ov [C 558 9 9 true [p 11 0, b false, b true, i 2, m 4625, m 4626, b true, b false, b true],
M 4625 [] [] 0,
M 4626 [] [] 0] [558] All12
noncomputable def All14 : List (Nat × B) := ov [C 10 1 1 true [m 2587],
C 293 42 21 false [i 1, s 1 0x50, s 2 0x4150, s 2 0x4250, s 1 0x51, b true, s 1 0x58, s 3 0x525545, s 0 0, i 50, i 100, i 0, i 0, i 2, b false, b false, b false, i 3, i 2, i 50, i 100, i 2, s 1 0x51, s 2 0x4151, s 2 0x4251, s 1 0x50, b false, s 1 0x58, s 3 0x525545, s 0 0, i 50, i 100, i 0, i 0, i 1, b false, b false, b false, i 3, i 1, i 50, i 100],
M 472 [(a [s 2 0x4251, s 1 0x59], a [i 960, i 0, i 40]), (a [s 4 0x4b4e4142, s 3 0x525545], a [i 9940, i 0, i 0]), (a [s 2 0x4250, s 3 0x525545], a [i 100, i 0, i 0]), (a [s 2 0x4151, s 1 0x58], a [i 50, i 0, i 0])] [1, 3, 4, 5] 6,
C 558 9 9 true [p 11 0, b false, b true, i 2, m 4625, m 4626, b true, b false, b true],
M 559 [(i 1, a [])] [0] 1,
C 1604 2 2 false [i 1, i 50],
C 1914 2 2 false [s 1 0x59, i 40],
C 1916 4 4 false [s 2 0x4251, s 3 0x525545, i 60, r 1914 1 1],
M 2587 [(a [s 2 0x4251, s 3 0x525545], a [s 1 0x51, s 2 0x4251, s 3 0x525545, i 60, r 2596 1 1])] [0] 1,
C 2596 2 2 false [s 1 0x59, i 40],
C 2599 2 2 false [r 1604 1 1, r 1916 1 1],
M 4625 [] [] 0,
M 4626 [] [] 0] [10, 293, 472, 558, 559] All10
noncomputable def All15 : List (Nat × B) := ov [C 6652 8 8 true [p 19 0, b false, b true, b false, b false, i 1, i 1, ns]] [] All14
noncomputable def All16 : List (Nat × B) := ov [C 6653 2 2 true [ns, ns]] [] All15
noncomputable def All17 : List (Nat × B) := ov [C 6654 2 2 true [ns, ns]] [] All16
noncomputable def All18 : List (Nat × B) := ov [C 6652 8 8 true [p 19 0, b false, b true, b false, b false, i 1, i 1, r 6689 1 1],
C 6655 2 2 true [ns, ns],
C 6656 21 21 true [i 1, s 1 0x50, s 2 0x4150, s 2 0x4250, s 1 0x51, b true, s 1 0x58, s 3 0x525545, s 0 0, i 50, i 100, i 0, i 0, i 2, b false, b false, b false, i 1, i 2, i 0, i 0],
C 6657 21 21 true [i 1, s 1 0x50, s 2 0x4150, s 2 0x4250, s 1 0x51, b true, s 1 0x58, s 3 0x525545, s 0 0, i 50, i 100, i 0, i 0, i 2, b false, b false, b false, i 1, i 2, i 0, i 0],
C 6658 21 21 true [i 2, s 1 0x51, s 2 0x4151, s 2 0x4251, s 1 0x50, b false, s 1 0x58, s 3 0x525545, s 0 0, i 50, i 100, i 0, i 0, i 1, b false, b false, b false, i 1, i 1, i 0, i 0],
C 6659 21 21 true [i 2, s 1 0x51, s 2 0x4151, s 2 0x4251, s 1 0x50, b false, s 1 0x58, s 3 0x525545, s 0 0, i 50, i 100, i 0, i 0, i 1, b false, b false, b false, i 1, i 1, i 0, i 0],
C 6660 21 21 true [i 1, s 1 0x50, s 2 0x4150, s 2 0x4250, s 1 0x51, b true, s 1 0x58, s 3 0x525545, s 0 0, i 50, i 100, i 0, i 0, i 2, b false, b false, b false, i 1, i 2, i 0, i 0],
C 6661 21 21 false [i 1, s 1 0x50, s 2 0x4150, s 2 0x4250, s 1 0x51, b true, s 1 0x58, s 3 0x525545, s 0 0, i 50, i 100, i 0, i 0, i 2, b false, b false, b false, i 1, i 2, i 0, i 0],
C 6662 21 21 true [i 1, s 1 0x50, s 2 0x4150, s 2 0x4250, s 1 0x51, b true, s 1 0x58, s 3 0x525545, s 0 0, i 50, i 100, i 0, i 0, i 2, b false, b false, b false, i 1, i 2, i 0, i 0],
C 6663 21 21 false [i 1, s 1 0x50, s 2 0x4150, s 2 0x4250, s 1 0x51, b true, s 1 0x58, s 3 0x525545, s 0 0, i 50, i 100, i 0, i 0, i 2, b false, b false, b false, i 1, i 2, i 0, i 0],
C 6664 1 1 true [i 1],
C 6665 1 1 true [i 1],
C 6667 1 1 true [i 2],
C 6668 2 1 false [i 1, i 2],
C 6669 21 21 true [i 1, s 1 0x50, s 2 0x4150, s 2 0x4250, s 1 0x51, b true, s 1 0x58, s 3 0x525545, s 0 0, i 50, i 100, i 0, i 0, i 2, b false, b false, b false, i 1, i 2, i 0, i 0],
C 6670 21 21 true [i 1, s 1 0x50, s 2 0x4150, s 2 0x4250, s 1 0x51, b true, s 1 0x58, s 3 0x525545, s 0 0, i 50, i 100, i 0, i 0, i 2, b false, b false, b false, i 1, i 2, i 0, i 0],
C 6671 1 1 true [i 1],
C 6672 1 1 false [i 1],
C 6673 21 21 true [i 1, s 1 0x50, s 2 0x4150, s 2 0x4250, s 1 0x51, b true, s 1 0x58, s 3 0x525545, s 0 0, i 50, i 100, i 0, i 0, i 2, b false, b false, b false, i 1, i 2, i 0, i 0],
C 6674 21 21 false [i 1, s 1 0x50, s 2 0x4150, s 2 0x4250, s 1 0x51, b true, s 1 0x58, s 3 0x525545, s 0 0, i 50, i 100, i 0, i 0, i 2, b false, b false, b false, i 1, i 2, i 0, i 0],
C 6675 1 1 true [i 1],
C 6676 1 1 false [i 1],
C 6677 21 21 true [i 0, s 0 0, s 0 0, s 0 0, s 0 0, b false, s 0 0, s 0 0, s 0 0, i 0, i 0, i 0, i 0, i 0, b false, b false, b false, i 0, i 0, i 0, i 0],
C 6678 21 21 true [i 0, s 0 0, s 0 0, s 0 0, s 0 0, b false, s 0 0, s 0 0, s 0 0, i 0, i 0, i 0, i 0, i 0, b false, b false, b false, i 0, i 0, i 0, i 0],
C 6679 3 3 true [i 2, i 0, i 1],
C 6680 3 3 true [i 2, i 0, i 1],
C 6681 3 3 true [i 2, i 0, i 1],
C 6682 1 1 true [r 6672 1 1],
C 6683 1 1 false [r 6672 1 1],
C 6684 3 3 true [i 2, i 0, i 1],
C 6685 3 3 false [i 2, i 0, i 1],
C 6686 1 1 true [r 6672 1 1],
C 6687 1 1 false [r 6672 1 1],
C 6688 1 1 true [i 1],
C 6689 1 1 false [i 1]] [6652] All17
noncomputable def All19 : List (Nat × B) := ov [C 6690 2 2 true [ns, ns],
C 6691 21 21 true [i 1, s 1 0x50, s 2 0x4150, s 2 0x4250, s 1 0x51, b true, s 1 0x58, s 3 0x525545, s 0 0, i 50, i 100, i 0, i 0, i 2, b false, b false, b false, i 1, i 2, i 0, i 0],
C 6692 21 21 true [i 1, s 1 0x50, s 2 0x4150, s 2 0x4250, s 1 0x51, b true, s 1 0x58, s 3 0x525545, s 0 0, i 50, i 100, i 0, i 0, i 2, b false, b false, b false, i 1, i 2, i 0, i 0],
C 6693 21 21 true [i 1, s 1 0x50, s 2 0x4150, s 2 0x4250, s 1 0x51, b true, s 1 0x58, s 3 0x525545, s 0 0, i 50, i 100, i 0, i 0, i 2, b false, b false, b false, i 1, i 2, i 0, i 0],
C 6694 2 2 true [i 1, i 50],
C 6695 2 2 false [i 1, i 50],
C 6696 2 2 true [r 6695 1 1, ns],
C 6697 2 2 true [r 6695 1 1, ns]] [] All18
noncomputable def All20 : List (Nat × B) := ov [C 6993 2 2 false [s 1 0x59, i 40],
C 6995 4 4 false [s 2 0x4251, s 3 0x525545, i 60, r 6993 1 1]] [] All19
noncomputable def All21 : List (Nat × B) := ov [C 6696 2 2 true [r 6695 1 1, r 6995 1 1],
C 6996 2 2 true [r 6695 1 1, r 6995 1 1]] [6696] All20
noncomputable def All22 : List (Nat × B) := ov [C 7101 32 4 false [s 2 0x4150, s 1 0x58, i 0, j 49, s 2 0x4151, s 1 0x58, i 0, i 50, s 2 0x4251, s 3 0x525545, i 0, j 99, s 2 0x4250, s 3 0x525545, i 0, i 100, s 4 0x4b4e4142, s 3 0x525545, i 0, j 59, s 2 0x4251, s 3 0x525545, i 0, i 60, s 2 0x4251, s 1 0x59, i 0, j 39, s 2 0x4251, s 1 0x59, i 2, i 40]] [] All21
noncomputable def All23 : List (Nat × B) := ov [C 6695 2 2 false [i 1, i 50],
C 6993 2 2 false [s 1 0x59, i 40],
C 6995 4 4 false [s 2 0x4251, s 3 0x525545, i 60, r 6993 1 1]] [] All18
noncomputable def All24 : List (Nat × B) := ov [C 6652 8 8 true [p 19 0, b false, b true, b false, b false, i 1, i 1, r 6689 1 1],
C 6689 1 1 false [i 1],
C 6695 2 2 false [i 1, i 50],
C 6993 2 2 false [s 1 0x59, i 40],
C 6995 4 4 false [s 2 0x4251, s 3 0x525545, i 60, r 6993 1 1]] [6652] All17
noncomputable def All25 : List (Nat × B) := ov [C 6652 8 8 true [p 19 0, b false, b true, b false, b true, i 1, i 1, r 6689 1 1],
C 6689 1 1 false [i 1],
C 6695 2 2 false [i 1, i 50],
C 6993 2 2 false [s 1 0x59, i 40],
C 6995 4 4 false [s 2 0x4251, s 3 0x525545, i 60, r 6993 1 1]] [6652] All16
noncomputable def All26 : List (Nat × B) := ov [C 7389 2 2 true [r 6695 1 1, r 6995 1 1]] [] All25
noncomputable def All27 : List (Nat × B) := ov [C 16 4 4 true [r 8299 6 6, ns, r 533 3 3, r 554 3 3],
C 17 1 1 true [r 8326 2 2],
C 18 1 1 true [r 8370 1 1],
C 8299 30 5 false [s 4 0x4b4e4142, s 3 0x525545, i 9940, i 0, i 0, s 2 0x4150, s 1 0x58, i 0, i 0, i 0, s 2 0x4250, s 3 0x525545, i 100, i 0, i 0, s 2 0x4151, s 1 0x58, i 50, i 0, i 0, s 2 0x4251, s 3 0x525545, i 0, i 0, i 0, s 2 0x4251, s 1 0x59, i 960, i 0, i 40],
C 8326 42 21 false [i 1, s 1 0x50, s 2 0x4150, s 2 0x4250, s 1 0x51, b true, s 1 0x58, s 3 0x525545, s 0 0, i 50, i 100, i 0, i 0, i 2, b false, b false, b false, i 3, i 2, i 50, i 100, i 2, s 1 0x51, s 2 0x4151, s 2 0x4251, s 1 0x50, b false, s 1 0x58, s 3 0x525545, s 0 0, i 50, i 100, i 0, i 0, i 1, b false, b false, b false, i 3, i 1, i 50, i 100],
C 8368 2 2 false [s 1 0x59, i 40],
C 8370 5 5 false [s 1 0x51, s 2 0x4251, s 3 0x525545, i 60, r 8368 1 1]] [16, 17, 18] All26
noncomputable def All28 : List (Nat × B) := ov [C 16 4 4 true [r 8299 6 6, ns, r 533 3 3, r 554 3 3],
C 17 1 1 true [r 8326 2 2],
C 18 1 1 true [r 8370 1 1],
C 6652 8 8 true [p 19 0, b false, b true, b false, b true, i 1, i 1, r 6689 1 1],
C 6689 1 1 false [i 1],
C 6695 2 2 false [i 1, i 50],
C 6993 2 2 false [s 1 0x59, i 40],
C 6995 4 4 false [s 2 0x4251, s 3 0x525545, i 60, r 6993 1 1],
C 8299 30 5 false [s 4 0x4b4e4142, s 3 0x525545, i 9940, i 0, i 0, s 2 0x4150, s 1 0x58, i 0, i 0, i 0, s 2 0x4250, s 3 0x525545, i 100, i 0, i 0, s 2 0x4151, s 1 0x58, i 50, i 0, i 0, s 2 0x4251, s 3 0x525545, i 0, i 0, i 0, s 2 0x4251, s 1 0x59, i 960, i 0, i 40],
C 8326 42 21 false [i 1, s 1 0x50, s 2 0x4150, s 2 0x4250, s 1 0x51, b true, s 1 0x58, s 3 0x525545, s 0 0, i 50, i 100, i 0, i 0, i 2, b false, b false, b false, i 3, i 2, i 50, i 100, i 2, s 1 0x51, s 2 0x4151, s 2 0x4251, s 1 0x50, b false, s 1 0x58, s 3 0x525545, s 0 0, i 50, i 100, i 0, i 0, i 1, b false, b false, b false, i 3, i 1, i 50, i 100],
C 8368 2 2 false [s 1 0x59, i 40],
C 8370 5 5 false [s 1 0x51, s 2 0x4251, s 3 0x525545, i 60, r 8368 1 1]] [16, 17, 18, 6652] All15
noncomputable def All29 : List (Nat × B) := ov [C 8371 2 2 true [r 6695 1 1, r 6995 1 1],
C 8372 2 2 true [r 6695 1 1, r 6995 1 1],
C 8373 2 2 false [r 6695 1 1, r 6995 1 1]] [] All28
noncomputable def All30 : List (Nat × B) := ov [C 8374 2 2 true [ns, ns]] [] All29
noncomputable def All31 : List (Nat × B) := ov [C 8375 2 2 true [ns, ns]] [] All30
noncomputable def All32 : List (Nat × B) := ov [C 6652 8 8 true [p 19 0, b false, b true, b false, b true, i 1, i 2, ns],
C 8379 2 2 true [ns, ns]] [6652] All31
noncomputable def All33 : List (Nat × B) := ov [C 6652 8 8 true [p 19 0, b false, b true, b false, b true, i 1, i 2, r 8381 1 1],
C 8380 2 2 true [ns, ns],
C 8381 1 1 true [i 0]] [6652] All32
noncomputable def All34 : List (Nat × B) := ov [C 8382 2 2 true [ns, ns],
C 8383 21 21 true [i 1, s 1 0x50, s 2 0x4150, s 2 0x4250, s 1 0x51, b true, s 1 0x58, s 3 0x525545, s 0 0, i 50, i 100, i 0, i 0, i 2, b false, b false, b false, i 3, i 2, i 50, i 100],
C 8384 21 21 true [i 1, s 1 0x50, s 2 0x4150, s 2 0x4250, s 1 0x51, b true, s 1 0x58, s 3 0x525545, s 0 0, i 50, i 100, i 0, i 0, i 2, b false, b false, b false, i 3, i 2, i 50, i 100]] [] All33
noncomputable def All35 : List (Nat × B) := ov [C 6652 8 8 true [p 19 0, b false, b true, b false, b true, i 1, i 2, r 8381 1 1],
C 8381 1 1 true [i 0]] [6652] All32
noncomputable def All36 : List (Nat × B) := ov [C 6652 8 8 true [p 19 0, b false, b true, b false, b true, i 1, i 3, ns],
C 8388 2 2 true [ns, ns]] [6652] All35
noncomputable def All37 : List (Nat × B) := ov [C 6652 8 8 true [p 19 0, b false, b true, b false, b false, i 2, i 1, ns],
C 8392 2 2 true [ns, ns]] [6652] All36
noncomputable def All38 : List (Nat × B) := ov [C 6652 8 8 true [p 19 0, b false, b true, b false, b false, i 2, i 2, ns],
C 8396 2 2 true [ns, ns]] [6652] All37
noncomputable def All39 : List (Nat × B) := ov [C 6652 8 8 true [p 19 0, b false, b true, b false, b false, i 2, i 2, r 8398 1 1],
C 8397 2 2 true [ns, ns],
C 8398 1 1 true [i 0]] [6652] All38
noncomputable def All40 : List (Nat × B) := ov [C 8399 2 2 true [ns, ns],
C 8400 21 21 true [i 1, s 1 0x50, s 2 0x4150, s 2 0x4250, s 1 0x51, b true, s 1 0x58, s 3 0x525545, s 0 0, i 50, i 100, i 0, i 0, i 2, b false, b false, b false, i 3, i 2, i 50, i 100],
C 8401 21 21 true [i 1, s 1 0x50, s 2 0x4150, s 2 0x4250, s 1 0x51, b true, s 1 0x58, s 3 0x525545, s 0 0, i 50, i 100, i 0, i 0, i 2, b false, b false, b false, i 3, i 2, i 50, i 100]] [] All39
noncomputable def All41 : List (Nat × B) := ov [C 6652 8 8 true [p 19 0, b false, b true, b false, b false, i 2, i 2, r 8398 1 1],
C 8398 1 1 true [i 0]] [6652] All38
noncomputable def All42 : List (Nat × B) := ov [C 6652 8 8 true [p 19 0, b false, b true, b false, b false, i 2, i 3, ns],
C 8405 2 2 true [ns, ns]] [6652] All41
noncomputable def All43 : List (Nat × B) := ov [C 6652 8 8 true [p 19 0, b false, b true, b true, b false, i 2, i 3, ns]] [6652] All30
noncomputable def All44 : List (Nat × B) := ov [C 6652 8 8 true [p 19 0, b false, b true, b true, b false, i 2, i 3, ns]] [6652] All29
noncomputable def All45 : List (Nat × B) := ov [C 16 4 4 true [r 8299 6 6, ns, r 533 3 3, r 554 3 3],
C 17 1 1 true [r 8326 2 2],
C 18 1 1 true [r 8370 1 1],
C 6652 8 8 true [p 19 0, b false, b true, b true, b false, i 2, i 3, ns],
C 6695 2 2 false [i 1, i 50],
C 6993 2 2 false [s 1 0x59, i 40],
C 6995 4 4 false [s 2 0x4251, s 3 0x525545, i 60, r 6993 1 1],
C 8299 30 5 false [s 4 0x4b4e4142, s 3 0x525545, i 9940, i 0, i 0, s 2 0x4150, s 1 0x58, i 0, i 0, i 0, s 2 0x4250, s 3 0x525545, i 100, i 0, i 0, s 2 0x4151, s 1 0x58, i 50, i 0, i 0, s 2 0x4251, s 3 0x525545, i 0, i 0, i 0, s 2 0x4251, s 1 0x59, i 960, i 0, i 40],
C 8326 42 21 false [i 1, s 1 0x50, s 2 0x4150, s 2 0x4250, s 1 0x51, b true, s 1 0x58, s 3 0x525545, s 0 0, i 50, i 100, i 0, i 0, i 2, b false, b false, b false, i 3, i 2, i 50, i 100, i 2, s 1 0x51, s 2 0x4151, s 2 0x4251, s 1 0x50, b false, s 1 0x58, s 3 0x525545, s 0 0, i 50, i 100, i 0, i 0, i 1, b false, b false, b false, i 3, i 1, i 50, i 100],
C 8368 2 2 false [s 1 0x59, i 40],
C 8370 5 5 false [s 1 0x51, s 2 0x4251, s 3 0x525545, i 60, r 8368 1 1],
C 8373 2 2 false [r 6695 1 1, r 6995 1 1]] [16, 17, 18, 6652] All15
noncomputable def All46 : List (Nat × B) := [C 0 1 1 true [r 295 2 2],
C 1 2 2 true [p 0 0, ns],
C 2 1 1 true [m 3],
M 3 [] [] 0,
C 6 4 4 true [p 2 0, m 139, m 153, m 184],
C 7 1 1 true [m 472],
C 8 3 3 true [p 7 0, m 473, nm],
C 9 1 1 true [r 293 2 2],
C 10 1 1 true [m 2587],
C 11 6 6 true [p 6 0, p 8 0, p 9 0, p 1 0, p 10 0, i 0],
C 15 4 4 true [ns, r 557 4 4, r 106 7 7, r 138 5 5],
C 16 4 4 true [r 8299 6 6, ns, r 533 3 3, r 554 3 3],
C 17 1 1 true [r 8326 2 2],
C 18 1 1 true [r 8370 1 1],
C 19 6 6 true [p 15 0, p 16 0, p 17 0, p 444 0, p 18 0, i 0],
C 106 14 2 false [s 4 0x4b4e4142, s 4 0x4b4e4142, s 2 0x4150, s 1 0x50, s 2 0x4250, s 1 0x50, s 2 0x4151, s 1 0x51, s 2 0x4251, s 1 0x51, s 2 0x4152, s 1 0x52, s 2 0x4252, s 1 0x52],
C 138 40 8 false [s 3 0x525545, b true, b false, i 1, i 1, i 0, i 0, i 2, s 3 0x445355, b true, b false, i 1, i 1, i 0, i 0, i 0, s 1 0x58, b false, b true, i 1, i 1, i 10, i 1000, i 0, s 1 0x59, b false, b true, i 10, i 20, i 3, i 5000, i 0, s 1 0x5a, b false, b false, i 5, i 10, i 7, i 0, i 0],
M 139 [(s 4 0x4b4e4142, a [s 4 0x4b4e4142, i 0]), (s 1 0x50, a [s 1 0x50, i 1000]), (s 1 0x51, a [s 1 0x51, i 1000]), (s 1 0x52, a [s 1 0x52, i 0])] [0, 1, 2, 3] 4,
M 153 [(s 4 0x4b4e4142, a [s 4 0x4b4e4142, s 4 0x4b4e4142]), (s 2 0x4150, a [s 2 0x4150, s 1 0x50]), (s 2 0x4250, a [s 2 0x4250, s 1 0x50]), (s 2 0x4151, a [s 2 0x4151, s 1 0x51]), (s 2 0x4251, a [s 2 0x4251, s 1 0x51]), (s 2 0x4152, a [s 2 0x4152, s 1 0x52]), (s 2 0x4252, a [s 2 0x4252, s 1 0x52])] [0, 1, 2, 3, 4, 5, 6] 7,
M 184 [(s 1 0x58, a [s 1 0x58, b false, b true, i 1, i 1, i 10, i 1000, i 0]), (s 1 0x59, a [s 1 0x59, b false, b true, i 10, i 20, i 3, i 5000, i 0]), (s 1 0x5a, a [s 1 0x5a, b false, b false, i 5, i 10, i 7, i 0, i 0]), (s 3 0x525545, a [s 3 0x525545, b true, b false, i 1, i 1, i 0, i 0, i 2]), (s 3 0x445355, a [s 3 0x445355, b true, b false, i 1, i 1, i 0, i 0, i 0])] [0, 1, 2, 3, 4] 5,
C 293 42 21 false [i 1, s 1 0x50, s 2 0x4150, s 2 0x4250, s 1 0x51, b true, s 1 0x58, s 3 0x525545, s 0 0, i 50, i 100, i 0, i 0, i 2, b false, b false, b false, i 3, i 2, i 50, i 100, i 2, s 1 0x51, s 2 0x4151, s 2 0x4251, s 1 0x50, b false, s 1 0x58, s 3 0x525545, s 0 0, i 50, i 100, i 0, i 0, i 1, b false, b false, b false, i 3, i 1, i 50, i 100],
C 295 2 1 false [i 1, i 1],
C 444 2 2 true [r 446 2 2, ns],
C 446 2 1 false [i 1, i 1],
M 472 [(a [s 2 0x4251, s 1 0x59], a [i 960, i 0, i 40]), (a [s 4 0x4b4e4142, s 3 0x525545], a [i 9940, i 0, i 0]), (a [s 2 0x4250, s 3 0x525545], a [i 100, i 0, i 0]), (a [s 2 0x4151, s 1 0x58], a [i 50, i 0, i 0])] [1, 3, 4, 5] 6,
M 473 [(s 1 0x58, i 50), (s 1 0x59, i 1000), (s 3 0x525545, i 10040)] [0, 1, 2] 3,
C 533 3 1 false [s 3 0x525545, s 1 0x58, s 1 0x59],
C 554 3 1 false [i 10040, i 50, i 1000],
C 557 8 2 false [s 4 0x4b4e4142, i 0, s 1 0x50, i 1000, s 1 0x51, i 1000, s 1 0x52, i 0],
M 2587 [(a [s 2 0x4251, s 3 0x525545], a [s 1 0x51, s 2 0x4251, s 3 0x525545, i 60, r 2596 1 1])] [0] 1,
C 2596 2 2 false [s 1 0x59, i 40],
C 8299 30 5 false [s 4 0x4b4e4142, s 3 0x525545, i 9940, i 0, i 0, s 2 0x4150, s 1 0x58, i 0, i 0, i 0, s 2 0x4250, s 3 0x525545, i 100, i 0, i 0, s 2 0x4151, s 1 0x58, i 50, i 0, i 0, s 2 0x4251, s 3 0x525545, i 0, i 0, i 0, s 2 0x4251, s 1 0x59, i 960, i 0, i 40],
C 8326 42 21 false [i 1, s 1 0x50, s 2 0x4150, s 2 0x4250, s 1 0x51, b true, s 1 0x58, s 3 0x525545, s 0 0, i 50, i 100, i 0, i 0, i 2, b false, b false, b false, i 3, i 2, i 50, i 100, i 2, s 1 0x51, s 2 0x4151, s 2 0x4251, s 1 0x50, b false, s 1 0x58, s 3 0x525545, s 0 0, i 50, i 100, i 0, i 0, i 1, b false, b false, b false, i 3, i 1, i 50, i 100],
C 8368 2 2 false [s 1 0x59, i 40],
C 8370 5 5 false [s 1 0x51, s 2 0x4251, s 3 0x525545, i 60, r 8368 1 1]]
noncomputable def All47 : List (Nat × B) := ov [M 472 [(a [s 2 0x4251, s 1 0x59], a [i 960, i 0, i 40]), (a [s 4 0x4b4e4142, s 3 0x525545], a [i 9940, i 0, i 0]), (a [s 2 0x4250, s 3 0x525545], a [i 100, i 0, i 0]), (a [s 2 0x4151, s 1 0x58], a [i 50, i 0, i 0]), (a [s 2 0x4251, s 3 0x525545], a [i 60, i 0, i 0])] [1, 3, 4, 5, 6] 7,
M 473 [(s 1 0x58, i 50), (s 1 0x59, i 1000), (s 3 0x525545, i 10100)] [0, 1, 2] 3,
C 8412 5 5 true [s 1 0x51, s 2 0x4251, s 3 0x525545, i 60, r 8417 1 1],
C 8413 5 5 true [s 1 0x51, s 2 0x4251, s 3 0x525545, i 60, r 2596 1 1],
C 8414 5 5 true [s 1 0x51, s 2 0x4251, s 3 0x525545, i 60, r 8417 1 1],
C 8415 5 5 true [s 1 0x51, s 2 0x4251, s 3 0x525545, i 60, r 8417 1 1],
C 8416 0 2 true [],
C 8417 2 2 false [s 1 0x59, i 40],
C 8418 5 5 true [s 1 0x51, s 2 0x4251, s 3 0x525545, i 60, r 8417 1 1],
C 8419 2 2 true [s 2 0x4251, s 3 0x525545],
C 8420 2 2 true [s 2 0x4251, s 3 0x525545],
C 8421 2 2 true [s 2 0x4251, s 3 0x525545],
C 8422 2 2 true [s 2 0x4251, s 3 0x525545],
C 8423 3 3 true [i 60, i 0, i 0]] [472, 473] All46
noncomputable def All48 : List (Nat × B) := ov [C 11 6 6 true [p 6 0, p 8 0, p 9 0, p 1 0, p 10 0, i 1],
M 472 [(a [s 2 0x4251, s 1 0x59], a [i 1000, i 0, i 0]), (a [s 4 0x4b4e4142, s 3 0x525545], a [i 10000, i 0, i 0]), (a [s 2 0x4250, s 3 0x525545], a [i 100, i 0, i 0]), (a [s 2 0x4151, s 1 0x58], a [i 50, i 0, i 0])] [1, 3, 4, 5] 7,
M 2587 [] [] 1,
C 8434 2 2 false [s 1 0x59, i 40],
C 8493 5 5 false [s 1 0x51, s 2 0x4251, s 3 0x525545, i 60, r 8434 1 1]] [11, 472, 2587] All47
end Go.Proofs.YtmfmjhklajmhoaaGreat
/- complinelaw27.alive: tables. -/
namespace Go.Proofs.YtmfmjhklajmhoaaGreat
open Go Go.RowKit Gv Gv.Lt
set_option maxRecDepth 100000
def alI : List (Int × Int) := []
def alArgs : List V := []
noncomputable def alP0 : SN := ⟨5, [], All0, 0, t [p 11 0, p 19 0, b true], All1, 210⟩
noncomputable def alP1 : SN := ⟨40, [p 11 0, p 19 0, a [i 19, i 0, i 0, s 1 0x50, s 2 0x4150, s 2 0x4250, s 1 0x51, b true, s 1 0x58, s 3 0x525545, s 0 0, i 50, i 100, i 0, i 0, b false, b false, s 0 0, s 0 0, s 0 0, ns, ns]], All2, 211, b true, All3, 317⟩
noncomputable def alP2 : SN := ⟨40, [p 11 0, p 19 0, a [i 8, i 0, i 0, s 0 0, s 0 0, s 0 0, s 0 0, b false, s 0 0, s 0 0, s 0 0, i 0, i 0, i 0, i 0, b false, b false, s 0 0, s 0 0, s 0 0, ns, ns]], All3, 317, b true, All4, 466⟩
noncomputable def alP3 : SN := ⟨40, [p 11 0, p 19 0, a [i 9, i 50, i 0, s 0 0, s 0 0, s 0 0, s 0 0, b false, s 0 0, s 0 0, s 0 0, i 0, i 0, i 0, i 0, b false, b false, s 0 0, s 2 0x4150, s 1 0x58, ns, ns]], All4, 466, b true, All5, 485⟩
noncomputable def alP4 : SN := ⟨40, [p 11 0, p 19 0, a [i 9, i 1000, i 0, s 0 0, s 0 0, s 0 0, s 0 0, b false, s 0 0, s 0 0, s 0 0, i 0, i 0, i 0, i 0, b false, b false, s 0 0, s 2 0x4251, s 1 0x59, ns, ns]], All5, 485, b true, All6, 511⟩
noncomputable def alP5 : SN := ⟨40, [p 11 0, p 19 0, a [i 9, i 40, i 0, s 0 0, s 0 0, s 0 0, s 0 0, b false, s 0 0, s 0 0, s 0 0, i 0, i 0, i 0, i 0, b false, b false, s 0 0, s 2 0x4251, s 3 0x525545, ns, ns]], All6, 511, b true, All7, 537⟩
noncomputable def alP6 : SN := ⟨40, [p 11 0, p 19 0, a [i 9, i 10000, i 0, s 0 0, s 0 0, s 0 0, s 0 0, b false, s 0 0, s 0 0, s 0 0, i 0, i 0, i 0, i 0, b false, b false, s 0 0, s 4 0x4b4e4142, s 3 0x525545, ns, ns]], All7, 537, b true, All8, 555⟩
noncomputable def alP7 : SN := ⟨40, [p 11 0, p 19 0, a [i 13, i 1000, i 0, s 0 0, s 0 0, s 0 0, s 0 0, b false, s 0 0, s 0 0, s 0 0, i 0, i 0, i 0, i 0, b false, b false, s 1 0x51, s 0 0, s 0 0, ns, ns]], All8, 555, b true, All9, 558⟩
noncomputable def alP8 : SN := ⟨136, [p 558 0], All10, 561, t [a [r 1604 1 1, r 1916 1 1], b true], All11, 2597⟩
noncomputable def alP9 : SN := ⟨136, [p 558 0], All12, 2600, t [a [ns, ns], b false], All13, 6651⟩
noncomputable def alP10 : SN := ⟨42, [p 558 0], All10, 561, r 2599 1 1, All14, 6652⟩
noncomputable def alP11 : SN := ⟨287, [p 19 0, a [r 6695 1 1, ns]], All19, 6698, t [ns, i 30], All19, 6849⟩
noncomputable def alP12 : SN := ⟨470, [p 19 0, r 6695 1 1], All19, 6849, t [r 6995 1 1, i 0], All20, 6996⟩
noncomputable def alP13 : SN := ⟨287, [p 19 0, a [r 6695 1 1, r 6995 1 1]], All21, 6997, t [r 7101 8 8, i 0], All22, 7387⟩
noncomputable def alP14 : SN := ⟨361, [p 19 0, r 6672 1 1, b true], All18, 6690, t [a [r 6695 1 1, r 6995 1 1], b true], All23, 7387⟩
noncomputable def alP15 : SN := ⟨286, [p 6652 0], All17, 6655, t [a [r 6695 1 1, r 6995 1 1], b true], All24, 7388⟩
noncomputable def alP16 : SN := ⟨224, [p 6652 0], All16, 6654, t [a [r 6695 1 1, r 6995 1 1], b true], All25, 7389⟩
noncomputable def alP17 : SN := ⟨225, [p 19 0, a [r 6695 1 1, r 6995 1 1]], All26, 7390, i 0, All27, 8371⟩
noncomputable def alP18 : SN := ⟨137, [p 6652 0], All15, 6653, t [a [r 6695 1 1, r 6995 1 1], b true], All28, 8371⟩
noncomputable def alP19 : SN := ⟨286, [p 6652 0], All31, 8376, t [a [ns, ns], b false], All31, 8379⟩
noncomputable def alP20 : SN := ⟨471, [p 19 0, ns, b true], All34, 8385, t [ns, b true], All34, 8388⟩
noncomputable def alP21 : SN := ⟨362, [p 19 0, b true], All33, 8382, t [a [ns, ns], b false], All33, 8388⟩
noncomputable def alP22 : SN := ⟨286, [p 6652 0], All32, 8380, t [a [ns, ns], b false], All35, 8388⟩
noncomputable def alP23 : SN := ⟨286, [p 6652 0], All36, 8389, t [a [ns, ns], b false], All36, 8392⟩
noncomputable def alP24 : SN := ⟨286, [p 6652 0], All37, 8393, t [a [ns, ns], b false], All37, 8396⟩
noncomputable def alP25 : SN := ⟨471, [p 19 0, ns, b true], All40, 8402, t [ns, b true], All40, 8405⟩
noncomputable def alP26 : SN := ⟨362, [p 19 0, b true], All39, 8399, t [a [ns, ns], b false], All39, 8405⟩
noncomputable def alP27 : SN := ⟨286, [p 6652 0], All38, 8397, t [a [ns, ns], b false], All41, 8405⟩
noncomputable def alP28 : SN := ⟨286, [p 6652 0], All42, 8406, t [a [ns, ns], b false], All42, 8409⟩
noncomputable def alP29 : SN := ⟨224, [p 6652 0], All30, 8375, t [a [ns, ns], b false], All43, 8410⟩
noncomputable def alP30 : SN := ⟨137, [p 6652 0], All29, 8374, t [a [ns, ns], b false], All44, 8411⟩
noncomputable def alP31 : SN := ⟨44, [p 6652 0], All15, 6653, r 8373 1 1, All45, 8412⟩
noncomputable def alP32 : SN := ⟨11, [i 100, i 40], All0, 0, t [p 11 0, p 19 0, b true], All46, 8412⟩
noncomputable def alP33 : SN := ⟨9, [p 11 0], All47, 8424, t [a [r 8493 1 1, ns, ns, i 1], i 0], All48, 8549⟩
noncomputable abbrev alE (ks : List SN) (bd : List (Int × Int)) (ge : List LF) : Env := evE Tryz.prog (orHk (hkS ks) (libS bd ge (mapsMd bd ge))) bd ge []
abbrev alNL : List NL := []
abbrev alC (ks : List SN) (ge : List LF) (f : Nat) (t : SN) : Prop := isSn t (callN (alE ks alI ge) 100 f t.args t.h0) = true
theorem alN {G : Gh} : ∀ t ∈ ([] : List SN), SNOk Tryz.prog G t := fun _ h => nomatch h
theorem alH {G : Gh} {bd : List (Int × Int)} {ge : List LF} (F : Facts G bd ge []) (hm : ¬ G.mono) {ks : List SN} (hk : ∀ t ∈ ks, SNOk Tryz.prog G t) : HooksOk Tryz.prog G (orHk (hkS ks) (libS bd ge (mapsMd bd ge))) := orHk_ok (hkS_ok progOk ks hk) (libS_ok F (mapsMd_ok hm F) hm)
abbrev alS (ge : List LF) (t : SN) : Prop := ∀ {G : Gh}, Facts G alI ge alNL → ¬ G.mono → SNOk Tryz.prog G t
theorem alK {G : Gh} {t : SN} {ks : List SN} (a : SNOk Tryz.prog G t) (b : ∀ p ∈ ks, SNOk Tryz.prog G p) : ∀ p ∈ t :: ks, SNOk Tryz.prog G p := List.forall_mem_cons.2 ⟨a, b⟩
theorem al_piece {ge : List LF} {ks : List SN} {t : SN} {fn : Func} {c : Go.Code} (hf : Tryz.prog.funcs[t.f]? = some fn) (hb : fn.body = some c) (r : isSn t (callN (alE ks alI ge) 100 t.f t.args t.h0) = true) (kids : ∀ {G : Gh}, Facts G alI ge alNL → ¬ G.mono → ∀ p ∈ ks, SNOk Tryz.prog G p) : alS ge t := fun F hm => snap_ok progOk F (alH F hm (kids F hm)) 100 t hf hb r
end Go.Proofs.YtmfmjhklajmhoaaGreat
