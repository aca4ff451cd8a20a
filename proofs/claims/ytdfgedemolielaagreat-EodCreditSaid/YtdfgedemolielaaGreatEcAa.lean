/- complinelaw27.EodCredit: states, part 0. -/
import Derived.Test.YtdfgedemolielaaGreatEcHt
namespace Go.Proofs.YtdfgedemolielaaGreat
open Go Gv Gv.Lt
noncomputable def EcAl0 : List (Nat × B) := []
noncomputable def EcAl1 : List (Nat × B) := [C 0 1 1 true [ns],
C 1 2 2 true [p 0 0, ns],
C 2 1 1 true [m 3],
M 3 [] [] 0,
C 6 4 4 true [p 2 0, m 139, m 153, m 184],
C 7 1 1 true [nm],
C 8 3 3 true [p 7 0, nm, nm],
C 9 1 1 true [ns],
C 10 1 1 true [nm],
C 11 6 6 true [p 6 0, p 8 0, p 9 0, p 1 0, p 10 0, i 0],
C 12 2 2 true [ns, ns],
C 15 4 4 true [ns, r 105 4 4, r 106 7 7, r 138 5 5],
C 16 4 4 true [ns, ns, ns, ns],
C 17 1 1 true [ns],
C 18 1 1 true [ns],
C 19 6 6 true [p 15 0, p 16 0, p 17 0, p 12 0, p 18 0, i 0],
C 105 8 2 false [s 4 0x4b4e4142, i 0, s 1 0x50, i 1000, s 1 0x51, i 100, s 1 0x52, i 0],
C 106 14 2 false [s 4 0x4b4e4142, s 4 0x4b4e4142, s 2 0x4150, s 1 0x50, s 2 0x4250, s 1 0x50, s 2 0x4151, s 1 0x51, s 2 0x4251, s 1 0x51, s 2 0x4152, s 1 0x52, s 2 0x4252, s 1 0x52],
C 138 40 8 false [s 3 0x525545, b true, b false, i 1, i 1, i 0, i 0, i 2, s 3 0x445355, b true, b false, i 1, i 1, i 0, i 0, i 0, s 1 0x58, b false, b true, i 1, i 1, i 10, i 1000, i 0, s 1 0x59, b false, b true, i 10, i 20, i 3, i 5000, i 0, s 1 0x5a, b false, b false, i 5, i 10, i 7, i 0, i 0],
M 139 [(s 4 0x4b4e4142, a [s 4 0x4b4e4142, i 0]), (s 1 0x50, a [s 1 0x50, i 1000]), (s 1 0x51, a [s 1 0x51, i 100]), (s 1 0x52, a [s 1 0x52, i 0])] [0, 1, 2, 3] 4,
M 153 [(s 4 0x4b4e4142, a [s 4 0x4b4e4142, s 4 0x4b4e4142]), (s 2 0x4150, a [s 2 0x4150, s 1 0x50]), (s 2 0x4250, a [s 2 0x4250, s 1 0x50]), (s 2 0x4151, a [s 2 0x4151, s 1 0x51]), (s 2 0x4251, a [s 2 0x4251, s 1 0x51]), (s 2 0x4152, a [s 2 0x4152, s 1 0x52]), (s 2 0x4252, a [s 2 0x4252, s 1 0x52])] [0, 1, 2, 3, 4, 5, 6] 7,
M 184 [(s 1 0x58, a [s 1 0x58, b false, b true, i 1, i 1, i 10, i 1000, i 0]), (s 1 0x59, a [s 1 0x59, b false, b true, i 10, i 20, i 3, i 5000, i 0]), (s 1 0x5a, a [s 1 0x5a, b false, b false, i 5, i 10, i 7, i 0, i 0]), (s 3 0x525545, a [s 3 0x525545, b true, b false, i 1, i 1, i 0, i 0, i 2]), (s 3 0x445355, a [s 3 0x445355, b true, b false, i 1, i 1, i 0, i 0, i 0])] [0, 1, 2, 3, 4] 5]
noncomputable def EcAl2 : List (Nat × B) := ov [C 210 154 22 true [i 19, i 0, i 0, s 1 0x50, s 2 0x4150, s 2 0x4250, s 1 0x51, b true, s 1 0x58, s 3 0x525545, s 0 0, i 50, y 0 [(0, 1)], i 0, i 0, b false, b false, s 0 0, s 0 0, s 0 0, ns, ns, i 8, i 0, i 0, s 0 0, s 0 0, s 0 0, s 0 0, b false, s 0 0, s 0 0, s 0 0, i 0, i 0, i 0, i 0, b false, b false, s 0 0, s 0 0, s 0 0, ns, ns, i 9, i 50, i 0, s 0 0, s 0 0, s 0 0, s 0 0, b false, s 0 0, s 0 0, s 0 0, i 0, i 0, i 0, i 0, b false, b false, s 0 0, s 2 0x4150, s 1 0x58, ns, ns, i 9, i 1000, i 0, s 0 0, s 0 0, s 0 0, s 0 0, b false, s 0 0, s 0 0, s 0 0, i 0, i 0, i 0, i 0, b false, b false, s 0 0, s 2 0x4251, s 1 0x59, ns, ns, i 9, y 0 [(1, 1)], i 0, s 0 0, s 0 0, s 0 0, s 0 0, b false, s 0 0, s 0 0, s 0 0, i 0, i 0, i 0, i 0, b false, b false, s 0 0, s 2 0x4251, s 3 0x525545, ns, ns, i 9, i 10000, i 0, s 0 0, s 0 0, s 0 0, s 0 0, b false, s 0 0, s 0 0, s 0 0, i 0, i 0, i 0, i 0, b false, b false, s 0 0, s 4 0x4b4e4142, s 3 0x525545, ns, ns, i 13, i 1000, i 0, s 0 0, s 0 0, s 0 0, s 0 0, b false, s 0 0, s 0 0, s 0 0, i 0, i 0, i 0, i 0, b false, b false, s 1 0x51, s 0 0, s 0 0, ns, ns]] [] EcAl1
noncomputable def EcAl3 : List (Nat × B) := ov [C 0 1 1 true [r 295 2 2],
C 9 1 1 true [r 293 2 2],
C 12 2 2 true [r 316 2 2, ns],
C 17 1 1 true [r 313 2 2],
C 293 42 21 false [i 1, s 1 0x50, s 2 0x4150, s 2 0x4250, s 1 0x51, b true, s 1 0x58, s 3 0x525545, s 0 0, i 50, y 0 [(0, 1)], i 0, i 0, i 2, b false, b false, b false, i 0, i 0, i 0, i 0, i 2, s 1 0x51, s 2 0x4151, s 2 0x4251, s 1 0x50, b false, s 1 0x58, s 3 0x525545, s 0 0, i 50, y 0 [(0, 1)], i 0, i 0, i 1, b false, b false, b false, i 0, i 0, i 0, i 0],
C 295 2 1 false [i 1, i 2],
C 313 42 21 false [i 1, s 1 0x50, s 2 0x4150, s 2 0x4250, s 1 0x51, b true, s 1 0x58, s 3 0x525545, s 0 0, i 50, y 0 [(0, 1)], i 0, i 0, i 2, b false, b false, b false, i 0, i 0, i 0, i 0, i 2, s 1 0x51, s 2 0x4151, s 2 0x4251, s 1 0x50, b false, s 1 0x58, s 3 0x525545, s 0 0, i 50, y 0 [(0, 1)], i 0, i 0, i 1, b false, b false, b false, i 0, i 0, i 0, i 0],
C 316 2 1 false [i 1, i 2]] [0, 9, 12, 17] EcAl2
noncomputable def EcAl4 : List (Nat × B) := ov [C 17 1 1 true [r 463 2 2],
C 19 6 6 true [p 15 0, p 16 0, p 17 0, p 444 0, p 18 0, i 0],
C 293 42 21 false [i 1, s 1 0x50, s 2 0x4150, s 2 0x4250, s 1 0x51, b true, s 1 0x58, s 3 0x525545, s 0 0, i 50, y 0 [(0, 1)], i 0, i 0, i 2, b false, b false, b false, i 1, i 2, i 0, i 0, i 2, s 1 0x51, s 2 0x4151, s 2 0x4251, s 1 0x50, b false, s 1 0x58, s 3 0x525545, s 0 0, i 50, y 0 [(0, 1)], i 0, i 0, i 1, b false, b false, b false, i 1, i 1, i 0, i 0],
C 295 2 1 false [i 1, i 1],
C 444 2 2 true [r 446 2 2, ns],
C 446 2 1 false [i 1, i 1],
C 463 42 21 false [i 1, s 1 0x50, s 2 0x4150, s 2 0x4250, s 1 0x51, b true, s 1 0x58, s 3 0x525545, s 0 0, i 50, y 0 [(0, 1)], i 0, i 0, i 2, b false, b false, b false, i 1, i 2, i 0, i 0, i 2, s 1 0x51, s 2 0x4151, s 2 0x4251, s 1 0x50, b false, s 1 0x58, s 3 0x525545, s 0 0, i 50, y 0 [(0, 1)], i 0, i 0, i 1, b false, b false, b false, i 1, i 1, i 0, i 0]] [17, 19, 293, 295] EcAl3
noncomputable def EcAl5 : List (Nat × B) := ov [C 7 1 1 true [m 472],
C 8 3 3 true [p 7 0, m 473, nm],
C 16 4 4 true [r 480 1 1, ns, r 482 1 1, r 484 1 1],
M 472 [(a [s 2 0x4150, s 1 0x58], a [i 50, i 0, i 0])] [0] 1,
M 473 [(s 1 0x58, i 50)] [0] 1,
C 480 5 5 false [s 2 0x4150, s 1 0x58, i 50, i 0, i 0],
C 482 1 1 false [s 1 0x58],
C 484 1 1 false [i 50]] [7, 8, 16] EcAl4
noncomputable def EcAl6 : List (Nat × B) := ov [C 16 4 4 true [r 501 2 2, ns, r 505 2 2, r 509 2 2],
M 472 [(a [s 2 0x4150, s 1 0x58], a [i 50, i 0, i 0]), (a [s 2 0x4251, s 1 0x59], a [i 1000, i 0, i 0])] [0, 1] 2,
M 473 [(s 1 0x58, i 50), (s 1 0x59, i 1000)] [0, 1] 2,
C 501 10 5 false [s 2 0x4150, s 1 0x58, i 50, i 0, i 0, s 2 0x4251, s 1 0x59, i 1000, i 0, i 0],
C 505 2 1 false [s 1 0x58, s 1 0x59],
C 509 2 1 false [i 50, i 1000]] [16, 472, 473] EcAl5
noncomputable def EcAl7 : List (Nat × B) := ov [C 16 4 4 true [r 530 3 3, ns, r 533 3 3, r 536 3 3],
M 472 [(a [s 2 0x4150, s 1 0x58], a [i 50, i 0, i 0]), (a [s 2 0x4251, s 1 0x59], a [i 1000, i 0, i 0]), (a [s 2 0x4251, s 3 0x525545], a [y 0 [(1, 1)], i 0, i 0])] [0, 1, 2] 3,
M 473 [(s 1 0x58, i 50), (s 1 0x59, i 1000), (s 3 0x525545, y 0 [(1, 1)])] [0, 1, 2] 3,
C 530 15 5 false [s 2 0x4150, s 1 0x58, i 50, i 0, i 0, s 2 0x4251, s 3 0x525545, y 0 [(1, 1)], i 0, i 0, s 2 0x4251, s 1 0x59, i 1000, i 0, i 0],
C 533 3 1 false [s 3 0x525545, s 1 0x58, s 1 0x59],
C 536 3 1 false [y 0 [(1, 1)], i 50, i 1000]] [16, 472, 473] EcAl6
noncomputable def EcAl8 : List (Nat × B) := ov [C 16 4 4 true [r 530 3 3, ns, r 533 3 3, r 536 3 3],
M 473 [(s 1 0x58, i 50), (s 1 0x59, i 1000), (s 3 0x525545, y 0 [(1, 1)])] [0, 1, 2] 3,
C 530 15 5 false [s 2 0x4150, s 1 0x58, i 50, i 0, i 0, s 2 0x4251, s 3 0x525545, y 0 [(1, 1)], i 0, i 0, s 2 0x4251, s 1 0x59, i 1000, i 0, i 0],
C 533 3 1 false [s 3 0x525545, s 1 0x58, s 1 0x59],
C 536 3 1 false [y 0 [(1, 1)], i 50, i 1000]] [16, 473] EcAl6
noncomputable def EcAl9 : List (Nat × B) := ov [C 16 4 4 true [r 553 4 4, ns, r 533 3 3, r 554 3 3],
M 472 [(a [s 2 0x4150, s 1 0x58], a [i 50, i 0, i 0]), (a [s 2 0x4251, s 1 0x59], a [i 1000, i 0, i 0]), (a [s 4 0x4b4e4142, s 3 0x525545], a [i 10000, i 0, i 0])] [0, 1, 2] 3,
M 473 [(s 1 0x58, i 50), (s 1 0x59, i 1000), (s 3 0x525545, y 10000 [(1, 1)])] [0, 1, 2] 3,
C 553 20 5 false [s 4 0x4b4e4142, s 3 0x525545, i 10000, i 0, i 0, s 2 0x4150, s 1 0x58, i 50, i 0, i 0, s 2 0x4251, s 3 0x525545, y 0 [(1, 1)], i 0, i 0, s 2 0x4251, s 1 0x59, i 1000, i 0, i 0],
C 554 3 1 false [y 10000 [(1, 1)], i 50, i 1000]] [16, 472, 473] EcAl8
noncomputable def EcAl10 : List (Nat × B) := ov [C 16 4 4 true [r 553 4 4, ns, r 533 3 3, r 554 3 3],
M 472 [(a [s 2 0x4150, s 1 0x58], a [i 50, i 0, i 0]), (a [s 2 0x4251, s 1 0x59], a [i 1000, i 0, i 0]), (a [s 2 0x4251, s 3 0x525545], a [y 0 [(1, 1)], i 0, i 0]), (a [s 4 0x4b4e4142, s 3 0x525545], a [i 10000, i 0, i 0])] [0, 1, 2, 3] 4,
M 473 [(s 1 0x58, i 50), (s 1 0x59, i 1000), (s 3 0x525545, y 10000 [(1, 1)])] [0, 1, 2] 3,
C 553 20 5 false [s 4 0x4b4e4142, s 3 0x525545, i 10000, i 0, i 0, s 2 0x4150, s 1 0x58, i 50, i 0, i 0, s 2 0x4251, s 3 0x525545, y 0 [(1, 1)], i 0, i 0, s 2 0x4251, s 1 0x59, i 1000, i 0, i 0],
C 554 3 1 false [y 10000 [(1, 1)], i 50, i 1000]] [16, 472, 473] EcAl7
noncomputable def EcAl11 : List (Nat × B) := ov [C 15 4 4 true [ns, r 557 4 4, r 106 7 7, r 138 5 5],
M 139 [(s 4 0x4b4e4142, a [s 4 0x4b4e4142, i 0]), (s 1 0x50, a [s 1 0x50, i 1000]), (s 1 0x51, a [s 1 0x51, i 1000]), (s 1 0x52, a [s 1 0x52, i 0])] [0, 1, 2, 3] 4,
C 557 8 2 false [s 4 0x4b4e4142, i 0, s 1 0x50, i 1000, s 1 0x51, i 1000, s 1 0x52, i 0]] [15, 139] EcAl9
noncomputable def EcAl12 : List (Nat × B) := ov [C 15 4 4 true [ns, r 557 4 4, r 106 7 7, r 138 5 5],
M 139 [(s 4 0x4b4e4142, a [s 4 0x4b4e4142, i 0]), (s 1 0x50, a [s 1 0x50, i 1000]), (s 1 0x51, a [s 1 0x51, i 1000]), (s 1 0x52, a [s 1 0x52, i 0])] [0, 1, 2, 3] 4,
C 557 8 2 false [s 4 0x4b4e4142, i 0, s 1 0x50, i 1000, s 1 0x51, i 1000, s 1 0x52, i 0]] [15, 139] EcAl10
noncomputable def EcAl13 : List (Nat × B) := ov [C 558 9 9 true [p 11 0, b false, b true, i 1, m 559, m 560, b false, b false, b false],
M 559 [] [] 0,
M 560 [] [] 0] [] EcAl11
noncomputable def EcAl14 : List (Nat × B) := ov [C 558 9 9 true [p 11 0, b false, b true, i 1, m 559, m 560, b false, b false, b false],
M 559 [] [] 0,
M 560 [] [] 0] [] EcAl12
noncomputable def EcAl79 : List (Nat × B) := ov [C 293 42 21 false [i 1, s 1 0x50, s 2 0x4150, s 2 0x4250, s 1 0x51, b true, s 1 0x58, s 3 0x525545, s 0 0, i 50, y 0 [(0, 1)], i 0, i 0, i 2, b false, b false, b false, i 3, i 2, i 50, y 0 [(0, 1)], i 2, s 1 0x51, s 2 0x4151, s 2 0x4251, s 1 0x50, b false, s 1 0x58, s 3 0x525545, s 0 0, i 50, y 0 [(0, 1)], i 0, i 0, i 1, b false, b false, b false, i 3, i 1, i 50, y 0 [(0, 1)]],
M 472 [(a [s 2 0x4251, s 1 0x59], a [i 1000, i 0, i 0]), (a [s 4 0x4b4e4142, s 3 0x525545], a [i 10000, i 0, i 0]), (a [s 2 0x4151, s 1 0x58], a [i 50, i 0, i 0])] [1, 2, 3] 4,
C 558 9 9 true [p 11 0, b false, b true, i 2, m 3869, m 3870, b true, b false, b true],
M 559 [(i 1, a [])] [0] 1,
C 1604 2 2 false [i 1, i 50],
C 1843 2 2 false [r 1604 1 1, ns],
M 3869 [] [] 0,
M 3870 [] [] 0] [293, 472, 558, 559] EcAl13
noncomputable def EcAl83 : List (Nat × B) := ov [C 5896 8 8 true [p 19 0, b false, b true, b false, b false, i 1, i 1, ns]] [] EcAl79
noncomputable def EcAl96 : List (Nat × B) := ov [C 293 42 21 false [i 1, s 1 0x50, s 2 0x4150, s 2 0x4250, s 1 0x51, b true, s 1 0x58, s 3 0x525545, s 0 0, i 50, y 0 [(0, 1)], i 0, i 0, i 2, b false, b false, b false, i 3, i 2, i 50, y 0 [(0, 1)], i 2, s 1 0x51, s 2 0x4151, s 2 0x4251, s 1 0x50, b false, s 1 0x58, s 3 0x525545, s 0 0, i 50, y 0 [(0, 1)], i 0, i 0, i 1, b false, b false, b false, i 3, i 1, i 50, y 0 [(0, 1)]],
M 472 [(a [s 2 0x4251, s 1 0x59], a [i 1000, i 0, i 0]), (a [s 2 0x4251, s 3 0x525545], a [y 0 [(0, -1), (1, 1)], i 0, i 0]), (a [s 4 0x4b4e4142, s 3 0x525545], a [i 10000, i 0, i 0]), (a [s 2 0x4250, s 3 0x525545], a [y 0 [(0, 1)], i 0, i 0]), (a [s 2 0x4151, s 1 0x58], a [i 50, i 0, i 0])] [1, 2, 3, 4, 5] 6,
C 558 9 9 true [p 11 0, b false, b true, i 2, m 3961, m 3962, b true, b false, b true],
M 559 [(i 1, a [])] [0] 1,
C 1604 2 2 false [i 1, i 50],
C 1935 2 2 false [r 1604 1 1, ns],
M 3961 [] [] 0,
M 3962 [] [] 0] [293, 472, 558, 559] EcAl14
noncomputable def EcAl97 : List (Nat × B) := ov [C 293 42 21 false [i 1, s 1 0x50, s 2 0x4150, s 2 0x4250, s 1 0x51, b true, s 1 0x58, s 3 0x525545, s 0 0, i 50, y 0 [(0, 1)], i 0, i 0, i 2, b false, b false, b false, i 3, i 2, i 50, y 0 [(0, 1)], i 2, s 1 0x51, s 2 0x4151, s 2 0x4251, s 1 0x50, b false, s 1 0x58, s 3 0x525545, s 0 0, i 50, y 0 [(0, 1)], i 0, i 0, i 1, b false, b false, b false, i 3, i 1, i 50, y 0 [(0, 1)]],
M 472 [(a [s 2 0x4251, s 1 0x59], a [i 1000, i 0, i 0]), (a [s 2 0x4251, s 3 0x525545], a [y 0 [(1, 1)], i 0, i 0]), (a [s 4 0x4b4e4142, s 3 0x525545], a [i 10000, i 0, i 0]), (a [s 2 0x4151, s 1 0x58], a [i 50, i 0, i 0])] [1, 2, 3, 4] 5,
C 558 9 9 true [p 11 0, b false, b true, i 2, m 3869, m 3870, b true, b false, b true],
M 559 [(i 1, a [])] [0] 1,
C 1604 2 2 false [i 1, i 50],
C 1843 2 2 false [r 1604 1 1, ns],
M 3869 [] [] 0,
M 3870 [] [] 0] [293, 472, 558, 559] EcAl14
noncomputable def EcAl98 : List (Nat × B) := ov [C 293 42 21 false [i 1, s 1 0x50, s 2 0x4150, s 2 0x4250, s 1 0x51, b true, s 1 0x58, s 3 0x525545, s 0 0, i 50, y 0 [(0, 1)], i 0, i 0, i 2, b false, b false, b false, i 3, i 2, i 50, y 0 [(0, 1)], i 2, s 1 0x51, s 2 0x4151, s 2 0x4251, s 1 0x50, b false, s 1 0x58, s 3 0x525545, s 0 0, i 50, y 0 [(0, 1)], i 0, i 0, i 1, b false, b false, b false, i 3, i 1, i 50, y 0 [(0, 1)]],
M 472 [(a [s 2 0x4251, s 1 0x59], a [i 1000, i 0, i 0]), (a [s 4 0x4b4e4142, s 3 0x525545], a [i 10000, i 0, i 0]), (a [s 2 0x4250, s 3 0x525545], a [y 0 [(0, 1)], i 0, i 0]), (a [s 2 0x4151, s 1 0x58], a [i 50, i 0, i 0])] [1, 3, 4, 5] 6,
C 558 9 9 true [p 11 0, b false, b true, i 2, m 3961, m 3962, b true, b false, b true],
M 559 [(i 1, a [])] [0] 1,
C 1604 2 2 false [i 1, i 50],
C 1935 2 2 false [r 1604 1 1, ns],
M 3961 [] [] 0,
M 3962 [] [] 0] [293, 472, 558, 559] EcAl14
noncomputable def EcAl100 : List (Nat × B) := ov [C 5896 8 8 true [p 19 0, b false, b true, b false, b false, i 1, i 1, ns]] [] EcAl97
noncomputable def EcAl101 : List (Nat × B) := ov [C 5988 8 8 true [p 19 0, b false, b true, b false, b false, i 1, i 1, ns]] [] EcAl96
noncomputable def EcAl102 : List (Nat × B) := ov [C 5988 8 8 true [p 19 0, b false, b true, b false, b false, i 1, i 1, ns]] [] EcAl98
noncomputable def EcAl195 : List (Nat × B) := ov [C 16 4 4 true [r 6137 5 5, ns, r 533 3 3, r 554 3 3],
C 17 1 1 true [r 6164 2 2],
C 5896 8 8 true [p 19 0, b false, b true, b true, b false, i 2, i 3, ns],
C 5939 2 2 false [i 1, i 50],
C 6137 25 5 false [s 4 0x4b4e4142, s 3 0x525545, i 10000, i 0, i 0, s 2 0x4150, s 1 0x58, i 0, i 0, i 0, s 2 0x4151, s 1 0x58, i 50, i 0, i 0, s 2 0x4251, s 3 0x525545, y 0 [(1, 1)], i 0, i 0, s 2 0x4251, s 1 0x59, i 1000, i 0, i 0],
C 6164 42 21 false [i 1, s 1 0x50, s 2 0x4150, s 2 0x4250, s 1 0x51, b true, s 1 0x58, s 3 0x525545, s 0 0, i 50, y 0 [(0, 1)], i 0, i 0, i 2, b false, b false, b false, i 3, i 2, i 50, y 0 [(0, 1)], i 2, s 1 0x51, s 2 0x4151, s 2 0x4251, s 1 0x50, b false, s 1 0x58, s 3 0x525545, s 0 0, i 50, y 0 [(0, 1)], i 0, i 0, i 1, b false, b false, b false, i 3, i 1, i 50, y 0 [(0, 1)]],
C 6167 2 2 false [r 5939 1 1, ns]] [16, 17, 5896] EcAl83
noncomputable def EcAl207 : List (Nat × B) := ov [C 16 4 4 true [r 6137 5 5, ns, r 533 3 3, r 554 3 3],
C 17 1 1 true [r 6164 2 2],
C 5896 8 8 true [p 19 0, b false, b true, b true, b false, i 2, i 3, ns],
C 5939 2 2 false [i 1, i 50],
C 6137 25 5 false [s 4 0x4b4e4142, s 3 0x525545, i 10000, i 0, i 0, s 2 0x4150, s 1 0x58, i 0, i 0, i 0, s 2 0x4151, s 1 0x58, i 50, i 0, i 0, s 2 0x4251, s 3 0x525545, y 0 [(1, 1)], i 0, i 0, s 2 0x4251, s 1 0x59, i 1000, i 0, i 0],
C 6164 42 21 false [i 1, s 1 0x50, s 2 0x4150, s 2 0x4250, s 1 0x51, b true, s 1 0x58, s 3 0x525545, s 0 0, i 50, y 0 [(0, 1)], i 0, i 0, i 2, b false, b false, b false, i 3, i 2, i 50, y 0 [(0, 1)], i 2, s 1 0x51, s 2 0x4151, s 2 0x4251, s 1 0x50, b false, s 1 0x58, s 3 0x525545, s 0 0, i 50, y 0 [(0, 1)], i 0, i 0, i 1, b false, b false, b false, i 3, i 1, i 50, y 0 [(0, 1)]],
C 6167 2 2 false [r 5939 1 1, ns]] [16, 17, 5896] EcAl100
noncomputable def EcAl209 : List (Nat × B) := ov [C 16 4 4 true [r 6407 6 6, ns, r 533 3 3, r 554 3 3],
C 17 1 1 true [r 6434 2 2],
C 5988 8 8 true [p 19 0, b false, b true, b true, b false, i 2, i 3, ns],
C 6031 2 2 false [i 1, i 50],
C 6407 30 5 false [s 4 0x4b4e4142, s 3 0x525545, i 10000, i 0, i 0, s 2 0x4150, s 1 0x58, i 0, i 0, i 0, s 2 0x4250, s 3 0x525545, y 0 [(0, 1)], i 0, i 0, s 2 0x4151, s 1 0x58, i 50, i 0, i 0, s 2 0x4251, s 3 0x525545, y 0 [(0, -1), (1, 1)], i 0, i 0, s 2 0x4251, s 1 0x59, i 1000, i 0, i 0],
C 6434 42 21 false [i 1, s 1 0x50, s 2 0x4150, s 2 0x4250, s 1 0x51, b true, s 1 0x58, s 3 0x525545, s 0 0, i 50, y 0 [(0, 1)], i 0, i 0, i 2, b false, b false, b false, i 3, i 2, i 50, y 0 [(0, 1)], i 2, s 1 0x51, s 2 0x4151, s 2 0x4251, s 1 0x50, b false, s 1 0x58, s 3 0x525545, s 0 0, i 50, y 0 [(0, 1)], i 0, i 0, i 1, b false, b false, b false, i 3, i 1, i 50, y 0 [(0, 1)]],
C 6437 2 2 false [r 6031 1 1, ns]] [16, 17, 5988] EcAl102
noncomputable def EcAl210 : List (Nat × B) := ov [C 16 4 4 true [r 6407 6 6, ns, r 533 3 3, r 554 3 3],
C 17 1 1 true [r 6434 2 2],
C 5988 8 8 true [p 19 0, b false, b true, b true, b false, i 2, i 3, ns],
C 6031 2 2 false [i 1, i 50],
C 6407 30 5 false [s 4 0x4b4e4142, s 3 0x525545, i 10000, i 0, i 0, s 2 0x4150, s 1 0x58, i 0, i 0, i 0, s 2 0x4250, s 3 0x525545, y 0 [(0, 1)], i 0, i 0, s 2 0x4151, s 1 0x58, i 50, i 0, i 0, s 2 0x4251, s 3 0x525545, y 0 [(0, -1), (1, 1)], i 0, i 0, s 2 0x4251, s 1 0x59, i 1000, i 0, i 0],
C 6434 42 21 false [i 1, s 1 0x50, s 2 0x4150, s 2 0x4250, s 1 0x51, b true, s 1 0x58, s 3 0x525545, s 0 0, i 50, y 0 [(0, 1)], i 0, i 0, i 2, b false, b false, b false, i 3, i 2, i 50, y 0 [(0, 1)], i 2, s 1 0x51, s 2 0x4151, s 2 0x4251, s 1 0x50, b false, s 1 0x58, s 3 0x525545, s 0 0, i 50, y 0 [(0, 1)], i 0, i 0, i 1, b false, b false, b false, i 3, i 1, i 50, y 0 [(0, 1)]],
C 6437 2 2 false [r 6031 1 1, ns]] [16, 17, 5988] EcAl101
end Go.Proofs.YtdfgedemolielaaGreat
/- complinelaw27.EodCredit: tables. -/
namespace Go.Proofs.YtdfgedemolielaaGreat
open Go Go.RowKit Gv Gv.Lt
set_option maxRecDepth 100000
abbrev ecaG0 : List LF := [(0,[(1,1),(0,-1)])]
abbrev ecaG1 : List LF := [(-1,[(0,-1),(1,1)]), (-1,[(0,1)]), (-1,[(1,1)]), (0,[(1,1),(0,-1)])]
abbrev ecaG2 : List LF := [(0,[(0,1),(1,-1)]), (-1,[(0,1)]), (-1,[(1,1)]), (0,[(1,1),(0,-1)])]
abbrev ecaG3 : List LF := [(0,[(0,-1)]), (-1,[(1,1)]), (0,[(1,1),(0,-1)])]
abbrev ecaG4 : List LF := [(0,[(0,-1)]), (0,[(1,-1)]), (0,[(1,1),(0,-1)])]
abbrev ecaG5 : List LF := [(-1,[(2,1)]), (0,[(0,1),(1,-1)]), (-1,[(0,1)]), (-1,[(1,1)]), (0,[(1,1),(0,-1)])]
abbrev ecaG6 : List LF := [(0,[(0,1),(2,-1),(1,-1)]), (0,[(2,-1)]), (0,[(0,1),(1,-1)]), (-1,[(0,1)]), (-1,[(1,1)]), (0,[(1,1),(0,-1)])]
abbrev ecaG7 : List LF := [(-1,[(2,1)]), (0,[(0,-1)]), (0,[(1,-1)]), (0,[(1,1),(0,-1)])]
abbrev ecaG8 : List LF := [(0,[(2,-1),(1,-1)]), (0,[(2,-1)]), (0,[(0,-1)]), (0,[(1,-1)]), (0,[(1,1),(0,-1)])]
def ecaI : List (Int × Int) := [(0, 400), (0, 1000), (0, 1000), (1, 27), (0, 9)]
def ecaArgs0 : List V := [.sint .i64 0 [(0,1)], .sint .i64 0 [(1,1)], .sint .i64 0 [(2,1)], .bool false]
def ecaArgs1 : List V := [.sint .i64 0 [(0,1)], .sint .i64 0 [(1,1)], .sint .i64 0 [(2,1)], .bool true]
noncomputable def ecaP0 : SN := ⟨6, [], EcAl0, 0, t [p 11 0, p 19 0, b true], EcAl1, 210⟩
noncomputable def ecaP64 : SN := ⟨12, [p 558 0], EcAl14, 561, r 1935 1 1, EcAl96, 5988⟩
noncomputable def ecaP142 : SN := ⟨82, [p 5988 0], EcAl101, 5989, r 6437 1 1, EcAl210, 6476⟩
noncomputable def ecaP66 : SN := ⟨12, [p 558 0], EcAl14, 561, r 1935 1 1, EcAl98, 5988⟩
noncomputable def ecaP141 : SN := ⟨82, [p 5988 0], EcAl102, 5989, r 6437 1 1, EcAl209, 6476⟩
noncomputable def ecaP65 : SN := ⟨12, [p 558 0], EcAl14, 561, r 1843 1 1, EcAl97, 5896⟩
noncomputable def ecaP139 : SN := ⟨82, [p 5896 0], EcAl100, 5897, r 6167 1 1, EcAl207, 6206⟩
noncomputable def ecaP51 : SN := ⟨12, [p 558 0], EcAl13, 561, r 1843 1 1, EcAl79, 5896⟩
noncomputable def ecaP122 : SN := ⟨82, [p 5896 0], EcAl83, 5897, r 6167 1 1, EcAl195, 6206⟩
noncomputable abbrev ecaE (ks : List SN) (bd : List (Int × Int)) (ge : List LF) : Env := evE Tryz.prog (orHk (hkS ks) (libS bd ge (orHk (oneH 407 (sumF (evE Tryz.prog (fun _ => none) bd ge []))) (orHk (hkT ecTA) (mapsH bd ge [⟨2, .i64, (-10,[(3,10),(4,1)]), (10,[]), 4⟩] nilH))))) bd ge [⟨2, .i64, (-10,[(3,10),(4,1)]), (10,[]), 4⟩]
abbrev ecaNL : List NL := [⟨2, .i64, (-10,[(3,10),(4,1)]), (10,[]), 4⟩]
abbrev ecaC (ks : List SN) (ge : List LF) (f : Nat) (t : SN) : Prop := isSn t (callN (ecaE ks ecaI ge) 100 f t.args t.h0) = true
theorem eca_sc {G : Gh} {t t' : SN} (ok : SNOk Tryz.prog G t') (ha : ∀ φ, concL G φ t'.args = concL G φ t.args) (hv : ∀ φ, conc G φ t.v = conc G φ t'.v) (hf : t'.f = t.f := by rfl) (h0 : t'.l0 = t.l0 := by rfl) (hn0 : t'.n0 = t.n0 := by rfl) (h1 : t'.l1 = t.l1 := by rfl) (hn1 : t'.n1 ≤ t.n1 := by show (_ : Nat) ≤ _; decide) : SNOk Tryz.prog G t :=
 sn_case hf (fun φ _ h => (ha φ).trans h) h0 hn0 h1 hn1 (fun φ _ h => (hv φ).trans h) ok
theorem ecaN {G : Gh} : ∀ t ∈ ([] : List SN), SNOk Tryz.prog G t := fun _ h => nomatch h
theorem ecaH {G : Gh} {bd : List (Int × Int)} {ge : List LF} (F : Facts G bd ge [⟨2, .i64, (-10,[(3,10),(4,1)]), (10,[]), 4⟩]) (hm : ¬ G.mono) (hT : HooksOk Tryz.prog G (hkT ecTA)) {ks : List SN} (hk : ∀ t ∈ ks, SNOk Tryz.prog G t) : HooksOk Tryz.prog G (orHk (hkS ks) (libS bd ge (orHk (oneH 407 (sumF (evE Tryz.prog (fun _ => none) bd ge []))) (orHk (hkT ecTA) (mapsH bd ge [⟨2, .i64, (-10,[(3,10),(4,1)]), (10,[]), 4⟩] nilH))))) := orHk_ok (hkS_ok progOk ks hk) (libS_ok F (orHk_ok (oneH_ok (sumF_ok hm (env_ok progOk F))) (orHk_ok hT (mapsH_ok F nilH_ok hm))) hm)
abbrev ecaS (ge : List LF) (t : SN) : Prop := ∀ {G : Gh}, Facts G ecaI ge ecaNL → ¬ G.mono → HooksOk Tryz.prog G (hkT ecTA) → SNOk Tryz.prog G t
theorem ecaK {G : Gh} {t : SN} {ks : List SN} (a : SNOk Tryz.prog G t) (b : ∀ p ∈ ks, SNOk Tryz.prog G p) : ∀ p ∈ t :: ks, SNOk Tryz.prog G p := List.forall_mem_cons.2 ⟨a, b⟩
theorem eca_piece {ge : List LF} {ks : List SN} {t : SN} {fn : Func} {c : Go.Code} (hf : Tryz.prog.funcs[t.f]? = some fn) (hb : fn.body = some c) (r : isSn t (callN (ecaE ks ecaI ge) 100 t.f t.args t.h0) = true) (kids : ∀ {G : Gh}, Facts G ecaI ge ecaNL → ¬ G.mono → HooksOk Tryz.prog G (hkT ecTA) → ∀ p ∈ ks, SNOk Tryz.prog G p) : ecaS ge t := fun F hm hT => snap_ok progOk F (ecaH F hm hT (kids F hm hT)) 100 t hf hb r
end Go.Proofs.YtdfgedemolielaaGreat
