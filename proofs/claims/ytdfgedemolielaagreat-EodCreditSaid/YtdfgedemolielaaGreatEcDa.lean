/- complinelaw27.EodCredit: states, part 0. -/
import Derived.Test.YtdfgedemolielaaGreatEcHt
namespace Go.Proofs.YtdfgedemolielaaGreat
open Go Gv Gv.Lt
noncomputable def EcDl0 : List (Nat × B) := []
noncomputable def EcDl1 : List (Nat × B) := [C 0 1 1 true [ns],
C 1 2 2 true [p 0 0, ns],
C 2 1 1 true [m 3],
M 3 [] [] 0,
C 6 4 4 true [p 2 0, m 139, m 153, m 184],
C 7 1 1 true [nm],
C 8 3 3 true [p 7 0, nm, nm],
C 9 1 1 true [ns],
C 10 1 1 true [nm],
C 11 6 6 true [p 6 0, p 8 0, p 9 0, p 1 0, p 10 0, i 0],
C 12 2 2 true [ns, ns],
C 15 4 4 true [ns, r 105 4 4, r 106 7 7, r 138 5 5],
C 16 4 4 true [ns, ns, ns, ns],
C 17 1 1 true [ns],
C 18 1 1 true [ns],
C 19 6 6 true [p 15 0, p 16 0, p 17 0, p 12 0, p 18 0, i 0],
C 105 8 2 false [s 4 0x4b4e4142, i 0, s 1 0x50, i 1000, s 1 0x51, i 100, s 1 0x52, i 0],
C 106 14 2 false [s 4 0x4b4e4142, s 4 0x4b4e4142, s 2 0x4150, s 1 0x50, s 2 0x4250, s 1 0x50, s 2 0x4151, s 1 0x51, s 2 0x4251, s 1 0x51, s 2 0x4152, s 1 0x52, s 2 0x4252, s 1 0x52],
C 138 40 8 false [s 3 0x525545, b true, b false, i 1, i 1, i 0, i 0, i 2, s 3 0x445355, b true, b false, i 1, i 1, i 0, i 0, i 0, s 1 0x58, b false, b true, i 1, i 1, i 10, i 1000, i 0, s 1 0x59, b false, b true, i 10, i 20, i 3, i 5000, i 0, s 1 0x5a, b false, b false, i 5, i 10, i 7, i 0, i 0],
M 139 [(s 4 0x4b4e4142, a [s 4 0x4b4e4142, i 0]), (s 1 0x50, a [s 1 0x50, i 1000]), (s 1 0x51, a [s 1 0x51, i 100]), (s 1 0x52, a [s 1 0x52, i 0])] [0, 1, 2, 3] 4,
M 153 [(s 4 0x4b4e4142, a [s 4 0x4b4e4142, s 4 0x4b4e4142]), (s 2 0x4150, a [s 2 0x4150, s 1 0x50]), (s 2 0x4250, a [s 2 0x4250, s 1 0x50]), (s 2 0x4151, a [s 2 0x4151, s 1 0x51]), (s 2 0x4251, a [s 2 0x4251, s 1 0x51]), (s 2 0x4152, a [s 2 0x4152, s 1 0x52]), (s 2 0x4252, a [s 2 0x4252, s 1 0x52])] [0, 1, 2, 3, 4, 5, 6] 7,
M 184 [(s 1 0x58, a [s 1 0x58, b false, b true, i 1, i 1, i 10, i 1000, i 0]), (s 1 0x59, a [s 1 0x59, b false, b true, i 10, i 20, i 3, i 5000, i 0]), (s 1 0x5a, a [s 1 0x5a, b false, b false, i 5, i 10, i 7, i 0, i 0]), (s 3 0x525545, a [s 3 0x525545, b true, b false, i 1, i 1, i 0, i 0, i 2]), (s 3 0x445355, a [s 3 0x445355, b true, b false, i 1, i 1, i 0, i 0, i 0])] [0, 1, 2, 3, 4] 5]
noncomputable def EcDl2 : List (Nat × B) := ov [C 210 154 22 true [i 19, i 0, i 0, s 1 0x50, s 2 0x4150, s 2 0x4250, s 1 0x51, b true, s 1 0x58, s 3 0x525545, s 0 0, i 50, y 0 [(0, 1)], i 0, i 0, b false, b false, s 0 0, s 0 0, s 0 0, ns, ns, i 8, i 0, i 0, s 0 0, s 0 0, s 0 0, s 0 0, b false, s 0 0, s 0 0, s 0 0, i 0, i 0, i 0, i 0, b false, b false, s 0 0, s 0 0, s 0 0, ns, ns, i 9, i 50, i 0, s 0 0, s 0 0, s 0 0, s 0 0, b false, s 0 0, s 0 0, s 0 0, i 0, i 0, i 0, i 0, b false, b false, s 0 0, s 2 0x4150, s 1 0x58, ns, ns, i 9, i 1000, i 0, s 0 0, s 0 0, s 0 0, s 0 0, b false, s 0 0, s 0 0, s 0 0, i 0, i 0, i 0, i 0, b false, b false, s 0 0, s 2 0x4251, s 1 0x59, ns, ns, i 9, y 0 [(1, 1)], i 0, s 0 0, s 0 0, s 0 0, s 0 0, b false, s 0 0, s 0 0, s 0 0, i 0, i 0, i 0, i 0, b false, b false, s 0 0, s 2 0x4251, s 3 0x525545, ns, ns, i 9, i 10000, i 0, s 0 0, s 0 0, s 0 0, s 0 0, b false, s 0 0, s 0 0, s 0 0, i 0, i 0, i 0, i 0, b false, b false, s 0 0, s 4 0x4b4e4142, s 3 0x525545, ns, ns, i 13, i 1000, i 0, s 0 0, s 0 0, s 0 0, s 0 0, b false, s 0 0, s 0 0, s 0 0, i 0, i 0, i 0, i 0, b false, b false, s 1 0x51, s 0 0, s 0 0, ns, ns]] [] EcDl1
noncomputable def EcDl3 : List (Nat × B) := ov [C 0 1 1 true [r 295 2 2],
C 9 1 1 true [r 293 2 2],
C 12 2 2 true [r 316 2 2, ns],
C 17 1 1 true [r 313 2 2],
C 293 42 21 false [i 1, s 1 0x50, s 2 0x4150, s 2 0x4250, s 1 0x51, b true, s 1 0x58, s 3 0x525545, s 0 0, i 50, y 0 [(0, 1)], i 0, i 0, i 2, b false, b false, b false, i 0, i 0, i 0, i 0, i 2, s 1 0x51, s 2 0x4151, s 2 0x4251, s 1 0x50, b false, s 1 0x58, s 3 0x525545, s 0 0, i 50, y 0 [(0, 1)], i 0, i 0, i 1, b false, b false, b false, i 0, i 0, i 0, i 0],
C 295 2 1 false [i 1, i 2],
C 313 42 21 false [i 1, s 1 0x50, s 2 0x4150, s 2 0x4250, s 1 0x51, b true, s 1 0x58, s 3 0x525545, s 0 0, i 50, y 0 [(0, 1)], i 0, i 0, i 2, b false, b false, b false, i 0, i 0, i 0, i 0, i 2, s 1 0x51, s 2 0x4151, s 2 0x4251, s 1 0x50, b false, s 1 0x58, s 3 0x525545, s 0 0, i 50, y 0 [(0, 1)], i 0, i 0, i 1, b false, b false, b false, i 0, i 0, i 0, i 0],
C 316 2 1 false [i 1, i 2]] [0, 9, 12, 17] EcDl2
noncomputable def EcDl4 : List (Nat × B) := ov [C 17 1 1 true [r 463 2 2],
C 19 6 6 true [p 15 0, p 16 0, p 17 0, p 444 0, p 18 0, i 0],
C 293 42 21 false [i 1, s 1 0x50, s 2 0x4150, s 2 0x4250, s 1 0x51, b true, s 1 0x58, s 3 0x525545, s 0 0, i 50, y 0 [(0, 1)], i 0, i 0, i 2, b false, b false, b false, i 1, i 2, i 0, i 0, i 2, s 1 0x51, s 2 0x4151, s 2 0x4251, s 1 0x50, b false, s 1 0x58, s 3 0x525545, s 0 0, i 50, y 0 [(0, 1)], i 0, i 0, i 1, b false, b false, b false, i 1, i 1, i 0, i 0],
C 295 2 1 false [i 1, i 1],
C 444 2 2 true [r 446 2 2, ns],
C 446 2 1 false [i 1, i 1],
C 463 42 21 false [i 1, s 1 0x50, s 2 0x4150, s 2 0x4250, s 1 0x51, b true, s 1 0x58, s 3 0x525545, s 0 0, i 50, y 0 [(0, 1)], i 0, i 0, i 2, b false, b false, b false, i 1, i 2, i 0, i 0, i 2, s 1 0x51, s 2 0x4151, s 2 0x4251, s 1 0x50, b false, s 1 0x58, s 3 0x525545, s 0 0, i 50, y 0 [(0, 1)], i 0, i 0, i 1, b false, b false, b false, i 1, i 1, i 0, i 0]] [17, 19, 293, 295] EcDl3
noncomputable def EcDl5 : List (Nat × B) := ov [C 7 1 1 true [m 472],
C 8 3 3 true [p 7 0, m 473, nm],
C 16 4 4 true [r 480 1 1, ns, r 482 1 1, r 484 1 1],
M 472 [(a [s 2 0x4150, s 1 0x58], a [i 50, i 0, i 0])] [0] 1,
M 473 [(s 1 0x58, i 50)] [0] 1,
C 480 5 5 false [s 2 0x4150, s 1 0x58, i 50, i 0, i 0],
C 482 1 1 false [s 1 0x58],
C 484 1 1 false [i 50]] [7, 8, 16] EcDl4
noncomputable def EcDl6 : List (Nat × B) := ov [C 16 4 4 true [r 501 2 2, ns, r 505 2 2, r 509 2 2],
M 472 [(a [s 2 0x4150, s 1 0x58], a [i 50, i 0, i 0]), (a [s 2 0x4251, s 1 0x59], a [i 1000, i 0, i 0])] [0, 1] 2,
M 473 [(s 1 0x58, i 50), (s 1 0x59, i 1000)] [0, 1] 2,
C 501 10 5 false [s 2 0x4150, s 1 0x58, i 50, i 0, i 0, s 2 0x4251, s 1 0x59, i 1000, i 0, i 0],
C 505 2 1 false [s 1 0x58, s 1 0x59],
C 509 2 1 false [i 50, i 1000]] [16, 472, 473] EcDl5
noncomputable def EcDl7 : List (Nat × B) := ov [C 16 4 4 true [r 530 3 3, ns, r 533 3 3, r 536 3 3],
M 473 [(s 1 0x58, i 50), (s 1 0x59, i 1000), (s 3 0x525545, y 0 [(1, 1)])] [0, 1, 2] 3,
C 530 15 5 false [s 2 0x4150, s 1 0x58, i 50, i 0, i 0, s 2 0x4251, s 3 0x525545, y 0 [(1, 1)], i 0, i 0, s 2 0x4251, s 1 0x59, i 1000, i 0, i 0],
C 533 3 1 false [s 3 0x525545, s 1 0x58, s 1 0x59],
C 536 3 1 false [y 0 [(1, 1)], i 50, i 1000]] [16, 473] EcDl6
noncomputable def EcDl8 : List (Nat × B) := ov [C 16 4 4 true [r 553 4 4, ns, r 533 3 3, r 554 3 3],
M 472 [(a [s 2 0x4150, s 1 0x58], a [i 50, i 0, i 0]), (a [s 2 0x4251, s 1 0x59], a [i 1000, i 0, i 0]), (a [s 4 0x4b4e4142, s 3 0x525545], a [i 10000, i 0, i 0])] [0, 1, 2] 3,
M 473 [(s 1 0x58, i 50), (s 1 0x59, i 1000), (s 3 0x525545, y 10000 [(1, 1)])] [0, 1, 2] 3,
C 553 20 5 false [s 4 0x4b4e4142, s 3 0x525545, i 10000, i 0, i 0, s 2 0x4150, s 1 0x58, i 50, i 0, i 0, s 2 0x4251, s 3 0x525545, y 0 [(1, 1)], i 0, i 0, s 2 0x4251, s 1 0x59, i 1000, i 0, i 0],
C 554 3 1 false [y 10000 [(1, 1)], i 50, i 1000]] [16, 472, 473] EcDl7
noncomputable def EcDl9 : List (Nat × B) := ov [C 15 4 4 true [ns, r 557 4 4, r 106 7 7, r 138 5 5],
M 139 [(s 4 0x4b4e4142, a [s 4 0x4b4e4142, i 0]), (s 1 0x50, a [s 1 0x50, i 1000]), (s 1 0x51, a [s 1 0x51, i 1000]), (s 1 0x52, a [s 1 0x52, i 0])] [0, 1, 2, 3] 4,
C 557 8 2 false [s 4 0x4b4e4142, i 0, s 1 0x50, i 1000, s 1 0x51, i 1000, s 1 0x52, i 0]] [15, 139] EcDl8
noncomputable def EcDl10 : List (Nat × B) := ov [C 558 9 9 true [p 11 0, b false, b true, i 1, m 559, m 560, b false, b false, b false],
M 559 [] [] 0,
M 560 [] [] 0] [] EcDl9
noncomputable def EcDl36 : List (Nat × B) := ov [C 10 1 1 true [m 2520],
C 293 42 21 false [i 1, s 1 0x50, s 2 0x4150, s 2 0x4250, s 1 0x51, b true, s 1 0x58, s 3 0x525545, s 0 0, i 50, y 0 [(0, 1)], i 0, i 0, i 2, b false, b false, b false, i 3, i 2, i 50, y 0 [(0, 1)], i 2, s 1 0x51, s 2 0x4151, s 2 0x4251, s 1 0x50, b false, s 1 0x58, s 3 0x525545, s 0 0, i 50, y 0 [(0, 1)], i 0, i 0, i 1, b false, b false, b false, i 3, i 1, i 50, y 0 [(0, 1)]],
M 472 [(a [s 2 0x4251, s 1 0x59], a [y 1000 [(3, -10)], i 0, y 0 [(3, 10)]]), (a [s 4 0x4b4e4142, s 3 0x525545], a [y 10000 [(0, -1)], i 0, i 0]), (a [s 2 0x4250, s 3 0x525545], a [y 0 [(0, 1)], i 0, i 0]), (a [s 2 0x4151, s 1 0x58], a [i 50, i 0, i 0])] [1, 2, 3, 4] 5,
C 558 9 9 true [p 11 0, b false, b true, i 2, m 4558, m 4559, b true, b false, b true],
M 559 [(i 1, a [])] [0] 1,
C 1604 2 2 false [i 1, i 50],
C 1855 2 2 false [s 1 0x59, y 0 [(3, 10)]],
C 1857 4 4 false [s 2 0x4251, s 3 0x525545, y 0 [(0, 1)], r 1855 1 1],
M 2520 [(a [s 2 0x4251, s 3 0x525545], a [s 1 0x51, s 2 0x4251, s 3 0x525545, y 0 [(0, 1)], r 2529 1 1])] [0] 1,
C 2529 2 2 false [s 1 0x59, y 0 [(3, 10)]],
C 2532 2 2 false [r 1604 1 1, r 1857 1 1],
M 4558 [] [] 0,
M 4559 [] [] 0] [10, 293, 472, 558, 559] EcDl10
noncomputable def EcDl37 : List (Nat × B) := ov [C 6585 8 8 true [p 19 0, b false, b true, b false, b false, i 1, i 1, ns]] [] EcDl36
noncomputable def EcDl67 : List (Nat × B) := ov [C 16 4 4 true [r 7716 6 6, ns, r 533 3 3, r 554 3 3],
C 17 1 1 true [r 7743 2 2],
C 18 1 1 true [r 7765 1 1],
C 6585 8 8 true [p 19 0, b false, b true, b true, b false, i 2, i 3, ns],
C 6628 2 2 false [i 1, i 50],
C 6830 2 2 false [s 1 0x59, y 0 [(3, 10)]],
C 6832 4 4 false [s 2 0x4251, s 3 0x525545, y 0 [(0, 1), (1, -1)], r 6830 1 1],
C 7716 30 5 false [s 4 0x4b4e4142, s 3 0x525545, y 10000 [(0, -1), (1, 1)], i 0, i 0, s 2 0x4150, s 1 0x58, i 0, i 0, i 0, s 2 0x4250, s 3 0x525545, y 0 [(0, 1)], i 0, i 0, s 2 0x4151, s 1 0x58, i 50, i 0, i 0, s 2 0x4251, s 3 0x525545, i 0, i 0, i 0, s 2 0x4251, s 1 0x59, y 1000 [(3, -10)], i 0, y 0 [(3, 10)]],
C 7743 42 21 false [i 1, s 1 0x50, s 2 0x4150, s 2 0x4250, s 1 0x51, b true, s 1 0x58, s 3 0x525545, s 0 0, i 50, y 0 [(0, 1)], i 0, i 0, i 2, b false, b false, b false, i 3, i 2, i 50, y 0 [(0, 1)], i 2, s 1 0x51, s 2 0x4151, s 2 0x4251, s 1 0x50, b false, s 1 0x58, s 3 0x525545, s 0 0, i 50, y 0 [(0, 1)], i 0, i 0, i 1, b false, b false, b false, i 3, i 1, i 50, y 0 [(0, 1)]],
C 7763 2 2 false [s 1 0x59, y 0 [(3, 10)]],
C 7765 5 5 false [s 1 0x51, s 2 0x4251, s 3 0x525545, y 0 [(0, 1), (1, -1)], r 7763 1 1],
C 7768 2 2 false [r 6628 1 1, r 6832 1 1]] [16, 17, 18, 6585] EcDl37
end Go.Proofs.YtdfgedemolielaaGreat
/- complinelaw27.EodCredit: tables. -/
namespace Go.Proofs.YtdfgedemolielaaGreat
open Go Go.RowKit Gv Gv.Lt
set_option maxRecDepth 100000
abbrev ecdG0 : List LF := [(0,[(1,-1)]), (-1,[(0,1),(1,-1)]), (0,[(3,15),(0,-1),(1,1)]), (14,[(0,1),(1,-1),(3,-15)])]
abbrev ecdG1 : List LF := [(0,[(0,-1),(3,15)]), (0,[(1,-1)]), (-1,[(0,1),(1,-1)]), (0,[(3,15),(0,-1),(1,1)]), (14,[(0,1),(1,-1),(3,-15)])]
abbrev ecdG2 : List LF := [(-1,[(0,-1),(1,1),(3,15)]), (0,[(0,-1),(3,15)]), (0,[(1,-1)]), (-1,[(0,1),(1,-1)]), (0,[(3,15),(0,-1),(1,1)]), (14,[(0,1),(1,-1),(3,-15)])]
abbrev ecdG3 : List LF := [(0,[(0,1),(1,-1),(3,-15)]), (0,[(0,-1),(3,15)]), (0,[(1,-1)]), (-1,[(0,1),(1,-1)]), (0,[(3,15),(0,-1),(1,1)]), (14,[(0,1),(1,-1),(3,-15)])]
abbrev ecdG4 : List LF := [(-1,[(2,1),(0,-1)]), (-1,[(2,1)]), (-1,[(0,-1),(1,1),(3,15)]), (0,[(0,-1),(3,15)]), (0,[(1,-1)]), (-1,[(0,1),(1,-1)]), (0,[(3,15),(0,-1),(1,1)]), (14,[(0,1),(1,-1),(3,-15)])]
abbrev ecdG5 : List LF := [(-1,[(0,1),(2,-1)]), (0,[(2,-1),(0,1)]), (-1,[(2,1)]), (-1,[(0,-1),(1,1),(3,15)]), (0,[(0,-1),(3,15)]), (0,[(1,-1)]), (-1,[(0,1),(1,-1)]), (0,[(3,15),(0,-1),(1,1)]), (14,[(0,1),(1,-1),(3,-15)])]
abbrev ecdG6 : List LF := [(0,[(0,-1),(2,1)]), (0,[(2,-1),(0,1)]), (-1,[(2,1)]), (-1,[(0,-1),(1,1),(3,15)]), (0,[(0,-1),(3,15)]), (0,[(1,-1)]), (-1,[(0,1),(1,-1)]), (0,[(3,15),(0,-1),(1,1)]), (14,[(0,1),(1,-1),(3,-15)])]
abbrev ecdG7 : List LF := [(0,[(2,-1),(1,-1)]), (0,[(2,-1)]), (-1,[(0,-1),(1,1),(3,15)]), (0,[(0,-1),(3,15)]), (0,[(1,-1)]), (-1,[(0,1),(1,-1)]), (0,[(3,15),(0,-1),(1,1)]), (14,[(0,1),(1,-1),(3,-15)])]
abbrev ecdG8 : List LF := [(-1,[(2,1),(0,-1)]), (-1,[(2,1)]), (0,[(0,1),(1,-1),(3,-15)]), (0,[(0,-1),(3,15)]), (0,[(1,-1)]), (-1,[(0,1),(1,-1)]), (0,[(3,15),(0,-1),(1,1)]), (14,[(0,1),(1,-1),(3,-15)])]
abbrev ecdG9 : List LF := [(-1,[(0,1),(2,-1)]), (0,[(2,-1),(0,1)]), (-1,[(2,1)]), (0,[(0,1),(1,-1),(3,-15)]), (0,[(0,-1),(3,15)]), (0,[(1,-1)]), (-1,[(0,1),(1,-1)]), (0,[(3,15),(0,-1),(1,1)]), (14,[(0,1),(1,-1),(3,-15)])]
abbrev ecdG10 : List LF := [(0,[(0,-1),(2,1)]), (0,[(2,-1),(0,1)]), (-1,[(2,1)]), (0,[(0,1),(1,-1),(3,-15)]), (0,[(0,-1),(3,15)]), (0,[(1,-1)]), (-1,[(0,1),(1,-1)]), (0,[(3,15),(0,-1),(1,1)]), (14,[(0,1),(1,-1),(3,-15)])]
abbrev ecdG11 : List LF := [(0,[(2,-1),(1,-1)]), (0,[(2,-1)]), (0,[(0,1),(1,-1),(3,-15)]), (0,[(0,-1),(3,15)]), (0,[(1,-1)]), (-1,[(0,1),(1,-1)]), (0,[(3,15),(0,-1),(1,1)]), (14,[(0,1),(1,-1),(3,-15)])]
abbrev ecdG12 : List LF := [(0,[(2,-1),(0,1)]), (-1,[(2,1)]), (-1,[(0,-1),(1,1),(3,15)]), (0,[(0,-1),(3,15)]), (0,[(1,-1)]), (-1,[(0,1),(1,-1)]), (0,[(3,15),(0,-1),(1,1)]), (14,[(0,1),(1,-1),(3,-15)])]
abbrev ecdG13 : List LF := [(0,[(2,-1),(0,1)]), (-1,[(2,1)]), (0,[(0,1),(1,-1),(3,-15)]), (0,[(0,-1),(3,15)]), (0,[(1,-1)]), (-1,[(0,1),(1,-1)]), (0,[(3,15),(0,-1),(1,1)]), (14,[(0,1),(1,-1),(3,-15)])]
def ecdI : List (Int × Int) := [(0, 400), (0, 1000), (0, 1000), (1, 27), (0, 9)]
def ecdArgs0 : List V := [.sint .i64 0 [(0,1)], .sint .i64 0 [(1,1)], .sint .i64 0 [(2,1)], .bool false]
def ecdArgs1 : List V := [.sint .i64 0 [(0,1)], .sint .i64 0 [(1,1)], .sint .i64 0 [(2,1)], .bool true]
noncomputable def ecdP0 : SN := ⟨6, [], EcDl0, 0, t [p 11 0, p 19 0, b true], EcDl1, 210⟩
noncomputable def ecdP24 : SN := ⟨12, [p 558 0], EcDl10, 561, r 2532 1 1, EcDl36, 6585⟩
noncomputable def ecdP63 : SN := ⟨82, [p 6585 0], EcDl37, 6586, r 7768 1 1, EcDl67, 7807⟩
noncomputable def ecdP64 : SN := ⟨82, [p 6585 0], EcDl37, 6586, r 7768 1 1, EcDl67, 7807⟩
noncomputable abbrev ecdE (ks : List SN) (bd : List (Int × Int)) (ge : List LF) : Env := evE Tryz.prog (orHk (hkS ks) (libS bd ge (orHk (oneH 407 (sumF (evE Tryz.prog (fun _ => none) bd ge []))) (orHk (hkT ecTD) (mapsH bd ge [⟨2, .i64, (-10,[(3,10),(4,1)]), (10,[]), 4⟩] nilH))))) bd ge [⟨2, .i64, (-10,[(3,10),(4,1)]), (10,[]), 4⟩]
abbrev ecdNL : List NL := [⟨2, .i64, (-10,[(3,10),(4,1)]), (10,[]), 4⟩]
abbrev ecdC (ks : List SN) (ge : List LF) (f : Nat) (t : SN) : Prop := isSn t (callN (ecdE ks ecdI ge) 100 f t.args t.h0) = true
theorem ecd_sc {G : Gh} {t t' : SN} (ok : SNOk Tryz.prog G t') (ha : ∀ φ, concL G φ t'.args = concL G φ t.args) (hv : ∀ φ, conc G φ t.v = conc G φ t'.v) (hf : t'.f = t.f := by rfl) (h0 : t'.l0 = t.l0 := by rfl) (hn0 : t'.n0 = t.n0 := by rfl) (h1 : t'.l1 = t.l1 := by rfl) (hn1 : t'.n1 ≤ t.n1 := by show (_ : Nat) ≤ _; decide) : SNOk Tryz.prog G t :=
 sn_case hf (fun φ _ h => (ha φ).trans h) h0 hn0 h1 hn1 (fun φ _ h => (hv φ).trans h) ok
theorem ecdN {G : Gh} : ∀ t ∈ ([] : List SN), SNOk Tryz.prog G t := fun _ h => nomatch h
theorem ecdH {G : Gh} {bd : List (Int × Int)} {ge : List LF} (F : Facts G bd ge [⟨2, .i64, (-10,[(3,10),(4,1)]), (10,[]), 4⟩]) (hm : ¬ G.mono) (hT : HooksOk Tryz.prog G (hkT ecTD)) {ks : List SN} (hk : ∀ t ∈ ks, SNOk Tryz.prog G t) : HooksOk Tryz.prog G (orHk (hkS ks) (libS bd ge (orHk (oneH 407 (sumF (evE Tryz.prog (fun _ => none) bd ge []))) (orHk (hkT ecTD) (mapsH bd ge [⟨2, .i64, (-10,[(3,10),(4,1)]), (10,[]), 4⟩] nilH))))) := orHk_ok (hkS_ok progOk ks hk) (libS_ok F (orHk_ok (oneH_ok (sumF_ok hm (env_ok progOk F))) (orHk_ok hT (mapsH_ok F nilH_ok hm))) hm)
abbrev ecdS (ge : List LF) (t : SN) : Prop := ∀ {G : Gh}, Facts G ecdI ge ecdNL → ¬ G.mono → HooksOk Tryz.prog G (hkT ecTD) → SNOk Tryz.prog G t
theorem ecdK {G : Gh} {t : SN} {ks : List SN} (a : SNOk Tryz.prog G t) (b : ∀ p ∈ ks, SNOk Tryz.prog G p) : ∀ p ∈ t :: ks, SNOk Tryz.prog G p := List.forall_mem_cons.2 ⟨a, b⟩
theorem ecd_piece {ge : List LF} {ks : List SN} {t : SN} {fn : Func} {c : Go.Code} (hf : Tryz.prog.funcs[t.f]? = some fn) (hb : fn.body = some c) (r : isSn t (callN (ecdE ks ecdI ge) 100 t.f t.args t.h0) = true) (kids : ∀ {G : Gh}, Facts G ecdI ge ecdNL → ¬ G.mono → HooksOk Tryz.prog G (hkT ecTD) → ∀ p ∈ ks, SNOk Tryz.prog G p) : ecdS ge t := fun F hm hT => snap_ok progOk F (ecdH F hm hT (kids F hm hT)) 100 t hf hb r
end Go.Proofs.YtdfgedemolielaaGreat
