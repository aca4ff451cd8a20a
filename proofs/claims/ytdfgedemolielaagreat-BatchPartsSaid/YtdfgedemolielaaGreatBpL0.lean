/- complinelaw26.BatchParts: states, part 0. -/
import Derived.Test.YtdfgedemolielaaGreatBpHt
namespace Go.Proofs.YtdfgedemolielaaGreat
open Go Gv Gv.Lt
noncomputable def Bpl0 : List (Nat × B) := []
noncomputable def Bpl1 : List (Nat × B) := [C 0 1 1 true [ns],
C 1 2 2 true [p 0 0, ns],
C 2 1 1 true [m 3],
M 3 [] [] 0,
C 6 4 4 true [p 2 0, m 139, m 153, m 184],
C 7 1 1 true [nm],
C 8 3 3 true [p 7 0, nm, nm],
C 9 1 1 true [ns],
C 10 1 1 true [nm],
C 11 6 6 true [p 6 0, p 8 0, p 9 0, p 1 0, p 10 0, i 0],
C 12 2 2 true [ns, ns],
C 15 4 4 true [ns, r 105 4 4, r 106 7 7, r 138 5 5],
C 16 4 4 true [ns, ns, ns, ns],
C 17 1 1 true [ns],
C 18 1 1 true [ns],
C 19 6 6 true [p 15 0, p 16 0, p 17 0, p 12 0, p 18 0, i 0],
C 105 8 2 false [s 4 0x4b4e4142, i 0, s 1 0x50, i 1000, s 1 0x51, i 100, s 1 0x52, i 0],
C 106 14 2 false [s 4 0x4b4e4142, s 4 0x4b4e4142, s 2 0x4150, s 1 0x50, s 2 0x4250, s 1 0x50, s 2 0x4151, s 1 0x51, s 2 0x4251, s 1 0x51, s 2 0x4152, s 1 0x52, s 2 0x4252, s 1 0x52],
C 138 40 8 false [s 3 0x525545, b true, b false, i 1, i 1, i 0, i 0, i 2, s 3 0x445355, b true, b false, i 1, i 1, i 0, i 0, i 0, s 1 0x58, b false, b true, i 1, i 1, i 10, i 1000, i 0, s 1 0x59, b false, b true, i 10, i 20, i 3, i 5000, i 0, s 1 0x5a, b false, b false, i 5, i 10, i 7, i 0, i 0],
M 139 [(s 4 0x4b4e4142, a [s 4 0x4b4e4142, i 0]), (s 1 0x50, a [s 1 0x50, i 1000]), (s 1 0x51, a [s 1 0x51, i 100]), (s 1 0x52, a [s 1 0x52, i 0])] [0, 1, 2, 3] 4,
M 153 [(s 4 0x4b4e4142, a [s 4 0x4b4e4142, s 4 0x4b4e4142]), (s 2 0x4150, a [s 2 0x4150, s 1 0x50]), (s 2 0x4250, a [s 2 0x4250, s 1 0x50]), (s 2 0x4151, a [s 2 0x4151, s 1 0x51]), (s 2 0x4251, a [s 2 0x4251, s 1 0x51]), (s 2 0x4152, a [s 2 0x4152, s 1 0x52]), (s 2 0x4252, a [s 2 0x4252, s 1 0x52])] [0, 1, 2, 3, 4, 5, 6] 7,
M 184 [(s 1 0x58, a [s 1 0x58, b false, b true, i 1, i 1, i 10, i 1000, i 0]), (s 1 0x59, a [s 1 0x59, b false, b true, i 10, i 20, i 3, i 5000, i 0]), (s 1 0x5a, a [s 1 0x5a, b false, b false, i 5, i 10, i 7, i 0, i 0]), (s 3 0x525545, a [s 3 0x525545, b true, b false, i 1, i 1, i 0, i 0, i 2]), (s 3 0x445355, a [s 3 0x445355, b true, b false, i 1, i 1, i 0, i 0, i 0])] [0, 1, 2, 3, 4] 5]
noncomputable def Bpl2 : List (Nat × B) := ov [C 210 22 22 true [i 19, i 0, i 0, s 1 0x50, s 2 0x4150, s 2 0x4250, s 1 0x51, b true, s 1 0x58, s 3 0x525545, s 0 0, y 0 [(0, 1)], y 0 [(1, 1)], i 0, i 0, b false, b false, s 0 0, s 0 0, s 0 0, ns, ns],
C 211 22 22 true [i 19, i 0, i 0, s 1 0x50, s 2 0x4150, s 2 0x4250, s 1 0x51, b true, s 1 0x58, s 3 0x525545, s 0 0, y 0 [(0, 1)], y 0 [(1, 1)], i 0, i 0, b true, b false, s 0 0, s 0 0, s 0 0, ns, ns]] [] Bpl1
noncomputable def Bpl3 : List (Nat × B) := ov [C 0 1 1 true [r 296 2 2],
C 9 1 1 true [r 294 2 2],
C 12 2 2 true [r 317 2 2, ns],
C 17 1 1 true [r 314 2 2],
C 294 42 21 false [i 1, s 1 0x50, s 2 0x4150, s 2 0x4250, s 1 0x51, b true, s 1 0x58, s 3 0x525545, s 0 0, y 0 [(0, 1)], y 0 [(1, 1)], i 0, i 0, i 2, b true, b false, b false, i 0, i 0, i 0, i 0, i 2, s 1 0x51, s 2 0x4151, s 2 0x4251, s 1 0x50, b false, s 1 0x58, s 3 0x525545, s 0 0, y 0 [(0, 1)], y 0 [(1, 1)], i 0, i 0, i 1, b true, b false, b false, i 0, i 0, i 0, i 0],
C 296 2 1 false [i 1, i 2],
C 314 42 21 false [i 1, s 1 0x50, s 2 0x4150, s 2 0x4250, s 1 0x51, b true, s 1 0x58, s 3 0x525545, s 0 0, y 0 [(0, 1)], y 0 [(1, 1)], i 0, i 0, i 2, b true, b false, b false, i 0, i 0, i 0, i 0, i 2, s 1 0x51, s 2 0x4151, s 2 0x4251, s 1 0x50, b false, s 1 0x58, s 3 0x525545, s 0 0, y 0 [(0, 1)], y 0 [(1, 1)], i 0, i 0, i 1, b true, b false, b false, i 0, i 0, i 0, i 0],
C 317 2 1 false [i 1, i 2]] [0, 9, 12, 17] Bpl2
noncomputable def Bpl4 : List (Nat × B) := ov [C 294 42 21 false [i 1, s 1 0x50, s 2 0x4150, s 2 0x4250, s 1 0x51, b true, s 1 0x58, s 3 0x525545, s 0 0, y 0 [(0, 1)], y 0 [(1, 1)], i 0, i 0, i 2, b true, b false, b false, i 1, i 2, i 0, i 0, i 2, s 1 0x51, s 2 0x4151, s 2 0x4251, s 1 0x50, b false, s 1 0x58, s 3 0x525545, s 0 0, y 0 [(0, 1)], y 0 [(1, 1)], i 0, i 0, i 1, b true, b false, b false, i 1, i 1, i 0, i 0],
C 296 2 1 false [i 1, i 1],
C 420 3 3 false [i 1, i 2, y 0 [(1, 1)]]] [294, 296] Bpl3
noncomputable def Bpl5 : List (Nat × B) := ov [C 7 1 1 true [m 426],
C 8 3 3 true [p 7 0, m 427, nm],
M 426 [(a [s 2 0x4150, s 1 0x58], a [y 0 [(10, 1)], i 0, i 0])] [0] 1,
M 427 [(s 1 0x58, y 0 [(10, 1)])] [0] 1] [7, 8] Bpl4
noncomputable def Bpl6 : List (Nat × B) := ov [M 426 [(a [s 2 0x4150, s 1 0x58], a [y 0 [(10, 1)], i 0, i 0]), (a [s 2 0x4251, s 3 0x525545], a [y 0 [(3, 1)], i 0, i 0])] [0, 1] 2,
M 427 [(s 1 0x58, y 0 [(10, 1)]), (s 3 0x525545, y 0 [(3, 1)])] [0, 1] 2] [426, 427] Bpl5
noncomputable def Bpl7 : List (Nat × B) := ov [M 427 [(s 1 0x58, y 0 [(10, 1)]), (s 3 0x525545, y 0 [(3, 1)])] [0, 1] 2] [427] Bpl5
noncomputable def Bpl8 : List (Nat × B) := ov [C 433 9 9 true [p 11 0, b false, b false, i 1, m 434, m 435, b false, b false, b false],
M 434 [] [] 0,
M 435 [] [] 0] [] Bpl7
noncomputable def Bpl9 : List (Nat × B) := ov [C 433 9 9 true [p 11 0, b false, b false, i 1, m 434, m 435, b false, b false, b false],
M 434 [] [] 0,
M 435 [] [] 0] [] Bpl6
noncomputable def Bpl10 : List (Nat × B) := ov [C 433 9 9 true [p 11 0, b true, b false, i 1, m 434, m 435, b false, b false, b false],
M 434 [] [] 0,
M 435 [] [] 0] [] Bpl6
noncomputable def Bpl11 : List (Nat × B) := ov [C 433 9 9 true [p 11 0, b true, b false, i 1, m 434, m 435, b false, b false, b false],
M 434 [] [] 0,
M 435 [] [] 0] [] Bpl7
noncomputable def Bpl12 : List (Nat × B) := ov [C 436 2 2 true [ns, ns]] [] Bpl11
noncomputable def Bpl13 : List (Nat × B) := ov [C 436 2 2 true [ns, ns]] [] Bpl10
noncomputable def Bpl14 : List (Nat × B) := ov [C 436 2 2 true [ns, ns]] [] Bpl8
noncomputable def Bpl15 : List (Nat × B) := ov [C 436 2 2 true [ns, ns]] [] Bpl9
noncomputable def Bpl34 : List (Nat × B) := ov [C 433 9 9 true [p 11 0, b false, b false, i 1, m 434, m 435, b false, b true, b false],
M 434 [(i 1, a [])] [0] 1,
C 1479 2 2 false [i 1, y 0 [(0, 1)]]] [433, 434] Bpl14
noncomputable def Bpl38 : List (Nat × B) := ov [C 1571 2 2 true [r 1479 1 1, ns]] [] Bpl34
noncomputable def Bpl40 : List (Nat × B) := ov [C 433 9 9 true [p 11 0, b true, b false, i 1, m 434, m 435, b false, b true, b false],
M 434 [(i 1, a [])] [0] 1,
C 1479 2 2 false [i 1, y 0 [(0, 1)]]] [433, 434] Bpl12
noncomputable def Bpl41 : List (Nat × B) := ov [C 433 9 9 true [p 11 0, b false, b false, i 1, m 434, m 435, b false, b true, b false],
M 434 [(i 1, a [])] [0] 1,
C 1479 2 2 false [i 1, y 0 [(0, 1)]]] [433, 434] Bpl15
noncomputable def Bpl42 : List (Nat × B) := ov [C 433 9 9 true [p 11 0, b true, b false, i 1, m 434, m 435, b false, b true, b false],
M 434 [(i 1, a [])] [0] 1,
C 1479 2 2 false [i 1, y 0 [(0, 1)]]] [433, 434] Bpl13
noncomputable def Bpl45 : List (Nat × B) := ov [C 1571 2 2 true [r 1479 1 1, ns]] [] Bpl40
noncomputable def Bpl46 : List (Nat × B) := ov [C 1571 2 2 true [r 1479 1 1, ns]] [] Bpl41
noncomputable def Bpl48 : List (Nat × B) := ov [C 1599 2 2 true [r 1479 1 1, ns]] [] Bpl41
noncomputable def Bpl51 : List (Nat × B) := ov [C 1571 2 2 true [r 1479 1 1, ns]] [] Bpl42
noncomputable def Bpl52 : List (Nat × B) := ov [C 1599 2 2 true [r 1479 1 1, ns]] [] Bpl42
noncomputable def Bpl53 : List (Nat × B) := ov [C 294 42 21 false [i 1, s 1 0x50, s 2 0x4150, s 2 0x4250, s 1 0x51, b true, s 1 0x58, s 3 0x525545, s 0 0, y 0 [(0, 1)], y 0 [(1, 1)], i 0, i 0, i 2, b true, b false, b false, i 3, i 2, y 0 [(0, 1)], y 0 [(1, 1)], i 2, s 1 0x51, s 2 0x4151, s 2 0x4251, s 1 0x50, b false, s 1 0x58, s 3 0x525545, s 0 0, y 0 [(0, 1)], y 0 [(1, 1)], i 0, i 0, i 1, b true, b false, b false, i 3, i 1, y 0 [(0, 1)], y 0 [(1, 1)]],
M 426 [(a [s 2 0x4150, s 1 0x58], a [y 0 [(0, -1), (10, 1)], i 0, i 0]), (a [s 2 0x4151, s 1 0x58], a [y 0 [(0, 1)], i 0, i 0])] [0, 1] 2] [294, 426] Bpl38
noncomputable def Bpl54 : List (Nat × B) := ov [C 294 42 21 false [i 1, s 1 0x50, s 2 0x4150, s 2 0x4250, s 1 0x51, b true, s 1 0x58, s 3 0x525545, s 0 0, y 0 [(0, 1)], y 0 [(1, 1)], i 0, i 0, i 2, b true, b false, b false, i 3, i 2, y 0 [(0, 1)], y 0 [(1, 1)], i 2, s 1 0x51, s 2 0x4151, s 2 0x4251, s 1 0x50, b false, s 1 0x58, s 3 0x525545, s 0 0, y 0 [(0, 1)], y 0 [(1, 1)], i 0, i 0, i 1, b true, b false, b false, i 3, i 1, y 0 [(0, 1)], y 0 [(1, 1)]],
M 426 [(a [s 2 0x4151, s 1 0x58], a [y 0 [(0, 1)], i 0, i 0])] [1] 2] [294, 426] Bpl38
noncomputable def Bpl57 : List (Nat × B) := ov [C 294 42 21 false [i 1, s 1 0x50, s 2 0x4150, s 2 0x4250, s 1 0x51, b true, s 1 0x58, s 3 0x525545, s 0 0, y 0 [(0, 1)], y 0 [(1, 1)], i 0, i 0, i 2, b true, b false, b false, i 3, i 2, y 0 [(0, 1)], y 0 [(1, 1)], i 2, s 1 0x51, s 2 0x4151, s 2 0x4251, s 1 0x50, b false, s 1 0x58, s 3 0x525545, s 0 0, y 0 [(0, 1)], y 0 [(1, 1)], i 0, i 0, i 1, b true, b false, b false, i 3, i 1, y 0 [(0, 1)], y 0 [(1, 1)]],
M 426 [(a [s 2 0x4150, s 1 0x58], a [y 0 [(0, -1), (10, 1)], i 0, i 0]), (a [s 2 0x4151, s 1 0x58], a [y 0 [(0, 1)], i 0, i 0])] [0, 1] 2] [294, 426] Bpl45
noncomputable def Bpl58 : List (Nat × B) := ov [C 294 42 21 false [i 1, s 1 0x50, s 2 0x4150, s 2 0x4250, s 1 0x51, b true, s 1 0x58, s 3 0x525545, s 0 0, y 0 [(0, 1)], y 0 [(1, 1)], i 0, i 0, i 2, b true, b false, b false, i 3, i 2, y 0 [(0, 1)], y 0 [(1, 1)], i 2, s 1 0x51, s 2 0x4151, s 2 0x4251, s 1 0x50, b false, s 1 0x58, s 3 0x525545, s 0 0, y 0 [(0, 1)], y 0 [(1, 1)], i 0, i 0, i 1, b true, b false, b false, i 3, i 1, y 0 [(0, 1)], y 0 [(1, 1)]],
M 426 [(a [s 2 0x4151, s 1 0x58], a [y 0 [(0, 1)], i 0, i 0])] [1] 2] [294, 426] Bpl45
noncomputable def Bpl60 : List (Nat × B) := ov [C 294 42 21 false [i 1, s 1 0x50, s 2 0x4150, s 2 0x4250, s 1 0x51, b true, s 1 0x58, s 3 0x525545, s 0 0, y 0 [(0, 1)], y 0 [(1, 1)], i 0, i 0, i 2, b true, b false, b false, i 3, i 2, y 0 [(0, 1)], y 0 [(1, 1)], i 2, s 1 0x51, s 2 0x4151, s 2 0x4251, s 1 0x50, b false, s 1 0x58, s 3 0x525545, s 0 0, y 0 [(0, 1)], y 0 [(1, 1)], i 0, i 0, i 1, b true, b false, b false, i 3, i 1, y 0 [(0, 1)], y 0 [(1, 1)]],
M 426 [(a [s 2 0x4150, s 1 0x58], a [y 0 [(0, -1), (10, 1)], i 0, i 0]), (a [s 2 0x4251, s 3 0x525545], a [y 0 [(3, 1)], i 0, i 0]), (a [s 2 0x4151, s 1 0x58], a [y 0 [(0, 1)], i 0, i 0])] [0, 1, 2] 3] [294, 426] Bpl46
noncomputable def Bpl61 : List (Nat × B) := ov [C 294 42 21 false [i 1, s 1 0x50, s 2 0x4150, s 2 0x4250, s 1 0x51, b true, s 1 0x58, s 3 0x525545, s 0 0, y 0 [(0, 1)], y 0 [(1, 1)], i 0, i 0, i 2, b true, b false, b false, i 3, i 2, y 0 [(0, 1)], y 0 [(1, 1)], i 2, s 1 0x51, s 2 0x4151, s 2 0x4251, s 1 0x50, b false, s 1 0x58, s 3 0x525545, s 0 0, y 0 [(0, 1)], y 0 [(1, 1)], i 0, i 0, i 1, b true, b false, b false, i 3, i 1, y 0 [(0, 1)], y 0 [(1, 1)]],
M 426 [(a [s 2 0x4150, s 1 0x58], a [y 0 [(0, -1), (10, 1)], i 0, i 0]), (a [s 2 0x4151, s 1 0x58], a [y 0 [(0, 1)], i 0, i 0])] [0, 1] 2,
C 433 9 9 true [p 11 0, b false, b false, i 1, m 434, m 435, b false, b true, b false],
M 434 [(i 1, a [])] [0] 1,
C 1479 2 2 false [i 1, y 0 [(0, 1)]]] [294, 426, 433, 434] Bpl8
noncomputable def Bpl62 : List (Nat × B) := ov [C 294 42 21 false [i 1, s 1 0x50, s 2 0x4150, s 2 0x4250, s 1 0x51, b true, s 1 0x58, s 3 0x525545, s 0 0, y 0 [(0, 1)], y 0 [(1, 1)], i 0, i 0, i 2, b true, b false, b false, i 3, i 2, y 0 [(0, 1)], y 0 [(1, 1)], i 2, s 1 0x51, s 2 0x4151, s 2 0x4251, s 1 0x50, b false, s 1 0x58, s 3 0x525545, s 0 0, y 0 [(0, 1)], y 0 [(1, 1)], i 0, i 0, i 1, b true, b false, b false, i 3, i 1, y 0 [(0, 1)], y 0 [(1, 1)]],
M 426 [(a [s 2 0x4251, s 3 0x525545], a [y 0 [(3, 1)], i 0, i 0]), (a [s 2 0x4151, s 1 0x58], a [y 0 [(0, 1)], i 0, i 0])] [1, 2] 3] [294, 426] Bpl46
noncomputable def Bpl63 : List (Nat × B) := ov [C 294 42 21 false [i 1, s 1 0x50, s 2 0x4150, s 2 0x4250, s 1 0x51, b true, s 1 0x58, s 3 0x525545, s 0 0, y 0 [(0, 1)], y 0 [(1, 1)], i 0, i 0, i 2, b true, b false, b false, i 3, i 2, y 0 [(0, 1)], y 0 [(1, 1)], i 2, s 1 0x51, s 2 0x4151, s 2 0x4251, s 1 0x50, b false, s 1 0x58, s 3 0x525545, s 0 0, y 0 [(0, 1)], y 0 [(1, 1)], i 0, i 0, i 1, b true, b false, b false, i 3, i 1, y 0 [(0, 1)], y 0 [(1, 1)]],
M 426 [(a [s 2 0x4151, s 1 0x58], a [y 0 [(0, 1)], i 0, i 0])] [1] 2,
C 433 9 9 true [p 11 0, b false, b false, i 1, m 434, m 435, b false, b true, b false],
M 434 [(i 1, a [])] [0] 1,
C 1479 2 2 false [i 1, y 0 [(0, 1)]]] [294, 426, 433, 434] Bpl8
noncomputable def Bpl67 : List (Nat × B) := ov [C 294 42 21 false [i 1, s 1 0x50, s 2 0x4150, s 2 0x4250, s 1 0x51, b true, s 1 0x58, s 3 0x525545, s 0 0, y 0 [(0, 1)], y 0 [(1, 1)], i 0, i 0, i 2, b true, b false, b false, i 3, i 2, y 0 [(0, 1)], y 0 [(1, 1)], i 2, s 1 0x51, s 2 0x4151, s 2 0x4251, s 1 0x50, b false, s 1 0x58, s 3 0x525545, s 0 0, y 0 [(0, 1)], y 0 [(1, 1)], i 0, i 0, i 1, b true, b false, b false, i 3, i 1, y 0 [(0, 1)], y 0 [(1, 1)]],
M 426 [(a [s 2 0x4150, s 1 0x58], a [y 0 [(0, -1), (10, 1)], i 0, i 0]), (a [s 2 0x4251, s 3 0x525545], a [y 0 [(3, 1)], i 0, i 0]), (a [s 2 0x4151, s 1 0x58], a [y 0 [(0, 1)], i 0, i 0])] [0, 1, 2] 3] [294, 426] Bpl51
noncomputable def Bpl68 : List (Nat × B) := ov [C 294 42 21 false [i 1, s 1 0x50, s 2 0x4150, s 2 0x4250, s 1 0x51, b true, s 1 0x58, s 3 0x525545, s 0 0, y 0 [(0, 1)], y 0 [(1, 1)], i 0, i 0, i 2, b true, b false, b false, i 3, i 2, y 0 [(0, 1)], y 0 [(1, 1)], i 2, s 1 0x51, s 2 0x4151, s 2 0x4251, s 1 0x50, b false, s 1 0x58, s 3 0x525545, s 0 0, y 0 [(0, 1)], y 0 [(1, 1)], i 0, i 0, i 1, b true, b false, b false, i 3, i 1, y 0 [(0, 1)], y 0 [(1, 1)]],
M 426 [(a [s 2 0x4251, s 3 0x525545], a [y 0 [(3, 1)], i 0, i 0]), (a [s 2 0x4151, s 1 0x58], a [y 0 [(0, 1)], i 0, i 0])] [1, 2] 3] [294, 426] Bpl51
noncomputable def Bpl69 : List (Nat × B) := ov [C 1716 2 2 true [r 1479 1 1, ns],
C 1717 2 2 true [r 1479 1 1, ns],
C 1718 2 2 false [r 1479 1 1, ns]] [] Bpl63
noncomputable def Bpl71 : List (Nat × B) := ov [C 294 42 21 false [i 1, s 1 0x50, s 2 0x4150, s 2 0x4250, s 1 0x51, b true, s 1 0x58, s 3 0x525545, s 0 0, y 0 [(0, 1)], y 0 [(1, 1)], i 0, i 0, i 2, b true, b false, b false, i 3, i 2, y 0 [(0, 1)], y 0 [(1, 1)], i 2, s 1 0x51, s 2 0x4151, s 2 0x4251, s 1 0x50, b false, s 1 0x58, s 3 0x525545, s 0 0, y 0 [(0, 1)], y 0 [(1, 1)], i 0, i 0, i 1, b true, b false, b false, i 3, i 1, y 0 [(0, 1)], y 0 [(1, 1)]],
M 426 [(a [s 2 0x4150, s 1 0x58], a [y 0 [(0, -1), (10, 1)], i 0, i 0]), (a [s 2 0x4151, s 1 0x58], a [y 0 [(0, 1)], i 0, i 0])] [0, 1] 2,
C 433 9 9 true [p 11 0, b true, b false, i 1, m 434, m 435, b false, b true, b false],
M 434 [(i 1, a [])] [0] 1,
C 1479 2 2 false [i 1, y 0 [(0, 1)]]] [294, 426, 433, 434] Bpl11
noncomputable def Bpl72 : List (Nat × B) := ov [C 294 42 21 false [i 1, s 1 0x50, s 2 0x4150, s 2 0x4250, s 1 0x51, b true, s 1 0x58, s 3 0x525545, s 0 0, y 0 [(0, 1)], y 0 [(1, 1)], i 0, i 0, i 2, b true, b false, b false, i 3, i 2, y 0 [(0, 1)], y 0 [(1, 1)], i 2, s 1 0x51, s 2 0x4151, s 2 0x4251, s 1 0x50, b false, s 1 0x58, s 3 0x525545, s 0 0, y 0 [(0, 1)], y 0 [(1, 1)], i 0, i 0, i 1, b true, b false, b false, i 3, i 1, y 0 [(0, 1)], y 0 [(1, 1)]],
M 426 [(a [s 2 0x4151, s 1 0x58], a [y 0 [(0, 1)], i 0, i 0])] [1] 2,
C 433 9 9 true [p 11 0, b true, b false, i 1, m 434, m 435, b false, b true, b false],
M 434 [(i 1, a [])] [0] 1,
C 1479 2 2 false [i 1, y 0 [(0, 1)]]] [294, 426, 433, 434] Bpl11
noncomputable def Bpl74 : List (Nat × B) := ov [C 1716 2 2 true [r 1479 1 1, ns],
C 1717 2 2 true [r 1479 1 1, ns],
C 1718 2 2 false [r 1479 1 1, ns]] [] Bpl61
noncomputable def Bpl76 : List (Nat × B) := ov [C 294 42 21 false [i 1, s 1 0x50, s 2 0x4150, s 2 0x4250, s 1 0x51, b true, s 1 0x58, s 3 0x525545, s 0 0, y 0 [(0, 1)], y 0 [(1, 1)], i 0, i 0, i 2, b true, b false, b false, i 3, i 2, y 0 [(0, 1)], y 0 [(1, 1)], i 2, s 1 0x51, s 2 0x4151, s 2 0x4251, s 1 0x50, b false, s 1 0x58, s 3 0x525545, s 0 0, y 0 [(0, 1)], y 0 [(1, 1)], i 0, i 0, i 1, b true, b false, b false, i 3, i 1, y 0 [(0, 1)], y 0 [(1, 1)]],
M 426 [(a [s 2 0x4150, s 1 0x58], a [y 0 [(0, -1), (10, 1)], i 0, i 0]), (a [s 2 0x4251, s 3 0x525545], a [y 0 [(1, -1), (3, 1)], i 0, i 0]), (a [s 2 0x4250, s 3 0x525545], a [y 0 [(1, 1)], i 0, i 0]), (a [s 2 0x4151, s 1 0x58], a [y 0 [(0, 1)], i 0, i 0])] [0, 1, 2, 3] 4] [294, 426] Bpl52
noncomputable def Bpl77 : List (Nat × B) := ov [C 294 42 21 false [i 1, s 1 0x50, s 2 0x4150, s 2 0x4250, s 1 0x51, b true, s 1 0x58, s 3 0x525545, s 0 0, y 0 [(0, 1)], y 0 [(1, 1)], i 0, i 0, i 2, b true, b false, b false, i 3, i 2, y 0 [(0, 1)], y 0 [(1, 1)], i 2, s 1 0x51, s 2 0x4151, s 2 0x4251, s 1 0x50, b false, s 1 0x58, s 3 0x525545, s 0 0, y 0 [(0, 1)], y 0 [(1, 1)], i 0, i 0, i 1, b true, b false, b false, i 3, i 1, y 0 [(0, 1)], y 0 [(1, 1)]],
M 426 [(a [s 2 0x4251, s 3 0x525545], a [y 0 [(1, -1), (3, 1)], i 0, i 0]), (a [s 2 0x4250, s 3 0x525545], a [y 0 [(1, 1)], i 0, i 0]), (a [s 2 0x4151, s 1 0x58], a [y 0 [(0, 1)], i 0, i 0])] [1, 2, 3] 4] [294, 426] Bpl52
noncomputable def Bpl78 : List (Nat × B) := ov [C 294 42 21 false [i 1, s 1 0x50, s 2 0x4150, s 2 0x4250, s 1 0x51, b true, s 1 0x58, s 3 0x525545, s 0 0, y 0 [(0, 1)], y 0 [(1, 1)], i 0, i 0, i 2, b true, b false, b false, i 3, i 2, y 0 [(0, 1)], y 0 [(1, 1)], i 2, s 1 0x51, s 2 0x4151, s 2 0x4251, s 1 0x50, b false, s 1 0x58, s 3 0x525545, s 0 0, y 0 [(0, 1)], y 0 [(1, 1)], i 0, i 0, i 1, b true, b false, b false, i 3, i 1, y 0 [(0, 1)], y 0 [(1, 1)]],
M 426 [(a [s 2 0x4250, s 3 0x525545], a [y 0 [(1, 1)], i 0, i 0]), (a [s 2 0x4151, s 1 0x58], a [y 0 [(0, 1)], i 0, i 0])] [2, 3] 4] [294, 426] Bpl52
noncomputable def Bpl79 : List (Nat × B) := ov [C 294 42 21 false [i 1, s 1 0x50, s 2 0x4150, s 2 0x4250, s 1 0x51, b true, s 1 0x58, s 3 0x525545, s 0 0, y 0 [(0, 1)], y 0 [(1, 1)], i 0, i 0, i 2, b true, b false, b false, i 3, i 2, y 0 [(0, 1)], y 0 [(1, 1)], i 2, s 1 0x51, s 2 0x4151, s 2 0x4251, s 1 0x50, b false, s 1 0x58, s 3 0x525545, s 0 0, y 0 [(0, 1)], y 0 [(1, 1)], i 0, i 0, i 1, b true, b false, b false, i 3, i 1, y 0 [(0, 1)], y 0 [(1, 1)]],
M 426 [(a [s 2 0x4150, s 1 0x58], a [y 0 [(0, -1), (10, 1)], i 0, i 0]), (a [s 2 0x4250, s 3 0x525545], a [y 0 [(1, 1)], i 0, i 0]), (a [s 2 0x4151, s 1 0x58], a [y 0 [(0, 1)], i 0, i 0])] [0, 2, 3] 4] [294, 426] Bpl52
noncomputable def Bpl81 : List (Nat × B) := ov [C 294 42 21 false [i 1, s 1 0x50, s 2 0x4150, s 2 0x4250, s 1 0x51, b true, s 1 0x58, s 3 0x525545, s 0 0, y 0 [(0, 1)], y 0 [(1, 1)], i 0, i 0, i 2, b true, b false, b false, i 3, i 2, y 0 [(0, 1)], y 0 [(1, 1)], i 2, s 1 0x51, s 2 0x4151, s 2 0x4251, s 1 0x50, b false, s 1 0x58, s 3 0x525545, s 0 0, y 0 [(0, 1)], y 0 [(1, 1)], i 0, i 0, i 1, b true, b false, b false, i 3, i 1, y 0 [(0, 1)], y 0 [(1, 1)]],
M 426 [(a [s 2 0x4150, s 1 0x58], a [y 0 [(0, -1), (10, 1)], i 0, i 0]), (a [s 2 0x4251, s 3 0x525545], a [y 0 [(1, -1), (3, 1)], i 0, i 0]), (a [s 2 0x4250, s 3 0x525545], a [y 0 [(1, 1)], i 0, i 0]), (a [s 2 0x4151, s 1 0x58], a [y 0 [(0, 1)], i 0, i 0])] [0, 1, 2, 3] 4] [294, 426] Bpl48
noncomputable def Bpl83 : List (Nat × B) := ov [C 294 42 21 false [i 1, s 1 0x50, s 2 0x4150, s 2 0x4250, s 1 0x51, b true, s 1 0x58, s 3 0x525545, s 0 0, y 0 [(0, 1)], y 0 [(1, 1)], i 0, i 0, i 2, b true, b false, b false, i 3, i 2, y 0 [(0, 1)], y 0 [(1, 1)], i 2, s 1 0x51, s 2 0x4151, s 2 0x4251, s 1 0x50, b false, s 1 0x58, s 3 0x525545, s 0 0, y 0 [(0, 1)], y 0 [(1, 1)], i 0, i 0, i 1, b true, b false, b false, i 3, i 1, y 0 [(0, 1)], y 0 [(1, 1)]],
M 426 [(a [s 2 0x4251, s 3 0x525545], a [y 0 [(1, -1), (3, 1)], i 0, i 0]), (a [s 2 0x4250, s 3 0x525545], a [y 0 [(1, 1)], i 0, i 0]), (a [s 2 0x4151, s 1 0x58], a [y 0 [(0, 1)], i 0, i 0])] [1, 2, 3] 4] [294, 426] Bpl48
noncomputable def Bpl84 : List (Nat × B) := ov [C 294 42 21 false [i 1, s 1 0x50, s 2 0x4150, s 2 0x4250, s 1 0x51, b true, s 1 0x58, s 3 0x525545, s 0 0, y 0 [(0, 1)], y 0 [(1, 1)], i 0, i 0, i 2, b true, b false, b false, i 3, i 2, y 0 [(0, 1)], y 0 [(1, 1)], i 2, s 1 0x51, s 2 0x4151, s 2 0x4251, s 1 0x50, b false, s 1 0x58, s 3 0x525545, s 0 0, y 0 [(0, 1)], y 0 [(1, 1)], i 0, i 0, i 1, b true, b false, b false, i 3, i 1, y 0 [(0, 1)], y 0 [(1, 1)]],
M 426 [(a [s 2 0x4250, s 3 0x525545], a [y 0 [(1, 1)], i 0, i 0]), (a [s 2 0x4151, s 1 0x58], a [y 0 [(0, 1)], i 0, i 0])] [2, 3] 4] [294, 426] Bpl48
noncomputable def Bpl85 : List (Nat × B) := ov [C 294 42 21 false [i 1, s 1 0x50, s 2 0x4150, s 2 0x4250, s 1 0x51, b true, s 1 0x58, s 3 0x525545, s 0 0, y 0 [(0, 1)], y 0 [(1, 1)], i 0, i 0, i 2, b true, b false, b false, i 3, i 2, y 0 [(0, 1)], y 0 [(1, 1)], i 2, s 1 0x51, s 2 0x4151, s 2 0x4251, s 1 0x50, b false, s 1 0x58, s 3 0x525545, s 0 0, y 0 [(0, 1)], y 0 [(1, 1)], i 0, i 0, i 1, b true, b false, b false, i 3, i 1, y 0 [(0, 1)], y 0 [(1, 1)]],
M 426 [(a [s 2 0x4150, s 1 0x58], a [y 0 [(0, -1), (10, 1)], i 0, i 0]), (a [s 2 0x4250, s 3 0x525545], a [y 0 [(1, 1)], i 0, i 0]), (a [s 2 0x4151, s 1 0x58], a [y 0 [(0, 1)], i 0, i 0])] [0, 2, 3] 4] [294, 426] Bpl48
noncomputable def Bpl88 : List (Nat × B) := ov [C 1716 2 2 true [r 1479 1 1, ns],
C 1717 2 2 true [r 1479 1 1, ns],
C 1718 2 2 false [r 1479 1 1, ns]] [] Bpl72
noncomputable def Bpl89 : List (Nat × B) := ov [C 1716 2 2 true [r 1479 1 1, ns],
C 1717 2 2 true [r 1479 1 1, ns],
C 1718 2 2 false [r 1479 1 1, ns]] [] Bpl71
noncomputable def Bpl90 : List (Nat × B) := ov [C 294 42 21 false [i 1, s 1 0x50, s 2 0x4150, s 2 0x4250, s 1 0x51, b true, s 1 0x58, s 3 0x525545, s 0 0, y 0 [(0, 1)], y 0 [(1, 1)], i 0, i 0, i 2, b true, b false, b false, i 3, i 2, y 0 [(0, 1)], y 0 [(1, 1)], i 2, s 1 0x51, s 2 0x4151, s 2 0x4251, s 1 0x50, b false, s 1 0x58, s 3 0x525545, s 0 0, y 0 [(0, 1)], y 0 [(1, 1)], i 0, i 0, i 1, b true, b false, b false, i 3, i 1, y 0 [(0, 1)], y 0 [(1, 1)]],
M 426 [(a [s 2 0x4150, s 1 0x58], a [y 0 [(0, -1), (10, 1)], i 0, i 0]), (a [s 2 0x4251, s 3 0x525545], a [y 0 [(1, -1), (3, 1)], i 0, i 0]), (a [s 2 0x4250, s 3 0x525545], a [y 0 [(1, 1)], i 0, i 0]), (a [s 2 0x4151, s 1 0x58], a [y 0 [(0, 1)], i 0, i 0])] [0, 1, 2, 3] 4,
C 433 9 9 true [p 11 0, b true, b false, i 1, m 434, m 435, b false, b true, b false],
M 434 [(i 1, a [])] [0] 1,
C 1479 2 2 false [i 1, y 0 [(0, 1)]]] [294, 426, 433, 434] Bpl10
noncomputable def Bpl91 : List (Nat × B) := ov [C 294 42 21 false [i 1, s 1 0x50, s 2 0x4150, s 2 0x4250, s 1 0x51, b true, s 1 0x58, s 3 0x525545, s 0 0, y 0 [(0, 1)], y 0 [(1, 1)], i 0, i 0, i 2, b true, b false, b false, i 3, i 2, y 0 [(0, 1)], y 0 [(1, 1)], i 2, s 1 0x51, s 2 0x4151, s 2 0x4251, s 1 0x50, b false, s 1 0x58, s 3 0x525545, s 0 0, y 0 [(0, 1)], y 0 [(1, 1)], i 0, i 0, i 1, b true, b false, b false, i 3, i 1, y 0 [(0, 1)], y 0 [(1, 1)]],
M 426 [(a [s 2 0x4150, s 1 0x58], a [y 0 [(0, -1), (10, 1)], i 0, i 0]), (a [s 2 0x4251, s 3 0x525545], a [y 0 [(3, 1)], i 0, i 0]), (a [s 2 0x4151, s 1 0x58], a [y 0 [(0, 1)], i 0, i 0])] [0, 1, 2] 3,
C 433 9 9 true [p 11 0, b true, b false, i 1, m 434, m 435, b false, b true, b false],
M 434 [(i 1, a [])] [0] 1,
C 1479 2 2 false [i 1, y 0 [(0, 1)]]] [294, 426, 433, 434] Bpl10
noncomputable def Bpl92 : List (Nat × B) := ov [C 294 42 21 false [i 1, s 1 0x50, s 2 0x4150, s 2 0x4250, s 1 0x51, b true, s 1 0x58, s 3 0x525545, s 0 0, y 0 [(0, 1)], y 0 [(1, 1)], i 0, i 0, i 2, b true, b false, b false, i 3, i 2, y 0 [(0, 1)], y 0 [(1, 1)], i 2, s 1 0x51, s 2 0x4151, s 2 0x4251, s 1 0x50, b false, s 1 0x58, s 3 0x525545, s 0 0, y 0 [(0, 1)], y 0 [(1, 1)], i 0, i 0, i 1, b true, b false, b false, i 3, i 1, y 0 [(0, 1)], y 0 [(1, 1)]],
M 426 [(a [s 2 0x4150, s 1 0x58], a [y 0 [(0, -1), (10, 1)], i 0, i 0]), (a [s 2 0x4250, s 3 0x525545], a [y 0 [(1, 1)], i 0, i 0]), (a [s 2 0x4151, s 1 0x58], a [y 0 [(0, 1)], i 0, i 0])] [0, 2, 3] 4,
C 433 9 9 true [p 11 0, b true, b false, i 1, m 434, m 435, b false, b true, b false],
M 434 [(i 1, a [])] [0] 1,
C 1479 2 2 false [i 1, y 0 [(0, 1)]]] [294, 426, 433, 434] Bpl10
noncomputable def Bpl94 : List (Nat × B) := ov [C 294 42 21 false [i 1, s 1 0x50, s 2 0x4150, s 2 0x4250, s 1 0x51, b true, s 1 0x58, s 3 0x525545, s 0 0, y 0 [(0, 1)], y 0 [(1, 1)], i 0, i 0, i 2, b true, b false, b false, i 3, i 2, y 0 [(0, 1)], y 0 [(1, 1)], i 2, s 1 0x51, s 2 0x4151, s 2 0x4251, s 1 0x50, b false, s 1 0x58, s 3 0x525545, s 0 0, y 0 [(0, 1)], y 0 [(1, 1)], i 0, i 0, i 1, b true, b false, b false, i 3, i 1, y 0 [(0, 1)], y 0 [(1, 1)]],
M 426 [(a [s 2 0x4251, s 3 0x525545], a [y 0 [(1, -1), (3, 1)], i 0, i 0]), (a [s 2 0x4250, s 3 0x525545], a [y 0 [(1, 1)], i 0, i 0]), (a [s 2 0x4151, s 1 0x58], a [y 0 [(0, 1)], i 0, i 0])] [1, 2, 3] 4,
C 433 9 9 true [p 11 0, b true, b false, i 1, m 434, m 435, b false, b true, b false],
M 434 [(i 1, a [])] [0] 1,
C 1479 2 2 false [i 1, y 0 [(0, 1)]]] [294, 426, 433, 434] Bpl10
noncomputable def Bpl95 : List (Nat × B) := ov [C 294 42 21 false [i 1, s 1 0x50, s 2 0x4150, s 2 0x4250, s 1 0x51, b true, s 1 0x58, s 3 0x525545, s 0 0, y 0 [(0, 1)], y 0 [(1, 1)], i 0, i 0, i 2, b true, b false, b false, i 3, i 2, y 0 [(0, 1)], y 0 [(1, 1)], i 2, s 1 0x51, s 2 0x4151, s 2 0x4251, s 1 0x50, b false, s 1 0x58, s 3 0x525545, s 0 0, y 0 [(0, 1)], y 0 [(1, 1)], i 0, i 0, i 1, b true, b false, b false, i 3, i 1, y 0 [(0, 1)], y 0 [(1, 1)]],
M 426 [(a [s 2 0x4250, s 3 0x525545], a [y 0 [(1, 1)], i 0, i 0]), (a [s 2 0x4151, s 1 0x58], a [y 0 [(0, 1)], i 0, i 0])] [2, 3] 4,
C 433 9 9 true [p 11 0, b true, b false, i 1, m 434, m 435, b false, b true, b false],
M 434 [(i 1, a [])] [0] 1,
C 1479 2 2 false [i 1, y 0 [(0, 1)]]] [294, 426, 433, 434] Bpl10
noncomputable def Bpl96 : List (Nat × B) := ov [C 294 42 21 false [i 1, s 1 0x50, s 2 0x4150, s 2 0x4250, s 1 0x51, b true, s 1 0x58, s 3 0x525545, s 0 0, y 0 [(0, 1)], y 0 [(1, 1)], i 0, i 0, i 2, b true, b false, b false, i 3, i 2, y 0 [(0, 1)], y 0 [(1, 1)], i 2, s 1 0x51, s 2 0x4151, s 2 0x4251, s 1 0x50, b false, s 1 0x58, s 3 0x525545, s 0 0, y 0 [(0, 1)], y 0 [(1, 1)], i 0, i 0, i 1, b true, b false, b false, i 3, i 1, y 0 [(0, 1)], y 0 [(1, 1)]],
M 426 [(a [s 2 0x4251, s 3 0x525545], a [y 0 [(3, 1)], i 0, i 0]), (a [s 2 0x4151, s 1 0x58], a [y 0 [(0, 1)], i 0, i 0])] [1, 2] 3,
C 433 9 9 true [p 11 0, b true, b false, i 1, m 434, m 435, b false, b true, b false],
M 434 [(i 1, a [])] [0] 1,
C 1479 2 2 false [i 1, y 0 [(0, 1)]]] [294, 426, 433, 434] Bpl10
noncomputable def Bpl100 : List (Nat × B) := ov [C 294 42 21 false [i 1, s 1 0x50, s 2 0x4150, s 2 0x4250, s 1 0x51, b true, s 1 0x58, s 3 0x525545, s 0 0, y 0 [(0, 1)], y 0 [(1, 1)], i 0, i 0, i 2, b true, b false, b false, i 3, i 2, y 0 [(0, 1)], y 0 [(1, 1)], i 2, s 1 0x51, s 2 0x4151, s 2 0x4251, s 1 0x50, b false, s 1 0x58, s 3 0x525545, s 0 0, y 0 [(0, 1)], y 0 [(1, 1)], i 0, i 0, i 1, b true, b false, b false, i 3, i 1, y 0 [(0, 1)], y 0 [(1, 1)]],
M 426 [(a [s 2 0x4150, s 1 0x58], a [y 0 [(0, -1), (10, 1)], i 0, i 0]), (a [s 2 0x4251, s 3 0x525545], a [y 0 [(3, 1)], i 0, i 0]), (a [s 2 0x4151, s 1 0x58], a [y 0 [(0, 1)], i 0, i 0])] [0, 1, 2] 3,
C 433 9 9 true [p 11 0, b false, b false, i 1, m 434, m 435, b false, b true, b false],
M 434 [(i 1, a [])] [0] 1,
C 1479 2 2 false [i 1, y 0 [(0, 1)]]] [294, 426, 433, 434] Bpl9
noncomputable def Bpl102 : List (Nat × B) := ov [C 294 42 21 false [i 1, s 1 0x50, s 2 0x4150, s 2 0x4250, s 1 0x51, b true, s 1 0x58, s 3 0x525545, s 0 0, y 0 [(0, 1)], y 0 [(1, 1)], i 0, i 0, i 2, b true, b false, b false, i 3, i 2, y 0 [(0, 1)], y 0 [(1, 1)], i 2, s 1 0x51, s 2 0x4151, s 2 0x4251, s 1 0x50, b false, s 1 0x58, s 3 0x525545, s 0 0, y 0 [(0, 1)], y 0 [(1, 1)], i 0, i 0, i 1, b true, b false, b false, i 3, i 1, y 0 [(0, 1)], y 0 [(1, 1)]],
M 426 [(a [s 2 0x4251, s 3 0x525545], a [y 0 [(3, 1)], i 0, i 0]), (a [s 2 0x4151, s 1 0x58], a [y 0 [(0, 1)], i 0, i 0])] [1, 2] 3,
C 433 9 9 true [p 11 0, b false, b false, i 1, m 434, m 435, b false, b true, b false],
M 434 [(i 1, a [])] [0] 1,
C 1479 2 2 false [i 1, y 0 [(0, 1)]]] [294, 426, 433, 434] Bpl9
noncomputable def Bpl103 : List (Nat × B) := ov [C 294 42 21 false [i 1, s 1 0x50, s 2 0x4150, s 2 0x4250, s 1 0x51, b true, s 1 0x58, s 3 0x525545, s 0 0, y 0 [(0, 1)], y 0 [(1, 1)], i 0, i 0, i 2, b true, b false, b false, i 3, i 2, y 0 [(0, 1)], y 0 [(1, 1)], i 2, s 1 0x51, s 2 0x4151, s 2 0x4251, s 1 0x50, b false, s 1 0x58, s 3 0x525545, s 0 0, y 0 [(0, 1)], y 0 [(1, 1)], i 0, i 0, i 1, b true, b false, b false, i 3, i 1, y 0 [(0, 1)], y 0 [(1, 1)]],
M 426 [(a [s 2 0x4150, s 1 0x58], a [y 0 [(0, -1), (10, 1)], i 0, i 0]), (a [s 2 0x4251, s 3 0x525545], a [y 0 [(1, -1), (3, 1)], i 0, i 0]), (a [s 2 0x4250, s 3 0x525545], a [y 0 [(1, 1)], i 0, i 0]), (a [s 2 0x4151, s 1 0x58], a [y 0 [(0, 1)], i 0, i 0])] [0, 1, 2, 3] 4,
C 433 9 9 true [p 11 0, b false, b false, i 1, m 434, m 435, b false, b true, b false],
M 434 [(i 1, a [])] [0] 1,
C 1479 2 2 false [i 1, y 0 [(0, 1)]]] [294, 426, 433, 434] Bpl9
noncomputable def Bpl104 : List (Nat × B) := ov [C 294 42 21 false [i 1, s 1 0x50, s 2 0x4150, s 2 0x4250, s 1 0x51, b true, s 1 0x58, s 3 0x525545, s 0 0, y 0 [(0, 1)], y 0 [(1, 1)], i 0, i 0, i 2, b true, b false, b false, i 3, i 2, y 0 [(0, 1)], y 0 [(1, 1)], i 2, s 1 0x51, s 2 0x4151, s 2 0x4251, s 1 0x50, b false, s 1 0x58, s 3 0x525545, s 0 0, y 0 [(0, 1)], y 0 [(1, 1)], i 0, i 0, i 1, b true, b false, b false, i 3, i 1, y 0 [(0, 1)], y 0 [(1, 1)]],
M 426 [(a [s 2 0x4251, s 3 0x525545], a [y 0 [(1, -1), (3, 1)], i 0, i 0]), (a [s 2 0x4250, s 3 0x525545], a [y 0 [(1, 1)], i 0, i 0]), (a [s 2 0x4151, s 1 0x58], a [y 0 [(0, 1)], i 0, i 0])] [1, 2, 3] 4,
C 433 9 9 true [p 11 0, b false, b false, i 1, m 434, m 435, b false, b true, b false],
M 434 [(i 1, a [])] [0] 1,
C 1479 2 2 false [i 1, y 0 [(0, 1)]]] [294, 426, 433, 434] Bpl9
noncomputable def Bpl105 : List (Nat × B) := ov [C 294 42 21 false [i 1, s 1 0x50, s 2 0x4150, s 2 0x4250, s 1 0x51, b true, s 1 0x58, s 3 0x525545, s 0 0, y 0 [(0, 1)], y 0 [(1, 1)], i 0, i 0, i 2, b true, b false, b false, i 3, i 2, y 0 [(0, 1)], y 0 [(1, 1)], i 2, s 1 0x51, s 2 0x4151, s 2 0x4251, s 1 0x50, b false, s 1 0x58, s 3 0x525545, s 0 0, y 0 [(0, 1)], y 0 [(1, 1)], i 0, i 0, i 1, b true, b false, b false, i 3, i 1, y 0 [(0, 1)], y 0 [(1, 1)]],
M 426 [(a [s 2 0x4150, s 1 0x58], a [y 0 [(0, -1), (10, 1)], i 0, i 0]), (a [s 2 0x4250, s 3 0x525545], a [y 0 [(1, 1)], i 0, i 0]), (a [s 2 0x4151, s 1 0x58], a [y 0 [(0, 1)], i 0, i 0])] [0, 2, 3] 4,
C 433 9 9 true [p 11 0, b false, b false, i 1, m 434, m 435, b false, b true, b false],
M 434 [(i 1, a [])] [0] 1,
C 1479 2 2 false [i 1, y 0 [(0, 1)]]] [294, 426, 433, 434] Bpl9
noncomputable def Bpl106 : List (Nat × B) := ov [C 294 42 21 false [i 1, s 1 0x50, s 2 0x4150, s 2 0x4250, s 1 0x51, b true, s 1 0x58, s 3 0x525545, s 0 0, y 0 [(0, 1)], y 0 [(1, 1)], i 0, i 0, i 2, b true, b false, b false, i 3, i 2, y 0 [(0, 1)], y 0 [(1, 1)], i 2, s 1 0x51, s 2 0x4151, s 2 0x4251, s 1 0x50, b false, s 1 0x58, s 3 0x525545, s 0 0, y 0 [(0, 1)], y 0 [(1, 1)], i 0, i 0, i 1, b true, b false, b false, i 3, i 1, y 0 [(0, 1)], y 0 [(1, 1)]],
M 426 [(a [s 2 0x4250, s 3 0x525545], a [y 0 [(1, 1)], i 0, i 0]), (a [s 2 0x4151, s 1 0x58], a [y 0 [(0, 1)], i 0, i 0])] [2, 3] 4,
C 433 9 9 true [p 11 0, b false, b false, i 1, m 434, m 435, b false, b true, b false],
M 434 [(i 1, a [])] [0] 1,
C 1479 2 2 false [i 1, y 0 [(0, 1)]]] [294, 426, 433, 434] Bpl9
noncomputable def Bpl111 : List (Nat × B) := ov [C 1716 2 2 true [r 1479 1 1, ns],
C 1717 2 2 true [r 1479 1 1, ns],
C 1718 2 2 false [r 1479 1 1, ns]] [] Bpl91
noncomputable def Bpl112 : List (Nat × B) := ov [C 1808 2 2 true [r 1479 1 1, ns],
C 1809 2 2 true [r 1479 1 1, ns],
C 1810 2 2 false [r 1479 1 1, ns]] [] Bpl92
noncomputable def Bpl113 : List (Nat × B) := ov [C 1808 2 2 true [r 1479 1 1, ns],
C 1809 2 2 true [r 1479 1 1, ns],
C 1810 2 2 false [r 1479 1 1, ns]] [] Bpl95
noncomputable def Bpl114 : List (Nat × B) := ov [C 1716 2 2 true [r 1479 1 1, ns],
C 1717 2 2 true [r 1479 1 1, ns],
C 1718 2 2 false [r 1479 1 1, ns]] [] Bpl96
noncomputable def Bpl115 : List (Nat × B) := ov [C 1808 2 2 true [r 1479 1 1, ns],
C 1809 2 2 true [r 1479 1 1, ns],
C 1810 2 2 false [r 1479 1 1, ns]] [] Bpl90
noncomputable def Bpl116 : List (Nat × B) := ov [C 1808 2 2 true [r 1479 1 1, ns],
C 1809 2 2 true [r 1479 1 1, ns],
C 1810 2 2 false [r 1479 1 1, ns]] [] Bpl94
noncomputable def Bpl117 : List (Nat × B) := ov [C 1808 2 2 true [r 1479 1 1, ns],
C 1809 2 2 true [r 1479 1 1, ns],
C 1810 2 2 false [r 1479 1 1, ns]] [] Bpl103
noncomputable def Bpl118 : List (Nat × B) := ov [C 1716 2 2 true [r 1479 1 1, ns],
C 1717 2 2 true [r 1479 1 1, ns],
C 1718 2 2 false [r 1479 1 1, ns]] [] Bpl102
noncomputable def Bpl119 : List (Nat × B) := ov [C 1716 2 2 true [r 1479 1 1, ns],
C 1717 2 2 true [r 1479 1 1, ns],
C 1718 2 2 false [r 1479 1 1, ns]] [] Bpl100
noncomputable def Bpl121 : List (Nat × B) := ov [C 1808 2 2 true [r 1479 1 1, ns],
C 1809 2 2 true [r 1479 1 1, ns],
C 1810 2 2 false [r 1479 1 1, ns]] [] Bpl104
noncomputable def Bpl123 : List (Nat × B) := ov [C 1808 2 2 true [r 1479 1 1, ns],
C 1809 2 2 true [r 1479 1 1, ns],
C 1810 2 2 false [r 1479 1 1, ns]] [] Bpl105
noncomputable def Bpl128 : List (Nat × B) := ov [C 1808 2 2 true [r 1479 1 1, ns],
C 1809 2 2 true [r 1479 1 1, ns],
C 1810 2 2 false [r 1479 1 1, ns]] [] Bpl106
noncomputable def Bpl174 : List (Nat × B) := ov [C 433 9 9 true [p 11 0, b true, b false, i 1, m 434, m 435, b true, b true, b false],
M 434 [(i 1, a [])] [0] 1,
M 435 [(i 1, a [])] [0] 1,
C 2906 2 2 true [i 1, y 0 [(11, 1)]]] [433, 434, 435] Bpl12
noncomputable def Bpl175 : List (Nat × B) := ov [C 433 9 9 true [p 11 0, b true, b false, i 1, m 434, m 435, b true, b true, b false],
M 434 [(i 1, a [])] [0] 1,
M 435 [(i 1, a [])] [0] 1,
C 2928 2 2 true [i 1, y 0 [(11, 1)]]] [433, 434, 435] Bpl12
noncomputable def Bpl190 : List (Nat × B) := ov [C 3005 2 2 true [r 2906 1 1, ns]] [] Bpl174
noncomputable def Bpl195 : List (Nat × B) := ov [C 3027 2 2 true [r 2928 1 1, ns]] [] Bpl175
noncomputable def Bpl207 : List (Nat × B) := ov [C 294 42 21 false [i 1, s 1 0x50, s 2 0x4150, s 2 0x4250, s 1 0x51, b true, s 1 0x58, s 3 0x525545, s 0 0, y 0 [(0, 1)], y 0 [(1, 1)], i 0, i 0, i 2, b true, b false, b false, i 2, i 2, y 0 [(11, 1)], i 0, i 2, s 1 0x51, s 2 0x4151, s 2 0x4251, s 1 0x50, b false, s 1 0x58, s 3 0x525545, s 0 0, y 0 [(0, 1)], y 0 [(1, 1)], i 0, i 0, i 1, b true, b false, b false, i 2, i 1, y 0 [(11, 1)], i 0],
M 426 [(a [s 2 0x4150, s 1 0x58], a [y 0 [(11, -1), (10, 1)], i 0, i 0]), (a [s 2 0x4151, s 1 0x58], a [y 0 [(11, 1)], i 0, i 0])] [0, 1] 2] [294, 426] Bpl190
noncomputable def Bpl209 : List (Nat × B) := ov [C 294 42 21 false [i 1, s 1 0x50, s 2 0x4150, s 2 0x4250, s 1 0x51, b true, s 1 0x58, s 3 0x525545, s 0 0, y 0 [(0, 1)], y 0 [(1, 1)], i 0, i 0, i 2, b true, b false, b false, i 2, i 2, y 0 [(11, 1)], i 0, i 2, s 1 0x51, s 2 0x4151, s 2 0x4251, s 1 0x50, b false, s 1 0x58, s 3 0x525545, s 0 0, y 0 [(0, 1)], y 0 [(1, 1)], i 0, i 0, i 1, b true, b false, b false, i 2, i 1, y 0 [(11, 1)], i 0],
M 426 [(a [s 2 0x4150, s 1 0x58], a [y 0 [(11, -1), (10, 1)], i 0, i 0]), (a [s 2 0x4151, s 1 0x58], a [y 0 [(11, 1)], i 0, i 0])] [0, 1] 2] [294, 426] Bpl195
noncomputable def Bpl216 : List (Nat × B) := ov [C 433 9 9 true [p 11 0, b true, b false, i 1, m 434, m 435, b true, b true, b false],
M 434 [(i 1, a [])] [0] 1,
M 435 [(i 1, a [])] [0] 1,
C 2906 2 2 true [i 1, y 0 [(4, 1)]]] [433, 434, 435] Bpl13
noncomputable def Bpl217 : List (Nat × B) := ov [C 433 9 9 true [p 11 0, b true, b false, i 1, m 434, m 435, b true, b true, b false],
M 434 [(i 1, a [])] [0] 1,
M 435 [(i 1, a [])] [0] 1,
C 2928 2 2 true [i 1, y 0 [(4, 1)]]] [433, 434, 435] Bpl13
noncomputable def Bpl222 : List (Nat × B) := ov [C 294 42 21 false [i 1, s 1 0x50, s 2 0x4150, s 2 0x4250, s 1 0x51, b true, s 1 0x58, s 3 0x525545, s 0 0, y 0 [(0, 1)], y 0 [(1, 1)], i 0, i 0, i 2, b true, b false, b false, i 2, i 2, y 0 [(11, 1)], i 0, i 2, s 1 0x51, s 2 0x4151, s 2 0x4251, s 1 0x50, b false, s 1 0x58, s 3 0x525545, s 0 0, y 0 [(0, 1)], y 0 [(1, 1)], i 0, i 0, i 1, b true, b false, b false, i 2, i 1, y 0 [(11, 1)], i 0],
M 426 [(a [s 2 0x4150, s 1 0x58], a [y 0 [(11, -1), (10, 1)], i 0, i 0]), (a [s 2 0x4151, s 1 0x58], a [y 0 [(11, 1)], i 0, i 0])] [0, 1] 2,
C 433 9 9 true [p 11 0, b true, b false, i 1, m 434, m 435, b true, b true, b false],
M 434 [(i 1, a [])] [0] 1,
M 435 [(i 1, a [])] [0] 1,
C 2906 2 2 true [i 1, y 0 [(11, 1)]]] [294, 426, 433, 434, 435] Bpl11
noncomputable def Bpl223 : List (Nat × B) := ov [C 294 42 21 false [i 1, s 1 0x50, s 2 0x4150, s 2 0x4250, s 1 0x51, b true, s 1 0x58, s 3 0x525545, s 0 0, y 0 [(0, 1)], y 0 [(1, 1)], i 0, i 0, i 2, b true, b false, b false, i 2, i 2, y 0 [(11, 1)], i 0, i 2, s 1 0x51, s 2 0x4151, s 2 0x4251, s 1 0x50, b false, s 1 0x58, s 3 0x525545, s 0 0, y 0 [(0, 1)], y 0 [(1, 1)], i 0, i 0, i 1, b true, b false, b false, i 2, i 1, y 0 [(11, 1)], i 0],
M 426 [(a [s 2 0x4150, s 1 0x58], a [y 0 [(11, -1), (10, 1)], i 0, i 0]), (a [s 2 0x4151, s 1 0x58], a [y 0 [(11, 1)], i 0, i 0])] [0, 1] 2,
C 433 9 9 true [p 11 0, b true, b false, i 1, m 434, m 435, b true, b true, b false],
M 434 [(i 1, a [])] [0] 1,
M 435 [(i 1, a [])] [0] 1,
C 2928 2 2 true [i 1, y 0 [(11, 1)]]] [294, 426, 433, 434, 435] Bpl11
noncomputable def Bpl236 : List (Nat × B) := ov [C 3033 2 2 true [r 2906 1 1, ns]] [] Bpl216
noncomputable def Bpl237 : List (Nat × B) := ov [C 3055 2 2 true [r 2928 1 1, ns]] [] Bpl217
noncomputable def Bpl238 : List (Nat × B) := ov [C 3158 2 2 true [r 2906 1 1, ns],
C 3159 2 2 true [r 2906 1 1, ns],
C 3160 2 2 false [r 2906 1 1, ns]] [] Bpl222
noncomputable def Bpl240 : List (Nat × B) := ov [C 3180 2 2 true [r 2928 1 1, ns],
C 3181 2 2 true [r 2928 1 1, ns],
C 3182 2 2 false [r 2928 1 1, ns]] [] Bpl223
noncomputable def Bpl247 : List (Nat × B) := ov [C 294 42 21 false [i 1, s 1 0x50, s 2 0x4150, s 2 0x4250, s 1 0x51, b true, s 1 0x58, s 3 0x525545, s 0 0, y 0 [(0, 1)], y 0 [(1, 1)], i 0, i 0, i 2, b true, b false, b false, i 2, i 2, y 0 [(4, 1)], y 0 [(8, 1)], i 2, s 1 0x51, s 2 0x4151, s 2 0x4251, s 1 0x50, b false, s 1 0x58, s 3 0x525545, s 0 0, y 0 [(0, 1)], y 0 [(1, 1)], i 0, i 0, i 1, b true, b false, b false, i 2, i 1, y 0 [(4, 1)], y 0 [(8, 1)]],
M 426 [(a [s 2 0x4150, s 1 0x58], a [y 0 [(4, -1), (10, 1)], i 0, i 0]), (a [s 2 0x4250, s 3 0x525545], a [y 0 [(8, 1)], i 0, i 0]), (a [s 2 0x4151, s 1 0x58], a [y 0 [(4, 1)], i 0, i 0])] [0, 2, 3] 4] [294, 426] Bpl236
noncomputable def Bpl248 : List (Nat × B) := ov [C 294 42 21 false [i 1, s 1 0x50, s 2 0x4150, s 2 0x4250, s 1 0x51, b true, s 1 0x58, s 3 0x525545, s 0 0, y 0 [(0, 1)], y 0 [(1, 1)], i 0, i 0, i 2, b true, b false, b false, i 2, i 2, y 0 [(4, 1)], y 0 [(8, 1)], i 2, s 1 0x51, s 2 0x4151, s 2 0x4251, s 1 0x50, b false, s 1 0x58, s 3 0x525545, s 0 0, y 0 [(0, 1)], y 0 [(1, 1)], i 0, i 0, i 1, b true, b false, b false, i 2, i 1, y 0 [(4, 1)], y 0 [(8, 1)]],
M 426 [(a [s 2 0x4150, s 1 0x58], a [y 0 [(4, -1), (10, 1)], i 0, i 0]), (a [s 2 0x4250, s 3 0x525545], a [y 0 [(8, 1)], i 0, i 0]), (a [s 2 0x4151, s 1 0x58], a [y 0 [(4, 1)], i 0, i 0])] [0, 2, 3] 4] [294, 426] Bpl237
noncomputable def Bpl265 : List (Nat × B) := ov [C 294 42 21 false [i 1, s 1 0x50, s 2 0x4150, s 2 0x4250, s 1 0x51, b true, s 1 0x58, s 3 0x525545, s 0 0, y 0 [(0, 1)], y 0 [(1, 1)], i 0, i 0, i 2, b true, b false, b false, i 2, i 2, y 0 [(4, 1)], y 0 [(8, 1)], i 2, s 1 0x51, s 2 0x4151, s 2 0x4251, s 1 0x50, b false, s 1 0x58, s 3 0x525545, s 0 0, y 0 [(0, 1)], y 0 [(1, 1)], i 0, i 0, i 1, b true, b false, b false, i 2, i 1, y 0 [(4, 1)], y 0 [(8, 1)]],
M 426 [(a [s 2 0x4150, s 1 0x58], a [y 0 [(4, -1), (10, 1)], i 0, i 0]), (a [s 2 0x4250, s 3 0x525545], a [y 0 [(8, 1)], i 0, i 0]), (a [s 2 0x4151, s 1 0x58], a [y 0 [(4, 1)], i 0, i 0])] [0, 2, 3] 4,
C 433 9 9 true [p 11 0, b true, b false, i 1, m 434, m 435, b true, b true, b false],
M 434 [(i 1, a [])] [0] 1,
M 435 [(i 1, a [])] [0] 1,
C 2906 2 2 true [i 1, y 0 [(4, 1)]]] [294, 426, 433, 434, 435] Bpl10
noncomputable def Bpl266 : List (Nat × B) := ov [C 294 42 21 false [i 1, s 1 0x50, s 2 0x4150, s 2 0x4250, s 1 0x51, b true, s 1 0x58, s 3 0x525545, s 0 0, y 0 [(0, 1)], y 0 [(1, 1)], i 0, i 0, i 2, b true, b false, b false, i 2, i 2, y 0 [(4, 1)], y 0 [(8, 1)], i 2, s 1 0x51, s 2 0x4151, s 2 0x4251, s 1 0x50, b false, s 1 0x58, s 3 0x525545, s 0 0, y 0 [(0, 1)], y 0 [(1, 1)], i 0, i 0, i 1, b true, b false, b false, i 2, i 1, y 0 [(4, 1)], y 0 [(8, 1)]],
M 426 [(a [s 2 0x4150, s 1 0x58], a [y 0 [(4, -1), (10, 1)], i 0, i 0]), (a [s 2 0x4250, s 3 0x525545], a [y 0 [(8, 1)], i 0, i 0]), (a [s 2 0x4151, s 1 0x58], a [y 0 [(4, 1)], i 0, i 0])] [0, 2, 3] 4,
C 433 9 9 true [p 11 0, b true, b false, i 1, m 434, m 435, b true, b true, b false],
M 434 [(i 1, a [])] [0] 1,
M 435 [(i 1, a [])] [0] 1,
C 2928 2 2 true [i 1, y 0 [(4, 1)]]] [294, 426, 433, 434, 435] Bpl10
noncomputable def Bpl275 : List (Nat × B) := ov [C 3272 2 2 true [r 2928 1 1, ns],
C 3273 2 2 true [r 2928 1 1, ns],
C 3274 2 2 false [r 2928 1 1, ns]] [] Bpl266
noncomputable def Bpl278 : List (Nat × B) := ov [C 3250 2 2 true [r 2906 1 1, ns],
C 3251 2 2 true [r 2906 1 1, ns],
C 3252 2 2 false [r 2906 1 1, ns]] [] Bpl265
noncomputable def Bpl326 : List (Nat × B) := ov [C 433 9 9 true [p 11 0, b false, b false, i 2, m 3744, m 3745, b true, b false, b true],
M 3744 [] [] 0,
M 3745 [] [] 0] [433] Bpl74
noncomputable def Bpl344 : List (Nat × B) := ov [C 433 9 9 true [p 11 0, b false, b false, i 2, m 3744, m 3745, b true, b false, b true],
M 3744 [] [] 0,
M 3745 [] [] 0] [433] Bpl69
noncomputable def Bpl349 : List (Nat × B) := ov [C 433 9 9 true [p 11 0, b true, b false, i 2, m 3747, m 3748, b true, b false, b true],
M 3747 [] [] 0,
M 3748 [] [] 0] [433] Bpl89
noncomputable def Bpl350 : List (Nat × B) := ov [C 433 9 9 true [p 11 0, b true, b false, i 2, m 3747, m 3748, b true, b false, b true],
M 3747 [] [] 0,
M 3748 [] [] 0] [433] Bpl88
noncomputable def Bpl355 : List (Nat × B) := ov [C 294 42 21 false [i 1, s 1 0x50, s 2 0x4150, s 2 0x4250, s 1 0x51, b true, s 1 0x58, s 3 0x525545, s 0 0, y 0 [(0, 1)], y 0 [(1, 1)], i 0, i 0, i 2, b true, b false, b false, i 3, i 2, y 0 [(0, 1)], y 0 [(1, 1)], i 2, s 1 0x51, s 2 0x4151, s 2 0x4251, s 1 0x50, b false, s 1 0x58, s 3 0x525545, s 0 0, y 0 [(0, 1)], y 0 [(1, 1)], i 0, i 0, i 1, b true, b false, b false, i 3, i 1, y 0 [(0, 1)], y 0 [(1, 1)]],
M 426 [(a [s 2 0x4150, s 1 0x58], a [y 0 [(0, -1), (10, 1)], i 0, i 0]), (a [s 2 0x4151, s 1 0x58], a [y 0 [(0, 1)], i 0, i 0])] [0, 1] 2,
C 433 9 9 true [p 11 0, b false, b false, i 2, m 3744, m 3745, b true, b false, b true],
M 434 [(i 1, a [])] [0] 1,
C 1479 2 2 false [i 1, y 0 [(0, 1)]],
C 1718 2 2 false [r 1479 1 1, ns],
M 3744 [] [] 0,
M 3745 [] [] 0] [294, 426, 433, 434] Bpl8
noncomputable def Bpl356 : List (Nat × B) := ov [C 294 42 21 false [i 1, s 1 0x50, s 2 0x4150, s 2 0x4250, s 1 0x51, b true, s 1 0x58, s 3 0x525545, s 0 0, y 0 [(0, 1)], y 0 [(1, 1)], i 0, i 0, i 2, b true, b false, b false, i 3, i 2, y 0 [(0, 1)], y 0 [(1, 1)], i 2, s 1 0x51, s 2 0x4151, s 2 0x4251, s 1 0x50, b false, s 1 0x58, s 3 0x525545, s 0 0, y 0 [(0, 1)], y 0 [(1, 1)], i 0, i 0, i 1, b true, b false, b false, i 3, i 1, y 0 [(0, 1)], y 0 [(1, 1)]],
M 426 [(a [s 2 0x4151, s 1 0x58], a [y 0 [(0, 1)], i 0, i 0])] [1] 2,
C 433 9 9 true [p 11 0, b false, b false, i 2, m 3744, m 3745, b true, b false, b true],
M 434 [(i 1, a [])] [0] 1,
C 1479 2 2 false [i 1, y 0 [(0, 1)]],
C 1718 2 2 false [r 1479 1 1, ns],
M 3744 [] [] 0,
M 3745 [] [] 0] [294, 426, 433, 434] Bpl8
noncomputable def Bpl362 : List (Nat × B) := ov [C 294 42 21 false [i 1, s 1 0x50, s 2 0x4150, s 2 0x4250, s 1 0x51, b true, s 1 0x58, s 3 0x525545, s 0 0, y 0 [(0, 1)], y 0 [(1, 1)], i 0, i 0, i 2, b true, b false, b false, i 3, i 2, y 0 [(0, 1)], y 0 [(1, 1)], i 2, s 1 0x51, s 2 0x4151, s 2 0x4251, s 1 0x50, b false, s 1 0x58, s 3 0x525545, s 0 0, y 0 [(0, 1)], y 0 [(1, 1)], i 0, i 0, i 1, b true, b false, b false, i 3, i 1, y 0 [(0, 1)], y 0 [(1, 1)]],
M 426 [(a [s 2 0x4150, s 1 0x58], a [y 0 [(0, -1), (10, 1)], i 0, i 0]), (a [s 2 0x4151, s 1 0x58], a [y 0 [(0, 1)], i 0, i 0])] [0, 1] 2,
C 433 9 9 true [p 11 0, b true, b false, i 2, m 3747, m 3748, b true, b false, b true],
M 434 [(i 1, a [])] [0] 1,
C 1479 2 2 false [i 1, y 0 [(0, 1)]],
C 1718 2 2 false [r 1479 1 1, ns],
M 3747 [] [] 0,
M 3748 [] [] 0] [294, 426, 433, 434] Bpl11
noncomputable def Bpl364 : List (Nat × B) := ov [C 294 42 21 false [i 1, s 1 0x50, s 2 0x4150, s 2 0x4250, s 1 0x51, b true, s 1 0x58, s 3 0x525545, s 0 0, y 0 [(0, 1)], y 0 [(1, 1)], i 0, i 0, i 2, b true, b false, b false, i 3, i 2, y 0 [(0, 1)], y 0 [(1, 1)], i 2, s 1 0x51, s 2 0x4151, s 2 0x4251, s 1 0x50, b false, s 1 0x58, s 3 0x525545, s 0 0, y 0 [(0, 1)], y 0 [(1, 1)], i 0, i 0, i 1, b true, b false, b false, i 3, i 1, y 0 [(0, 1)], y 0 [(1, 1)]],
M 426 [(a [s 2 0x4151, s 1 0x58], a [y 0 [(0, 1)], i 0, i 0])] [1] 2,
C 433 9 9 true [p 11 0, b true, b false, i 2, m 3747, m 3748, b true, b false, b true],
M 434 [(i 1, a [])] [0] 1,
C 1479 2 2 false [i 1, y 0 [(0, 1)]],
C 1718 2 2 false [r 1479 1 1, ns],
M 3747 [] [] 0,
M 3748 [] [] 0] [294, 426, 433, 434] Bpl11
noncomputable def Bpl367 : List (Nat × B) := ov [C 433 9 9 true [p 11 0, b false, b false, i 2, m 3836, m 3837, b true, b false, b true],
M 3836 [] [] 0,
M 3837 [] [] 0] [433] Bpl117
noncomputable def Bpl369 : List (Nat × B) := ov [C 433 9 9 true [p 11 0, b true, b false, i 2, m 3747, m 3748, b true, b false, b true],
M 3747 [] [] 0,
M 3748 [] [] 0] [433] Bpl111
noncomputable def Bpl374 : List (Nat × B) := ov [C 433 9 9 true [p 11 0, b false, b false, i 2, m 3744, m 3745, b true, b false, b true],
M 3744 [] [] 0,
M 3745 [] [] 0] [433] Bpl118
noncomputable def Bpl375 : List (Nat × B) := ov [C 433 9 9 true [p 11 0, b true, b false, i 2, m 3839, m 3840, b true, b false, b true],
M 3839 [] [] 0,
M 3840 [] [] 0] [433] Bpl115
noncomputable def Bpl377 : List (Nat × B) := ov [C 433 9 9 true [p 11 0, b true, b false, i 2, m 3839, m 3840, b true, b false, b true],
M 3839 [] [] 0,
M 3840 [] [] 0] [433] Bpl116
noncomputable def Bpl378 : List (Nat × B) := ov [C 433 9 9 true [p 11 0, b true, b false, i 2, m 3839, m 3840, b true, b false, b true],
M 3839 [] [] 0,
M 3840 [] [] 0] [433] Bpl113
noncomputable def Bpl379 : List (Nat × B) := ov [C 433 9 9 true [p 11 0, b true, b false, i 2, m 3839, m 3840, b true, b false, b true],
M 3839 [] [] 0,
M 3840 [] [] 0] [433] Bpl112
noncomputable def Bpl380 : List (Nat × B) := ov [C 433 9 9 true [p 11 0, b false, b false, i 2, m 3836, m 3837, b true, b false, b true],
M 3836 [] [] 0,
M 3837 [] [] 0] [433] Bpl123
noncomputable def Bpl382 : List (Nat × B) := ov [C 433 9 9 true [p 11 0, b false, b false, i 2, m 3836, m 3837, b true, b false, b true],
M 3836 [] [] 0,
M 3837 [] [] 0] [433] Bpl128
noncomputable def Bpl384 : List (Nat × B) := ov [C 433 9 9 true [p 11 0, b false, b false, i 2, m 3744, m 3745, b true, b false, b true],
M 3744 [] [] 0,
M 3745 [] [] 0] [433] Bpl119
noncomputable def Bpl385 : List (Nat × B) := ov [C 433 9 9 true [p 11 0, b true, b false, i 2, m 3747, m 3748, b true, b false, b true],
M 3747 [] [] 0,
M 3748 [] [] 0] [433] Bpl114
noncomputable def Bpl386 : List (Nat × B) := ov [C 433 9 9 true [p 11 0, b false, b false, i 2, m 3836, m 3837, b true, b false, b true],
M 3836 [] [] 0,
M 3837 [] [] 0] [433] Bpl121
noncomputable def Bpl391 : List (Nat × B) := ov [C 294 42 21 false [i 1, s 1 0x50, s 2 0x4150, s 2 0x4250, s 1 0x51, b true, s 1 0x58, s 3 0x525545, s 0 0, y 0 [(0, 1)], y 0 [(1, 1)], i 0, i 0, i 2, b true, b false, b false, i 3, i 2, y 0 [(0, 1)], y 0 [(1, 1)], i 2, s 1 0x51, s 2 0x4151, s 2 0x4251, s 1 0x50, b false, s 1 0x58, s 3 0x525545, s 0 0, y 0 [(0, 1)], y 0 [(1, 1)], i 0, i 0, i 1, b true, b false, b false, i 3, i 1, y 0 [(0, 1)], y 0 [(1, 1)]],
M 426 [(a [s 2 0x4150, s 1 0x58], a [y 0 [(0, -1), (10, 1)], i 0, i 0]), (a [s 2 0x4251, s 3 0x525545], a [y 0 [(3, 1)], i 0, i 0]), (a [s 2 0x4151, s 1 0x58], a [y 0 [(0, 1)], i 0, i 0])] [0, 1, 2] 3,
C 433 9 9 true [p 11 0, b true, b false, i 2, m 3747, m 3748, b true, b false, b true],
M 434 [(i 1, a [])] [0] 1,
C 1479 2 2 false [i 1, y 0 [(0, 1)]],
C 1718 2 2 false [r 1479 1 1, ns],
M 3747 [] [] 0,
M 3748 [] [] 0] [294, 426, 433, 434] Bpl10
noncomputable def Bpl392 : List (Nat × B) := ov [C 294 42 21 false [i 1, s 1 0x50, s 2 0x4150, s 2 0x4250, s 1 0x51, b true, s 1 0x58, s 3 0x525545, s 0 0, y 0 [(0, 1)], y 0 [(1, 1)], i 0, i 0, i 2, b true, b false, b false, i 3, i 2, y 0 [(0, 1)], y 0 [(1, 1)], i 2, s 1 0x51, s 2 0x4151, s 2 0x4251, s 1 0x50, b false, s 1 0x58, s 3 0x525545, s 0 0, y 0 [(0, 1)], y 0 [(1, 1)], i 0, i 0, i 1, b true, b false, b false, i 3, i 1, y 0 [(0, 1)], y 0 [(1, 1)]],
M 426 [(a [s 2 0x4150, s 1 0x58], a [y 0 [(0, -1), (10, 1)], i 0, i 0]), (a [s 2 0x4251, s 3 0x525545], a [y 0 [(1, -1), (3, 1)], i 0, i 0]), (a [s 2 0x4250, s 3 0x525545], a [y 0 [(1, 1)], i 0, i 0]), (a [s 2 0x4151, s 1 0x58], a [y 0 [(0, 1)], i 0, i 0])] [0, 1, 2, 3] 4,
C 433 9 9 true [p 11 0, b false, b false, i 2, m 3836, m 3837, b true, b false, b true],
M 434 [(i 1, a [])] [0] 1,
C 1479 2 2 false [i 1, y 0 [(0, 1)]],
C 1810 2 2 false [r 1479 1 1, ns],
M 3836 [] [] 0,
M 3837 [] [] 0] [294, 426, 433, 434] Bpl9
noncomputable def Bpl393 : List (Nat × B) := ov [C 294 42 21 false [i 1, s 1 0x50, s 2 0x4150, s 2 0x4250, s 1 0x51, b true, s 1 0x58, s 3 0x525545, s 0 0, y 0 [(0, 1)], y 0 [(1, 1)], i 0, i 0, i 2, b true, b false, b false, i 3, i 2, y 0 [(0, 1)], y 0 [(1, 1)], i 2, s 1 0x51, s 2 0x4151, s 2 0x4251, s 1 0x50, b false, s 1 0x58, s 3 0x525545, s 0 0, y 0 [(0, 1)], y 0 [(1, 1)], i 0, i 0, i 1, b true, b false, b false, i 3, i 1, y 0 [(0, 1)], y 0 [(1, 1)]],
M 426 [(a [s 2 0x4150, s 1 0x58], a [y 0 [(0, -1), (10, 1)], i 0, i 0]), (a [s 2 0x4251, s 3 0x525545], a [y 0 [(3, 1)], i 0, i 0]), (a [s 2 0x4151, s 1 0x58], a [y 0 [(0, 1)], i 0, i 0])] [0, 1, 2] 3,
C 433 9 9 true [p 11 0, b false, b false, i 2, m 3744, m 3745, b true, b false, b true],
M 434 [(i 1, a [])] [0] 1,
C 1479 2 2 false [i 1, y 0 [(0, 1)]],
C 1718 2 2 false [r 1479 1 1, ns],
M 3744 [] [] 0,
M 3745 [] [] 0] [294, 426, 433, 434] Bpl9
noncomputable def Bpl394 : List (Nat × B) := ov [C 294 42 21 false [i 1, s 1 0x50, s 2 0x4150, s 2 0x4250, s 1 0x51, b true, s 1 0x58, s 3 0x525545, s 0 0, y 0 [(0, 1)], y 0 [(1, 1)], i 0, i 0, i 2, b true, b false, b false, i 3, i 2, y 0 [(0, 1)], y 0 [(1, 1)], i 2, s 1 0x51, s 2 0x4151, s 2 0x4251, s 1 0x50, b false, s 1 0x58, s 3 0x525545, s 0 0, y 0 [(0, 1)], y 0 [(1, 1)], i 0, i 0, i 1, b true, b false, b false, i 3, i 1, y 0 [(0, 1)], y 0 [(1, 1)]],
M 426 [(a [s 2 0x4150, s 1 0x58], a [y 0 [(0, -1), (10, 1)], i 0, i 0]), (a [s 2 0x4251, s 3 0x525545], a [y 0 [(1, -1), (3, 1)], i 0, i 0]), (a [s 2 0x4250, s 3 0x525545], a [y 0 [(1, 1)], i 0, i 0]), (a [s 2 0x4151, s 1 0x58], a [y 0 [(0, 1)], i 0, i 0])] [0, 1, 2, 3] 4,
C 433 9 9 true [p 11 0, b true, b false, i 2, m 3839, m 3840, b true, b false, b true],
M 434 [(i 1, a [])] [0] 1,
C 1479 2 2 false [i 1, y 0 [(0, 1)]],
C 1810 2 2 false [r 1479 1 1, ns],
M 3839 [] [] 0,
M 3840 [] [] 0] [294, 426, 433, 434] Bpl10
noncomputable def Bpl395 : List (Nat × B) := ov [C 294 42 21 false [i 1, s 1 0x50, s 2 0x4150, s 2 0x4250, s 1 0x51, b true, s 1 0x58, s 3 0x525545, s 0 0, y 0 [(0, 1)], y 0 [(1, 1)], i 0, i 0, i 2, b true, b false, b false, i 3, i 2, y 0 [(0, 1)], y 0 [(1, 1)], i 2, s 1 0x51, s 2 0x4151, s 2 0x4251, s 1 0x50, b false, s 1 0x58, s 3 0x525545, s 0 0, y 0 [(0, 1)], y 0 [(1, 1)], i 0, i 0, i 1, b true, b false, b false, i 3, i 1, y 0 [(0, 1)], y 0 [(1, 1)]],
M 426 [(a [s 2 0x4150, s 1 0x58], a [y 0 [(0, -1), (10, 1)], i 0, i 0]), (a [s 2 0x4250, s 3 0x525545], a [y 0 [(1, 1)], i 0, i 0]), (a [s 2 0x4151, s 1 0x58], a [y 0 [(0, 1)], i 0, i 0])] [0, 2, 3] 4,
C 433 9 9 true [p 11 0, b false, b false, i 2, m 3836, m 3837, b true, b false, b true],
M 434 [(i 1, a [])] [0] 1,
C 1479 2 2 false [i 1, y 0 [(0, 1)]],
C 1810 2 2 false [r 1479 1 1, ns],
M 3836 [] [] 0,
M 3837 [] [] 0] [294, 426, 433, 434] Bpl9
noncomputable def Bpl396 : List (Nat × B) := ov [C 294 42 21 false [i 1, s 1 0x50, s 2 0x4150, s 2 0x4250, s 1 0x51, b true, s 1 0x58, s 3 0x525545, s 0 0, y 0 [(0, 1)], y 0 [(1, 1)], i 0, i 0, i 2, b true, b false, b false, i 3, i 2, y 0 [(0, 1)], y 0 [(1, 1)], i 2, s 1 0x51, s 2 0x4151, s 2 0x4251, s 1 0x50, b false, s 1 0x58, s 3 0x525545, s 0 0, y 0 [(0, 1)], y 0 [(1, 1)], i 0, i 0, i 1, b true, b false, b false, i 3, i 1, y 0 [(0, 1)], y 0 [(1, 1)]],
M 426 [(a [s 2 0x4251, s 3 0x525545], a [y 0 [(1, -1), (3, 1)], i 0, i 0]), (a [s 2 0x4250, s 3 0x525545], a [y 0 [(1, 1)], i 0, i 0]), (a [s 2 0x4151, s 1 0x58], a [y 0 [(0, 1)], i 0, i 0])] [1, 2, 3] 4,
C 433 9 9 true [p 11 0, b false, b false, i 2, m 3836, m 3837, b true, b false, b true],
M 434 [(i 1, a [])] [0] 1,
C 1479 2 2 false [i 1, y 0 [(0, 1)]],
C 1810 2 2 false [r 1479 1 1, ns],
M 3836 [] [] 0,
M 3837 [] [] 0] [294, 426, 433, 434] Bpl9
noncomputable def Bpl397 : List (Nat × B) := ov [C 294 42 21 false [i 1, s 1 0x50, s 2 0x4150, s 2 0x4250, s 1 0x51, b true, s 1 0x58, s 3 0x525545, s 0 0, y 0 [(0, 1)], y 0 [(1, 1)], i 0, i 0, i 2, b true, b false, b false, i 3, i 2, y 0 [(0, 1)], y 0 [(1, 1)], i 2, s 1 0x51, s 2 0x4151, s 2 0x4251, s 1 0x50, b false, s 1 0x58, s 3 0x525545, s 0 0, y 0 [(0, 1)], y 0 [(1, 1)], i 0, i 0, i 1, b true, b false, b false, i 3, i 1, y 0 [(0, 1)], y 0 [(1, 1)]],
M 426 [(a [s 2 0x4251, s 3 0x525545], a [y 0 [(3, 1)], i 0, i 0]), (a [s 2 0x4151, s 1 0x58], a [y 0 [(0, 1)], i 0, i 0])] [1, 2] 3,
C 433 9 9 true [p 11 0, b false, b false, i 2, m 3744, m 3745, b true, b false, b true],
M 434 [(i 1, a [])] [0] 1,
C 1479 2 2 false [i 1, y 0 [(0, 1)]],
C 1718 2 2 false [r 1479 1 1, ns],
M 3744 [] [] 0,
M 3745 [] [] 0] [294, 426, 433, 434] Bpl9
noncomputable def Bpl398 : List (Nat × B) := ov [C 294 42 21 false [i 1, s 1 0x50, s 2 0x4150, s 2 0x4250, s 1 0x51, b true, s 1 0x58, s 3 0x525545, s 0 0, y 0 [(0, 1)], y 0 [(1, 1)], i 0, i 0, i 2, b true, b false, b false, i 3, i 2, y 0 [(0, 1)], y 0 [(1, 1)], i 2, s 1 0x51, s 2 0x4151, s 2 0x4251, s 1 0x50, b false, s 1 0x58, s 3 0x525545, s 0 0, y 0 [(0, 1)], y 0 [(1, 1)], i 0, i 0, i 1, b true, b false, b false, i 3, i 1, y 0 [(0, 1)], y 0 [(1, 1)]],
M 426 [(a [s 2 0x4251, s 3 0x525545], a [y 0 [(3, 1)], i 0, i 0]), (a [s 2 0x4151, s 1 0x58], a [y 0 [(0, 1)], i 0, i 0])] [1, 2] 3,
C 433 9 9 true [p 11 0, b true, b false, i 2, m 3747, m 3748, b true, b false, b true],
M 434 [(i 1, a [])] [0] 1,
C 1479 2 2 false [i 1, y 0 [(0, 1)]],
C 1718 2 2 false [r 1479 1 1, ns],
M 3747 [] [] 0,
M 3748 [] [] 0] [294, 426, 433, 434] Bpl10
noncomputable def Bpl399 : List (Nat × B) := ov [C 294 42 21 false [i 1, s 1 0x50, s 2 0x4150, s 2 0x4250, s 1 0x51, b true, s 1 0x58, s 3 0x525545, s 0 0, y 0 [(0, 1)], y 0 [(1, 1)], i 0, i 0, i 2, b true, b false, b false, i 3, i 2, y 0 [(0, 1)], y 0 [(1, 1)], i 2, s 1 0x51, s 2 0x4151, s 2 0x4251, s 1 0x50, b false, s 1 0x58, s 3 0x525545, s 0 0, y 0 [(0, 1)], y 0 [(1, 1)], i 0, i 0, i 1, b true, b false, b false, i 3, i 1, y 0 [(0, 1)], y 0 [(1, 1)]],
M 426 [(a [s 2 0x4150, s 1 0x58], a [y 0 [(0, -1), (10, 1)], i 0, i 0]), (a [s 2 0x4250, s 3 0x525545], a [y 0 [(1, 1)], i 0, i 0]), (a [s 2 0x4151, s 1 0x58], a [y 0 [(0, 1)], i 0, i 0])] [0, 2, 3] 4,
C 433 9 9 true [p 11 0, b true, b false, i 2, m 3839, m 3840, b true, b false, b true],
M 434 [(i 1, a [])] [0] 1,
C 1479 2 2 false [i 1, y 0 [(0, 1)]],
C 1810 2 2 false [r 1479 1 1, ns],
M 3839 [] [] 0,
M 3840 [] [] 0] [294, 426, 433, 434] Bpl10
noncomputable def Bpl400 : List (Nat × B) := ov [C 294 42 21 false [i 1, s 1 0x50, s 2 0x4150, s 2 0x4250, s 1 0x51, b true, s 1 0x58, s 3 0x525545, s 0 0, y 0 [(0, 1)], y 0 [(1, 1)], i 0, i 0, i 2, b true, b false, b false, i 3, i 2, y 0 [(0, 1)], y 0 [(1, 1)], i 2, s 1 0x51, s 2 0x4151, s 2 0x4251, s 1 0x50, b false, s 1 0x58, s 3 0x525545, s 0 0, y 0 [(0, 1)], y 0 [(1, 1)], i 0, i 0, i 1, b true, b false, b false, i 3, i 1, y 0 [(0, 1)], y 0 [(1, 1)]],
M 426 [(a [s 2 0x4251, s 3 0x525545], a [y 0 [(1, -1), (3, 1)], i 0, i 0]), (a [s 2 0x4250, s 3 0x525545], a [y 0 [(1, 1)], i 0, i 0]), (a [s 2 0x4151, s 1 0x58], a [y 0 [(0, 1)], i 0, i 0])] [1, 2, 3] 4,
C 433 9 9 true [p 11 0, b true, b false, i 2, m 3839, m 3840, b true, b false, b true],
M 434 [(i 1, a [])] [0] 1,
C 1479 2 2 false [i 1, y 0 [(0, 1)]],
C 1810 2 2 false [r 1479 1 1, ns],
M 3839 [] [] 0,
M 3840 [] [] 0] [294, 426, 433, 434] Bpl10
noncomputable def Bpl402 : List (Nat × B) := ov [C 294 42 21 false [i 1, s 1 0x50, s 2 0x4150, s 2 0x4250, s 1 0x51, b true, s 1 0x58, s 3 0x525545, s 0 0, y 0 [(0, 1)], y 0 [(1, 1)], i 0, i 0, i 2, b true, b false, b false, i 3, i 2, y 0 [(0, 1)], y 0 [(1, 1)], i 2, s 1 0x51, s 2 0x4151, s 2 0x4251, s 1 0x50, b false, s 1 0x58, s 3 0x525545, s 0 0, y 0 [(0, 1)], y 0 [(1, 1)], i 0, i 0, i 1, b true, b false, b false, i 3, i 1, y 0 [(0, 1)], y 0 [(1, 1)]],
M 426 [(a [s 2 0x4250, s 3 0x525545], a [y 0 [(1, 1)], i 0, i 0]), (a [s 2 0x4151, s 1 0x58], a [y 0 [(0, 1)], i 0, i 0])] [2, 3] 4,
C 433 9 9 true [p 11 0, b true, b false, i 2, m 3839, m 3840, b true, b false, b true],
M 434 [(i 1, a [])] [0] 1,
C 1479 2 2 false [i 1, y 0 [(0, 1)]],
C 1810 2 2 false [r 1479 1 1, ns],
M 3839 [] [] 0,
M 3840 [] [] 0] [294, 426, 433, 434] Bpl10
noncomputable def Bpl403 : List (Nat × B) := ov [C 294 42 21 false [i 1, s 1 0x50, s 2 0x4150, s 2 0x4250, s 1 0x51, b true, s 1 0x58, s 3 0x525545, s 0 0, y 0 [(0, 1)], y 0 [(1, 1)], i 0, i 0, i 2, b true, b false, b false, i 3, i 2, y 0 [(0, 1)], y 0 [(1, 1)], i 2, s 1 0x51, s 2 0x4151, s 2 0x4251, s 1 0x50, b false, s 1 0x58, s 3 0x525545, s 0 0, y 0 [(0, 1)], y 0 [(1, 1)], i 0, i 0, i 1, b true, b false, b false, i 3, i 1, y 0 [(0, 1)], y 0 [(1, 1)]],
M 426 [(a [s 2 0x4250, s 3 0x525545], a [y 0 [(1, 1)], i 0, i 0]), (a [s 2 0x4151, s 1 0x58], a [y 0 [(0, 1)], i 0, i 0])] [2, 3] 4,
C 433 9 9 true [p 11 0, b false, b false, i 2, m 3836, m 3837, b true, b false, b true],
M 434 [(i 1, a [])] [0] 1,
C 1479 2 2 false [i 1, y 0 [(0, 1)]],
C 1810 2 2 false [r 1479 1 1, ns],
M 3836 [] [] 0,
M 3837 [] [] 0] [294, 426, 433, 434] Bpl9
noncomputable def Bpl432 : List (Nat × B) := ov [C 433 9 9 true [p 11 0, b true, b false, i 2, m 4243, m 4244, b true, b false, b true],
M 4243 [(i 1, a [])] [0] 1,
M 4244 [(i 1, a [])] [0] 1] [433] Bpl240
noncomputable def Bpl433 : List (Nat × B) := ov [C 433 9 9 true [p 11 0, b true, b false, i 2, m 4221, m 4222, b true, b false, b true],
M 4221 [(i 1, a [])] [0] 1,
M 4222 [(i 1, a [])] [0] 1] [433] Bpl238
noncomputable def Bpl435 : List (Nat × B) := ov [C 294 42 21 false [i 1, s 1 0x50, s 2 0x4150, s 2 0x4250, s 1 0x51, b true, s 1 0x58, s 3 0x525545, s 0 0, y 0 [(0, 1)], y 0 [(1, 1)], i 0, i 0, i 2, b true, b false, b false, i 2, i 2, y 0 [(11, 1)], i 0, i 2, s 1 0x51, s 2 0x4151, s 2 0x4251, s 1 0x50, b false, s 1 0x58, s 3 0x525545, s 0 0, y 0 [(0, 1)], y 0 [(1, 1)], i 0, i 0, i 1, b true, b false, b false, i 2, i 1, y 0 [(11, 1)], i 0],
M 426 [(a [s 2 0x4150, s 1 0x58], a [y 0 [(11, -1), (10, 1)], i 0, i 0]), (a [s 2 0x4151, s 1 0x58], a [y 0 [(11, 1)], i 0, i 0])] [0, 1] 2,
C 433 9 9 true [p 11 0, b true, b false, i 2, m 4221, m 4222, b true, b false, b true],
M 434 [(i 1, a [])] [0] 1,
M 435 [(i 1, a [])] [0] 1,
C 2906 2 2 true [i 1, y 0 [(11, 1)]],
C 3160 2 2 false [r 2906 1 1, ns],
M 4221 [(i 1, a [])] [0] 1,
M 4222 [(i 1, a [])] [0] 1] [294, 426, 433, 434, 435] Bpl11
noncomputable def Bpl436 : List (Nat × B) := ov [C 294 42 21 false [i 1, s 1 0x50, s 2 0x4150, s 2 0x4250, s 1 0x51, b true, s 1 0x58, s 3 0x525545, s 0 0, y 0 [(0, 1)], y 0 [(1, 1)], i 0, i 0, i 2, b true, b false, b false, i 2, i 2, y 0 [(11, 1)], i 0, i 2, s 1 0x51, s 2 0x4151, s 2 0x4251, s 1 0x50, b false, s 1 0x58, s 3 0x525545, s 0 0, y 0 [(0, 1)], y 0 [(1, 1)], i 0, i 0, i 1, b true, b false, b false, i 2, i 1, y 0 [(11, 1)], i 0],
M 426 [(a [s 2 0x4150, s 1 0x58], a [y 0 [(11, -1), (10, 1)], i 0, i 0]), (a [s 2 0x4151, s 1 0x58], a [y 0 [(11, 1)], i 0, i 0])] [0, 1] 2,
C 433 9 9 true [p 11 0, b true, b false, i 2, m 4243, m 4244, b true, b false, b true],
M 434 [(i 1, a [])] [0] 1,
M 435 [(i 1, a [])] [0] 1,
C 2928 2 2 true [i 1, y 0 [(11, 1)]],
C 3182 2 2 false [r 2928 1 1, ns],
M 4243 [(i 1, a [])] [0] 1,
M 4244 [(i 1, a [])] [0] 1] [294, 426, 433, 434, 435] Bpl11
noncomputable def Bpl440 : List (Nat × B) := ov [C 433 9 9 true [p 11 0, b true, b false, i 2, m 4335, m 4336, b true, b false, b true],
M 4335 [(i 1, a [])] [0] 1,
M 4336 [(i 1, a [])] [0] 1] [433] Bpl275
noncomputable def Bpl441 : List (Nat × B) := ov [C 433 9 9 true [p 11 0, b true, b false, i 2, m 4313, m 4314, b true, b false, b true],
M 4313 [(i 1, a [])] [0] 1,
M 4314 [(i 1, a [])] [0] 1] [433] Bpl278
noncomputable def Bpl442 : List (Nat × B) := ov [C 294 42 21 false [i 1, s 1 0x50, s 2 0x4150, s 2 0x4250, s 1 0x51, b true, s 1 0x58, s 3 0x525545, s 0 0, y 0 [(0, 1)], y 0 [(1, 1)], i 0, i 0, i 2, b true, b false, b false, i 2, i 2, y 0 [(4, 1)], y 0 [(8, 1)], i 2, s 1 0x51, s 2 0x4151, s 2 0x4251, s 1 0x50, b false, s 1 0x58, s 3 0x525545, s 0 0, y 0 [(0, 1)], y 0 [(1, 1)], i 0, i 0, i 1, b true, b false, b false, i 2, i 1, y 0 [(4, 1)], y 0 [(8, 1)]],
M 426 [(a [s 2 0x4150, s 1 0x58], a [y 0 [(4, -1), (10, 1)], i 0, i 0]), (a [s 2 0x4250, s 3 0x525545], a [y 0 [(8, 1)], i 0, i 0]), (a [s 2 0x4151, s 1 0x58], a [y 0 [(4, 1)], i 0, i 0])] [0, 2, 3] 4,
C 433 9 9 true [p 11 0, b true, b false, i 2, m 4313, m 4314, b true, b false, b true],
M 434 [(i 1, a [])] [0] 1,
M 435 [(i 1, a [])] [0] 1,
C 2906 2 2 true [i 1, y 0 [(4, 1)]],
C 3252 2 2 false [r 2906 1 1, ns],
M 4313 [(i 1, a [])] [0] 1,
M 4314 [(i 1, a [])] [0] 1] [294, 426, 433, 434, 435] Bpl10
noncomputable def Bpl443 : List (Nat × B) := ov [C 294 42 21 false [i 1, s 1 0x50, s 2 0x4150, s 2 0x4250, s 1 0x51, b true, s 1 0x58, s 3 0x525545, s 0 0, y 0 [(0, 1)], y 0 [(1, 1)], i 0, i 0, i 2, b true, b false, b false, i 2, i 2, y 0 [(4, 1)], y 0 [(8, 1)], i 2, s 1 0x51, s 2 0x4151, s 2 0x4251, s 1 0x50, b false, s 1 0x58, s 3 0x525545, s 0 0, y 0 [(0, 1)], y 0 [(1, 1)], i 0, i 0, i 1, b true, b false, b false, i 2, i 1, y 0 [(4, 1)], y 0 [(8, 1)]],
M 426 [(a [s 2 0x4150, s 1 0x58], a [y 0 [(4, -1), (10, 1)], i 0, i 0]), (a [s 2 0x4250, s 3 0x525545], a [y 0 [(8, 1)], i 0, i 0]), (a [s 2 0x4151, s 1 0x58], a [y 0 [(4, 1)], i 0, i 0])] [0, 2, 3] 4,
C 433 9 9 true [p 11 0, b true, b false, i 2, m 4335, m 4336, b true, b false, b true],
M 434 [(i 1, a [])] [0] 1,
M 435 [(i 1, a [])] [0] 1,
C 2928 2 2 true [i 1, y 0 [(4, 1)]],
C 3274 2 2 false [r 2928 1 1, ns],
M 4335 [(i 1, a [])] [0] 1,
M 4336 [(i 1, a [])] [0] 1] [294, 426, 433, 434, 435] Bpl10
noncomputable def Bpl444 : List (Nat × B) := ov [C 7 1 1 true [m 426],
C 8 3 3 true [p 7 0, m 427, nm],
M 426 [(a [s 2 0x4150, s 1 0x58], a [y 0 [(2, 1)], i 0, i 0])] [0] 1,
M 427 [(s 1 0x58, y 0 [(2, 1)])] [0] 1] [7, 8] Bpl4
noncomputable def Bpl445 : List (Nat × B) := ov [M 426 [(a [s 2 0x4150, s 1 0x58], a [y 0 [(2, 1)], i 0, i 0]), (a [s 2 0x4251, s 3 0x525545], a [y 0 [(3, 1)], i 0, i 0])] [0, 1] 2,
M 427 [(s 1 0x58, y 0 [(2, 1)]), (s 3 0x525545, y 0 [(3, 1)])] [0, 1] 2] [426, 427] Bpl444
noncomputable def Bpl446 : List (Nat × B) := ov [M 427 [(s 1 0x58, y 0 [(2, 1)]), (s 3 0x525545, y 0 [(3, 1)])] [0, 1] 2] [427] Bpl444
noncomputable def Bpl448 : List (Nat × B) := ov [C 433 9 9 true [p 11 0, b true, b false, i 1, m 434, m 435, b false, b false, b false],
M 434 [] [] 0,
M 435 [] [] 0] [] Bpl446
noncomputable def Bpl449 : List (Nat × B) := ov [C 433 9 9 true [p 11 0, b true, b false, i 1, m 434, m 435, b false, b false, b false],
M 434 [] [] 0,
M 435 [] [] 0] [] Bpl445
noncomputable def Bpl451 : List (Nat × B) := ov [C 436 2 2 true [ns, ns]] [] Bpl449
noncomputable def Bpl452 : List (Nat × B) := ov [C 436 2 2 true [ns, ns]] [] Bpl448
noncomputable def Bpl453 : List (Nat × B) := ov [C 3005 2 2 true [r 2906 1 1, ns]] [] Bpl216
noncomputable def Bpl455 : List (Nat × B) := ov [C 3027 2 2 true [r 2928 1 1, ns]] [] Bpl217
noncomputable def Bpl458 : List (Nat × B) := ov [C 294 42 21 false [i 1, s 1 0x50, s 2 0x4150, s 2 0x4250, s 1 0x51, b true, s 1 0x58, s 3 0x525545, s 0 0, y 0 [(0, 1)], y 0 [(1, 1)], i 0, i 0, i 2, b true, b false, b false, i 2, i 2, y 0 [(4, 1)], y 0 [(8, 1)], i 2, s 1 0x51, s 2 0x4151, s 2 0x4251, s 1 0x50, b false, s 1 0x58, s 3 0x525545, s 0 0, y 0 [(0, 1)], y 0 [(1, 1)], i 0, i 0, i 1, b true, b false, b false, i 2, i 1, y 0 [(4, 1)], y 0 [(8, 1)]],
M 426 [(a [s 2 0x4150, s 1 0x58], a [y 0 [(4, -1), (10, 1)], i 0, i 0]), (a [s 2 0x4251, s 3 0x525545], a [y 0 [(3, 1)], i 0, i 0]), (a [s 2 0x4151, s 1 0x58], a [y 0 [(4, 1)], i 0, i 0])] [0, 1, 2] 3] [294, 426] Bpl453
noncomputable def Bpl459 : List (Nat × B) := ov [C 294 42 21 false [i 1, s 1 0x50, s 2 0x4150, s 2 0x4250, s 1 0x51, b true, s 1 0x58, s 3 0x525545, s 0 0, y 0 [(0, 1)], y 0 [(1, 1)], i 0, i 0, i 2, b true, b false, b false, i 2, i 2, y 0 [(4, 1)], y 0 [(8, 1)], i 2, s 1 0x51, s 2 0x4151, s 2 0x4251, s 1 0x50, b false, s 1 0x58, s 3 0x525545, s 0 0, y 0 [(0, 1)], y 0 [(1, 1)], i 0, i 0, i 1, b true, b false, b false, i 2, i 1, y 0 [(4, 1)], y 0 [(8, 1)]],
M 426 [(a [s 2 0x4150, s 1 0x58], a [y 0 [(4, -1), (10, 1)], i 0, i 0]), (a [s 2 0x4251, s 3 0x525545], a [y 0 [(3, 1)], i 0, i 0]), (a [s 2 0x4151, s 1 0x58], a [y 0 [(4, 1)], i 0, i 0])] [0, 1, 2] 3] [294, 426] Bpl455
noncomputable def Bpl461 : List (Nat × B) := ov [C 294 42 21 false [i 1, s 1 0x50, s 2 0x4150, s 2 0x4250, s 1 0x51, b true, s 1 0x58, s 3 0x525545, s 0 0, y 0 [(0, 1)], y 0 [(1, 1)], i 0, i 0, i 2, b true, b false, b false, i 2, i 2, y 0 [(4, 1)], y 0 [(8, 1)], i 2, s 1 0x51, s 2 0x4151, s 2 0x4251, s 1 0x50, b false, s 1 0x58, s 3 0x525545, s 0 0, y 0 [(0, 1)], y 0 [(1, 1)], i 0, i 0, i 1, b true, b false, b false, i 2, i 1, y 0 [(4, 1)], y 0 [(8, 1)]],
M 426 [(a [s 2 0x4150, s 1 0x58], a [y 0 [(4, -1), (10, 1)], i 0, i 0]), (a [s 2 0x4251, s 3 0x525545], a [y 0 [(8, -1), (3, 1)], i 0, i 0]), (a [s 2 0x4250, s 3 0x525545], a [y 0 [(8, 1)], i 0, i 0]), (a [s 2 0x4151, s 1 0x58], a [y 0 [(4, 1)], i 0, i 0])] [0, 1, 2, 3] 4] [294, 426] Bpl236
noncomputable def Bpl462 : List (Nat × B) := ov [C 294 42 21 false [i 1, s 1 0x50, s 2 0x4150, s 2 0x4250, s 1 0x51, b true, s 1 0x58, s 3 0x525545, s 0 0, y 0 [(0, 1)], y 0 [(1, 1)], i 0, i 0, i 2, b true, b false, b false, i 2, i 2, y 0 [(4, 1)], y 0 [(8, 1)], i 2, s 1 0x51, s 2 0x4151, s 2 0x4251, s 1 0x50, b false, s 1 0x58, s 3 0x525545, s 0 0, y 0 [(0, 1)], y 0 [(1, 1)], i 0, i 0, i 1, b true, b false, b false, i 2, i 1, y 0 [(4, 1)], y 0 [(8, 1)]],
M 426 [(a [s 2 0x4150, s 1 0x58], a [y 0 [(4, -1), (10, 1)], i 0, i 0]), (a [s 2 0x4251, s 3 0x525545], a [y 0 [(8, -1), (3, 1)], i 0, i 0]), (a [s 2 0x4250, s 3 0x525545], a [y 0 [(8, 1)], i 0, i 0]), (a [s 2 0x4151, s 1 0x58], a [y 0 [(4, 1)], i 0, i 0])] [0, 1, 2, 3] 4] [294, 426] Bpl237
noncomputable def Bpl463 : List (Nat × B) := ov [C 294 42 21 false [i 1, s 1 0x50, s 2 0x4150, s 2 0x4250, s 1 0x51, b true, s 1 0x58, s 3 0x525545, s 0 0, y 0 [(0, 1)], y 0 [(1, 1)], i 0, i 0, i 2, b true, b false, b false, i 2, i 2, y 0 [(4, 1)], y 0 [(8, 1)], i 2, s 1 0x51, s 2 0x4151, s 2 0x4251, s 1 0x50, b false, s 1 0x58, s 3 0x525545, s 0 0, y 0 [(0, 1)], y 0 [(1, 1)], i 0, i 0, i 1, b true, b false, b false, i 2, i 1, y 0 [(4, 1)], y 0 [(8, 1)]],
M 426 [(a [s 2 0x4150, s 1 0x58], a [y 0 [(4, -1), (10, 1)], i 0, i 0]), (a [s 2 0x4251, s 3 0x525545], a [y 0 [(3, 1)], i 0, i 0]), (a [s 2 0x4151, s 1 0x58], a [y 0 [(4, 1)], i 0, i 0])] [0, 1, 2] 3,
C 433 9 9 true [p 11 0, b true, b false, i 1, m 434, m 435, b true, b true, b false],
M 434 [(i 1, a [])] [0] 1,
M 435 [(i 1, a [])] [0] 1,
C 2906 2 2 true [i 1, y 0 [(4, 1)]]] [294, 426, 433, 434, 435] Bpl10
noncomputable def Bpl464 : List (Nat × B) := ov [C 294 42 21 false [i 1, s 1 0x50, s 2 0x4150, s 2 0x4250, s 1 0x51, b true, s 1 0x58, s 3 0x525545, s 0 0, y 0 [(0, 1)], y 0 [(1, 1)], i 0, i 0, i 2, b true, b false, b false, i 2, i 2, y 0 [(4, 1)], y 0 [(8, 1)], i 2, s 1 0x51, s 2 0x4151, s 2 0x4251, s 1 0x50, b false, s 1 0x58, s 3 0x525545, s 0 0, y 0 [(0, 1)], y 0 [(1, 1)], i 0, i 0, i 1, b true, b false, b false, i 2, i 1, y 0 [(4, 1)], y 0 [(8, 1)]],
M 426 [(a [s 2 0x4150, s 1 0x58], a [y 0 [(4, -1), (10, 1)], i 0, i 0]), (a [s 2 0x4251, s 3 0x525545], a [y 0 [(3, 1)], i 0, i 0]), (a [s 2 0x4151, s 1 0x58], a [y 0 [(4, 1)], i 0, i 0])] [0, 1, 2] 3,
C 433 9 9 true [p 11 0, b true, b false, i 1, m 434, m 435, b true, b true, b false],
M 434 [(i 1, a [])] [0] 1,
M 435 [(i 1, a [])] [0] 1,
C 2928 2 2 true [i 1, y 0 [(4, 1)]]] [294, 426, 433, 434, 435] Bpl10
noncomputable def Bpl465 : List (Nat × B) := ov [C 294 42 21 false [i 1, s 1 0x50, s 2 0x4150, s 2 0x4250, s 1 0x51, b true, s 1 0x58, s 3 0x525545, s 0 0, y 0 [(0, 1)], y 0 [(1, 1)], i 0, i 0, i 2, b true, b false, b false, i 2, i 2, y 0 [(4, 1)], y 0 [(8, 1)], i 2, s 1 0x51, s 2 0x4151, s 2 0x4251, s 1 0x50, b false, s 1 0x58, s 3 0x525545, s 0 0, y 0 [(0, 1)], y 0 [(1, 1)], i 0, i 0, i 1, b true, b false, b false, i 2, i 1, y 0 [(4, 1)], y 0 [(8, 1)]],
M 426 [(a [s 2 0x4150, s 1 0x58], a [y 0 [(4, -1), (10, 1)], i 0, i 0]), (a [s 2 0x4251, s 3 0x525545], a [y 0 [(8, -1), (3, 1)], i 0, i 0]), (a [s 2 0x4250, s 3 0x525545], a [y 0 [(8, 1)], i 0, i 0]), (a [s 2 0x4151, s 1 0x58], a [y 0 [(4, 1)], i 0, i 0])] [0, 1, 2, 3] 4,
C 433 9 9 true [p 11 0, b true, b false, i 1, m 434, m 435, b true, b true, b false],
M 434 [(i 1, a [])] [0] 1,
M 435 [(i 1, a [])] [0] 1,
C 2906 2 2 true [i 1, y 0 [(4, 1)]]] [294, 426, 433, 434, 435] Bpl10
noncomputable def Bpl466 : List (Nat × B) := ov [C 294 42 21 false [i 1, s 1 0x50, s 2 0x4150, s 2 0x4250, s 1 0x51, b true, s 1 0x58, s 3 0x525545, s 0 0, y 0 [(0, 1)], y 0 [(1, 1)], i 0, i 0, i 2, b true, b false, b false, i 2, i 2, y 0 [(4, 1)], y 0 [(8, 1)], i 2, s 1 0x51, s 2 0x4151, s 2 0x4251, s 1 0x50, b false, s 1 0x58, s 3 0x525545, s 0 0, y 0 [(0, 1)], y 0 [(1, 1)], i 0, i 0, i 1, b true, b false, b false, i 2, i 1, y 0 [(4, 1)], y 0 [(8, 1)]],
M 426 [(a [s 2 0x4150, s 1 0x58], a [y 0 [(4, -1), (10, 1)], i 0, i 0]), (a [s 2 0x4251, s 3 0x525545], a [y 0 [(8, -1), (3, 1)], i 0, i 0]), (a [s 2 0x4250, s 3 0x525545], a [y 0 [(8, 1)], i 0, i 0]), (a [s 2 0x4151, s 1 0x58], a [y 0 [(4, 1)], i 0, i 0])] [0, 1, 2, 3] 4,
C 433 9 9 true [p 11 0, b true, b false, i 1, m 434, m 435, b true, b true, b false],
M 434 [(i 1, a [])] [0] 1,
M 435 [(i 1, a [])] [0] 1,
C 2928 2 2 true [i 1, y 0 [(4, 1)]]] [294, 426, 433, 434, 435] Bpl10
noncomputable def Bpl467 : List (Nat × B) := ov [C 3180 2 2 true [r 2928 1 1, ns],
C 3181 2 2 true [r 2928 1 1, ns],
C 3182 2 2 false [r 2928 1 1, ns]] [] Bpl464
noncomputable def Bpl468 : List (Nat × B) := ov [C 3250 2 2 true [r 2906 1 1, ns],
C 3251 2 2 true [r 2906 1 1, ns],
C 3252 2 2 false [r 2906 1 1, ns]] [] Bpl465
noncomputable def Bpl469 : List (Nat × B) := ov [C 3158 2 2 true [r 2906 1 1, ns],
C 3159 2 2 true [r 2906 1 1, ns],
C 3160 2 2 false [r 2906 1 1, ns]] [] Bpl463
noncomputable def Bpl471 : List (Nat × B) := ov [C 3272 2 2 true [r 2928 1 1, ns],
C 3273 2 2 true [r 2928 1 1, ns],
C 3274 2 2 false [r 2928 1 1, ns]] [] Bpl466
noncomputable def Bpl543 : List (Nat × B) := ov [C 433 9 9 true [p 11 0, b true, b false, i 1, m 434, m 435, b true, b true, b false],
M 434 [(i 1, a [])] [0] 1,
M 435 [(i 1, a [])] [0] 1,
C 2906 2 2 true [i 1, y 0 [(2, 1)]]] [433, 434, 435] Bpl452
noncomputable def Bpl544 : List (Nat × B) := ov [C 433 9 9 true [p 11 0, b true, b false, i 1, m 434, m 435, b true, b true, b false],
M 434 [(i 1, a [])] [0] 1,
M 435 [(i 1, a [])] [0] 1,
C 2824 2 2 true [i 1, y 0 [(2, 1)]]] [433, 434, 435] Bpl452
noncomputable def Bpl548 : List (Nat × B) := ov [C 2923 2 2 true [r 2824 1 1, ns]] [] Bpl544
noncomputable def Bpl551 : List (Nat × B) := ov [C 3005 2 2 true [r 2906 1 1, ns]] [] Bpl543
noncomputable def Bpl554 : List (Nat × B) := ov [C 294 42 21 false [i 1, s 1 0x50, s 2 0x4150, s 2 0x4250, s 1 0x51, b true, s 1 0x58, s 3 0x525545, s 0 0, y 0 [(0, 1)], y 0 [(1, 1)], i 0, i 0, i 2, b true, b false, b false, i 2, i 2, y 0 [(2, 1)], y 0 [(9, 1)], i 2, s 1 0x51, s 2 0x4151, s 2 0x4251, s 1 0x50, b false, s 1 0x58, s 3 0x525545, s 0 0, y 0 [(0, 1)], y 0 [(1, 1)], i 0, i 0, i 1, b true, b false, b false, i 2, i 1, y 0 [(2, 1)], y 0 [(9, 1)]],
M 426 [(a [s 2 0x4151, s 1 0x58], a [y 0 [(2, 1)], i 0, i 0])] [1] 2] [294, 426] Bpl548
noncomputable def Bpl556 : List (Nat × B) := ov [C 294 42 21 false [i 1, s 1 0x50, s 2 0x4150, s 2 0x4250, s 1 0x51, b true, s 1 0x58, s 3 0x525545, s 0 0, y 0 [(0, 1)], y 0 [(1, 1)], i 0, i 0, i 2, b true, b false, b false, i 2, i 2, y 0 [(2, 1)], y 0 [(9, 1)], i 2, s 1 0x51, s 2 0x4151, s 2 0x4251, s 1 0x50, b false, s 1 0x58, s 3 0x525545, s 0 0, y 0 [(0, 1)], y 0 [(1, 1)], i 0, i 0, i 1, b true, b false, b false, i 2, i 1, y 0 [(2, 1)], y 0 [(9, 1)]],
M 426 [(a [s 2 0x4151, s 1 0x58], a [y 0 [(2, 1)], i 0, i 0])] [1] 2] [294, 426] Bpl551
noncomputable def Bpl559 : List (Nat × B) := ov [C 294 42 21 false [i 1, s 1 0x50, s 2 0x4150, s 2 0x4250, s 1 0x51, b true, s 1 0x58, s 3 0x525545, s 0 0, y 0 [(0, 1)], y 0 [(1, 1)], i 0, i 0, i 2, b true, b false, b false, i 2, i 2, y 0 [(2, 1)], y 0 [(9, 1)], i 2, s 1 0x51, s 2 0x4151, s 2 0x4251, s 1 0x50, b false, s 1 0x58, s 3 0x525545, s 0 0, y 0 [(0, 1)], y 0 [(1, 1)], i 0, i 0, i 1, b true, b false, b false, i 2, i 1, y 0 [(2, 1)], y 0 [(9, 1)]],
M 426 [(a [s 2 0x4151, s 1 0x58], a [y 0 [(2, 1)], i 0, i 0])] [1] 2,
C 433 9 9 true [p 11 0, b true, b false, i 1, m 434, m 435, b true, b true, b false],
M 434 [(i 1, a [])] [0] 1,
M 435 [(i 1, a [])] [0] 1,
C 2906 2 2 true [i 1, y 0 [(2, 1)]]] [294, 426, 433, 434, 435] Bpl448
noncomputable def Bpl561 : List (Nat × B) := ov [C 294 42 21 false [i 1, s 1 0x50, s 2 0x4150, s 2 0x4250, s 1 0x51, b true, s 1 0x58, s 3 0x525545, s 0 0, y 0 [(0, 1)], y 0 [(1, 1)], i 0, i 0, i 2, b true, b false, b false, i 2, i 2, y 0 [(2, 1)], y 0 [(9, 1)], i 2, s 1 0x51, s 2 0x4151, s 2 0x4251, s 1 0x50, b false, s 1 0x58, s 3 0x525545, s 0 0, y 0 [(0, 1)], y 0 [(1, 1)], i 0, i 0, i 1, b true, b false, b false, i 2, i 1, y 0 [(2, 1)], y 0 [(9, 1)]],
M 426 [(a [s 2 0x4151, s 1 0x58], a [y 0 [(2, 1)], i 0, i 0])] [1] 2,
C 433 9 9 true [p 11 0, b true, b false, i 1, m 434, m 435, b true, b true, b false],
M 434 [(i 1, a [])] [0] 1,
M 435 [(i 1, a [])] [0] 1,
C 2824 2 2 true [i 1, y 0 [(2, 1)]]] [294, 426, 433, 434, 435] Bpl448
noncomputable def Bpl567 : List (Nat × B) := ov [C 433 9 9 true [p 11 0, b true, b false, i 1, m 434, m 435, b true, b true, b false],
M 434 [(i 1, a [])] [0] 1,
M 435 [(i 1, a [])] [0] 1,
C 2906 2 2 true [i 1, y 0 [(2, 1)]]] [433, 434, 435] Bpl451
noncomputable def Bpl568 : List (Nat × B) := ov [C 433 9 9 true [p 11 0, b true, b false, i 1, m 434, m 435, b true, b true, b false],
M 434 [(i 1, a [])] [0] 1,
M 435 [(i 1, a [])] [0] 1,
C 2824 2 2 true [i 1, y 0 [(2, 1)]]] [433, 434, 435] Bpl451
noncomputable def Bpl571 : List (Nat × B) := ov [C 3158 2 2 true [r 2906 1 1, ns],
C 3159 2 2 true [r 2906 1 1, ns],
C 3160 2 2 false [r 2906 1 1, ns]] [] Bpl559
noncomputable def Bpl573 : List (Nat × B) := ov [C 3005 2 2 true [r 2906 1 1, ns]] [] Bpl567
noncomputable def Bpl574 : List (Nat × B) := ov [C 3033 2 2 true [r 2906 1 1, ns]] [] Bpl567
noncomputable def Bpl575 : List (Nat × B) := ov [C 3076 2 2 true [r 2824 1 1, ns],
C 3077 2 2 true [r 2824 1 1, ns],
C 3078 2 2 false [r 2824 1 1, ns]] [] Bpl561
noncomputable def Bpl578 : List (Nat × B) := ov [C 2923 2 2 true [r 2824 1 1, ns]] [] Bpl568
noncomputable def Bpl580 : List (Nat × B) := ov [C 294 42 21 false [i 1, s 1 0x50, s 2 0x4150, s 2 0x4250, s 1 0x51, b true, s 1 0x58, s 3 0x525545, s 0 0, y 0 [(0, 1)], y 0 [(1, 1)], i 0, i 0, i 2, b true, b false, b false, i 2, i 2, y 0 [(2, 1)], y 0 [(9, 1)], i 2, s 1 0x51, s 2 0x4151, s 2 0x4251, s 1 0x50, b false, s 1 0x58, s 3 0x525545, s 0 0, y 0 [(0, 1)], y 0 [(1, 1)], i 0, i 0, i 1, b true, b false, b false, i 2, i 1, y 0 [(2, 1)], y 0 [(9, 1)]],
M 426 [(a [s 2 0x4251, s 3 0x525545], a [y 0 [(3, 1)], i 0, i 0]), (a [s 2 0x4151, s 1 0x58], a [y 0 [(2, 1)], i 0, i 0])] [1, 2] 3] [294, 426] Bpl573
noncomputable def Bpl583 : List (Nat × B) := ov [C 294 42 21 false [i 1, s 1 0x50, s 2 0x4150, s 2 0x4250, s 1 0x51, b true, s 1 0x58, s 3 0x525545, s 0 0, y 0 [(0, 1)], y 0 [(1, 1)], i 0, i 0, i 2, b true, b false, b false, i 2, i 2, y 0 [(2, 1)], y 0 [(9, 1)], i 2, s 1 0x51, s 2 0x4151, s 2 0x4251, s 1 0x50, b false, s 1 0x58, s 3 0x525545, s 0 0, y 0 [(0, 1)], y 0 [(1, 1)], i 0, i 0, i 1, b true, b false, b false, i 2, i 1, y 0 [(2, 1)], y 0 [(9, 1)]],
M 426 [(a [s 2 0x4251, s 3 0x525545], a [y 0 [(3, 1)], i 0, i 0]), (a [s 2 0x4151, s 1 0x58], a [y 0 [(2, 1)], i 0, i 0])] [1, 2] 3] [294, 426] Bpl578
noncomputable def Bpl585 : List (Nat × B) := ov [C 294 42 21 false [i 1, s 1 0x50, s 2 0x4150, s 2 0x4250, s 1 0x51, b true, s 1 0x58, s 3 0x525545, s 0 0, y 0 [(0, 1)], y 0 [(1, 1)], i 0, i 0, i 2, b true, b false, b false, i 2, i 2, y 0 [(2, 1)], y 0 [(9, 1)], i 2, s 1 0x51, s 2 0x4151, s 2 0x4251, s 1 0x50, b false, s 1 0x58, s 3 0x525545, s 0 0, y 0 [(0, 1)], y 0 [(1, 1)], i 0, i 0, i 1, b true, b false, b false, i 2, i 1, y 0 [(2, 1)], y 0 [(9, 1)]],
M 426 [(a [s 2 0x4251, s 3 0x525545], a [y 0 [(9, -1), (3, 1)], i 0, i 0]), (a [s 2 0x4250, s 3 0x525545], a [y 0 [(9, 1)], i 0, i 0]), (a [s 2 0x4151, s 1 0x58], a [y 0 [(2, 1)], i 0, i 0])] [1, 2, 3] 4] [294, 426] Bpl574
noncomputable def Bpl586 : List (Nat × B) := ov [C 294 42 21 false [i 1, s 1 0x50, s 2 0x4150, s 2 0x4250, s 1 0x51, b true, s 1 0x58, s 3 0x525545, s 0 0, y 0 [(0, 1)], y 0 [(1, 1)], i 0, i 0, i 2, b true, b false, b false, i 2, i 2, y 0 [(2, 1)], y 0 [(9, 1)], i 2, s 1 0x51, s 2 0x4151, s 2 0x4251, s 1 0x50, b false, s 1 0x58, s 3 0x525545, s 0 0, y 0 [(0, 1)], y 0 [(1, 1)], i 0, i 0, i 1, b true, b false, b false, i 2, i 1, y 0 [(2, 1)], y 0 [(9, 1)]],
M 426 [(a [s 2 0x4250, s 3 0x525545], a [y 0 [(9, 1)], i 0, i 0]), (a [s 2 0x4151, s 1 0x58], a [y 0 [(2, 1)], i 0, i 0])] [2, 3] 4] [294, 426] Bpl574
noncomputable def Bpl592 : List (Nat × B) := ov [C 294 42 21 false [i 1, s 1 0x50, s 2 0x4150, s 2 0x4250, s 1 0x51, b true, s 1 0x58, s 3 0x525545, s 0 0, y 0 [(0, 1)], y 0 [(1, 1)], i 0, i 0, i 2, b true, b false, b false, i 2, i 2, y 0 [(2, 1)], y 0 [(9, 1)], i 2, s 1 0x51, s 2 0x4151, s 2 0x4251, s 1 0x50, b false, s 1 0x58, s 3 0x525545, s 0 0, y 0 [(0, 1)], y 0 [(1, 1)], i 0, i 0, i 1, b true, b false, b false, i 2, i 1, y 0 [(2, 1)], y 0 [(9, 1)]],
M 426 [(a [s 2 0x4251, s 3 0x525545], a [y 0 [(3, 1)], i 0, i 0]), (a [s 2 0x4151, s 1 0x58], a [y 0 [(2, 1)], i 0, i 0])] [1, 2] 3,
C 433 9 9 true [p 11 0, b true, b false, i 1, m 434, m 435, b true, b true, b false],
M 434 [(i 1, a [])] [0] 1,
M 435 [(i 1, a [])] [0] 1,
C 2906 2 2 true [i 1, y 0 [(2, 1)]]] [294, 426, 433, 434, 435] Bpl449
noncomputable def Bpl593 : List (Nat × B) := ov [C 294 42 21 false [i 1, s 1 0x50, s 2 0x4150, s 2 0x4250, s 1 0x51, b true, s 1 0x58, s 3 0x525545, s 0 0, y 0 [(0, 1)], y 0 [(1, 1)], i 0, i 0, i 2, b true, b false, b false, i 2, i 2, y 0 [(2, 1)], y 0 [(9, 1)], i 2, s 1 0x51, s 2 0x4151, s 2 0x4251, s 1 0x50, b false, s 1 0x58, s 3 0x525545, s 0 0, y 0 [(0, 1)], y 0 [(1, 1)], i 0, i 0, i 1, b true, b false, b false, i 2, i 1, y 0 [(2, 1)], y 0 [(9, 1)]],
M 426 [(a [s 2 0x4251, s 3 0x525545], a [y 0 [(9, -1), (3, 1)], i 0, i 0]), (a [s 2 0x4250, s 3 0x525545], a [y 0 [(9, 1)], i 0, i 0]), (a [s 2 0x4151, s 1 0x58], a [y 0 [(2, 1)], i 0, i 0])] [1, 2, 3] 4,
C 433 9 9 true [p 11 0, b true, b false, i 1, m 434, m 435, b true, b true, b false],
M 434 [(i 1, a [])] [0] 1,
M 435 [(i 1, a [])] [0] 1,
C 2906 2 2 true [i 1, y 0 [(2, 1)]]] [294, 426, 433, 434, 435] Bpl449
noncomputable def Bpl594 : List (Nat × B) := ov [C 294 42 21 false [i 1, s 1 0x50, s 2 0x4150, s 2 0x4250, s 1 0x51, b true, s 1 0x58, s 3 0x525545, s 0 0, y 0 [(0, 1)], y 0 [(1, 1)], i 0, i 0, i 2, b true, b false, b false, i 2, i 2, y 0 [(2, 1)], y 0 [(9, 1)], i 2, s 1 0x51, s 2 0x4151, s 2 0x4251, s 1 0x50, b false, s 1 0x58, s 3 0x525545, s 0 0, y 0 [(0, 1)], y 0 [(1, 1)], i 0, i 0, i 1, b true, b false, b false, i 2, i 1, y 0 [(2, 1)], y 0 [(9, 1)]],
M 426 [(a [s 2 0x4251, s 3 0x525545], a [y 0 [(3, 1)], i 0, i 0]), (a [s 2 0x4151, s 1 0x58], a [y 0 [(2, 1)], i 0, i 0])] [1, 2] 3,
C 433 9 9 true [p 11 0, b true, b false, i 1, m 434, m 435, b true, b true, b false],
M 434 [(i 1, a [])] [0] 1,
M 435 [(i 1, a [])] [0] 1,
C 2824 2 2 true [i 1, y 0 [(2, 1)]]] [294, 426, 433, 434, 435] Bpl449
noncomputable def Bpl596 : List (Nat × B) := ov [C 294 42 21 false [i 1, s 1 0x50, s 2 0x4150, s 2 0x4250, s 1 0x51, b true, s 1 0x58, s 3 0x525545, s 0 0, y 0 [(0, 1)], y 0 [(1, 1)], i 0, i 0, i 2, b true, b false, b false, i 2, i 2, y 0 [(2, 1)], y 0 [(9, 1)], i 2, s 1 0x51, s 2 0x4151, s 2 0x4251, s 1 0x50, b false, s 1 0x58, s 3 0x525545, s 0 0, y 0 [(0, 1)], y 0 [(1, 1)], i 0, i 0, i 1, b true, b false, b false, i 2, i 1, y 0 [(2, 1)], y 0 [(9, 1)]],
M 426 [(a [s 2 0x4250, s 3 0x525545], a [y 0 [(9, 1)], i 0, i 0]), (a [s 2 0x4151, s 1 0x58], a [y 0 [(2, 1)], i 0, i 0])] [2, 3] 4,
C 433 9 9 true [p 11 0, b true, b false, i 1, m 434, m 435, b true, b true, b false],
M 434 [(i 1, a [])] [0] 1,
M 435 [(i 1, a [])] [0] 1,
C 2906 2 2 true [i 1, y 0 [(2, 1)]]] [294, 426, 433, 434, 435] Bpl449
noncomputable def Bpl599 : List (Nat × B) := ov [C 433 9 9 true [p 11 0, b true, b false, i 2, m 4313, m 4314, b true, b false, b true],
M 4313 [(i 1, a [])] [0] 1,
M 4314 [(i 1, a [])] [0] 1] [433] Bpl468
noncomputable def Bpl600 : List (Nat × B) := ov [C 3250 2 2 true [r 2906 1 1, ns],
C 3251 2 2 true [r 2906 1 1, ns],
C 3252 2 2 false [r 2906 1 1, ns]] [] Bpl593
noncomputable def Bpl601 : List (Nat × B) := ov [C 3158 2 2 true [r 2906 1 1, ns],
C 3159 2 2 true [r 2906 1 1, ns],
C 3160 2 2 false [r 2906 1 1, ns]] [] Bpl592
noncomputable def Bpl603 : List (Nat × B) := ov [C 3076 2 2 true [r 2824 1 1, ns],
C 3077 2 2 true [r 2824 1 1, ns],
C 3078 2 2 false [r 2824 1 1, ns]] [] Bpl594
noncomputable def Bpl604 : List (Nat × B) := ov [C 3250 2 2 true [r 2906 1 1, ns],
C 3251 2 2 true [r 2906 1 1, ns],
C 3252 2 2 false [r 2906 1 1, ns]] [] Bpl596
noncomputable def Bpl607 : List (Nat × B) := ov [C 433 9 9 true [p 11 0, b true, b false, i 2, m 4335, m 4336, b true, b false, b true],
M 4335 [(i 1, a [])] [0] 1,
M 4336 [(i 1, a [])] [0] 1] [433] Bpl471
noncomputable def Bpl616 : List (Nat × B) := ov [C 294 42 21 false [i 1, s 1 0x50, s 2 0x4150, s 2 0x4250, s 1 0x51, b true, s 1 0x58, s 3 0x525545, s 0 0, y 0 [(0, 1)], y 0 [(1, 1)], i 0, i 0, i 2, b true, b false, b false, i 2, i 2, y 0 [(4, 1)], y 0 [(8, 1)], i 2, s 1 0x51, s 2 0x4151, s 2 0x4251, s 1 0x50, b false, s 1 0x58, s 3 0x525545, s 0 0, y 0 [(0, 1)], y 0 [(1, 1)], i 0, i 0, i 1, b true, b false, b false, i 2, i 1, y 0 [(4, 1)], y 0 [(8, 1)]],
M 426 [(a [s 2 0x4150, s 1 0x58], a [y 0 [(4, -1), (10, 1)], i 0, i 0]), (a [s 2 0x4251, s 3 0x525545], a [y 0 [(8, -1), (3, 1)], i 0, i 0]), (a [s 2 0x4250, s 3 0x525545], a [y 0 [(8, 1)], i 0, i 0]), (a [s 2 0x4151, s 1 0x58], a [y 0 [(4, 1)], i 0, i 0])] [0, 1, 2, 3] 4,
C 433 9 9 true [p 11 0, b true, b false, i 2, m 4313, m 4314, b true, b false, b true],
M 434 [(i 1, a [])] [0] 1,
M 435 [(i 1, a [])] [0] 1,
C 2906 2 2 true [i 1, y 0 [(4, 1)]],
C 3252 2 2 false [r 2906 1 1, ns],
M 4313 [(i 1, a [])] [0] 1,
M 4314 [(i 1, a [])] [0] 1] [294, 426, 433, 434, 435] Bpl10
noncomputable def Bpl617 : List (Nat × B) := ov [C 294 42 21 false [i 1, s 1 0x50, s 2 0x4150, s 2 0x4250, s 1 0x51, b true, s 1 0x58, s 3 0x525545, s 0 0, y 0 [(0, 1)], y 0 [(1, 1)], i 0, i 0, i 2, b true, b false, b false, i 2, i 2, y 0 [(4, 1)], y 0 [(8, 1)], i 2, s 1 0x51, s 2 0x4151, s 2 0x4251, s 1 0x50, b false, s 1 0x58, s 3 0x525545, s 0 0, y 0 [(0, 1)], y 0 [(1, 1)], i 0, i 0, i 1, b true, b false, b false, i 2, i 1, y 0 [(4, 1)], y 0 [(8, 1)]],
M 426 [(a [s 2 0x4150, s 1 0x58], a [y 0 [(4, -1), (10, 1)], i 0, i 0]), (a [s 2 0x4251, s 3 0x525545], a [y 0 [(8, -1), (3, 1)], i 0, i 0]), (a [s 2 0x4250, s 3 0x525545], a [y 0 [(8, 1)], i 0, i 0]), (a [s 2 0x4151, s 1 0x58], a [y 0 [(4, 1)], i 0, i 0])] [0, 1, 2, 3] 4,
C 433 9 9 true [p 11 0, b true, b false, i 2, m 4335, m 4336, b true, b false, b true],
M 434 [(i 1, a [])] [0] 1,
M 435 [(i 1, a [])] [0] 1,
C 2928 2 2 true [i 1, y 0 [(4, 1)]],
C 3274 2 2 false [r 2928 1 1, ns],
M 4335 [(i 1, a [])] [0] 1,
M 4336 [(i 1, a [])] [0] 1] [294, 426, 433, 434, 435] Bpl10
noncomputable def Bpl620 : List (Nat × B) := ov [C 433 9 9 true [p 11 0, b true, b false, i 2, m 4243, m 4244, b true, b false, b true],
M 4243 [(i 1, a [])] [0] 1,
M 4244 [(i 1, a [])] [0] 1] [433] Bpl467
noncomputable def Bpl630 : List (Nat × B) := ov [C 433 9 9 true [p 11 0, b true, b false, i 2, m 4221, m 4222, b true, b false, b true],
M 4221 [(i 1, a [])] [0] 1,
M 4222 [(i 1, a [])] [0] 1] [433] Bpl469
noncomputable def Bpl636 : List (Nat × B) := ov [C 294 42 21 false [i 1, s 1 0x50, s 2 0x4150, s 2 0x4250, s 1 0x51, b true, s 1 0x58, s 3 0x525545, s 0 0, y 0 [(0, 1)], y 0 [(1, 1)], i 0, i 0, i 2, b true, b false, b false, i 2, i 2, y 0 [(4, 1)], y 0 [(8, 1)], i 2, s 1 0x51, s 2 0x4151, s 2 0x4251, s 1 0x50, b false, s 1 0x58, s 3 0x525545, s 0 0, y 0 [(0, 1)], y 0 [(1, 1)], i 0, i 0, i 1, b true, b false, b false, i 2, i 1, y 0 [(4, 1)], y 0 [(8, 1)]],
M 426 [(a [s 2 0x4150, s 1 0x58], a [y 0 [(4, -1), (10, 1)], i 0, i 0]), (a [s 2 0x4251, s 3 0x525545], a [y 0 [(3, 1)], i 0, i 0]), (a [s 2 0x4151, s 1 0x58], a [y 0 [(4, 1)], i 0, i 0])] [0, 1, 2] 3,
C 433 9 9 true [p 11 0, b true, b false, i 2, m 4221, m 4222, b true, b false, b true],
M 434 [(i 1, a [])] [0] 1,
M 435 [(i 1, a [])] [0] 1,
C 2906 2 2 true [i 1, y 0 [(4, 1)]],
C 3160 2 2 false [r 2906 1 1, ns],
M 4221 [(i 1, a [])] [0] 1,
M 4222 [(i 1, a [])] [0] 1] [294, 426, 433, 434, 435] Bpl10
noncomputable def Bpl637 : List (Nat × B) := ov [C 294 42 21 false [i 1, s 1 0x50, s 2 0x4150, s 2 0x4250, s 1 0x51, b true, s 1 0x58, s 3 0x525545, s 0 0, y 0 [(0, 1)], y 0 [(1, 1)], i 0, i 0, i 2, b true, b false, b false, i 2, i 2, y 0 [(4, 1)], y 0 [(8, 1)], i 2, s 1 0x51, s 2 0x4151, s 2 0x4251, s 1 0x50, b false, s 1 0x58, s 3 0x525545, s 0 0, y 0 [(0, 1)], y 0 [(1, 1)], i 0, i 0, i 1, b true, b false, b false, i 2, i 1, y 0 [(4, 1)], y 0 [(8, 1)]],
M 426 [(a [s 2 0x4150, s 1 0x58], a [y 0 [(4, -1), (10, 1)], i 0, i 0]), (a [s 2 0x4251, s 3 0x525545], a [y 0 [(3, 1)], i 0, i 0]), (a [s 2 0x4151, s 1 0x58], a [y 0 [(4, 1)], i 0, i 0])] [0, 1, 2] 3,
C 433 9 9 true [p 11 0, b true, b false, i 2, m 4243, m 4244, b true, b false, b true],
M 434 [(i 1, a [])] [0] 1,
M 435 [(i 1, a [])] [0] 1,
C 2928 2 2 true [i 1, y 0 [(4, 1)]],
C 3182 2 2 false [r 2928 1 1, ns],
M 4243 [(i 1, a [])] [0] 1,
M 4244 [(i 1, a [])] [0] 1] [294, 426, 433, 434, 435] Bpl10
noncomputable def Bpl648 : List (Nat × B) := ov [C 7 1 1 true [m 426],
C 8 3 3 true [p 7 0, m 427, nm],
M 426 [] [] 0,
M 427 [(s 1 0x58, y 0 [(10, 1)])] [0] 1] [7, 8] Bpl4
noncomputable def Bpl658 : List (Nat × B) := ov [M 427 [(s 1 0x58, y 0 [(10, 1)]), (s 3 0x525545, y 0 [(3, 1)])] [0, 1] 2] [427] Bpl648
noncomputable def Bpl664 : List (Nat × B) := ov [C 433 9 9 true [p 11 0, b true, b false, i 1, m 434, m 435, b false, b false, b false],
M 434 [] [] 0,
M 435 [] [] 0] [] Bpl658
noncomputable def Bpl684 : List (Nat × B) := ov [C 433 9 9 true [p 11 0, b true, b false, i 2, m 4139, m 4140, b true, b false, b true],
M 4139 [(i 1, a [])] [0] 1,
M 4140 [(i 1, a [])] [0] 1] [433] Bpl575
noncomputable def Bpl689 : List (Nat × B) := ov [C 433 9 9 true [p 11 0, b true, b false, i 2, m 4221, m 4222, b true, b false, b true],
M 4221 [(i 1, a [])] [0] 1,
M 4222 [(i 1, a [])] [0] 1] [433] Bpl571
noncomputable def Bpl694 : List (Nat × B) := ov [C 294 42 21 false [i 1, s 1 0x50, s 2 0x4150, s 2 0x4250, s 1 0x51, b true, s 1 0x58, s 3 0x525545, s 0 0, y 0 [(0, 1)], y 0 [(1, 1)], i 0, i 0, i 2, b true, b false, b false, i 2, i 2, y 0 [(2, 1)], y 0 [(9, 1)], i 2, s 1 0x51, s 2 0x4151, s 2 0x4251, s 1 0x50, b false, s 1 0x58, s 3 0x525545, s 0 0, y 0 [(0, 1)], y 0 [(1, 1)], i 0, i 0, i 1, b true, b false, b false, i 2, i 1, y 0 [(2, 1)], y 0 [(9, 1)]],
M 426 [(a [s 2 0x4151, s 1 0x58], a [y 0 [(2, 1)], i 0, i 0])] [1] 2,
C 433 9 9 true [p 11 0, b true, b false, i 2, m 4221, m 4222, b true, b false, b true],
M 434 [(i 1, a [])] [0] 1,
M 435 [(i 1, a [])] [0] 1,
C 2906 2 2 true [i 1, y 0 [(2, 1)]],
C 3160 2 2 false [r 2906 1 1, ns],
M 4221 [(i 1, a [])] [0] 1,
M 4222 [(i 1, a [])] [0] 1] [294, 426, 433, 434, 435] Bpl448
noncomputable def Bpl695 : List (Nat × B) := ov [C 294 42 21 false [i 1, s 1 0x50, s 2 0x4150, s 2 0x4250, s 1 0x51, b true, s 1 0x58, s 3 0x525545, s 0 0, y 0 [(0, 1)], y 0 [(1, 1)], i 0, i 0, i 2, b true, b false, b false, i 2, i 2, y 0 [(2, 1)], y 0 [(9, 1)], i 2, s 1 0x51, s 2 0x4151, s 2 0x4251, s 1 0x50, b false, s 1 0x58, s 3 0x525545, s 0 0, y 0 [(0, 1)], y 0 [(1, 1)], i 0, i 0, i 1, b true, b false, b false, i 2, i 1, y 0 [(2, 1)], y 0 [(9, 1)]],
M 426 [(a [s 2 0x4151, s 1 0x58], a [y 0 [(2, 1)], i 0, i 0])] [1] 2,
C 433 9 9 true [p 11 0, b true, b false, i 2, m 4139, m 4140, b true, b false, b true],
M 434 [(i 1, a [])] [0] 1,
M 435 [(i 1, a [])] [0] 1,
C 2824 2 2 true [i 1, y 0 [(2, 1)]],
C 3078 2 2 false [r 2824 1 1, ns],
M 4139 [(i 1, a [])] [0] 1,
M 4140 [(i 1, a [])] [0] 1] [294, 426, 433, 434, 435] Bpl448
noncomputable def Bpl727 : List (Nat × B) := ov [M 426 [(a [s 2 0x4251, s 3 0x525545], a [y 0 [(3, 1)], i 0, i 0])] [0] 1,
M 427 [(s 1 0x58, y 0 [(10, 1)]), (s 3 0x525545, y 0 [(3, 1)])] [0, 1] 2] [426, 427] Bpl648
noncomputable def Bpl735 : List (Nat × B) := ov [C 433 9 9 true [p 11 0, b true, b false, i 1, m 434, m 435, b false, b false, b false],
M 434 [] [] 0,
M 435 [] [] 0] [] Bpl727
noncomputable def Bpl736 : List (Nat × B) := ov [C 433 9 9 true [p 11 0, b true, b false, i 2, m 4139, m 4140, b true, b false, b true],
M 4139 [(i 1, a [])] [0] 1,
M 4140 [(i 1, a [])] [0] 1] [433] Bpl603
noncomputable def Bpl740 : List (Nat × B) := ov [C 433 9 9 true [p 11 0, b true, b false, i 2, m 4221, m 4222, b true, b false, b true],
M 4221 [(i 1, a [])] [0] 1,
M 4222 [(i 1, a [])] [0] 1] [433] Bpl601
noncomputable def Bpl742 : List (Nat × B) := ov [C 433 9 9 true [p 11 0, b true, b false, i 1, m 434, m 435, b true, b false, b true],
M 434 [(i 1, a [])] [0] 1,
M 435 [(i 1, a [])] [0] 1] [433, 434, 435] Bpl11
noncomputable def Bpl746 : List (Nat × B) := ov [C 433 9 9 true [p 11 0, b true, b false, i 2, m 4313, m 4314, b true, b false, b true],
M 4313 [(i 1, a [])] [0] 1,
M 4314 [(i 1, a [])] [0] 1] [433] Bpl600
noncomputable def Bpl747 : List (Nat × B) := ov [C 433 9 9 true [p 11 0, b true, b false, i 1, m 434, m 435, b true, b false, b true],
M 434 [(i 1, a [])] [0] 1,
M 435 [(i 1, a [])] [0] 1] [433, 434, 435] Bpl664
noncomputable def Bpl752 : List (Nat × B) := ov [C 433 9 9 true [p 11 0, b true, b false, i 2, m 4313, m 4314, b true, b false, b true],
M 4313 [(i 1, a [])] [0] 1,
M 4314 [(i 1, a [])] [0] 1] [433] Bpl604
noncomputable def Bpl760 : List (Nat × B) := ov [C 433 9 9 true [p 11 0, b false, b false, i 1, m 434, m 435, b false, b false, b false],
M 434 [] [] 0,
M 435 [] [] 0] [] Bpl658
noncomputable def Bpl761 : List (Nat × B) := ov [C 433 9 9 true [p 11 0, b false, b false, i 1, m 434, m 435, b false, b false, b false],
M 434 [] [] 0,
M 435 [] [] 0] [] Bpl727
noncomputable def Bpl769 : List (Nat × B) := ov [C 433 9 9 true [p 11 0, b true, b false, i 1, m 434, m 435, b true, b false, b true],
M 434 [(i 1, a [])] [0] 1,
M 435 [(i 1, a [])] [0] 1] [433, 434, 435] Bpl735
noncomputable def Bpl782 : List (Nat × B) := ov [C 433 9 9 true [p 11 0, b true, b false, i 1, m 434, m 435, b true, b false, b true],
M 434 [(i 1, a [])] [0] 1,
M 435 [(i 1, a [])] [0] 1] [433, 434, 435] Bpl10
noncomputable def Bpl818 : List (Nat × B) := ov [C 433 9 9 true [p 11 0, b false, b false, i 1, m 434, m 435, b true, b false, b true],
M 434 [(i 1, a [])] [0] 1] [433, 434] Bpl8
noncomputable def Bpl819 : List (Nat × B) := ov [C 294 42 21 false [i 1, s 1 0x50, s 2 0x4150, s 2 0x4250, s 1 0x51, b true, s 1 0x58, s 3 0x525545, s 0 0, y 0 [(0, 1)], y 0 [(1, 1)], i 0, i 0, i 2, b true, b false, b false, i 2, i 2, y 0 [(2, 1)], y 0 [(9, 1)], i 2, s 1 0x51, s 2 0x4151, s 2 0x4251, s 1 0x50, b false, s 1 0x58, s 3 0x525545, s 0 0, y 0 [(0, 1)], y 0 [(1, 1)], i 0, i 0, i 1, b true, b false, b false, i 2, i 1, y 0 [(2, 1)], y 0 [(9, 1)]],
M 426 [(a [s 2 0x4251, s 3 0x525545], a [y 0 [(9, -1), (3, 1)], i 0, i 0]), (a [s 2 0x4250, s 3 0x525545], a [y 0 [(9, 1)], i 0, i 0]), (a [s 2 0x4151, s 1 0x58], a [y 0 [(2, 1)], i 0, i 0])] [1, 2, 3] 4,
C 433 9 9 true [p 11 0, b true, b false, i 2, m 4313, m 4314, b true, b false, b true],
M 434 [(i 1, a [])] [0] 1,
M 435 [(i 1, a [])] [0] 1,
C 2906 2 2 true [i 1, y 0 [(2, 1)]],
C 3252 2 2 false [r 2906 1 1, ns],
M 4313 [(i 1, a [])] [0] 1,
M 4314 [(i 1, a [])] [0] 1] [294, 426, 433, 434, 435] Bpl449
noncomputable def Bpl820 : List (Nat × B) := ov [C 294 42 21 false [i 1, s 1 0x50, s 2 0x4150, s 2 0x4250, s 1 0x51, b true, s 1 0x58, s 3 0x525545, s 0 0, y 0 [(0, 1)], y 0 [(1, 1)], i 0, i 0, i 2, b true, b false, b false, i 2, i 2, y 0 [(2, 1)], y 0 [(9, 1)], i 2, s 1 0x51, s 2 0x4151, s 2 0x4251, s 1 0x50, b false, s 1 0x58, s 3 0x525545, s 0 0, y 0 [(0, 1)], y 0 [(1, 1)], i 0, i 0, i 1, b true, b false, b false, i 2, i 1, y 0 [(2, 1)], y 0 [(9, 1)]],
M 426 [(a [s 2 0x4251, s 3 0x525545], a [y 0 [(3, 1)], i 0, i 0]), (a [s 2 0x4151, s 1 0x58], a [y 0 [(2, 1)], i 0, i 0])] [1, 2] 3,
C 433 9 9 true [p 11 0, b true, b false, i 2, m 4221, m 4222, b true, b false, b true],
M 434 [(i 1, a [])] [0] 1,
M 435 [(i 1, a [])] [0] 1,
C 2906 2 2 true [i 1, y 0 [(2, 1)]],
C 3160 2 2 false [r 2906 1 1, ns],
M 4221 [(i 1, a [])] [0] 1,
M 4222 [(i 1, a [])] [0] 1] [294, 426, 433, 434, 435] Bpl449
noncomputable def Bpl821 : List (Nat × B) := ov [C 294 42 21 false [i 1, s 1 0x50, s 2 0x4150, s 2 0x4250, s 1 0x51, b true, s 1 0x58, s 3 0x525545, s 0 0, y 0 [(0, 1)], y 0 [(1, 1)], i 0, i 0, i 2, b true, b false, b false, i 2, i 2, y 0 [(2, 1)], y 0 [(9, 1)], i 2, s 1 0x51, s 2 0x4151, s 2 0x4251, s 1 0x50, b false, s 1 0x58, s 3 0x525545, s 0 0, y 0 [(0, 1)], y 0 [(1, 1)], i 0, i 0, i 1, b true, b false, b false, i 2, i 1, y 0 [(2, 1)], y 0 [(9, 1)]],
M 426 [(a [s 2 0x4250, s 3 0x525545], a [y 0 [(9, 1)], i 0, i 0]), (a [s 2 0x4151, s 1 0x58], a [y 0 [(2, 1)], i 0, i 0])] [2, 3] 4,
C 433 9 9 true [p 11 0, b true, b false, i 2, m 4313, m 4314, b true, b false, b true],
M 434 [(i 1, a [])] [0] 1,
M 435 [(i 1, a [])] [0] 1,
C 2906 2 2 true [i 1, y 0 [(2, 1)]],
C 3252 2 2 false [r 2906 1 1, ns],
M 4313 [(i 1, a [])] [0] 1,
M 4314 [(i 1, a [])] [0] 1] [294, 426, 433, 434, 435] Bpl449
noncomputable def Bpl822 : List (Nat × B) := ov [C 294 42 21 false [i 1, s 1 0x50, s 2 0x4150, s 2 0x4250, s 1 0x51, b true, s 1 0x58, s 3 0x525545, s 0 0, y 0 [(0, 1)], y 0 [(1, 1)], i 0, i 0, i 2, b true, b false, b false, i 2, i 2, y 0 [(2, 1)], y 0 [(9, 1)], i 2, s 1 0x51, s 2 0x4151, s 2 0x4251, s 1 0x50, b false, s 1 0x58, s 3 0x525545, s 0 0, y 0 [(0, 1)], y 0 [(1, 1)], i 0, i 0, i 1, b true, b false, b false, i 2, i 1, y 0 [(2, 1)], y 0 [(9, 1)]],
M 426 [(a [s 2 0x4251, s 3 0x525545], a [y 0 [(3, 1)], i 0, i 0]), (a [s 2 0x4151, s 1 0x58], a [y 0 [(2, 1)], i 0, i 0])] [1, 2] 3,
C 433 9 9 true [p 11 0, b true, b false, i 2, m 4139, m 4140, b true, b false, b true],
M 434 [(i 1, a [])] [0] 1,
M 435 [(i 1, a [])] [0] 1,
C 2824 2 2 true [i 1, y 0 [(2, 1)]],
C 3078 2 2 false [r 2824 1 1, ns],
M 4139 [(i 1, a [])] [0] 1,
M 4140 [(i 1, a [])] [0] 1] [294, 426, 433, 434, 435] Bpl449
noncomputable def Bpl827 : List (Nat × B) := ov [C 433 9 9 true [p 11 0, b false, b false, i 1, m 434, m 435, b true, b false, b true],
M 434 [(i 1, a [])] [0] 1] [433, 434] Bpl9
noncomputable def Bpl828 : List (Nat × B) := ov [C 433 9 9 true [p 11 0, b false, b false, i 1, m 434, m 435, b true, b false, b true],
M 434 [(i 1, a [])] [0] 1] [433, 434] Bpl760
noncomputable def Bpl829 : List (Nat × B) := ov [C 433 9 9 true [p 11 0, b false, b false, i 1, m 434, m 435, b true, b false, b true],
M 434 [(i 1, a [])] [0] 1] [433, 434] Bpl761
end Go.Proofs.YtdfgedemolielaaGreat
