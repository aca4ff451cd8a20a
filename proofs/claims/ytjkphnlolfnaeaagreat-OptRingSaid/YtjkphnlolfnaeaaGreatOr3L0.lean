/- complinelaw25.OptRing: states, part 0. -/
import Derived.Test.YtjkphnlolfnaeaaGreatOrHt
namespace Go.Proofs.YtjkphnlolfnaeaaGreat
open Go Gv Gv.Lt
noncomputable def Or3l0 : List (Nat × B) := []
noncomputable def Or3l1 : List (Nat × B) := [C 0 1 1 true [ns],
C 1 2 2 true [p 0 0, ns],
C 2 1 1 true [m 3],
M 3 [] [] 0,
C 6 4 4 true [p 2 0, m 139, m 153, m 184],
C 7 1 1 true [nm],
C 8 3 3 true [p 7 0, nm, nm],
C 9 1 1 true [ns],
C 10 1 1 true [nm],
C 11 6 6 true [p 6 0, p 8 0, p 9 0, p 1 0, p 10 0, i 0],
C 12 2 2 true [ns, ns],
C 15 4 4 true [ns, r 105 4 4, r 106 7 7, r 138 5 5],
C 16 4 4 true [ns, ns, ns, ns],
C 17 1 1 true [ns],
C 18 1 1 true [ns],
C 19 6 6 true [p 15 0, p 16 0, p 17 0, p 12 0, p 18 0, i 0],
C 105 8 2 false [s 4 0x4b4e4142, i 0, s 1 0x50, i 1000, s 1 0x51, i 100, s 1 0x52, i 0],
C 106 14 2 false [s 4 0x4b4e4142, s 4 0x4b4e4142, s 2 0x4150, s 1 0x50, s 2 0x4250, s 1 0x50, s 2 0x4151, s 1 0x51, s 2 0x4251, s 1 0x51, s 2 0x4152, s 1 0x52, s 2 0x4252, s 1 0x52],
C 138 40 8 false [s 3 0x525545, b true, b false, i 1, i 1, i 0, i 0, i 2, s 3 0x445355, b true, b false, i 1, i 1, i 0, i 0, i 0, s 1 0x58, b false, b true, i 1, i 1, i 10, i 1000, i 0, s 1 0x59, b false, b true, i 10, i 20, i 3, i 5000, i 0, s 1 0x5a, b false, b false, i 5, i 10, i 7, i 0, i 0],
M 139 [(s 4 0x4b4e4142, a [s 4 0x4b4e4142, i 0]), (s 1 0x50, a [s 1 0x50, i 1000]), (s 1 0x51, a [s 1 0x51, i 100]), (s 1 0x52, a [s 1 0x52, i 0])] [0, 1, 2, 3] 4,
M 153 [(s 4 0x4b4e4142, a [s 4 0x4b4e4142, s 4 0x4b4e4142]), (s 2 0x4150, a [s 2 0x4150, s 1 0x50]), (s 2 0x4250, a [s 2 0x4250, s 1 0x50]), (s 2 0x4151, a [s 2 0x4151, s 1 0x51]), (s 2 0x4251, a [s 2 0x4251, s 1 0x51]), (s 2 0x4152, a [s 2 0x4152, s 1 0x52]), (s 2 0x4252, a [s 2 0x4252, s 1 0x52])] [0, 1, 2, 3, 4, 5, 6] 7,
M 184 [(s 1 0x58, a [s 1 0x58, b false, b true, i 1, i 1, i 10, i 1000, i 0]), (s 1 0x59, a [s 1 0x59, b false, b true, i 10, i 20, i 3, i 5000, i 0]), (s 1 0x5a, a [s 1 0x5a, b false, b false, i 5, i 10, i 7, i 0, i 0]), (s 3 0x525545, a [s 3 0x525545, b true, b false, i 1, i 1, i 0, i 0, i 2]), (s 3 0x445355, a [s 3 0x445355, b true, b false, i 1, i 1, i 0, i 0, i 0])] [0, 1, 2, 3, 4] 5]
noncomputable def Or3l2 : List (Nat × B) := ov [C 210 3 1 true [s 1 0x50, s 1 0x51, s 1 0x52]] [] Or3l1
noncomputable def Or3l3 : List (Nat × B) := ov [C 0 1 1 true [r 296 2 2],
C 9 1 1 true [r 294 2 2],
C 12 2 2 true [r 317 2 2, ns],
C 17 1 1 true [r 314 2 2],
C 294 42 21 false [i 1, s 1 0x50, s 2 0x4150, s 2 0x4250, s 1 0x51, b true, s 1 0x58, s 3 0x525545, s 0 0, y 0 [(0, 1)], y 0 [(1, 1)], i 0, i 0, i 2, b false, b false, b false, i 0, i 0, i 0, i 0, i 2, s 1 0x51, s 2 0x4151, s 2 0x4251, s 1 0x50, b false, s 1 0x58, s 3 0x525545, s 0 0, y 0 [(0, 1)], y 0 [(1, 1)], i 0, i 0, i 1, b false, b false, b false, i 0, i 0, i 0, i 0],
C 296 2 1 false [i 1, i 2],
C 314 42 21 false [i 1, s 1 0x50, s 2 0x4150, s 2 0x4250, s 1 0x51, b true, s 1 0x58, s 3 0x525545, s 0 0, y 0 [(0, 1)], y 0 [(1, 1)], i 0, i 0, i 2, b false, b false, b false, i 0, i 0, i 0, i 0, i 2, s 1 0x51, s 2 0x4151, s 2 0x4251, s 1 0x50, b false, s 1 0x58, s 3 0x525545, s 0 0, y 0 [(0, 1)], y 0 [(1, 1)], i 0, i 0, i 1, b false, b false, b false, i 0, i 0, i 0, i 0],
C 317 2 1 false [i 1, i 2]] [0, 9, 12, 17] Or3l2
noncomputable def Or3l4 : List (Nat × B) := ov [C 0 1 1 true [r 405 4 4],
C 9 1 1 true [r 403 4 4],
C 12 2 2 true [r 426 4 4, ns],
C 17 1 1 true [r 423 4 4],
C 403 84 21 false [i 1, s 1 0x50, s 2 0x4150, s 2 0x4250, s 1 0x51, b true, s 1 0x58, s 3 0x525545, s 0 0, y 0 [(0, 1)], y 0 [(1, 1)], i 0, i 0, i 2, b false, b false, b false, i 0, i 0, i 0, i 0, i 2, s 1 0x51, s 2 0x4151, s 2 0x4251, s 1 0x50, b false, s 1 0x58, s 3 0x525545, s 0 0, y 0 [(0, 1)], y 0 [(1, 1)], i 0, i 0, i 1, b false, b false, b false, i 0, i 0, i 0, i 0, i 3, s 1 0x51, s 2 0x4151, s 2 0x4251, s 1 0x52, b true, s 1 0x58, s 3 0x525545, s 0 0, y 0 [(0, 1)], y 0 [(1, 1)], i 0, i 0, i 2, b false, b false, b false, i 0, i 0, i 0, i 0, i 4, s 1 0x52, s 2 0x4152, s 2 0x4252, s 1 0x51, b false, s 1 0x58, s 3 0x525545, s 0 0, y 0 [(0, 1)], y 0 [(1, 1)], i 0, i 0, i 1, b false, b false, b false, i 0, i 0, i 0, i 0],
C 405 4 1 false [i 1, i 2, i 3, i 4],
C 423 84 21 false [i 1, s 1 0x50, s 2 0x4150, s 2 0x4250, s 1 0x51, b true, s 1 0x58, s 3 0x525545, s 0 0, y 0 [(0, 1)], y 0 [(1, 1)], i 0, i 0, i 2, b false, b false, b false, i 0, i 0, i 0, i 0, i 2, s 1 0x51, s 2 0x4151, s 2 0x4251, s 1 0x50, b false, s 1 0x58, s 3 0x525545, s 0 0, y 0 [(0, 1)], y 0 [(1, 1)], i 0, i 0, i 1, b false, b false, b false, i 0, i 0, i 0, i 0, i 3, s 1 0x51, s 2 0x4151, s 2 0x4251, s 1 0x52, b true, s 1 0x58, s 3 0x525545, s 0 0, y 0 [(0, 1)], y 0 [(1, 1)], i 0, i 0, i 2, b false, b false, b false, i 0, i 0, i 0, i 0, i 4, s 1 0x52, s 2 0x4152, s 2 0x4252, s 1 0x51, b false, s 1 0x58, s 3 0x525545, s 0 0, y 0 [(0, 1)], y 0 [(1, 1)], i 0, i 0, i 1, b false, b false, b false, i 0, i 0, i 0, i 0],
C 426 4 1 false [i 1, i 2, i 3, i 4]] [0, 9, 12, 17, 294, 296] Or3l3
noncomputable def Or3l5 : List (Nat × B) := ov [C 0 1 1 true [r 514 6 6],
C 9 1 1 true [r 512 6 6],
C 12 2 2 true [r 535 6 6, ns],
C 17 1 1 true [r 532 6 6],
C 512 126 21 false [i 1, s 1 0x50, s 2 0x4150, s 2 0x4250, s 1 0x51, b true, s 1 0x58, s 3 0x525545, s 0 0, y 0 [(0, 1)], y 0 [(1, 1)], i 0, i 0, i 2, b false, b false, b false, i 0, i 0, i 0, i 0, i 2, s 1 0x51, s 2 0x4151, s 2 0x4251, s 1 0x50, b false, s 1 0x58, s 3 0x525545, s 0 0, y 0 [(0, 1)], y 0 [(1, 1)], i 0, i 0, i 1, b false, b false, b false, i 0, i 0, i 0, i 0, i 3, s 1 0x51, s 2 0x4151, s 2 0x4251, s 1 0x52, b true, s 1 0x58, s 3 0x525545, s 0 0, y 0 [(0, 1)], y 0 [(1, 1)], i 0, i 0, i 2, b false, b false, b false, i 0, i 0, i 0, i 0, i 4, s 1 0x52, s 2 0x4152, s 2 0x4252, s 1 0x51, b false, s 1 0x58, s 3 0x525545, s 0 0, y 0 [(0, 1)], y 0 [(1, 1)], i 0, i 0, i 1, b false, b false, b false, i 0, i 0, i 0, i 0, i 5, s 1 0x52, s 2 0x4152, s 2 0x4252, s 1 0x50, b true, s 1 0x58, s 3 0x525545, s 0 0, y 0 [(0, 1)], y 0 [(1, 1)], i 0, i 0, i 2, b false, b false, b false, i 0, i 0, i 0, i 0, i 6, s 1 0x50, s 2 0x4150, s 2 0x4250, s 1 0x52, b false, s 1 0x58, s 3 0x525545, s 0 0, y 0 [(0, 1)], y 0 [(1, 1)], i 0, i 0, i 1, b false, b false, b false, i 0, i 0, i 0, i 0],
C 514 6 1 false [i 1, i 2, i 3, i 4, i 5, i 6],
C 532 126 21 false [i 1, s 1 0x50, s 2 0x4150, s 2 0x4250, s 1 0x51, b true, s 1 0x58, s 3 0x525545, s 0 0, y 0 [(0, 1)], y 0 [(1, 1)], i 0, i 0, i 2, b false, b false, b false, i 0, i 0, i 0, i 0, i 2, s 1 0x51, s 2 0x4151, s 2 0x4251, s 1 0x50, b false, s 1 0x58, s 3 0x525545, s 0 0, y 0 [(0, 1)], y 0 [(1, 1)], i 0, i 0, i 1, b false, b false, b false, i 0, i 0, i 0, i 0, i 3, s 1 0x51, s 2 0x4151, s 2 0x4251, s 1 0x52, b true, s 1 0x58, s 3 0x525545, s 0 0, y 0 [(0, 1)], y 0 [(1, 1)], i 0, i 0, i 2, b false, b false, b false, i 0, i 0, i 0, i 0, i 4, s 1 0x52, s 2 0x4152, s 2 0x4252, s 1 0x51, b false, s 1 0x58, s 3 0x525545, s 0 0, y 0 [(0, 1)], y 0 [(1, 1)], i 0, i 0, i 1, b false, b false, b false, i 0, i 0, i 0, i 0, i 5, s 1 0x52, s 2 0x4152, s 2 0x4252, s 1 0x50, b true, s 1 0x58, s 3 0x525545, s 0 0, y 0 [(0, 1)], y 0 [(1, 1)], i 0, i 0, i 2, b false, b false, b false, i 0, i 0, i 0, i 0, i 6, s 1 0x50, s 2 0x4150, s 2 0x4250, s 1 0x52, b false, s 1 0x58, s 3 0x525545, s 0 0, y 0 [(0, 1)], y 0 [(1, 1)], i 0, i 0, i 1, b false, b false, b false, i 0, i 0, i 0, i 0],
C 535 6 1 false [i 1, i 2, i 3, i 4, i 5, i 6]] [0, 9, 12, 17, 403, 405] Or3l4
noncomputable def Or3l6 : List (Nat × B) := ov [C 512 126 21 false [i 1, s 1 0x50, s 2 0x4150, s 2 0x4250, s 1 0x51, b true, s 1 0x58, s 3 0x525545, s 0 0, y 0 [(0, 1)], y 0 [(1, 1)], i 0, i 0, i 2, b false, b false, b false, i 1, i 2, i 0, i 0, i 2, s 1 0x51, s 2 0x4151, s 2 0x4251, s 1 0x50, b false, s 1 0x58, s 3 0x525545, s 0 0, y 0 [(0, 1)], y 0 [(1, 1)], i 0, i 0, i 1, b false, b false, b false, i 1, i 1, i 0, i 0, i 3, s 1 0x51, s 2 0x4151, s 2 0x4251, s 1 0x52, b true, s 1 0x58, s 3 0x525545, s 0 0, y 0 [(0, 1)], y 0 [(1, 1)], i 0, i 0, i 2, b false, b false, b false, i 1, i 4, i 0, i 0, i 4, s 1 0x52, s 2 0x4152, s 2 0x4252, s 1 0x51, b false, s 1 0x58, s 3 0x525545, s 0 0, y 0 [(0, 1)], y 0 [(1, 1)], i 0, i 0, i 1, b false, b false, b false, i 1, i 3, i 0, i 0, i 5, s 1 0x52, s 2 0x4152, s 2 0x4252, s 1 0x50, b true, s 1 0x58, s 3 0x525545, s 0 0, y 0 [(0, 1)], y 0 [(1, 1)], i 0, i 0, i 2, b false, b false, b false, i 1, i 6, i 0, i 0, i 6, s 1 0x50, s 2 0x4150, s 2 0x4250, s 1 0x52, b false, s 1 0x58, s 3 0x525545, s 0 0, y 0 [(0, 1)], y 0 [(1, 1)], i 0, i 0, i 1, b false, b false, b false, i 1, i 5, i 0, i 0],
C 514 6 1 false [i 1, i 1, i 3, i 3, i 5, i 5],
C 1168 9 3 false [i 1, i 2, y 0 [(1, 1)], i 3, i 4, y 0 [(1, 1)], i 5, i 6, y 0 [(1, 1)]]] [512, 514] Or3l5
noncomputable def Or3l7 : List (Nat × B) := ov [C 1169 2 1 true [i 1, i 2]] [] Or3l6
noncomputable def Or3l8 : List (Nat × B) := ov [C 1424 2 2 true [ns, ns],
C 1425 2 1 true [i 3, i 4]] [] Or3l7
noncomputable def Or3l9 : List (Nat × B) := ov [C 1320 2 2 true [ns, ns],
C 1321 2 1 true [i 3, i 4]] [] Or3l7
noncomputable def Or3l10 : List (Nat × B) := ov [C 1472 2 2 true [ns, ns],
C 1473 2 1 true [i 5, i 6]] [] Or3l9
noncomputable def Or3l11 : List (Nat × B) := ov [C 1680 2 2 true [ns, ns],
C 1681 2 1 true [i 5, i 6]] [] Or3l8
noncomputable def Or3l12 : List (Nat × B) := ov [C 1627 2 2 true [ns, ns]] [] Or3l10
noncomputable def Or3l13 : List (Nat × B) := ov [C 1935 2 2 true [ns, ns]] [] Or3l11
noncomputable def Or3l14 : List (Nat × B) := ov [C 3042 6 2 false [i 1, y 0 [(0, 1)], i 3, y 0 [(0, 1)], i 5, y 0 [(0, 1)]]] [] Or3l12
noncomputable def Or3l15 : List (Nat × B) := ov [C 3044 2 2 true [r 3042 3 3, ns]] [] Or3l14
noncomputable def Or3l16 : List (Nat × B) := ov [C 3419 6 2 false [i 1, y 0 [(0, 1)], i 3, y 0 [(0, 1)], i 5, y 0 [(0, 1)]]] [] Or3l13
noncomputable def Or3l17 : List (Nat × B) := ov [C 3421 2 2 true [r 3419 3 3, ns]] [] Or3l16
noncomputable def Or3l18 : List (Nat × B) := ov [C 7 1 1 true [m 3364],
C 512 126 21 false [i 1, s 1 0x50, s 2 0x4150, s 2 0x4250, s 1 0x51, b true, s 1 0x58, s 3 0x525545, s 0 0, y 0 [(0, 1)], y 0 [(1, 1)], i 0, i 0, i 2, b false, b false, b false, i 3, i 2, y 0 [(0, 1)], y 0 [(1, 1)], i 2, s 1 0x51, s 2 0x4151, s 2 0x4251, s 1 0x50, b false, s 1 0x58, s 3 0x525545, s 0 0, y 0 [(0, 1)], y 0 [(1, 1)], i 0, i 0, i 1, b false, b false, b false, i 3, i 1, y 0 [(0, 1)], y 0 [(1, 1)], i 3, s 1 0x51, s 2 0x4151, s 2 0x4251, s 1 0x52, b true, s 1 0x58, s 3 0x525545, s 0 0, y 0 [(0, 1)], y 0 [(1, 1)], i 0, i 0, i 2, b false, b false, b false, i 3, i 4, y 0 [(0, 1)], y 0 [(1, 1)], i 4, s 1 0x52, s 2 0x4152, s 2 0x4252, s 1 0x51, b false, s 1 0x58, s 3 0x525545, s 0 0, y 0 [(0, 1)], y 0 [(1, 1)], i 0, i 0, i 1, b false, b false, b false, i 3, i 3, y 0 [(0, 1)], y 0 [(1, 1)], i 5, s 1 0x52, s 2 0x4152, s 2 0x4252, s 1 0x50, b true, s 1 0x58, s 3 0x525545, s 0 0, y 0 [(0, 1)], y 0 [(1, 1)], i 0, i 0, i 2, b false, b false, b false, i 3, i 6, y 0 [(0, 1)], y 0 [(1, 1)], i 6, s 1 0x50, s 2 0x4150, s 2 0x4250, s 1 0x52, b false, s 1 0x58, s 3 0x525545, s 0 0, y 0 [(0, 1)], y 0 [(1, 1)], i 0, i 0, i 1, b false, b false, b false, i 3, i 5, y 0 [(0, 1)], y 0 [(1, 1)]],
M 3364 [] [] 0] [7, 512] Or3l15
noncomputable def Or3l19 : List (Nat × B) := ov [C 3409 21 21 true [i 1, s 1 0x50, s 2 0x4150, s 2 0x4250, s 1 0x51, b true, s 1 0x58, s 3 0x525545, s 0 0, y 0 [(0, 1)], y 0 [(1, 1)], i 0, i 0, i 2, b false, b false, b false, i 3, i 2, y 0 [(0, 1)], y 0 [(1, 1)]]] [] Or3l18
noncomputable def Or3l20 : List (Nat × B) := ov [C 7 1 1 true [m 3873],
C 512 126 21 false [i 1, s 1 0x50, s 2 0x4150, s 2 0x4250, s 1 0x51, b true, s 1 0x58, s 3 0x525545, s 0 0, y 0 [(0, 1)], y 0 [(1, 1)], i 0, i 0, i 2, b false, b false, b false, i 3, i 2, y 0 [(0, 1)], y 0 [(1, 1)], i 2, s 1 0x51, s 2 0x4151, s 2 0x4251, s 1 0x50, b false, s 1 0x58, s 3 0x525545, s 0 0, y 0 [(0, 1)], y 0 [(1, 1)], i 0, i 0, i 1, b false, b false, b false, i 3, i 1, y 0 [(0, 1)], y 0 [(1, 1)], i 3, s 1 0x51, s 2 0x4151, s 2 0x4251, s 1 0x52, b true, s 1 0x58, s 3 0x525545, s 0 0, y 0 [(0, 1)], y 0 [(1, 1)], i 0, i 0, i 2, b false, b false, b false, i 3, i 4, y 0 [(0, 1)], y 0 [(1, 1)], i 4, s 1 0x52, s 2 0x4152, s 2 0x4252, s 1 0x51, b false, s 1 0x58, s 3 0x525545, s 0 0, y 0 [(0, 1)], y 0 [(1, 1)], i 0, i 0, i 1, b false, b false, b false, i 3, i 3, y 0 [(0, 1)], y 0 [(1, 1)], i 5, s 1 0x52, s 2 0x4152, s 2 0x4252, s 1 0x50, b true, s 1 0x58, s 3 0x525545, s 0 0, y 0 [(0, 1)], y 0 [(1, 1)], i 0, i 0, i 2, b false, b false, b false, i 3, i 6, y 0 [(0, 1)], y 0 [(1, 1)], i 6, s 1 0x50, s 2 0x4150, s 2 0x4250, s 1 0x52, b false, s 1 0x58, s 3 0x525545, s 0 0, y 0 [(0, 1)], y 0 [(1, 1)], i 0, i 0, i 1, b false, b false, b false, i 3, i 5, y 0 [(0, 1)], y 0 [(1, 1)]],
M 3873 [] [] 0] [7, 512] Or3l17
noncomputable def Or3l21 : List (Nat × B) := ov [C 3411 21 21 true [i 2, s 1 0x51, s 2 0x4151, s 2 0x4251, s 1 0x50, b false, s 1 0x58, s 3 0x525545, s 0 0, y 0 [(0, 1)], y 0 [(1, 1)], i 0, i 0, i 1, b false, b false, b false, i 3, i 1, y 0 [(0, 1)], y 0 [(1, 1)]]] [] Or3l19
noncomputable def Or3l22 : List (Nat × B) := ov [C 3933 21 21 true [i 1, s 1 0x50, s 2 0x4150, s 2 0x4250, s 1 0x51, b true, s 1 0x58, s 3 0x525545, s 0 0, y 0 [(0, 1)], y 0 [(1, 1)], i 0, i 0, i 2, b false, b false, b false, i 3, i 2, y 0 [(0, 1)], y 0 [(1, 1)]]] [] Or3l20
noncomputable def Or3l23 : List (Nat × B) := ov [C 3413 21 21 true [i 3, s 1 0x51, s 2 0x4151, s 2 0x4251, s 1 0x52, b true, s 1 0x58, s 3 0x525545, s 0 0, y 0 [(0, 1)], y 0 [(1, 1)], i 0, i 0, i 2, b false, b false, b false, i 3, i 4, y 0 [(0, 1)], y 0 [(1, 1)]]] [] Or3l21
noncomputable def Or3l24 : List (Nat × B) := ov [C 3935 21 21 true [i 2, s 1 0x51, s 2 0x4151, s 2 0x4251, s 1 0x50, b false, s 1 0x58, s 3 0x525545, s 0 0, y 0 [(0, 1)], y 0 [(1, 1)], i 0, i 0, i 1, b false, b false, b false, i 3, i 1, y 0 [(0, 1)], y 0 [(1, 1)]]] [] Or3l22
noncomputable def Or3l25 : List (Nat × B) := ov [C 3415 21 21 true [i 4, s 1 0x52, s 2 0x4152, s 2 0x4252, s 1 0x51, b false, s 1 0x58, s 3 0x525545, s 0 0, y 0 [(0, 1)], y 0 [(1, 1)], i 0, i 0, i 1, b false, b false, b false, i 3, i 3, y 0 [(0, 1)], y 0 [(1, 1)]]] [] Or3l23
noncomputable def Or3l26 : List (Nat × B) := ov [C 3937 21 21 true [i 3, s 1 0x51, s 2 0x4151, s 2 0x4251, s 1 0x52, b true, s 1 0x58, s 3 0x525545, s 0 0, y 0 [(0, 1)], y 0 [(1, 1)], i 0, i 0, i 2, b false, b false, b false, i 3, i 4, y 0 [(0, 1)], y 0 [(1, 1)]]] [] Or3l24
noncomputable def Or3l27 : List (Nat × B) := ov [C 3417 21 21 true [i 5, s 1 0x52, s 2 0x4152, s 2 0x4252, s 1 0x50, b true, s 1 0x58, s 3 0x525545, s 0 0, y 0 [(0, 1)], y 0 [(1, 1)], i 0, i 0, i 2, b false, b false, b false, i 3, i 6, y 0 [(0, 1)], y 0 [(1, 1)]]] [] Or3l25
noncomputable def Or3l28 : List (Nat × B) := ov [C 3939 21 21 true [i 4, s 1 0x52, s 2 0x4152, s 2 0x4252, s 1 0x51, b false, s 1 0x58, s 3 0x525545, s 0 0, y 0 [(0, 1)], y 0 [(1, 1)], i 0, i 0, i 1, b false, b false, b false, i 3, i 3, y 0 [(0, 1)], y 0 [(1, 1)]]] [] Or3l26
noncomputable def Or3l29 : List (Nat × B) := ov [C 3941 21 21 true [i 5, s 1 0x52, s 2 0x4152, s 2 0x4252, s 1 0x50, b true, s 1 0x58, s 3 0x525545, s 0 0, y 0 [(0, 1)], y 0 [(1, 1)], i 0, i 0, i 2, b false, b false, b false, i 3, i 6, y 0 [(0, 1)], y 0 [(1, 1)]]] [] Or3l28
end Go.Proofs.YtjkphnlolfnaeaaGreat
