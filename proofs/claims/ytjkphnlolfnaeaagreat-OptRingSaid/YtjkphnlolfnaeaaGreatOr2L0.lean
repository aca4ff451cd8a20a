/- complinelaw25.OptRing: states, part 0. -/
import Derived.Test.YtjkphnlolfnaeaaGreatOrHt
namespace Go.Proofs.YtjkphnlolfnaeaaGreat
open Go Gv Gv.Lt
noncomputable def Or2l0 : List (Nat × B) := []
noncomputable def Or2l1 : List (Nat × B) := [C 0 1 1 true [ns],
C 1 2 2 true [p 0 0, ns],
C 2 1 1 true [m 3],
M 3 [] [] 0,
C 6 4 4 true [p 2 0, m 139, m 153, m 184],
C 7 1 1 true [nm],
C 8 3 3 true [p 7 0, nm, nm],
C 9 1 1 true [ns],
C 10 1 1 true [nm],
C 11 6 6 true [p 6 0, p 8 0, p 9 0, p 1 0, p 10 0, i 0],
C 12 2 2 true [ns, ns],
C 15 4 4 true [ns, r 105 4 4, r 106 7 7, r 138 5 5],
C 16 4 4 true [ns, ns, ns, ns],
C 17 1 1 true [ns],
C 18 1 1 true [ns],
C 19 6 6 true [p 15 0, p 16 0, p 17 0, p 12 0, p 18 0, i 0],
C 105 8 2 false [s 4 0x4b4e4142, i 0, s 1 0x50, i 1000, s 1 0x51, i 100, s 1 0x52, i 0],
C 106 14 2 false [s 4 0x4b4e4142, s 4 0x4b4e4142, s 2 0x4150, s 1 0x50, s 2 0x4250, s 1 0x50, s 2 0x4151, s 1 0x51, s 2 0x4251, s 1 0x51, s 2 0x4152, s 1 0x52, s 2 0x4252, s 1 0x52],
C 138 40 8 false [s 3 0x525545, b true, b false, i 1, i 1, i 0, i 0, i 2, s 3 0x445355, b true, b false, i 1, i 1, i 0, i 0, i 0, s 1 0x58, b false, b true, i 1, i 1, i 10, i 1000, i 0, s 1 0x59, b false, b true, i 10, i 20, i 3, i 5000, i 0, s 1 0x5a, b false, b false, i 5, i 10, i 7, i 0, i 0],
M 139 [(s 4 0x4b4e4142, a [s 4 0x4b4e4142, i 0]), (s 1 0x50, a [s 1 0x50, i 1000]), (s 1 0x51, a [s 1 0x51, i 100]), (s 1 0x52, a [s 1 0x52, i 0])] [0, 1, 2, 3] 4,
M 153 [(s 4 0x4b4e4142, a [s 4 0x4b4e4142, s 4 0x4b4e4142]), (s 2 0x4150, a [s 2 0x4150, s 1 0x50]), (s 2 0x4250, a [s 2 0x4250, s 1 0x50]), (s 2 0x4151, a [s 2 0x4151, s 1 0x51]), (s 2 0x4251, a [s 2 0x4251, s 1 0x51]), (s 2 0x4152, a [s 2 0x4152, s 1 0x52]), (s 2 0x4252, a [s 2 0x4252, s 1 0x52])] [0, 1, 2, 3, 4, 5, 6] 7,
M 184 [(s 1 0x58, a [s 1 0x58, b false, b true, i 1, i 1, i 10, i 1000, i 0]), (s 1 0x59, a [s 1 0x59, b false, b true, i 10, i 20, i 3, i 5000, i 0]), (s 1 0x5a, a [s 1 0x5a, b false, b false, i 5, i 10, i 7, i 0, i 0]), (s 3 0x525545, a [s 3 0x525545, b true, b false, i 1, i 1, i 0, i 0, i 2]), (s 3 0x445355, a [s 3 0x445355, b true, b false, i 1, i 1, i 0, i 0, i 0])] [0, 1, 2, 3, 4] 5]
noncomputable def Or2l2 : List (Nat × B) := ov [C 210 3 1 true [s 1 0x50, s 1 0x51, s 1 0x52]] [] Or2l1
noncomputable def Or2l3 : List (Nat × B) := ov [C 0 1 1 true [r 296 2 2],
C 9 1 1 true [r 294 2 2],
C 12 2 2 true [r 317 2 2, ns],
C 17 1 1 true [r 314 2 2],
C 294 42 21 false [i 1, s 1 0x50, s 2 0x4150, s 2 0x4250, s 1 0x51, b true, s 1 0x58, s 3 0x525545, s 0 0, y 0 [(0, 1)], y 0 [(1, 1)], i 0, i 0, i 2, b false, b false, b false, i 0, i 0, i 0, i 0, i 2, s 1 0x51, s 2 0x4151, s 2 0x4251, s 1 0x50, b false, s 1 0x58, s 3 0x525545, s 0 0, y 0 [(0, 1)], y 0 [(1, 1)], i 0, i 0, i 1, b false, b false, b false, i 0, i 0, i 0, i 0],
C 296 2 1 false [i 1, i 2],
C 314 42 21 false [i 1, s 1 0x50, s 2 0x4150, s 2 0x4250, s 1 0x51, b true, s 1 0x58, s 3 0x525545, s 0 0, y 0 [(0, 1)], y 0 [(1, 1)], i 0, i 0, i 2, b false, b false, b false, i 0, i 0, i 0, i 0, i 2, s 1 0x51, s 2 0x4151, s 2 0x4251, s 1 0x50, b false, s 1 0x58, s 3 0x525545, s 0 0, y 0 [(0, 1)], y 0 [(1, 1)], i 0, i 0, i 1, b false, b false, b false, i 0, i 0, i 0, i 0],
C 317 2 1 false [i 1, i 2]] [0, 9, 12, 17] Or2l2
noncomputable def Or2l4 : List (Nat × B) := ov [C 0 1 1 true [r 405 4 4],
C 9 1 1 true [r 403 4 4],
C 12 2 2 true [r 426 4 4, ns],
C 17 1 1 true [r 423 4 4],
C 403 84 21 false [i 1, s 1 0x50, s 2 0x4150, s 2 0x4250, s 1 0x51, b true, s 1 0x58, s 3 0x525545, s 0 0, y 0 [(0, 1)], y 0 [(1, 1)], i 0, i 0, i 2, b false, b false, b false, i 0, i 0, i 0, i 0, i 2, s 1 0x51, s 2 0x4151, s 2 0x4251, s 1 0x50, b false, s 1 0x58, s 3 0x525545, s 0 0, y 0 [(0, 1)], y 0 [(1, 1)], i 0, i 0, i 1, b false, b false, b false, i 0, i 0, i 0, i 0, i 3, s 1 0x51, s 2 0x4151, s 2 0x4251, s 1 0x50, b true, s 1 0x58, s 3 0x525545, s 0 0, y 0 [(0, 1)], y 0 [(1, 1)], i 0, i 0, i 2, b false, b false, b false, i 0, i 0, i 0, i 0, i 4, s 1 0x50, s 2 0x4150, s 2 0x4250, s 1 0x51, b false, s 1 0x58, s 3 0x525545, s 0 0, y 0 [(0, 1)], y 0 [(1, 1)], i 0, i 0, i 1, b false, b false, b false, i 0, i 0, i 0, i 0],
C 405 4 1 false [i 1, i 2, i 3, i 4],
C 423 84 21 false [i 1, s 1 0x50, s 2 0x4150, s 2 0x4250, s 1 0x51, b true, s 1 0x58, s 3 0x525545, s 0 0, y 0 [(0, 1)], y 0 [(1, 1)], i 0, i 0, i 2, b false, b false, b false, i 0, i 0, i 0, i 0, i 2, s 1 0x51, s 2 0x4151, s 2 0x4251, s 1 0x50, b false, s 1 0x58, s 3 0x525545, s 0 0, y 0 [(0, 1)], y 0 [(1, 1)], i 0, i 0, i 1, b false, b false, b false, i 0, i 0, i 0, i 0, i 3, s 1 0x51, s 2 0x4151, s 2 0x4251, s 1 0x50, b true, s 1 0x58, s 3 0x525545, s 0 0, y 0 [(0, 1)], y 0 [(1, 1)], i 0, i 0, i 2, b false, b false, b false, i 0, i 0, i 0, i 0, i 4, s 1 0x50, s 2 0x4150, s 2 0x4250, s 1 0x51, b false, s 1 0x58, s 3 0x525545, s 0 0, y 0 [(0, 1)], y 0 [(1, 1)], i 0, i 0, i 1, b false, b false, b false, i 0, i 0, i 0, i 0],
C 426 4 1 false [i 1, i 2, i 3, i 4]] [0, 9, 12, 17, 294, 296] Or2l3
noncomputable def Or2l5 : List (Nat × B) := ov [C 403 84 21 false [i 1, s 1 0x50, s 2 0x4150, s 2 0x4250, s 1 0x51, b true, s 1 0x58, s 3 0x525545, s 0 0, y 0 [(0, 1)], y 0 [(1, 1)], i 0, i 0, i 2, b false, b false, b false, i 1, i 2, i 0, i 0, i 2, s 1 0x51, s 2 0x4151, s 2 0x4251, s 1 0x50, b false, s 1 0x58, s 3 0x525545, s 0 0, y 0 [(0, 1)], y 0 [(1, 1)], i 0, i 0, i 1, b false, b false, b false, i 1, i 1, i 0, i 0, i 3, s 1 0x51, s 2 0x4151, s 2 0x4251, s 1 0x50, b true, s 1 0x58, s 3 0x525545, s 0 0, y 0 [(0, 1)], y 0 [(1, 1)], i 0, i 0, i 2, b false, b false, b false, i 1, i 4, i 0, i 0, i 4, s 1 0x50, s 2 0x4150, s 2 0x4250, s 1 0x51, b false, s 1 0x58, s 3 0x525545, s 0 0, y 0 [(0, 1)], y 0 [(1, 1)], i 0, i 0, i 1, b false, b false, b false, i 1, i 3, i 0, i 0],
C 405 4 1 false [i 1, i 1, i 3, i 3],
C 735 6 3 false [i 1, i 2, y 0 [(1, 1)], i 3, i 4, y 0 [(1, 1)]]] [403, 405] Or2l4
noncomputable def Or2l6 : List (Nat × B) := ov [C 736 2 1 true [i 1, i 2]] [] Or2l5
noncomputable def Or2l7 : List (Nat × B) := ov [C 887 2 2 true [ns, ns],
C 888 2 1 true [i 3, i 4]] [] Or2l6
noncomputable def Or2l8 : List (Nat × B) := ov [C 991 2 2 true [ns, ns],
C 992 2 1 true [i 3, i 4]] [] Or2l6
noncomputable def Or2l9 : List (Nat × B) := ov [C 1042 2 2 true [ns, ns]] [] Or2l7
noncomputable def Or2l10 : List (Nat × B) := ov [C 1246 2 2 true [ns, ns]] [] Or2l8
noncomputable def Or2l11 : List (Nat × B) := ov [C 2315 4 2 false [i 1, y 0 [(0, 1)], i 3, y 0 [(0, 1)]]] [] Or2l9
noncomputable def Or2l12 : List (Nat × B) := ov [C 2565 4 2 false [i 1, y 0 [(0, 1)], i 3, y 0 [(0, 1)]]] [] Or2l10
noncomputable def Or2l13 : List (Nat × B) := ov [C 2317 2 2 true [r 2315 2 2, ns]] [] Or2l11
noncomputable def Or2l14 : List (Nat × B) := ov [C 2567 2 2 true [r 2565 2 2, ns]] [] Or2l12
noncomputable def Or2l15 : List (Nat × B) := ov [C 7 1 1 true [m 2533],
C 403 84 21 false [i 1, s 1 0x50, s 2 0x4150, s 2 0x4250, s 1 0x51, b true, s 1 0x58, s 3 0x525545, s 0 0, y 0 [(0, 1)], y 0 [(1, 1)], i 0, i 0, i 2, b false, b false, b false, i 3, i 2, y 0 [(0, 1)], y 0 [(1, 1)], i 2, s 1 0x51, s 2 0x4151, s 2 0x4251, s 1 0x50, b false, s 1 0x58, s 3 0x525545, s 0 0, y 0 [(0, 1)], y 0 [(1, 1)], i 0, i 0, i 1, b false, b false, b false, i 3, i 1, y 0 [(0, 1)], y 0 [(1, 1)], i 3, s 1 0x51, s 2 0x4151, s 2 0x4251, s 1 0x50, b true, s 1 0x58, s 3 0x525545, s 0 0, y 0 [(0, 1)], y 0 [(1, 1)], i 0, i 0, i 2, b false, b false, b false, i 3, i 4, y 0 [(0, 1)], y 0 [(1, 1)], i 4, s 1 0x50, s 2 0x4150, s 2 0x4250, s 1 0x51, b false, s 1 0x58, s 3 0x525545, s 0 0, y 0 [(0, 1)], y 0 [(1, 1)], i 0, i 0, i 1, b false, b false, b false, i 3, i 3, y 0 [(0, 1)], y 0 [(1, 1)]],
M 2533 [] [] 0] [7, 403] Or2l13
noncomputable def Or2l16 : List (Nat × B) := ov [C 7 1 1 true [m 2871],
C 403 84 21 false [i 1, s 1 0x50, s 2 0x4150, s 2 0x4250, s 1 0x51, b true, s 1 0x58, s 3 0x525545, s 0 0, y 0 [(0, 1)], y 0 [(1, 1)], i 0, i 0, i 2, b false, b false, b false, i 3, i 2, y 0 [(0, 1)], y 0 [(1, 1)], i 2, s 1 0x51, s 2 0x4151, s 2 0x4251, s 1 0x50, b false, s 1 0x58, s 3 0x525545, s 0 0, y 0 [(0, 1)], y 0 [(1, 1)], i 0, i 0, i 1, b false, b false, b false, i 3, i 1, y 0 [(0, 1)], y 0 [(1, 1)], i 3, s 1 0x51, s 2 0x4151, s 2 0x4251, s 1 0x50, b true, s 1 0x58, s 3 0x525545, s 0 0, y 0 [(0, 1)], y 0 [(1, 1)], i 0, i 0, i 2, b false, b false, b false, i 3, i 4, y 0 [(0, 1)], y 0 [(1, 1)], i 4, s 1 0x50, s 2 0x4150, s 2 0x4250, s 1 0x51, b false, s 1 0x58, s 3 0x525545, s 0 0, y 0 [(0, 1)], y 0 [(1, 1)], i 0, i 0, i 1, b false, b false, b false, i 3, i 3, y 0 [(0, 1)], y 0 [(1, 1)]],
M 2871 [] [] 0] [7, 403] Or2l14
noncomputable def Or2l17 : List (Nat × B) := ov [C 2562 21 21 true [i 1, s 1 0x50, s 2 0x4150, s 2 0x4250, s 1 0x51, b true, s 1 0x58, s 3 0x525545, s 0 0, y 0 [(0, 1)], y 0 [(1, 1)], i 0, i 0, i 2, b false, b false, b false, i 3, i 2, y 0 [(0, 1)], y 0 [(1, 1)]]] [] Or2l15
noncomputable def Or2l18 : List (Nat × B) := ov [C 2910 21 21 true [i 1, s 1 0x50, s 2 0x4150, s 2 0x4250, s 1 0x51, b true, s 1 0x58, s 3 0x525545, s 0 0, y 0 [(0, 1)], y 0 [(1, 1)], i 0, i 0, i 2, b false, b false, b false, i 3, i 2, y 0 [(0, 1)], y 0 [(1, 1)]]] [] Or2l16
noncomputable def Or2l19 : List (Nat × B) := ov [C 2564 21 21 true [i 2, s 1 0x51, s 2 0x4151, s 2 0x4251, s 1 0x50, b false, s 1 0x58, s 3 0x525545, s 0 0, y 0 [(0, 1)], y 0 [(1, 1)], i 0, i 0, i 1, b false, b false, b false, i 3, i 1, y 0 [(0, 1)], y 0 [(1, 1)]]] [] Or2l17
noncomputable def Or2l20 : List (Nat × B) := ov [C 2912 21 21 true [i 2, s 1 0x51, s 2 0x4151, s 2 0x4251, s 1 0x50, b false, s 1 0x58, s 3 0x525545, s 0 0, y 0 [(0, 1)], y 0 [(1, 1)], i 0, i 0, i 1, b false, b false, b false, i 3, i 1, y 0 [(0, 1)], y 0 [(1, 1)]]] [] Or2l18
noncomputable def Or2l21 : List (Nat × B) := ov [C 2566 21 21 true [i 3, s 1 0x51, s 2 0x4151, s 2 0x4251, s 1 0x50, b true, s 1 0x58, s 3 0x525545, s 0 0, y 0 [(0, 1)], y 0 [(1, 1)], i 0, i 0, i 2, b false, b false, b false, i 3, i 4, y 0 [(0, 1)], y 0 [(1, 1)]]] [] Or2l19
noncomputable def Or2l22 : List (Nat × B) := ov [C 2914 21 21 true [i 3, s 1 0x51, s 2 0x4151, s 2 0x4251, s 1 0x50, b true, s 1 0x58, s 3 0x525545, s 0 0, y 0 [(0, 1)], y 0 [(1, 1)], i 0, i 0, i 2, b false, b false, b false, i 3, i 4, y 0 [(0, 1)], y 0 [(1, 1)]]] [] Or2l20
end Go.Proofs.YtjkphnlolfnaeaaGreat
