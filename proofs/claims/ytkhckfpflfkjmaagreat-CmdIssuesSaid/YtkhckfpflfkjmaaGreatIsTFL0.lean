/- complinelaw28.CmdIssues: states, part 0. -/
import Derived.Test.YtkhckfpflfkjmaaGreatIsHt
namespace Go.Proofs.YtkhckfpflfkjmaaGreat
open Go Gv Gv.Lt
noncomputable def IsTFl0 : List (Nat × B) := []
noncomputable def IsTFl1 : List (Nat × B) := [C 0 1 1 true [ns],
C 1 2 2 true [p 0 0, ns],
C 2 1 1 true [m 3],
M 3 [] [] 0,
C 6 4 4 true [p 2 0, m 139, m 153, m 184],
C 7 1 1 true [nm],
C 8 3 3 true [p 7 0, nm, nm],
C 9 1 1 true [ns],
C 10 1 1 true [nm],
C 11 6 6 true [p 6 0, p 8 0, p 9 0, p 1 0, p 10 0, i 0],
C 12 2 2 true [ns, ns],
C 15 4 4 true [ns, r 105 4 4, r 106 7 7, r 138 5 5],
C 16 4 4 true [ns, ns, ns, ns],
C 17 1 1 true [ns],
C 18 1 1 true [ns],
C 19 6 6 true [p 15 0, p 16 0, p 17 0, p 12 0, p 18 0, i 0],
C 105 8 2 false [s 4 0x4b4e4142, i 0, s 1 0x50, i 1000, s 1 0x51, i 100, s 1 0x52, i 0],
C 106 14 2 false [s 4 0x4b4e4142, s 4 0x4b4e4142, s 2 0x4150, s 1 0x50, s 2 0x4250, s 1 0x50, s 2 0x4151, s 1 0x51, s 2 0x4251, s 1 0x51, s 2 0x4152, s 1 0x52, s 2 0x4252, s 1 0x52],
C 138 40 8 false [s 3 0x525545, b true, b false, i 1, i 1, i 0, i 0, i 2, s 3 0x445355, b true, b false, i 1, i 1, i 0, i 0, i 0, s 1 0x58, b false, b true, i 1, i 1, i 10, i 1000, i 0, s 1 0x59, b false, b true, i 10, i 20, i 3, i 5000, i 0, s 1 0x5a, b false, b false, i 5, i 10, i 7, i 0, i 0],
M 139 [(s 4 0x4b4e4142, a [s 4 0x4b4e4142, i 0]), (s 1 0x50, a [s 1 0x50, i 1000]), (s 1 0x51, a [s 1 0x51, i 100]), (s 1 0x52, a [s 1 0x52, i 0])] [0, 1, 2, 3] 4,
M 153 [(s 4 0x4b4e4142, a [s 4 0x4b4e4142, s 4 0x4b4e4142]), (s 2 0x4150, a [s 2 0x4150, s 1 0x50]), (s 2 0x4250, a [s 2 0x4250, s 1 0x50]), (s 2 0x4151, a [s 2 0x4151, s 1 0x51]), (s 2 0x4251, a [s 2 0x4251, s 1 0x51]), (s 2 0x4152, a [s 2 0x4152, s 1 0x52]), (s 2 0x4252, a [s 2 0x4252, s 1 0x52])] [0, 1, 2, 3, 4, 5, 6] 7,
M 184 [(s 1 0x58, a [s 1 0x58, b false, b true, i 1, i 1, i 10, i 1000, i 0]), (s 1 0x59, a [s 1 0x59, b false, b true, i 10, i 20, i 3, i 5000, i 0]), (s 1 0x5a, a [s 1 0x5a, b false, b false, i 5, i 10, i 7, i 0, i 0]), (s 3 0x525545, a [s 3 0x525545, b true, b false, i 1, i 1, i 0, i 0, i 2]), (s 3 0x445355, a [s 3 0x445355, b true, b false, i 1, i 1, i 0, i 0, i 0])] [0, 1, 2, 3, 4] 5]
noncomputable def IsTFl2 : List (Nat × B) := ov [C 210 2 1 true [o 0, o 1],
C 211 1 1 true [y 0 [(0, 1)]],
C 212 4 4 true [i 7, s 4 0x4b4e4142, r 211 1 1, r 210 2 2]] [] IsTFl1
noncomputable def IsTFl3 : List (Nat × B) := ov [C 213 4 4 true [i 7, s 4 0x4b4e4142, r 211 1 1, r 210 2 2],
C 214 3 3 true [i 0, ns, ns],
C 215 4 4 true [i 7, s 4 0x4b4e4142, r 211 1 1, r 210 2 2],
M 216 [(i 1, a [i 1, i 1, i 1, i 0, ns]), (i 2, a [i 1, i 2, i 0, i 0, ns]), (i 3, a [i 1, i 1, i 7, i 0, r 217 2 2]), (i 4, a [i 1, i 0, i 0, i 1, ns]), (i 5, a [i 1, i 1, i 1, i 0, ns]), (i 6, a [i 1, i 1, i 1, i 0, ns]), (i 7, a [i 1, i 2, i 1, i 0, ns]), (i 8, a [i 1, i 2, i 1, i 0, r 218 1 1]), (i 9, a [i 2, i 6, i 8, i 0, r 219 3 3]), (i 10, a [i 2, i 0, i 1, i 1, r 220 1 1]), (i 11, a [i 2, i 0, i 1, i 0, ns]), (i 12, a [i 2, i 0, i 1, i 0, ns]), (i 13, a [i 2, i 0, i 2, i 0, ns]), (i 14, a [i 2, i 0, i 2, i 0, r 221 1 1]), (i 15, a [i 2, i 0, i 3, i 3, ns]), (i 16, a [i 1, i 0, i 0, i 0, ns]), (i 17, a [i 1, i 0, i 2, i 0, r 222 2 2]), (i 18, a [i 1, i 0, i 0, i 0, ns]), (i 19, a [i 1, i 0, i 0, i 0, ns]), (i 30, a [i 3, i 0, i 1, i 0, ns]), (i 31, a [i 3, i 2, i 0, i 0, ns]), (i 32, a [i 3, i 0, i 0, i 0, ns]), (i 33, a [i 2, i 0, i 0, i 0, ns]), (i 34, a [i 3, i 0, i 0, i 0, ns]), (i 35, a [i 3, i 0, i 1, i 0, ns]), (i 36, a [i 3, i 1, i 0, i 0, ns])] [0, 1, 2, 3, 4, 5, 6, 7, 8, 9, 10, 11, 12, 13, 14, 15, 16, 17, 18, 19, 20, 21, 22, 23, 24, 25] 26,
C 217 2 1 true [i 0, i 1],
C 218 1 1 true [i 0],
C 219 3 1 true [i 0, i 6, i 7],
C 220 1 1 true [i 0],
C 221 1 1 true [i 1],
C 222 2 1 true [i 0, i 1],
C 223 5 5 true [i 1, i 2, i 1, i 0, ns],
C 224 5 5 true [i 1, i 2, i 1, i 0, ns],
C 225 2 2 true [s 4 0x4b4e4142, i 0],
C 226 2 2 true [s 4 0x4b4e4142, i 0],
C 227 2 2 true [s 4 0x4b4e4142, i 0],
M 228 [(i 1, fn 142 [] []), (i 2, fn 143 [] []), (i 3, fn 144 [] []), (i 4, fn 145 [] []), (i 5, fn 146 [] []), (i 6, fn 147 [] []), (i 7, fn 148 [] []), (i 8, fn 149 [] []), (i 9, fn 150 [] []), (i 10, fn 151 [] []), (i 11, fn 152 [] []), (i 12, fn 153 [] []), (i 13, fn 154 [] []), (i 14, fn 155 [] []), (i 15, fn 156 [] []), (i 16, fn 157 [] []), (i 17, fn 158 [] []), (i 18, fn 159 [] []), (i 19, fn 160 [] []), (i 30, fn 161 [] []), (i 31, fn 162 [] []), (i 32, fn 163 [] []), (i 33, fn 164 [] []), (i 34, fn 165 [] []), (i 35, fn 166 [] []), (i 36, fn 167 [] [])] [0, 1, 2, 3, 4, 5, 6, 7, 8, 9, 10, 11, 12, 13, 14, 15, 16, 17, 18, 19, 20, 21, 22, 23, 24, 25] 26,
C 229 5 5 true [p 11 0, i 7, s 4 0x4b4e4142, r 211 1 1, r 210 2 2],
C 230 3 3 true [i 0, ns, ns],
C 231 5 5 true [p 11 0, i 7, s 4 0x4b4e4142, r 211 1 1, r 210 2 2],
C 232 2 2 true [s 0 0, s 0 0]] [] IsTFl2
noncomputable def IsTFl4 : List (Nat × B) := ov [C 235 2 2 true [o 10, o 11]] [] IsTFl3
noncomputable def IsTFl5 : List (Nat × B) := ov [C 212 4 4 true [i 7, s 4 0x4b4e4142, r 242 1 1, r 210 2 2],
C 241 3 3 true [i 7, ns, ns],
C 242 1 1 true [y 0 [(1, 1)]]] [212] IsTFl2
noncomputable def IsTFl6 : List (Nat × B) := ov [C 243 4 4 true [i 7, s 4 0x4b4e4142, r 242 1 1, r 210 2 2],
C 244 3 3 true [i 0, ns, ns],
C 245 4 4 true [i 7, s 4 0x4b4e4142, r 242 1 1, r 210 2 2],
M 246 [(i 1, a [i 1, i 1, i 1, i 0, ns]), (i 2, a [i 1, i 2, i 0, i 0, ns]), (i 3, a [i 1, i 1, i 7, i 0, r 247 2 2]), (i 4, a [i 1, i 0, i 0, i 1, ns]), (i 5, a [i 1, i 1, i 1, i 0, ns]), (i 6, a [i 1, i 1, i 1, i 0, ns]), (i 7, a [i 1, i 2, i 1, i 0, ns]), (i 8, a [i 1, i 2, i 1, i 0, r 248 1 1]), (i 9, a [i 2, i 6, i 8, i 0, r 249 3 3]), (i 10, a [i 2, i 0, i 1, i 1, r 250 1 1]), (i 11, a [i 2, i 0, i 1, i 0, ns]), (i 12, a [i 2, i 0, i 1, i 0, ns]), (i 13, a [i 2, i 0, i 2, i 0, ns]), (i 14, a [i 2, i 0, i 2, i 0, r 251 1 1]), (i 15, a [i 2, i 0, i 3, i 3, ns]), (i 16, a [i 1, i 0, i 0, i 0, ns]), (i 17, a [i 1, i 0, i 2, i 0, r 252 2 2]), (i 18, a [i 1, i 0, i 0, i 0, ns]), (i 19, a [i 1, i 0, i 0, i 0, ns]), (i 30, a [i 3, i 0, i 1, i 0, ns]), (i 31, a [i 3, i 2, i 0, i 0, ns]), (i 32, a [i 3, i 0, i 0, i 0, ns]), (i 33, a [i 2, i 0, i 0, i 0, ns]), (i 34, a [i 3, i 0, i 0, i 0, ns]), (i 35, a [i 3, i 0, i 1, i 0, ns]), (i 36, a [i 3, i 1, i 0, i 0, ns])] [0, 1, 2, 3, 4, 5, 6, 7, 8, 9, 10, 11, 12, 13, 14, 15, 16, 17, 18, 19, 20, 21, 22, 23, 24, 25] 26,
C 247 2 1 true [i 0, i 1],
C 248 1 1 true [i 0],
C 249 3 1 true [i 0, i 6, i 7],
C 250 1 1 true [i 0],
C 251 1 1 true [i 1],
C 252 2 1 true [i 0, i 1],
C 253 5 5 true [i 1, i 2, i 1, i 0, ns],
C 254 5 5 true [i 1, i 2, i 1, i 0, ns],
C 255 2 2 true [s 4 0x4b4e4142, i 0],
C 256 2 2 true [s 4 0x4b4e4142, i 0],
C 257 2 2 true [s 4 0x4b4e4142, i 0],
M 258 [(i 1, fn 142 [] []), (i 2, fn 143 [] []), (i 3, fn 144 [] []), (i 4, fn 145 [] []), (i 5, fn 146 [] []), (i 6, fn 147 [] []), (i 7, fn 148 [] []), (i 8, fn 149 [] []), (i 9, fn 150 [] []), (i 10, fn 151 [] []), (i 11, fn 152 [] []), (i 12, fn 153 [] []), (i 13, fn 154 [] []), (i 14, fn 155 [] []), (i 15, fn 156 [] []), (i 16, fn 157 [] []), (i 17, fn 158 [] []), (i 18, fn 159 [] []), (i 19, fn 160 [] []), (i 30, fn 161 [] []), (i 31, fn 162 [] []), (i 32, fn 163 [] []), (i 33, fn 164 [] []), (i 34, fn 165 [] []), (i 35, fn 166 [] []), (i 36, fn 167 [] [])] [0, 1, 2, 3, 4, 5, 6, 7, 8, 9, 10, 11, 12, 13, 14, 15, 16, 17, 18, 19, 20, 21, 22, 23, 24, 25] 26,
C 259 5 5 true [p 11 0, i 7, s 4 0x4b4e4142, r 242 1 1, r 210 2 2],
C 260 3 3 true [i 0, ns, ns],
C 261 5 5 true [p 11 0, i 7, s 4 0x4b4e4142, r 242 1 1, r 210 2 2],
C 262 2 2 true [s 0 0, s 0 0]] [] IsTFl5
noncomputable def IsTFl7 : List (Nat × B) := ov [C 265 2 2 true [o 10, o 11]] [] IsTFl6
noncomputable def IsTFl8 : List (Nat × B) := ov [C 271 3 3 true [i 7, ns, ns],
C 272 2 1 true [o 0, o 1]] [] IsTFl5
noncomputable def IsTFl9 : List (Nat × B) := ov [C 302 3 1 true [i 0, i 0, i 0]] [] IsTFl8
noncomputable def IsTFl10 : List (Nat × B) := ov [C 303 3 3 true [i 0, r 302 3 3, ns]] [] IsTFl9
noncomputable def IsTFl11 : List (Nat × B) := ov [C 305 2 2 true [o 10, o 11]] [] IsTFl10
end Go.Proofs.YtkhckfpflfkjmaaGreat
