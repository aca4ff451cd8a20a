/- complinelaw28.CmdIssues: states, part 0. -/
import Derived.Test.YtkhckfpflfkjmaaGreatIsHt
namespace Go.Proofs.YtkhckfpflfkjmaaGreat
open Go Gv Gv.Lt
noncomputable def IsTTl0 : List (Nat × B) := []
noncomputable def IsTTl1 : List (Nat × B) := [C 0 1 1 true [ns],
C 1 2 2 true [p 0 0, ns],
C 2 1 1 true [m 3],
M 3 [] [] 0,
C 6 4 4 true [p 2 0, m 139, m 153, m 184],
C 7 1 1 true [nm],
C 8 3 3 true [p 7 0, nm, nm],
C 9 1 1 true [ns],
C 10 1 1 true [nm],
C 11 6 6 true [p 6 0, p 8 0, p 9 0, p 1 0, p 10 0, i 0],
C 12 2 2 true [ns, ns],
C 15 4 4 true [ns, r 105 4 4, r 106 7 7, r 138 5 5],
C 16 4 4 true [ns, ns, ns, ns],
C 17 1 1 true [ns],
C 18 1 1 true [ns],
C 19 6 6 true [p 15 0, p 16 0, p 17 0, p 12 0, p 18 0, i 0],
C 105 8 2 false [s 4 0x4b4e4142, i 0, s 1 0x50, i 1000, s 1 0x51, i 100, s 1 0x52, i 0],
C 106 14 2 false [s 4 0x4b4e4142, s 4 0x4b4e4142, s 2 0x4150, s 1 0x50, s 2 0x4250, s 1 0x50, s 2 0x4151, s 1 0x51, s 2 0x4251, s 1 0x51, s 2 0x4152, s 1 0x52, s 2 0x4252, s 1 0x52],
C 138 40 8 false [s 3 0x525545, b true, b false, i 1, i 1, i 0, i 0, i 2, s 3 0x445355, b true, b false, i 1, i 1, i 0, i 0, i 0, s 1 0x58, b false, b true, i 1, i 1, i 10, i 1000, i 0, s 1 0x59, b false, b true, i 10, i 20, i 3, i 5000, i 0, s 1 0x5a, b false, b false, i 5, i 10, i 7, i 0, i 0],
M 139 [(s 4 0x4b4e4142, a [s 4 0x4b4e4142, i 0]), (s 1 0x50, a [s 1 0x50, i 1000]), (s 1 0x51, a [s 1 0x51, i 100]), (s 1 0x52, a [s 1 0x52, i 0])] [0, 1, 2, 3] 4,
M 153 [(s 4 0x4b4e4142, a [s 4 0x4b4e4142, s 4 0x4b4e4142]), (s 2 0x4150, a [s 2 0x4150, s 1 0x50]), (s 2 0x4250, a [s 2 0x4250, s 1 0x50]), (s 2 0x4151, a [s 2 0x4151, s 1 0x51]), (s 2 0x4251, a [s 2 0x4251, s 1 0x51]), (s 2 0x4152, a [s 2 0x4152, s 1 0x52]), (s 2 0x4252, a [s 2 0x4252, s 1 0x52])] [0, 1, 2, 3, 4, 5, 6] 7,
M 184 [(s 1 0x58, a [s 1 0x58, b false, b true, i 1, i 1, i 10, i 1000, i 0]), (s 1 0x59, a [s 1 0x59, b false, b true, i 10, i 20, i 3, i 5000, i 0]), (s 1 0x5a, a [s 1 0x5a, b false, b false, i 5, i 10, i 7, i 0, i 0]), (s 3 0x525545, a [s 3 0x525545, b true, b false, i 1, i 1, i 0, i 0, i 2]), (s 3 0x445355, a [s 3 0x445355, b true, b false, i 1, i 1, i 0, i 0, i 0])] [0, 1, 2, 3, 4] 5]
noncomputable def IsTTl2 : List (Nat × B) := ov [C 210 2 1 true [o 0, o 1],
C 211 1 1 true [y 0 [(0, 1)]],
C 212 4 4 true [i 7, s 4 0x4b4e4142, r 211 1 1, r 210 2 2]] [] IsTTl1
noncomputable def IsTTl3 : List (Nat × B) := ov [C 213 4 4 true [i 7, s 4 0x4b4e4142, r 211 1 1, r 210 2 2],
C 214 3 3 true [i 0, ns, ns],
C 215 4 4 true [i 7, s 4 0x4b4e4142, r 211 1 1, r 210 2 2],
M 216 [(i 1, a [i 1, i 1, i 1, i 0, ns]), (i 2, a [i 1, i 2, i 0, i 0, ns]), (i 3, a [i 1, i 1, i 7, i 0, r 217 2 2]), (i 4, a [i 1, i 0, i 0, i 1, ns]), (i 5, a [i 1, i 1, i 1, i 0, ns]), (i 6, a [i 1, i 1, i 1, i 0, ns]), (i 7, a [i 1, i 2, i 1, i 0, ns]), (i 8, a [i 1, i 2, i 1, i 0, r 218 1 1]), (i 9, a [i 2, i 6, i 8, i 0, r 219 3 3]), (i 10, a [i 2, i 0, i 1, i 1, r 220 1 1]), (i 11, a [i 2, i 0, i 1, i 0, ns]), (i 12, a [i 2, i 0, i 1, i 0, ns]), (i 13, a [i 2, i 0, i 2, i 0, ns]), (i 14, a [i 2, i 0, i 2, i 0, r 221 1 1]), (i 15, a [i 2, i 0, i 3, i 3, ns]), (i 16, a [i 1, i 0, i 0, i 0, ns]), (i 17, a [i 1, i 0, i 2, i 0, r 222 2 2]), (i 18, a [i 1, i 0, i 0, i 0, ns]), (i 19, a [i 1, i 0, i 0, i 0, ns]), (i 30, a [i 3, i 0, i 1, i 0, ns]), (i 31, a [i 3, i 2, i 0, i 0, ns]), (i 32, a [i 3, i 0, i 0, i 0, ns]), (i 33, a [i 2, i 0, i 0, i 0, ns]), (i 34, a [i 3, i 0, i 0, i 0, ns]), (i 35, a [i 3, i 0, i 1, i 0, ns]), (i 36, a [i 3, i 1, i 0, i 0, ns])] [0, 1, 2, 3, 4, 5, 6, 7, 8, 9, 10, 11, 12, 13, 14, 15, 16, 17, 18, 19, 20, 21, 22, 23, 24, 25] 26,
C 217 2 1 true [i 0, i 1],
C 218 1 1 true [i 0],
C 219 3 1 true [i 0, i 6, i 7],
C 220 1 1 true [i 0],
C 221 1 1 true [i 1],
C 222 2 1 true [i 0, i 1],
C 223 5 5 true [i 1, i 2, i 1, i 0, ns],
C 224 5 5 true [i 1, i 2, i 1, i 0, ns],
C 225 2 2 true [s 4 0x4b4e4142, i 0],
C 226 2 2 true [s 4 0x4b4e4142, i 0],
C 227 2 2 true [s 4 0x4b4e4142, i 0],
M 228 [(i 1, fn 142 [] []), (i 2, fn 143 [] []), (i 3, fn 144 [] []), (i 4, fn 145 [] []), (i 5, fn 146 [] []), (i 6, fn 147 [] []), (i 7, fn 148 [] []), (i 8, fn 149 [] []), (i 9, fn 150 [] []), (i 10, fn 151 [] []), (i 11, fn 152 [] []), (i 12, fn 153 [] []), (i 13, fn 154 [] []), (i 14, fn 155 [] []), (i 15, fn 156 [] []), (i 16, fn 157 [] []), (i 17, fn 158 [] []), (i 18, fn 159 [] []), (i 19, fn 160 [] []), (i 30, fn 161 [] []), (i 31, fn 162 [] []), (i 32, fn 163 [] []), (i 33, fn 164 [] []), (i 34, fn 165 [] []), (i 35, fn 166 [] []), (i 36, fn 167 [] [])] [0, 1, 2, 3, 4, 5, 6, 7, 8, 9, 10, 11, 12, 13, 14, 15, 16, 17, 18, 19, 20, 21, 22, 23, 24, 25] 26,
C 229 5 5 true [p 11 0, i 7, s 4 0x4b4e4142, r 211 1 1, r 210 2 2],
C 230 3 3 true [i 0, ns, ns],
C 231 5 5 true [p 11 0, i 7, s 4 0x4b4e4142, r 211 1 1, r 210 2 2],
C 232 2 2 true [s 0 0, s 0 0]] [] IsTTl2
noncomputable def IsTTl4 : List (Nat × B) := ov [C 235 2 2 true [o 10, o 11]] [] IsTTl3
noncomputable def IsTTl5 : List (Nat × B) := ov [C 7 1 1 true [m 245],
C 8 3 3 true [p 7 0, m 246, nm],
M 245 [(a [o 0, o 1], a [y 0 [(0, 1)], i 0, i 0])] [0] 1,
M 246 [(o 1, y 0 [(0, 1)])] [0] 1] [7, 8] IsTTl2
noncomputable def IsTTl6 : List (Nat × B) := ov [C 7 1 1 true [m 245],
C 8 3 3 true [p 7 0, m 246, nm],
M 245 [] [] 0,
M 246 [(o 1, y 0 [(0, 1)])] [0] 1] [7, 8] IsTTl2
noncomputable def IsTTl7 : List (Nat × B) := ov [C 212 4 4 true [i 7, s 4 0x4b4e4142, r 243 1 1, r 210 2 2],
C 242 3 3 true [i 1, ns, ns],
C 243 1 1 true [y 0 [(1, 1)]]] [212] IsTTl2
noncomputable def IsTTl8 : List (Nat × B) := ov [C 212 4 4 true [i 7, s 4 0x4b4e4142, r 249 1 1, r 210 2 2],
C 248 3 3 true [i 0, ns, ns],
C 249 1 1 true [y 0 [(1, 1)]]] [212] IsTTl5
noncomputable def IsTTl9 : List (Nat × B) := ov [C 212 4 4 true [i 7, s 4 0x4b4e4142, r 249 1 1, r 210 2 2],
C 248 3 3 true [i 0, ns, ns],
C 249 1 1 true [y 0 [(1, 1)]]] [212] IsTTl6
noncomputable def IsTTl10 : List (Nat × B) := ov [C 212 4 4 true [i 7, s 4 0x4b4e4142, r 249 1 1, r 210 2 2],
C 248 3 3 true [i 30, ns, ns],
C 249 1 1 true [y 0 [(1, 1)]]] [212] IsTTl2
noncomputable def IsTTl11 : List (Nat × B) := ov [C 244 4 4 true [i 7, s 4 0x4b4e4142, r 243 1 1, r 210 2 2],
C 245 3 3 true [i 0, ns, ns],
C 246 4 4 true [i 7, s 4 0x4b4e4142, r 243 1 1, r 210 2 2],
M 247 [(i 1, a [i 1, i 1, i 1, i 0, ns]), (i 2, a [i 1, i 2, i 0, i 0, ns]), (i 3, a [i 1, i 1, i 7, i 0, r 248 2 2]), (i 4, a [i 1, i 0, i 0, i 1, ns]), (i 5, a [i 1, i 1, i 1, i 0, ns]), (i 6, a [i 1, i 1, i 1, i 0, ns]), (i 7, a [i 1, i 2, i 1, i 0, ns]), (i 8, a [i 1, i 2, i 1, i 0, r 249 1 1]), (i 9, a [i 2, i 6, i 8, i 0, r 250 3 3]), (i 10, a [i 2, i 0, i 1, i 1, r 251 1 1]), (i 11, a [i 2, i 0, i 1, i 0, ns]), (i 12, a [i 2, i 0, i 1, i 0, ns]), (i 13, a [i 2, i 0, i 2, i 0, ns]), (i 14, a [i 2, i 0, i 2, i 0, r 252 1 1]), (i 15, a [i 2, i 0, i 3, i 3, ns]), (i 16, a [i 1, i 0, i 0, i 0, ns]), (i 17, a [i 1, i 0, i 2, i 0, r 253 2 2]), (i 18, a [i 1, i 0, i 0, i 0, ns]), (i 19, a [i 1, i 0, i 0, i 0, ns]), (i 30, a [i 3, i 0, i 1, i 0, ns]), (i 31, a [i 3, i 2, i 0, i 0, ns]), (i 32, a [i 3, i 0, i 0, i 0, ns]), (i 33, a [i 2, i 0, i 0, i 0, ns]), (i 34, a [i 3, i 0, i 0, i 0, ns]), (i 35, a [i 3, i 0, i 1, i 0, ns]), (i 36, a [i 3, i 1, i 0, i 0, ns])] [0, 1, 2, 3, 4, 5, 6, 7, 8, 9, 10, 11, 12, 13, 14, 15, 16, 17, 18, 19, 20, 21, 22, 23, 24, 25] 26,
C 248 2 1 true [i 0, i 1],
C 249 1 1 true [i 0],
C 250 3 1 true [i 0, i 6, i 7],
C 251 1 1 true [i 0],
C 252 1 1 true [i 1],
C 253 2 1 true [i 0, i 1],
C 254 5 5 true [i 1, i 2, i 1, i 0, ns],
C 255 5 5 true [i 1, i 2, i 1, i 0, ns],
C 256 2 2 true [s 4 0x4b4e4142, i 0],
C 257 2 2 true [s 4 0x4b4e4142, i 0],
C 258 2 2 true [s 4 0x4b4e4142, i 0],
M 259 [(i 1, fn 142 [] []), (i 2, fn 143 [] []), (i 3, fn 144 [] []), (i 4, fn 145 [] []), (i 5, fn 146 [] []), (i 6, fn 147 [] []), (i 7, fn 148 [] []), (i 8, fn 149 [] []), (i 9, fn 150 [] []), (i 10, fn 151 [] []), (i 11, fn 152 [] []), (i 12, fn 153 [] []), (i 13, fn 154 [] []), (i 14, fn 155 [] []), (i 15, fn 156 [] []), (i 16, fn 157 [] []), (i 17, fn 158 [] []), (i 18, fn 159 [] []), (i 19, fn 160 [] []), (i 30, fn 161 [] []), (i 31, fn 162 [] []), (i 32, fn 163 [] []), (i 33, fn 164 [] []), (i 34, fn 165 [] []), (i 35, fn 166 [] []), (i 36, fn 167 [] [])] [0, 1, 2, 3, 4, 5, 6, 7, 8, 9, 10, 11, 12, 13, 14, 15, 16, 17, 18, 19, 20, 21, 22, 23, 24, 25] 26,
C 260 5 5 true [p 11 0, i 7, s 4 0x4b4e4142, r 243 1 1, r 210 2 2],
C 261 3 3 true [i 0, ns, ns],
C 262 5 5 true [p 11 0, i 7, s 4 0x4b4e4142, r 243 1 1, r 210 2 2],
C 263 2 2 true [s 0 0, s 0 0]] [] IsTTl7
noncomputable def IsTTl12 : List (Nat × B) := ov [C 250 4 4 true [i 7, s 4 0x4b4e4142, r 249 1 1, r 210 2 2],
C 251 3 3 true [i 0, ns, ns],
C 252 4 4 true [i 7, s 4 0x4b4e4142, r 249 1 1, r 210 2 2],
M 253 [(i 1, a [i 1, i 1, i 1, i 0, ns]), (i 2, a [i 1, i 2, i 0, i 0, ns]), (i 3, a [i 1, i 1, i 7, i 0, r 254 2 2]), (i 4, a [i 1, i 0, i 0, i 1, ns]), (i 5, a [i 1, i 1, i 1, i 0, ns]), (i 6, a [i 1, i 1, i 1, i 0, ns]), (i 7, a [i 1, i 2, i 1, i 0, ns]), (i 8, a [i 1, i 2, i 1, i 0, r 255 1 1]), (i 9, a [i 2, i 6, i 8, i 0, r 256 3 3]), (i 10, a [i 2, i 0, i 1, i 1, r 257 1 1]), (i 11, a [i 2, i 0, i 1, i 0, ns]), (i 12, a [i 2, i 0, i 1, i 0, ns]), (i 13, a [i 2, i 0, i 2, i 0, ns]), (i 14, a [i 2, i 0, i 2, i 0, r 258 1 1]), (i 15, a [i 2, i 0, i 3, i 3, ns]), (i 16, a [i 1, i 0, i 0, i 0, ns]), (i 17, a [i 1, i 0, i 2, i 0, r 259 2 2]), (i 18, a [i 1, i 0, i 0, i 0, ns]), (i 19, a [i 1, i 0, i 0, i 0, ns]), (i 30, a [i 3, i 0, i 1, i 0, ns]), (i 31, a [i 3, i 2, i 0, i 0, ns]), (i 32, a [i 3, i 0, i 0, i 0, ns]), (i 33, a [i 2, i 0, i 0, i 0, ns]), (i 34, a [i 3, i 0, i 0, i 0, ns]), (i 35, a [i 3, i 0, i 1, i 0, ns]), (i 36, a [i 3, i 1, i 0, i 0, ns])] [0, 1, 2, 3, 4, 5, 6, 7, 8, 9, 10, 11, 12, 13, 14, 15, 16, 17, 18, 19, 20, 21, 22, 23, 24, 25] 26,
C 254 2 1 true [i 0, i 1],
C 255 1 1 true [i 0],
C 256 3 1 true [i 0, i 6, i 7],
C 257 1 1 true [i 0],
C 258 1 1 true [i 1],
C 259 2 1 true [i 0, i 1],
C 260 5 5 true [i 1, i 2, i 1, i 0, ns],
C 261 5 5 true [i 1, i 2, i 1, i 0, ns],
C 262 2 2 true [s 4 0x4b4e4142, i 0],
C 263 2 2 true [s 4 0x4b4e4142, i 0],
C 264 2 2 true [s 4 0x4b4e4142, i 0],
M 265 [(i 1, fn 142 [] []), (i 2, fn 143 [] []), (i 3, fn 144 [] []), (i 4, fn 145 [] []), (i 5, fn 146 [] []), (i 6, fn 147 [] []), (i 7, fn 148 [] []), (i 8, fn 149 [] []), (i 9, fn 150 [] []), (i 10, fn 151 [] []), (i 11, fn 152 [] []), (i 12, fn 153 [] []), (i 13, fn 154 [] []), (i 14, fn 155 [] []), (i 15, fn 156 [] []), (i 16, fn 157 [] []), (i 17, fn 158 [] []), (i 18, fn 159 [] []), (i 19, fn 160 [] []), (i 30, fn 161 [] []), (i 31, fn 162 [] []), (i 32, fn 163 [] []), (i 33, fn 164 [] []), (i 34, fn 165 [] []), (i 35, fn 166 [] []), (i 36, fn 167 [] [])] [0, 1, 2, 3, 4, 5, 6, 7, 8, 9, 10, 11, 12, 13, 14, 15, 16, 17, 18, 19, 20, 21, 22, 23, 24, 25] 26,
C 266 5 5 true [p 11 0, i 7, s 4 0x4b4e4142, r 249 1 1, r 210 2 2],
C 267 3 3 true [i 0, ns, ns],
C 268 5 5 true [p 11 0, i 7, s 4 0x4b4e4142, r 249 1 1, r 210 2 2],
C 269 2 2 true [s 0 0, s 0 0]] [] IsTTl9
noncomputable def IsTTl13 : List (Nat × B) := ov [C 250 4 4 true [i 7, s 4 0x4b4e4142, r 249 1 1, r 210 2 2],
C 251 3 3 true [i 0, ns, ns],
C 252 4 4 true [i 7, s 4 0x4b4e4142, r 249 1 1, r 210 2 2],
M 253 [(i 1, a [i 1, i 1, i 1, i 0, ns]), (i 2, a [i 1, i 2, i 0, i 0, ns]), (i 3, a [i 1, i 1, i 7, i 0, r 254 2 2]), (i 4, a [i 1, i 0, i 0, i 1, ns]), (i 5, a [i 1, i 1, i 1, i 0, ns]), (i 6, a [i 1, i 1, i 1, i 0, ns]), (i 7, a [i 1, i 2, i 1, i 0, ns]), (i 8, a [i 1, i 2, i 1, i 0, r 255 1 1]), (i 9, a [i 2, i 6, i 8, i 0, r 256 3 3]), (i 10, a [i 2, i 0, i 1, i 1, r 257 1 1]), (i 11, a [i 2, i 0, i 1, i 0, ns]), (i 12, a [i 2, i 0, i 1, i 0, ns]), (i 13, a [i 2, i 0, i 2, i 0, ns]), (i 14, a [i 2, i 0, i 2, i 0, r 258 1 1]), (i 15, a [i 2, i 0, i 3, i 3, ns]), (i 16, a [i 1, i 0, i 0, i 0, ns]), (i 17, a [i 1, i 0, i 2, i 0, r 259 2 2]), (i 18, a [i 1, i 0, i 0, i 0, ns]), (i 19, a [i 1, i 0, i 0, i 0, ns]), (i 30, a [i 3, i 0, i 1, i 0, ns]), (i 31, a [i 3, i 2, i 0, i 0, ns]), (i 32, a [i 3, i 0, i 0, i 0, ns]), (i 33, a [i 2, i 0, i 0, i 0, ns]), (i 34, a [i 3, i 0, i 0, i 0, ns]), (i 35, a [i 3, i 0, i 1, i 0, ns]), (i 36, a [i 3, i 1, i 0, i 0, ns])] [0, 1, 2, 3, 4, 5, 6, 7, 8, 9, 10, 11, 12, 13, 14, 15, 16, 17, 18, 19, 20, 21, 22, 23, 24, 25] 26,
C 254 2 1 true [i 0, i 1],
C 255 1 1 true [i 0],
C 256 3 1 true [i 0, i 6, i 7],
C 257 1 1 true [i 0],
C 258 1 1 true [i 1],
C 259 2 1 true [i 0, i 1],
C 260 5 5 true [i 1, i 2, i 1, i 0, ns],
C 261 5 5 true [i 1, i 2, i 1, i 0, ns],
C 262 2 2 true [s 4 0x4b4e4142, i 0],
C 263 2 2 true [s 4 0x4b4e4142, i 0],
C 264 2 2 true [s 4 0x4b4e4142, i 0],
M 265 [(i 1, fn 142 [] []), (i 2, fn 143 [] []), (i 3, fn 144 [] []), (i 4, fn 145 [] []), (i 5, fn 146 [] []), (i 6, fn 147 [] []), (i 7, fn 148 [] []), (i 8, fn 149 [] []), (i 9, fn 150 [] []), (i 10, fn 151 [] []), (i 11, fn 152 [] []), (i 12, fn 153 [] []), (i 13, fn 154 [] []), (i 14, fn 155 [] []), (i 15, fn 156 [] []), (i 16, fn 157 [] []), (i 17, fn 158 [] []), (i 18, fn 159 [] []), (i 19, fn 160 [] []), (i 30, fn 161 [] []), (i 31, fn 162 [] []), (i 32, fn 163 [] []), (i 33, fn 164 [] []), (i 34, fn 165 [] []), (i 35, fn 166 [] []), (i 36, fn 167 [] [])] [0, 1, 2, 3, 4, 5, 6, 7, 8, 9, 10, 11, 12, 13, 14, 15, 16, 17, 18, 19, 20, 21, 22, 23, 24, 25] 26,
C 266 5 5 true [p 11 0, i 7, s 4 0x4b4e4142, r 249 1 1, r 210 2 2],
C 267 3 3 true [i 0, ns, ns],
C 268 5 5 true [p 11 0, i 7, s 4 0x4b4e4142, r 249 1 1, r 210 2 2],
C 269 2 2 true [s 0 0, s 0 0]] [] IsTTl10
noncomputable def IsTTl14 : List (Nat × B) := ov [C 250 4 4 true [i 7, s 4 0x4b4e4142, r 249 1 1, r 210 2 2],
C 251 3 3 true [i 0, ns, ns],
C 252 4 4 true [i 7, s 4 0x4b4e4142, r 249 1 1, r 210 2 2],
M 253 [(i 1, a [i 1, i 1, i 1, i 0, ns]), (i 2, a [i 1, i 2, i 0, i 0, ns]), (i 3, a [i 1, i 1, i 7, i 0, r 254 2 2]), (i 4, a [i 1, i 0, i 0, i 1, ns]), (i 5, a [i 1, i 1, i 1, i 0, ns]), (i 6, a [i 1, i 1, i 1, i 0, ns]), (i 7, a [i 1, i 2, i 1, i 0, ns]), (i 8, a [i 1, i 2, i 1, i 0, r 255 1 1]), (i 9, a [i 2, i 6, i 8, i 0, r 256 3 3]), (i 10, a [i 2, i 0, i 1, i 1, r 257 1 1]), (i 11, a [i 2, i 0, i 1, i 0, ns]), (i 12, a [i 2, i 0, i 1, i 0, ns]), (i 13, a [i 2, i 0, i 2, i 0, ns]), (i 14, a [i 2, i 0, i 2, i 0, r 258 1 1]), (i 15, a [i 2, i 0, i 3, i 3, ns]), (i 16, a [i 1, i 0, i 0, i 0, ns]), (i 17, a [i 1, i 0, i 2, i 0, r 259 2 2]), (i 18, a [i 1, i 0, i 0, i 0, ns]), (i 19, a [i 1, i 0, i 0, i 0, ns]), (i 30, a [i 3, i 0, i 1, i 0, ns]), (i 31, a [i 3, i 2, i 0, i 0, ns]), (i 32, a [i 3, i 0, i 0, i 0, ns]), (i 33, a [i 2, i 0, i 0, i 0, ns]), (i 34, a [i 3, i 0, i 0, i 0, ns]), (i 35, a [i 3, i 0, i 1, i 0, ns]), (i 36, a [i 3, i 1, i 0, i 0, ns])] [0, 1, 2, 3, 4, 5, 6, 7, 8, 9, 10, 11, 12, 13, 14, 15, 16, 17, 18, 19, 20, 21, 22, 23, 24, 25] 26,
C 254 2 1 true [i 0, i 1],
C 255 1 1 true [i 0],
C 256 3 1 true [i 0, i 6, i 7],
C 257 1 1 true [i 0],
C 258 1 1 true [i 1],
C 259 2 1 true [i 0, i 1],
C 260 5 5 true [i 1, i 2, i 1, i 0, ns],
C 261 5 5 true [i 1, i 2, i 1, i 0, ns],
C 262 2 2 true [s 4 0x4b4e4142, i 0],
C 263 2 2 true [s 4 0x4b4e4142, i 0],
C 264 2 2 true [s 4 0x4b4e4142, i 0],
M 265 [(i 1, fn 142 [] []), (i 2, fn 143 [] []), (i 3, fn 144 [] []), (i 4, fn 145 [] []), (i 5, fn 146 [] []), (i 6, fn 147 [] []), (i 7, fn 148 [] []), (i 8, fn 149 [] []), (i 9, fn 150 [] []), (i 10, fn 151 [] []), (i 11, fn 152 [] []), (i 12, fn 153 [] []), (i 13, fn 154 [] []), (i 14, fn 155 [] []), (i 15, fn 156 [] []), (i 16, fn 157 [] []), (i 17, fn 158 [] []), (i 18, fn 159 [] []), (i 19, fn 160 [] []), (i 30, fn 161 [] []), (i 31, fn 162 [] []), (i 32, fn 163 [] []), (i 33, fn 164 [] []), (i 34, fn 165 [] []), (i 35, fn 166 [] []), (i 36, fn 167 [] [])] [0, 1, 2, 3, 4, 5, 6, 7, 8, 9, 10, 11, 12, 13, 14, 15, 16, 17, 18, 19, 20, 21, 22, 23, 24, 25] 26,
C 266 5 5 true [p 11 0, i 7, s 4 0x4b4e4142, r 249 1 1, r 210 2 2],
C 267 3 3 true [i 0, ns, ns],
C 268 5 5 true [p 11 0, i 7, s 4 0x4b4e4142, r 249 1 1, r 210 2 2],
C 269 2 2 true [s 0 0, s 0 0]] [] IsTTl8
noncomputable def IsTTl15 : List (Nat × B) := ov [C 266 2 2 true [o 10, o 11]] [] IsTTl11
noncomputable def IsTTl16 : List (Nat × B) := ov [C 7 1 1 true [m 276],
C 8 3 3 true [p 7 0, m 277, nm],
M 276 [(a [o 0, o 1], a [y 0 [(1, 1)], i 0, i 0])] [0] 1,
M 277 [(o 1, y 0 [(1, 1)])] [0] 1] [7, 8] IsTTl7
noncomputable def IsTTl17 : List (Nat × B) := ov [C 7 1 1 true [m 276],
C 8 3 3 true [p 7 0, m 277, nm],
M 276 [] [] 0,
M 277 [(o 1, y 0 [(1, 1)])] [0] 1] [7, 8] IsTTl7
noncomputable def IsTTl18 : List (Nat × B) := ov [C 273 3 3 true [i 1, ns, ns],
C 274 2 1 true [o 0, o 1]] [] IsTTl7
noncomputable def IsTTl19 : List (Nat × B) := ov [C 279 3 3 true [i 30, ns, ns],
C 280 2 1 true [o 0, o 1]] [] IsTTl7
noncomputable def IsTTl20 : List (Nat × B) := ov [C 279 3 3 true [i 0, ns, ns],
C 280 2 1 true [o 0, o 1]] [] IsTTl17
noncomputable def IsTTl21 : List (Nat × B) := ov [C 279 3 3 true [i 0, ns, ns],
C 280 2 1 true [o 0, o 1]] [] IsTTl16
noncomputable def IsTTl22 : List (Nat × B) := ov [C 304 3 1 true [i 0, i 0, i 0]] [] IsTTl18
noncomputable def IsTTl23 : List (Nat × B) := ov [C 310 3 1 true [i 0, i 0, i 0]] [] IsTTl19
noncomputable def IsTTl24 : List (Nat × B) := ov [C 310 3 1 true [i 0, i 0, i 0]] [] IsTTl20
noncomputable def IsTTl25 : List (Nat × B) := ov [C 310 3 1 true [y 0 [(1, 1)], i 0, i 0]] [] IsTTl21
noncomputable def IsTTl26 : List (Nat × B) := ov [C 305 3 3 true [i 0, r 304 3 3, ns]] [] IsTTl22
noncomputable def IsTTl27 : List (Nat × B) := ov [C 311 3 3 true [i 0, r 310 3 3, ns]] [] IsTTl23
noncomputable def IsTTl28 : List (Nat × B) := ov [C 272 2 2 true [o 10, o 11]] [] IsTTl12
noncomputable def IsTTl29 : List (Nat × B) := ov [C 311 3 3 true [i 0, r 310 3 3, ns]] [] IsTTl24
noncomputable def IsTTl30 : List (Nat × B) := ov [C 311 3 3 true [i 0, r 310 3 3, ns]] [] IsTTl25
noncomputable def IsTTl31 : List (Nat × B) := ov [C 272 2 2 true [o 10, o 11]] [] IsTTl13
noncomputable def IsTTl32 : List (Nat × B) := ov [C 272 2 2 true [o 10, o 11]] [] IsTTl14
noncomputable def IsTTl33 : List (Nat × B) := ov [C 307 2 2 true [o 10, o 11]] [] IsTTl26
noncomputable def IsTTl34 : List (Nat × B) := ov [C 313 2 2 true [o 10, o 11]] [] IsTTl27
noncomputable def IsTTl35 : List (Nat × B) := ov [C 313 2 2 true [o 10, o 11]] [] IsTTl29
noncomputable def IsTTl36 : List (Nat × B) := ov [C 313 2 2 true [o 10, o 11]] [] IsTTl30
noncomputable def IsTTl37 : List (Nat × B) := ov [C 7 1 1 true [m 282],
C 8 3 3 true [p 7 0, m 283, nm],
M 282 [(a [o 0, o 1], a [y 0 [(1, 1)], i 0, i 0])] [0] 1,
M 283 [(o 1, y 0 [(1, 1)])] [0] 1] [7, 8] IsTTl10
noncomputable def IsTTl38 : List (Nat × B) := ov [C 7 1 1 true [m 282],
C 8 3 3 true [p 7 0, m 283, nm],
M 282 [] [] 0,
M 283 [(o 1, y 0 [(1, 1)])] [0] 1] [7, 8] IsTTl10
noncomputable def IsTTl39 : List (Nat × B) := ov [M 245 [(a [o 0, o 1], a [y 0 [(1, 1)], i 0, i 0])] [0] 1,
M 246 [(o 1, y 0 [(1, 1), (0, 1)])] [0] 1] [245, 246] IsTTl9
noncomputable def IsTTl40 : List (Nat × B) := ov [M 246 [(o 1, y 0 [(1, 1), (0, 1)])] [0] 1] [246] IsTTl9
noncomputable def IsTTl41 : List (Nat × B) := ov [C 285 3 3 true [i 30, ns, ns],
C 286 2 1 true [o 0, o 1]] [] IsTTl10
noncomputable def IsTTl42 : List (Nat × B) := ov [C 279 3 3 true [i 1, ns, ns],
C 280 2 1 true [o 0, o 1]] [] IsTTl10
noncomputable def IsTTl43 : List (Nat × B) := ov [C 285 3 3 true [i 0, ns, ns],
C 286 2 1 true [o 0, o 1]] [] IsTTl37
noncomputable def IsTTl44 : List (Nat × B) := ov [C 279 3 3 true [i 1, ns, ns],
C 280 2 1 true [o 0, o 1]] [] IsTTl9
noncomputable def IsTTl45 : List (Nat × B) := ov [C 285 3 3 true [i 0, ns, ns],
C 286 2 1 true [o 0, o 1]] [] IsTTl38
noncomputable def IsTTl46 : List (Nat × B) := ov [C 285 3 3 true [i 30, ns, ns],
C 286 2 1 true [o 0, o 1]] [] IsTTl9
noncomputable def IsTTl47 : List (Nat × B) := ov [C 283 3 3 true [i 0, ns, ns],
C 284 2 1 true [o 0, o 1]] [] IsTTl39
noncomputable def IsTTl48 : List (Nat × B) := ov [C 283 3 3 true [i 0, ns, ns],
C 284 2 1 true [o 0, o 1]] [] IsTTl40
noncomputable def IsTTl49 : List (Nat × B) := ov [C 316 3 1 true [i 0, i 0, i 0]] [] IsTTl41
noncomputable def IsTTl50 : List (Nat × B) := ov [C 310 3 1 true [i 0, i 0, i 0]] [] IsTTl42
noncomputable def IsTTl51 : List (Nat × B) := ov [C 316 3 1 true [y 0 [(1, 1)], i 0, i 0]] [] IsTTl43
noncomputable def IsTTl52 : List (Nat × B) := ov [C 316 3 1 true [i 0, i 0, i 0]] [] IsTTl46
noncomputable def IsTTl53 : List (Nat × B) := ov [C 310 3 1 true [i 0, i 0, i 0]] [] IsTTl44
noncomputable def IsTTl54 : List (Nat × B) := ov [C 316 3 1 true [i 0, i 0, i 0]] [] IsTTl45
noncomputable def IsTTl55 : List (Nat × B) := ov [C 314 3 1 true [y 0 [(1, 1)], i 0, i 0]] [] IsTTl47
noncomputable def IsTTl56 : List (Nat × B) := ov [C 314 3 1 true [i 0, i 0, i 0]] [] IsTTl48
noncomputable def IsTTl57 : List (Nat × B) := ov [C 317 3 3 true [i 0, r 316 3 3, ns]] [] IsTTl49
noncomputable def IsTTl58 : List (Nat × B) := ov [C 311 3 3 true [i 0, r 310 3 3, ns]] [] IsTTl50
noncomputable def IsTTl59 : List (Nat × B) := ov [C 317 3 3 true [i 0, r 316 3 3, ns]] [] IsTTl51
noncomputable def IsTTl60 : List (Nat × B) := ov [C 317 3 3 true [i 0, r 316 3 3, ns]] [] IsTTl52
noncomputable def IsTTl61 : List (Nat × B) := ov [C 311 3 3 true [i 0, r 310 3 3, ns]] [] IsTTl53
noncomputable def IsTTl62 : List (Nat × B) := ov [C 317 3 3 true [i 0, r 316 3 3, ns]] [] IsTTl54
noncomputable def IsTTl63 : List (Nat × B) := ov [C 315 3 3 true [i 0, r 314 3 3, ns]] [] IsTTl55
noncomputable def IsTTl64 : List (Nat × B) := ov [C 315 3 3 true [i 0, r 314 3 3, ns]] [] IsTTl56
noncomputable def IsTTl65 : List (Nat × B) := ov [M 245 [(a [o 0, o 1], a [y 0 [(1, 1), (0, 1)], i 0, i 0])] [0] 1,
M 246 [(o 1, y 0 [(1, 1), (0, 1)])] [0] 1] [245, 246] IsTTl8
noncomputable def IsTTl66 : List (Nat × B) := ov [M 245 [] [] 1,
M 246 [(o 1, y 0 [(1, 1), (0, 1)])] [0] 1] [245, 246] IsTTl8
noncomputable def IsTTl67 : List (Nat × B) := ov [C 279 3 3 true [i 1, ns, ns],
C 280 2 1 true [o 0, o 1]] [] IsTTl8
noncomputable def IsTTl68 : List (Nat × B) := ov [C 285 3 3 true [i 30, ns, ns],
C 286 2 1 true [o 0, o 1]] [] IsTTl8
noncomputable def IsTTl69 : List (Nat × B) := ov [C 279 3 3 true [i 12, ns, ns],
C 280 2 1 true [o 0, o 1]] [] IsTTl8
noncomputable def IsTTl70 : List (Nat × B) := ov [C 285 3 3 true [i 0, ns, ns],
C 286 2 1 true [o 0, o 1]] [] IsTTl65
noncomputable def IsTTl71 : List (Nat × B) := ov [C 283 3 3 true [i 0, ns, ns],
C 284 2 1 true [o 0, o 1]] [] IsTTl65
noncomputable def IsTTl72 : List (Nat × B) := ov [C 285 3 3 true [i 0, ns, ns],
C 286 2 1 true [o 0, o 1]] [] IsTTl66
noncomputable def IsTTl73 : List (Nat × B) := ov [C 310 3 1 true [y 0 [(0, 1)], i 0, i 0]] [] IsTTl67
noncomputable def IsTTl74 : List (Nat × B) := ov [C 316 3 1 true [y 0 [(0, 1)], i 0, i 0]] [] IsTTl68
noncomputable def IsTTl75 : List (Nat × B) := ov [C 310 3 1 true [y 0 [(0, 1)], i 0, i 0]] [] IsTTl69
noncomputable def IsTTl76 : List (Nat × B) := ov [C 316 3 1 true [y 0 [(1, 1), (0, 1)], i 0, i 0]] [] IsTTl70
noncomputable def IsTTl77 : List (Nat × B) := ov [C 314 3 1 true [y 0 [(1, 1), (0, 1)], i 0, i 0]] [] IsTTl71
noncomputable def IsTTl78 : List (Nat × B) := ov [C 316 3 1 true [i 0, i 0, i 0]] [] IsTTl72
noncomputable def IsTTl79 : List (Nat × B) := ov [C 311 3 3 true [i 0, r 310 3 3, ns]] [] IsTTl73
noncomputable def IsTTl80 : List (Nat × B) := ov [C 317 3 3 true [i 0, r 316 3 3, ns]] [] IsTTl74
noncomputable def IsTTl81 : List (Nat × B) := ov [C 311 3 3 true [i 0, r 310 3 3, ns]] [] IsTTl75
noncomputable def IsTTl82 : List (Nat × B) := ov [C 317 3 3 true [i 0, r 316 3 3, ns]] [] IsTTl76
noncomputable def IsTTl83 : List (Nat × B) := ov [C 315 3 3 true [i 0, r 314 3 3, ns]] [] IsTTl77
noncomputable def IsTTl84 : List (Nat × B) := ov [C 317 3 3 true [i 0, r 316 3 3, ns]] [] IsTTl78
noncomputable def IsTTl85 : List (Nat × B) := ov [C 319 2 2 true [o 10, o 11]] [] IsTTl57
noncomputable def IsTTl86 : List (Nat × B) := ov [C 313 2 2 true [o 10, o 11]] [] IsTTl58
noncomputable def IsTTl87 : List (Nat × B) := ov [C 319 2 2 true [o 10, o 11]] [] IsTTl59
noncomputable def IsTTl88 : List (Nat × B) := ov [C 319 2 2 true [o 10, o 11]] [] IsTTl60
noncomputable def IsTTl89 : List (Nat × B) := ov [C 313 2 2 true [o 10, o 11]] [] IsTTl61
noncomputable def IsTTl90 : List (Nat × B) := ov [C 319 2 2 true [o 10, o 11]] [] IsTTl62
noncomputable def IsTTl91 : List (Nat × B) := ov [C 317 2 2 true [o 10, o 11]] [] IsTTl63
noncomputable def IsTTl92 : List (Nat × B) := ov [C 317 2 2 true [o 10, o 11]] [] IsTTl64
noncomputable def IsTTl93 : List (Nat × B) := ov [C 313 2 2 true [o 10, o 11]] [] IsTTl79
noncomputable def IsTTl94 : List (Nat × B) := ov [C 319 2 2 true [o 10, o 11]] [] IsTTl80
noncomputable def IsTTl95 : List (Nat × B) := ov [C 313 2 2 true [o 10, o 11]] [] IsTTl81
noncomputable def IsTTl96 : List (Nat × B) := ov [C 319 2 2 true [o 10, o 11]] [] IsTTl82
noncomputable def IsTTl97 : List (Nat × B) := ov [C 317 2 2 true [o 10, o 11]] [] IsTTl83
noncomputable def IsTTl98 : List (Nat × B) := ov [C 319 2 2 true [o 10, o 11]] [] IsTTl84
end Go.Proofs.YtkhckfpflfkjmaaGreat
