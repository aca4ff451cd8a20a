/- complinelaw23.PartBlocked: tables. -/
import Derived.Test.YtkhckfpflfkjmaaGreatPbL0
namespace Go.Proofs.YtkhckfpflfkjmaaGreat
open Go Go.RowKit Gv Gv.Lt
def pbI : List (Int × Int) := [(1, 1000), (0, 1000), (0, 1000), (0, 1000), (0, 1000), (0, 1000), (0, 1000), (0, 1000), (0, 1000), (0, 1000)]
def pbArgs0 : List V := [.sint .i64 0 [(0,1)], .sint .i64 0 [(1,1)], .sint .i64 0 [(9,1)], .sint .i64 0 [(3,1)], .bool false, .bool false, .bool true]
def pbArgs1 : List V := [.sint .i64 0 [(0,1)], .sint .i64 0 [(1,1)], .sint .i64 0 [(9,1)], .sint .i64 0 [(3,1)], .bool false, .bool false, .bool true]
def pbArgs2 : List V := [.sint .i64 0 [(0,1)], .sint .i64 0 [(1,1)], .sint .i64 0 [(2,1)], .sint .i64 0 [(3,1)], .bool false, .bool false, .bool true]
def pbArgs3 : List V := [.sint .i64 0 [(0,1)], .sint .i64 0 [(1,1)], .sint .i64 0 [(2,1)], .sint .i64 0 [(3,1)], .bool false, .bool false, .bool true]
def pbArgs4 : List V := [.sint .i64 0 [(0,1)], .sint .i64 0 [(1,1)], .sint .i64 0 [(9,1)], .sint .i64 0 [(3,1)], .bool false, .bool true, .bool true]
def pbArgs5 : List V := [.sint .i64 0 [(0,1)], .sint .i64 0 [(1,1)], .sint .i64 0 [(2,1)], .sint .i64 0 [(3,1)], .bool false, .bool true, .bool true]
def pbArgs6 : List V := [.sint .i64 0 [(0,1)], .sint .i64 0 [(1,1)], .sint .i64 0 [(9,1)], .sint .i64 0 [(3,1)], .bool true, .bool false, .bool true]
def pbArgs7 : List V := [.sint .i64 0 [(0,1)], .sint .i64 0 [(1,1)], .sint .i64 0 [(9,1)], .sint .i64 0 [(3,1)], .bool true, .bool true, .bool true]
def pbArgs8 : List V := [.sint .i64 0 [(0,1)], .sint .i64 0 [(1,1)], .sint .i64 0 [(9,1)], .sint .i64 0 [(3,1)], .bool false, .bool false, .bool false]
def pbArgs9 : List V := [.sint .i64 0 [(0,1)], .sint .i64 0 [(1,1)], .sint .i64 0 [(9,1)], .sint .i64 0 [(3,1)], .bool false, .bool true, .bool false]
def pbArgs10 : List V := [.sint .i64 0 [(0,1)], .sint .i64 0 [(1,1)], .sint .i64 0 [(9,1)], .sint .i64 0 [(3,1)], .bool true, .bool false, .bool false]
def pbArgs11 : List V := [.sint .i64 0 [(0,1)], .sint .i64 0 [(1,1)], .sint .i64 0 [(9,1)], .sint .i64 0 [(3,1)], .bool true, .bool true, .bool false]
noncomputable def pbP0 : SN := ⟨12, [], Pbl0, 0, t [p 11 0, p 19 0, b true], Pbl1, 210⟩
noncomputable def pbP1 : SN := ⟨17, [p 11 0, p 19 0, a [i 19, i 0, i 0, s 1 0x50, s 2 0x4150, s 2 0x4250, s 1 0x51, b true, s 1 0x58, s 3 0x525545, s 0 0, y 0 [(0, 1)], y 0 [(1, 1)], i 0, i 0, b true, b false, s 0 0, s 0 0, s 0 0, ns, ns]], Pbl3, 213, b true, Pbl4, 319⟩
noncomputable def pbP3 : SN := ⟨17, [p 11 0, p 19 0, a [i 8, i 0, i 0, s 0 0, s 0 0, s 0 0, s 0 0, b false, s 0 0, s 0 0, s 0 0, i 0, i 0, i 0, i 0, b false, b false, s 0 0, s 0 0, s 0 0, ns, ns]], Pbl4, 319, b true, Pbl6, 468⟩
noncomputable def pbP5 : SN := ⟨17, [p 11 0, p 19 0, a [i 9, y 0 [(9, 1)], i 0, s 0 0, s 0 0, s 0 0, s 0 0, b false, s 0 0, s 0 0, s 0 0, i 0, i 0, i 0, i 0, b false, b false, s 0 0, s 2 0x4150, s 1 0x58, ns, ns]], Pbl6, 468, b true, Pbl8, 487⟩
noncomputable def pbP8 : SN := ⟨17, [p 11 0, p 19 0, a [i 9, y 0 [(3, 1)], i 0, s 0 0, s 0 0, s 0 0, s 0 0, b false, s 0 0, s 0 0, s 0 0, i 0, i 0, i 0, i 0, b false, b false, s 0 0, s 2 0x4251, s 3 0x525545, ns, ns]], Pbl8, 487, b true, Pbl11, 511⟩
noncomputable def pbP12 : SN := ⟨19, [p 11 0, i 1], Pbl13, 514, t [y 0 [(4, 1)], i 0], Pbl13, 542⟩
noncomputable def pbP16 : SN := ⟨19, [p 11 0, i 2], Pbl13, 542, t [i 0, i 1], Pbl13, 551⟩
noncomputable def pbP13 : SN := ⟨19, [p 11 0, i 1], Pbl13, 514, t [i 0, i 30], Pbl13, 542⟩
noncomputable def pbP17 : SN := ⟨19, [p 11 0, i 2], Pbl13, 542, t [i 0, i 1], Pbl13, 551⟩
noncomputable def pbP9 : SN := ⟨17, [p 11 0, p 19 0, a [i 9, y 0 [(3, 1)], i 0, s 0 0, s 0 0, s 0 0, s 0 0, b false, s 0 0, s 0 0, s 0 0, i 0, i 0, i 0, i 0, b false, b false, s 0 0, s 2 0x4251, s 3 0x525545, ns, ns]], Pbl8, 487, b true, Pbl12, 511⟩
noncomputable def pbP18 : SN := ⟨19, [p 11 0, i 1], Pbl15, 514, t [y 0 [(5, 1)], i 0], Pbl15, 542⟩
noncomputable def pbP22 : SN := ⟨19, [p 11 0, i 2], Pbl15, 542, t [i 0, i 1], Pbl15, 551⟩
noncomputable def pbP19 : SN := ⟨19, [p 11 0, i 1], Pbl15, 514, t [i 0, i 30], Pbl15, 542⟩
noncomputable def pbP23 : SN := ⟨19, [p 11 0, i 2], Pbl15, 542, t [i 0, i 1], Pbl15, 551⟩
noncomputable def pbP2 : SN := ⟨17, [p 11 0, p 19 0, a [i 19, i 0, i 0, s 1 0x50, s 2 0x4150, s 2 0x4250, s 1 0x51, b true, s 1 0x58, s 3 0x525545, s 0 0, y 0 [(0, 1)], y 0 [(1, 1)], i 0, i 0, b true, b false, s 0 0, s 0 0, s 0 0, ns, ns]], Pbl2, 213, b true, Pbl5, 319⟩
noncomputable def pbP4 : SN := ⟨17, [p 11 0, p 19 0, a [i 8, i 0, i 0, s 0 0, s 0 0, s 0 0, s 0 0, b false, s 0 0, s 0 0, s 0 0, i 0, i 0, i 0, i 0, b false, b false, s 0 0, s 0 0, s 0 0, ns, ns]], Pbl5, 319, b true, Pbl7, 468⟩
noncomputable def pbP6 : SN := ⟨17, [p 11 0, p 19 0, a [i 9, y 0 [(2, 1)], i 0, s 0 0, s 0 0, s 0 0, s 0 0, b false, s 0 0, s 0 0, s 0 0, i 0, i 0, i 0, i 0, b false, b false, s 0 0, s 2 0x4150, s 1 0x58, ns, ns]], Pbl7, 468, b true, Pbl9, 487⟩
noncomputable def pbP10 : SN := ⟨17, [p 11 0, p 19 0, a [i 9, y 0 [(3, 1)], i 0, s 0 0, s 0 0, s 0 0, s 0 0, b false, s 0 0, s 0 0, s 0 0, i 0, i 0, i 0, i 0, b false, b false, s 0 0, s 2 0x4251, s 3 0x525545, ns, ns]], Pbl9, 487, b true, Pbl14, 511⟩
noncomputable def pbP14 : SN := ⟨19, [p 11 0, i 1], Pbl17, 514, t [y 0 [(2, 1)], i 0], Pbl17, 542⟩
noncomputable def pbP20 : SN := ⟨19, [p 11 0, i 2], Pbl17, 542, t [i 0, i 1], Pbl17, 551⟩
noncomputable def pbP7 : SN := ⟨17, [p 11 0, p 19 0, a [i 9, y 0 [(2, 1)], i 0, s 0 0, s 0 0, s 0 0, s 0 0, b false, s 0 0, s 0 0, s 0 0, i 0, i 0, i 0, i 0, b false, b false, s 0 0, s 2 0x4150, s 1 0x58, ns, ns]], Pbl7, 468, b true, Pbl10, 487⟩
noncomputable def pbP11 : SN := ⟨17, [p 11 0, p 19 0, a [i 9, y 0 [(3, 1)], i 0, s 0 0, s 0 0, s 0 0, s 0 0, b false, s 0 0, s 0 0, s 0 0, i 0, i 0, i 0, i 0, b false, b false, s 0 0, s 2 0x4251, s 3 0x525545, ns, ns]], Pbl10, 487, b true, Pbl16, 511⟩
noncomputable def pbP15 : SN := ⟨19, [p 11 0, i 1], Pbl18, 514, t [i 0, i 30], Pbl18, 542⟩
noncomputable def pbP21 : SN := ⟨19, [p 11 0, i 2], Pbl18, 542, t [i 0, i 1], Pbl18, 551⟩
noncomputable def pbP24 : SN := ⟨17, [p 11 0, p 19 0, a [i 9, y 0 [(3, 1)], i 0, s 0 0, s 0 0, s 0 0, s 0 0, b false, s 0 0, s 0 0, s 0 0, i 0, i 0, i 0, i 0, b false, b false, s 0 0, s 2 0x4251, s 3 0x525545, ns, ns]], Pbl9, 487, b true, Pbl19, 511⟩
noncomputable def pbP27 : SN := ⟨19, [p 11 0, i 1], Pbl21, 514, t [y 0 [(2, 1)], i 0], Pbl21, 542⟩
noncomputable def pbP31 : SN := ⟨19, [p 11 0, i 2], Pbl21, 542, t [i 0, i 1], Pbl21, 551⟩
noncomputable def pbP25 : SN := ⟨17, [p 11 0, p 19 0, a [i 9, y 0 [(3, 1)], i 0, s 0 0, s 0 0, s 0 0, s 0 0, b false, s 0 0, s 0 0, s 0 0, i 0, i 0, i 0, i 0, b false, b false, s 0 0, s 2 0x4251, s 3 0x525545, ns, ns]], Pbl10, 487, b true, Pbl20, 511⟩
noncomputable def pbP26 : SN := ⟨19, [p 11 0, i 1], Pbl22, 514, t [i 0, i 30], Pbl22, 542⟩
noncomputable def pbP28 : SN := ⟨19, [p 11 0, i 2], Pbl22, 542, t [i 0, i 1], Pbl22, 551⟩
noncomputable def pbP29 : SN := ⟨19, [p 11 0, i 1], Pbl23, 516, t [y 0 [(5, 1)], i 0], Pbl23, 543⟩
noncomputable def pbP35 : SN := ⟨19, [p 11 0, i 2], Pbl23, 543, t [i 0, i 1], Pbl23, 552⟩
noncomputable def pbP30 : SN := ⟨19, [p 11 0, i 1], Pbl23, 516, t [i 0, i 30], Pbl23, 543⟩
noncomputable def pbP34 : SN := ⟨19, [p 11 0, i 2], Pbl23, 543, t [i 0, i 1], Pbl23, 552⟩
noncomputable def pbP32 : SN := ⟨19, [p 11 0, i 1], Pbl24, 516, t [y 0 [(5, 1)], i 0], Pbl24, 543⟩
noncomputable def pbP37 : SN := ⟨19, [p 11 0, i 2], Pbl24, 543, t [i 0, i 1], Pbl24, 552⟩
noncomputable def pbP33 : SN := ⟨19, [p 11 0, i 1], Pbl24, 516, t [i 0, i 30], Pbl24, 543⟩
noncomputable def pbP36 : SN := ⟨19, [p 11 0, i 2], Pbl24, 543, t [i 0, i 1], Pbl24, 552⟩
noncomputable def pbP39 : SN := ⟨19, [p 11 0, i 1], Pbl26, 516, t [y 0 [(2, 1)], i 0], Pbl26, 543⟩
noncomputable def pbP43 : SN := ⟨19, [p 11 0, i 2], Pbl26, 543, t [i 0, i 1], Pbl26, 552⟩
noncomputable def pbP38 : SN := ⟨19, [p 11 0, i 1], Pbl25, 516, t [y 0 [(2, 1)], i 0], Pbl25, 543⟩
noncomputable def pbP42 : SN := ⟨19, [p 11 0, i 2], Pbl25, 543, t [i 0, i 1], Pbl25, 552⟩
noncomputable def pbP40 : SN := ⟨19, [p 11 0, i 1], Pbl27, 516, t [i 0, i 30], Pbl27, 543⟩
noncomputable def pbP44 : SN := ⟨19, [p 11 0, i 2], Pbl27, 543, t [i 0, i 1], Pbl27, 552⟩
noncomputable def pbP41 : SN := ⟨19, [p 11 0, i 1], Pbl28, 516, t [i 0, i 30], Pbl28, 543⟩
noncomputable def pbP46 : SN := ⟨19, [p 11 0, i 2], Pbl28, 543, t [i 0, i 1], Pbl28, 552⟩
noncomputable def pbP47 : SN := ⟨19, [p 11 0, i 1], Pbl30, 516, t [i 0, i 30], Pbl30, 543⟩
noncomputable def pbP51 : SN := ⟨19, [p 11 0, i 2], Pbl30, 543, t [i 0, i 1], Pbl30, 552⟩
noncomputable def pbP48 : SN := ⟨19, [p 11 0, i 1], Pbl31, 516, t [i 0, i 30], Pbl31, 543⟩
noncomputable def pbP52 : SN := ⟨19, [p 11 0, i 2], Pbl31, 543, t [i 0, i 1], Pbl31, 552⟩
noncomputable def pbP45 : SN := ⟨17, [p 11 0, p 19 0, a [i 9, y 0 [(9, 1)], i 0, s 0 0, s 0 0, s 0 0, s 0 0, b false, s 0 0, s 0 0, s 0 0, i 0, i 0, i 0, i 0, b false, b false, s 0 0, s 2 0x4150, s 1 0x58, ns, ns]], Pbl6, 468, b true, Pbl29, 487⟩
noncomputable def pbP49 : SN := ⟨17, [p 11 0, p 19 0, a [i 9, y 0 [(3, 1)], i 0, s 0 0, s 0 0, s 0 0, s 0 0, b false, s 0 0, s 0 0, s 0 0, i 0, i 0, i 0, i 0, b false, b false, s 0 0, s 2 0x4251, s 3 0x525545, ns, ns]], Pbl29, 487, b true, Pbl32, 511⟩
noncomputable def pbP53 : SN := ⟨19, [p 11 0, i 1], Pbl34, 516, t [i 0, i 30], Pbl34, 543⟩
noncomputable def pbP60 : SN := ⟨19, [p 11 0, i 2], Pbl34, 543, t [i 0, i 1], Pbl34, 552⟩
noncomputable def pbP50 : SN := ⟨17, [p 11 0, p 19 0, a [i 9, y 0 [(3, 1)], i 0, s 0 0, s 0 0, s 0 0, s 0 0, b false, s 0 0, s 0 0, s 0 0, i 0, i 0, i 0, i 0, b false, b false, s 0 0, s 2 0x4251, s 3 0x525545, ns, ns]], Pbl29, 487, b true, Pbl33, 511⟩
noncomputable def pbP54 : SN := ⟨19, [p 11 0, i 1], Pbl35, 516, t [i 0, i 30], Pbl35, 543⟩
noncomputable def pbP61 : SN := ⟨19, [p 11 0, i 2], Pbl35, 543, t [i 0, i 1], Pbl35, 552⟩
noncomputable def pbP56 : SN := ⟨19, [p 11 0, i 1], Pbl37, 518, t [i 0, i 30], Pbl37, 544⟩
noncomputable def pbP63 : SN := ⟨19, [p 11 0, i 2], Pbl37, 544, t [i 0, i 1], Pbl37, 553⟩
noncomputable def pbP57 : SN := ⟨19, [p 11 0, i 1], Pbl38, 518, t [i 0, i 30], Pbl38, 544⟩
noncomputable def pbP64 : SN := ⟨19, [p 11 0, i 2], Pbl38, 544, t [i 0, i 1], Pbl38, 553⟩
noncomputable def pbP58 : SN := ⟨19, [p 11 0, i 1], Pbl39, 518, t [i 0, i 30], Pbl39, 544⟩
noncomputable def pbP66 : SN := ⟨19, [p 11 0, i 2], Pbl39, 544, t [i 0, i 1], Pbl39, 553⟩
noncomputable def pbP59 : SN := ⟨19, [p 11 0, i 1], Pbl40, 518, t [i 0, i 30], Pbl40, 544⟩
noncomputable def pbP65 : SN := ⟨19, [p 11 0, i 2], Pbl40, 544, t [i 0, i 1], Pbl40, 553⟩
noncomputable def pbP55 : SN := ⟨17, [p 11 0, p 19 0, a [i 19, i 0, i 0, s 1 0x50, s 2 0x4150, s 2 0x4250, s 1 0x51, b true, s 1 0x58, s 3 0x525545, s 0 0, y 0 [(0, 1)], y 0 [(1, 1)], i 0, i 0, b false, b false, s 0 0, s 0 0, s 0 0, ns, ns]], Pbl36, 213, b true, Pbl41, 319⟩
noncomputable def pbP62 : SN := ⟨17, [p 11 0, p 19 0, a [i 8, i 0, i 0, s 0 0, s 0 0, s 0 0, s 0 0, b false, s 0 0, s 0 0, s 0 0, i 0, i 0, i 0, i 0, b false, b false, s 0 0, s 0 0, s 0 0, ns, ns]], Pbl41, 319, b true, Pbl42, 468⟩
noncomputable def pbP67 : SN := ⟨17, [p 11 0, p 19 0, a [i 9, y 0 [(9, 1)], i 0, s 0 0, s 0 0, s 0 0, s 0 0, b false, s 0 0, s 0 0, s 0 0, i 0, i 0, i 0, i 0, b false, b false, s 0 0, s 2 0x4150, s 1 0x58, ns, ns]], Pbl42, 468, b true, Pbl43, 487⟩
noncomputable def pbP69 : SN := ⟨17, [p 11 0, p 19 0, a [i 9, y 0 [(3, 1)], i 0, s 0 0, s 0 0, s 0 0, s 0 0, b false, s 0 0, s 0 0, s 0 0, i 0, i 0, i 0, i 0, b false, b false, s 0 0, s 2 0x4251, s 3 0x525545, ns, ns]], Pbl43, 487, b true, Pbl45, 511⟩
noncomputable def pbP74 : SN := ⟨19, [p 11 0, i 1], Pbl50, 514, t [i 0, i 34], Pbl50, 525⟩
noncomputable def pbP86 : SN := ⟨19, [p 11 0, i 2], Pbl50, 525, t [i 0, i 1], Pbl50, 534⟩
noncomputable def pbP70 : SN := ⟨17, [p 11 0, p 19 0, a [i 9, y 0 [(3, 1)], i 0, s 0 0, s 0 0, s 0 0, s 0 0, b false, s 0 0, s 0 0, s 0 0, i 0, i 0, i 0, i 0, b false, b false, s 0 0, s 2 0x4251, s 3 0x525545, ns, ns]], Pbl43, 487, b true, Pbl46, 511⟩
noncomputable def pbP73 : SN := ⟨19, [p 11 0, i 1], Pbl49, 514, t [i 0, i 34], Pbl49, 525⟩
noncomputable def pbP85 : SN := ⟨19, [p 11 0, i 2], Pbl49, 525, t [i 0, i 1], Pbl49, 534⟩
noncomputable def pbP68 : SN := ⟨17, [p 11 0, p 19 0, a [i 9, y 0 [(9, 1)], i 0, s 0 0, s 0 0, s 0 0, s 0 0, b false, s 0 0, s 0 0, s 0 0, i 0, i 0, i 0, i 0, b false, b false, s 0 0, s 2 0x4150, s 1 0x58, ns, ns]], Pbl42, 468, b true, Pbl44, 487⟩
noncomputable def pbP71 : SN := ⟨17, [p 11 0, p 19 0, a [i 9, y 0 [(3, 1)], i 0, s 0 0, s 0 0, s 0 0, s 0 0, b false, s 0 0, s 0 0, s 0 0, i 0, i 0, i 0, i 0, b false, b false, s 0 0, s 2 0x4251, s 3 0x525545, ns, ns]], Pbl44, 487, b true, Pbl47, 511⟩
noncomputable def pbP78 : SN := ⟨19, [p 11 0, i 1], Pbl54, 514, t [i 0, i 34], Pbl54, 525⟩
noncomputable def pbP90 : SN := ⟨19, [p 11 0, i 2], Pbl54, 525, t [i 0, i 1], Pbl54, 534⟩
noncomputable def pbP72 : SN := ⟨17, [p 11 0, p 19 0, a [i 9, y 0 [(3, 1)], i 0, s 0 0, s 0 0, s 0 0, s 0 0, b false, s 0 0, s 0 0, s 0 0, i 0, i 0, i 0, i 0, b false, b false, s 0 0, s 2 0x4251, s 3 0x525545, ns, ns]], Pbl44, 487, b true, Pbl48, 511⟩
noncomputable def pbP79 : SN := ⟨19, [p 11 0, i 1], Pbl55, 514, t [i 0, i 34], Pbl55, 525⟩
noncomputable def pbP91 : SN := ⟨19, [p 11 0, i 2], Pbl55, 525, t [i 0, i 1], Pbl55, 534⟩
noncomputable def pbP76 : SN := ⟨19, [p 11 0, i 1], Pbl52, 516, t [i 0, i 34], Pbl52, 527⟩
noncomputable def pbP88 : SN := ⟨19, [p 11 0, i 2], Pbl52, 527, t [i 0, i 1], Pbl52, 536⟩
noncomputable def pbP75 : SN := ⟨19, [p 11 0, i 1], Pbl51, 516, t [i 0, i 34], Pbl51, 527⟩
noncomputable def pbP87 : SN := ⟨19, [p 11 0, i 2], Pbl51, 527, t [i 0, i 1], Pbl51, 536⟩
noncomputable def pbP77 : SN := ⟨19, [p 11 0, i 1], Pbl53, 516, t [i 0, i 34], Pbl53, 527⟩
noncomputable def pbP89 : SN := ⟨19, [p 11 0, i 2], Pbl53, 527, t [i 0, i 1], Pbl53, 536⟩
noncomputable def pbP80 : SN := ⟨19, [p 11 0, i 1], Pbl56, 516, t [i 0, i 34], Pbl56, 527⟩
noncomputable def pbP92 : SN := ⟨19, [p 11 0, i 2], Pbl56, 527, t [i 0, i 1], Pbl56, 536⟩
noncomputable def pbP81 : SN := ⟨19, [p 11 0, i 1], Pbl57, 516, t [i 0, i 34], Pbl57, 527⟩
noncomputable def pbP93 : SN := ⟨19, [p 11 0, i 2], Pbl57, 527, t [i 0, i 1], Pbl57, 536⟩
noncomputable def pbP82 : SN := ⟨19, [p 11 0, i 1], Pbl58, 516, t [i 0, i 34], Pbl58, 527⟩
noncomputable def pbP94 : SN := ⟨19, [p 11 0, i 2], Pbl58, 527, t [i 0, i 1], Pbl58, 536⟩
noncomputable def pbP83 : SN := ⟨19, [p 11 0, i 1], Pbl59, 516, t [i 0, i 34], Pbl59, 527⟩
noncomputable def pbP95 : SN := ⟨19, [p 11 0, i 2], Pbl59, 527, t [i 0, i 1], Pbl59, 536⟩
noncomputable def pbP84 : SN := ⟨19, [p 11 0, i 1], Pbl60, 516, t [i 0, i 34], Pbl60, 527⟩
noncomputable def pbP96 : SN := ⟨19, [p 11 0, i 2], Pbl60, 527, t [i 0, i 1], Pbl60, 536⟩
noncomputable def pbP97 : SN := ⟨19, [p 11 0, i 1], Pbl61, 518, t [i 0, i 34], Pbl61, 529⟩
noncomputable def pbP101 : SN := ⟨19, [p 11 0, i 2], Pbl61, 529, t [i 0, i 1], Pbl61, 538⟩
noncomputable def pbP98 : SN := ⟨19, [p 11 0, i 1], Pbl62, 518, t [i 0, i 34], Pbl62, 529⟩
noncomputable def pbP102 : SN := ⟨19, [p 11 0, i 2], Pbl62, 529, t [i 0, i 1], Pbl62, 538⟩
noncomputable def pbP99 : SN := ⟨19, [p 11 0, i 1], Pbl63, 518, t [i 0, i 34], Pbl63, 529⟩
noncomputable def pbP103 : SN := ⟨19, [p 11 0, i 2], Pbl63, 529, t [i 0, i 1], Pbl63, 538⟩
noncomputable def pbP100 : SN := ⟨19, [p 11 0, i 1], Pbl64, 518, t [i 0, i 34], Pbl64, 529⟩
noncomputable def pbP104 : SN := ⟨19, [p 11 0, i 2], Pbl64, 529, t [i 0, i 1], Pbl64, 538⟩
noncomputable abbrev pbE (ks : List SN) (bd : List (Int × Int)) (ge : List LF) : Env := evE Tryz.prog (orHk (hkS ks) (libS bd ge (orHk (hkT pbT) (mapsH bd ge [] nilH)))) bd ge []
theorem pbN {G : Gh} : ∀ t ∈ ([] : List SN), SNOk Tryz.prog G t := fun _ h => nomatch h
set_option maxRecDepth 100000 in
theorem pbH {G : Gh} {bd : List (Int × Int)} {ge : List LF} (F : Facts G bd ge []) (hm : ¬ G.mono) (hT : HooksOk Tryz.prog G (hkT pbT)) {ks : List SN} (hk : ∀ t ∈ ks, SNOk Tryz.prog G t) : HooksOk Tryz.prog G (orHk (hkS ks) (libS bd ge (orHk (hkT pbT) (mapsH bd ge [] nilH)))) := orHk_ok (hkS_ok progOk ks hk) (libS_ok F (orHk_ok hT (mapsH_ok F nilH_ok hm)) hm)
theorem pb_gele {K : Nat} {G G1 : Gh} (g : GLe K G G1) : ∀ {l : List (Int × List (Nat × Int))}, (l.all fun f => loT K f.2) = true → geOk G.σ l → geOk G1.σ l
  | [], _, _ => trivial
  | f :: l, e, h => by
    simp only [List.all_cons, Bool.and_eq_true] at e
    refine ⟨?_, pb_gele g e.2 h.2⟩
    rw [g.den e.1]
    exact h.1
theorem pb_bdle {σ σ' : Nat → Int} : ∀ {l : List (Int × Int)} {k : Nat}, (∀ i, i < k + l.length → σ' i = σ i) → bdOk σ l k → bdOk σ' l k
  | [], _, _, _ => trivial
  | p :: l, k, hs, h => ⟨by rw [hs k (by simp)]; exact h.1, pb_bdle (fun i hi => hs i (by simp at hi ⊢; omega)) h.2⟩
theorem pb_fle {G G1 : Gh} {ge : List LF} (g : GLe 10 G G1) (F : Facts G pbI ge []) (e : (ge.all fun f => loT 10 f.2) = true) (hn : nlOk G1 []) : Facts G1 pbI ge [] :=
  ⟨pb_bdle (fun i hi => g.σ i (Nat.lt_of_lt_of_le hi (of_decide_eq_true (by kernel_rfl)))) F.bd, pb_gele g e F.ge, hn⟩
end Go.Proofs.YtkhckfpflfkjmaaGreat
