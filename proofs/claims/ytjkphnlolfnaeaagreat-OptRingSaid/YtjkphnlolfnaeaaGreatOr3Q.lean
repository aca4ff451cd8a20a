/- complinelaw25.OptRing: tables. -/
import Derived.Test.YtjkphnlolfnaeaaGreatOr3L0
namespace Go.Proofs.YtjkphnlolfnaeaaGreat
open Go Go.RowKit Gv Gv.Lt
def or3I : List (Int × Int) := [(1, 1000), (0, 1000)]
def or3Args : List V := [.int .i64 3, .sint .i64 0 [(0,1)], .sint .i64 0 [(1,1)]]
noncomputable def or3P0 : SN := ⟨5, [], Or3l0, 0, t [p 11 0, p 19 0, b true], Or3l1, 210⟩
noncomputable def or3P1 : SN := ⟨7, [s 1 0x50, s 1 0x51, s 1 0x58, y 0 [(0, 1)], y 0 [(1, 1)]], Or3l2, 211, a [i 19, i 0, i 0, s 1 0x50, s 2 0x4150, s 2 0x4250, s 1 0x51, b true, s 1 0x58, s 3 0x525545, s 0 0, y 0 [(0, 1)], y 0 [(1, 1)], i 0, i 0, b false, b false, s 0 0, s 0 0, s 0 0, ns, ns], Or3l2, 212⟩
noncomputable def or3P2 : SN := ⟨6, [p 11 0, p 19 0, a [i 19, i 0, i 0, s 1 0x50, s 2 0x4150, s 2 0x4250, s 1 0x51, b true, s 1 0x58, s 3 0x525545, s 0 0, y 0 [(0, 1)], y 0 [(1, 1)], i 0, i 0, b false, b false, s 0 0, s 0 0, s 0 0, ns, ns]], Or3l2, 212, b true, Or3l3, 318⟩
noncomputable def or3P3 : SN := ⟨7, [s 1 0x51, s 1 0x52, s 1 0x58, y 0 [(0, 1)], y 0 [(1, 1)]], Or3l3, 318, a [i 19, i 0, i 0, s 1 0x51, s 2 0x4151, s 2 0x4251, s 1 0x52, b true, s 1 0x58, s 3 0x525545, s 0 0, y 0 [(0, 1)], y 0 [(1, 1)], i 0, i 0, b false, b false, s 0 0, s 0 0, s 0 0, ns, ns], Or3l3, 319⟩
noncomputable def or3P4 : SN := ⟨6, [p 11 0, p 19 0, a [i 19, i 0, i 0, s 1 0x51, s 2 0x4151, s 2 0x4251, s 1 0x52, b true, s 1 0x58, s 3 0x525545, s 0 0, y 0 [(0, 1)], y 0 [(1, 1)], i 0, i 0, b false, b false, s 0 0, s 0 0, s 0 0, ns, ns]], Or3l3, 319, b true, Or3l4, 427⟩
noncomputable def or3P5 : SN := ⟨7, [s 1 0x52, s 1 0x50, s 1 0x58, y 0 [(0, 1)], y 0 [(1, 1)]], Or3l4, 427, a [i 19, i 0, i 0, s 1 0x52, s 2 0x4152, s 2 0x4252, s 1 0x50, b true, s 1 0x58, s 3 0x525545, s 0 0, y 0 [(0, 1)], y 0 [(1, 1)], i 0, i 0, b false, b false, s 0 0, s 0 0, s 0 0, ns, ns], Or3l4, 428⟩
noncomputable def or3P6 : SN := ⟨6, [p 11 0, p 19 0, a [i 19, i 0, i 0, s 1 0x52, s 2 0x4152, s 2 0x4252, s 1 0x50, b true, s 1 0x58, s 3 0x525545, s 0 0, y 0 [(0, 1)], y 0 [(1, 1)], i 0, i 0, b false, b false, s 0 0, s 0 0, s 0 0, ns, ns]], Or3l4, 428, b true, Or3l5, 536⟩
noncomputable def or3P7 : SN := ⟨8, [p 11 0], Or3l5, 536, r 1168 3 3, Or3l6, 1169⟩
noncomputable def or3P8 : SN := ⟨9, [p 11 0, r 1169 2 2, b true], Or3l7, 1170, t [a [ns, ns], b false], Or3l7, 1424⟩
noncomputable def or3P11 : SN := ⟨9, [p 11 0, r 1425 2 2, b true], Or3l8, 1426, t [a [ns, ns], b false], Or3l8, 1680⟩
noncomputable def or3P13 : SN := ⟨9, [p 11 0, r 1681 2 2, b true], Or3l11, 1682, t [a [ns, ns], b false], Or3l11, 1935⟩
noncomputable def or3P15 : SN := ⟨10, [p 11 0, b false], Or3l13, 1936, t [a [r 3419 3 3, ns], b true], Or3l16, 3421⟩
noncomputable def or3P18 : SN := ⟨11, [p 11 0, a [r 3419 3 3, ns]], Or3l17, 3422, i 0, Or3l20, 3932⟩
noncomputable def or3P20 : SN := ⟨12, [p 9 0, i 1], Or3l20, 3932, t [a [i 1, s 1 0x50, s 2 0x4150, s 2 0x4250, s 1 0x51, b true, s 1 0x58, s 3 0x525545, s 0 0, y 0 [(0, 1)], y 0 [(1, 1)], i 0, i 0, i 2, b false, b false, b false, i 3, i 2, y 0 [(0, 1)], y 0 [(1, 1)]], i 0], Or3l20, 3933⟩
noncomputable def or3P22 : SN := ⟨12, [p 9 0, i 2], Or3l22, 3934, t [a [i 2, s 1 0x51, s 2 0x4151, s 2 0x4251, s 1 0x50, b false, s 1 0x58, s 3 0x525545, s 0 0, y 0 [(0, 1)], y 0 [(1, 1)], i 0, i 0, i 1, b false, b false, b false, i 3, i 1, y 0 [(0, 1)], y 0 [(1, 1)]], i 0], Or3l22, 3935⟩
noncomputable def or3P24 : SN := ⟨12, [p 9 0, i 3], Or3l24, 3936, t [a [i 3, s 1 0x51, s 2 0x4151, s 2 0x4251, s 1 0x52, b true, s 1 0x58, s 3 0x525545, s 0 0, y 0 [(0, 1)], y 0 [(1, 1)], i 0, i 0, i 2, b false, b false, b false, i 3, i 4, y 0 [(0, 1)], y 0 [(1, 1)]], i 0], Or3l24, 3937⟩
noncomputable def or3P26 : SN := ⟨12, [p 9 0, i 4], Or3l26, 3938, t [a [i 4, s 1 0x52, s 2 0x4152, s 2 0x4252, s 1 0x51, b false, s 1 0x58, s 3 0x525545, s 0 0, y 0 [(0, 1)], y 0 [(1, 1)], i 0, i 0, i 1, b false, b false, b false, i 3, i 3, y 0 [(0, 1)], y 0 [(1, 1)]], i 0], Or3l26, 3939⟩
noncomputable def or3P28 : SN := ⟨12, [p 9 0, i 5], Or3l28, 3940, t [a [i 5, s 1 0x52, s 2 0x4152, s 2 0x4252, s 1 0x50, b true, s 1 0x58, s 3 0x525545, s 0 0, y 0 [(0, 1)], y 0 [(1, 1)], i 0, i 0, i 2, b false, b false, b false, i 3, i 6, y 0 [(0, 1)], y 0 [(1, 1)]], i 0], Or3l28, 3941⟩
noncomputable def or3P29 : SN := ⟨12, [p 9 0, i 6], Or3l29, 3942, t [a [i 6, s 1 0x50, s 2 0x4150, s 2 0x4250, s 1 0x52, b false, s 1 0x58, s 3 0x525545, s 0 0, y 0 [(0, 1)], y 0 [(1, 1)], i 0, i 0, i 1, b false, b false, b false, i 3, i 5, y 0 [(0, 1)], y 0 [(1, 1)]], i 0], Or3l29, 3943⟩
noncomputable def or3P9 : SN := ⟨9, [p 11 0, r 1169 2 2, b true], Or3l7, 1170, t [a [ns, ns], b false], Or3l7, 1320⟩
noncomputable def or3P10 : SN := ⟨9, [p 11 0, r 1321 2 2, b true], Or3l9, 1322, t [a [ns, ns], b false], Or3l9, 1472⟩
noncomputable def or3P12 : SN := ⟨9, [p 11 0, r 1473 2 2, b true], Or3l10, 1474, t [a [ns, ns], b false], Or3l10, 1627⟩
noncomputable def or3P14 : SN := ⟨10, [p 11 0, b false], Or3l12, 1628, t [a [r 3042 3 3, ns], b true], Or3l14, 3044⟩
noncomputable def or3P16 : SN := ⟨11, [p 11 0, a [r 3042 3 3, ns]], Or3l15, 3045, i 0, Or3l18, 3408⟩
noncomputable def or3P17 : SN := ⟨12, [p 9 0, i 1], Or3l18, 3408, t [a [i 1, s 1 0x50, s 2 0x4150, s 2 0x4250, s 1 0x51, b true, s 1 0x58, s 3 0x525545, s 0 0, y 0 [(0, 1)], y 0 [(1, 1)], i 0, i 0, i 2, b false, b false, b false, i 3, i 2, y 0 [(0, 1)], y 0 [(1, 1)]], i 0], Or3l18, 3409⟩
noncomputable def or3P19 : SN := ⟨12, [p 9 0, i 2], Or3l19, 3410, t [a [i 2, s 1 0x51, s 2 0x4151, s 2 0x4251, s 1 0x50, b false, s 1 0x58, s 3 0x525545, s 0 0, y 0 [(0, 1)], y 0 [(1, 1)], i 0, i 0, i 1, b false, b false, b false, i 3, i 1, y 0 [(0, 1)], y 0 [(1, 1)]], i 0], Or3l19, 3411⟩
noncomputable def or3P21 : SN := ⟨12, [p 9 0, i 3], Or3l21, 3412, t [a [i 3, s 1 0x51, s 2 0x4151, s 2 0x4251, s 1 0x52, b true, s 1 0x58, s 3 0x525545, s 0 0, y 0 [(0, 1)], y 0 [(1, 1)], i 0, i 0, i 2, b false, b false, b false, i 3, i 4, y 0 [(0, 1)], y 0 [(1, 1)]], i 0], Or3l21, 3413⟩
noncomputable def or3P23 : SN := ⟨12, [p 9 0, i 4], Or3l23, 3414, t [a [i 4, s 1 0x52, s 2 0x4152, s 2 0x4252, s 1 0x51, b false, s 1 0x58, s 3 0x525545, s 0 0, y 0 [(0, 1)], y 0 [(1, 1)], i 0, i 0, i 1, b false, b false, b false, i 3, i 3, y 0 [(0, 1)], y 0 [(1, 1)]], i 0], Or3l23, 3415⟩
noncomputable def or3P25 : SN := ⟨12, [p 9 0, i 5], Or3l25, 3416, t [a [i 5, s 1 0x52, s 2 0x4152, s 2 0x4252, s 1 0x50, b true, s 1 0x58, s 3 0x525545, s 0 0, y 0 [(0, 1)], y 0 [(1, 1)], i 0, i 0, i 2, b false, b false, b false, i 3, i 6, y 0 [(0, 1)], y 0 [(1, 1)]], i 0], Or3l25, 3417⟩
noncomputable def or3P27 : SN := ⟨12, [p 9 0, i 6], Or3l27, 3418, t [a [i 6, s 1 0x50, s 2 0x4150, s 2 0x4250, s 1 0x52, b false, s 1 0x58, s 3 0x525545, s 0 0, y 0 [(0, 1)], y 0 [(1, 1)], i 0, i 0, i 1, b false, b false, b false, i 3, i 5, y 0 [(0, 1)], y 0 [(1, 1)]], i 0], Or3l27, 3419⟩
noncomputable abbrev or3E (ks : List SN) (bd : List (Int × Int)) (ge : List LF) : Env := evE Tryz.prog (orHk (hkS ks) (libS bd ge (orHk (hkT orT) (mapsH bd ge [] nilH)))) bd ge []
theorem or3N {G : Gh} : ∀ t ∈ ([] : List SN), SNOk Tryz.prog G t := fun _ h => nomatch h
set_option maxRecDepth 100000 in
theorem or3H {G : Gh} {bd : List (Int × Int)} {ge : List LF} (F : Facts G bd ge []) (hm : ¬ G.mono) (hT : HooksOk Tryz.prog G (hkT orT)) {ks : List SN} (hk : ∀ t ∈ ks, SNOk Tryz.prog G t) : HooksOk Tryz.prog G (orHk (hkS ks) (libS bd ge (orHk (hkT orT) (mapsH bd ge [] nilH)))) := orHk_ok (hkS_ok progOk ks hk) (libS_ok F (orHk_ok hT (mapsH_ok F nilH_ok hm)) hm)
end Go.Proofs.YtjkphnlolfnaeaaGreat
