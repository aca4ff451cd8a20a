/- complinelaw25.OptRing: tables. -/
import Derived.Test.YtjkphnlolfnaeaaGreatOr2L0
namespace Go.Proofs.YtjkphnlolfnaeaaGreat
open Go Go.RowKit Gv Gv.Lt
def or2I : List (Int × Int) := [(1, 1000), (0, 1000)]
def or2Args : List V := [.int .i64 2, .sint .i64 0 [(0,1)], .sint .i64 0 [(1,1)]]
noncomputable def or2P0 : SN := ⟨5, [], Or2l0, 0, t [p 11 0, p 19 0, b true], Or2l1, 210⟩
noncomputable def or2P1 : SN := ⟨7, [s 1 0x50, s 1 0x51, s 1 0x58, y 0 [(0, 1)], y 0 [(1, 1)]], Or2l2, 211, a [i 19, i 0, i 0, s 1 0x50, s 2 0x4150, s 2 0x4250, s 1 0x51, b true, s 1 0x58, s 3 0x525545, s 0 0, y 0 [(0, 1)], y 0 [(1, 1)], i 0, i 0, b false, b false, s 0 0, s 0 0, s 0 0, ns, ns], Or2l2, 212⟩
noncomputable def or2P2 : SN := ⟨6, [p 11 0, p 19 0, a [i 19, i 0, i 0, s 1 0x50, s 2 0x4150, s 2 0x4250, s 1 0x51, b true, s 1 0x58, s 3 0x525545, s 0 0, y 0 [(0, 1)], y 0 [(1, 1)], i 0, i 0, b false, b false, s 0 0, s 0 0, s 0 0, ns, ns]], Or2l2, 212, b true, Or2l3, 318⟩
noncomputable def or2P3 : SN := ⟨7, [s 1 0x51, s 1 0x50, s 1 0x58, y 0 [(0, 1)], y 0 [(1, 1)]], Or2l3, 318, a [i 19, i 0, i 0, s 1 0x51, s 2 0x4151, s 2 0x4251, s 1 0x50, b true, s 1 0x58, s 3 0x525545, s 0 0, y 0 [(0, 1)], y 0 [(1, 1)], i 0, i 0, b false, b false, s 0 0, s 0 0, s 0 0, ns, ns], Or2l3, 319⟩
noncomputable def or2P4 : SN := ⟨6, [p 11 0, p 19 0, a [i 19, i 0, i 0, s 1 0x51, s 2 0x4151, s 2 0x4251, s 1 0x50, b true, s 1 0x58, s 3 0x525545, s 0 0, y 0 [(0, 1)], y 0 [(1, 1)], i 0, i 0, b false, b false, s 0 0, s 0 0, s 0 0, ns, ns]], Or2l3, 319, b true, Or2l4, 427⟩
noncomputable def or2P5 : SN := ⟨8, [p 11 0], Or2l4, 427, r 735 2 2, Or2l5, 736⟩
noncomputable def or2P6 : SN := ⟨9, [p 11 0, r 736 2 2, b true], Or2l6, 737, t [a [ns, ns], b false], Or2l6, 991⟩
noncomputable def or2P9 : SN := ⟨9, [p 11 0, r 992 2 2, b true], Or2l8, 993, t [a [ns, ns], b false], Or2l8, 1246⟩
noncomputable def or2P11 : SN := ⟨10, [p 11 0, b false], Or2l10, 1247, t [a [r 2565 2 2, ns], b true], Or2l12, 2567⟩
noncomputable def or2P13 : SN := ⟨11, [p 11 0, a [r 2565 2 2, ns]], Or2l14, 2568, i 0, Or2l16, 2909⟩
noncomputable def or2P15 : SN := ⟨12, [p 9 0, i 1], Or2l16, 2909, t [a [i 1, s 1 0x50, s 2 0x4150, s 2 0x4250, s 1 0x51, b true, s 1 0x58, s 3 0x525545, s 0 0, y 0 [(0, 1)], y 0 [(1, 1)], i 0, i 0, i 2, b false, b false, b false, i 3, i 2, y 0 [(0, 1)], y 0 [(1, 1)]], i 0], Or2l16, 2910⟩
noncomputable def or2P17 : SN := ⟨12, [p 9 0, i 2], Or2l18, 2911, t [a [i 2, s 1 0x51, s 2 0x4151, s 2 0x4251, s 1 0x50, b false, s 1 0x58, s 3 0x525545, s 0 0, y 0 [(0, 1)], y 0 [(1, 1)], i 0, i 0, i 1, b false, b false, b false, i 3, i 1, y 0 [(0, 1)], y 0 [(1, 1)]], i 0], Or2l18, 2912⟩
noncomputable def or2P19 : SN := ⟨12, [p 9 0, i 3], Or2l20, 2913, t [a [i 3, s 1 0x51, s 2 0x4151, s 2 0x4251, s 1 0x50, b true, s 1 0x58, s 3 0x525545, s 0 0, y 0 [(0, 1)], y 0 [(1, 1)], i 0, i 0, i 2, b false, b false, b false, i 3, i 4, y 0 [(0, 1)], y 0 [(1, 1)]], i 0], Or2l20, 2914⟩
noncomputable def or2P21 : SN := ⟨12, [p 9 0, i 4], Or2l22, 2915, t [a [i 4, s 1 0x50, s 2 0x4150, s 2 0x4250, s 1 0x51, b false, s 1 0x58, s 3 0x525545, s 0 0, y 0 [(0, 1)], y 0 [(1, 1)], i 0, i 0, i 1, b false, b false, b false, i 3, i 3, y 0 [(0, 1)], y 0 [(1, 1)]], i 0], Or2l22, 2916⟩
noncomputable def or2P7 : SN := ⟨9, [p 11 0, r 736 2 2, b true], Or2l6, 737, t [a [ns, ns], b false], Or2l6, 887⟩
noncomputable def or2P8 : SN := ⟨9, [p 11 0, r 888 2 2, b true], Or2l7, 889, t [a [ns, ns], b false], Or2l7, 1042⟩
noncomputable def or2P10 : SN := ⟨10, [p 11 0, b false], Or2l9, 1043, t [a [r 2315 2 2, ns], b true], Or2l11, 2317⟩
noncomputable def or2P12 : SN := ⟨11, [p 11 0, a [r 2315 2 2, ns]], Or2l13, 2318, i 0, Or2l15, 2561⟩
noncomputable def or2P14 : SN := ⟨12, [p 9 0, i 1], Or2l15, 2561, t [a [i 1, s 1 0x50, s 2 0x4150, s 2 0x4250, s 1 0x51, b true, s 1 0x58, s 3 0x525545, s 0 0, y 0 [(0, 1)], y 0 [(1, 1)], i 0, i 0, i 2, b false, b false, b false, i 3, i 2, y 0 [(0, 1)], y 0 [(1, 1)]], i 0], Or2l15, 2562⟩
noncomputable def or2P16 : SN := ⟨12, [p 9 0, i 2], Or2l17, 2563, t [a [i 2, s 1 0x51, s 2 0x4151, s 2 0x4251, s 1 0x50, b false, s 1 0x58, s 3 0x525545, s 0 0, y 0 [(0, 1)], y 0 [(1, 1)], i 0, i 0, i 1, b false, b false, b false, i 3, i 1, y 0 [(0, 1)], y 0 [(1, 1)]], i 0], Or2l17, 2564⟩
noncomputable def or2P18 : SN := ⟨12, [p 9 0, i 3], Or2l19, 2565, t [a [i 3, s 1 0x51, s 2 0x4151, s 2 0x4251, s 1 0x50, b true, s 1 0x58, s 3 0x525545, s 0 0, y 0 [(0, 1)], y 0 [(1, 1)], i 0, i 0, i 2, b false, b false, b false, i 3, i 4, y 0 [(0, 1)], y 0 [(1, 1)]], i 0], Or2l19, 2566⟩
noncomputable def or2P20 : SN := ⟨12, [p 9 0, i 4], Or2l21, 2567, t [a [i 4, s 1 0x50, s 2 0x4150, s 2 0x4250, s 1 0x51, b false, s 1 0x58, s 3 0x525545, s 0 0, y 0 [(0, 1)], y 0 [(1, 1)], i 0, i 0, i 1, b false, b false, b false, i 3, i 3, y 0 [(0, 1)], y 0 [(1, 1)]], i 0], Or2l21, 2568⟩
noncomputable abbrev or2E (ks : List SN) (bd : List (Int × Int)) (ge : List LF) : Env := evE Tryz.prog (orHk (hkS ks) (libS bd ge (orHk (hkT orT) (mapsH bd ge [] nilH)))) bd ge []
theorem or2N {G : Gh} : ∀ t ∈ ([] : List SN), SNOk Tryz.prog G t := fun _ h => nomatch h
set_option maxRecDepth 100000 in
theorem or2H {G : Gh} {bd : List (Int × Int)} {ge : List LF} (F : Facts G bd ge []) (hm : ¬ G.mono) (hT : HooksOk Tryz.prog G (hkT orT)) {ks : List SN} (hk : ∀ t ∈ ks, SNOk Tryz.prog G t) : HooksOk Tryz.prog G (orHk (hkS ks) (libS bd ge (orHk (hkT orT) (mapsH bd ge [] nilH)))) := orHk_ok (hkS_ok progOk ks hk) (libS_ok F (orHk_ok hT (mapsH_ok F nilH_ok hm)) hm)
end Go.Proofs.YtjkphnlolfnaeaaGreat
