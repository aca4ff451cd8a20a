/- complinelaw24.CheckTwice: tables. -/
import Derived.Test.YtaajobcfbgpfoaaGreatCtL0
namespace Go.Proofs.YtaajobcfbgpfoaaGreat
open Go Go.RowKit Gv Gv.Lt
def ctI : List (Int × Int) := [(2, 1073741824), (0, 1099511627776), (1, 1073741824), (0, 1099511627776)]
def ctArgs : List V := [.sint .i64 0 [(0,1)], .sint .i64 0 [(1,1)], .sint .i64 0 [(2,1)]]
noncomputable def ctP0 : SN := ⟨15, [], Ctl0, 0, t [p 11 0, p 19 0, b true], Ctl1, 210⟩
noncomputable def ctP1 : SN := ⟨16, [p 11 0, p 19 0, a [i 19, i 0, i 0, s 1 0x50, s 2 0x4150, s 2 0x4250, s 1 0x51, b true, s 1 0x58, s 3 0x525545, s 0 0, y 0 [(0, 1)], y 0 [(1, 1)], i 0, i 0, b true, b false, s 0 0, s 0 0, s 0 0, ns, ns]], Ctl2, 211, b true, Ctl3, 317⟩
noncomputable def ctP2 : SN := ⟨16, [p 11 0, p 19 0, a [i 8, i 0, i 0, s 0 0, s 0 0, s 0 0, s 0 0, b false, s 0 0, s 0 0, s 0 0, i 0, i 0, i 0, i 0, b false, b false, s 0 0, s 0 0, s 0 0, ns, ns]], Ctl3, 317, b true, Ctl4, 466⟩
noncomputable def ctP3 : SN := ⟨16, [p 11 0, p 19 0, a [i 9, y 0 [(0, 1)], i 0, s 0 0, s 0 0, s 0 0, s 0 0, b false, s 0 0, s 0 0, s 0 0, i 0, i 0, i 0, i 0, b false, b false, s 0 0, s 2 0x4150, s 1 0x58, ns, ns]], Ctl4, 466, b true, Ctl5, 485⟩
noncomputable def ctP4 : SN := ⟨16, [p 11 0, p 19 0, a [i 9, y 0 [(1, 1)], i 0, s 0 0, s 0 0, s 0 0, s 0 0, b false, s 0 0, s 0 0, s 0 0, i 0, i 0, i 0, i 0, b false, b false, s 0 0, s 2 0x4251, s 3 0x525545, ns, ns]], Ctl5, 485, b true, Ctl6, 509⟩
noncomputable def ctP6 : SN := ⟨6, [y 0 [(0, 1)], y 0 [(1, 1)], b true], Ctl0, 0, t [p 11 0, b true], Ctl8, 509⟩
noncomputable def ctP10 : SN := ⟨8, [p 11 0, a [r 509 1 1, ns]], Ctl10, 521, i 0, Ctl14, 737⟩
noncomputable def ctP14 : SN := ⟨8, [p 11 0, a [r 518 1 1, ns]], Ctl14, 737, i 1, Ctl14, 759⟩
noncomputable def ctP18 : SN := ⟨8, [p 11 0, a [r 768 1 1, ns]], Ctl19, 770, i 0, Ctl22, 978⟩
noncomputable def ctP21 : SN := ⟨8, [p 11 0, a [r 768 1 1, ns]], Ctl25, 980, i 20, Ctl25, 993⟩
noncomputable def ctP12 : SN := ⟨8, [p 11 0, a [r 509 1 1, ns]], Ctl10, 521, i 0, Ctl16, 737⟩
noncomputable def ctP16 : SN := ⟨8, [p 11 0, a [r 518 1 1, ns]], Ctl16, 737, i 1, Ctl16, 759⟩
noncomputable def ctP19 : SN := ⟨8, [p 11 0, a [r 768 1 1, ns]], Ctl21, 770, i 0, Ctl23, 914⟩
noncomputable def ctP20 : SN := ⟨8, [p 11 0, a [r 768 1 1, ns]], Ctl24, 916, i 20, Ctl24, 929⟩
noncomputable def ctP11 : SN := ⟨8, [p 11 0, a [r 509 1 1, ns]], Ctl10, 521, i 0, Ctl15, 673⟩
noncomputable def ctP15 : SN := ⟨8, [p 11 0, a [r 518 1 1, ns]], Ctl15, 673, i 1, Ctl15, 695⟩
noncomputable def ctP22 : SN := ⟨8, [p 11 0, a [r 704 1 1, ns]], Ctl20, 706, i 0, Ctl26, 914⟩
noncomputable def ctP23 : SN := ⟨8, [p 11 0, a [r 704 1 1, ns]], Ctl27, 916, i 20, Ctl27, 929⟩
noncomputable def ctP5 : SN := ⟨16, [p 11 0, p 19 0, a [i 9, y 0 [(1, 1)], i 0, s 0 0, s 0 0, s 0 0, s 0 0, b false, s 0 0, s 0 0, s 0 0, i 0, i 0, i 0, i 0, b false, b false, s 0 0, s 2 0x4251, s 3 0x525545, ns, ns]], Ctl5, 485, b true, Ctl7, 509⟩
noncomputable def ctP7 : SN := ⟨6, [y 0 [(0, 1)], y 0 [(1, 1)], b true], Ctl0, 0, t [p 11 0, b true], Ctl9, 509⟩
noncomputable def ctP8 : SN := ⟨8, [p 11 0, a [r 509 1 1, ns]], Ctl11, 521, i 0, Ctl12, 673⟩
noncomputable def ctP9 : SN := ⟨8, [p 11 0, a [r 518 1 1, ns]], Ctl12, 673, i 1, Ctl12, 695⟩
noncomputable def ctP13 : SN := ⟨8, [p 11 0, a [r 704 1 1, ns]], Ctl13, 706, i 0, Ctl17, 850⟩
noncomputable def ctP17 : SN := ⟨8, [p 11 0, a [r 704 1 1, ns]], Ctl18, 852, i 20, Ctl18, 865⟩
noncomputable abbrev ctE (ks : List SN) (bd : List (Int × Int)) (ge : List LF) : Env := evE Tryz.prog (orHk (hkS ks) (libS bd ge (orHk (hkT ctT) (mapsH bd ge [] nilH)))) bd ge []
theorem ctN {G : Gh} : ∀ t ∈ ([] : List SN), SNOk Tryz.prog G t := fun _ h => nomatch h
set_option maxRecDepth 100000 in
theorem ctH {G : Gh} {bd : List (Int × Int)} {ge : List LF} (F : Facts G bd ge []) (hm : ¬ G.mono) (hT : HooksOk Tryz.prog G (hkT ctT)) {ks : List SN} (hk : ∀ t ∈ ks, SNOk Tryz.prog G t) : HooksOk Tryz.prog G (orHk (hkS ks) (libS bd ge (orHk (hkT ctT) (mapsH bd ge [] nilH)))) := orHk_ok (hkS_ok progOk ks hk) (libS_ok F (orHk_ok hT (mapsH_ok F nilH_ok hm)) hm)
end Go.Proofs.YtaajobcfbgpfoaaGreat
