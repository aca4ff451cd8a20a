/- complinelaw27.alive: tables. -/
import Derived.Test.YtmeifmkmlbbdgaaGreatAlL0
namespace Go.Proofs.YtmeifmkmlbbdgaaGreat
open Go Go.RowKit Gv Gv.Lt
def alI : List (Int × Int) := []
def alArgs : List V := []
noncomputable def alP0 : SN := ⟨39, [], All0, 0, t [p 11 0, p 19 0, b true], All1, 210⟩
noncomputable def alP1 : SN := ⟨40, [p 11 0, p 19 0, a [i 19, i 0, i 0, s 1 0x50, s 2 0x4150, s 2 0x4250, s 1 0x51, b true, s 1 0x58, s 3 0x525545, s 0 0, i 50, i 100, i 0, i 0, b false, b false, s 0 0, s 0 0, s 0 0, ns, ns]], All2, 211, b true, All3, 317⟩
noncomputable def alP2 : SN := ⟨40, [p 11 0, p 19 0, a [i 8, i 0, i 0, s 0 0, s 0 0, s 0 0, s 0 0, b false, s 0 0, s 0 0, s 0 0, i 0, i 0, i 0, i 0, b false, b false, s 0 0, s 0 0, s 0 0, ns, ns]], All3, 317, b true, All4, 466⟩
noncomputable def alP3 : SN := ⟨40, [p 11 0, p 19 0, a [i 9, i 50, i 0, s 0 0, s 0 0, s 0 0, s 0 0, b false, s 0 0, s 0 0, s 0 0, i 0, i 0, i 0, i 0, b false, b false, s 0 0, s 2 0x4150, s 1 0x58, ns, ns]], All4, 466, b true, All5, 485⟩
noncomputable def alP4 : SN := ⟨40, [p 11 0, p 19 0, a [i 9, i 1000, i 0, s 0 0, s 0 0, s 0 0, s 0 0, b false, s 0 0, s 0 0, s 0 0, i 0, i 0, i 0, i 0, b false, b false, s 0 0, s 2 0x4251, s 1 0x59, ns, ns]], All5, 485, b true, All6, 511⟩
noncomputable def alP5 : SN := ⟨40, [p 11 0, p 19 0, a [i 9, i 40, i 0, s 0 0, s 0 0, s 0 0, s 0 0, b false, s 0 0, s 0 0, s 0 0, i 0, i 0, i 0, i 0, b false, b false, s 0 0, s 2 0x4251, s 3 0x525545, ns, ns]], All6, 511, b true, All7, 537⟩
noncomputable def alP6 : SN := ⟨40, [p 11 0, p 19 0, a [i 9, i 10000, i 0, s 0 0, s 0 0, s 0 0, s 0 0, b false, s 0 0, s 0 0, s 0 0, i 0, i 0, i 0, i 0, b false, b false, s 0 0, s 4 0x4b4e4142, s 3 0x525545, ns, ns]], All7, 537, b true, All8, 555⟩
noncomputable def alP7 : SN := ⟨40, [p 11 0, p 19 0, a [i 13, i 1000, i 0, s 0 0, s 0 0, s 0 0, s 0 0, b false, s 0 0, s 0 0, s 0 0, i 0, i 0, i 0, i 0, b false, b false, s 1 0x51, s 0 0, s 0 0, ns, ns]], All8, 555, b true, All9, 558⟩
noncomputable def alP8 : SN := ⟨103, [p 558 0], All10, 561, t [a [r 1604 1 1, r 1858 1 1], b true], All11, 2539⟩
noncomputable def alP9 : SN := ⟨103, [p 558 0], All12, 2542, t [a [ns, ns], b false], All13, 6593⟩
noncomputable def alP10 : SN := ⟨42, [p 558 0], All10, 561, r 2541 1 1, All14, 6594⟩
noncomputable def alP11 : SN := ⟨396, [p 19 0, a [r 6637 1 1, ns]], All19, 6639, b false, All19, 6791⟩
noncomputable def alP12 : SN := ⟨397, [p 19 0, r 6637 1 1], All19, 6791, t [r 6937 1 1, i 0], All20, 6938⟩
noncomputable def alP13 : SN := ⟨396, [p 19 0, a [r 6637 1 1, r 6937 1 1]], All21, 6938, b true, All21, 7329⟩
noncomputable def alP14 : SN := ⟨315, [p 19 0, r 6614 1 1, b true], All18, 6632, t [a [r 6637 1 1, r 6937 1 1], b true], All22, 7329⟩
noncomputable def alP15 : SN := ⟨260, [p 6594 0], All17, 6597, t [a [r 6637 1 1, r 6937 1 1], b true], All23, 7330⟩
noncomputable def alP16 : SN := ⟨189, [p 6594 0], All16, 6596, t [a [r 6637 1 1, r 6937 1 1], b true], All24, 7331⟩
noncomputable def alP17 : SN := ⟨261, [p 19 0, a [r 6637 1 1, r 6937 1 1]], All26, 7333, t [r 7437 8 8, i 0], All27, 7723⟩
noncomputable def alP18 : SN := ⟨262, [p 16 0, r 7437 8 8], All27, 7723, i 0, All28, 8242⟩
noncomputable def alP19 : SN := ⟨190, [p 19 0, a [r 6637 1 1, r 6937 1 1]], All25, 7332, i 0, All29, 8313⟩
noncomputable def alP20 : SN := ⟨104, [p 6594 0], All15, 6595, t [a [r 6637 1 1, r 6937 1 1], b true], All30, 8313⟩
noncomputable def alP21 : SN := ⟨260, [p 6594 0], All33, 8318, t [a [ns, ns], b false], All33, 8321⟩
noncomputable def alP22 : SN := ⟨399, [p 19 0, ns, b true], All36, 8327, a [ns, ns], All36, 8329⟩
noncomputable def alP23 : SN := ⟨398, [p 19 0, ns, b true], All36, 8327, t [ns, b true], All36, 8330⟩
noncomputable def alP24 : SN := ⟨316, [p 19 0, b true], All35, 8324, t [a [ns, ns], b false], All35, 8330⟩
noncomputable def alP25 : SN := ⟨260, [p 6594 0], All34, 8322, t [a [ns, ns], b false], All37, 8330⟩
noncomputable def alP26 : SN := ⟨260, [p 6594 0], All38, 8331, t [a [ns, ns], b false], All38, 8334⟩
noncomputable def alP27 : SN := ⟨260, [p 6594 0], All39, 8335, t [a [ns, ns], b false], All39, 8338⟩
noncomputable def alP28 : SN := ⟨399, [p 19 0, ns, b true], All42, 8344, a [ns, ns], All42, 8346⟩
noncomputable def alP29 : SN := ⟨398, [p 19 0, ns, b true], All42, 8344, t [ns, b true], All42, 8347⟩
noncomputable def alP30 : SN := ⟨316, [p 19 0, b true], All41, 8341, t [a [ns, ns], b false], All41, 8347⟩
noncomputable def alP31 : SN := ⟨260, [p 6594 0], All40, 8339, t [a [ns, ns], b false], All43, 8347⟩
noncomputable def alP32 : SN := ⟨260, [p 6594 0], All44, 8348, t [a [ns, ns], b false], All44, 8351⟩
noncomputable def alP33 : SN := ⟨189, [p 6594 0], All32, 8317, t [a [ns, ns], b false], All45, 8352⟩
noncomputable def alP34 : SN := ⟨104, [p 6594 0], All31, 8316, t [a [ns, ns], b false], All46, 8353⟩
noncomputable def alP35 : SN := ⟨44, [p 6594 0], All15, 6595, r 8315 1 1, All47, 8354⟩
noncomputable def alP36 : SN := ⟨18, [i 100, i 40], All0, 0, t [p 11 0, p 19 0, b true], All48, 8354⟩
noncomputable def alP37 : SN := ⟨5, [p 11 0], All49, 8366, t [a [r 8435 1 1, ns, ns, i 1], i 0], All50, 8491⟩
noncomputable abbrev alE (ks : List SN) (bd : List (Int × Int)) (ge : List LF) : Env := evE Tryz.prog (orHk (hkS ks) (libS bd ge (mapsMd bd ge))) bd ge []
theorem alN {G : Gh} : ∀ t ∈ ([] : List SN), SNOk Tryz.prog G t := fun _ h => nomatch h
set_option maxRecDepth 100000 in
theorem alH {G : Gh} {bd : List (Int × Int)} {ge : List LF} (F : Facts G bd ge []) (hm : ¬ G.mono) {ks : List SN} (hk : ∀ t ∈ ks, SNOk Tryz.prog G t) : HooksOk Tryz.prog G (orHk (hkS ks) (libS bd ge (mapsMd bd ge))) := orHk_ok (hkS_ok progOk ks hk) (libS_ok F (mapsMd_ok hm F) hm)
end Go.Proofs.YtmeifmkmlbbdgaaGreat
