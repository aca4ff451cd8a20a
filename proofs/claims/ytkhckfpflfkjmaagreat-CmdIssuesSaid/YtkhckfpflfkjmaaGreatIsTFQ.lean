/- complinelaw28.CmdIssues: tables. -/
import Derived.Test.YtkhckfpflfkjmaaGreatIsTFL0
namespace Go.Proofs.YtkhckfpflfkjmaaGreat
open Go Go.RowKit Gv Gv.Lt
theorem istf_c0 {G : Gh} (e0 : G.ε 0 = txV 4 1263419714) (φ : Mp) : concL G φ ([p 6 0, s 4 0x4b4e4142]) = concL G φ ([p 6 0, o 0]) := by simp [Lt.p, Lt.o, Lt.s, concL, conc, txV, e0]
theorem istf_d1 {G : Gh} (e1 : G.ε 10 = txV 4 1263419714) (e2 : G.ε 11 = txV 4 1263419714) (φ : Mp) : conc G φ (t [a [o 10, o 11], b true]) = conc G φ (t [a [s 4 0x4b4e4142, s 4 0x4b4e4142], b true]) := by simp [Lt.o, Lt.s, Lt.a, Lt.t, Lt.b, concL, conc, txV, e1, e2]
theorem istf_c2 {G : Gh} (e0 : G.ε 0 = txV 2 16720) (φ : Mp) : concL G φ ([p 6 0, s 2 0x4150]) = concL G φ ([p 6 0, o 0]) := by simp [Lt.p, Lt.o, Lt.s, concL, conc, txV, e0]
theorem istf_d3 {G : Gh} (e1 : G.ε 10 = txV 2 16720) (e2 : G.ε 11 = txV 1 80) (φ : Mp) : conc G φ (t [a [o 10, o 11], b true]) = conc G φ (t [a [s 2 0x4150, s 1 0x50], b true]) := by simp [Lt.o, Lt.s, Lt.a, Lt.t, Lt.b, concL, conc, txV, e1, e2]
theorem istf_c4 {G : Gh} (e0 : G.ε 0 = txV 2 16976) (φ : Mp) : concL G φ ([p 6 0, s 2 0x4250]) = concL G φ ([p 6 0, o 0]) := by simp [Lt.p, Lt.o, Lt.s, concL, conc, txV, e0]
theorem istf_d5 {G : Gh} (e1 : G.ε 10 = txV 2 16976) (e2 : G.ε 11 = txV 1 80) (φ : Mp) : conc G φ (t [a [o 10, o 11], b true]) = conc G φ (t [a [s 2 0x4250, s 1 0x50], b true]) := by simp [Lt.o, Lt.s, Lt.a, Lt.t, Lt.b, concL, conc, txV, e1, e2]
theorem istf_c6 {G : Gh} (e0 : G.ε 0 = txV 2 16721) (φ : Mp) : concL G φ ([p 6 0, s 2 0x4151]) = concL G φ ([p 6 0, o 0]) := by simp [Lt.p, Lt.o, Lt.s, concL, conc, txV, e0]
theorem istf_d7 {G : Gh} (e1 : G.ε 10 = txV 2 16721) (e2 : G.ε 11 = txV 1 81) (φ : Mp) : conc G φ (t [a [o 10, o 11], b true]) = conc G φ (t [a [s 2 0x4151, s 1 0x51], b true]) := by simp [Lt.o, Lt.s, Lt.a, Lt.t, Lt.b, concL, conc, txV, e1, e2]
theorem istf_c8 {G : Gh} (e0 : G.ε 0 = txV 2 16977) (φ : Mp) : concL G φ ([p 6 0, s 2 0x4251]) = concL G φ ([p 6 0, o 0]) := by simp [Lt.p, Lt.o, Lt.s, concL, conc, txV, e0]
theorem istf_d9 {G : Gh} (e1 : G.ε 10 = txV 2 16977) (e2 : G.ε 11 = txV 1 81) (φ : Mp) : conc G φ (t [a [o 10, o 11], b true]) = conc G φ (t [a [s 2 0x4251, s 1 0x51], b true]) := by simp [Lt.o, Lt.s, Lt.a, Lt.t, Lt.b, concL, conc, txV, e1, e2]
theorem istf_c10 {G : Gh} (e0 : G.ε 0 = txV 2 16722) (φ : Mp) : concL G φ ([p 6 0, s 2 0x4152]) = concL G φ ([p 6 0, o 0]) := by simp [Lt.p, Lt.o, Lt.s, concL, conc, txV, e0]
theorem istf_d11 {G : Gh} (e1 : G.ε 10 = txV 2 16722) (e2 : G.ε 11 = txV 1 82) (φ : Mp) : conc G φ (t [a [o 10, o 11], b true]) = conc G φ (t [a [s 2 0x4152, s 1 0x52], b true]) := by simp [Lt.o, Lt.s, Lt.a, Lt.t, Lt.b, concL, conc, txV, e1, e2]
theorem istf_c12 {G : Gh} (e0 : G.ε 0 = txV 2 16978) (φ : Mp) : concL G φ ([p 6 0, s 2 0x4252]) = concL G φ ([p 6 0, o 0]) := by simp [Lt.p, Lt.o, Lt.s, concL, conc, txV, e0]
theorem istf_d13 {G : Gh} (e1 : G.ε 10 = txV 2 16978) (e2 : G.ε 11 = txV 1 82) (φ : Mp) : conc G φ (t [a [o 10, o 11], b true]) = conc G φ (t [a [s 2 0x4252, s 1 0x52], b true]) := by simp [Lt.o, Lt.s, Lt.a, Lt.t, Lt.b, concL, conc, txV, e1, e2]
theorem istf_c14 {G : Gh} (e0 : G.ε 0 = txV 4 1263419714) (φ : Mp) : concL G φ ([p 15 0, s 4 0x4b4e4142]) = concL G φ ([p 15 0, o 0]) := by simp [Lt.p, Lt.o, Lt.s, concL, conc, txV, e0]
theorem istf_c15 {G : Gh} (e0 : G.ε 0 = txV 2 16720) (φ : Mp) : concL G φ ([p 15 0, s 2 0x4150]) = concL G φ ([p 15 0, o 0]) := by simp [Lt.p, Lt.o, Lt.s, concL, conc, txV, e0]
theorem istf_c16 {G : Gh} (e0 : G.ε 0 = txV 2 16976) (φ : Mp) : concL G φ ([p 15 0, s 2 0x4250]) = concL G φ ([p 15 0, o 0]) := by simp [Lt.p, Lt.o, Lt.s, concL, conc, txV, e0]
theorem istf_c17 {G : Gh} (e0 : G.ε 0 = txV 2 16721) (φ : Mp) : concL G φ ([p 15 0, s 2 0x4151]) = concL G φ ([p 15 0, o 0]) := by simp [Lt.p, Lt.o, Lt.s, concL, conc, txV, e0]
theorem istf_c18 {G : Gh} (e0 : G.ε 0 = txV 2 16977) (φ : Mp) : concL G φ ([p 15 0, s 2 0x4251]) = concL G φ ([p 15 0, o 0]) := by simp [Lt.p, Lt.o, Lt.s, concL, conc, txV, e0]
theorem istf_c19 {G : Gh} (e0 : G.ε 0 = txV 2 16722) (φ : Mp) : concL G φ ([p 15 0, s 2 0x4152]) = concL G φ ([p 15 0, o 0]) := by simp [Lt.p, Lt.o, Lt.s, concL, conc, txV, e0]
theorem istf_c20 {G : Gh} (e0 : G.ε 0 = txV 2 16978) (φ : Mp) : concL G φ ([p 15 0, s 2 0x4252]) = concL G φ ([p 15 0, o 0]) := by simp [Lt.p, Lt.o, Lt.s, concL, conc, txV, e0]
def istfI : List (Int × Int) := [(-9223372036854775808, 9223372036854775807), (-9223372036854775808, 9223372036854775807), (0, 300), (0, 300)]
def istfArgs : List V := [.sint .i64 0 [(0,1)], .sint .i64 0 [(1,1)], .opq 0, .opq 1]
noncomputable def istfP0 : SN := ⟨12, [], IsTFl0, 0, t [p 11 0, p 19 0, b true], IsTFl1, 210⟩
noncomputable def istfP1 : SN := ⟨352, [p 6 0, o 0], IsTFl3, 233, t [a [o 10, o 11], b true], IsTFl3, 235⟩
noncomputable def istfP2 : SN := ⟨95, [p 6 0, o 1], IsTFl4, 236, t [a [s 0 0, b false, b false, i 0, i 0, i 0, i 0, i 0], b false], IsTFl4, 238⟩
noncomputable def istfP3 : SN := ⟨10, [p 11 0, a [i 7, s 4 0x4b4e4142, r 211 1 1, r 210 2 2]], IsTFl2, 213, a [i 7, ns, ns], IsTFl2, 241⟩
noncomputable def istfP4 : SN := ⟨352, [p 6 0, o 0], IsTFl6, 263, t [a [o 10, o 11], b true], IsTFl6, 265⟩
noncomputable def istfP5 : SN := ⟨95, [p 6 0, o 1], IsTFl7, 266, t [a [s 0 0, b false, b false, i 0, i 0, i 0, i 0, i 0], b false], IsTFl7, 268⟩
noncomputable def istfP6 : SN := ⟨10, [p 11 0, a [i 7, s 4 0x4b4e4142, r 242 1 1, r 210 2 2]], IsTFl5, 243, a [i 7, ns, ns], IsTFl5, 271⟩
noncomputable def istfP7 : SN := ⟨10, [p 11 0, a [i 31, s 0 0, ns, r 272 2 2]], IsTFl8, 273, a [i 0, r 302 3 3, ns], IsTFl9, 303⟩
noncomputable def istfP8 : SN := ⟨13, [p 15 0, o 0], IsTFl10, 304, t [a [o 10, o 11], b true], IsTFl10, 305⟩
noncomputable def istfP9 : SN := ⟨14, [p 15 0, o 1], IsTFl11, 306, t [a [s 0 0, b false, b false, i 0, i 0, i 0, i 0, i 0], b false], IsTFl11, 307⟩
noncomputable def istfP1_0 : SN := ⟨352, [p 6 0, s 4 0x4b4e4142], IsTFl3, 233, t [a [s 4 0x4b4e4142, s 4 0x4b4e4142], b true], IsTFl3, 235⟩
noncomputable def istfP1_1 : SN := ⟨352, [p 6 0, s 2 0x4150], IsTFl3, 233, t [a [s 2 0x4150, s 1 0x50], b true], IsTFl3, 235⟩
noncomputable def istfP1_2 : SN := ⟨352, [p 6 0, s 2 0x4250], IsTFl3, 233, t [a [s 2 0x4250, s 1 0x50], b true], IsTFl3, 235⟩
noncomputable def istfP1_3 : SN := ⟨352, [p 6 0, s 2 0x4151], IsTFl3, 233, t [a [s 2 0x4151, s 1 0x51], b true], IsTFl3, 235⟩
noncomputable def istfP1_4 : SN := ⟨352, [p 6 0, s 2 0x4251], IsTFl3, 233, t [a [s 2 0x4251, s 1 0x51], b true], IsTFl3, 235⟩
noncomputable def istfP1_5 : SN := ⟨352, [p 6 0, s 2 0x4152], IsTFl3, 233, t [a [s 2 0x4152, s 1 0x52], b true], IsTFl3, 235⟩
noncomputable def istfP1_6 : SN := ⟨352, [p 6 0, s 2 0x4252], IsTFl3, 233, t [a [s 2 0x4252, s 1 0x52], b true], IsTFl3, 235⟩
noncomputable def istfP4_0 : SN := ⟨352, [p 6 0, s 4 0x4b4e4142], IsTFl6, 263, t [a [s 4 0x4b4e4142, s 4 0x4b4e4142], b true], IsTFl6, 265⟩
noncomputable def istfP4_1 : SN := ⟨352, [p 6 0, s 2 0x4150], IsTFl6, 263, t [a [s 2 0x4150, s 1 0x50], b true], IsTFl6, 265⟩
noncomputable def istfP4_2 : SN := ⟨352, [p 6 0, s 2 0x4250], IsTFl6, 263, t [a [s 2 0x4250, s 1 0x50], b true], IsTFl6, 265⟩
noncomputable def istfP4_3 : SN := ⟨352, [p 6 0, s 2 0x4151], IsTFl6, 263, t [a [s 2 0x4151, s 1 0x51], b true], IsTFl6, 265⟩
noncomputable def istfP4_4 : SN := ⟨352, [p 6 0, s 2 0x4251], IsTFl6, 263, t [a [s 2 0x4251, s 1 0x51], b true], IsTFl6, 265⟩
noncomputable def istfP4_5 : SN := ⟨352, [p 6 0, s 2 0x4152], IsTFl6, 263, t [a [s 2 0x4152, s 1 0x52], b true], IsTFl6, 265⟩
noncomputable def istfP4_6 : SN := ⟨352, [p 6 0, s 2 0x4252], IsTFl6, 263, t [a [s 2 0x4252, s 1 0x52], b true], IsTFl6, 265⟩
noncomputable def istfP8_0 : SN := ⟨13, [p 15 0, s 4 0x4b4e4142], IsTFl10, 304, t [a [s 4 0x4b4e4142, s 4 0x4b4e4142], b true], IsTFl10, 305⟩
noncomputable def istfP8_1 : SN := ⟨13, [p 15 0, s 2 0x4150], IsTFl10, 304, t [a [s 2 0x4150, s 1 0x50], b true], IsTFl10, 305⟩
noncomputable def istfP8_2 : SN := ⟨13, [p 15 0, s 2 0x4250], IsTFl10, 304, t [a [s 2 0x4250, s 1 0x50], b true], IsTFl10, 305⟩
noncomputable def istfP8_3 : SN := ⟨13, [p 15 0, s 2 0x4151], IsTFl10, 304, t [a [s 2 0x4151, s 1 0x51], b true], IsTFl10, 305⟩
noncomputable def istfP8_4 : SN := ⟨13, [p 15 0, s 2 0x4251], IsTFl10, 304, t [a [s 2 0x4251, s 1 0x51], b true], IsTFl10, 305⟩
noncomputable def istfP8_5 : SN := ⟨13, [p 15 0, s 2 0x4152], IsTFl10, 304, t [a [s 2 0x4152, s 1 0x52], b true], IsTFl10, 305⟩
noncomputable def istfP8_6 : SN := ⟨13, [p 15 0, s 2 0x4252], IsTFl10, 304, t [a [s 2 0x4252, s 1 0x52], b true], IsTFl10, 305⟩
noncomputable abbrev istfE (ks : List SN) (bd : List (Int × Int)) (ge : List LF) : Env := evE Tryz.prog (orHk (hkS ks) (isH bd ge [⟨30, .i64, (0,[(2,1)]), (0,[]), 0⟩, ⟨30, .i64, (0,[(3,1)]), (0,[]), 1⟩, ⟨31, .i64, (1,[]), (88,[]), 1⟩, ⟨31, .i64, (1,[]), (89,[]), 1⟩, ⟨31, .i64, (1,[]), (90,[]), 1⟩, ⟨31, .i64, (3,[]), (5395781,[]), 1⟩, ⟨31, .i64, (3,[]), (4477781,[]), 1⟩])) bd ge [⟨30, .i64, (0,[(2,1)]), (0,[]), 0⟩, ⟨30, .i64, (0,[(3,1)]), (0,[]), 1⟩, ⟨31, .i64, (1,[]), (88,[]), 1⟩, ⟨31, .i64, (1,[]), (89,[]), 1⟩, ⟨31, .i64, (1,[]), (90,[]), 1⟩, ⟨31, .i64, (3,[]), (5395781,[]), 1⟩, ⟨31, .i64, (3,[]), (4477781,[]), 1⟩]
abbrev istfNL : List NL := [⟨30, .i64, (0,[(2,1)]), (0,[]), 0⟩, ⟨30, .i64, (0,[(3,1)]), (0,[]), 1⟩, ⟨31, .i64, (1,[]), (88,[]), 1⟩, ⟨31, .i64, (1,[]), (89,[]), 1⟩, ⟨31, .i64, (1,[]), (90,[]), 1⟩, ⟨31, .i64, (3,[]), (5395781,[]), 1⟩, ⟨31, .i64, (3,[]), (4477781,[]), 1⟩]
abbrev istfC (ks : List SN) (ge : List LF) (f : Nat) (t : SN) : Prop := isSn t (callN (istfE ks istfI ge) 100 f t.args t.h0) = true
theorem istf_sc {G : Gh} {t t' : SN} (ok : SNOk Tryz.prog G t') (ha : ∀ φ, concL G φ t'.args = concL G φ t.args) (hv : ∀ φ, conc G φ t.v = conc G φ t'.v) (hf : t'.f = t.f := by rfl) (h0 : t'.l0 = t.l0 := by rfl) (hn0 : t'.n0 = t.n0 := by rfl) (h1 : t'.l1 = t.l1 := by rfl) (hn1 : t'.n1 ≤ t.n1 := by show (_ : Nat) ≤ _; decide) : SNOk Tryz.prog G t :=
  sn_case hf (fun φ _ h => (ha φ).trans h) h0 hn0 h1 hn1 (fun φ _ h => (hv φ).trans h) ok
theorem istfN {G : Gh} : ∀ t ∈ ([] : List SN), SNOk Tryz.prog G t := fun _ h => nomatch h
set_option maxRecDepth 100000 in
theorem istfH {G : Gh} {bd : List (Int × Int)} {ge : List LF} (F : Facts G bd ge [⟨30, .i64, (0,[(2,1)]), (0,[]), 0⟩, ⟨30, .i64, (0,[(3,1)]), (0,[]), 1⟩, ⟨31, .i64, (1,[]), (88,[]), 1⟩, ⟨31, .i64, (1,[]), (89,[]), 1⟩, ⟨31, .i64, (1,[]), (90,[]), 1⟩, ⟨31, .i64, (3,[]), (5395781,[]), 1⟩, ⟨31, .i64, (3,[]), (4477781,[]), 1⟩]) (hm : ¬ G.mono) (hT : HooksOk Tryz.prog G (hkT isT)) {ks : List SN} (hk : ∀ t ∈ ks, SNOk Tryz.prog G t) : HooksOk Tryz.prog G (orHk (hkS ks) (isH bd ge [⟨30, .i64, (0,[(2,1)]), (0,[]), 0⟩, ⟨30, .i64, (0,[(3,1)]), (0,[]), 1⟩, ⟨31, .i64, (1,[]), (88,[]), 1⟩, ⟨31, .i64, (1,[]), (89,[]), 1⟩, ⟨31, .i64, (1,[]), (90,[]), 1⟩, ⟨31, .i64, (3,[]), (5395781,[]), 1⟩, ⟨31, .i64, (3,[]), (4477781,[]), 1⟩])) := orHk_ok (hkS_ok progOk ks hk) (isH_ok F hT hm)
end Go.Proofs.YtkhckfpflfkjmaaGreat
