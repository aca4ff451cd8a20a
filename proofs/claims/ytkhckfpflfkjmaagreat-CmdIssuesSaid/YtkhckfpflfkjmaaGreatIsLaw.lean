/- complinelaw28.CmdIssues returns true, for every input. -/
import Derived.Test.YtkhckfpflfkjmaaGreatIsHt
import Derived.Test.YtkhckfpflfkjmaaGreatIsTTIn
import Derived.Test.YtkhckfpflfkjmaaGreatIsTFIn
import Derived.Test.YtkhckfpflfkjmaaGreatIsFTIn
import Derived.Test.YtkhckfpflfkjmaaGreatIsFFIn
namespace Go.Proofs.YtkhckfpflfkjmaaGreat
open Go Go.RowKit Gv
def isO : List (Int × Int) := [(-9223372036854775808, 9223372036854775807), (-9223372036854775808, 9223372036854775807), (0, 9223372036854775807), (0, 9223372036854775807)]
def isOArgs : List V := [.sint .i64 0 [(0,1)], .sint .i64 0 [(1,1)], .opq 0, .opq 1]
def isNl : List NL := [⟨30, .i64, (0,[(2,1)]), (0,[]), 0⟩, ⟨30, .i64, (0,[(3,1)]), (0,[]), 1⟩]
abbrev IsRun (bd : List (Int × Int)) (ge : List LF) : Prop := (callN (evE Tryz.prog (isH bd ge isNl) bd ge isNl) 100 4 isOArgs H0).isTrue = true
theorem iso0 : IsRun isO [(-301,[(2,1)])] := by unfold IsRun; kernel_rfl
theorem iso1 : IsRun isO [(-301,[(3,1)]), (300,[(2,-1)])] := by unfold IsRun; kernel_rfl
theorem isA {sa : ByteArray} (h : (∃ k ∈ ([(4, 1263419714), (2, 16720), (2, 16976), (2, 16721), (2, 16977), (2, 16722), (2, 16978)] : List (Nat × Nat)), sa.data.toList = strL k.1 k.2)) : ∃ a1 a2 : ByteArray, ∀ G : Gh, G.ε 0 = .string sa → G.ε 10 = .string a1 → G.ε 11 = .string a2 → KA G := by
  obtain ⟨k, hk, he⟩ := h
  have e := str_eq he
  simp only [List.mem_cons, List.not_mem_nil, or_false] at hk
  rcases hk with rfl | rfl | rfl | rfl | rfl | rfl | rfl
  · exact ⟨⟨(strL 4 1263419714).toArray⟩, ⟨(strL 4 1263419714).toArray⟩, fun G h0 h1 h2 => (.inl ⟨h0.trans e, h1, h2⟩)⟩
  · exact ⟨⟨(strL 2 16720).toArray⟩, ⟨(strL 1 80).toArray⟩, fun G h0 h1 h2 => (.inr (.inl ⟨h0.trans e, h1, h2⟩))⟩
  · exact ⟨⟨(strL 2 16976).toArray⟩, ⟨(strL 1 80).toArray⟩, fun G h0 h1 h2 => (.inr (.inr (.inl ⟨h0.trans e, h1, h2⟩)))⟩
  · exact ⟨⟨(strL 2 16721).toArray⟩, ⟨(strL 1 81).toArray⟩, fun G h0 h1 h2 => (.inr (.inr (.inr (.inl ⟨h0.trans e, h1, h2⟩))))⟩
  · exact ⟨⟨(strL 2 16977).toArray⟩, ⟨(strL 1 81).toArray⟩, fun G h0 h1 h2 => (.inr (.inr (.inr (.inr (.inl ⟨h0.trans e, h1, h2⟩)))))⟩
  · exact ⟨⟨(strL 2 16722).toArray⟩, ⟨(strL 1 82).toArray⟩, fun G h0 h1 h2 => (.inr (.inr (.inr (.inr (.inr (.inl ⟨h0.trans e, h1, h2⟩))))))⟩
  · exact ⟨⟨(strL 2 16978).toArray⟩, ⟨(strL 1 82).toArray⟩, fun G h0 h1 h2 => (.inr (.inr (.inr (.inr (.inr (.inr ⟨h0.trans e, h1, h2⟩))))))⟩
theorem isS {ss : ByteArray} (h : (∃ k ∈ ([(1, 88), (1, 89), (1, 90), (3, 5395781), (3, 4477781)] : List (Nat × Nat)), ss.data.toList = strL k.1 k.2)) : ∃ (s12 : ByteArray) (b13 b14 : Bool) (i15 i16 i17 i18 i19 : Int), ∀ G : Gh, G.ε 1 = .string ss → G.ε 12 = .string s12 → G.ε 13 = .bool b13 → G.ε 14 = .bool b14 → G.ε 15 = .int .i64 i15 → G.ε 16 = .int .i64 i16 → G.ε 17 = .int .i64 i17 → G.ε 18 = .int .i64 i18 → G.ε 19 = .int .i64 i19 → KS G := by
  obtain ⟨k, hk, he⟩ := h
  have e := str_eq he
  simp only [List.mem_cons, List.not_mem_nil, or_false] at hk
  rcases hk with rfl | rfl | rfl | rfl | rfl
  · exact ⟨⟨(strL 1 88).toArray⟩, false, true, 1, 1, 10, 1000, 0, fun G h0 h1 h2 h3 h4 h5 h6 h7 h8 => (.inl ⟨h0.trans e, h1, h2, h3, h4, h5, h6, h7, h8⟩)⟩
  · exact ⟨⟨(strL 1 89).toArray⟩, false, true, 10, 20, 3, 5000, 0, fun G h0 h1 h2 h3 h4 h5 h6 h7 h8 => (.inr (.inl ⟨h0.trans e, h1, h2, h3, h4, h5, h6, h7, h8⟩))⟩
  · exact ⟨⟨(strL 1 90).toArray⟩, false, false, 5, 10, 7, 0, 0, fun G h0 h1 h2 h3 h4 h5 h6 h7 h8 => (.inr (.inr (.inl ⟨h0.trans e, h1, h2, h3, h4, h5, h6, h7, h8⟩)))⟩
  · exact ⟨⟨(strL 3 5395781).toArray⟩, true, false, 1, 1, 0, 0, 2, fun G h0 h1 h2 h3 h4 h5 h6 h7 h8 => (.inr (.inr (.inr (.inl ⟨h0.trans e, h1, h2, h3, h4, h5, h6, h7, h8⟩))))⟩
  · exact ⟨⟨(strL 3 4477781).toArray⟩, true, false, 1, 1, 0, 0, 0, fun G h0 h1 h2 h3 h4 h5 h6 h7 h8 => (.inr (.inr (.inr (.inr ⟨h0.trans e, h1, h2, h3, h4, h5, h6, h7, h8⟩))))⟩
set_option maxRecDepth 100000 in
set_option maxHeartbeats 4000000 in
theorem isMid (n m : Int) (sa ss : ByteArray) (h0 : -9223372036854775808 ≤ n ∧ n ≤ 9223372036854775807) (h1 : -9223372036854775808 ≤ m ∧ m ≤ 9223372036854775807) (h2 : sa.size ≤ 300) (h3 : ss.size ≤ 300) (w : World) : Calls Tryz.prog 4 #[.int .i64 n, .int .i64 m, .string sa, .string ss] w (TrueBelow w) := by
  have e2 : (0 : Int) ≤ (sa.size : Int) ∧ (sa.size : Int) ≤ 300 := by omega
  have e3 : (0 : Int) ≤ (ss.size : Int) ∧ (ss.size : Int) ≤ 300 := by omega
  by_cases ka : (∃ k ∈ ([(4, 1263419714), (2, 16720), (2, 16976), (2, 16721), (2, 16977), (2, 16722), (2, 16978)] : List (Nat × Nat)), sa.data.toList = strL k.1 k.2)
  · obtain ⟨a1, a2, hA⟩ := isA ka
    by_cases ks : (∃ k ∈ ([(1, 88), (1, 89), (1, 90), (3, 5395781), (3, 4477781)] : List (Nat × Nat)), ss.data.toList = strL k.1 k.2)
    · obtain ⟨s12, b13, b14, i15, i16, i17, i18, i19, hS⟩ := isS ks
      exact istt_in n m sa.size ss.size sa ss a1 a2 s12 b13 b14 i15 i16 i17 i18 i19 w ⟨nlLen rfl rfl, nlLen rfl rfl, trivial⟩ (hA _ rfl rfl rfl) (hS _ rfl rfl rfl rfl rfl rfl rfl rfl rfl) (isT_ok _ (fun h => h)) ⟨h0, h1, e2, e3, trivial⟩ trivial
    · have hn : ∀ k ∈ ([(1, 88), (1, 89), (1, 90), (3, 5395781), (3, 4477781)] : List (Nat × Nat)), ss.data.toList ≠ strL k.1 k.2 := fun k hk he => ks ⟨k, hk, he⟩
      exact istf_in n m sa.size ss.size sa ss a1 a2 sa false false 0 0 0 0 0 w ⟨nlLen rfl rfl, nlLen rfl rfl, nlNot rfl (hn (1, 88) (by simp)) rfl rfl, nlNot rfl (hn (1, 89) (by simp)) rfl rfl, nlNot rfl (hn (1, 90) (by simp)) rfl rfl, nlNot rfl (hn (3, 5395781) (by simp)) rfl rfl, nlNot rfl (hn (3, 4477781) (by simp)) rfl rfl, trivial⟩ (hA _ rfl rfl rfl) (isT_ok _ (fun h => h)) ⟨h0, h1, e2, e3, trivial⟩ trivial
  · have hna : ∀ k ∈ ([(4, 1263419714), (2, 16720), (2, 16976), (2, 16721), (2, 16977), (2, 16722), (2, 16978)] : List (Nat × Nat)), sa.data.toList ≠ strL k.1 k.2 := fun k hk he => ka ⟨k, hk, he⟩
    by_cases ks : (∃ k ∈ ([(1, 88), (1, 89), (1, 90), (3, 5395781), (3, 4477781)] : List (Nat × Nat)), ss.data.toList = strL k.1 k.2)
    · obtain ⟨s12, b13, b14, i15, i16, i17, i18, i19, hS⟩ := isS ks
      exact isft_in n m sa.size ss.size sa ss sa sa s12 b13 b14 i15 i16 i17 i18 i19 w ⟨nlLen rfl rfl, nlLen rfl rfl, nlNot rfl (hna (4, 1263419714) (by simp)) rfl rfl, nlNot rfl (hna (2, 16720) (by simp)) rfl rfl, nlNot rfl (hna (2, 16976) (by simp)) rfl rfl, nlNot rfl (hna (2, 16721) (by simp)) rfl rfl, nlNot rfl (hna (2, 16977) (by simp)) rfl rfl, nlNot rfl (hna (2, 16722) (by simp)) rfl rfl, nlNot rfl (hna (2, 16978) (by simp)) rfl rfl, trivial⟩ (hS _ rfl rfl rfl rfl rfl rfl rfl rfl rfl) (isT_ok _ (fun h => h)) ⟨h0, h1, e2, e3, trivial⟩ trivial
    · have hn : ∀ k ∈ ([(1, 88), (1, 89), (1, 90), (3, 5395781), (3, 4477781)] : List (Nat × Nat)), ss.data.toList ≠ strL k.1 k.2 := fun k hk he => ks ⟨k, hk, he⟩
      exact isff_in n m sa.size ss.size sa ss sa sa sa false false 0 0 0 0 0 w ⟨nlLen rfl rfl, nlLen rfl rfl, nlNot rfl (hna (4, 1263419714) (by simp)) rfl rfl, nlNot rfl (hna (2, 16720) (by simp)) rfl rfl, nlNot rfl (hna (2, 16976) (by simp)) rfl rfl, nlNot rfl (hna (2, 16721) (by simp)) rfl rfl, nlNot rfl (hna (2, 16977) (by simp)) rfl rfl, nlNot rfl (hna (2, 16722) (by simp)) rfl rfl, nlNot rfl (hna (2, 16978) (by simp)) rfl rfl, nlNot rfl (hn (1, 88) (by simp)) rfl rfl, nlNot rfl (hn (1, 89) (by simp)) rfl rfl, nlNot rfl (hn (1, 90) (by simp)) rfl rfl, nlNot rfl (hn (3, 5395781) (by simp)) rfl rfl, nlNot rfl (hn (3, 4477781) (by simp)) rfl rfl, trivial⟩ (isT_ok _ (fun h => h)) ⟨h0, h1, e2, e3, trivial⟩ trivial
set_option maxRecDepth 100000 in
set_option maxHeartbeats 4000000 in
theorem isAll (n m : Int) (sa ss : ByteArray) (h0 : -9223372036854775808 ≤ n ∧ n ≤ 9223372036854775807) (h1 : -9223372036854775808 ≤ m ∧ m ≤ 9223372036854775807) (h2 : (sa.size : Int) ≤ 9223372036854775807) (h3 : (ss.size : Int) ≤ 9223372036854775807) (w : World) : Calls Tryz.prog 4 #[.int .i64 n, .int .i64 m, .string sa, .string ss] w (TrueBelow w) := by
  have out : ∀ {ge : List LF}, IsRun isO ge → geOk (mkGh [.string sa, .string ss] [n, m, (sa.size : Int), (ss.size : Int)] rfl).σ ge → Calls Tryz.prog 4 #[.int .i64 n, .int .i64 m, .string sa, .string ss] w (TrueBelow w) := fun {ge} hr hg => by
    have F : Facts (mkGh [.string sa, .string ss] [n, m, (sa.size : Int), (ss.size : Int)] rfl) isO ge isNl := ⟨⟨h0, h1, ⟨by show (0 : Int) ≤ (sa.size : Int); omega, h2⟩, ⟨by show (0 : Int) ≤ (ss.size : Int); omega, h3⟩, trivial⟩, hg, ⟨nlLen rfl rfl, nlLen rfl rfl, trivial⟩⟩
    exact run_true (nl := isNl) progOk F (isH_ok F (isT_ok _ (fun h => h)) (fun h => h)) Tryz.func4 rfl (by simp [isOArgs, concL, conc, den, mkGh]) hr w
  by_cases c0 : 300 < sa.size
  · exact out iso0 (by simp [geOk, den, mkGh]; omega)
  · by_cases c1 : 300 < ss.size
    · exact out iso1 (by simp [geOk, den, mkGh]; omega)
    · exact isMid n m sa ss h0 h1 (by omega) (by omega) w
set_option maxRecDepth 100000 in
theorem is_int {W : World} {base : Nat} {v : Value} (h : Value.okWide Tryz.prog W .any base 3 v) : ∃ n, v = .int .i64 n ∧ -9223372036854775808 ≤ n ∧ n ≤ 9223372036854775807 := by
  unfold Value.okWide at h
  rw [Tryz.underlying3] at h
  exact cell_int Tryz.underlying3 h
set_option maxRecDepth 100000 in
theorem is_str {W : World} {base : Nat} {v : Value} (h : Value.okWide Tryz.prog W .any base 9 v) : ∃ s, v = .string s ∧ (s.size : Int) ≤ 9223372036854775807 := by
  unfold Value.okWide at h
  rw [Tryz.underlying9] at h
  unfold Cell.okWide at h
  rw [Tryz.underlying9] at h
  cases v <;> simp [Cell.ok, Tryz.underlying9] at h
  exact ⟨_, rfl, h⟩
set_option maxRecDepth 100000 in
theorem isWalk (W : World) (base : Nat) (v0 v1 v2 v3 : Value) (h0 : Value.okWide Tryz.prog W .any base 3 v0) (h1 : Value.okWide Tryz.prog W .any base 3 v1) (h2 : Value.okWide Tryz.prog W .any base 9 v2) (h3 : Value.okWide Tryz.prog W .any base 9 v3) :
    Calls Tryz.prog 4 #[v0, v1, v2, v3] W (TrueBelow W) := by
  obtain ⟨n, rfl, g0⟩ := is_int h0
  obtain ⟨m, rfl, g1⟩ := is_int h1
  obtain ⟨sa, rfl, g2⟩ := is_str h2
  obtain ⟨ss, rfl, g3⟩ := is_str h3
  exact isAll n m sa ss g0 g1 g2 g3 W
end Go.Proofs.YtkhckfpflfkjmaaGreat
