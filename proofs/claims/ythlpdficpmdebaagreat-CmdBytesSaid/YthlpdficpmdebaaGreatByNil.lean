/- complinebook: kinds of lists of which none is kept: nothing is done to them. -/
import Derived.Test.YthlpdficpmdebaaGreatJ8
namespace Go.Proofs.YthlpdficpmdebaaGreat.Wire
open Go Go.RowKit Go.Lib
/-- The world is the same, but for what was drawn. -/
def Same (v : Value) (w : World) (en : Ending) (w' : World) : Prop := en = .returned v ∧ ∃ n, w' = w.drewN n
def Same0 (w : World) (en : Ending) (w' : World) : Prop := (∃ u, en = .returned u) ∧ ∃ n, w' = w.drewN n
theorem stillKeys_nil (K : Nat) (w : World) (h : w.cell? ⟨K, 4, none⟩ = some (.slice none 0 0)) : Calls Tryz.prog 60 #[.pointer (some ⟨K, 0, none⟩)] w (Same (.bool true) w) := by
  go_enter Tryz.func60, Tryz.ntmps60
  go_wp2_with fail
  go_loopw [3] (fun i wr => i = .int .i64 0 ∧ ∃ m, wr = w.drewN m) (fun _ _ => 0)
  case atStart => exact ⟨rfl, 0, rfl⟩
  case round =>
    obtain ⟨rfl, m, rfl⟩ := hrel
    go_wp2_with fail
    first | go_ret2 | refine bodyPost_ret (results_tmp rfl _ _ _) rfl ?_
    exact ⟨rfl, m, rfl⟩
theorem putKeys_nil (K : Nat) (w : World) (h : w.cell? ⟨K, 4, none⟩ = some (.slice none 0 0)) : Calls Tryz.prog 81 #[.pointer (some ⟨K, 0, none⟩)] w (Same0 w) := by
  go_enter Tryz.func81, Tryz.ntmps81
  go_wp2_with fail
  go_loopw [2] (fun i wr => i = .int .i64 0 ∧ ∃ m, wr = w.drewN m) (fun _ _ => 0)
  case atStart => exact ⟨rfl, 0, rfl⟩
  case round =>
    obtain ⟨rfl, m, rfl⟩ := hrel
    go_wp2_with fail
    go_end0
    exact ⟨⟨_, rfl⟩, m, rfl⟩
theorem growKeys_nil (K : Nat) (w : World) (h : w.cell? ⟨K, 4, none⟩ = some (.slice none 0 0)) : Calls Tryz.prog 94 #[.pointer (some ⟨K, 0, none⟩)] w (Same (.slice none 0 0) w) := by
  go_enter Tryz.func94, Tryz.ntmps94
  go_wp2_with fail
  go_loopw [3, 4] (fun v i wr => v = .slice none 0 0 ∧ i = .int .i64 0 ∧ ∃ m, wr = w.drewN m) (fun _ _ _ => 0)
  case atStart => exact ⟨rfl, rfl, 0, rfl⟩
  case round =>
    obtain ⟨rfl, rfl, m, rfl⟩ := hrel
    go_wp2_with fail
    first | go_ret2 | refine bodyPost_ret (results_tmp rfl _ _ _) rfl ?_
    exact ⟨rfl, m, rfl⟩
theorem markedKeys_nil (w : World) : Calls Tryz.prog 111 #[.slice none 0 0] w (Same (.bool true) w) := by
  go_enter Tryz.func111, Tryz.ntmps111
  go_wp2_with fail
  go_loopw [3] (fun i wr => i = .int .i64 0 ∧ ∃ m, wr = w.drewN m) (fun _ _ => 0)
  case atStart => exact ⟨rfl, 0, rfl⟩
  case round =>
    obtain ⟨rfl, m, rfl⟩ := hrel
    go_wp2_with fail
    first | go_ret2 | refine bodyPost_ret (results_tmp rfl _ _ _) rfl ?_
    exact ⟨rfl, m, rfl⟩
theorem stillPostings_nil (K : Nat) (w : World) (h : w.cell? ⟨K, 6, none⟩ = some (.slice none 0 0)) : Calls Tryz.prog 61 #[.pointer (some ⟨K, 0, none⟩)] w (Same (.bool true) w) := by
  go_enter Tryz.func61, Tryz.ntmps61
  go_wp2_with fail
  go_loopw [3] (fun i wr => i = .int .i64 0 ∧ ∃ m, wr = w.drewN m) (fun _ _ => 0)
  case atStart => exact ⟨rfl, 0, rfl⟩
  case round =>
    obtain ⟨rfl, m, rfl⟩ := hrel
    go_wp2_with fail
    first | go_ret2 | refine bodyPost_ret (results_tmp rfl _ _ _) rfl ?_
    exact ⟨rfl, m, rfl⟩
theorem putPostings_nil (K : Nat) (w : World) (h : w.cell? ⟨K, 6, none⟩ = some (.slice none 0 0)) : Calls Tryz.prog 82 #[.pointer (some ⟨K, 0, none⟩)] w (Same0 w) := by
  go_enter Tryz.func82, Tryz.ntmps82
  go_wp2_with fail
  go_loopw [2] (fun i wr => i = .int .i64 0 ∧ ∃ m, wr = w.drewN m) (fun _ _ => 0)
  case atStart => exact ⟨rfl, 0, rfl⟩
  case round =>
    obtain ⟨rfl, m, rfl⟩ := hrel
    go_wp2_with fail
    go_end0
    exact ⟨⟨_, rfl⟩, m, rfl⟩
theorem growPostings_nil (K : Nat) (w : World) (h : w.cell? ⟨K, 6, none⟩ = some (.slice none 0 0)) : Calls Tryz.prog 95 #[.pointer (some ⟨K, 0, none⟩)] w (Same (.slice none 0 0) w) := by
  go_enter Tryz.func95, Tryz.ntmps95
  go_wp2_with fail
  go_loopw [3, 4] (fun v i wr => v = .slice none 0 0 ∧ i = .int .i64 0 ∧ ∃ m, wr = w.drewN m) (fun _ _ _ => 0)
  case atStart => exact ⟨rfl, rfl, 0, rfl⟩
  case round =>
    obtain ⟨rfl, rfl, m, rfl⟩ := hrel
    go_wp2_with fail
    first | go_ret2 | refine bodyPost_ret (results_tmp rfl _ _ _) rfl ?_
    exact ⟨rfl, m, rfl⟩
theorem markedPostings_nil (w : World) : Calls Tryz.prog 112 #[.slice none 0 0] w (Same (.bool true) w) := by
  go_enter Tryz.func112, Tryz.ntmps112
  go_wp2_with fail
  go_loopw [3] (fun i wr => i = .int .i64 0 ∧ ∃ m, wr = w.drewN m) (fun _ _ => 0)
  case atStart => exact ⟨rfl, 0, rfl⟩
  case round =>
    obtain ⟨rfl, m, rfl⟩ := hrel
    go_wp2_with fail
    first | go_ret2 | refine bodyPost_ret (results_tmp rfl _ _ _) rfl ?_
    exact ⟨rfl, m, rfl⟩
theorem stillParties_nil (K : Nat) (w : World) (h : w.cell? ⟨K, 8, none⟩ = some (.slice none 0 0)) : Calls Tryz.prog 62 #[.pointer (some ⟨K, 0, none⟩)] w (Same (.bool true) w) := by
  go_enter Tryz.func62, Tryz.ntmps62
  go_wp2_with fail
  go_loopw [3] (fun i wr => i = .int .i64 0 ∧ ∃ m, wr = w.drewN m) (fun _ _ => 0)
  case atStart => exact ⟨rfl, 0, rfl⟩
  case round =>
    obtain ⟨rfl, m, rfl⟩ := hrel
    go_wp2_with fail
    first | go_ret2 | refine bodyPost_ret (results_tmp rfl _ _ _) rfl ?_
    exact ⟨rfl, m, rfl⟩
theorem putParties_nil (K : Nat) (w : World) (h : w.cell? ⟨K, 8, none⟩ = some (.slice none 0 0)) : Calls Tryz.prog 83 #[.pointer (some ⟨K, 0, none⟩)] w (Same0 w) := by
  go_enter Tryz.func83, Tryz.ntmps83
  go_wp2_with fail
  go_loopw [2] (fun i wr => i = .int .i64 0 ∧ ∃ m, wr = w.drewN m) (fun _ _ => 0)
  case atStart => exact ⟨rfl, 0, rfl⟩
  case round =>
    obtain ⟨rfl, m, rfl⟩ := hrel
    go_wp2_with fail
    go_end0
    exact ⟨⟨_, rfl⟩, m, rfl⟩
theorem growParties_nil (K : Nat) (w : World) (h : w.cell? ⟨K, 8, none⟩ = some (.slice none 0 0)) : Calls Tryz.prog 96 #[.pointer (some ⟨K, 0, none⟩)] w (Same (.slice none 0 0) w) := by
  go_enter Tryz.func96, Tryz.ntmps96
  go_wp2_with fail
  go_loopw [3, 4] (fun v i wr => v = .slice none 0 0 ∧ i = .int .i64 0 ∧ ∃ m, wr = w.drewN m) (fun _ _ _ => 0)
  case atStart => exact ⟨rfl, rfl, 0, rfl⟩
  case round =>
    obtain ⟨rfl, rfl, m, rfl⟩ := hrel
    go_wp2_with fail
    first | go_ret2 | refine bodyPost_ret (results_tmp rfl _ _ _) rfl ?_
    exact ⟨rfl, m, rfl⟩
theorem markedParties_nil (w : World) : Calls Tryz.prog 113 #[.slice none 0 0] w (Same (.bool true) w) := by
  go_enter Tryz.func113, Tryz.ntmps113
  go_wp2_with fail
  go_loopw [3] (fun i wr => i = .int .i64 0 ∧ ∃ m, wr = w.drewN m) (fun _ _ => 0)
  case atStart => exact ⟨rfl, 0, rfl⟩
  case round =>
    obtain ⟨rfl, m, rfl⟩ := hrel
    go_wp2_with fail
    first | go_ret2 | refine bodyPost_ret (results_tmp rfl _ _ _) rfl ?_
    exact ⟨rfl, m, rfl⟩
theorem stillAccounts_nil (K : Nat) (w : World) (h : w.cell? ⟨K, 10, none⟩ = some (.slice none 0 0)) : Calls Tryz.prog 63 #[.pointer (some ⟨K, 0, none⟩)] w (Same (.bool true) w) := by
  go_enter Tryz.func63, Tryz.ntmps63
  go_wp2_with fail
  go_loopw [3] (fun i wr => i = .int .i64 0 ∧ ∃ m, wr = w.drewN m) (fun _ _ => 0)
  case atStart => exact ⟨rfl, 0, rfl⟩
  case round =>
    obtain ⟨rfl, m, rfl⟩ := hrel
    go_wp2_with fail
    first | go_ret2 | refine bodyPost_ret (results_tmp rfl _ _ _) rfl ?_
    exact ⟨rfl, m, rfl⟩
theorem putAccounts_nil (K : Nat) (w : World) (h : w.cell? ⟨K, 10, none⟩ = some (.slice none 0 0)) : Calls Tryz.prog 84 #[.pointer (some ⟨K, 0, none⟩)] w (Same0 w) := by
  go_enter Tryz.func84, Tryz.ntmps84
  go_wp2_with fail
  go_loopw [2] (fun i wr => i = .int .i64 0 ∧ ∃ m, wr = w.drewN m) (fun _ _ => 0)
  case atStart => exact ⟨rfl, 0, rfl⟩
  case round =>
    obtain ⟨rfl, m, rfl⟩ := hrel
    go_wp2_with fail
    go_end0
    exact ⟨⟨_, rfl⟩, m, rfl⟩
theorem growAccounts_nil (K : Nat) (w : World) (h : w.cell? ⟨K, 10, none⟩ = some (.slice none 0 0)) : Calls Tryz.prog 97 #[.pointer (some ⟨K, 0, none⟩)] w (Same (.slice none 0 0) w) := by
  go_enter Tryz.func97, Tryz.ntmps97
  go_wp2_with fail
  go_loopw [3, 4] (fun v i wr => v = .slice none 0 0 ∧ i = .int .i64 0 ∧ ∃ m, wr = w.drewN m) (fun _ _ _ => 0)
  case atStart => exact ⟨rfl, rfl, 0, rfl⟩
  case round =>
    obtain ⟨rfl, rfl, m, rfl⟩ := hrel
    go_wp2_with fail
    first | go_ret2 | refine bodyPost_ret (results_tmp rfl _ _ _) rfl ?_
    exact ⟨rfl, m, rfl⟩
theorem markedAccounts_nil (w : World) : Calls Tryz.prog 114 #[.slice none 0 0] w (Same (.bool true) w) := by
  go_enter Tryz.func114, Tryz.ntmps114
  go_wp2_with fail
  go_loopw [3] (fun i wr => i = .int .i64 0 ∧ ∃ m, wr = w.drewN m) (fun _ _ => 0)
  case atStart => exact ⟨rfl, 0, rfl⟩
  case round =>
    obtain ⟨rfl, m, rfl⟩ := hrel
    go_wp2_with fail
    first | go_ret2 | refine bodyPost_ret (results_tmp rfl _ _ _) rfl ?_
    exact ⟨rfl, m, rfl⟩
theorem stillAssets_nil (K : Nat) (w : World) (h : w.cell? ⟨K, 12, none⟩ = some (.slice none 0 0)) : Calls Tryz.prog 64 #[.pointer (some ⟨K, 0, none⟩)] w (Same (.bool true) w) := by
  go_enter Tryz.func64, Tryz.ntmps64
  go_wp2_with fail
  go_loopw [3] (fun i wr => i = .int .i64 0 ∧ ∃ m, wr = w.drewN m) (fun _ _ => 0)
  case atStart => exact ⟨rfl, 0, rfl⟩
  case round =>
    obtain ⟨rfl, m, rfl⟩ := hrel
    go_wp2_with fail
    first | go_ret2 | refine bodyPost_ret (results_tmp rfl _ _ _) rfl ?_
    exact ⟨rfl, m, rfl⟩
theorem putAssets_nil (K : Nat) (w : World) (h : w.cell? ⟨K, 12, none⟩ = some (.slice none 0 0)) : Calls Tryz.prog 85 #[.pointer (some ⟨K, 0, none⟩)] w (Same0 w) := by
  go_enter Tryz.func85, Tryz.ntmps85
  go_wp2_with fail
  go_loopw [2] (fun i wr => i = .int .i64 0 ∧ ∃ m, wr = w.drewN m) (fun _ _ => 0)
  case atStart => exact ⟨rfl, 0, rfl⟩
  case round =>
    obtain ⟨rfl, m, rfl⟩ := hrel
    go_wp2_with fail
    go_end0
    exact ⟨⟨_, rfl⟩, m, rfl⟩
theorem growAssets_nil (K : Nat) (w : World) (h : w.cell? ⟨K, 12, none⟩ = some (.slice none 0 0)) : Calls Tryz.prog 98 #[.pointer (some ⟨K, 0, none⟩)] w (Same (.slice none 0 0) w) := by
  go_enter Tryz.func98, Tryz.ntmps98
  go_wp2_with fail
  go_loopw [3, 4] (fun v i wr => v = .slice none 0 0 ∧ i = .int .i64 0 ∧ ∃ m, wr = w.drewN m) (fun _ _ _ => 0)
  case atStart => exact ⟨rfl, rfl, 0, rfl⟩
  case round =>
    obtain ⟨rfl, rfl, m, rfl⟩ := hrel
    go_wp2_with fail
    first | go_ret2 | refine bodyPost_ret (results_tmp rfl _ _ _) rfl ?_
    exact ⟨rfl, m, rfl⟩
theorem markedAssets_nil (w : World) : Calls Tryz.prog 115 #[.slice none 0 0] w (Same (.bool true) w) := by
  go_enter Tryz.func115, Tryz.ntmps115
  go_wp2_with fail
  go_loopw [3] (fun i wr => i = .int .i64 0 ∧ ∃ m, wr = w.drewN m) (fun _ _ => 0)
  case atStart => exact ⟨rfl, 0, rfl⟩
  case round =>
    obtain ⟨rfl, m, rfl⟩ := hrel
    go_wp2_with fail
    first | go_ret2 | refine bodyPost_ret (results_tmp rfl _ _ _) rfl ?_
    exact ⟨rfl, m, rfl⟩
theorem stillInsts_nil (K : Nat) (w : World) (h : w.cell? ⟨K, 14, none⟩ = some (.slice none 0 0)) : Calls Tryz.prog 65 #[.pointer (some ⟨K, 0, none⟩)] w (Same (.bool true) w) := by
  go_enter Tryz.func65, Tryz.ntmps65
  go_wp2_with fail
  go_loopw [3] (fun i wr => i = .int .i64 0 ∧ ∃ m, wr = w.drewN m) (fun _ _ => 0)
  case atStart => exact ⟨rfl, 0, rfl⟩
  case round =>
    obtain ⟨rfl, m, rfl⟩ := hrel
    go_wp2_with fail
    first | go_ret2 | refine bodyPost_ret (results_tmp rfl _ _ _) rfl ?_
    exact ⟨rfl, m, rfl⟩
theorem putInsts_nil (K : Nat) (w : World) (h : w.cell? ⟨K, 14, none⟩ = some (.slice none 0 0)) : Calls Tryz.prog 86 #[.pointer (some ⟨K, 0, none⟩)] w (Same0 w) := by
  go_enter Tryz.func86, Tryz.ntmps86
  go_wp2_with fail
  go_loopw [2] (fun i wr => i = .int .i64 0 ∧ ∃ m, wr = w.drewN m) (fun _ _ => 0)
  case atStart => exact ⟨rfl, 0, rfl⟩
  case round =>
    obtain ⟨rfl, m, rfl⟩ := hrel
    go_wp2_with fail
    go_end0
    exact ⟨⟨_, rfl⟩, m, rfl⟩
theorem growInsts_nil (K : Nat) (w : World) (h : w.cell? ⟨K, 14, none⟩ = some (.slice none 0 0)) : Calls Tryz.prog 99 #[.pointer (some ⟨K, 0, none⟩)] w (Same (.slice none 0 0) w) := by
  go_enter Tryz.func99, Tryz.ntmps99
  go_wp2_with fail
  go_loopw [3, 4] (fun v i wr => v = .slice none 0 0 ∧ i = .int .i64 0 ∧ ∃ m, wr = w.drewN m) (fun _ _ _ => 0)
  case atStart => exact ⟨rfl, rfl, 0, rfl⟩
  case round =>
    obtain ⟨rfl, rfl, m, rfl⟩ := hrel
    go_wp2_with fail
    first | go_ret2 | refine bodyPost_ret (results_tmp rfl _ _ _) rfl ?_
    exact ⟨rfl, m, rfl⟩
theorem markedInsts_nil (w : World) : Calls Tryz.prog 116 #[.slice none 0 0] w (Same (.bool true) w) := by
  go_enter Tryz.func116, Tryz.ntmps116
  go_wp2_with fail
  go_loopw [3] (fun i wr => i = .int .i64 0 ∧ ∃ m, wr = w.drewN m) (fun _ _ => 0)
  case atStart => exact ⟨rfl, 0, rfl⟩
  case round =>
    obtain ⟨rfl, m, rfl⟩ := hrel
    go_wp2_with fail
    first | go_ret2 | refine bodyPost_ret (results_tmp rfl _ _ _) rfl ?_
    exact ⟨rfl, m, rfl⟩
theorem stillPairs_nil (K : Nat) (w : World) (h : w.cell? ⟨K, 16, none⟩ = some (.slice none 0 0)) : Calls Tryz.prog 66 #[.pointer (some ⟨K, 0, none⟩)] w (Same (.bool true) w) := by
  go_enter Tryz.func66, Tryz.ntmps66
  go_wp2_with fail
  go_loopw [3] (fun i wr => i = .int .i64 0 ∧ ∃ m, wr = w.drewN m) (fun _ _ => 0)
  case atStart => exact ⟨rfl, 0, rfl⟩
  case round =>
    obtain ⟨rfl, m, rfl⟩ := hrel
    go_wp2_with fail
    first | go_ret2 | refine bodyPost_ret (results_tmp rfl _ _ _) rfl ?_
    exact ⟨rfl, m, rfl⟩
theorem putPairs_nil (K : Nat) (w : World) (h : w.cell? ⟨K, 16, none⟩ = some (.slice none 0 0)) : Calls Tryz.prog 87 #[.pointer (some ⟨K, 0, none⟩)] w (Same0 w) := by
  go_enter Tryz.func87, Tryz.ntmps87
  go_wp2_with fail
  go_loopw [2] (fun i wr => i = .int .i64 0 ∧ ∃ m, wr = w.drewN m) (fun _ _ => 0)
  case atStart => exact ⟨rfl, 0, rfl⟩
  case round =>
    obtain ⟨rfl, m, rfl⟩ := hrel
    go_wp2_with fail
    go_end0
    exact ⟨⟨_, rfl⟩, m, rfl⟩
theorem growPairs_nil (K : Nat) (w : World) (h : w.cell? ⟨K, 16, none⟩ = some (.slice none 0 0)) : Calls Tryz.prog 100 #[.pointer (some ⟨K, 0, none⟩)] w (Same (.slice none 0 0) w) := by
  go_enter Tryz.func100, Tryz.ntmps100
  go_wp2_with fail
  go_loopw [3, 4] (fun v i wr => v = .slice none 0 0 ∧ i = .int .i64 0 ∧ ∃ m, wr = w.drewN m) (fun _ _ _ => 0)
  case atStart => exact ⟨rfl, rfl, 0, rfl⟩
  case round =>
    obtain ⟨rfl, rfl, m, rfl⟩ := hrel
    go_wp2_with fail
    first | go_ret2 | refine bodyPost_ret (results_tmp rfl _ _ _) rfl ?_
    exact ⟨rfl, m, rfl⟩
theorem markedPairs_nil (w : World) : Calls Tryz.prog 117 #[.slice none 0 0] w (Same (.bool true) w) := by
  go_enter Tryz.func117, Tryz.ntmps117
  go_wp2_with fail
  go_loopw [3] (fun i wr => i = .int .i64 0 ∧ ∃ m, wr = w.drewN m) (fun _ _ => 0)
  case atStart => exact ⟨rfl, 0, rfl⟩
  case round =>
    obtain ⟨rfl, m, rfl⟩ := hrel
    go_wp2_with fail
    first | go_ret2 | refine bodyPost_ret (results_tmp rfl _ _ _) rfl ?_
    exact ⟨rfl, m, rfl⟩
theorem stillAllegs_nil (K : Nat) (w : World) (h : w.cell? ⟨K, 18, none⟩ = some (.slice none 0 0)) : Calls Tryz.prog 67 #[.pointer (some ⟨K, 0, none⟩)] w (Same (.bool true) w) := by
  go_enter Tryz.func67, Tryz.ntmps67
  go_wp2_with fail
  go_loopw [3] (fun i wr => i = .int .i64 0 ∧ ∃ m, wr = w.drewN m) (fun _ _ => 0)
  case atStart => exact ⟨rfl, 0, rfl⟩
  case round =>
    obtain ⟨rfl, m, rfl⟩ := hrel
    go_wp2_with fail
    first | go_ret2 | refine bodyPost_ret (results_tmp rfl _ _ _) rfl ?_
    exact ⟨rfl, m, rfl⟩
theorem putAllegs_nil (K : Nat) (w : World) (h : w.cell? ⟨K, 18, none⟩ = some (.slice none 0 0)) : Calls Tryz.prog 75 #[.pointer (some ⟨K, 0, none⟩)] w (Same0 w) := by
  go_enter Tryz.func75, Tryz.ntmps75
  go_wp2_with fail
  go_loopw [2] (fun i wr => i = .int .i64 0 ∧ ∃ m, wr = w.drewN m) (fun _ _ => 0)
  case atStart => exact ⟨rfl, 0, rfl⟩
  case round =>
    obtain ⟨rfl, m, rfl⟩ := hrel
    go_wp2_with fail
    go_end0
    exact ⟨⟨_, rfl⟩, m, rfl⟩
theorem growAllegs_nil (K : Nat) (w : World) (h : w.cell? ⟨K, 18, none⟩ = some (.slice none 0 0)) : Calls Tryz.prog 101 #[.pointer (some ⟨K, 0, none⟩)] w (Same (.slice none 0 0) w) := by
  go_enter Tryz.func101, Tryz.ntmps101
  go_wp2_with fail
  go_loopw [3, 4] (fun v i wr => v = .slice none 0 0 ∧ i = .int .i64 0 ∧ ∃ m, wr = w.drewN m) (fun _ _ _ => 0)
  case atStart => exact ⟨rfl, rfl, 0, rfl⟩
  case round =>
    obtain ⟨rfl, rfl, m, rfl⟩ := hrel
    go_wp2_with fail
    first | go_ret2 | refine bodyPost_ret (results_tmp rfl _ _ _) rfl ?_
    exact ⟨rfl, m, rfl⟩
theorem markedAllegs_nil (w : World) : Calls Tryz.prog 118 #[.slice none 0 0] w (Same (.bool true) w) := by
  go_enter Tryz.func118, Tryz.ntmps118
  go_wp2_with fail
  go_loopw [3] (fun i wr => i = .int .i64 0 ∧ ∃ m, wr = w.drewN m) (fun _ _ => 0)
  case atStart => exact ⟨rfl, 0, rfl⟩
  case round =>
    obtain ⟨rfl, m, rfl⟩ := hrel
    go_wp2_with fail
    first | go_ret2 | refine bodyPost_ret (results_tmp rfl _ _ _) rfl ?_
    exact ⟨rfl, m, rfl⟩
theorem stillLinks_nil (K : Nat) (w : World) (h : w.cell? ⟨K, 20, none⟩ = some (.slice none 0 0)) : Calls Tryz.prog 68 #[.pointer (some ⟨K, 0, none⟩)] w (Same (.bool true) w) := by
  go_enter Tryz.func68, Tryz.ntmps68
  go_wp2_with fail
  go_loopw [3] (fun i wr => i = .int .i64 0 ∧ ∃ m, wr = w.drewN m) (fun _ _ => 0)
  case atStart => exact ⟨rfl, 0, rfl⟩
  case round =>
    obtain ⟨rfl, m, rfl⟩ := hrel
    go_wp2_with fail
    first | go_ret2 | refine bodyPost_ret (results_tmp rfl _ _ _) rfl ?_
    exact ⟨rfl, m, rfl⟩
theorem putLinks_nil (K : Nat) (w : World) (h : w.cell? ⟨K, 20, none⟩ = some (.slice none 0 0)) : Calls Tryz.prog 88 #[.pointer (some ⟨K, 0, none⟩)] w (Same0 w) := by
  go_enter Tryz.func88, Tryz.ntmps88
  go_wp2_with fail
  go_loopw [2] (fun i wr => i = .int .i64 0 ∧ ∃ m, wr = w.drewN m) (fun _ _ => 0)
  case atStart => exact ⟨rfl, 0, rfl⟩
  case round =>
    obtain ⟨rfl, m, rfl⟩ := hrel
    go_wp2_with fail
    go_end0
    exact ⟨⟨_, rfl⟩, m, rfl⟩
theorem growLinks_nil (K : Nat) (w : World) (h : w.cell? ⟨K, 20, none⟩ = some (.slice none 0 0)) : Calls Tryz.prog 102 #[.pointer (some ⟨K, 0, none⟩)] w (Same (.slice none 0 0) w) := by
  go_enter Tryz.func102, Tryz.ntmps102
  go_wp2_with fail
  go_loopw [3, 4] (fun v i wr => v = .slice none 0 0 ∧ i = .int .i64 0 ∧ ∃ m, wr = w.drewN m) (fun _ _ _ => 0)
  case atStart => exact ⟨rfl, rfl, 0, rfl⟩
  case round =>
    obtain ⟨rfl, rfl, m, rfl⟩ := hrel
    go_wp2_with fail
    first | go_ret2 | refine bodyPost_ret (results_tmp rfl _ _ _) rfl ?_
    exact ⟨rfl, m, rfl⟩
theorem markedLinks_nil (w : World) : Calls Tryz.prog 119 #[.slice none 0 0] w (Same (.bool true) w) := by
  go_enter Tryz.func119, Tryz.ntmps119
  go_wp2_with fail
  go_loopw [3] (fun i wr => i = .int .i64 0 ∧ ∃ m, wr = w.drewN m) (fun _ _ => 0)
  case atStart => exact ⟨rfl, 0, rfl⟩
  case round =>
    obtain ⟨rfl, m, rfl⟩ := hrel
    go_wp2_with fail
    first | go_ret2 | refine bodyPost_ret (results_tmp rfl _ _ _) rfl ?_
    exact ⟨rfl, m, rfl⟩
theorem stillPledges_nil (K : Nat) (w : World) (h : w.cell? ⟨K, 22, none⟩ = some (.slice none 0 0)) : Calls Tryz.prog 69 #[.pointer (some ⟨K, 0, none⟩)] w (Same (.bool true) w) := by
  go_enter Tryz.func69, Tryz.ntmps69
  go_wp2_with fail
  go_loopw [3] (fun i wr => i = .int .i64 0 ∧ ∃ m, wr = w.drewN m) (fun _ _ => 0)
  case atStart => exact ⟨rfl, 0, rfl⟩
  case round =>
    obtain ⟨rfl, m, rfl⟩ := hrel
    go_wp2_with fail
    first | go_ret2 | refine bodyPost_ret (results_tmp rfl _ _ _) rfl ?_
    exact ⟨rfl, m, rfl⟩
theorem putPledges_nil (K : Nat) (w : World) (h : w.cell? ⟨K, 22, none⟩ = some (.slice none 0 0)) : Calls Tryz.prog 89 #[.pointer (some ⟨K, 0, none⟩)] w (Same0 w) := by
  go_enter Tryz.func89, Tryz.ntmps89
  go_wp2_with fail
  go_loopw [2] (fun i wr => i = .int .i64 0 ∧ ∃ m, wr = w.drewN m) (fun _ _ => 0)
  case atStart => exact ⟨rfl, 0, rfl⟩
  case round =>
    obtain ⟨rfl, m, rfl⟩ := hrel
    go_wp2_with fail
    go_end0
    exact ⟨⟨_, rfl⟩, m, rfl⟩
theorem growPledges_nil (K : Nat) (w : World) (h : w.cell? ⟨K, 22, none⟩ = some (.slice none 0 0)) : Calls Tryz.prog 103 #[.pointer (some ⟨K, 0, none⟩)] w (Same (.slice none 0 0) w) := by
  go_enter Tryz.func103, Tryz.ntmps103
  go_wp2_with fail
  go_loopw [3, 4] (fun v i wr => v = .slice none 0 0 ∧ i = .int .i64 0 ∧ ∃ m, wr = w.drewN m) (fun _ _ _ => 0)
  case atStart => exact ⟨rfl, rfl, 0, rfl⟩
  case round =>
    obtain ⟨rfl, rfl, m, rfl⟩ := hrel
    go_wp2_with fail
    first | go_ret2 | refine bodyPost_ret (results_tmp rfl _ _ _) rfl ?_
    exact ⟨rfl, m, rfl⟩
theorem markedPledges_nil (w : World) : Calls Tryz.prog 120 #[.slice none 0 0] w (Same (.bool true) w) := by
  go_enter Tryz.func120, Tryz.ntmps120
  go_wp2_with fail
  go_loopw [3] (fun i wr => i = .int .i64 0 ∧ ∃ m, wr = w.drewN m) (fun _ _ => 0)
  case atStart => exact ⟨rfl, 0, rfl⟩
  case round =>
    obtain ⟨rfl, m, rfl⟩ := hrel
    go_wp2_with fail
    first | go_ret2 | refine bodyPost_ret (results_tmp rfl _ _ _) rfl ?_
    exact ⟨rfl, m, rfl⟩
theorem stillLoans_nil (K : Nat) (w : World) (h : w.cell? ⟨K, 24, none⟩ = some (.slice none 0 0)) : Calls Tryz.prog 70 #[.pointer (some ⟨K, 0, none⟩)] w (Same (.bool true) w) := by
  go_enter Tryz.func70, Tryz.ntmps70
  go_wp2_with fail
  go_loopw [3] (fun i wr => i = .int .i64 0 ∧ ∃ m, wr = w.drewN m) (fun _ _ => 0)
  case atStart => exact ⟨rfl, 0, rfl⟩
  case round =>
    obtain ⟨rfl, m, rfl⟩ := hrel
    go_wp2_with fail
    first | go_ret2 | refine bodyPost_ret (results_tmp rfl _ _ _) rfl ?_
    exact ⟨rfl, m, rfl⟩
theorem putLoans_nil (K : Nat) (w : World) (h : w.cell? ⟨K, 24, none⟩ = some (.slice none 0 0)) : Calls Tryz.prog 76 #[.pointer (some ⟨K, 0, none⟩)] w (Same0 w) := by
  go_enter Tryz.func76, Tryz.ntmps76
  go_wp2_with fail
  go_loopw [2] (fun i wr => i = .int .i64 0 ∧ ∃ m, wr = w.drewN m) (fun _ _ => 0)
  case atStart => exact ⟨rfl, 0, rfl⟩
  case round =>
    obtain ⟨rfl, m, rfl⟩ := hrel
    go_wp2_with fail
    go_end0
    exact ⟨⟨_, rfl⟩, m, rfl⟩
theorem growLoans_nil (K : Nat) (w : World) (h : w.cell? ⟨K, 24, none⟩ = some (.slice none 0 0)) : Calls Tryz.prog 104 #[.pointer (some ⟨K, 0, none⟩)] w (Same (.slice none 0 0) w) := by
  go_enter Tryz.func104, Tryz.ntmps104
  go_wp2_with fail
  go_loopw [3, 4] (fun v i wr => v = .slice none 0 0 ∧ i = .int .i64 0 ∧ ∃ m, wr = w.drewN m) (fun _ _ _ => 0)
  case atStart => exact ⟨rfl, rfl, 0, rfl⟩
  case round =>
    obtain ⟨rfl, rfl, m, rfl⟩ := hrel
    go_wp2_with fail
    first | go_ret2 | refine bodyPost_ret (results_tmp rfl _ _ _) rfl ?_
    exact ⟨rfl, m, rfl⟩
theorem markedLoans_nil (w : World) : Calls Tryz.prog 121 #[.slice none 0 0] w (Same (.bool true) w) := by
  go_enter Tryz.func121, Tryz.ntmps121
  go_wp2_with fail
  go_loopw [3] (fun i wr => i = .int .i64 0 ∧ ∃ m, wr = w.drewN m) (fun _ _ => 0)
  case atStart => exact ⟨rfl, 0, rfl⟩
  case round =>
    obtain ⟨rfl, m, rfl⟩ := hrel
    go_wp2_with fail
    first | go_ret2 | refine bodyPost_ret (results_tmp rfl _ _ _) rfl ?_
    exact ⟨rfl, m, rfl⟩
theorem stillTakes_nil (K : Nat) (w : World) (h : w.cell? ⟨K, 26, none⟩ = some (.slice none 0 0)) : Calls Tryz.prog 71 #[.pointer (some ⟨K, 0, none⟩)] w (Same (.bool true) w) := by
  go_enter Tryz.func71, Tryz.ntmps71
  go_wp2_with fail
  go_loopw [3] (fun i wr => i = .int .i64 0 ∧ ∃ m, wr = w.drewN m) (fun _ _ => 0)
  case atStart => exact ⟨rfl, 0, rfl⟩
  case round =>
    obtain ⟨rfl, m, rfl⟩ := hrel
    go_wp2_with fail
    first | go_ret2 | refine bodyPost_ret (results_tmp rfl _ _ _) rfl ?_
    exact ⟨rfl, m, rfl⟩
theorem putTakes_nil (K : Nat) (w : World) (h : w.cell? ⟨K, 26, none⟩ = some (.slice none 0 0)) : Calls Tryz.prog 77 #[.pointer (some ⟨K, 0, none⟩)] w (Same0 w) := by
  go_enter Tryz.func77, Tryz.ntmps77
  go_wp2_with fail
  go_loopw [2] (fun i wr => i = .int .i64 0 ∧ ∃ m, wr = w.drewN m) (fun _ _ => 0)
  case atStart => exact ⟨rfl, 0, rfl⟩
  case round =>
    obtain ⟨rfl, m, rfl⟩ := hrel
    go_wp2_with fail
    go_end0
    exact ⟨⟨_, rfl⟩, m, rfl⟩
theorem growTakes_nil (K : Nat) (w : World) (h : w.cell? ⟨K, 26, none⟩ = some (.slice none 0 0)) : Calls Tryz.prog 105 #[.pointer (some ⟨K, 0, none⟩)] w (Same (.slice none 0 0) w) := by
  go_enter Tryz.func105, Tryz.ntmps105
  go_wp2_with fail
  go_loopw [3, 4] (fun v i wr => v = .slice none 0 0 ∧ i = .int .i64 0 ∧ ∃ m, wr = w.drewN m) (fun _ _ _ => 0)
  case atStart => exact ⟨rfl, rfl, 0, rfl⟩
  case round =>
    obtain ⟨rfl, rfl, m, rfl⟩ := hrel
    go_wp2_with fail
    first | go_ret2 | refine bodyPost_ret (results_tmp rfl _ _ _) rfl ?_
    exact ⟨rfl, m, rfl⟩
theorem markedTakes_nil (w : World) : Calls Tryz.prog 122 #[.slice none 0 0] w (Same (.bool true) w) := by
  go_enter Tryz.func122, Tryz.ntmps122
  go_wp2_with fail
  go_loopw [3] (fun i wr => i = .int .i64 0 ∧ ∃ m, wr = w.drewN m) (fun _ _ => 0)
  case atStart => exact ⟨rfl, 0, rfl⟩
  case round =>
    obtain ⟨rfl, m, rfl⟩ := hrel
    go_wp2_with fail
    first | go_ret2 | refine bodyPost_ret (results_tmp rfl _ _ _) rfl ?_
    exact ⟨rfl, m, rfl⟩
theorem stillLegs_nil (K : Nat) (w : World) (h : w.cell? ⟨K, 28, none⟩ = some (.slice none 0 0)) : Calls Tryz.prog 72 #[.pointer (some ⟨K, 0, none⟩)] w (Same (.bool true) w) := by
  go_enter Tryz.func72, Tryz.ntmps72
  go_wp2_with fail
  go_loopw [3] (fun i wr => i = .int .i64 0 ∧ ∃ m, wr = w.drewN m) (fun _ _ => 0)
  case atStart => exact ⟨rfl, 0, rfl⟩
  case round =>
    obtain ⟨rfl, m, rfl⟩ := hrel
    go_wp2_with fail
    first | go_ret2 | refine bodyPost_ret (results_tmp rfl _ _ _) rfl ?_
    exact ⟨rfl, m, rfl⟩
theorem putLegs_nil (K : Nat) (w : World) (h : w.cell? ⟨K, 28, none⟩ = some (.slice none 0 0)) : Calls Tryz.prog 90 #[.pointer (some ⟨K, 0, none⟩)] w (Same0 w) := by
  go_enter Tryz.func90, Tryz.ntmps90
  go_wp2_with fail
  go_loopw [2] (fun i wr => i = .int .i64 0 ∧ ∃ m, wr = w.drewN m) (fun _ _ => 0)
  case atStart => exact ⟨rfl, 0, rfl⟩
  case round =>
    obtain ⟨rfl, m, rfl⟩ := hrel
    go_wp2_with fail
    go_end0
    exact ⟨⟨_, rfl⟩, m, rfl⟩
theorem growLegs_nil (K : Nat) (w : World) (h : w.cell? ⟨K, 28, none⟩ = some (.slice none 0 0)) : Calls Tryz.prog 106 #[.pointer (some ⟨K, 0, none⟩)] w (Same (.slice none 0 0) w) := by
  go_enter Tryz.func106, Tryz.ntmps106
  go_wp2_with fail
  go_loopw [3, 4] (fun v i wr => v = .slice none 0 0 ∧ i = .int .i64 0 ∧ ∃ m, wr = w.drewN m) (fun _ _ _ => 0)
  case atStart => exact ⟨rfl, rfl, 0, rfl⟩
  case round =>
    obtain ⟨rfl, rfl, m, rfl⟩ := hrel
    go_wp2_with fail
    first | go_ret2 | refine bodyPost_ret (results_tmp rfl _ _ _) rfl ?_
    exact ⟨rfl, m, rfl⟩
theorem markedLegs_nil (w : World) : Calls Tryz.prog 123 #[.slice none 0 0] w (Same (.bool true) w) := by
  go_enter Tryz.func123, Tryz.ntmps123
  go_wp2_with fail
  go_loopw [3] (fun i wr => i = .int .i64 0 ∧ ∃ m, wr = w.drewN m) (fun _ _ => 0)
  case atStart => exact ⟨rfl, 0, rfl⟩
  case round =>
    obtain ⟨rfl, m, rfl⟩ := hrel
    go_wp2_with fail
    first | go_ret2 | refine bodyPost_ret (results_tmp rfl _ _ _) rfl ?_
    exact ⟨rfl, m, rfl⟩
theorem stillStocks_nil (K : Nat) (w : World) (h : w.cell? ⟨K, 30, none⟩ = some (.slice none 0 0)) : Calls Tryz.prog 73 #[.pointer (some ⟨K, 0, none⟩)] w (Same (.bool true) w) := by
  go_enter Tryz.func73, Tryz.ntmps73
  go_wp2_with fail
  go_loopw [3] (fun i wr => i = .int .i64 0 ∧ ∃ m, wr = w.drewN m) (fun _ _ => 0)
  case atStart => exact ⟨rfl, 0, rfl⟩
  case round =>
    obtain ⟨rfl, m, rfl⟩ := hrel
    go_wp2_with fail
    first | go_ret2 | refine bodyPost_ret (results_tmp rfl _ _ _) rfl ?_
    exact ⟨rfl, m, rfl⟩
theorem putStocks_nil (K : Nat) (w : World) (h : w.cell? ⟨K, 30, none⟩ = some (.slice none 0 0)) : Calls Tryz.prog 91 #[.pointer (some ⟨K, 0, none⟩)] w (Same0 w) := by
  go_enter Tryz.func91, Tryz.ntmps91
  go_wp2_with fail
  go_loopw [2] (fun i wr => i = .int .i64 0 ∧ ∃ m, wr = w.drewN m) (fun _ _ => 0)
  case atStart => exact ⟨rfl, 0, rfl⟩
  case round =>
    obtain ⟨rfl, m, rfl⟩ := hrel
    go_wp2_with fail
    go_end0
    exact ⟨⟨_, rfl⟩, m, rfl⟩
theorem growStocks_nil (K : Nat) (w : World) (h : w.cell? ⟨K, 30, none⟩ = some (.slice none 0 0)) : Calls Tryz.prog 107 #[.pointer (some ⟨K, 0, none⟩)] w (Same (.slice none 0 0) w) := by
  go_enter Tryz.func107, Tryz.ntmps107
  go_wp2_with fail
  go_loopw [3, 4] (fun v i wr => v = .slice none 0 0 ∧ i = .int .i64 0 ∧ ∃ m, wr = w.drewN m) (fun _ _ _ => 0)
  case atStart => exact ⟨rfl, rfl, 0, rfl⟩
  case round =>
    obtain ⟨rfl, rfl, m, rfl⟩ := hrel
    go_wp2_with fail
    first | go_ret2 | refine bodyPost_ret (results_tmp rfl _ _ _) rfl ?_
    exact ⟨rfl, m, rfl⟩
theorem markedStocks_nil (w : World) : Calls Tryz.prog 124 #[.slice none 0 0] w (Same (.bool true) w) := by
  go_enter Tryz.func124, Tryz.ntmps124
  go_wp2_with fail
  go_loopw [3] (fun i wr => i = .int .i64 0 ∧ ∃ m, wr = w.drewN m) (fun _ _ => 0)
  case atStart => exact ⟨rfl, 0, rfl⟩
  case round =>
    obtain ⟨rfl, m, rfl⟩ := hrel
    go_wp2_with fail
    first | go_ret2 | refine bodyPost_ret (results_tmp rfl _ _ _) rfl ?_
    exact ⟨rfl, m, rfl⟩
theorem stillSteps_nil (K : Nat) (w : World) (h : w.cell? ⟨K, 32, none⟩ = some (.slice none 0 0)) : Calls Tryz.prog 74 #[.pointer (some ⟨K, 0, none⟩)] w (Same (.bool true) w) := by
  go_enter Tryz.func74, Tryz.ntmps74
  go_wp2_with fail
  go_loopw [3] (fun i wr => i = .int .i64 0 ∧ ∃ m, wr = w.drewN m) (fun _ _ => 0)
  case atStart => exact ⟨rfl, 0, rfl⟩
  case round =>
    obtain ⟨rfl, m, rfl⟩ := hrel
    go_wp2_with fail
    first | go_ret2 | refine bodyPost_ret (results_tmp rfl _ _ _) rfl ?_
    exact ⟨rfl, m, rfl⟩
theorem putSteps_nil (K : Nat) (w : World) (h : w.cell? ⟨K, 32, none⟩ = some (.slice none 0 0)) : Calls Tryz.prog 78 #[.pointer (some ⟨K, 0, none⟩)] w (Same0 w) := by
  go_enter Tryz.func78, Tryz.ntmps78
  go_wp2_with fail
  go_loopw [2] (fun i wr => i = .int .i64 0 ∧ ∃ m, wr = w.drewN m) (fun _ _ => 0)
  case atStart => exact ⟨rfl, 0, rfl⟩
  case round =>
    obtain ⟨rfl, m, rfl⟩ := hrel
    go_wp2_with fail
    go_end0
    exact ⟨⟨_, rfl⟩, m, rfl⟩
theorem growSteps_nil (K : Nat) (w : World) (h : w.cell? ⟨K, 32, none⟩ = some (.slice none 0 0)) : Calls Tryz.prog 108 #[.pointer (some ⟨K, 0, none⟩)] w (Same (.slice none 0 0) w) := by
  go_enter Tryz.func108, Tryz.ntmps108
  go_wp2_with fail
  go_loopw [3, 4] (fun v i wr => v = .slice none 0 0 ∧ i = .int .i64 0 ∧ ∃ m, wr = w.drewN m) (fun _ _ _ => 0)
  case atStart => exact ⟨rfl, rfl, 0, rfl⟩
  case round =>
    obtain ⟨rfl, rfl, m, rfl⟩ := hrel
    go_wp2_with fail
    first | go_ret2 | refine bodyPost_ret (results_tmp rfl _ _ _) rfl ?_
    exact ⟨rfl, m, rfl⟩
theorem markedSteps_nil (w : World) : Calls Tryz.prog 125 #[.slice none 0 0] w (Same (.bool true) w) := by
  go_enter Tryz.func125, Tryz.ntmps125
  go_wp2_with fail
  go_loopw [3] (fun i wr => i = .int .i64 0 ∧ ∃ m, wr = w.drewN m) (fun _ _ => 0)
  case atStart => exact ⟨rfl, 0, rfl⟩
  case round =>
    obtain ⟨rfl, m, rfl⟩ := hrel
    go_wp2_with fail
    first | go_ret2 | refine bodyPost_ret (results_tmp rfl _ _ _) rfl ?_
    exact ⟨rfl, m, rfl⟩
end Go.Proofs.YthlpdficpmdebaaGreat.Wire
