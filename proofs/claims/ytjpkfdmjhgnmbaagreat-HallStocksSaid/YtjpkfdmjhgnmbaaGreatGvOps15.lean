/- Operations, fifteenth part: copy. -/
import Derived.Test.YtjpkfdmjhgnmbaaGreatGvOps14
namespace Go.Proofs.YtjpkfdmjhgnmbaaGreat.Gv
open Go

section
variable {E : Env} {P : Program} {G : Gh} {φ : Mp} {h h' : H} {w : World} {s : Fr} {a : Act} {v : V} {o : Oper}

theorem srcC_ok {len : Nat} {i : TypeInfo} {x : V} {ux : Value} {g : Nat → List V → RV} (hx : conc G φ x = some ux) (r : HRel G φ h w)
    (e : srcF i.size h x (fun n => bif Nat.ble n len then n else len) g = .ok v h') : ∃ m n new unew, (Builtin.lenOf ux).run P w = .ok n w ∧ m = Nat.min n len ∧ (Builtin.firstCells i.size m ux).run P w = .ok unew w ∧ concL G φ new = some unew.toList ∧ g m new = .ok v h' := by
  have hmin : ∀ n, (bif Nat.ble n len then n else len) = Nat.min n len := by
    intro n
    rw [nble]
    by_cases hn : n ≤ len
    · rw [decide_eq_true hn]; exact (Nat.min_eq_left hn).symm
    · rw [decide_eq_false hn]; exact (Nat.min_eq_right (Nat.le_of_lt (Nat.lt_of_not_le hn))).symm
  unfold srcF at e
  split at e
  · rw [conc] at hx; cases hx
    exact ⟨0, 0, [], #[], by simp [Builtin.lenOf], (Nat.zero_min len).symm, by simp [Builtin.firstCells], concL_nil, e⟩
  · rename_i j
    rw [conc] at hx
    cases hj : φ j with
    | none => rw [hj] at hx; cases hx
    | some lc =>
      rw [hj] at hx; cases hx
      exact ⟨0, 0, [], #[], by simp [Builtin.lenOf], (Nat.zero_min len).symm, by simpa using run_firstCells_some (P := P) w i.size 0 ⟨lc.blk, lc.off, none⟩ 0 lc.slack [] (by simp) (by simp), concL_nil, e⟩
  · rename_i b off n c xx
    simp only [hmin] at e
    obtain ⟨cs, k, sz, ex, hb, e1⟩ := onCells_ok e
    clear e
    obtain ⟨hlt, e2⟩ := bif_ok e1
    clear e1
    rw [nble, decide_eq_true_eq] at hlt
    obtain ⟨l, hl, e3⟩ := onSome_ok e2
    clear e2
    obtain ⟨lc, hlc, rfl⟩ := conc_slice hx
    obtain ⟨us, hus, hlen, hcell⟩ := r.row hb hlc hlt hl
    refine ⟨_, n, l, us.toArray, by simp [Builtin.lenOf], rfl, ?_, by simpa using hus, e3⟩
    exact run_firstCells_some (P := P) w i.size (Nat.min n len) ⟨lc.blk, off, none⟩ n _ us hlen (fun j u hj => by rw [Addr.add_lit]; exact hcell j u hj)
  · rename_i n z
    simp only [hmin] at e
    rw [conc] at hx; cases hx
    refine ⟨_, n, strCells (Nat.min n len) z, ((strL (Nat.min n len) z).map fun b => Value.int .u8 b.toNat).toArray, by simp [Builtin.lenOf, strL_size], rfl, ?_, by simpa using strCells_ok (Nat.min n len) z, e⟩
    have hle : Nat.min n len ≤ n := Nat.min_le_left _ _
    have hext : (⟨(strL n z).toArray⟩ : ByteArray).extract 0 (Nat.min n len) = ⟨(strL (Nat.min n len) z).toArray⟩ := by
      rw [strL_slice n z 0 (Nat.min n len) (Nat.zero_le _) hle]
      simp only [Nat.pow_zero, Nat.div_one, Nat.sub_zero, strL_mod]
    simp only [Builtin.firstCells, hext]
    simp
  · cases e

theorem copy_ok (ok : EnvOk E P G) {ts : List Nat} {ty : TypeId} {cs : Array Bool} {l : List V} {ul : List Value} (hl : concL G φ l = some ul) (r : HRel G φ h w)
    (e : (builtF E .copy ts).v l h = .ok v h') : Did G φ h w v h' ((builtin .copy ts.toArray ty cs ul.toArray).run P w) := by
  refine DidV.builtin rfl ?_
  cases ts with
  | nil => cases e
  | cons t0 ts =>
    unfold builtF at e
    simp only [ok.ty] at e
    split at e
    · rename_i el hk
      have hu := k_slice hk
      cases hh : (mkTI P el).has with
      | false => rw [hh] at e; cases e
      | true =>
        obtain ⟨i, hi, hsz, _⟩ := has_ok hh
        rw [hh] at e
        simp only [Bool.not_true, cond_false, Box.use_v] at e
        split at e
        · cases e
        · rename_i b off len c xx x
          obtain ⟨us, ux, h1, h2, rfl⟩ := two_conc hl
          obtain ⟨lc, hlc, rfl⟩ := conc_slice h1
          rw [hsz] at e
          obtain ⟨m, n, new, unew, hlen, rfl, hfc, hnew, e1⟩ := srcC_ok (P := P) h2 r e
          clear e
          obtain ⟨cs', n', sz2, ex', hb', hm, hcell, e2⟩ := storeL_ok e1
          clear e1
          cases e2
          obtain ⟨w', hrun, r', f', x'⟩ := r.store (P := P) hb' hlc hm hcell hnew
          refine ⟨φ, goInt (Nat.min n len), w', ?_, by rw [conc]; rfl, r', f', x'⟩
          simp [Builtin.copy_, run_underlying hu, sizeOf, typeInfo, hi, hlen, hfc, hrun]
        · cases e
    · cases e
end
end Go.Proofs.YtjpkfdmjhgnmbaaGreat.Gv
