/- Operations, twelfth part: append. -/
import Derived.Test.YtjpkfdmjhgnmbaaGreatGvOps11
namespace Go.Proofs.YtjpkfdmjhgnmbaaGreat.Gv
open Go

section
variable {E : Env} {P : Program} {G : Gh} {φ : Mp} {h h' : H} {w : World} {s : Fr} {a : Act} {v : V} {o : Oper}

/-- What is appended: its length and its cells, in any world with this memory. -/
def Src (P : Program) (w : World) (t1 : TypeId) (i : TypeInfo) (zv x : Value) (n : Nat) (new : Array Value) : Prop :=
  (∃ d, P.underlying t1 = some d ∧ (∀ k, d ≠ .int k) ∧ (∀ w' : World, (Builtin.lenOf x).run P w' = .ok n w') ∧ ∀ w' : World, w'.heap = w.heap → (Builtin.firstCells i.size n x).run P w' = .ok new w') ∨
  (∃ k kd, P.underlying t1 = some (.int k) ∧ x = .int kd (n : Int) ∧ n ≤ 70368744177664 ∧ n * i.bytes ≤ 70368744177664 ∧ zv.cells.size = i.size ∧ new = Builtin.zeroCells zv.cells n)

theorem run_app_room {t0 t1 ty el : TypeId} {ts : List TypeId} {i : TypeInfo} {zv x : Value} {n sLen sCap : Nat} {new : Array Value} {base : Option Addr} (hu : P.underlying t0 = some (.slice el)) (hi : P.info? el = some i) (hz : i.zero = some zv)
    (hs : Src P w t1 i zv x n new) (hroom : sLen + n ≤ sCap) {w' : World} (hst : (base = none ∧ w' = w) ∨ ∃ ad, base = some ad ∧ (storeCells (ad.add (sLen * i.size)) new.toList).run P w = .ok () w') :
    (Builtin.append_ (t0 :: t1 :: ts).toArray ty #[.slice base sLen sCap, x]).run P w = .ok (.slice base (sLen + n) sCap) w' := by
  rcases hs with ⟨d, hd, hne, hlen, hfc⟩ | ⟨k, kd, hd, rfl, hn1, hn2, hzs, rfl⟩
  · have hm : (match d with | .int _ => true | _ => false) = false := by cases d <;> first | rfl | exact absurd rfl (hne _)
    have hfc' := hfc w rfl
    have hnk : ∀ k, ¬ (d = .int k) := hne
    rcases hst with ⟨rfl, rfl⟩ | ⟨ad, rfl, hst⟩
    · simp [Builtin.append_, run_underlying hu, run_underlying hd, sizeOf, typeInfo, hi, hlen, hroom, hfc']
    · simp [Builtin.append_, run_underlying hu, run_underlying hd, sizeOf, typeInfo, hi, hlen, hroom, hfc', hst]
  · have hw : IntKind.i64.wrap (n : Int) = n := by rw [IntKind.wrap_i64]; omega
    have h0 : ¬ ((n : Int) < 0) := by omega
    have h1 : ¬ (281474976710656 < (n : Int) * (i.bytes : Int)) := by
      have : ((n * i.bytes : Nat) : Int) = (n : Int) * (i.bytes : Int) := Int.natCast_mul _ _
      rw [← this]
      generalize n * i.bytes = q at hn2
      omega
    have hzv : ∀ w' : World, (zeroValue el).run P w' = .ok zv w' := fun w' => by simp [zeroValue, typeInfo, hi, hz]
    have hz0 : n * i.size = 0 → Builtin.zeroCells zv.cells n = #[] := fun h0 => by
      apply Array.eq_empty_of_size_eq_zero
      simp [Builtin.zeroCells, hzs, h0]
    rcases hst with ⟨rfl, rfl⟩ | ⟨ad, rfl, hst⟩
    · simp [Builtin.append_, run_underlying hu, run_underlying hd, sizeOf, typeInfo, hi, asInt, asIntOf, hw, h0, h1, hroom, hzv]
    · by_cases hc : n * i.size = 0
      · rw [hz0 hc] at hst
        simp [Builtin.append_, run_underlying hu, run_underlying hd, sizeOf, typeInfo, hi, asInt, asIntOf, hw, h0, h1, hroom, hzv, hc]
        simp at hst
        simp [hst]
      · simp [Builtin.append_, run_underlying hu, run_underlying hd, sizeOf, typeInfo, hi, asInt, asIntOf, hw, h0, h1, hroom, hzv, hc, hst]

theorem run_app_grow {t0 t1 ty el : TypeId} {ts : List TypeId} {i : TypeInfo} {zv x : Value} {n sLen sCap : Nat} {old new : Array Value} {base : Option Addr} (hu : P.underlying t0 = some (.slice el)) (hi : P.info? el = some i) (hz : i.zero = some zv)
    (hs : Src P w t1 i zv x n new) (hroom : sCap < sLen + n) (hbig : sLen + n ≤ 70368744177664) (hby : (sLen + n) * i.bytes ≤ 70368744177664)
    (hold : ∀ w' : World, w'.heap = w.heap → (Builtin.firstCells i.size sLen (.slice base sLen sCap)).run P w' = .ok old w') :
    (Builtin.append_ (t0 :: t1 :: ts).toArray ty #[.slice base sLen sCap, x]).run P w =
      .ok (.slice (some ⟨w.heap.size, 0, none⟩) (sLen + n) (grownCap w (sLen + n) sCap el))
        (w.drew.alloc (.cells (old ++ new ++ Builtin.zeroCells zv.cells (grownCap w (sLen + n) sCap el - (sLen + n))) el)) := by
  have hr : ¬ (sLen + n ≤ sCap) := by omega
  have h63 : ¬ (9223372036854775807 < (sLen : Int) + (n : Int)) := by omega
  have h48 : ¬ (281474976710656 < Builtin.nextslicecap (sLen + n) sCap * i.bytes) := by
    have := growslice_fits (bytes := i.bytes) hroom (by omega)
    omega
  have hzv : ∀ w' : World, (zeroValue el).run P w' = .ok zv w' := fun w' => by simp [zeroValue, typeInfo, hi, hz]
  have hold' := hold w.drew rfl
  rcases hs with ⟨d, hd, hne, hlen, hfc⟩ | ⟨k, kd, hd, rfl, hn1, hn2, hzs, rfl⟩
  · have hm : (match d with | .int _ => true | _ => false) = false := by cases d <;> first | rfl | exact absurd rfl (hne _)
    have hfc' := hfc w.drew rfl
    simp [Builtin.append_, run_underlying hu, run_underlying hd, sizeOf, typeInfo, hi, hlen, hr, hfc', h63, h48, hzv, hold', Question.forced, Go.newRow, grownCap]
  · have hw : IntKind.i64.wrap (n : Int) = n := by rw [IntKind.wrap_i64]; omega
    have h0 : ¬ ((n : Int) < 0) := by omega
    have h1 : ¬ (281474976710656 < (n : Int) * (i.bytes : Int)) := by
      have : ((n * i.bytes : Nat) : Int) = (n : Int) * (i.bytes : Int) := Int.natCast_mul _ _
      rw [← this]
      generalize n * i.bytes = q at hn2
      omega
    have hz0 : n * i.size = 0 → Builtin.zeroCells zv.cells n = #[] := fun h0 => by
      apply Array.eq_empty_of_size_eq_zero
      simp [Builtin.zeroCells, hzs, h0]
    by_cases hc : n * i.size = 0
    · rw [hz0 hc]
      simp [Builtin.append_, run_underlying hu, run_underlying hd, sizeOf, typeInfo, hi, asInt, asIntOf, hw, h0, h1, hr, hzv, hc, h63, h48, hold', Question.forced, Go.newRow, grownCap]
    · simp [Builtin.append_, run_underlying hu, run_underlying hd, sizeOf, typeInfo, hi, asInt, asIntOf, hw, h0, h1, hr, hzv, hc, h63, h48, hold', Question.forced, Go.newRow, grownCap]

theorem strCells_ok : ∀ (n x : Nat), concL G φ (strCells n x) = some ((strL n x).map fun b => Value.int .u8 b.toNat)
  | 0, x => concL_nil
  | n + 1, x => by
    show concL G φ (.int .u8 (Int.ofNat (x % 256)) :: strCells n (x / 256)) = _
    refine concL_cons.2 ⟨_, _, by rw [conc], strCells_ok n (x / 256), ?_⟩
    rw [strL, List.map_cons]
    congr 1
    have : x % 256 < 256 := Nat.mod_lt _ (by omega)
    simp

theorem src_ok {t1 : TypeId} {i : TypeInfo} {zv : Value} {x : V} {ux : Value} {g : Nat → List V → RV} {d : TypeDesc} (hd : P.underlying t1 = some d) (hne : ∀ k, d ≠ .int k) (hx : conc G φ x = some ux) (r : HRel G φ h w)
    (e : srcF i.size h x (fun n => n) g = .ok v h') : ∃ m new unew, Src P w t1 i zv ux m unew ∧ concL G φ new = some unew.toList ∧ g m new = .ok v h' := by
  unfold srcF at e
  split at e
  · rw [conc] at hx; cases hx
    exact ⟨0, [], #[], .inl ⟨d, hd, hne, fun w' => by simp [Builtin.lenOf], fun w' _ => by simp [Builtin.firstCells]⟩, concL_nil, e⟩
  · rename_i j
    rw [conc] at hx
    cases hj : φ j with
    | none => rw [hj] at hx; cases hx
    | some lc =>
      rw [hj] at hx; cases hx
      refine ⟨0, [], #[], .inl ⟨d, hd, hne, fun w' => by simp [Builtin.lenOf], fun w' _ => ?_⟩, concL_nil, e⟩
      simpa using run_firstCells_some (P := P) w' i.size 0 ⟨lc.blk, lc.off, none⟩ 0 lc.slack [] (by simp) (by simp)
  · rename_i b off len c xx
    obtain ⟨cs, n, sz, ex, hb, e1⟩ := onCells_ok e
    clear e
    obtain ⟨hlt, e2⟩ := bif_ok e1
    clear e1
    rw [nble, decide_eq_true_eq] at hlt
    obtain ⟨l, hl, e3⟩ := onSome_ok e2
    clear e2
    obtain ⟨lc, hlc, rfl⟩ := conc_slice hx
    obtain ⟨us, hus, hlen, hcell⟩ := r.row hb hlc hlt hl
    refine ⟨len, l, us.toArray, .inl ⟨d, hd, hne, fun w' => by simp [Builtin.lenOf], fun w' hw' => ?_⟩, by simpa using hus, e3⟩
    have hc' : ∀ (j : Nat) (v : Value), us[j]? = some v → w'.cell? (Addr.add ⟨lc.blk, off, none⟩ j) = some v := by
      intro j u hj
      rw [Addr.add_lit]
      have := hcell j u hj
      unfold World.cell? at this ⊢
      rw [hw']
      exact this
    exact run_firstCells_some (P := P) w' i.size len ⟨lc.blk, off, none⟩ len _ us hlen hc'
  · rename_i n z
    rw [conc] at hx; cases hx
    refine ⟨n, strCells n z, ((strL n z).map fun b => Value.int .u8 b.toNat).toArray, .inl ⟨d, hd, hne, fun w' => by simp [Builtin.lenOf, strL_size], fun w' _ => ?_⟩, by simpa using strCells_ok n z, e⟩
    have hext : (⟨(strL n z).toArray⟩ : ByteArray).extract 0 n = ⟨(strL n z).toArray⟩ := by
      apply ByteArray.ext
      rw [ByteArray.data_extract]
      apply Array.ext'
      simp only [Array.toList_extract, List.extract_eq_take_drop, Nat.sub_zero, List.drop_zero]
      exact List.take_of_length_le (by rw [strL_length]; exact Nat.le_refl n)
    simp [Builtin.firstCells, hext]
  · cases e
end
end Go.Proofs.YtjpkfdmjhgnmbaaGreat.Gv
