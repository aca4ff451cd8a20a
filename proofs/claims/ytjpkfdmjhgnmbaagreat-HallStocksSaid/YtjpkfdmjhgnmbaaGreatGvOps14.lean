/- Operations, fourteenth part: append, joined. -/
import Derived.Test.YtjpkfdmjhgnmbaaGreatGvOps13
namespace Go.Proofs.YtjpkfdmjhgnmbaaGreat.Gv
open Go

section
variable {E : Env} {P : Program} {G : Gh} {φ : Mp} {h h' : H} {w : World} {s : Fr} {a : Act} {v : V} {o : Oper}

theorem app_on {t0 t1 ty el : TypeId} {ts : List TypeId} {i : TypeInfo} {zv us ux : Value} {m : Nat} {y : V} {new : List V} {unew : Array Value} (hu : P.underlying t0 = some (.slice el)) (hi : P.info? el = some i) (hz : i.zero = some zv)
    (hzs : zv.cells.size = i.size) (hs : Src P w t1 i zv ux m unew) (hnew : concL G φ new = some unew.toList) (r : HRel G φ h w) (hf : Free φ h.next h'.next) (hy : conc G φ y = some us)
    (e : (match y with
      | .nilslice => (Nat.rec (motive := fun _ => RV) (.ok .nilslice h)
          (fun _ _ => bif Nat.ble (m * i.bytes) 70368744177664 && Nat.ble m 70368744177664 then newRow h new (m * i.size) i.size false fun b h => .ok (.slice b 0 m m true) h else .bad "append: great" 0) m : RV)
      | .slice b off len cap xx => onCells h b fun cs n sz' ex =>
        bif Nat.ble (len + m) cap then storeL h b (off + len * i.size) new fun h => .ok (.slice b off (len + m) cap xx) h
        else bif not (Nat.beq i.size sz' && Nat.ble ((len + m + cap) * i.bytes) 70368744177664 && Nat.ble (len + m) 70368744177664 && Nat.ble (off + len * i.size) n && Nat.beq new.length (m * i.size)) then .bad "append: great" b
        else bif ex || not xx then onSome "append: old" (T.range cs (len * i.size) off) fun old => newRow h (old ++ new) ((len + m) * i.size) i.size false fun b h => .ok (.slice b 0 (len + m) (len + m) true) h
        else bif Nat.beq off 0 && Nat.beq (cap * i.size) n && areCells new then .ok (.slice h.next 0 (len + m) (len + m) true) (H.new { t := h.t.del b, next := h.next } (.cells (T.setRow new (len * i.size) cs) ((len + m) * i.size) i.size false))
        else .bad "append: middle" b
      | _ => .bad "append: dst" 0) = .ok v h') :
    DidV G φ h w v h' ((Builtin.append_ (t0 :: t1 :: ts).toArray ty #[us, ux]).run P w) := by
  split at e
  · rw [conc] at hy; cases hy
    exact app_nil hu hi hz hzs hs hnew r hf e
  · rename_i b off len cap xx
    obtain ⟨lc, hlc, rfl⟩ := conc_slice hy
    obtain ⟨cs, n, sz', ex, hb, e1⟩ := onCells_ok e
    clear e
    cases hroom : Nat.ble (len + m) cap with
    | true =>
      rw [hroom, cond_true] at e1
      rw [nble, decide_eq_true_eq] at hroom
      obtain ⟨cs', n', sz2, ex', hb', hm, hcell, e2⟩ := storeL_ok e1
      clear e1
      cases e2
      obtain ⟨w', hrun, r', f', x'⟩ := r.store (P := P) hb' hlc hm hcell hnew
      have hcap : len + m ≤ (bif xx then cap + lc.slack else cap) := by cases xx <;> simp <;> omega
      have hr := run_app_room (ty := ty) (ts := ts) hu hi hz hs (base := some ⟨lc.blk, off, none⟩) hcap (.inr ⟨_, rfl, by rw [Addr.add_lit]; exact hrun⟩)
      refine ⟨φ, _, w', hr, ?_, r', f', x'⟩
      rw [conc, hlc]
    | false =>
      rw [hroom, cond_false] at e1
      rw [nble, decide_eq_false_iff_not] at hroom
      cases hchk : (Nat.beq i.size sz' && Nat.ble ((len + m + cap) * i.bytes) 70368744177664 && Nat.ble (len + m) 70368744177664 && Nat.ble (off + len * i.size) n && Nat.beq new.length (m * i.size)) with
      | false => rw [hchk] at e1; cases e1
      | true =>
        rw [hchk, Bool.not_true, cond_false] at e1
        simp only [Bool.and_eq_true, nble, nbeq, decide_eq_true_eq] at hchk
        obtain ⟨⟨⟨⟨hsz, hc1⟩, hc2⟩, hc3⟩, hc4⟩ := hchk
        subst hsz
        have hby : (len + m) * i.bytes ≤ 70368744177664 := Nat.le_trans (Nat.mul_le_mul_right _ (Nat.le_add_right _ _)) hc1
        cases hex : (ex || not xx) with
        | true =>
          rw [hex, cond_true] at e1
          obtain ⟨old, hold, e2⟩ := onSome_ok e1
          clear e1
          obtain ⟨hcell, hlen, e3⟩ := newRow_ok e2
          clear e2
          cases e3
          have hfn : φ h.next = none := hf _ (Nat.le_refl _) (by simp [H.new])
          have hk : (bif xx then cap + lc.slack else cap) < len + m := by
            cases xx with
            | false => simp; omega
            | true =>
              simp at hex
              obtain ⟨C, e, _, _, h3, _⟩ := r.cells hb hlc
              have := h3 hex
              simp; omega
          exact app_known hu hi hz hzs hs hnew r hfn hb hlc hk hc2 hby hc3 hold hc4
        | false =>
          rw [hex, cond_false] at e1
          obtain ⟨hchk2, e2⟩ := bif_ok e1
          clear e1
          simp only [Bool.and_eq_true, nbeq, decide_eq_true_eq] at hchk2
          obtain ⟨⟨hoff, hcn⟩, hcell⟩ := hchk2
          cases e2
          subst hoff
          have hfn : φ h.next = none := hf _ (Nat.le_refl _) (by simp [H.new])
          have hxx : xx = true := by
            cases xx with
            | true => rfl
            | false => simp at hex
          subst hxx
          simp only [Nat.zero_add] at hc3
          exact app_middle hu hi hz hzs hs hnew hcell r hfn hb hlc hcn (by omega) hc2 hby hc3 hc4
  · cases e

theorem append_ok (ok : EnvOk E P G) {ts : List Nat} {ty : TypeId} {cs : Array Bool} {l : List V} {ul : List Value} (hl : concL G φ l = some ul) (r : HRel G φ h w) (hf : Free φ h.next h'.next)
    (e : (builtF E .append ts).v l h = .ok v h') : Did G φ h w v h' ((builtin .append ts.toArray ty cs ul.toArray).run P w) := by
  refine DidV.builtin rfl ?_
  cases ts with
  | nil => cases e
  | cons t0 ts =>
    unfold builtF at e
    simp only [ok.ty] at e
    split at e
    · rename_i el t1 ts hk
      have hu := k_slice hk
      cases hz : (mkTI P el).zero with
      | none => rw [hz] at e; cases e
      | some z =>
        obtain ⟨i, zv, hi, hz', habs, hsz, hby⟩ := zero_ok hz
        rw [hz] at e
        dsimp only at e
        cases hh : ((mkTI P t1).has && Nat.beq z.cells.length (mkTI P el).size) with
        | false => rw [hh] at e; cases e
        | true =>
          rw [hh] at e
          rw [Bool.and_eq_true, nbeq, decide_eq_true_eq] at hh
          obtain ⟨d, hd⟩ := has_und hh.1
          simp only [Bool.not_true, cond_false, Box.use_v] at e
          split at e
          · rename_i y x
            obtain ⟨us, ux, h1, h2, rfl⟩ := two_conc hl
            have hzc := cells_conc2 (absV_ok G φ 4 _ _ habs)
            have hzl := concL_length hzc
            simp only [Array.length_toList] at hzl
            have hzs : zv.cells.size = i.size := by rw [hzl, hh.2, hsz]
            unfold appendF at e
            rw [hsz, hby] at e
            by_cases hint : ∃ k, (mkTI P t1).k = .int k
            · obtain ⟨k, hk1⟩ := hint
              have hu1 := k_int hk1
              rw [hk1] at e
              dsimp only [cond_true] at e
              obtain ⟨kd, n, hx, e1⟩ := onNat_ok e
              clear e
              obtain ⟨hc, e2⟩ := bif_ok e1
              clear e1
              simp only [Bool.and_eq_true, nble, nbeq, decide_eq_true_eq] at hc
              rw [hx, conc] at h2
              have h3 := (Option.some.inj h2).symm
              refine app_on (m := n) (new := repl z.cells n) (unew := Builtin.zeroCells zv.cells n) hu hi hz' hzs (.inr ⟨k, kd, hu1, h3, hc.2, hc.1.2, hzs, rfl⟩) ?_ r hf h1 e2
              rw [zeroCells_list]
              exact concL_repl hzc n
            · have hk1 : ∀ k, (mkTI P t1).k ≠ .int k := fun k hk2 => hint ⟨k, hk2⟩
              have hne : ∀ k, d ≠ .int k := by
                intro k hdk
                subst hdk
                refine hk1 k ?_
                obtain ⟨j, hj, _, _⟩ := has_ok hh.1
                unfold mkTI
                rw [hj]
                show mkK P t1 = _
                unfold mkK
                rw [hd]
              cases hk2 : (mkTI P t1).k with
              | int k => exact absurd hk2 (hk1 k)
              | _ =>
                rw [hk2] at e
                dsimp only [cond_false] at e
                obtain ⟨m, new, unew, hs, hnew, e2⟩ := src_ok (zv := zv) hd hne h2 r e
                exact app_on hu hi hz' hzs hs hnew r hf h1 e2
          · cases e
    · cases e
end
end Go.Proofs.YtjpkfdmjhgnmbaaGreat.Gv
