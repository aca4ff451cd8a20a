/- Hooks for the library: bits.Add64, maps.clone, stringslite.Clone. -/
import Derived.Test.YtjpkfdmjhgnmbaaGreatGvArgs
import Derived.Laws.Externs
namespace Go.Proofs.YtjpkfdmjhgnmbaaGreat.Gv
open Go Go.RowKit

/-- A function without a body, for which the model stands in. -/
structure ExtOk (P : Program) (f : Nat) (x : Array Value → Sem Value) : Prop where
  run : ∀ (args : Array Value) (w : World), (callFunc f args).run P w = ((x args).run P w).andThen fun v w' => .ok (.value v) w'
theorem ExtOk.mk' {P : Program} {f : Nat} {x : Array Value → Sem Value} {fn : Func} (hP : ProgOk P) (hf : P.funcs[f]? = some fn) (hb : fn.body.isNone = true) (hn : Extern.findNext fn = none) (he : Extern.find fn = some x) : ExtOk P f x :=
  ⟨fun args w => run_callFunc_extern hf (prog_name hP hf) hb hn he args w⟩

noncomputable def addH (_ : Call) (l : List V) (h : H) : RV :=
  match l with
  | [.int .u64 (.ofNat a), .int .u64 (.ofNat b), .int .u64 (.ofNat c)] => bif Nat.ble c 1 then .ok (.tuple [.int .u64 (.ofNat ((a + b + c) % 18446744073709551616)), .int .u64 (.ofNat ((a + b + c) / 18446744073709551616))]) h else .bad "add64" 1
  | _ => .bad "add64" 0
/-- The same at linear forms of which the carry is known. -/
noncomputable def addS (E : Env) (l : List V) (h : H) : RV :=
  match l with
  | [x, y, .int .u64 (.ofNat c)] => (match kOf x, asLF x, kOf y, asLF y with
    | some k1, some z1, some k2, some z2 =>
      bif sameK k1 .u64 && (sameK k2 .u64 && (Nat.ble c 1 && (known E z1 && known E z2))) then
        (bif known E (LF.sub (18446744073709551615 - Int.ofNat c, []) (LF.add z1 z2)) then .ok (.tuple [ofLF .u64 (LF.add (LF.add z1 z2) (Int.ofNat c, [])), .int .u64 0]) h
        else bif known E (LF.sub (LF.add z1 z2) (18446744073709551616 - Int.ofNat c, [])) && known E (LF.sub (36893488147419103231 - Int.ofNat c, []) (LF.add z1 z2)) then
          .ok (.tuple [ofLF .u64 (LF.add (LF.add z1 z2) (Int.ofNat c - 18446744073709551616, [])), .int .u64 1]) h
        else .bad "add64: carry" 0)
      else .bad "add64" 2
    | _, _, _, _ => .bad "add64" 3)
  | _ => .bad "add64" 4
noncomputable def addE (E : Env) (call : Call) (l : List V) (h : H) : RV :=
  match addH call l h with
  | .ok v h' => .ok v h'
  | .bad _ _ => addS E l h
noncomputable def cloneH (_ : Call) (l : List V) (h : H) : RV :=
  match l with
  | [.iface t (.map b)] => onMap h b fun es => .ok (.iface t (.map h.next)) (h.new (.map es))
  | _ => .bad "maps.clone" 0
noncomputable def strH (_ : Call) (l : List V) (h : H) : RV :=
  match l with
  | [.str n v] => bif Nat.ble n 281474976710656 then .ok (.str n v) h else .bad "Clone" 1
  | _ => .bad "Clone" 0
/-- One function's hook. -/
def oneH (f : Nat) (g : Call → List V → H → RV) (n : Nat) : Option (Call → List V → H → RV) := bif Nat.beq n f then some g else none

section
variable {P : Program} {G : Gh}
def HookOk (P : Program) (G : Gh) (f : Nat) (g : Call → List V → H → RV) : Prop :=
  ∀ call, CallOk P G call → ∀ (l : List V) (h : H) (v : V) (h' : H), g call l h = .ok v h' → ∀ (φ : Mp) (w : World) (ul : List Value), concL G φ l = some ul → HRel G φ h w → Free φ h.next h'.next →
    Gives P (Post G φ h w v h') ((callFunc f ul.toArray).run P w)
theorem oneH_ok {f : Nat} {g : Call → List V → H → RV} (hg : HookOk P G f g) : HooksOk P G (oneH f g) := by
  intro f' g' e
  unfold oneH at e
  rw [nbeq] at e
  by_cases hf : f' = f
  · rw [decide_eq_true hf] at e
    cases e
    subst hf
    exact hg
  · rw [decide_eq_false hf] at e
    cases e
theorem addH_ok {f : Nat} (hx : ExtOk P f add64Entry) : HookOk P G f addH := by
  intro call _ l h v h' e φ w ul hl r _
  unfold addH at e
  split at e
  · rename_i a b c
    obtain ⟨hc, e⟩ := bif_ok e
    rw [nble, decide_eq_true_eq] at hc
    cases e
    have hul : ul = [.int .u64 (a : Int), .int .u64 (b : Int), .int .u64 (c : Int)] := by
      simp [concL, conc] at hl
      exact hl.symm
    subst hul
    rw [hx.run]
    have := run_add64 (P := P) (a : Int) (b : Int) (c : Int) (by omega) (by omega) (by omega) (by omega) w
    rw [show (List.toArray [Value.int .u64 (a : Int), .int .u64 (b : Int), .int .u64 (c : Int)]) = #[.int .u64 (a : Int), .int .u64 (b : Int), .int .u64 (c : Int)] from rfl, this]
    refine ⟨φ, ?_, r, Frame.refl _ _ _, Ext.refl _ _ _⟩
    simp [conc, concL]
  · cases e
theorem addS_ok {E : Env} (ok : EnvOk E P G) {f : Nat} (hx : ExtOk P f add64Entry) : HookOk P G f fun _ l h => addS E l h := by
  intro call _ l h v h' e φ w ul hl r _
  dsimp only at e
  unfold addS at e
  split at e
  · rename_i x y c
    split at e
    · rename_i k1 z1 k2 z2 hk1 hz1 hk2 hz2
      obtain ⟨hc, e2⟩ := bif_ok e
      clear e
      simp only [Bool.and_eq_true, nble, decide_eq_true_eq] at hc
      obtain ⟨h1, h2, h3, h4, h5⟩ := hc
      have q1 := sameK_ok h1
      have q2 := sameK_ok h2
      subst q1 q2
      have p1 := known_ok ok h4
      have p2 := known_ok ok h5
      have hul : ul = [.int .u64 (z1.den G.σ), .int .u64 (z2.den G.σ), .int .u64 (c : Int)] := by
        have : concL G φ [x, y, .int .u64 (.ofNat c)] = some [.int .u64 (z1.den G.σ), .int .u64 (z2.den G.σ), .int .u64 (c : Int)] :=
          concL_cons.2 ⟨_, _, int_conc hk1 hz1, concL_cons.2 ⟨_, _, int_conc hk2 hz2, concL_cons.2 ⟨_, _, by rw [conc]; rfl, concL_nil, rfl⟩, rfl⟩, rfl⟩
        rw [this] at hl
        exact (Option.some.inj hl).symm
      subst hul
      rw [hx.run]
      have hrun := run_add64 (P := P) (z1.den G.σ) (z2.den G.σ) (c : Int) p1 p2 (by omega) (by omega) w
      rw [show (List.toArray [Value.int .u64 (z1.den G.σ), .int .u64 (z2.den G.σ), .int .u64 (c : Int)]) = #[.int .u64 (z1.den G.σ), .int .u64 (z2.den G.σ), .int .u64 (c : Int)] from rfl, hrun]
      have cst : ∀ n : Int, LF.den G.σ (n, []) = n := fun n => by show n + 0 = n; omega
      cases hk : known E (LF.sub (18446744073709551615 - Int.ofNat c, []) (LF.add z1 z2)) with
      | true =>
        rw [hk] at e2
        cases e2
        have h6 := known_ok ok hk
        rw [LF.den_sub, LF.den_add, cst] at h6
        have h7 : 18446744073709551615 - (c : Int) - (z1.den G.σ + z2.den G.σ) ≥ 0 := h6
        refine ⟨φ, ?_, r, Frame.refl _ _ _, Ext.refl _ _ _⟩
        have hv : conc G φ (ofLF .u64 (LF.add (LF.add z1 z2) (Int.ofNat c, []))) = some (.int .u64 ((z1.den G.σ + z2.den G.σ + (c : Int)) % 18446744073709551616)) := by
          rw [ofLF_conc, LF.den_add, LF.den_add, cst]
          rw [Int.emod_eq_of_lt (by omega) (by omega)]
          rfl
        have hz : (z1.den G.σ + z2.den G.σ + (c : Int)) / 18446744073709551616 = 0 := by omega
        rw [conc, hz]
        rw [concL_cons.2 ⟨_, _, hv, concL_cons.2 ⟨_, _, by rw [conc], concL_nil, rfl⟩, rfl⟩]
      | false =>
        rw [hk, cond_false] at e2
        obtain ⟨hk2, e3⟩ := bif_ok e2
        cases e3
        rw [Bool.and_eq_true] at hk2
        have h6 := known_ok ok hk2.1
        have h8 := known_ok ok hk2.2
        rw [LF.den_sub, LF.den_add, cst] at h6 h8
        have h7 : z1.den G.σ + z2.den G.σ - (18446744073709551616 - (c : Int)) ≥ 0 := h6
        have h9 : 36893488147419103231 - (c : Int) - (z1.den G.σ + z2.den G.σ) ≥ 0 := h8
        refine ⟨φ, ?_, r, Frame.refl _ _ _, Ext.refl _ _ _⟩
        have hm : (z1.den G.σ + z2.den G.σ + (c : Int)) % 18446744073709551616 = z1.den G.σ + z2.den G.σ + ((c : Int) - 18446744073709551616) := by omega
        have hv : conc G φ (ofLF .u64 (LF.add (LF.add z1 z2) (Int.ofNat c - 18446744073709551616, []))) = some (.int .u64 ((z1.den G.σ + z2.den G.σ + (c : Int)) % 18446744073709551616)) := by
          rw [ofLF_conc, LF.den_add, LF.den_add, cst, hm]
          rfl
        have hz : (z1.den G.σ + z2.den G.σ + (c : Int)) / 18446744073709551616 = 1 := by omega
        rw [conc, hz]
        rw [concL_cons.2 ⟨_, _, hv, concL_cons.2 ⟨_, _, by rw [conc], concL_nil, rfl⟩, rfl⟩]
    · cases e
  · cases e
theorem addE_ok {E : Env} (ok : EnvOk E P G) {f : Nat} (hx : ExtOk P f add64Entry) : HookOk P G f (addE E) := by
  intro call hc l h v h' e φ w ul hl r hf
  unfold addE at e
  cases hh : addH call l h with
  | ok v1 h1 =>
    rw [hh] at e
    cases e
    exact addH_ok hx call hc l h _ _ hh φ w ul hl r hf
  | bad _ _ =>
    rw [hh] at e
    exact addS_ok ok hx call hc l h _ _ e φ w ul hl r hf
/-- The tables of a run without hooks. -/
theorem env_ok {bd : List (Int × Int)} {ge : List (Int × List (Nat × Int))} {nl : List NL} (hP : ProgOk P) (F : Facts G bd ge nl) : EnvOk (evE P (fun _ => none) bd ge []) P G :=
  evE_ok hP F.ends (geOk_at F.ge) (fun _ h => (nomatch h))
theorem cloneH_ok {f : Nat} (hx : ExtOk P f Extern.MapsClone.clone) : HookOk P G f cloneH := by
  intro call _ l h v h' e φ w ul hl r hf
  unfold cloneH at e
  split at e
  · rename_i t b
    obtain ⟨es, hb, e⟩ := onMap_ok e
    cases e
    obtain ⟨u, k, hu, hk, rfl⟩ := concL_cons.1 hl
    rw [concL_nil] at hk
    cases hk
    rw [conc] at hu
    cases hm : conc G φ (.map b) with
    | none => rw [hm] at hu; cases hu
    | some um =>
      rw [hm] at hu
      cases hu
      obtain ⟨lc, hlc, rfl⟩ := conc_map hm
      obtain ⟨El, c, hw, hE, hB⟩ := r.ents2 hb hlc
      have hfn : φ h.next = none := hf _ (Nat.le_refl _) (by simp [H.new])
      have hle := Mp.le_put (l := ⟨w.heap.size, 0, 0⟩) hfn
      obtain ⟨r', hfr, hxx⟩ := r.alloc hfn (x := .map es) (o := .map El c) (sl := 0) ⟨El, c, heap_alloc_new w _, hB, by simpa using hE.1, fun i k v hi => by
        obtain ⟨e, h1, h2, h3⟩ := hE.2 i k v hi
        exact ⟨e, by simpa using h1, conc_mono hle h2, conc_mono hle h3⟩⟩
      rw [hx.run]
      have hrun : (Extern.MapsClone.clone #[.iface t (.map (some lc.blk))]).run P w = .ok (.iface t (.map (some w.heap.size))) (w.alloc (.map El c)) := by
        have e : Extern.MapsClone.clone #[.iface t (.map (some lc.blk))] = (getObj lc.blk >>= fun o => match o with
            | .map entries clock => (newObj (.map entries clock) >>= fun n => pure (.iface t (.map (some n))))
            | _ => stuck "maps.clone: a map expected") := rfl
        rw [e]
        simp [getObj_at hw]
      rw [show (List.toArray [Value.iface t (.map (some lc.blk))]) = #[.iface t (.map (some lc.blk))] from rfl, hrun]
      refine ⟨_, ?_, r', hfr, hxx⟩
      rw [conc, conc, Mp.put_self]
  · cases e
theorem strH_ok {f : Nat} {fn : Func} {c : Code} (hP : ProgOk P) (hf : P.funcs[f]? = some fn) (hb : fn.body = some c) (hC : ∀ (s : ByteArray) (w : World), s.size ≤ 281474976710656 → Calls P f #[.string s] w fun e w' => e = .returned (.string s) ∧ Below w.heap.size w w') : HookOk P G f strH := by
  intro call _ l h v h' e φ w ul hl r _
  unfold strH at e
  split at e
  · rename_i n x
    obtain ⟨hc, e⟩ := bif_ok e
    rw [nble, decide_eq_true_eq] at hc
    cases e
    have hul : ul = [.string ⟨(strL n x).toArray⟩] := by
      simp [concL, conc] at hl
      exact hl.symm
    subst hul
    rw [run_enter hf (prog_name hP hf) hb]
    refine (hC ⟨(strL n x).toArray⟩ w (by rw [strL_size]; exact hc)).mono ?_
    rintro e w' ⟨rfl, hB⟩
    exact ⟨_, rfl, below_post r hB (by rw [conc])⟩
  · cases e
end
end Go.Proofs.YtjpkfdmjhgnmbaaGreat.Gv
