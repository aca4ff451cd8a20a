/- Hooks for the library: bits.Add64, maps.clone, stringslite.Clone. -/
import Derived.Test.YtamdnaplnkmokaaGreatGvArgs
import Derived.Laws.Externs
namespace Go.Proofs.YtamdnaplnkmokaaGreat.Gv
open Go Go.RowKit

/-- A function without a body, for which the model stands in. -/
structure ExtOk (P : Program) (f : Nat) (x : Array Value → Sem Value) : Prop where
  run : ∀ (args : Array Value) (w : World), (callFunc f args).run P w = ((x args).run P w).andThen fun v w' => .ok (.value v) w'
theorem ExtOk.mk' {P : Program} {f : Nat} {x : Array Value → Sem Value} {fn : Func} (hP : ProgOk P) (hf : P.funcs[f]? = some fn) (hb : fn.body.isNone = true) (hn : Extern.findNext fn = none) (he : Extern.find fn = some x) : ExtOk P f x :=
  ⟨fun args w => run_callFunc_extern hf (prog_name hP hf) hb hn he args w⟩

noncomputable def addH (_ : Call) (l : List V) (h : H) : RV :=
  match l with
  | [.int .u64 (.ofNat a), .int .u64 (.ofNat b), .int .u64 (.ofNat c)] => bif Nat.ble c 1 then .ok (.tuple [.int .u64 (.ofNat ((a + b + c) % 18446744073709551616)), .int .u64 (.ofNat ((a + b + c) / 18446744073709551616))]) h else .bad "add64" 1
  | _ => .bad "add64" 0
noncomputable def cloneH (_ : Call) (l : List V) (h : H) : RV :=
  match l with
  | [.iface t (.map b)] => onMap h b fun es => .ok (.iface t (.map h.next)) (h.new (.map es))
  | _ => .bad "maps.clone" 0
noncomputable def strH (_ : Call) (l : List V) (h : H) : RV :=
  match l with
  | [.str n v] => bif Nat.ble n 281474976710656 then .ok (.str n v) h else .bad "Clone" 1
  | _ => .bad "Clone" 0
/-- One function's hook. -/
def oneH (f : Nat) (g : Call → List V → H → RV) (n : Nat) : Option (Call → List V → H → RV) := bif Nat.beq n f then some g else none

section
variable {P : Program} {G : Gh}
def HookOk (P : Program) (G : Gh) (f : Nat) (g : Call → List V → H → RV) : Prop :=
  ∀ call, CallOk P G call → ∀ (l : List V) (h : H) (v : V) (h' : H), g call l h = .ok v h' → ∀ (φ : Mp) (w : World) (ul : List Value), concL G φ l = some ul → HRel G φ h w → Free φ h.next h'.next →
    Gives P (Post G φ h w v h') ((callFunc f ul.toArray).run P w)
theorem oneH_ok {f : Nat} {g : Call → List V → H → RV} (hg : HookOk P G f g) : HooksOk P G (oneH f g) := by
  intro f' g' e
  unfold oneH at e
  rw [nbeq] at e
  by_cases hf : f' = f
  · rw [decide_eq_true hf] at e
    cases e
    subst hf
    exact hg
  · rw [decide_eq_false hf] at e
    cases e
theorem addH_ok {f : Nat} (hx : ExtOk P f add64Entry) : HookOk P G f addH := by
  intro call _ l h v h' e φ w ul hl r _
  unfold addH at e
  split at e
  · rename_i a b c
    obtain ⟨hc, e⟩ := bif_ok e
    rw [nble, decide_eq_true_eq] at hc
    cases e
    have hul : ul = [.int .u64 (a : Int), .int .u64 (b : Int), .int .u64 (c : Int)] := by
      simp [concL, conc] at hl
      exact hl.symm
    subst hul
    rw [hx.run]
    have := run_add64 (P := P) (a : Int) (b : Int) (c : Int) (by omega) (by omega) (by omega) (by omega) w
    rw [show (List.toArray [Value.int .u64 (a : Int), .int .u64 (b : Int), .int .u64 (c : Int)]) = #[.int .u64 (a : Int), .int .u64 (b : Int), .int .u64 (c : Int)] from rfl, this]
    refine ⟨φ, ?_, r, Frame.refl _ _ _, Ext.refl _ _ _⟩
    simp [conc, concL]
  · cases e
theorem cloneH_ok {f : Nat} (hx : ExtOk P f Extern.MapsClone.clone) : HookOk P G f cloneH := by
  intro call _ l h v h' e φ w ul hl r hf
  unfold cloneH at e
  split at e
  · rename_i t b
    obtain ⟨es, hb, e⟩ := onMap_ok e
    cases e
    obtain ⟨u, k, hu, hk, rfl⟩ := concL_cons.1 hl
    rw [concL_nil] at hk
    cases hk
    rw [conc] at hu
    cases hm : conc G φ (.map b) with
    | none => rw [hm] at hu; cases hu
    | some um =>
      rw [hm] at hu
      cases hu
      obtain ⟨lc, hlc, rfl⟩ := conc_map hm
      obtain ⟨El, c, hw, hE, hB⟩ := r.ents2 hb hlc
      have hfn : φ h.next = none := hf _ (Nat.le_refl _) (by simp [H.new])
      have hle := Mp.le_put (l := ⟨w.heap.size, 0, 0⟩) hfn
      obtain ⟨r', hfr, hxx⟩ := r.alloc hfn (x := .map es) (o := .map El c) (sl := 0) ⟨El, c, heap_alloc_new w _, hB, by simpa using hE.1, fun i k v hi => by
        obtain ⟨e, h1, h2, h3⟩ := hE.2 i k v hi
        exact ⟨e, by simpa using h1, conc_mono hle h2, conc_mono hle h3⟩⟩
      rw [hx.run]
      have hrun : (Extern.MapsClone.clone #[.iface t (.map (some lc.blk))]).run P w = .ok (.iface t (.map (some w.heap.size))) (w.alloc (.map El c)) := by
        have e : Extern.MapsClone.clone #[.iface t (.map (some lc.blk))] = (getObj lc.blk >>= fun o => match o with
            | .map entries clock => (newObj (.map entries clock) >>= fun n => pure (.iface t (.map (some n))))
            | _ => stuck "maps.clone: a map expected") := rfl
        rw [e]
        simp [getObj_at hw]
      rw [show (List.toArray [Value.iface t (.map (some lc.blk))]) = #[.iface t (.map (some lc.blk))] from rfl, hrun]
      refine ⟨_, ?_, r', hfr, hxx⟩
      rw [conc, conc, Mp.put_self]
  · cases e
theorem strH_ok {f : Nat} {fn : Func} {c : Code} (hP : ProgOk P) (hf : P.funcs[f]? = some fn) (hb : fn.body = some c) (hC : ∀ (s : ByteArray) (w : World), s.size ≤ 281474976710656 → Calls P f #[.string s] w fun e w' => e = .returned (.string s) ∧ Below w.heap.size w w') : HookOk P G f strH := by
  intro call _ l h v h' e φ w ul hl r _
  unfold strH at e
  split at e
  · rename_i n x
    obtain ⟨hc, e⟩ := bif_ok e
    rw [nble, decide_eq_true_eq] at hc
    cases e
    have hul : ul = [.string ⟨(strL n x).toArray⟩] := by
      simp [concL, conc] at hl
      exact hl.symm
    subst hul
    rw [run_enter hf (prog_name hP hf) hb]
    refine (hC ⟨(strL n x).toArray⟩ w (by rw [strL_size]; exact hc)).mono ?_
    rintro e w' ⟨rfl, hB⟩
    exact ⟨_, rfl, below_post r hB (by rw [conc])⟩
  · cases e
end
end Go.Proofs.YtamdnaplnkmokaaGreat.Gv
