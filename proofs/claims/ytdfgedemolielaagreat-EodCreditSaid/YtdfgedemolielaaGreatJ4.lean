/- The document's sums as a hook: numbers and linear forms that lie in a row. -/
import Derived.Test.YtdfgedemolielaaGreatAccSum
import Derived.Test.YtdfgedemolielaaGreatLib
import Derived.Test.YtdfgedemolielaaGreatJ3
namespace Go.Proofs.YtdfgedemolielaaGreat
open Go Go.RowKit Gv
noncomputable def sumLF (l : List V) : Option LF := List.rec (motive := fun _ => Option LF) (some (0, [])) (fun v _ ih => match asLF v, ih with | some x, some z => some (LF.add x z) | _, _ => none) l
noncomputable def smallL (E : Env) (l : List V) : Bool := List.rec (motive := fun _ => Bool) true (fun v _ ih => match kOf v, asLF v with
 | some k, some x => bif sameK k .i64 && (known E (x.1 + 1125899906842624, x.2) && known E (LF.sub (1125899906842624, []) x)) then ih else false
 | _, _ => false) l
noncomputable def sumF (E : Env) (_ : Gv.Call) (l : List V) (h : H) : RV := match l with
 | [.ptr _ _, .nilslice] => .ok (.int .i64 0) h
 | [.ptr _ _, .slice b o n _ _] => onRead h b fun cs m => bif Nat.ble (o + n) m && Nat.ble n 1000 then (match T.range cs n o with
   | some vs => bif smallL E vs then (match sumLF vs with | some z => .ok (ofLF .i64 z) h | none => .bad "Sum" 3) else .bad "Sum" 2
   | none => .bad "Sum" 1) else .bad "Sum" 0
 | _ => .bad "Sum" 4
section
variable {P : Program} {G : Gh} {φ : Mp} {E : Env}
theorem smallL_cons {v : V} {l : List V} : smallL E (v :: l) = (match kOf v, asLF v with
 | some k, some x => bif sameK k .i64 && (known E (x.1 + 1125899906842624, x.2) && known E (LF.sub (1125899906842624, []) x)) then smallL E l else false
 | _, _ => false) := rfl
theorem sumLF_cons {v : V} {l : List V} : sumLF (v :: l) = (match asLF v, sumLF l with | some x, some z => some (LF.add x z) | _, _ => none) := rfl
theorem sum_nums (ok : EnvOk E P G) : ∀ {vs : List V} {z : LF}, smallL E vs = true → sumLF vs = some z →
 ∃ xs : List Int, concL G φ vs = some (xs.map (Value.int .i64)) ∧ isum xs = z.den G.σ ∧ ∀ x ∈ xs, -1125899906842624 ≤ x ∧ x ≤ 1125899906842624
 | [], z, _, e => by cases e; exact ⟨[], concL_nil, rfl, by simp⟩
 | v :: vs, z, hs, e => by
   rw [smallL_cons] at hs
   rw [sumLF_cons] at e
   split at hs
   · rename_i k x hk hx
     rw [hx] at e
     cases hz : sumLF vs with
     | none => rw [hz] at e; cases e
     | some z' =>
       rw [hz] at e
       cases e
       cases hc : (sameK k .i64 && (known E (x.1 + 1125899906842624, x.2) && known E (LF.sub (1125899906842624, []) x))) with
       | false => rw [hc] at hs; cases hs
       | true =>
         rw [hc, cond_true] at hs
         simp only [Bool.and_eq_true] at hc
         obtain ⟨h1, h2, h3⟩ := hc
         have hkk := sameK_ok h1
         subst hkk
         obtain ⟨xs, a1, a2, a3⟩ := sum_nums ok hs hz
         have p1 := known_ok ok h2
         have p2 := known_ok ok h3
         rw [LF.den_sub] at p2
         have q1 : LF.den G.σ (x.1 + 1125899906842624, x.2) = x.den G.σ + 1125899906842624 := by show x.1 + 1125899906842624 + den G.σ x.2 = x.1 + den G.σ x.2 + 1125899906842624; omega
         have q2 : LF.den G.σ (1125899906842624, []) = 1125899906842624 := by show (1125899906842624 : Int) + 0 = _; omega
         rw [q1] at p1
         rw [q2] at p2
         refine ⟨x.den G.σ :: xs, concL_cons.2 ⟨_, _, int_conc hk hx, a1, rfl⟩, by rw [isum, a2, LF.den_add], fun y hy => ?_⟩
         rcases List.mem_cons.1 hy with rfl | hy
         · omega
         · exact a3 y hy
   · cases hs
set_option maxRecDepth 100000 in
theorem sumF_ok {G : Gh} {E : Env} (hm : ¬ G.mono) (ok : EnvOk E Tryz.prog G) : HookOk Tryz.prog G 407 (sumF E) := by
 intro call _ l h v h' e φ w ul hl r _
 unfold sumF at e
 split at e
 · rename_i b o
   cases e
   obtain ⟨u, k, hu, hk, rfl⟩ := concL_cons.1 hl
   obtain ⟨u2, k2, hu2, hk2, rfl⟩ := concL_cons.1 hk
   rw [concL_nil] at hk2
   cases hk2
   obtain ⟨l1, _, rfl⟩ := conc_ptr hu
   rw [conc] at hu2
   cases hu2
   rw [run_enter Tryz.func407 (prog_name progOkB Tryz.func407) rfl]
   refine (sum_any _ none 0 0 [] w (fun h => absurd rfl h) rfl (by omega) (by simp)).mono ?_
   rintro e w2 ⟨rfl, hb⟩
   exact ⟨_, rfl, below_post hm r hb (by rw [conc]; rfl)⟩
 · rename_i b o b2 o2 n c x
   obtain ⟨B, cs, m, hB, hrd, e⟩ := onRead_ok e
   try dsimp only at e
   obtain ⟨hc, e⟩ := bif_ok e
   simp only [Bool.and_eq_true, nble, decide_eq_true_eq] at hc
   split at e
   · rename_i vs hvs
     obtain ⟨hs, e⟩ := bif_ok e
     split at e
     · rename_i z hz
       cases e
       obtain ⟨u, k, hu, hk, rfl⟩ := concL_cons.1 hl
       obtain ⟨u2, k2, hu2, hk2, rfl⟩ := concL_cons.1 hk
       rw [concL_nil] at hk2
       cases hk2
       obtain ⟨l1, _, rfl⟩ := conc_ptr hu
       obtain ⟨l2, hl2, rfl⟩ := conc_slice hu2
       obtain ⟨us, hus, hlen, hcell⟩ := r.rrow hB hrd hl2 hc.1 hvs
       obtain ⟨xs, a1, a2, a3⟩ := sum_nums (φ := φ) ok hs hz
       have hux : us = xs.map (Value.int .i64) := by rw [a1] at hus; exact (Option.some.inj hus).symm
       subst hux
       rw [run_enter Tryz.func407 (prog_name progOkB Tryz.func407) rfl]
       refine (sum_any _ (some ⟨l2.blk, o2, none⟩) n _ xs w (fun _ => ⟨_, rfl, fun j x hx => ?_⟩) (by simpa using hlen) hc.2 a3).mono ?_
       · have h9 := hcell j (.int .i64 x) (by simp [hx])
         rw [show (⟨l2.blk, o2, none⟩ : Addr).add j = ⟨l2.blk, o2 + j, none⟩ from (by unfold Addr.add; split <;> simp_all)]
         exact h9
       · rintro e w2 ⟨rfl, hb⟩
         exact ⟨_, rfl, below_post hm r hb (by rw [ofLF_conc, ← a2])⟩
     · cases e
   · cases e
 · cases e
end
end Go.Proofs.YtdfgedemolielaaGreat
/- complinelaw27.alive: states, part 0. -/
namespace Go.Proofs.YtdfgedemolielaaGreat
open Go Gv Gv.Lt
noncomputable def All0 : List (Nat × B) := []
noncomputable def All1 : List (Nat × B) := [C 0 1 1 true [ns],
C 1 2 2 true [p 0 0, ns],
C 2 1 1 true [m 3],
M 3 [] [] 0,
C 6 4 4 true [p 2 0, m 139, m 153, m 184],
C 7 1 1 true [nm],
C 8 3 3 true [p 7 0, nm, nm],
C 9 1 1 true [ns],
C 10 1 1 true [nm],
C 11 6 6 true [p 6 0, p 8 0, p 9 0, p 1 0, p 10 0, i 0],
C 12 2 2 true [ns, ns],
C 15 4 4 true [ns, r 105 4 4, r 106 7 7, r 138 5 5],
C 16 4 4 true [ns, ns, ns, ns],
C 17 1 1 true [ns],
C 18 1 1 true [ns],
C 19 6 6 true [p 15 0, p 16 0, p 17 0, p 12 0, p 18 0, i 0],
C 105 8 2 false [s 4 0x4b4e4142, i 0, s 1 0x50, i 1000, s 1 0x51, i 100, s 1 0x52, i 0],
C 106 14 2 false [s 4 0x4b4e4142, s 4 0x4b4e4142, s 2 0x4150, s 1 0x50, s 2 0x4250, s 1 0x50, s 2 0x4151, s 1 0x51, s 2 0x4251, s 1 0x51, s 2 0x4152, s 1 0x52, s 2 0x4252, s 1 0x52],
C 138 40 8 false [s 3 0x525545, b true, b false, i 1, i 1, i 0, i 0, i 2, s 3 0x445355, b true, b false, i 1, i 1, i 0, i 0, i 0, s 1 0x58, b false, b true, i 1, i 1, i 10, i 1000, i 0, s 1 0x59, b false, b true, i 10, i 20, i 3, i 5000, i 0, s 1 0x5a, b false, b false, i 5, i 10, i 7, i 0, i 0],
M 139 [(s 4 0x4b4e4142, a [s 4 0x4b4e4142, i 0]), (s 1 0x50, a [s 1 0x50, i 1000]), (s 1 0x51, a [s 1 0x51, i 100]), (s 1 0x52, a [s 1 0x52, i 0])] [0, 1, 2, 3] 4,
M 153 [(s 4 0x4b4e4142, a [s 4 0x4b4e4142, s 4 0x4b4e4142]), (s 2 0x4150, a [s 2 0x4150, s 1 0x50]), (s 2 0x4250, a [s 2 0x4250, s 1 0x50]), (s 2 0x4151, a [s 2 0x4151, s 1 0x51]), (s 2 0x4251, a [s 2 0x4251, s 1 0x51]), (s 2 0x4152, a [s 2 0x4152, s 1 0x52]), (s 2 0x4252, a [s 2 0x4252, s 1 0x52])] [0, 1, 2, 3, 4, 5, 6] 7,
M 184 [(s 1 0x58, a [s 1 0x58, b false, b true, i 1, i 1, i 10, i 1000, i 0]), (s 1 0x59, a [s 1 0x59, b false, b true, i 10, i 20, i 3, i 5000, i 0]), (s 1 0x5a, a [s 1 0x5a, b false, b false, i 5, i 10, i 7, i 0, i 0]), (s 3 0x525545, a [s 3 0x525545, b true, b false, i 1, i 1, i 0, i 0, i 2]), (s 3 0x445355, a [s 3 0x445355, b true, b false, i 1, i 1, i 0, i 0, i 0])] [0, 1, 2, 3, 4] 5]
noncomputable def All2 : List (Nat × B) := ov [C 210 154 22 true [i 19, i 0, i 0, s 1 0x50, s 2 0x4150, s 2 0x4250, s 1 0x51, b true, s 1 0x58, s 3 0x525545, s 0 0, i 50, i 100, i 0, i 0, b false, b false, s 0 0, s 0 0, s 0 0, ns, ns, i 8, i 0, i 0, s 0 0, s 0 0, s 0 0, s 0 0, b false, s 0 0, s 0 0, s 0 0, i 0, i 0, i 0, i 0, b false, b false, s 0 0, s 0 0, s 0 0, ns, ns, i 9, i 50, i 0, s 0 0, s 0 0, s 0 0, s 0 0, b false, s 0 0, s 0 0, s 0 0, i 0, i 0, i 0, i 0, b false, b false, s 0 0, s 2 0x4150, s 1 0x58, ns, ns, i 9, i 1000, i 0, s 0 0, s 0 0, s 0 0, s 0 0, b false, s 0 0, s 0 0, s 0 0, i 0, i 0, i 0, i 0, b false, b false, s 0 0, s 2 0x4251, s 1 0x59, ns, ns, i 9, i 40, i 0, s 0 0, s 0 0, s 0 0, s 0 0, b false, s 0 0, s 0 0, s 0 0, i 0, i 0, i 0, i 0, b false, b false, s 0 0, s 2 0x4251, s 3 0x525545, ns, ns, i 9, i 10000, i 0, s 0 0, s 0 0, s 0 0, s 0 0, b false, s 0 0, s 0 0, s 0 0, i 0, i 0, i 0, i 0, b false, b false, s 0 0, s 4 0x4b4e4142, s 3 0x525545, ns, ns, i 13, i 1000, i 0, s 0 0, s 0 0, s 0 0, s 0 0, b false, s 0 0, s 0 0, s 0 0, i 0, i 0, i 0, i 0, b false, b false, s 1 0x51, s 0 0, s 0 0, ns, ns]] [] All1
noncomputable def All3 : List (Nat × B) := ov [C 0 1 1 true [r 295 2 2],
C 9 1 1 true [r 293 2 2],
C 12 2 2 true [r 316 2 2, ns],
C 17 1 1 true [r 313 2 2],
C 293 42 21 false [i 1, s 1 0x50, s 2 0x4150, s 2 0x4250, s 1 0x51, b true, s 1 0x58, s 3 0x525545, s 0 0, i 50, i 100, i 0, i 0, i 2, b false, b false, b false, i 0, i 0, i 0, i 0, i 2, s 1 0x51, s 2 0x4151, s 2 0x4251, s 1 0x50, b false, s 1 0x58, s 3 0x525545, s 0 0, i 50, i 100, i 0, i 0, i 1, b false, b false, b false, i 0, i 0, i 0, i 0],
C 295 2 1 false [i 1, i 2],
C 313 42 21 false [i 1, s 1 0x50, s 2 0x4150, s 2 0x4250, s 1 0x51, b true, s 1 0x58, s 3 0x525545, s 0 0, i 50, i 100, i 0, i 0, i 2, b false, b false, b false, i 0, i 0, i 0, i 0, i 2, s 1 0x51, s 2 0x4151, s 2 0x4251, s 1 0x50, b false, s 1 0x58, s 3 0x525545, s 0 0, i 50, i 100, i 0, i 0, i 1, b false, b false, b false, i 0, i 0, i 0, i 0],
C 316 2 1 false [i 1, i 2]] [0, 9, 12, 17] All2
noncomputable def All4 : List (Nat × B) := ov [C 17 1 1 true [r 463 2 2],
C 19 6 6 true [p 15 0, p 16 0, p 17 0, p 444 0, p 18 0, i 0],
C 293 42 21 false [i 1, s 1 0x50, s 2 0x4150, s 2 0x4250, s 1 0x51, b true, s 1 0x58, s 3 0x525545, s 0 0, i 50, i 100, i 0, i 0, i 2, b false, b false, b false, i 1, i 2, i 0, i 0, i 2, s 1 0x51, s 2 0x4151, s 2 0x4251, s 1 0x50, b false, s 1 0x58, s 3 0x525545, s 0 0, i 50, i 100, i 0, i 0, i 1, b false, b false, b false, i 1, i 1, i 0, i 0],
C 295 2 1 false [i 1, i 1],
C 444 2 2 true [r 446 2 2, ns],
C 446 2 1 false [i 1, i 1],
C 463 42 21 false [i 1, s 1 0x50, s 2 0x4150, s 2 0x4250, s 1 0x51, b true, s 1 0x58, s 3 0x525545, s 0 0, i 50, i 100, i 0, i 0, i 2, b false, b false, b false, i 1, i 2, i 0, i 0, i 2, s 1 0x51, s 2 0x4151, s 2 0x4251, s 1 0x50, b false, s 1 0x58, s 3 0x525545, s 0 0, i 50, i 100, i 0, i 0, i 1, b false, b false, b false, i 1, i 1, i 0, i 0]] [17, 19, 293, 295] All3
noncomputable def All5 : List (Nat × B) := ov [C 7 1 1 true [m 472],
C 8 3 3 true [p 7 0, m 473, nm],
C 16 4 4 true [r 480 1 1, ns, r 482 1 1, r 484 1 1],
M 472 [(a [s 2 0x4150, s 1 0x58], a [i 50, i 0, i 0])] [0] 1,
M 473 [(s 1 0x58, i 50)] [0] 1,
C 480 5 5 false [s 2 0x4150, s 1 0x58, i 50, i 0, i 0],
C 482 1 1 false [s 1 0x58],
C 484 1 1 false [i 50]] [7, 8, 16] All4
noncomputable def All6 : List (Nat × B) := ov [C 16 4 4 true [r 501 2 2, ns, r 505 2 2, r 509 2 2],
M 472 [(a [s 2 0x4150, s 1 0x58], a [i 50, i 0, i 0]), (a [s 2 0x4251, s 1 0x59], a [i 1000, i 0, i 0])] [0, 1] 2,
M 473 [(s 1 0x58, i 50), (s 1 0x59, i 1000)] [0, 1] 2,
C 501 10 5 false [s 2 0x4150, s 1 0x58, i 50, i 0, i 0, s 2 0x4251, s 1 0x59, i 1000, i 0, i 0],
C 505 2 1 false [s 1 0x58, s 1 0x59],
C 509 2 1 false [i 50, i 1000]] [16, 472, 473] All5
noncomputable def All7 : List (Nat × B) := ov [C 16 4 4 true [r 530 3 3, ns, r 533 3 3, r 536 3 3],
M 472 [(a [s 2 0x4150, s 1 0x58], a [i 50, i 0, i 0]), (a [s 2 0x4251, s 1 0x59], a [i 1000, i 0, i 0]), (a [s 2 0x4251, s 3 0x525545], a [i 40, i 0, i 0])] [0, 1, 2] 3,
M 473 [(s 1 0x58, i 50), (s 1 0x59, i 1000), (s 3 0x525545, i 40)] [0, 1, 2] 3,
C 530 15 5 false [s 2 0x4150, s 1 0x58, i 50, i 0, i 0, s 2 0x4251, s 3 0x525545, i 40, i 0, i 0, s 2 0x4251, s 1 0x59, i 1000, i 0, i 0],
C 533 3 1 false [s 3 0x525545, s 1 0x58, s 1 0x59],
C 536 3 1 false [i 40, i 50, i 1000]] [16, 472, 473] All6
noncomputable def All8 : List (Nat × B) := ov [C 16 4 4 true [r 553 4 4, ns, r 533 3 3, r 554 3 3],
M 472 [(a [s 2 0x4150, s 1 0x58], a [i 50, i 0, i 0]), (a [s 2 0x4251, s 1 0x59], a [i 1000, i 0, i 0]), (a [s 2 0x4251, s 3 0x525545], a [i 40, i 0, i 0]), (a [s 4 0x4b4e4142, s 3 0x525545], a [i 10000, i 0, i 0])] [0, 1, 2, 3] 4,
M 473 [(s 1 0x58, i 50), (s 1 0x59, i 1000), (s 3 0x525545, i 10040)] [0, 1, 2] 3,
C 553 20 5 false [s 4 0x4b4e4142, s 3 0x525545, i 10000, i 0, i 0, s 2 0x4150, s 1 0x58, i 50, i 0, i 0, s 2 0x4251, s 3 0x525545, i 40, i 0, i 0, s 2 0x4251, s 1 0x59, i 1000, i 0, i 0],
C 554 3 1 false [i 10040, i 50, i 1000]] [16, 472, 473] All7
noncomputable def All9 : List (Nat × B) := ov [C 15 4 4 true [ns, r 557 4 4, r 106 7 7, r 138 5 5],
M 139 [(s 4 0x4b4e4142, a [s 4 0x4b4e4142, i 0]), (s 1 0x50, a [s 1 0x50, i 1000]), (s 1 0x51, a [s 1 0x51, i 1000]), (s 1 0x52, a [s 1 0x52, i 0])] [0, 1, 2, 3] 4,
C 557 8 2 false [s 4 0x4b4e4142, i 0, s 1 0x50, i 1000, s 1 0x51, i 1000, s 1 0x52, i 0]] [15, 139] All8
noncomputable def All10 : List (Nat × B) := ov [C 558 9 9 true [p 11 0, b false, b true, i 1, m 559, m 560, b false, b false, b false],
M 559 [] [] 0,
M 560 [] [] 0] [] All9
noncomputable def All11 : List (Nat × B) := ov [C 10 1 1 true [m 2529],
C 293 42 21 false [i 1, s 1 0x50, s 2 0x4150, s 2 0x4250, s 1 0x51, b true, s 1 0x58, s 3 0x525545, s 0 0, i 50, i 100, i 0, i 0, i 2, b false, b false, b false, i 3, i 2, i 50, i 100, i 2, s 1 0x51, s 2 0x4151, s 2 0x4251, s 1 0x50, b false, s 1 0x58, s 3 0x525545, s 0 0, i 50, i 100, i 0, i 0, i 1, b false, b false, b false, i 3, i 1, i 50, i 100],
M 472 [(a [s 2 0x4251, s 1 0x59], a [i 960, i 0, i 40]), (a [s 4 0x4b4e4142, s 3 0x525545], a [i 9940, i 0, i 0]), (a [s 2 0x4250, s 3 0x525545], a [i 100, i 0, i 0]), (a [s 2 0x4151, s 1 0x58], a [i 50, i 0, i 0])] [1, 3, 4, 5] 6,
C 558 9 9 true [p 11 0, b false, b true, i 2, m 4567, m 4568, b true, b false, b true],
M 559 [(i 1, a [])] [0] 1,
C 1604 2 2 false [i 1, i 50],
C 1856 2 2 false [s 1 0x59, i 40],
C 1858 4 4 false [s 2 0x4251, s 3 0x525545, i 60, r 1856 1 1],
M 2529 [(a [s 2 0x4251, s 3 0x525545], a [s 1 0x51, s 2 0x4251, s 3 0x525545, i 60, r 2538 1 1])] [0] 1,
C 2538 2 2 false [s 1 0x59, i 40],
C 2541 2 2 false [r 1604 1 1, r 1858 1 1],
M 4567 [] [] 0,
M 4568 [] [] 0] [10, 293, 472, 558, 559] All10
noncomputable def All12 : List (Nat × B) := ov [C 6594 8 8 true [p 19 0, b false, b true, b false, b false, i 1, i 1, ns]] [] All11
noncomputable def All13 : List (Nat × B) := ov [C 16 4 4 true [r 7725 6 6, ns, r 533 3 3, r 554 3 3],
C 17 1 1 true [r 7752 2 2],
C 18 1 1 true [r 7774 1 1],
C 6594 8 8 true [p 19 0, b false, b true, b true, b false, i 2, i 3, ns],
C 6637 2 2 false [i 1, i 50],
C 6839 2 2 false [s 1 0x59, i 40],
C 6841 4 4 false [s 2 0x4251, s 3 0x525545, i 60, r 6839 1 1],
C 7725 30 5 false [s 4 0x4b4e4142, s 3 0x525545, i 9940, i 0, i 0, s 2 0x4150, s 1 0x58, i 0, i 0, i 0, s 2 0x4250, s 3 0x525545, i 100, i 0, i 0, s 2 0x4151, s 1 0x58, i 50, i 0, i 0, s 2 0x4251, s 3 0x525545, i 0, i 0, i 0, s 2 0x4251, s 1 0x59, i 960, i 0, i 40],
C 7752 42 21 false [i 1, s 1 0x50, s 2 0x4150, s 2 0x4250, s 1 0x51, b true, s 1 0x58, s 3 0x525545, s 0 0, i 50, i 100, i 0, i 0, i 2, b false, b false, b false, i 3, i 2, i 50, i 100, i 2, s 1 0x51, s 2 0x4151, s 2 0x4251, s 1 0x50, b false, s 1 0x58, s 3 0x525545, s 0 0, i 50, i 100, i 0, i 0, i 1, b false, b false, b false, i 3, i 1, i 50, i 100],
C 7772 2 2 false [s 1 0x59, i 40],
C 7774 5 5 false [s 1 0x51, s 2 0x4251, s 3 0x525545, i 60, r 7772 1 1],
C 7777 2 2 false [r 6637 1 1, r 6841 1 1]] [16, 17, 18, 6594] All12
noncomputable def All14 : List (Nat × B) := [C 0 1 1 true [r 295 2 2],
C 1 2 2 true [p 0 0, ns],
C 2 1 1 true [m 3],
M 3 [] [] 0,
C 6 4 4 true [p 2 0, m 139, m 153, m 184],
C 7 1 1 true [m 472],
C 8 3 3 true [p 7 0, m 473, nm],
C 9 1 1 true [r 293 2 2],
C 10 1 1 true [m 2529],
C 11 6 6 true [p 6 0, p 8 0, p 9 0, p 1 0, p 10 0, i 0],
C 15 4 4 true [ns, r 557 4 4, r 106 7 7, r 138 5 5],
C 16 4 4 true [r 7725 6 6, ns, r 533 3 3, r 554 3 3],
C 17 1 1 true [r 7752 2 2],
C 18 1 1 true [r 7774 1 1],
C 19 6 6 true [p 15 0, p 16 0, p 17 0, p 444 0, p 18 0, i 0],
C 106 14 2 false [s 4 0x4b4e4142, s 4 0x4b4e4142, s 2 0x4150, s 1 0x50, s 2 0x4250, s 1 0x50, s 2 0x4151, s 1 0x51, s 2 0x4251, s 1 0x51, s 2 0x4152, s 1 0x52, s 2 0x4252, s 1 0x52],
C 138 40 8 false [s 3 0x525545, b true, b false, i 1, i 1, i 0, i 0, i 2, s 3 0x445355, b true, b false, i 1, i 1, i 0, i 0, i 0, s 1 0x58, b false, b true, i 1, i 1, i 10, i 1000, i 0, s 1 0x59, b false, b true, i 10, i 20, i 3, i 5000, i 0, s 1 0x5a, b false, b false, i 5, i 10, i 7, i 0, i 0],
M 139 [(s 4 0x4b4e4142, a [s 4 0x4b4e4142, i 0]), (s 1 0x50, a [s 1 0x50, i 1000]), (s 1 0x51, a [s 1 0x51, i 1000]), (s 1 0x52, a [s 1 0x52, i 0])] [0, 1, 2, 3] 4,
M 153 [(s 4 0x4b4e4142, a [s 4 0x4b4e4142, s 4 0x4b4e4142]), (s 2 0x4150, a [s 2 0x4150, s 1 0x50]), (s 2 0x4250, a [s 2 0x4250, s 1 0x50]), (s 2 0x4151, a [s 2 0x4151, s 1 0x51]), (s 2 0x4251, a [s 2 0x4251, s 1 0x51]), (s 2 0x4152, a [s 2 0x4152, s 1 0x52]), (s 2 0x4252, a [s 2 0x4252, s 1 0x52])] [0, 1, 2, 3, 4, 5, 6] 7,
M 184 [(s 1 0x58, a [s 1 0x58, b false, b true, i 1, i 1, i 10, i 1000, i 0]), (s 1 0x59, a [s 1 0x59, b false, b true, i 10, i 20, i 3, i 5000, i 0]), (s 1 0x5a, a [s 1 0x5a, b false, b false, i 5, i 10, i 7, i 0, i 0]), (s 3 0x525545, a [s 3 0x525545, b true, b false, i 1, i 1, i 0, i 0, i 2]), (s 3 0x445355, a [s 3 0x445355, b true, b false, i 1, i 1, i 0, i 0, i 0])] [0, 1, 2, 3, 4] 5,
C 293 42 21 false [i 1, s 1 0x50, s 2 0x4150, s 2 0x4250, s 1 0x51, b true, s 1 0x58, s 3 0x525545, s 0 0, i 50, i 100, i 0, i 0, i 2, b false, b false, b false, i 3, i 2, i 50, i 100, i 2, s 1 0x51, s 2 0x4151, s 2 0x4251, s 1 0x50, b false, s 1 0x58, s 3 0x525545, s 0 0, i 50, i 100, i 0, i 0, i 1, b false, b false, b false, i 3, i 1, i 50, i 100],
C 295 2 1 false [i 1, i 1],
C 444 2 2 true [r 446 2 2, ns],
C 446 2 1 false [i 1, i 1],
M 472 [(a [s 2 0x4251, s 1 0x59], a [i 960, i 0, i 40]), (a [s 4 0x4b4e4142, s 3 0x525545], a [i 9940, i 0, i 0]), (a [s 2 0x4250, s 3 0x525545], a [i 100, i 0, i 0]), (a [s 2 0x4151, s 1 0x58], a [i 50, i 0, i 0])] [1, 3, 4, 5] 6,
M 473 [(s 1 0x58, i 50), (s 1 0x59, i 1000), (s 3 0x525545, i 10040)] [0, 1, 2] 3,
C 533 3 1 false [s 3 0x525545, s 1 0x58, s 1 0x59],
C 554 3 1 false [i 10040, i 50, i 1000],
C 557 8 2 false [s 4 0x4b4e4142, i 0, s 1 0x50, i 1000, s 1 0x51, i 1000, s 1 0x52, i 0],
M 2529 [(a [s 2 0x4251, s 3 0x525545], a [s 1 0x51, s 2 0x4251, s 3 0x525545, i 60, r 2538 1 1])] [0] 1,
C 2538 2 2 false [s 1 0x59, i 40],
C 7725 30 5 false [s 4 0x4b4e4142, s 3 0x525545, i 9940, i 0, i 0, s 2 0x4150, s 1 0x58, i 0, i 0, i 0, s 2 0x4250, s 3 0x525545, i 100, i 0, i 0, s 2 0x4151, s 1 0x58, i 50, i 0, i 0, s 2 0x4251, s 3 0x525545, i 0, i 0, i 0, s 2 0x4251, s 1 0x59, i 960, i 0, i 40],
C 7752 42 21 false [i 1, s 1 0x50, s 2 0x4150, s 2 0x4250, s 1 0x51, b true, s 1 0x58, s 3 0x525545, s 0 0, i 50, i 100, i 0, i 0, i 2, b false, b false, b false, i 3, i 2, i 50, i 100, i 2, s 1 0x51, s 2 0x4151, s 2 0x4251, s 1 0x50, b false, s 1 0x58, s 3 0x525545, s 0 0, i 50, i 100, i 0, i 0, i 1, b false, b false, b false, i 3, i 1, i 50, i 100],
C 7772 2 2 false [s 1 0x59, i 40],
C 7774 5 5 false [s 1 0x51, s 2 0x4251, s 3 0x525545, i 60, r 7772 1 1]]
end Go.Proofs.YtdfgedemolielaaGreat
/- complinelaw27.alive: tables. -/
namespace Go.Proofs.YtdfgedemolielaaGreat
open Go Go.RowKit Gv Gv.Lt
set_option maxRecDepth 100000
def alI : List (Int × Int) := []
def alArgs : List V := []
noncomputable def alP0 : SN := ⟨6, [], All0, 0, t [p 11 0, p 19 0, b true], All1, 210⟩
noncomputable def alP1 : SN := ⟨8, [p 11 0, p 19 0, a [i 19, i 0, i 0, s 1 0x50, s 2 0x4150, s 2 0x4250, s 1 0x51, b true, s 1 0x58, s 3 0x525545, s 0 0, i 50, i 100, i 0, i 0, b false, b false, s 0 0, s 0 0, s 0 0, ns, ns]], All2, 211, b true, All3, 317⟩
noncomputable def alP2 : SN := ⟨8, [p 11 0, p 19 0, a [i 8, i 0, i 0, s 0 0, s 0 0, s 0 0, s 0 0, b false, s 0 0, s 0 0, s 0 0, i 0, i 0, i 0, i 0, b false, b false, s 0 0, s 0 0, s 0 0, ns, ns]], All3, 317, b true, All4, 466⟩
noncomputable def alP3 : SN := ⟨8, [p 11 0, p 19 0, a [i 9, i 50, i 0, s 0 0, s 0 0, s 0 0, s 0 0, b false, s 0 0, s 0 0, s 0 0, i 0, i 0, i 0, i 0, b false, b false, s 0 0, s 2 0x4150, s 1 0x58, ns, ns]], All4, 466, b true, All5, 485⟩
noncomputable def alP4 : SN := ⟨8, [p 11 0, p 19 0, a [i 9, i 1000, i 0, s 0 0, s 0 0, s 0 0, s 0 0, b false, s 0 0, s 0 0, s 0 0, i 0, i 0, i 0, i 0, b false, b false, s 0 0, s 2 0x4251, s 1 0x59, ns, ns]], All5, 485, b true, All6, 511⟩
noncomputable def alP5 : SN := ⟨8, [p 11 0, p 19 0, a [i 9, i 40, i 0, s 0 0, s 0 0, s 0 0, s 0 0, b false, s 0 0, s 0 0, s 0 0, i 0, i 0, i 0, i 0, b false, b false, s 0 0, s 2 0x4251, s 3 0x525545, ns, ns]], All6, 511, b true, All7, 537⟩
noncomputable def alP6 : SN := ⟨8, [p 11 0, p 19 0, a [i 9, i 10000, i 0, s 0 0, s 0 0, s 0 0, s 0 0, b false, s 0 0, s 0 0, s 0 0, i 0, i 0, i 0, i 0, b false, b false, s 0 0, s 4 0x4b4e4142, s 3 0x525545, ns, ns]], All7, 537, b true, All8, 555⟩
noncomputable def alP7 : SN := ⟨8, [p 11 0, p 19 0, a [i 13, i 1000, i 0, s 0 0, s 0 0, s 0 0, s 0 0, b false, s 0 0, s 0 0, s 0 0, i 0, i 0, i 0, i 0, b false, b false, s 1 0x51, s 0 0, s 0 0, ns, ns]], All8, 555, b true, All9, 558⟩
noncomputable def alP8 : SN := ⟨12, [p 558 0], All10, 561, r 2541 1 1, All11, 6594⟩
noncomputable def alP9 : SN := ⟨82, [p 6594 0], All12, 6595, r 7777 1 1, All13, 7816⟩
noncomputable def alP10 : SN := ⟨16, [i 100, i 40], All0, 0, t [p 11 0, p 19 0, b true], All14, 7816⟩
noncomputable abbrev alE (ks : List SN) (bd : List (Int × Int)) (ge : List LF) : Env := evE Tryz.prog (orHk (hkS ks) (libS bd ge (orHk (oneH 407 (sumF (evE Tryz.prog (fun _ => none) bd ge []))) (mapsMd bd ge)))) bd ge []
abbrev alNL : List NL := []
abbrev alC (ks : List SN) (ge : List LF) (f : Nat) (t : SN) : Prop := isSn t (callN (alE ks alI ge) 100 f t.args t.h0) = true
theorem al_sc {G : Gh} {t t' : SN} (ok : SNOk Tryz.prog G t') (ha : ∀ φ, concL G φ t'.args = concL G φ t.args) (hv : ∀ φ, conc G φ t.v = conc G φ t'.v) (hf : t'.f = t.f := by rfl) (h0 : t'.l0 = t.l0 := by rfl) (hn0 : t'.n0 = t.n0 := by rfl) (h1 : t'.l1 = t.l1 := by rfl) (hn1 : t'.n1 ≤ t.n1 := by show (_ : Nat) ≤ _; decide) : SNOk Tryz.prog G t :=
 sn_case hf (fun φ _ h => (ha φ).trans h) h0 hn0 h1 hn1 (fun φ _ h => (hv φ).trans h) ok
theorem alN {G : Gh} : ∀ t ∈ ([] : List SN), SNOk Tryz.prog G t := fun _ h => nomatch h
theorem alH {G : Gh} {bd : List (Int × Int)} {ge : List LF} (F : Facts G bd ge []) (hm : ¬ G.mono) {ks : List SN} (hk : ∀ t ∈ ks, SNOk Tryz.prog G t) : HooksOk Tryz.prog G (orHk (hkS ks) (libS bd ge (orHk (oneH 407 (sumF (evE Tryz.prog (fun _ => none) bd ge []))) (mapsMd bd ge)))) := orHk_ok (hkS_ok progOk ks hk) (libS_ok F (orHk_ok (oneH_ok (sumF_ok hm (env_ok progOk F))) (mapsMd_ok hm F)) hm)
abbrev alS (ge : List LF) (t : SN) : Prop := ∀ {G : Gh}, Facts G alI ge alNL → ¬ G.mono → SNOk Tryz.prog G t
theorem alK {G : Gh} {t : SN} {ks : List SN} (a : SNOk Tryz.prog G t) (b : ∀ p ∈ ks, SNOk Tryz.prog G p) : ∀ p ∈ t :: ks, SNOk Tryz.prog G p := List.forall_mem_cons.2 ⟨a, b⟩
theorem al_piece {ge : List LF} {ks : List SN} {t : SN} {fn : Func} {c : Go.Code} (hf : Tryz.prog.funcs[t.f]? = some fn) (hb : fn.body = some c) (r : isSn t (callN (alE ks alI ge) 100 t.f t.args t.h0) = true) (kids : ∀ {G : Gh}, Facts G alI ge alNL → ¬ G.mono → ∀ p ∈ ks, SNOk Tryz.prog G p) : alS ge t := fun F hm => snap_ok progOk F (alH F hm (kids F hm)) 100 t hf hb r
end Go.Proofs.YtdfgedemolielaaGreat
