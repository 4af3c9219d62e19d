/- Texts of this proof, packed into one: PAxf32 PAxf71 PAxf72 PAxf33 PAxf35 PAE4 PAE5 PAxf7 PAL7 PAL8 PAL9. -/
import Derived.Test.YtnllemlmgbjjnaaASPAx0
import Derived.Test.YtnllemlmgbjjnaaAS1
import Derived.Test.YtnllemlmgbjjnaaAS4
import Derived.Test.YtnllemlmgbjjnaaAS2
import Derived.Test.YtnllemlmgbjjnaaASOpen
import Derived.Lib.SliceRun
namespace Go.Proofs.Ytnllemlmgbjjnaa.PA
open Go.RowKit Go.Proofs.YtnllemlmgbjjnaaW.PrintWords Go.Proofs.YtnllemlmgbjjnaaW.PrintLast Go.Proofs.YtnllemlmgbjjnaaW.PrintMore
attribute [local go_sem] max2_int min2_int max_two min_two max_three min_three max_four min_four   -- for this text's walks alone
set_option linter.unusedVariables false
set_option linter.unusedSimpArgs false
def apply_Strict.l0 : Nat → List ByteArray → List ByteArray → Int → List (S24) → Int → Int → Option (List ByteArray × Int)
  | 0, _, _, _, _, _, _ => none
  | k + 1, x1, x8, x9, x23, x24, x25 => if x25 < x24 then (if 0 ≤ x25 then (if x25 < (x23.length : Int) then ((hunks_Old.f k ((rd_T24 x23 x25).f0) ((rd_T24 x23 x25).f1) ((rd_T24 x23 x25).f2) ((rd_T24 x23 x25).f3) ((rd_T24 x23 x25).f4)).bind fun t436 => ((apply_at.f ((rd_T24 x23 x25).f0) ((rd_T24 x23 x25).f1) ((rd_T24 x23 x25).f2) ((rd_T24 x23 x25).f3) ((rd_T24 x23 x25).f4)).bind fun t439 => ((apply_stands.f k x1 t439 t436).bind fun t440 => (if t440 = true then ((apply_at.f ((rd_T24 x23 x25).f0) ((rd_T24 x23 x25).f1) ((rd_T24 x23 x25).f2) ((rd_T24 x23 x25).f3) ((rd_T24 x23 x25).f4)).bind fun t441 => (if 0 ≤ x9 then (if x9 ≤ t441 then (if t441 ≤ (x1.length : Int) then (if x8.length + ((x1.take (t441 : Int).toNat).drop (x9 : Int).toNat).length < 8796093022208 then ((some (x8 ++ ((x1.take (t441 : Int).toNat).drop (x9 : Int).toNat) : List ByteArray)).bind fun y443 => ((hunks_New.f k ((rd_T24 x23 x25).f0) ((rd_T24 x23 x25).f1) ((rd_T24 x23 x25).f2) ((rd_T24 x23 x25).f3) ((rd_T24 x23 x25).f4)).bind fun t446 => (if y443.length + t446.length < 8796093022208 then ((apply_at.f ((rd_T24 x23 x25).f0) ((rd_T24 x23 x25).f1) ((rd_T24 x23 x25).f2) ((rd_T24 x23 x25).f3) ((rd_T24 x23 x25).f4)).bind fun t452 => (apply_Strict.l0 k x1 (y443 ++ t446) (wrap64 (t452 + (t436.length : Int))) x23 x24 (wrap64 (x25 + 1)))) else (none)))) else (none)) else (none)) else (none)) else (none))) else (some (([] : List ByteArray), 190)))))) else (none)) else (none)) else (if 0 ≤ x9 then (if x9 ≤ (x1.length : Int) then (if x8.length + (x1.drop (x9 : Int).toNat).length < 8796093022208 then ((apply_checked.f k (x8 ++ (x1.drop (x9 : Int).toNat))).bind fun bt430 => (some (bt430.1, bt430.2))) else (none)) else (none)) else (none))
def apply_Strict.f (k : Nat) (l0 : List (S24)) (l1 : List ByteArray) : Option (List ByteArray × Int) := (lines_Check.f k l1).bind fun t424 => (if t424 = 0 then ((hunks_Order.f k l0).bind fun t425 => (if t425 = 0 then (apply_Strict.l0 k l1 ([] : List ByteArray) 0 l0 (l0.length : Int) 0) else (some (([] : List ByteArray), t425)))) else (some (([] : List ByteArray), t424)))
set_option maxHeartbeats 8000000 in
set_option maxRecDepth 100000 in
theorem apply_Strict.calls (k : Nat) (A0 : Option Addr) (c0 : Nat) (l0 : List (S24)) (A1 : Option Addr) (c1 : Nat) (l1 : List ByteArray) (r1 : List ByteArray) (r2 : Int) (w : World) (hr0 : Kd.C k24 w A0 l0.length l0) (hc0 : l0.length ≤ c0) (hr1 : Kd.C Kd.string w A1 l1.length l1) (hc1 : l1.length ≤ c1) (h : apply_Strict.f k l0 l1 = some (r1, r2)) :
    Calls Try.prog 32 #[.slice A0 l0.length c0, .slice A1 l1.length c1] w fun e w' => ∃ v0_ : Value, e = .returned (.tuple #[v0_, .int .i64 r2]) ∧ Kd.R Kd.string 9 w' w.heap.size (fun _ => True) v0_ r1 ∧ Below w.heap.size w w' := by
  have hu24 := Try.underlying24
  have HR0 := Aside0.mk hr0
  have HC0 := Aside0.mk hc0
  clear hr0 hc0
  have HR1 := Aside0.mk hr1
  have HC1 := Aside0.mk hc1
  clear hr1 hc1
  have HB := Aside0.mk (Below.refl w.heap.size w)
  have H : ((lines_Check.f k l1).bind fun t424 => (if t424 = 0 then ((hunks_Order.f k l0).bind fun t425 => (if t425 = 0 then (apply_Strict.l0 k l1 ([] : List ByteArray) 0 l0 (l0.length : Int) 0) else (some (([] : List ByteArray), t425)))) else (some (([] : List ByteArray), t424)))) = some (r1, r2) := h
  clear h
  replace H := Option.bind_eq_some_iff.mp H
  obtain ⟨t424, A30, H⟩ := H
  replace H : (if t424 = 0 then ((hunks_Order.f k l0).bind fun t425 => (if t425 = 0 then (apply_Strict.l0 k l1 ([] : List ByteArray) 0 l0 (l0.length : Int) 0) else (some (([] : List ByteArray), t425)))) else (some (([] : List ByteArray), t424))) = some (r1, r2) := H
  have A3 := Aside0.mk A30
  clear A30
  by_cases c4 : t424 = 0
  · rw [if_pos c4] at H
    have c4b0 : (t424 == 0) = true := beq_iff_eq.mpr c4
    have c4b1 : (t424 != 0) = false := bne_eq_false_iff_eq.mpr c4
    clear c4
    replace H := Option.bind_eq_some_iff.mp H
    obtain ⟨t425, A50, H⟩ := H
    replace H : (if t425 = 0 then (apply_Strict.l0 k l1 ([] : List ByteArray) 0 l0 (l0.length : Int) 0) else (some (([] : List ByteArray), t425))) = some (r1, r2) := H
    have A5 := Aside0.mk A50
    clear A50
    by_cases c6 : t425 = 0
    · rw [if_pos c6] at H
      have c6b0 : (t425 == 0) = true := beq_iff_eq.mpr c6
      have c6b1 : (t425 != 0) = false := bne_eq_false_iff_eq.mpr c6
      clear c6
      have H' := Aside0.mk H
      clear H
      go_enter Try.func32, Try.ntmps32
      go_wp2_with (first | ((with_reducible refine gate_callee (f := 40) rfl ?_); refine goesL_ (some 14) rfl rfl Try.func40 (by kernel_rfl) rfl #[.slice A1 l1.length c1] rfl (by (try simp only [List.map_toArray, List.map_cons, List.map_nil]); first | done | rfl | (simp only [List.length_drop, List.length_take]; rfl)) ?_; (with_reducible refine (lines_Check.calls k _ _ l1 t424 _ ?side1 ?side2 A3.out).mono ?_); (case side1 => repeat (first | exact HR1.out | (with_reducible refine Kd.C_alloc ?_ _) | (with_reducible refine Kd.C_drewN ?_ _) | (with_reducible refine Kd.C_drew ?_))); (case side2 => exact HC1.out); rintro e w' ⟨rfl, ⟨nd, rfl⟩⟩; refine ⟨_, rfl, ?_⟩) | ((with_reducible refine gate_callee (f := 26) rfl ?_); refine goesL_ (some 19) rfl rfl Try.func26 (by kernel_rfl) rfl #[.slice A0 l0.length c0] rfl (by (try simp only [List.map_toArray, List.map_cons, List.map_nil]); first | done | rfl | (simp only [List.length_drop, List.length_take]; rfl)) ?_; (with_reducible refine (hunks_Order.calls k _ _ l0 t425 _ ?side1 ?side2 A5.out).mono ?_); (case side1 => repeat (first | exact HR0.out | (with_reducible refine Kd.C_alloc ?_ _) | (with_reducible refine Kd.C_drewN ?_ _) | (with_reducible refine Kd.C_drew ?_))); (case side2 => exact HC0.out); rintro e w7 ⟨rfl, hb⟩; refine ⟨_, rfl, ?_⟩; have n0_ := Aside0.mk (below_step (by repeat (first | (with_reducible first | exact HB.out | apply below_alloc | apply pw_below_drewN | apply below_drew1) | exact HB.out)) hb); clear HB; have HB := n0_; clear n0_; (try clear hb); (try clear hb2); (try clear hk); (try clear hi)))
      go_loopg [8, 9, 25] k (fun kq v8 v9 v25 w' => ∃ (x8_1 : List ByteArray) (x9_1 : Int) (x25_1 : Int), v9 = .int .i64 x9_1 ∧ v25 = .int .i64 x25_1 ∧ Aside0 (apply_Strict.l0 kq l1 x8_1 x9_1 l0 (l0.length : Int) x25_1 = some (r1, r2)) ∧ Aside0 (kq ≤ k) ∧ Aside0 (Kd.R Kd.string 9 w' w.heap.size (fun _ => True) v8 x8_1) ∧ Aside0 (Below w.heap.size w w'))
      case atStart => exact ⟨(([] : List ByteArray)), (0), (0), (by first | rfl | (simp; done) | (simp [*]; done)), (by first | rfl | (simp; done) | (simp [*]; done)), H', ⟨Nat.le_refl _⟩, ⟨by first | exact Kd.R_nil _ _ _ _ _ | exact Kd.N_nil _ _ _ _ _ | exact Kd.V_nil _ _ _ _ _ | exact Kd.Q_nil _ _ _ _ _ | exact Kd.S_nil _ _ _ _ _⟩, ⟨by repeat (first | (with_reducible first | exact HB.out | apply below_alloc | apply pw_below_drewN | apply below_drew1) | exact HB.out)⟩⟩
      case round =>
        clear H'
        try clear c1
        try clear c2
        try clear p2
        try clear c3
        try clear c4
        try clear c4b0
        try clear c4b1
        try clear c6
        try clear c6b0
        try clear c6b1
        obtain ⟨x8_1, x9_1, x25_1, rfl, rfl, HA, HK1, HO_8, HB⟩ := hrel
        cases gk with
        | zero => exact absurd HA.out (by simp [apply_Strict.l0])
        | succ k1 =>
          have H := HA.out
          clear HA
          simp only [apply_Strict.l0] at H
          by_cases c8 : x25_1 < (l0.length : Int)
          · rw [if_pos c8] at H
            have c8b0 : decide (x25_1 < (l0.length : Int)) = true := decide_eq_true c8
            clear c8
            by_cases c9 : 0 ≤ x25_1
            · rw [if_pos c9] at H
              have c9b0 : decide (0 ≤ x25_1) = true := decide_eq_true c9
              clear c9
              by_cases c10 : x25_1 < (l0.length : Int)
              · rw [if_pos c10] at H
                have c10b0 : decide (x25_1 < (l0.length : Int)) = true := decide_eq_true c10
                clear c10
                replace H := Option.bind_eq_some_iff.mp H
                obtain ⟨t436, A110, H⟩ := H
                replace H : ((apply_at.f ((rd_T24 l0 x25_1).f0) ((rd_T24 l0 x25_1).f1) ((rd_T24 l0 x25_1).f2) ((rd_T24 l0 x25_1).f3) ((rd_T24 l0 x25_1).f4)).bind fun t439 => ((apply_stands.f k1 l1 t439 t436).bind fun t440 => (if t440 = true then ((apply_at.f ((rd_T24 l0 x25_1).f0) ((rd_T24 l0 x25_1).f1) ((rd_T24 l0 x25_1).f2) ((rd_T24 l0 x25_1).f3) ((rd_T24 l0 x25_1).f4)).bind fun t441 => (if 0 ≤ x9_1 then (if x9_1 ≤ t441 then (if t441 ≤ (l1.length : Int) then (if x8_1.length + ((l1.take (t441 : Int).toNat).drop (x9_1 : Int).toNat).length < 8796093022208 then ((some (x8_1 ++ ((l1.take (t441 : Int).toNat).drop (x9_1 : Int).toNat) : List ByteArray)).bind fun y443 => ((hunks_New.f k1 ((rd_T24 l0 x25_1).f0) ((rd_T24 l0 x25_1).f1) ((rd_T24 l0 x25_1).f2) ((rd_T24 l0 x25_1).f3) ((rd_T24 l0 x25_1).f4)).bind fun t446 => (if y443.length + t446.length < 8796093022208 then ((apply_at.f ((rd_T24 l0 x25_1).f0) ((rd_T24 l0 x25_1).f1) ((rd_T24 l0 x25_1).f2) ((rd_T24 l0 x25_1).f3) ((rd_T24 l0 x25_1).f4)).bind fun t452 => (apply_Strict.l0 k1 l1 (y443 ++ t446) (wrap64 (t452 + (t436.length : Int))) l0 (l0.length : Int) (wrap64 (x25_1 + 1)))) else (none)))) else (none)) else (none)) else (none)) else (none))) else (some (([] : List ByteArray), 190))))) = some (r1, r2) := H
                have A11 := Aside0.mk A110
                clear A110
                replace H := Option.bind_eq_some_iff.mp H
                obtain ⟨t439, A120, H⟩ := H
                replace H : ((apply_stands.f k1 l1 t439 t436).bind fun t440 => (if t440 = true then ((apply_at.f ((rd_T24 l0 x25_1).f0) ((rd_T24 l0 x25_1).f1) ((rd_T24 l0 x25_1).f2) ((rd_T24 l0 x25_1).f3) ((rd_T24 l0 x25_1).f4)).bind fun t441 => (if 0 ≤ x9_1 then (if x9_1 ≤ t441 then (if t441 ≤ (l1.length : Int) then (if x8_1.length + ((l1.take (t441 : Int).toNat).drop (x9_1 : Int).toNat).length < 8796093022208 then ((some (x8_1 ++ ((l1.take (t441 : Int).toNat).drop (x9_1 : Int).toNat) : List ByteArray)).bind fun y443 => ((hunks_New.f k1 ((rd_T24 l0 x25_1).f0) ((rd_T24 l0 x25_1).f1) ((rd_T24 l0 x25_1).f2) ((rd_T24 l0 x25_1).f3) ((rd_T24 l0 x25_1).f4)).bind fun t446 => (if y443.length + t446.length < 8796093022208 then ((apply_at.f ((rd_T24 l0 x25_1).f0) ((rd_T24 l0 x25_1).f1) ((rd_T24 l0 x25_1).f2) ((rd_T24 l0 x25_1).f3) ((rd_T24 l0 x25_1).f4)).bind fun t452 => (apply_Strict.l0 k1 l1 (y443 ++ t446) (wrap64 (t452 + (t436.length : Int))) l0 (l0.length : Int) (wrap64 (x25_1 + 1)))) else (none)))) else (none)) else (none)) else (none)) else (none))) else (some (([] : List ByteArray), 190)))) = some (r1, r2) := H
                have A12 := Aside0.mk A120
                clear A120
                replace H := Option.bind_eq_some_iff.mp H
                obtain ⟨t440, A130, H⟩ := H
                replace H : (if t440 = true then ((apply_at.f ((rd_T24 l0 x25_1).f0) ((rd_T24 l0 x25_1).f1) ((rd_T24 l0 x25_1).f2) ((rd_T24 l0 x25_1).f3) ((rd_T24 l0 x25_1).f4)).bind fun t441 => (if 0 ≤ x9_1 then (if x9_1 ≤ t441 then (if t441 ≤ (l1.length : Int) then (if x8_1.length + ((l1.take (t441 : Int).toNat).drop (x9_1 : Int).toNat).length < 8796093022208 then ((some (x8_1 ++ ((l1.take (t441 : Int).toNat).drop (x9_1 : Int).toNat) : List ByteArray)).bind fun y443 => ((hunks_New.f k1 ((rd_T24 l0 x25_1).f0) ((rd_T24 l0 x25_1).f1) ((rd_T24 l0 x25_1).f2) ((rd_T24 l0 x25_1).f3) ((rd_T24 l0 x25_1).f4)).bind fun t446 => (if y443.length + t446.length < 8796093022208 then ((apply_at.f ((rd_T24 l0 x25_1).f0) ((rd_T24 l0 x25_1).f1) ((rd_T24 l0 x25_1).f2) ((rd_T24 l0 x25_1).f3) ((rd_T24 l0 x25_1).f4)).bind fun t452 => (apply_Strict.l0 k1 l1 (y443 ++ t446) (wrap64 (t452 + (t436.length : Int))) l0 (l0.length : Int) (wrap64 (x25_1 + 1)))) else (none)))) else (none)) else (none)) else (none)) else (none))) else (some (([] : List ByteArray), 190))) = some (r1, r2) := H
                have A13 := Aside0.mk A130
                clear A130
                by_cases c14 : t440 = true
                · subst c14
                  have H1 : ((apply_at.f ((rd_T24 l0 x25_1).f0) ((rd_T24 l0 x25_1).f1) ((rd_T24 l0 x25_1).f2) ((rd_T24 l0 x25_1).f3) ((rd_T24 l0 x25_1).f4)).bind fun t441 => (if 0 ≤ x9_1 then (if x9_1 ≤ t441 then (if t441 ≤ (l1.length : Int) then (if x8_1.length + ((l1.take (t441 : Int).toNat).drop (x9_1 : Int).toNat).length < 8796093022208 then ((some (x8_1 ++ ((l1.take (t441 : Int).toNat).drop (x9_1 : Int).toNat) : List ByteArray)).bind fun y443 => ((hunks_New.f k1 ((rd_T24 l0 x25_1).f0) ((rd_T24 l0 x25_1).f1) ((rd_T24 l0 x25_1).f2) ((rd_T24 l0 x25_1).f3) ((rd_T24 l0 x25_1).f4)).bind fun t446 => (if y443.length + t446.length < 8796093022208 then ((apply_at.f ((rd_T24 l0 x25_1).f0) ((rd_T24 l0 x25_1).f1) ((rd_T24 l0 x25_1).f2) ((rd_T24 l0 x25_1).f3) ((rd_T24 l0 x25_1).f4)).bind fun t452 => (apply_Strict.l0 k1 l1 (y443 ++ t446) (wrap64 (t452 + (t436.length : Int))) l0 (l0.length : Int) (wrap64 (x25_1 + 1)))) else (none)))) else (none)) else (none)) else (none)) else (none))) = some (r1, r2) := by rw [if_pos rfl] at H; exact H
                  clear H
                  have H := H1
                  clear H1
                  replace H := Option.bind_eq_some_iff.mp H
                  obtain ⟨t441, A150, H⟩ := H
                  replace H : (if 0 ≤ x9_1 then (if x9_1 ≤ t441 then (if t441 ≤ (l1.length : Int) then (if x8_1.length + ((l1.take (t441 : Int).toNat).drop (x9_1 : Int).toNat).length < 8796093022208 then ((some (x8_1 ++ ((l1.take (t441 : Int).toNat).drop (x9_1 : Int).toNat) : List ByteArray)).bind fun y443 => ((hunks_New.f k1 ((rd_T24 l0 x25_1).f0) ((rd_T24 l0 x25_1).f1) ((rd_T24 l0 x25_1).f2) ((rd_T24 l0 x25_1).f3) ((rd_T24 l0 x25_1).f4)).bind fun t446 => (if y443.length + t446.length < 8796093022208 then ((apply_at.f ((rd_T24 l0 x25_1).f0) ((rd_T24 l0 x25_1).f1) ((rd_T24 l0 x25_1).f2) ((rd_T24 l0 x25_1).f3) ((rd_T24 l0 x25_1).f4)).bind fun t452 => (apply_Strict.l0 k1 l1 (y443 ++ t446) (wrap64 (t452 + (t436.length : Int))) l0 (l0.length : Int) (wrap64 (x25_1 + 1)))) else (none)))) else (none)) else (none)) else (none)) else (none)) = some (r1, r2) := H
                  have A15 := Aside0.mk A150
                  clear A150
                  by_cases c16 : 0 ≤ x9_1
                  · rw [if_pos c16] at H
                    have c16b0 := eq_true c16
                    have c16b1 : decide (0 ≤ x9_1) = true := decide_eq_true c16
                    clear c16
                    by_cases c17 : x9_1 ≤ t441
                    · rw [if_pos c17] at H
                      have c17b0 := eq_true c17
                      have c17b1 : decide (x9_1 ≤ t441) = true := decide_eq_true c17
                      clear c17
                      by_cases c18 : t441 ≤ (l1.length : Int)
                      · rw [if_pos c18] at H
                        have c18b0 := eq_true c18
                        have c18b1 : decide (t441 ≤ (l1.length : Int)) = true := decide_eq_true c18
                        clear c18
                        by_cases c19 : x8_1.length + ((l1.take (t441 : Int).toNat).drop (x9_1 : Int).toNat).length < 8796093022208
                        · rw [if_pos c19] at H
                          have LMc19 := Aside0.mk c19
                          clear c19
                          obtain ⟨y443, hy443⟩ : ∃ y_ : List ByteArray, y_ = (x8_1 ++ ((l1.take (t441 : Int).toNat).drop (x9_1 : Int).toNat)) := ⟨_, rfl⟩
                          replace H : ((hunks_New.f k1 ((rd_T24 l0 x25_1).f0) ((rd_T24 l0 x25_1).f1) ((rd_T24 l0 x25_1).f2) ((rd_T24 l0 x25_1).f3) ((rd_T24 l0 x25_1).f4)).bind fun t446 => (if y443.length + t446.length < 8796093022208 then ((apply_at.f ((rd_T24 l0 x25_1).f0) ((rd_T24 l0 x25_1).f1) ((rd_T24 l0 x25_1).f2) ((rd_T24 l0 x25_1).f3) ((rd_T24 l0 x25_1).f4)).bind fun t452 => (apply_Strict.l0 k1 l1 (y443 ++ t446) (wrap64 (t452 + (t436.length : Int))) l0 (l0.length : Int) (wrap64 (x25_1 + 1)))) else (none))) = some (r1, r2) := by first | (rw [hy443]; with_reducible exact H) | (have H2_ := (Option.bind_some _ _).symm.trans H; rw [hy443]; with_reducible exact H2_) | (have H2_ := (Option.bind_some _ _).symm.trans H; with_reducible exact H2_) | with_reducible exact H | (rw [hy443]; exact H) | exact H
                          have Ny443 := Aside0.mk hy443
                          clear hy443
                          replace H := Option.bind_eq_some_iff.mp H
                          obtain ⟨t446, A200, H⟩ := H
                          replace H : (if y443.length + t446.length < 8796093022208 then ((apply_at.f ((rd_T24 l0 x25_1).f0) ((rd_T24 l0 x25_1).f1) ((rd_T24 l0 x25_1).f2) ((rd_T24 l0 x25_1).f3) ((rd_T24 l0 x25_1).f4)).bind fun t452 => (apply_Strict.l0 k1 l1 (y443 ++ t446) (wrap64 (t452 + (t436.length : Int))) l0 (l0.length : Int) (wrap64 (x25_1 + 1)))) else (none)) = some (r1, r2) := H
                          have A20 := Aside0.mk A200
                          clear A200
                          by_cases c21 : y443.length + t446.length < 8796093022208
                          · rw [if_pos c21] at H
                            have LMc21 := Aside0.mk c21
                            clear c21
                            obtain ⟨y449, hy449⟩ : ∃ y_ : List ByteArray, y_ = (y443 ++ t446) := ⟨_, rfl⟩
                            replace H : ((apply_at.f ((rd_T24 l0 x25_1).f0) ((rd_T24 l0 x25_1).f1) ((rd_T24 l0 x25_1).f2) ((rd_T24 l0 x25_1).f3) ((rd_T24 l0 x25_1).f4)).bind fun t452 => (apply_Strict.l0 k1 l1 y449 (wrap64 (t452 + (t436.length : Int))) l0 (l0.length : Int) (wrap64 (x25_1 + 1)))) = some (r1, r2) := by first | (rw [hy449]; with_reducible exact H) | (have H2_ := (Option.bind_some _ _).symm.trans H; rw [hy449]; with_reducible exact H2_) | (have H2_ := (Option.bind_some _ _).symm.trans H; with_reducible exact H2_) | with_reducible exact H | (rw [hy449]; exact H) | exact H
                            have Ny449 := Aside0.mk hy449
                            clear hy449
                            replace H := Option.bind_eq_some_iff.mp H
                            obtain ⟨t452, A220, H⟩ := H
                            replace H : (apply_Strict.l0 k1 l1 y449 (wrap64 (t452 + (t436.length : Int))) l0 (l0.length : Int) (wrap64 (x25_1 + 1))) = some (r1, r2) := H
                            have A22 := Aside0.mk A220
                            clear A220
                            have H' := Aside0.mk H
                            clear H
                            have p434 : 0 ≤ (x25_1 : Int) := of_decide_eq_true (by first | (with_reducible assumption) | assumption)
                            have q434 : x25_1 < (l0.length : Int) := of_decide_eq_true (by first | (with_reducible assumption) | assumption)
                            obtain ⟨ad434, A434_4, c434_4, e434, hx434_0, hx434_1, hx434_2, hx434_3, hx434_4, hl434_4, hi434_4⟩ := at_T24 HR0.out x25_1 p434 q434
                            cases e434
                            replace hx434_0 := (HB.out.cell (World.block_lt_of_cell? w _ hx434_0)).trans hx434_0
                            replace hx434_1 := (HB.out.cell (World.block_lt_of_cell? w _ hx434_1)).trans hx434_1
                            replace hx434_2 := (HB.out.cell (World.block_lt_of_cell? w _ hx434_2)).trans hx434_2
                            replace hx434_3 := (HB.out.cell (World.block_lt_of_cell? w _ hx434_3)).trans hx434_3
                            replace hx434_4 := (HB.out.cell (World.block_lt_of_cell? w _ hx434_4)).trans hx434_4
                            have HR434_4 := Aside0.mk hi434_4
                            have HC434_4 := Aside0.mk hl434_4
                            clear hi434_4 hl434_4
                            replace p434 := eq_true p434
                            replace q434 := eq_true q434
                            go_wp2_with (first | ((with_reducible refine gate_dst (N := 11) rfl ?_); refine box_event ?hg (N := 11) ?hd (cs := #[.int .i64 0, .int .i64 0, .int .i64 0, .int .i64 0, .slice none 0 0]) (t := 24) ?hr ?_; (case hd => rfl); (case hg => rfl); (case hr => first | (go_simp; done) | (go_simp; rfl)); intro gb435 hg w23 hbox hb; have n0_ := Aside0.mk (Kd.R_below (by (with_reducible repeat (first | apply Kd.R_alloc | apply Kd.R_drewN | apply Kd.R_drew)); exact HO_8.out) hb); have n1_ := Aside0.mk (below_step (by repeat (first | (with_reducible first | exact HB.out | apply below_alloc | apply pw_below_drewN | apply below_drew1) | exact HB.out)) hb); have n2_ := Aside0.mk (hbox); have n3_ := Aside0.mk ((by rw [hg]; exact (below_size (by repeat (first | (with_reducible first | exact HB.out | apply below_alloc | apply pw_below_drewN | apply below_drew1) | exact HB.out))) : w.heap.size ≤ gb435)); have n4_ := Aside0.mk ((by rw [hg]; exact (below_size (by repeat (first | (with_reducible first | exact HB.out | apply below_alloc | apply pw_below_drewN | apply below_drew1) | exact HB.out))) : w.heap.size ≤ gb435)); clear HO_8; clear HB; have HO_8 := n0_; have HB := n1_; have BK435 := n2_; have GW435 := n3_; have GE435 := n4_; clear n0_ n1_ n2_ n3_ n4_; clear hb hbox hg; have hcz24_0 : w23.cell? ⟨gb435, 0, none⟩ = some (.int .i64 0) := (blk_cell BK435.out 0).trans rfl; have hcz24_1 : w23.cell? ⟨gb435, 1, none⟩ = some (.int .i64 0) := (blk_cell BK435.out 1).trans rfl; have hcz24_2 : w23.cell? ⟨gb435, 2, none⟩ = some (.int .i64 0) := (blk_cell BK435.out 2).trans rfl; have hcz24_3 : w23.cell? ⟨gb435, 3, none⟩ = some (.int .i64 0) := (blk_cell BK435.out 3).trans rfl; have hcz24_4 : w23.cell? ⟨gb435, 4, none⟩ = some (.slice none 0 0) := (blk_cell BK435.out 4).trans rfl; have hfz24_0 := blk_frozen BK435.out 0; have hfz24_1 := blk_frozen BK435.out 1; have hfz24_2 := blk_frozen BK435.out 2; have hfz24_3 := blk_frozen BK435.out 3; have hfz24_4 := blk_frozen BK435.out 4) | ((with_reducible refine gate_callee (f := 12) rfl ?_); refine goesL_ (some 30) rfl rfl Try.func12 (by kernel_rfl) rfl #[.agg #[.int .i64 ((rd_T24 l0 x25_1).f0), .int .i64 ((rd_T24 l0 x25_1).f1), .int .i64 ((rd_T24 l0 x25_1).f2), .int .i64 ((rd_T24 l0 x25_1).f3), .slice A434_4 ((rd_T24 l0 x25_1).f4).length c434_4]] rfl (by (try simp only [List.map_toArray, List.map_cons, List.map_nil]); first | done | rfl | (simp only [List.length_drop, List.length_take]; rfl)) ?_; (with_reducible refine (hunks_Old.calls k1 ((rd_T24 l0 x25_1).f0) ((rd_T24 l0 x25_1).f1) ((rd_T24 l0 x25_1).f2) ((rd_T24 l0 x25_1).f3) _ _ ((rd_T24 l0 x25_1).f4) t436 _ ?side1 ?side2 A11.out).mono ?_); (case side1 => exact Kd.C_below HR434_4.out (by repeat (first | (with_reducible first | exact HB.out | apply below_alloc | apply pw_below_drewN | apply below_drew1 | refine below_set ?_ GE435.out) | exact HB.out))); (case side2 => exact HC434_4.out); rintro e w25 ⟨v437, rfl, ho0, hb⟩; refine ⟨_, rfl, ?_⟩; have n0_ := Aside0.mk (Kd.R_elder' (by (with_reducible repeat (first | apply Kd.R_alloc | apply Kd.R_drewN | apply Kd.R_drew)); exact (Kd.R_mono (Kd.R_far (p := ⟨gb435, 4, none⟩) (Kd.R_far (p := ⟨gb435, 3, none⟩) (Kd.R_far (p := ⟨gb435, 2, none⟩) (Kd.R_far (p := ⟨gb435, 1, none⟩) (Kd.R_far (p := ⟨gb435, 0, none⟩) (Kd.R_types HO_8.out BK435.out (by decide)) (fun _ hk => hk.2) (.int .i64 ((rd_T24 l0 x25_1).f0))) (fun _ hk => hk.2) (.int .i64 ((rd_T24 l0 x25_1).f1))) (fun _ hk => hk.2) (.int .i64 ((rd_T24 l0 x25_1).f2))) (fun _ hk => hk.2) (.int .i64 ((rd_T24 l0 x25_1).f3))) (fun _ hk => hk.2) (.slice A434_4 ((rd_T24 l0 x25_1).f4).length c434_4)) (fun _ h_ => h_.1))) (Kd.R_base ho0) hb); have n1_ := Aside0.mk (Kd.R_lower (Kd.R_new' ho0 (Kd.R_lt (by (with_reducible repeat (first | apply Kd.R_alloc | apply Kd.R_drewN | apply Kd.R_drew)); exact (Kd.R_mono (Kd.R_far (p := ⟨gb435, 4, none⟩) (Kd.R_far (p := ⟨gb435, 3, none⟩) (Kd.R_far (p := ⟨gb435, 2, none⟩) (Kd.R_far (p := ⟨gb435, 1, none⟩) (Kd.R_far (p := ⟨gb435, 0, none⟩) (Kd.R_types HO_8.out BK435.out (by decide)) (fun _ hk => hk.2) (.int .i64 ((rd_T24 l0 x25_1).f0))) (fun _ hk => hk.2) (.int .i64 ((rd_T24 l0 x25_1).f1))) (fun _ hk => hk.2) (.int .i64 ((rd_T24 l0 x25_1).f2))) (fun _ hk => hk.2) (.int .i64 ((rd_T24 l0 x25_1).f3))) (fun _ hk => hk.2) (.slice A434_4 ((rd_T24 l0 x25_1).f4).length c434_4)) (fun _ h_ => h_.1))))) (below_size (by repeat (first | (with_reducible first | exact HB.out | apply below_alloc | apply pw_below_drewN | apply below_drew1 | refine below_set ?_ GE435.out) | exact HB.out)))); have n2_ := Aside0.mk (blk_below (g := gb435) (o := .cells #[.int .i64 ((rd_T24 l0 x25_1).f0), .int .i64 ((rd_T24 l0 x25_1).f1), .int .i64 ((rd_T24 l0 x25_1).f2), .int .i64 ((rd_T24 l0 x25_1).f3), .slice A434_4 ((rd_T24 l0 x25_1).f4).length c434_4] 24 (0, 0)) (by (with_reducible repeat (first | refine blk_drewN ?_ _ | refine blk_drew ?_ | refine blk_alloc ?_ _)); refine blk_put (cs := #[.int .i64 ((rd_T24 l0 x25_1).f0), .int .i64 ((rd_T24 l0 x25_1).f1), .int .i64 ((rd_T24 l0 x25_1).f2), .int .i64 ((rd_T24 l0 x25_1).f3), .slice none 0 0]) ?_ 4 _ rfl; (with_reducible repeat (first | refine blk_drewN ?_ _ | refine blk_drew ?_ | refine blk_alloc ?_ _)); refine blk_put (cs := #[.int .i64 ((rd_T24 l0 x25_1).f0), .int .i64 ((rd_T24 l0 x25_1).f1), .int .i64 ((rd_T24 l0 x25_1).f2), .int .i64 0, .slice none 0 0]) ?_ 3 _ rfl; (with_reducible repeat (first | refine blk_drewN ?_ _ | refine blk_drew ?_ | refine blk_alloc ?_ _)); refine blk_put (cs := #[.int .i64 ((rd_T24 l0 x25_1).f0), .int .i64 ((rd_T24 l0 x25_1).f1), .int .i64 0, .int .i64 0, .slice none 0 0]) ?_ 2 _ rfl; (with_reducible repeat (first | refine blk_drewN ?_ _ | refine blk_drew ?_ | refine blk_alloc ?_ _)); refine blk_put (cs := #[.int .i64 ((rd_T24 l0 x25_1).f0), .int .i64 0, .int .i64 0, .int .i64 0, .slice none 0 0]) ?_ 1 _ rfl; (with_reducible repeat (first | refine blk_drewN ?_ _ | refine blk_drew ?_ | refine blk_alloc ?_ _)); refine blk_put (cs := #[.int .i64 0, .int .i64 0, .int .i64 0, .int .i64 0, .slice none 0 0]) ?_ 0 _ rfl; (with_reducible repeat (first | refine blk_drewN ?_ _ | refine blk_drew ?_ | refine blk_alloc ?_ _)); exact BK435.out) hb); have n3_ := Aside0.mk (below_step (by repeat (first | (with_reducible first | exact HB.out | apply below_alloc | apply pw_below_drewN | apply below_drew1 | refine below_set ?_ GE435.out) | exact HB.out)) hb); clear HO_8; clear BK435; clear HB; have HO_8 := n0_; have HO438 := n1_; have BK435 := n2_; have HB := n3_; clear n0_ n1_ n2_ n3_; (try clear hb); (try clear hb2); (try clear hk); (try clear hi); (try clear ho0); have hcz26_0 : w25.cell? ⟨gb435, 0, none⟩ = some (.int .i64 ((rd_T24 l0 x25_1).f0)) := (blk_cell BK435.out 0).trans rfl; have hcz26_1 : w25.cell? ⟨gb435, 1, none⟩ = some (.int .i64 ((rd_T24 l0 x25_1).f1)) := (blk_cell BK435.out 1).trans rfl; have hcz26_2 : w25.cell? ⟨gb435, 2, none⟩ = some (.int .i64 ((rd_T24 l0 x25_1).f2)) := (blk_cell BK435.out 2).trans rfl; have hcz26_3 : w25.cell? ⟨gb435, 3, none⟩ = some (.int .i64 ((rd_T24 l0 x25_1).f3)) := (blk_cell BK435.out 3).trans rfl; have hcz26_4 : w25.cell? ⟨gb435, 4, none⟩ = some (.slice A434_4 ((rd_T24 l0 x25_1).f4).length c434_4) := (blk_cell BK435.out 4).trans rfl; have hfz26_0 := blk_frozen BK435.out 0; have hfz26_1 := blk_frozen BK435.out 1; have hfz26_2 := blk_frozen BK435.out 2; have hfz26_3 := blk_frozen BK435.out 3; have hfz26_4 := blk_frozen BK435.out 4) | ((with_reducible refine gate_callee (f := 69) rfl ?_); refine goesL_ (some 33) rfl rfl Try.func69 (by kernel_rfl) rfl #[.agg #[.int .i64 ((rd_T24 l0 x25_1).f0), .int .i64 ((rd_T24 l0 x25_1).f1), .int .i64 ((rd_T24 l0 x25_1).f2), .int .i64 ((rd_T24 l0 x25_1).f3), .slice A434_4 ((rd_T24 l0 x25_1).f4).length c434_4]] rfl (by (try simp only [List.map_toArray, List.map_cons, List.map_nil]); first | done | rfl | (simp only [List.length_drop, List.length_take]; rfl)) ?_; (with_reducible refine (apply_at.calls ((rd_T24 l0 x25_1).f0) ((rd_T24 l0 x25_1).f1) ((rd_T24 l0 x25_1).f2) ((rd_T24 l0 x25_1).f3) _ _ ((rd_T24 l0 x25_1).f4) t439 _ ?side1 ?side2 A12.out).mono ?_); (case side1 => repeat (first | exact (Kd.C_below HR434_4.out HB.out) | (with_reducible refine Kd.C_alloc ?_ _) | (with_reducible refine Kd.C_drewN ?_ _) | (with_reducible refine Kd.C_drew ?_))); (case side2 => exact HC434_4.out); rintro e w27 ⟨rfl, hb⟩; refine ⟨_, rfl, ?_⟩; have n0_ := Aside0.mk (Kd.R_below (by (with_reducible repeat (first | apply Kd.R_alloc | apply Kd.R_drewN | apply Kd.R_drew)); exact HO_8.out) hb); have n1_ := Aside0.mk (Kd.R_below (by (with_reducible repeat (first | apply Kd.R_alloc | apply Kd.R_drewN | apply Kd.R_drew)); exact HO438.out) hb); have n2_ := Aside0.mk (blk_below (g := gb435) (o := .cells #[.int .i64 ((rd_T24 l0 x25_1).f0), .int .i64 ((rd_T24 l0 x25_1).f1), .int .i64 ((rd_T24 l0 x25_1).f2), .int .i64 ((rd_T24 l0 x25_1).f3), .slice A434_4 ((rd_T24 l0 x25_1).f4).length c434_4] 24 (0, 0)) (by (with_reducible repeat (first | refine blk_drewN ?_ _ | refine blk_drew ?_ | refine blk_alloc ?_ _)); exact BK435.out) hb); have n3_ := Aside0.mk (below_step (by repeat (first | (with_reducible first | exact HB.out | apply below_alloc | apply pw_below_drewN | apply below_drew1 | refine below_set ?_ GE435.out) | exact HB.out)) hb); clear HO_8; clear HO438; clear BK435; clear HB; have HO_8 := n0_; have HO438 := n1_; have BK435 := n2_; have HB := n3_; clear n0_ n1_ n2_ n3_; (try clear hb); (try clear hb2); (try clear hk); (try clear hi); obtain ⟨Ao28, co28, eo28⟩ := Kd.R_slice HO438.out; subst eo28) | ((with_reducible refine gate_callee (f := 68) rfl ?_); refine goesL_ (some 35) rfl rfl Try.func68 (by kernel_rfl) rfl #[.slice A1 l1.length c1, .int .i64 t439, .slice Ao28 t436.length co28] rfl (by (try simp only [List.map_toArray, List.map_cons, List.map_nil]); first | done | rfl | (simp only [List.length_drop, List.length_take]; rfl)) ?_; (with_reducible refine (apply_stands.calls k1 _ _ l1 t439 _ _ t436 true _ ?side1 ?side2 ?side3 ?side4 A13.out).mono ?_); (case side1 => repeat (first | exact (Kd.C_below HR1.out HB.out) | (with_reducible refine Kd.C_alloc ?_ _) | (with_reducible refine Kd.C_drewN ?_ _) | (with_reducible refine Kd.C_drew ?_))); (case side2 => exact HC1.out); (case side3 => repeat (first | exact (Kd.R_reads' HO438.out).2.2 | (with_reducible refine Kd.C_alloc ?_ _) | (with_reducible refine Kd.C_drewN ?_ _) | (with_reducible refine Kd.C_drew ?_))); (case side4 => exact (Kd.R_reads' HO438.out).2.1); rintro e w' ⟨rfl, ⟨nd, rfl⟩⟩; refine ⟨_, rfl, ?_⟩; have hcz29_0 : w27.cell? ⟨gb435, 0, none⟩ = some (.int .i64 ((rd_T24 l0 x25_1).f0)) := (blk_cell BK435.out 0).trans rfl; have hcz29_1 : w27.cell? ⟨gb435, 1, none⟩ = some (.int .i64 ((rd_T24 l0 x25_1).f1)) := (blk_cell BK435.out 1).trans rfl; have hcz29_2 : w27.cell? ⟨gb435, 2, none⟩ = some (.int .i64 ((rd_T24 l0 x25_1).f2)) := (blk_cell BK435.out 2).trans rfl; have hcz29_3 : w27.cell? ⟨gb435, 3, none⟩ = some (.int .i64 ((rd_T24 l0 x25_1).f3)) := (blk_cell BK435.out 3).trans rfl; have hcz29_4 : w27.cell? ⟨gb435, 4, none⟩ = some (.slice A434_4 ((rd_T24 l0 x25_1).f4).length c434_4) := (blk_cell BK435.out 4).trans rfl; have hfz29_0 := blk_frozen BK435.out 0; have hfz29_1 := blk_frozen BK435.out 1; have hfz29_2 := blk_frozen BK435.out 2; have hfz29_3 := blk_frozen BK435.out 3; have hfz29_4 := blk_frozen BK435.out 4) | ((with_reducible refine gate_callee (f := 69) rfl ?_); refine goesL_ (some 41) rfl rfl Try.func69 (by kernel_rfl) rfl #[.agg #[.int .i64 ((rd_T24 l0 x25_1).f0), .int .i64 ((rd_T24 l0 x25_1).f1), .int .i64 ((rd_T24 l0 x25_1).f2), .int .i64 ((rd_T24 l0 x25_1).f3), .slice A434_4 ((rd_T24 l0 x25_1).f4).length c434_4]] rfl (by (try simp only [List.map_toArray, List.map_cons, List.map_nil]); first | done | rfl | (simp only [List.length_drop, List.length_take]; rfl)) ?_; (with_reducible refine (apply_at.calls ((rd_T24 l0 x25_1).f0) ((rd_T24 l0 x25_1).f1) ((rd_T24 l0 x25_1).f2) ((rd_T24 l0 x25_1).f3) _ _ ((rd_T24 l0 x25_1).f4) t441 _ ?side1 ?side2 A15.out).mono ?_); (case side1 => repeat (first | exact (Kd.C_below HR434_4.out (by repeat (first | (with_reducible first | exact HB.out | apply below_alloc | apply pw_below_drewN | apply below_drew1 | refine below_set ?_ GE435.out) | exact HB.out))) | (with_reducible refine Kd.C_alloc ?_ _) | (with_reducible refine Kd.C_drewN ?_ _) | (with_reducible refine Kd.C_drew ?_))); (case side2 => exact HC434_4.out); rintro e w30 ⟨rfl, hb⟩; refine ⟨_, rfl, ?_⟩; have n0_ := Aside0.mk (Kd.R_below (by (with_reducible repeat (first | apply Kd.R_alloc | apply Kd.R_drewN | apply Kd.R_drew)); exact HO_8.out) hb); have n1_ := Aside0.mk (Kd.R_below (by (with_reducible repeat (first | apply Kd.R_alloc | apply Kd.R_drewN | apply Kd.R_drew)); exact HO438.out) hb); have n2_ := Aside0.mk (blk_below (g := gb435) (o := .cells #[.int .i64 ((rd_T24 l0 x25_1).f0), .int .i64 ((rd_T24 l0 x25_1).f1), .int .i64 ((rd_T24 l0 x25_1).f2), .int .i64 ((rd_T24 l0 x25_1).f3), .slice A434_4 ((rd_T24 l0 x25_1).f4).length c434_4] 24 (0, 0)) (by (with_reducible repeat (first | refine blk_drewN ?_ _ | refine blk_drew ?_ | refine blk_alloc ?_ _)); exact BK435.out) hb); have n3_ := Aside0.mk (below_step (by repeat (first | (with_reducible first | exact HB.out | apply below_alloc | apply pw_below_drewN | apply below_drew1 | refine below_set ?_ GE435.out) | exact HB.out)) hb); clear HO_8; clear HO438; clear BK435; clear HB; have HO_8 := n0_; have HO438 := n1_; have BK435 := n2_; have HB := n3_; clear n0_ n1_ n2_ n3_; (try clear hb); (try clear hb2); (try clear hk); (try clear hi); obtain ⟨i031, hi031, _, hsz31, _⟩ := info_parts info9; obtain ⟨A31, hcut31, hA31, hC31⟩ := print_mid_of (P := Try.prog) Value.string (⟨#[]⟩ : ByteArray) 27 9 .i64 .i64 Try.underlying27 hi031 hsz31 A1 c1 l1 x9_1 t441 (of_decide_eq_true (by first | (with_reducible assumption) | assumption)) (by first | omega | exact of_decide_eq_true (by first | (with_reducible assumption) | assumption)) (of_decide_eq_true (by first | (with_reducible assumption) | assumption)) HC1.out; have HR442 := Aside0.mk (Kd.C_of_reads (h1 := fun _ => rfl) (hA31 _ (Kd.reads_of_C HR1.out))); have HC442 := Aside0.mk hC31; clear hA31 hC31 hi031 hsz31) | ((with_reducible refine gate_builtin (b := .append) (xs := #[.tmp 37, .tmp 42]) rfl ?_); at_builtin; refine Kd.R_append_rows Kd.string (w0 := w) w.heap.size rfl (.tmp 37) (.tmp 42) 27 9 (.string ⟨#[]⟩) 16 rfl Try.underlying27 info9 rfl (by decide) (by omega) u8 x8_1 ((l1.take (t441 : Int).toNat).drop (x9_1 : Int).toNat) _ _ _ (fun k_ => some k_ ≠ (.slice Ao28 t436.length co28 : Value).ownBlock) (fun _ => False) rfl rfl ?aO ?aR (fun _ _ h => h) (fun _ h => h.elim) ?aF ?aB ?aS ?aL ?_; (case aR => first | (rw [← show ((l1.take (t441 : Int).toNat).drop (x9_1 : Int).toNat).length = (t441.toNat - x9_1.toNat) from (by rw [List.length_drop, List.length_take]; have h_ : (t441 : Int) ≤ (l1.length : Int) := of_decide_eq_true (by first | (with_reducible assumption) | assumption); omega)]; repeat (first | exact (Kd.C_below HR442.out HB.out) | (with_reducible refine Kd.C_alloc ?_ _) | (with_reducible refine Kd.C_drewN ?_ _) | (with_reducible refine Kd.C_drew ?_))) | (repeat (first | exact (Kd.C_below HR442.out HB.out) | (with_reducible refine Kd.C_alloc ?_ _) | (with_reducible refine Kd.C_drewN ?_ _) | (with_reducible refine Kd.C_drew ?_)))); (case aB => exact (by repeat (first | (with_reducible first | exact HB.out | apply below_alloc | apply pw_below_drewN | apply below_drew1 | refine below_set ?_ GE435.out) | exact HB.out))); (case aF => exact (fun k_ hk => Kd.fresh' (Kd.R_lt (by (with_reducible repeat (first | apply Kd.R_alloc | apply Kd.R_drewN | apply Kd.R_drew)); exact HO438.out)) k_ hk)); (case aO => exact (by (with_reducible repeat (first | apply Kd.R_alloc | apply Kd.R_drewN | apply Kd.R_drew)); exact Kd.R_mono HO_8.out (fun _ hk => hk.2))); (case aS => exact (below_size (by repeat (first | (with_reducible first | exact HB.out | apply below_alloc | apply pw_below_drewN | apply below_drew1 | refine below_set ?_ GE435.out) | exact HB.out)))); (case aL => have := LMc19.out; have hlx_ := (show ((l1.take (t441 : Int).toNat).drop (x9_1 : Int).toNat).length = (t441.toNat - x9_1.toNat) from (by rw [List.length_drop, List.length_take]; have h_ : (t441 : Int) ≤ (l1.length : Int) := of_decide_eq_true (by first | (with_reducible assumption) | assumption); omega)); omega); intro v444 w32 ho hb hg hat; rw [← Ny443.out] at ho; have n0_ := Aside0.mk (blk_grown (g := gb435) (o := .cells #[.int .i64 ((rd_T24 l0 x25_1).f0), .int .i64 ((rd_T24 l0 x25_1).f1), .int .i64 ((rd_T24 l0 x25_1).f2), .int .i64 ((rd_T24 l0 x25_1).f3), .slice A434_4 ((rd_T24 l0 x25_1).f4).length c434_4] 24 (0, 0)) (by (with_reducible repeat (first | refine blk_drewN ?_ _ | refine blk_drew ?_ | refine blk_alloc ?_ _)); exact BK435.out) hg (Kd.R_ne HO_8.out BK435.out (by decide))); have n1_ := Aside0.mk (Kd.R_after (ok := (fun _ => True)) (by (with_reducible repeat (first | apply Kd.R_alloc | apply Kd.R_drewN | apply Kd.R_drew)); exact HO438.out) hg hat); have n2_ := Aside0.mk (hb); have n3_ := Aside0.mk (ho); clear BK435; clear HO438; clear HB; clear HO_8; have BK435 := n0_; have HO438 := n1_; have HB := n2_; have HO445 := n3_; clear n0_ n1_ n2_ n3_; clear ho hb hg hat; have hcz33_0 : w32.cell? ⟨gb435, 0, none⟩ = some (.int .i64 ((rd_T24 l0 x25_1).f0)) := (blk_cell BK435.out 0).trans rfl; have hcz33_1 : w32.cell? ⟨gb435, 1, none⟩ = some (.int .i64 ((rd_T24 l0 x25_1).f1)) := (blk_cell BK435.out 1).trans rfl; have hcz33_2 : w32.cell? ⟨gb435, 2, none⟩ = some (.int .i64 ((rd_T24 l0 x25_1).f2)) := (blk_cell BK435.out 2).trans rfl; have hcz33_3 : w32.cell? ⟨gb435, 3, none⟩ = some (.int .i64 ((rd_T24 l0 x25_1).f3)) := (blk_cell BK435.out 3).trans rfl; have hcz33_4 : w32.cell? ⟨gb435, 4, none⟩ = some (.slice A434_4 ((rd_T24 l0 x25_1).f4).length c434_4) := (blk_cell BK435.out 4).trans rfl; have hfz33_0 := blk_frozen BK435.out 0; have hfz33_1 := blk_frozen BK435.out 1; have hfz33_2 := blk_frozen BK435.out 2; have hfz33_3 := blk_frozen BK435.out 3; have hfz33_4 := blk_frozen BK435.out 4) | ((with_reducible refine gate_callee (f := 13) rfl ?_); refine goesL_ (some 46) rfl rfl Try.func13 (by kernel_rfl) rfl #[.agg #[.int .i64 ((rd_T24 l0 x25_1).f0), .int .i64 ((rd_T24 l0 x25_1).f1), .int .i64 ((rd_T24 l0 x25_1).f2), .int .i64 ((rd_T24 l0 x25_1).f3), .slice A434_4 ((rd_T24 l0 x25_1).f4).length c434_4]] rfl (by (try simp only [List.map_toArray, List.map_cons, List.map_nil]); first | done | rfl | (simp only [List.length_drop, List.length_take]; rfl)) ?_; (with_reducible refine (hunks_New.calls k1 ((rd_T24 l0 x25_1).f0) ((rd_T24 l0 x25_1).f1) ((rd_T24 l0 x25_1).f2) ((rd_T24 l0 x25_1).f3) _ _ ((rd_T24 l0 x25_1).f4) t446 _ ?side1 ?side2 A20.out).mono ?_); (case side1 => repeat (first | exact (Kd.C_below HR434_4.out HB.out) | (with_reducible refine Kd.C_alloc ?_ _) | (with_reducible refine Kd.C_drewN ?_ _) | (with_reducible refine Kd.C_drew ?_))); (case side2 => exact HC434_4.out); rintro e w34 ⟨v447, rfl, ho0, hb⟩; refine ⟨_, rfl, ?_⟩; have n0_ := Aside0.mk (Kd.R_elder' (by (with_reducible repeat (first | apply Kd.R_alloc | apply Kd.R_drewN | apply Kd.R_drew)); exact HO438.out) (Kd.R_base ho0) hb); have n1_ := Aside0.mk (Kd.R_elder' (by (with_reducible repeat (first | apply Kd.R_alloc | apply Kd.R_drewN | apply Kd.R_drew)); exact HO445.out) (Kd.R_base ho0) hb); have n2_ := Aside0.mk (Kd.R_lower (Kd.R_new' (Kd.R_new' ho0 (Kd.R_lt (by (with_reducible repeat (first | apply Kd.R_alloc | apply Kd.R_drewN | apply Kd.R_drew)); exact HO438.out))) (Kd.R_lt (by (with_reducible repeat (first | apply Kd.R_alloc | apply Kd.R_drewN | apply Kd.R_drew)); exact HO445.out))) (below_size (by repeat (first | (with_reducible first | exact HB.out | apply below_alloc | apply pw_below_drewN | apply below_drew1 | refine below_set ?_ GE435.out) | exact HB.out)))); have n3_ := Aside0.mk (blk_below (g := gb435) (o := .cells #[.int .i64 ((rd_T24 l0 x25_1).f0), .int .i64 ((rd_T24 l0 x25_1).f1), .int .i64 ((rd_T24 l0 x25_1).f2), .int .i64 ((rd_T24 l0 x25_1).f3), .slice A434_4 ((rd_T24 l0 x25_1).f4).length c434_4] 24 (0, 0)) (by (with_reducible repeat (first | refine blk_drewN ?_ _ | refine blk_drew ?_ | refine blk_alloc ?_ _)); exact BK435.out) hb); have n4_ := Aside0.mk (below_step (by repeat (first | (with_reducible first | exact HB.out | apply below_alloc | apply pw_below_drewN | apply below_drew1 | refine below_set ?_ GE435.out) | exact HB.out)) hb); clear HO438; clear HO445; clear BK435; clear HB; have HO438 := n0_; have HO445 := n1_; have HO448 := n2_; have BK435 := n3_; have HB := n4_; clear n0_ n1_ n2_ n3_ n4_; (try clear hb); (try clear hb2); (try clear hk); (try clear hi); (try clear ho0); obtain ⟨Ao36, co36, eo36⟩ := Kd.R_slice HO448.out; subst eo36) | ((with_reducible refine gate_builtin (b := .append) (xs := #[.tmp 44, .tmp 46]) rfl ?_); at_builtin; refine Kd.R_append_rows Kd.string (w0 := w) w.heap.size rfl (.tmp 44) (.tmp 46) 27 9 (.string ⟨#[]⟩) 16 rfl Try.underlying27 info9 rfl (by decide) (by omega) v444 y443 t446 _ _ _ (fun k_ => some k_ ≠ (.slice Ao28 t436.length co28 : Value).ownBlock ∧ some k_ ≠ (.slice Ao36 t446.length co36 : Value).ownBlock) (fun _ => False) rfl rfl ?aO ?aR (fun _ _ h => h) (fun _ h => h.elim) ?aF ?aB ?aS ?aL ?_; (case aR => repeat (first | exact (Kd.R_reads' HO448.out).2.2 | (with_reducible refine Kd.C_alloc ?_ _) | (with_reducible refine Kd.C_drewN ?_ _) | (with_reducible refine Kd.C_drew ?_))); (case aB => exact (by repeat (first | (with_reducible first | exact HB.out | apply below_alloc | apply pw_below_drewN | apply below_drew1 | refine below_set ?_ GE435.out) | exact HB.out))); (case aF => exact (fun k_ hk => ⟨Kd.fresh' (Kd.R_lt (by (with_reducible repeat (first | apply Kd.R_alloc | apply Kd.R_drewN | apply Kd.R_drew)); exact HO438.out)) k_ hk, Kd.fresh' (Kd.R_lt (by (with_reducible repeat (first | apply Kd.R_alloc | apply Kd.R_drewN | apply Kd.R_drew)); exact HO448.out)) k_ hk⟩)); (case aO => exact (by (with_reducible repeat (first | apply Kd.R_alloc | apply Kd.R_drewN | apply Kd.R_drew)); exact HO445.out)); (case aS => exact (below_size (by repeat (first | (with_reducible first | exact HB.out | apply below_alloc | apply pw_below_drewN | apply below_drew1 | refine below_set ?_ GE435.out) | exact HB.out)))); (case aL => have := LMc21.out; omega); intro v450 w35 ho hb hg hat; rw [← Ny449.out] at ho; have n0_ := Aside0.mk (blk_grown (g := gb435) (o := .cells #[.int .i64 ((rd_T24 l0 x25_1).f0), .int .i64 ((rd_T24 l0 x25_1).f1), .int .i64 ((rd_T24 l0 x25_1).f2), .int .i64 ((rd_T24 l0 x25_1).f3), .slice A434_4 ((rd_T24 l0 x25_1).f4).length c434_4] 24 (0, 0)) (by (with_reducible repeat (first | refine blk_drewN ?_ _ | refine blk_drew ?_ | refine blk_alloc ?_ _)); exact BK435.out) hg (Kd.R_ne HO445.out BK435.out (by decide))); have n1_ := Aside0.mk (Kd.R_after (ok := (fun k_ => some k_ ≠ (.slice Ao36 t446.length co36 : Value).ownBlock)) (by (with_reducible repeat (first | apply Kd.R_alloc | apply Kd.R_drewN | apply Kd.R_drew)); exact Kd.R_mono HO438.out (fun _ hk => ⟨hk.2, hk.1.2⟩)) hg hat); have n2_ := Aside0.mk (Kd.R_after (ok := (fun k_ => some k_ ≠ (.slice Ao28 t436.length co28 : Value).ownBlock)) (by (with_reducible repeat (first | apply Kd.R_alloc | apply Kd.R_drewN | apply Kd.R_drew)); exact Kd.R_mono HO448.out (fun _ hk => ⟨hk.1.2, hk.2⟩)) hg hat); have n3_ := Aside0.mk (hb); have n4_ := Aside0.mk (ho); clear BK435; clear HO438; clear HO448; clear HB; clear HO445; have BK435 := n0_; have HO438 := n1_; have HO448 := n2_; have HB := n3_; have HO451 := n4_; clear n0_ n1_ n2_ n3_ n4_; clear ho hb hg hat; have hcz37_0 : w35.cell? ⟨gb435, 0, none⟩ = some (.int .i64 ((rd_T24 l0 x25_1).f0)) := (blk_cell BK435.out 0).trans rfl; have hcz37_1 : w35.cell? ⟨gb435, 1, none⟩ = some (.int .i64 ((rd_T24 l0 x25_1).f1)) := (blk_cell BK435.out 1).trans rfl; have hcz37_2 : w35.cell? ⟨gb435, 2, none⟩ = some (.int .i64 ((rd_T24 l0 x25_1).f2)) := (blk_cell BK435.out 2).trans rfl; have hcz37_3 : w35.cell? ⟨gb435, 3, none⟩ = some (.int .i64 ((rd_T24 l0 x25_1).f3)) := (blk_cell BK435.out 3).trans rfl; have hcz37_4 : w35.cell? ⟨gb435, 4, none⟩ = some (.slice A434_4 ((rd_T24 l0 x25_1).f4).length c434_4) := (blk_cell BK435.out 4).trans rfl; have hfz37_0 := blk_frozen BK435.out 0; have hfz37_1 := blk_frozen BK435.out 1; have hfz37_2 := blk_frozen BK435.out 2; have hfz37_3 := blk_frozen BK435.out 3; have hfz37_4 := blk_frozen BK435.out 4) | ((with_reducible refine gate_callee (f := 69) rfl ?_); refine goesL_ (some 49) rfl rfl Try.func69 (by kernel_rfl) rfl #[.agg #[.int .i64 ((rd_T24 l0 x25_1).f0), .int .i64 ((rd_T24 l0 x25_1).f1), .int .i64 ((rd_T24 l0 x25_1).f2), .int .i64 ((rd_T24 l0 x25_1).f3), .slice A434_4 ((rd_T24 l0 x25_1).f4).length c434_4]] rfl (by (try simp only [List.map_toArray, List.map_cons, List.map_nil]); first | done | rfl | (simp only [List.length_drop, List.length_take]; rfl)) ?_; (with_reducible refine (apply_at.calls ((rd_T24 l0 x25_1).f0) ((rd_T24 l0 x25_1).f1) ((rd_T24 l0 x25_1).f2) ((rd_T24 l0 x25_1).f3) _ _ ((rd_T24 l0 x25_1).f4) t452 _ ?side1 ?side2 A22.out).mono ?_); (case side1 => repeat (first | exact (Kd.C_below HR434_4.out HB.out) | (with_reducible refine Kd.C_alloc ?_ _) | (with_reducible refine Kd.C_drewN ?_ _) | (with_reducible refine Kd.C_drew ?_))); (case side2 => exact HC434_4.out); rintro e w38 ⟨rfl, hb⟩; refine ⟨_, rfl, ?_⟩; have n0_ := Aside0.mk (Kd.R_below (by (with_reducible repeat (first | apply Kd.R_alloc | apply Kd.R_drewN | apply Kd.R_drew)); exact HO438.out) hb); have n1_ := Aside0.mk (Kd.R_below (by (with_reducible repeat (first | apply Kd.R_alloc | apply Kd.R_drewN | apply Kd.R_drew)); exact HO448.out) hb); have n2_ := Aside0.mk (Kd.R_below (by (with_reducible repeat (first | apply Kd.R_alloc | apply Kd.R_drewN | apply Kd.R_drew)); exact HO451.out) hb); have n3_ := Aside0.mk (blk_below (g := gb435) (o := .cells #[.int .i64 ((rd_T24 l0 x25_1).f0), .int .i64 ((rd_T24 l0 x25_1).f1), .int .i64 ((rd_T24 l0 x25_1).f2), .int .i64 ((rd_T24 l0 x25_1).f3), .slice A434_4 ((rd_T24 l0 x25_1).f4).length c434_4] 24 (0, 0)) (by (with_reducible repeat (first | refine blk_drewN ?_ _ | refine blk_drew ?_ | refine blk_alloc ?_ _)); exact BK435.out) hb); have n4_ := Aside0.mk (below_step (by repeat (first | (with_reducible first | exact HB.out | apply below_alloc | apply pw_below_drewN | apply below_drew1 | refine below_set ?_ GE435.out) | exact HB.out)) hb); clear HO438; clear HO448; clear HO451; clear BK435; clear HB; have HO438 := n0_; have HO448 := n1_; have HO451 := n2_; have BK435 := n3_; have HB := n4_; clear n0_ n1_ n2_ n3_ n4_; (try clear hb); (try clear hb2); (try clear hk); (try clear hi)))
                            go_roundg k1
                            case measure => have := HK1.out; omega
                            case rel => exact ⟨(y449), (wrap64 (t452 + (t436.length : Int))), (wrap64 (x25_1 + 1)), (by first | rfl | (simp; done) | (simp [*]; done)), (by first | rfl | (simp; done) | (simp [*]; done)), H', ⟨by have := HK1.out; omega⟩, ⟨by (with_reducible repeat (first | apply Kd.R_alloc | apply Kd.R_drewN | apply Kd.R_drew)); exact Kd.R_mono HO451.out (fun _ hk => trivial)⟩, ⟨by repeat (first | (with_reducible first | exact HB.out | apply below_alloc | apply pw_below_drewN | apply below_drew1 | refine below_set ?_ GE435.out) | exact HB.out)⟩⟩
                          · rw [if_neg c21] at H
                            exact absurd H (by simp)
                        · rw [if_neg c19] at H
                          exact absurd H (by simp)
                      · rw [if_neg c18] at H
                        exact absurd H (by simp)
                    · rw [if_neg c17] at H
                      exact absurd H (by simp)
                  · rw [if_neg c16] at H
                    exact absurd H (by simp)
                · replace c14 := Bool.eq_false_iff.mpr c14
                  subst c14
                  have H1 : (some (([] : List ByteArray), 190)) = some (r1, r2) := by rw [if_neg (show ¬ (false = true) by decide)] at H; exact H
                  clear H
                  have H := H1
                  clear H1
                  simp only [Option.some.injEq, Prod.mk.injEq] at H
                  obtain ⟨rfl, rfl⟩ := H
                  have p434 : 0 ≤ (x25_1 : Int) := of_decide_eq_true (by first | (with_reducible assumption) | assumption)
                  have q434 : x25_1 < (l0.length : Int) := of_decide_eq_true (by first | (with_reducible assumption) | assumption)
                  obtain ⟨ad434, A434_4, c434_4, e434, hx434_0, hx434_1, hx434_2, hx434_3, hx434_4, hl434_4, hi434_4⟩ := at_T24 HR0.out x25_1 p434 q434
                  cases e434
                  replace hx434_0 := (HB.out.cell (World.block_lt_of_cell? w _ hx434_0)).trans hx434_0
                  replace hx434_1 := (HB.out.cell (World.block_lt_of_cell? w _ hx434_1)).trans hx434_1
                  replace hx434_2 := (HB.out.cell (World.block_lt_of_cell? w _ hx434_2)).trans hx434_2
                  replace hx434_3 := (HB.out.cell (World.block_lt_of_cell? w _ hx434_3)).trans hx434_3
                  replace hx434_4 := (HB.out.cell (World.block_lt_of_cell? w _ hx434_4)).trans hx434_4
                  have HR434_4 := Aside0.mk hi434_4
                  have HC434_4 := Aside0.mk hl434_4
                  clear hi434_4 hl434_4
                  replace p434 := eq_true p434
                  replace q434 := eq_true q434
                  go_wp2_with (first | ((with_reducible refine gate_dst (N := 11) rfl ?_); refine box_event ?hg (N := 11) ?hd (cs := #[.int .i64 0, .int .i64 0, .int .i64 0, .int .i64 0, .slice none 0 0]) (t := 24) ?hr ?_; (case hd => rfl); (case hg => rfl); (case hr => first | (go_simp; done) | (go_simp; rfl)); intro gb435 hg w39 hbox hb; have n0_ := Aside0.mk (Kd.R_below (by (with_reducible repeat (first | apply Kd.R_alloc | apply Kd.R_drewN | apply Kd.R_drew)); exact HO_8.out) hb); have n1_ := Aside0.mk (below_step (by repeat (first | (with_reducible first | exact HB.out | apply below_alloc | apply pw_below_drewN | apply below_drew1) | exact HB.out)) hb); have n2_ := Aside0.mk (hbox); have n3_ := Aside0.mk ((by rw [hg]; exact (below_size (by repeat (first | (with_reducible first | exact HB.out | apply below_alloc | apply pw_below_drewN | apply below_drew1) | exact HB.out))) : w.heap.size ≤ gb435)); have n4_ := Aside0.mk ((by rw [hg]; exact (below_size (by repeat (first | (with_reducible first | exact HB.out | apply below_alloc | apply pw_below_drewN | apply below_drew1) | exact HB.out))) : w.heap.size ≤ gb435)); clear HO_8; clear HB; have HO_8 := n0_; have HB := n1_; have BK435 := n2_; have GW435 := n3_; have GE435 := n4_; clear n0_ n1_ n2_ n3_ n4_; clear hb hbox hg; have hcz40_0 : w39.cell? ⟨gb435, 0, none⟩ = some (.int .i64 0) := (blk_cell BK435.out 0).trans rfl; have hcz40_1 : w39.cell? ⟨gb435, 1, none⟩ = some (.int .i64 0) := (blk_cell BK435.out 1).trans rfl; have hcz40_2 : w39.cell? ⟨gb435, 2, none⟩ = some (.int .i64 0) := (blk_cell BK435.out 2).trans rfl; have hcz40_3 : w39.cell? ⟨gb435, 3, none⟩ = some (.int .i64 0) := (blk_cell BK435.out 3).trans rfl; have hcz40_4 : w39.cell? ⟨gb435, 4, none⟩ = some (.slice none 0 0) := (blk_cell BK435.out 4).trans rfl; have hfz40_0 := blk_frozen BK435.out 0; have hfz40_1 := blk_frozen BK435.out 1; have hfz40_2 := blk_frozen BK435.out 2; have hfz40_3 := blk_frozen BK435.out 3; have hfz40_4 := blk_frozen BK435.out 4) | ((with_reducible refine gate_callee (f := 12) rfl ?_); refine goesL_ (some 30) rfl rfl Try.func12 (by kernel_rfl) rfl #[.agg #[.int .i64 ((rd_T24 l0 x25_1).f0), .int .i64 ((rd_T24 l0 x25_1).f1), .int .i64 ((rd_T24 l0 x25_1).f2), .int .i64 ((rd_T24 l0 x25_1).f3), .slice A434_4 ((rd_T24 l0 x25_1).f4).length c434_4]] rfl (by (try simp only [List.map_toArray, List.map_cons, List.map_nil]); first | done | rfl | (simp only [List.length_drop, List.length_take]; rfl)) ?_; (with_reducible refine (hunks_Old.calls k1 ((rd_T24 l0 x25_1).f0) ((rd_T24 l0 x25_1).f1) ((rd_T24 l0 x25_1).f2) ((rd_T24 l0 x25_1).f3) _ _ ((rd_T24 l0 x25_1).f4) t436 _ ?side1 ?side2 A11.out).mono ?_); (case side1 => exact Kd.C_below HR434_4.out (by repeat (first | (with_reducible first | exact HB.out | apply below_alloc | apply pw_below_drewN | apply below_drew1 | refine below_set ?_ GE435.out) | exact HB.out))); (case side2 => exact HC434_4.out); rintro e w41 ⟨v437, rfl, ho0, hb⟩; refine ⟨_, rfl, ?_⟩; have n0_ := Aside0.mk (Kd.R_elder' (by (with_reducible repeat (first | apply Kd.R_alloc | apply Kd.R_drewN | apply Kd.R_drew)); exact (Kd.R_mono (Kd.R_far (p := ⟨gb435, 4, none⟩) (Kd.R_far (p := ⟨gb435, 3, none⟩) (Kd.R_far (p := ⟨gb435, 2, none⟩) (Kd.R_far (p := ⟨gb435, 1, none⟩) (Kd.R_far (p := ⟨gb435, 0, none⟩) (Kd.R_types HO_8.out BK435.out (by decide)) (fun _ hk => hk.2) (.int .i64 ((rd_T24 l0 x25_1).f0))) (fun _ hk => hk.2) (.int .i64 ((rd_T24 l0 x25_1).f1))) (fun _ hk => hk.2) (.int .i64 ((rd_T24 l0 x25_1).f2))) (fun _ hk => hk.2) (.int .i64 ((rd_T24 l0 x25_1).f3))) (fun _ hk => hk.2) (.slice A434_4 ((rd_T24 l0 x25_1).f4).length c434_4)) (fun _ h_ => h_.1))) (Kd.R_base ho0) hb); have n1_ := Aside0.mk (Kd.R_lower (Kd.R_new' ho0 (Kd.R_lt (by (with_reducible repeat (first | apply Kd.R_alloc | apply Kd.R_drewN | apply Kd.R_drew)); exact (Kd.R_mono (Kd.R_far (p := ⟨gb435, 4, none⟩) (Kd.R_far (p := ⟨gb435, 3, none⟩) (Kd.R_far (p := ⟨gb435, 2, none⟩) (Kd.R_far (p := ⟨gb435, 1, none⟩) (Kd.R_far (p := ⟨gb435, 0, none⟩) (Kd.R_types HO_8.out BK435.out (by decide)) (fun _ hk => hk.2) (.int .i64 ((rd_T24 l0 x25_1).f0))) (fun _ hk => hk.2) (.int .i64 ((rd_T24 l0 x25_1).f1))) (fun _ hk => hk.2) (.int .i64 ((rd_T24 l0 x25_1).f2))) (fun _ hk => hk.2) (.int .i64 ((rd_T24 l0 x25_1).f3))) (fun _ hk => hk.2) (.slice A434_4 ((rd_T24 l0 x25_1).f4).length c434_4)) (fun _ h_ => h_.1))))) (below_size (by repeat (first | (with_reducible first | exact HB.out | apply below_alloc | apply pw_below_drewN | apply below_drew1 | refine below_set ?_ GE435.out) | exact HB.out)))); have n2_ := Aside0.mk (blk_below (g := gb435) (o := .cells #[.int .i64 ((rd_T24 l0 x25_1).f0), .int .i64 ((rd_T24 l0 x25_1).f1), .int .i64 ((rd_T24 l0 x25_1).f2), .int .i64 ((rd_T24 l0 x25_1).f3), .slice A434_4 ((rd_T24 l0 x25_1).f4).length c434_4] 24 (0, 0)) (by (with_reducible repeat (first | refine blk_drewN ?_ _ | refine blk_drew ?_ | refine blk_alloc ?_ _)); refine blk_put (cs := #[.int .i64 ((rd_T24 l0 x25_1).f0), .int .i64 ((rd_T24 l0 x25_1).f1), .int .i64 ((rd_T24 l0 x25_1).f2), .int .i64 ((rd_T24 l0 x25_1).f3), .slice none 0 0]) ?_ 4 _ rfl; (with_reducible repeat (first | refine blk_drewN ?_ _ | refine blk_drew ?_ | refine blk_alloc ?_ _)); refine blk_put (cs := #[.int .i64 ((rd_T24 l0 x25_1).f0), .int .i64 ((rd_T24 l0 x25_1).f1), .int .i64 ((rd_T24 l0 x25_1).f2), .int .i64 0, .slice none 0 0]) ?_ 3 _ rfl; (with_reducible repeat (first | refine blk_drewN ?_ _ | refine blk_drew ?_ | refine blk_alloc ?_ _)); refine blk_put (cs := #[.int .i64 ((rd_T24 l0 x25_1).f0), .int .i64 ((rd_T24 l0 x25_1).f1), .int .i64 0, .int .i64 0, .slice none 0 0]) ?_ 2 _ rfl; (with_reducible repeat (first | refine blk_drewN ?_ _ | refine blk_drew ?_ | refine blk_alloc ?_ _)); refine blk_put (cs := #[.int .i64 ((rd_T24 l0 x25_1).f0), .int .i64 0, .int .i64 0, .int .i64 0, .slice none 0 0]) ?_ 1 _ rfl; (with_reducible repeat (first | refine blk_drewN ?_ _ | refine blk_drew ?_ | refine blk_alloc ?_ _)); refine blk_put (cs := #[.int .i64 0, .int .i64 0, .int .i64 0, .int .i64 0, .slice none 0 0]) ?_ 0 _ rfl; (with_reducible repeat (first | refine blk_drewN ?_ _ | refine blk_drew ?_ | refine blk_alloc ?_ _)); exact BK435.out) hb); have n3_ := Aside0.mk (below_step (by repeat (first | (with_reducible first | exact HB.out | apply below_alloc | apply pw_below_drewN | apply below_drew1 | refine below_set ?_ GE435.out) | exact HB.out)) hb); clear HO_8; clear BK435; clear HB; have HO_8 := n0_; have HO438 := n1_; have BK435 := n2_; have HB := n3_; clear n0_ n1_ n2_ n3_; (try clear hb); (try clear hb2); (try clear hk); (try clear hi); (try clear ho0); have hcz42_0 : w41.cell? ⟨gb435, 0, none⟩ = some (.int .i64 ((rd_T24 l0 x25_1).f0)) := (blk_cell BK435.out 0).trans rfl; have hcz42_1 : w41.cell? ⟨gb435, 1, none⟩ = some (.int .i64 ((rd_T24 l0 x25_1).f1)) := (blk_cell BK435.out 1).trans rfl; have hcz42_2 : w41.cell? ⟨gb435, 2, none⟩ = some (.int .i64 ((rd_T24 l0 x25_1).f2)) := (blk_cell BK435.out 2).trans rfl; have hcz42_3 : w41.cell? ⟨gb435, 3, none⟩ = some (.int .i64 ((rd_T24 l0 x25_1).f3)) := (blk_cell BK435.out 3).trans rfl; have hcz42_4 : w41.cell? ⟨gb435, 4, none⟩ = some (.slice A434_4 ((rd_T24 l0 x25_1).f4).length c434_4) := (blk_cell BK435.out 4).trans rfl; have hfz42_0 := blk_frozen BK435.out 0; have hfz42_1 := blk_frozen BK435.out 1; have hfz42_2 := blk_frozen BK435.out 2; have hfz42_3 := blk_frozen BK435.out 3; have hfz42_4 := blk_frozen BK435.out 4) | ((with_reducible refine gate_callee (f := 69) rfl ?_); refine goesL_ (some 33) rfl rfl Try.func69 (by kernel_rfl) rfl #[.agg #[.int .i64 ((rd_T24 l0 x25_1).f0), .int .i64 ((rd_T24 l0 x25_1).f1), .int .i64 ((rd_T24 l0 x25_1).f2), .int .i64 ((rd_T24 l0 x25_1).f3), .slice A434_4 ((rd_T24 l0 x25_1).f4).length c434_4]] rfl (by (try simp only [List.map_toArray, List.map_cons, List.map_nil]); first | done | rfl | (simp only [List.length_drop, List.length_take]; rfl)) ?_; (with_reducible refine (apply_at.calls ((rd_T24 l0 x25_1).f0) ((rd_T24 l0 x25_1).f1) ((rd_T24 l0 x25_1).f2) ((rd_T24 l0 x25_1).f3) _ _ ((rd_T24 l0 x25_1).f4) t439 _ ?side1 ?side2 A12.out).mono ?_); (case side1 => repeat (first | exact (Kd.C_below HR434_4.out HB.out) | (with_reducible refine Kd.C_alloc ?_ _) | (with_reducible refine Kd.C_drewN ?_ _) | (with_reducible refine Kd.C_drew ?_))); (case side2 => exact HC434_4.out); rintro e w43 ⟨rfl, hb⟩; refine ⟨_, rfl, ?_⟩; have n0_ := Aside0.mk (Kd.R_below (by (with_reducible repeat (first | apply Kd.R_alloc | apply Kd.R_drewN | apply Kd.R_drew)); exact HO_8.out) hb); have n1_ := Aside0.mk (Kd.R_below (by (with_reducible repeat (first | apply Kd.R_alloc | apply Kd.R_drewN | apply Kd.R_drew)); exact HO438.out) hb); have n2_ := Aside0.mk (blk_below (g := gb435) (o := .cells #[.int .i64 ((rd_T24 l0 x25_1).f0), .int .i64 ((rd_T24 l0 x25_1).f1), .int .i64 ((rd_T24 l0 x25_1).f2), .int .i64 ((rd_T24 l0 x25_1).f3), .slice A434_4 ((rd_T24 l0 x25_1).f4).length c434_4] 24 (0, 0)) (by (with_reducible repeat (first | refine blk_drewN ?_ _ | refine blk_drew ?_ | refine blk_alloc ?_ _)); exact BK435.out) hb); have n3_ := Aside0.mk (below_step (by repeat (first | (with_reducible first | exact HB.out | apply below_alloc | apply pw_below_drewN | apply below_drew1 | refine below_set ?_ GE435.out) | exact HB.out)) hb); clear HO_8; clear HO438; clear BK435; clear HB; have HO_8 := n0_; have HO438 := n1_; have BK435 := n2_; have HB := n3_; clear n0_ n1_ n2_ n3_; (try clear hb); (try clear hb2); (try clear hk); (try clear hi); obtain ⟨Ao44, co44, eo44⟩ := Kd.R_slice HO438.out; subst eo44) | ((with_reducible refine gate_callee (f := 68) rfl ?_); refine goesL_ (some 35) rfl rfl Try.func68 (by kernel_rfl) rfl #[.slice A1 l1.length c1, .int .i64 t439, .slice Ao44 t436.length co44] rfl (by (try simp only [List.map_toArray, List.map_cons, List.map_nil]); first | done | rfl | (simp only [List.length_drop, List.length_take]; rfl)) ?_; (with_reducible refine (apply_stands.calls k1 _ _ l1 t439 _ _ t436 false _ ?side1 ?side2 ?side3 ?side4 A13.out).mono ?_); (case side1 => repeat (first | exact (Kd.C_below HR1.out HB.out) | (with_reducible refine Kd.C_alloc ?_ _) | (with_reducible refine Kd.C_drewN ?_ _) | (with_reducible refine Kd.C_drew ?_))); (case side2 => exact HC1.out); (case side3 => repeat (first | exact (Kd.R_reads' HO438.out).2.2 | (with_reducible refine Kd.C_alloc ?_ _) | (with_reducible refine Kd.C_drewN ?_ _) | (with_reducible refine Kd.C_drew ?_))); (case side4 => exact (Kd.R_reads' HO438.out).2.1); rintro e w' ⟨rfl, ⟨nd, rfl⟩⟩; refine ⟨_, rfl, ?_⟩))
                  go_ret2
                  exact ⟨_, by first | rfl | (simp [errW_none, errW_some] <;> rfl) | (simp [*, errW_none, errW_some] <;> rfl), by first | exact Kd.R_nil _ _ _ _ _ | exact Kd.N_nil _ _ _ _ _ | exact Kd.V_nil _ _ _ _ _ | exact Kd.Q_nil _ _ _ _ _ | exact Kd.S_nil _ _ _ _ _, by repeat (first | (with_reducible first | exact HB.out | apply below_alloc | apply pw_below_drewN | apply below_drew1 | refine below_set ?_ GE435.out) | exact HB.out)⟩
              · rw [if_neg c10] at H
                exact absurd H (by simp)
            · rw [if_neg c9] at H
              exact absurd H (by simp)
          · rw [if_neg c8] at H
            have c8b0 : decide (x25_1 < (l0.length : Int)) = false := decide_eq_false c8
            clear c8
            by_cases c45 : 0 ≤ x9_1
            · rw [if_pos c45] at H
              have c45b0 := eq_true c45
              have c45b1 : decide (0 ≤ x9_1) = true := decide_eq_true c45
              clear c45
              by_cases c46 : x9_1 ≤ (l1.length : Int)
              · rw [if_pos c46] at H
                have c46b0 := eq_true c46
                have c46b1 : decide (x9_1 ≤ (l1.length : Int)) = true := decide_eq_true c46
                clear c46
                by_cases c47 : x8_1.length + (l1.drop (x9_1 : Int).toNat).length < 8796093022208
                · rw [if_pos c47] at H
                  have LMc47 := Aside0.mk c47
                  clear c47
                  obtain ⟨y427, hy427⟩ : ∃ y_ : List ByteArray, y_ = (x8_1 ++ (l1.drop (x9_1 : Int).toNat)) := ⟨_, rfl⟩
                  replace H : ((apply_checked.f k1 y427).bind fun bt430 => (some (bt430.1, bt430.2))) = some (r1, r2) := by first | (rw [hy427]; with_reducible exact H) | (have H2_ := (Option.bind_some _ _).symm.trans H; rw [hy427]; with_reducible exact H2_) | (have H2_ := (Option.bind_some _ _).symm.trans H; with_reducible exact H2_) | with_reducible exact H | (rw [hy427]; exact H) | exact H
                  have Ny427 := Aside0.mk hy427
                  clear hy427
                  replace H := Option.bind_eq_some_iff.mp H
                  obtain ⟨⟨t430, t433⟩, A480, H⟩ := H
                  replace H : (some (t430, t433)) = some (r1, r2) := H
                  have A48 := Aside0.mk A480
                  clear A480
                  simp only [Option.some.injEq, Prod.mk.injEq] at H
                  obtain ⟨rfl, rfl⟩ := H
                  obtain ⟨i049, hi049, _, hsz49, _⟩ := info_parts info9
                  obtain ⟨A49, hcut49, hA49, hC49⟩ := print_drop_of (P := Try.prog) Value.string (⟨#[]⟩ : ByteArray) 27 9 .i64 Try.underlying27 hi049 hsz49 A1 c1 l1 x9_1 (of_decide_eq_true (by first | (with_reducible assumption) | assumption)) (of_decide_eq_true (by first | (with_reducible assumption) | assumption)) HC1.out
                  have HR426 := Aside0.mk (Kd.C_of_reads (h1 := fun _ => rfl) (hA49 _ (Kd.reads_of_C HR1.out)))
                  have HC426 := Aside0.mk hC49
                  clear hA49 hC49 hi049 hsz49
                  go_wp2_with (first | ((with_reducible refine gate_builtin (b := .append) (xs := #[.tmp 54, .tmp 57]) rfl ?_); at_builtin; refine Kd.R_append_rows Kd.string (w0 := w) w.heap.size rfl (.tmp 54) (.tmp 57) 27 9 (.string ⟨#[]⟩) 16 rfl Try.underlying27 info9 rfl (by decide) (by omega) u8 x8_1 (l1.drop (x9_1 : Int).toNat) _ _ _ (fun _ => True) (fun _ => False) rfl rfl ?aO ?aR (fun _ _ h => h) (fun _ h => h.elim) ?aF ?aB ?aS ?aL ?_; (case aR => first | (rw [← show (l1.drop (x9_1 : Int).toNat).length = (l1.length - x9_1.toNat) from List.length_drop]; repeat (first | exact (Kd.C_below HR426.out HB.out) | (with_reducible refine Kd.C_alloc ?_ _) | (with_reducible refine Kd.C_drewN ?_ _) | (with_reducible refine Kd.C_drew ?_))) | (repeat (first | exact (Kd.C_below HR426.out HB.out) | (with_reducible refine Kd.C_alloc ?_ _) | (with_reducible refine Kd.C_drewN ?_ _) | (with_reducible refine Kd.C_drew ?_)))); (case aB => exact (by repeat (first | (with_reducible first | exact HB.out | apply below_alloc | apply pw_below_drewN | apply below_drew1) | exact HB.out))); (case aF => exact (fun _ _ => trivial)); (case aO => exact (by (with_reducible repeat (first | apply Kd.R_alloc | apply Kd.R_drewN | apply Kd.R_drew)); exact HO_8.out)); (case aS => exact (below_size (by repeat (first | (with_reducible first | exact HB.out | apply below_alloc | apply pw_below_drewN | apply below_drew1) | exact HB.out)))); (case aL => have := LMc47.out; have hlx_ := (show (l1.drop (x9_1 : Int).toNat).length = (l1.length - x9_1.toNat) from List.length_drop); omega); intro v428 w50 ho hb hg hat; rw [← Ny427.out] at ho; have n0_ := Aside0.mk (hb); have n1_ := Aside0.mk (ho); clear HB; clear HO_8; have HB := n0_; have HO429 := n1_; clear n0_ n1_; clear ho hb hg hat; obtain ⟨Ao51, co51, eo51⟩ := Kd.R_slice HO429.out; subst eo51) | ((with_reducible refine gate_callee (f := 70) rfl ?_); refine goesL_ (some 60) rfl rfl Try.func70 (by kernel_rfl) rfl #[.slice Ao51 y427.length co51] rfl (by (try simp only [List.map_toArray, List.map_cons, List.map_nil]); first | done | rfl | (simp only [List.length_drop, List.length_take]; rfl)) ?_; (with_reducible refine (apply_checked.calls k1 (fun k_ => some k_ = (.slice Ao51 y427.length co51 : Value).ownBlock) (.slice Ao51 y427.length co51) y427 t430 t433 w _ ?side1 ?side2 A48.out).mono ?_); (case side1 => repeat (first | (with_reducible first | exact HB.out | apply below_alloc | apply pw_below_drewN | apply below_drew1) | exact HB.out)); (case side2 => exact Kd.R_tight rfl HO429.out); rintro e w52 ⟨v431, rfl, ho0, hb, hkp⟩; refine ⟨_, rfl, ?_⟩; have n0_ := Aside0.mk (Kd.R_mono (ok' := fun k_ => True) ho0 (fun k_ hk_ => trivial)); have n1_ := Aside0.mk (hb); clear HB; clear HO429; have HO432 := n0_; have HB := n1_; clear n0_ n1_; (try clear hb); (try clear hkp); (try clear ho0)))
                  go_ret2
                  exact ⟨_, by first | rfl | (simp [errW_none, errW_some] <;> rfl) | (simp [*, errW_none, errW_some] <;> rfl), by (with_reducible repeat (first | apply Kd.R_alloc | apply Kd.R_drewN | apply Kd.R_drew)); exact HO432.out, by repeat (first | (with_reducible first | exact HB.out | apply below_alloc | apply pw_below_drewN | apply below_drew1) | exact HB.out)⟩
                · rw [if_neg c47] at H
                  exact absurd H (by simp)
              · rw [if_neg c46] at H
                exact absurd H (by simp)
            · rw [if_neg c45] at H
              exact absurd H (by simp)
    · rw [if_neg c6] at H
      have c6b0 : (t425 == 0) = false := beq_eq_false_iff_ne.mpr c6
      have c6b1 : (t425 != 0) = true := bne_iff_ne.mpr c6
      simp only [Option.some.injEq, Prod.mk.injEq] at H
      obtain ⟨rfl, rfl⟩ := H
      go_enter Try.func32, Try.ntmps32
      go_wp2_with (first | ((with_reducible refine gate_callee (f := 40) rfl ?_); refine goesL_ (some 14) rfl rfl Try.func40 (by kernel_rfl) rfl #[.slice A1 l1.length c1] rfl (by (try simp only [List.map_toArray, List.map_cons, List.map_nil]); first | done | rfl | (simp only [List.length_drop, List.length_take]; rfl)) ?_; (with_reducible refine (lines_Check.calls k _ _ l1 t424 _ ?side1 ?side2 A3.out).mono ?_); (case side1 => repeat (first | exact HR1.out | (with_reducible refine Kd.C_alloc ?_ _) | (with_reducible refine Kd.C_drewN ?_ _) | (with_reducible refine Kd.C_drew ?_))); (case side2 => exact HC1.out); rintro e w' ⟨rfl, ⟨nd, rfl⟩⟩; refine ⟨_, rfl, ?_⟩) | ((with_reducible refine gate_callee (f := 26) rfl ?_); refine goesL_ (some 19) rfl rfl Try.func26 (by kernel_rfl) rfl #[.slice A0 l0.length c0] rfl (by (try simp only [List.map_toArray, List.map_cons, List.map_nil]); first | done | rfl | (simp only [List.length_drop, List.length_take]; rfl)) ?_; (with_reducible refine (hunks_Order.calls k _ _ l0 t425 _ ?side1 ?side2 A5.out).mono ?_); (case side1 => repeat (first | exact HR0.out | (with_reducible refine Kd.C_alloc ?_ _) | (with_reducible refine Kd.C_drewN ?_ _) | (with_reducible refine Kd.C_drew ?_))); (case side2 => exact HC0.out); rintro e w53 ⟨rfl, hb⟩; refine ⟨_, rfl, ?_⟩; have n0_ := Aside0.mk (below_step (by repeat (first | (with_reducible first | exact HB.out | apply below_alloc | apply pw_below_drewN | apply below_drew1) | exact HB.out)) hb); clear HB; have HB := n0_; clear n0_; (try clear hb); (try clear hb2); (try clear hk); (try clear hi)))
      go_ret2
      exact ⟨_, by first | rfl | (simp [errW_none, errW_some] <;> rfl) | (simp [*, errW_none, errW_some] <;> rfl), by first | exact Kd.R_nil _ _ _ _ _ | exact Kd.N_nil _ _ _ _ _ | exact Kd.V_nil _ _ _ _ _ | exact Kd.Q_nil _ _ _ _ _ | exact Kd.S_nil _ _ _ _ _, by repeat (first | (with_reducible first | exact HB.out | apply below_alloc | apply pw_below_drewN | apply below_drew1) | exact HB.out)⟩
  · rw [if_neg c4] at H
    have c4b0 : (t424 == 0) = false := beq_eq_false_iff_ne.mpr c4
    have c4b1 : (t424 != 0) = true := bne_iff_ne.mpr c4
    simp only [Option.some.injEq, Prod.mk.injEq] at H
    obtain ⟨rfl, rfl⟩ := H
    go_enter Try.func32, Try.ntmps32
    go_wp2_with (first | ((with_reducible refine gate_callee (f := 40) rfl ?_); refine goesL_ (some 14) rfl rfl Try.func40 (by kernel_rfl) rfl #[.slice A1 l1.length c1] rfl (by (try simp only [List.map_toArray, List.map_cons, List.map_nil]); first | done | rfl | (simp only [List.length_drop, List.length_take]; rfl)) ?_; (with_reducible refine (lines_Check.calls k _ _ l1 t424 _ ?side1 ?side2 A3.out).mono ?_); (case side1 => repeat (first | exact HR1.out | (with_reducible refine Kd.C_alloc ?_ _) | (with_reducible refine Kd.C_drewN ?_ _) | (with_reducible refine Kd.C_drew ?_))); (case side2 => exact HC1.out); rintro e w' ⟨rfl, ⟨nd, rfl⟩⟩; refine ⟨_, rfl, ?_⟩))
    go_ret2
    exact ⟨_, by first | rfl | (simp [errW_none, errW_some] <;> rfl) | (simp [*, errW_none, errW_some] <;> rfl), by first | exact Kd.R_nil _ _ _ _ _ | exact Kd.N_nil _ _ _ _ _ | exact Kd.V_nil _ _ _ _ _ | exact Kd.Q_nil _ _ _ _ _ | exact Kd.S_nil _ _ _ _ _, by repeat (first | (with_reducible first | exact HB.out | apply below_alloc | apply pw_below_drewN | apply below_drew1) | exact HB.out)⟩
end Go.Proofs.Ytnllemlmgbjjnaa.PA
namespace Go.Proofs.Ytnllemlmgbjjnaa.PA
open Go.RowKit Go.Proofs.YtnllemlmgbjjnaaW.PrintWords Go.Proofs.YtnllemlmgbjjnaaW.PrintLast Go.Proofs.YtnllemlmgbjjnaaW.PrintMore
attribute [local go_sem] max2_int min2_int max_two min_two max_three min_three max_four min_four   -- for this text's walks alone
set_option linter.unusedVariables false
set_option linter.unusedSimpArgs false
mutual
def redlineref02_Check.l0 : Nat → List ByteArray → Int → Option (Int)
  | 0, _, _ => none
  | k + 1, x0, x3 => if x3 < (x0.length : Int) then (redlineref02_Check.l1 k x0 x3 0) else (some 0)
def redlineref02_Check.l1 : Nat → List ByteArray → Int → Int → Option (Int)
  | 0, _, _, _ => none
  | k + 1, x0, x3, x4 => if 0 ≤ x3 then (if x3 < (x0.length : Int) then (if x4 < (wrap64 (((rdOf ByteArray.empty x0 x3).size : Int) - 1)) then (if 0 ≤ x4 then (if x4 < ((rdOf ByteArray.empty x0 x3).size : Int) then (if (bt (rdOf ByteArray.empty x0 x3) x4) = 10 then (some 6) else (redlineref02_Check.l1 k x0 x3 (wrap64 (x4 + 1)))) else (none)) else (none)) else (if ((rdOf ByteArray.empty x0 x3).size : Int) = 0 then (some 6) else (if x3 < (wrap64 ((x0.length : Int) - 1)) then (if 0 ≤ (wrap64 (((rdOf ByteArray.empty x0 x3).size : Int) - 1)) then (if (wrap64 (((rdOf ByteArray.empty x0 x3).size : Int) - 1)) < ((rdOf ByteArray.empty x0 x3).size : Int) then (if (bt (rdOf ByteArray.empty x0 x3) (wrap64 (((rdOf ByteArray.empty x0 x3).size : Int) - 1))) = 10 then (redlineref02_Check.l0 k x0 (wrap64 (x3 + 1))) else (some 6)) else (none)) else (none)) else (redlineref02_Check.l0 k x0 (wrap64 (x3 + 1)))))) else (none)) else (none)
end
def redlineref02_Check.f (k : Nat) (l0 : List ByteArray) : Option (Int) := redlineref02_Check.l0 k l0 0
set_option maxHeartbeats 8000000 in
set_option maxRecDepth 100000 in
theorem redlineref02_Check.calls (k : Nat) (A0 : Option Addr) (c0 : Nat) (l0 : List ByteArray) (r : Int) (w : World) (hr0 : Kd.C Kd.string w A0 l0.length l0) (hc0 : l0.length ≤ c0) (h : redlineref02_Check.f k l0 = some r) :
    Calls Try.prog 71 #[.slice A0 l0.length c0] w fun e w' => e = .returned (.int .i64 r) ∧ Drawn0 w w' := by
  have HR0 := Aside0.mk hr0
  have HC0 := Aside0.mk hc0
  clear hr0 hc0
  have H : (redlineref02_Check.l0 k l0 0) = some r := h
  clear h
  have H' := Aside0.mk H
  clear H
  go_enter Try.func71, Try.ntmps71
  go_wp2
  repeat (go_quiet (fail); try go_wp2)
  go_loopg [3] k (fun kq v3 w' => ∃ (x3_1 : Int), v3 = .int .i64 x3_1 ∧ Aside0 (redlineref02_Check.l0 kq l0 x3_1 = some r) ∧ Aside0 (kq ≤ k) ∧ Drawn0 w w')
  case atStart => exact ⟨(0), (by first | rfl | (simp; done) | (simp [*]; done)), H', ⟨Nat.le_refl _⟩, by repeat (first | exact Drawn0.refl _ | apply Drawn0.step)⟩
  case round =>
    clear H'
    obtain ⟨x3_1, rfl, HA, HK1, ⟨m1, rfl⟩⟩ := hrel
    cases gk with
    | zero => exact absurd HA.out (by simp [redlineref02_Check.l0])
    | succ k1 =>
      have H := HA.out
      clear HA
      simp only [redlineref02_Check.l0] at H
      by_cases c2 : x3_1 < (l0.length : Int)
      · rw [if_pos c2] at H
        have c2b0 : decide (x3_1 < (l0.length : Int)) = true := decide_eq_true c2
        clear c2
        have H' := Aside0.mk H
        clear H
        go_wp2
        repeat (go_quiet (fail); try go_wp2)
        go_loopg [4] k1 (fun kq v4 w' => ∃ (x4_2 : Int), v4 = .int .i64 x4_2 ∧ Aside0 (redlineref02_Check.l1 kq l0 x3_1 x4_2 = some r) ∧ Aside0 (kq ≤ k1) ∧ Drawn0 w w')
        case atStart => exact ⟨(0), (by first | rfl | (simp; done) | (simp [*]; done)), H', ⟨Nat.le_refl _⟩, by repeat (first | exact Drawn0.refl _ | apply Drawn0.step)⟩
        case round =>
          clear H'
          try clear c2
          try clear c2b0
          try clear p2
          obtain ⟨x4_2, rfl, HA, HK2, ⟨m2, rfl⟩⟩ := hrel
          cases gk with
          | zero => exact absurd HA.out (by simp [redlineref02_Check.l1])
          | succ k2 =>
            have H := HA.out
            clear HA
            simp only [redlineref02_Check.l1] at H
            by_cases c3 : 0 ≤ x3_1
            · rw [if_pos c3] at H
              have c3b0 : decide (0 ≤ x3_1) = true := decide_eq_true c3
              clear c3
              by_cases c4 : x3_1 < (l0.length : Int)
              · rw [if_pos c4] at H
                have c4b0 : decide (x3_1 < (l0.length : Int)) = true := decide_eq_true c4
                clear c4
                by_cases c5 : x4_2 < (wrap64 (((rdOf ByteArray.empty l0 x3_1).size : Int) - 1))
                · rw [if_pos c5] at H
                  have c5b0 : decide (x4_2 < (wrap64 (((rdOf ByteArray.empty l0 x3_1).size : Int) - 1))) = true := decide_eq_true c5
                  clear c5
                  by_cases c6 : 0 ≤ x4_2
                  · rw [if_pos c6] at H
                    have c6b0 : decide (0 ≤ x4_2) = true := decide_eq_true c6
                    clear c6
                    by_cases c7 : x4_2 < ((rdOf ByteArray.empty l0 x3_1).size : Int)
                    · rw [if_pos c7] at H
                      have c7b0 : decide (x4_2 < ((rdOf ByteArray.empty l0 x3_1).size : Int)) = true := decide_eq_true c7
                      clear c7
                      by_cases c9 : (bt (rdOf ByteArray.empty l0 x3_1) x4_2) = 10
                      · rw [if_pos c9] at H
                        have c9b0 : ((bt (rdOf ByteArray.empty l0 x3_1) x4_2) == 10) = true := beq_iff_eq.mpr c9
                        have c9b1 : ((bt (rdOf ByteArray.empty l0 x3_1) x4_2) != 10) = false := bne_eq_false_iff_eq.mpr c9
                        clear c9
                        obtain rfl := Option.some.inj H
                        have p453 : 0 ≤ (x3_1 : Int) := of_decide_eq_true (by first | (with_reducible assumption) | assumption)
                        have q453 : x3_1 < (l0.length : Int) := of_decide_eq_true (by first | (with_reducible assumption) | assumption)
                        obtain ⟨ad453, e453, hx453_0⟩ := Kd.at_string HR0.out x3_1 p453 q453
                        cases e453
                        replace p453 := eq_true p453
                        replace q453 := eq_true q453
                        have p454 : 0 ≤ (x3_1 : Int) := of_decide_eq_true (by first | (with_reducible assumption) | assumption)
                        have q454 : x3_1 < (l0.length : Int) := of_decide_eq_true (by first | (with_reducible assumption) | assumption)
                        obtain ⟨ad454, e454, hx454_0⟩ := Kd.at_string HR0.out x3_1 p454 q454
                        obtain rfl : ad453 = ad454 := (by injection e454)
                        replace p454 := eq_true p454
                        replace q454 := eq_true q454
                        have p8 : 0 ≤ (x4_2 : Int) := of_decide_eq_true (by first | (with_reducible assumption) | assumption)
                        have q8 : x4_2 < ((rdOf ByteArray.empty l0 x3_1).size : Int) := of_decide_eq_true (by first | (with_reducible assumption) | assumption)
                        have hx8 := bt_at (rdOf ByteArray.empty l0 x3_1) x4_2
                        replace p8 := eq_true p8
                        replace q8 := eq_true q8
                        go_wp2
                        repeat (go_quiet (fail); try go_wp2)
                        go_ret
                        exact ⟨by first | rfl | (simp; done) | (simp [*]; done), by repeat (first | exact Drawn0.refl _ | apply Drawn0.step)⟩
                      · rw [if_neg c9] at H
                        have c9b0 : ((bt (rdOf ByteArray.empty l0 x3_1) x4_2) == 10) = false := beq_eq_false_iff_ne.mpr c9
                        have c9b1 : ((bt (rdOf ByteArray.empty l0 x3_1) x4_2) != 10) = true := bne_iff_ne.mpr c9
                        have H' := Aside0.mk H
                        clear H
                        have p453 : 0 ≤ (x3_1 : Int) := of_decide_eq_true (by first | (with_reducible assumption) | assumption)
                        have q453 : x3_1 < (l0.length : Int) := of_decide_eq_true (by first | (with_reducible assumption) | assumption)
                        obtain ⟨ad453, e453, hx453_0⟩ := Kd.at_string HR0.out x3_1 p453 q453
                        cases e453
                        replace p453 := eq_true p453
                        replace q453 := eq_true q453
                        have p454 : 0 ≤ (x3_1 : Int) := of_decide_eq_true (by first | (with_reducible assumption) | assumption)
                        have q454 : x3_1 < (l0.length : Int) := of_decide_eq_true (by first | (with_reducible assumption) | assumption)
                        obtain ⟨ad454, e454, hx454_0⟩ := Kd.at_string HR0.out x3_1 p454 q454
                        obtain rfl : ad453 = ad454 := (by injection e454)
                        replace p454 := eq_true p454
                        replace q454 := eq_true q454
                        have p8 : 0 ≤ (x4_2 : Int) := of_decide_eq_true (by first | (with_reducible assumption) | assumption)
                        have q8 : x4_2 < ((rdOf ByteArray.empty l0 x3_1).size : Int) := of_decide_eq_true (by first | (with_reducible assumption) | assumption)
                        have hx8 := bt_at (rdOf ByteArray.empty l0 x3_1) x4_2
                        replace p8 := eq_true p8
                        replace q8 := eq_true q8
                        go_wp2
                        repeat (go_quiet (fail); try go_wp2)
                        go_roundg k2
                        case measure => have := HK1.out; have := HK2.out; omega
                        case rel => exact ⟨(wrap64 (x4_2 + 1)), (by first | rfl | (simp; done) | (simp [*]; done)), H', ⟨by have := HK1.out; have := HK2.out; omega⟩, by repeat (first | exact Drawn0.refl _ | apply Drawn0.step)⟩
                    · rw [if_neg c7] at H
                      exact absurd H (by simp)
                  · rw [if_neg c6] at H
                    exact absurd H (by simp)
                · rw [if_neg c5] at H
                  have c5b0 : decide (x4_2 < (wrap64 (((rdOf ByteArray.empty l0 x3_1).size : Int) - 1))) = false := decide_eq_false c5
                  clear c5
                  by_cases c10 : ((rdOf ByteArray.empty l0 x3_1).size : Int) = 0
                  · rw [if_pos c10] at H
                    have c10b0 : (((rdOf ByteArray.empty l0 x3_1).size : Int) == 0) = true := beq_iff_eq.mpr c10
                    have c10b1 : (((rdOf ByteArray.empty l0 x3_1).size : Int) != 0) = false := bne_eq_false_iff_eq.mpr c10
                    clear c10
                    obtain rfl := Option.some.inj H
                    have p453 : 0 ≤ (x3_1 : Int) := of_decide_eq_true (by first | (with_reducible assumption) | assumption)
                    have q453 : x3_1 < (l0.length : Int) := of_decide_eq_true (by first | (with_reducible assumption) | assumption)
                    obtain ⟨ad453, e453, hx453_0⟩ := Kd.at_string HR0.out x3_1 p453 q453
                    cases e453
                    replace p453 := eq_true p453
                    replace q453 := eq_true q453
                    have p455 : 0 ≤ (x3_1 : Int) := of_decide_eq_true (by first | (with_reducible assumption) | assumption)
                    have q455 : x3_1 < (l0.length : Int) := of_decide_eq_true (by first | (with_reducible assumption) | assumption)
                    obtain ⟨ad455, e455, hx455_0⟩ := Kd.at_string HR0.out x3_1 p455 q455
                    obtain rfl : ad453 = ad455 := (by injection e455)
                    replace p455 := eq_true p455
                    replace q455 := eq_true q455
                    go_wp2
                    repeat (go_quiet (fail); try go_wp2)
                    go_ret
                    exact ⟨by first | rfl | (simp; done) | (simp [*]; done), by repeat (first | exact Drawn0.refl _ | apply Drawn0.step)⟩
                  · rw [if_neg c10] at H
                    have c10b0 : (((rdOf ByteArray.empty l0 x3_1).size : Int) == 0) = false := beq_eq_false_iff_ne.mpr c10
                    have c10b1 : (((rdOf ByteArray.empty l0 x3_1).size : Int) != 0) = true := bne_iff_ne.mpr c10
                    by_cases c11 : x3_1 < (wrap64 ((l0.length : Int) - 1))
                    · rw [if_pos c11] at H
                      have c11b0 : decide (x3_1 < (wrap64 ((l0.length : Int) - 1))) = true := decide_eq_true c11
                      clear c11
                      obtain ⟨ji12, hji12⟩ : ∃ j_ : Int, (wrap64 (((rdOf ByteArray.empty l0 x3_1).size : Int) - 1)) = j_ := ⟨_, rfl⟩
                      replace H : (if 0 ≤ (ji12) then (if (ji12) < ((rdOf ByteArray.empty l0 x3_1).size : Int) then (if (bt (rdOf ByteArray.empty l0 x3_1) (ji12)) = 10 then (redlineref02_Check.l0 k2 l0 (wrap64 (x3_1 + 1))) else (some 6)) else (none)) else (none)) = some r := by first | (rw [hji12] at H; exact H) | (simp only [hji12] at H ⊢; exact H)
                      (try rw [hji12] at c5b0)
                      have hji12w : (IntKind.i64.wrap (((rdOf ByteArray.empty l0 x3_1).size : Int) - 1)) = ji12 := (i64_w _).trans hji12
                      by_cases c13 : 0 ≤ (ji12)
                      · rw [if_pos c13] at H
                        have c13b0 : decide (0 ≤ (ji12)) = true := decide_eq_true c13
                        clear c13
                        by_cases c14 : (ji12) < ((rdOf ByteArray.empty l0 x3_1).size : Int)
                        · rw [if_pos c14] at H
                          have c14b0 : decide ((ji12) < ((rdOf ByteArray.empty l0 x3_1).size : Int)) = true := decide_eq_true c14
                          clear c14
                          by_cases c16 : (bt (rdOf ByteArray.empty l0 x3_1) (ji12)) = 10
                          · rw [if_pos c16] at H
                            have c16b0 : ((bt (rdOf ByteArray.empty l0 x3_1) (ji12)) == 10) = true := beq_iff_eq.mpr c16
                            have c16b1 : ((bt (rdOf ByteArray.empty l0 x3_1) (ji12)) != 10) = false := bne_eq_false_iff_eq.mpr c16
                            clear c16
                            have H' := Aside0.mk H
                            clear H
                            have p453 : 0 ≤ (x3_1 : Int) := of_decide_eq_true (by first | (with_reducible assumption) | assumption)
                            have q453 : x3_1 < (l0.length : Int) := of_decide_eq_true (by first | (with_reducible assumption) | assumption)
                            obtain ⟨ad453, e453, hx453_0⟩ := Kd.at_string HR0.out x3_1 p453 q453
                            cases e453
                            replace p453 := eq_true p453
                            replace q453 := eq_true q453
                            have p455 : 0 ≤ (x3_1 : Int) := of_decide_eq_true (by first | (with_reducible assumption) | assumption)
                            have q455 : x3_1 < (l0.length : Int) := of_decide_eq_true (by first | (with_reducible assumption) | assumption)
                            obtain ⟨ad455, e455, hx455_0⟩ := Kd.at_string HR0.out x3_1 p455 q455
                            obtain rfl : ad453 = ad455 := (by injection e455)
                            replace p455 := eq_true p455
                            replace q455 := eq_true q455
                            have p456 : 0 ≤ (x3_1 : Int) := of_decide_eq_true (by first | (with_reducible assumption) | assumption)
                            have q456 : x3_1 < (l0.length : Int) := of_decide_eq_true (by first | (with_reducible assumption) | assumption)
                            obtain ⟨ad456, e456, hx456_0⟩ := Kd.at_string HR0.out x3_1 p456 q456
                            obtain rfl : ad453 = ad456 := (by injection e456)
                            replace p456 := eq_true p456
                            replace q456 := eq_true q456
                            have p457 : 0 ≤ (x3_1 : Int) := of_decide_eq_true (by first | (with_reducible assumption) | assumption)
                            have q457 : x3_1 < (l0.length : Int) := of_decide_eq_true (by first | (with_reducible assumption) | assumption)
                            obtain ⟨ad457, e457, hx457_0⟩ := Kd.at_string HR0.out x3_1 p457 q457
                            obtain rfl : ad453 = ad457 := (by injection e457)
                            replace p457 := eq_true p457
                            replace q457 := eq_true q457
                            have p15 : 0 ≤ ((ji12) : Int) := of_decide_eq_true (by first | (with_reducible assumption) | assumption)
                            have q15 : (ji12) < ((rdOf ByteArray.empty l0 x3_1).size : Int) := of_decide_eq_true (by first | (with_reducible assumption) | assumption)
                            have hx15 := bt_at (rdOf ByteArray.empty l0 x3_1) (ji12)
                            replace p15 := eq_true p15
                            replace q15 := eq_true q15
                            go_wp2
                            repeat (go_quiet (fail); try go_wp2)
                            go_roundg k2
                            case measure => have := HK1.out; have := HK2.out; omega
                            case rel => exact ⟨(wrap64 (x3_1 + 1)), (by first | rfl | (simp; done) | (simp [*]; done)), H', ⟨by have := HK1.out; have := HK2.out; omega⟩, by repeat (first | exact Drawn0.refl _ | apply Drawn0.step)⟩
                          · rw [if_neg c16] at H
                            have c16b0 : ((bt (rdOf ByteArray.empty l0 x3_1) (ji12)) == 10) = false := beq_eq_false_iff_ne.mpr c16
                            have c16b1 : ((bt (rdOf ByteArray.empty l0 x3_1) (ji12)) != 10) = true := bne_iff_ne.mpr c16
                            obtain rfl := Option.some.inj H
                            have p453 : 0 ≤ (x3_1 : Int) := of_decide_eq_true (by first | (with_reducible assumption) | assumption)
                            have q453 : x3_1 < (l0.length : Int) := of_decide_eq_true (by first | (with_reducible assumption) | assumption)
                            obtain ⟨ad453, e453, hx453_0⟩ := Kd.at_string HR0.out x3_1 p453 q453
                            cases e453
                            replace p453 := eq_true p453
                            replace q453 := eq_true q453
                            have p455 : 0 ≤ (x3_1 : Int) := of_decide_eq_true (by first | (with_reducible assumption) | assumption)
                            have q455 : x3_1 < (l0.length : Int) := of_decide_eq_true (by first | (with_reducible assumption) | assumption)
                            obtain ⟨ad455, e455, hx455_0⟩ := Kd.at_string HR0.out x3_1 p455 q455
                            obtain rfl : ad453 = ad455 := (by injection e455)
                            replace p455 := eq_true p455
                            replace q455 := eq_true q455
                            have p456 : 0 ≤ (x3_1 : Int) := of_decide_eq_true (by first | (with_reducible assumption) | assumption)
                            have q456 : x3_1 < (l0.length : Int) := of_decide_eq_true (by first | (with_reducible assumption) | assumption)
                            obtain ⟨ad456, e456, hx456_0⟩ := Kd.at_string HR0.out x3_1 p456 q456
                            obtain rfl : ad453 = ad456 := (by injection e456)
                            replace p456 := eq_true p456
                            replace q456 := eq_true q456
                            have p457 : 0 ≤ (x3_1 : Int) := of_decide_eq_true (by first | (with_reducible assumption) | assumption)
                            have q457 : x3_1 < (l0.length : Int) := of_decide_eq_true (by first | (with_reducible assumption) | assumption)
                            obtain ⟨ad457, e457, hx457_0⟩ := Kd.at_string HR0.out x3_1 p457 q457
                            obtain rfl : ad453 = ad457 := (by injection e457)
                            replace p457 := eq_true p457
                            replace q457 := eq_true q457
                            have p15 : 0 ≤ ((ji12) : Int) := of_decide_eq_true (by first | (with_reducible assumption) | assumption)
                            have q15 : (ji12) < ((rdOf ByteArray.empty l0 x3_1).size : Int) := of_decide_eq_true (by first | (with_reducible assumption) | assumption)
                            have hx15 := bt_at (rdOf ByteArray.empty l0 x3_1) (ji12)
                            replace p15 := eq_true p15
                            replace q15 := eq_true q15
                            go_wp2
                            repeat (go_quiet (fail); try go_wp2)
                            go_ret
                            exact ⟨by first | rfl | (simp; done) | (simp only [← hji12] <;> (first | rfl | simp)) | (simp [*]; done), by repeat (first | exact Drawn0.refl _ | apply Drawn0.step)⟩
                        · rw [if_neg c14] at H
                          exact absurd H (by simp)
                      · rw [if_neg c13] at H
                        exact absurd H (by simp)
                    · rw [if_neg c11] at H
                      have c11b0 : decide (x3_1 < (wrap64 ((l0.length : Int) - 1))) = false := decide_eq_false c11
                      clear c11
                      have H' := Aside0.mk H
                      clear H
                      have p453 : 0 ≤ (x3_1 : Int) := of_decide_eq_true (by first | (with_reducible assumption) | assumption)
                      have q453 : x3_1 < (l0.length : Int) := of_decide_eq_true (by first | (with_reducible assumption) | assumption)
                      obtain ⟨ad453, e453, hx453_0⟩ := Kd.at_string HR0.out x3_1 p453 q453
                      cases e453
                      replace p453 := eq_true p453
                      replace q453 := eq_true q453
                      have p455 : 0 ≤ (x3_1 : Int) := of_decide_eq_true (by first | (with_reducible assumption) | assumption)
                      have q455 : x3_1 < (l0.length : Int) := of_decide_eq_true (by first | (with_reducible assumption) | assumption)
                      obtain ⟨ad455, e455, hx455_0⟩ := Kd.at_string HR0.out x3_1 p455 q455
                      obtain rfl : ad453 = ad455 := (by injection e455)
                      replace p455 := eq_true p455
                      replace q455 := eq_true q455
                      go_wp2
                      repeat (go_quiet (fail); try go_wp2)
                      go_roundg k2
                      case measure => have := HK1.out; have := HK2.out; omega
                      case rel => exact ⟨(wrap64 (x3_1 + 1)), (by first | rfl | (simp; done) | (simp [*]; done)), H', ⟨by have := HK1.out; have := HK2.out; omega⟩, by repeat (first | exact Drawn0.refl _ | apply Drawn0.step)⟩
              · rw [if_neg c4] at H
                exact absurd H (by simp)
            · rw [if_neg c3] at H
              exact absurd H (by simp)
      · rw [if_neg c2] at H
        have c2b0 : decide (x3_1 < (l0.length : Int)) = false := decide_eq_false c2
        clear c2
        obtain rfl := Option.some.inj H
        go_wp2
        repeat (go_quiet (fail); try go_wp2)
        go_ret
        exact ⟨by first | rfl | (simp; done) | (simp [*]; done), by repeat (first | exact Drawn0.refl _ | apply Drawn0.step)⟩
end Go.Proofs.Ytnllemlmgbjjnaa.PA
namespace Go.Proofs.Ytnllemlmgbjjnaa.PA
open Go.RowKit Go.Proofs.YtnllemlmgbjjnaaW.PrintWords Go.Proofs.YtnllemlmgbjjnaaW.PrintLast Go.Proofs.YtnllemlmgbjjnaaW.PrintMore
attribute [local go_sem] max2_int min2_int max_two min_two max_three min_three max_four min_four   -- for this text's walks alone
set_option linter.unusedVariables false
set_option linter.unusedSimpArgs false
def redlineref19_stands.f (k : Nat) (l0 : List ByteArray) (a1 : Int) (l2 : List ByteArray) : Option (Bool) := if a1 ≥ 0 then (if a1 ≤ (l0.length : Int) then (if (l2.length : Int) ≤ (wrap64 ((l0.length : Int) - a1)) then (if 0 ≤ a1 then (if a1 ≤ (wrap64 (a1 + (l2.length : Int))) then (if (wrap64 (a1 + (l2.length : Int))) ≤ (l0.length : Int) then ((redlineref01_SameStrings.f k ((l0.take ((wrap64 (a1 + (l2.length : Int))) : Int).toNat).drop (a1 : Int).toNat) l2).bind fun t459 => (some t459)) else (none)) else (none)) else (none)) else (some false)) else (some false)) else (some false)
set_option maxHeartbeats 8000000 in
set_option maxRecDepth 100000 in
theorem redlineref19_stands.calls (k : Nat) (A0 : Option Addr) (c0 : Nat) (l0 : List ByteArray) (a1 : Int) (A2 : Option Addr) (c2 : Nat) (l2 : List ByteArray) (r : Bool) (w : World) (hr0 : Kd.C Kd.string w A0 l0.length l0) (hc0 : l0.length ≤ c0) (hr2 : Kd.C Kd.string w A2 l2.length l2) (hc2 : l2.length ≤ c2) (h : redlineref19_stands.f k l0 a1 l2 = some r) :
    Calls Try.prog 72 #[.slice A0 l0.length c0, .int .i64 a1, .slice A2 l2.length c2] w fun e w' => e = .returned (.bool r) ∧ Drawn0 w w' := by
  have HR0 := Aside0.mk hr0
  have HC0 := Aside0.mk hc0
  clear hr0 hc0
  have HR2 := Aside0.mk hr2
  have HC2 := Aside0.mk hc2
  clear hr2 hc2
  have H : (if a1 ≥ 0 then (if a1 ≤ (l0.length : Int) then (if (l2.length : Int) ≤ (wrap64 ((l0.length : Int) - a1)) then (if 0 ≤ a1 then (if a1 ≤ (wrap64 (a1 + (l2.length : Int))) then (if (wrap64 (a1 + (l2.length : Int))) ≤ (l0.length : Int) then ((redlineref01_SameStrings.f k ((l0.take ((wrap64 (a1 + (l2.length : Int))) : Int).toNat).drop (a1 : Int).toNat) l2).bind fun t459 => (some t459)) else (none)) else (none)) else (none)) else (some false)) else (some false)) else (some false)) = some r := h
  clear h
  by_cases c4 : a1 ≥ 0
  · rw [if_pos c4] at H
    have c4b0 : decide (0 ≤ a1) = true := decide_eq_true c4
    clear c4
    by_cases c5 : a1 ≤ (l0.length : Int)
    · rw [if_pos c5] at H
      have c5b0 : decide (a1 ≤ (l0.length : Int)) = true := decide_eq_true c5
      clear c5
      by_cases c6 : (l2.length : Int) ≤ (wrap64 ((l0.length : Int) - a1))
      · rw [if_pos c6] at H
        have c6b0 : decide ((l2.length : Int) ≤ (wrap64 ((l0.length : Int) - a1))) = true := decide_eq_true c6
        clear c6
        by_cases c7 : 0 ≤ a1
        · rw [if_pos c7] at H
          have c7b0 := eq_true c7
          have c7b1 : decide (0 ≤ a1) = true := decide_eq_true c7
          clear c7
          by_cases c8 : a1 ≤ (wrap64 (a1 + (l2.length : Int)))
          · rw [if_pos c8] at H
            have c8b0 := eq_true c8
            have c8b1 : decide (a1 ≤ (wrap64 (a1 + (l2.length : Int)))) = true := decide_eq_true c8
            by_cases c9 : (wrap64 (a1 + (l2.length : Int))) ≤ (l0.length : Int)
            · rw [if_pos c9] at H
              have c9b0 := eq_true c9
              have c9b1 : decide ((wrap64 (a1 + (l2.length : Int))) ≤ (l0.length : Int)) = true := decide_eq_true c9
              replace H := Option.bind_eq_some_iff.mp H
              obtain ⟨t459, A100, H⟩ := H
              replace H : (some t459) = some r := H
              have A10 := Aside0.mk A100
              clear A100
              obtain rfl := Option.some.inj H
              obtain ⟨i011, hi011, _, hsz11, _⟩ := info_parts info9
              obtain ⟨A11, hcut11, hA11, hC11⟩ := print_mid_of (P := Try.prog) Value.string (⟨#[]⟩ : ByteArray) 27 9 .i64 .i64 Try.underlying27 hi011 hsz11 A0 c0 l0 a1 (wrap64 (a1 + (l2.length : Int))) (of_decide_eq_true (by first | (with_reducible assumption) | assumption)) (by first | omega | exact of_decide_eq_true (by first | (with_reducible assumption) | assumption)) (of_decide_eq_true (by first | (with_reducible assumption) | assumption)) HC0.out
              have HR458 := Aside0.mk (Kd.C_of_reads (h1 := fun _ => rfl) (hA11 _ (Kd.reads_of_C HR0.out)))
              have HC458 := Aside0.mk hC11
              clear hA11 hC11 hi011 hsz11
              generalize hsl_ : ((l0.take ((wrap64 (a1 + (l2.length : Int))) : Int).toNat).drop (a1 : Int).toNat) = sl_ at hcut11 HR458 HC458 A10
              go_enter Try.func72, Try.ntmps72
              go_wp2_with (first | (go_at_call 16; (with_reducible refine (redlineref01_SameStrings.calls k _ _ sl_ _ _ l2 t459 _ ?side1 ?side2 ?side3 ?side4 A10.out).mono ?_); (case side1 => repeat (first | exact HR458.out | (with_reducible refine Kd.C_alloc ?_ _) | (with_reducible refine Kd.C_drewN ?_ _) | (with_reducible refine Kd.C_drew ?_))); (case side2 => exact HC458.out); (case side3 => repeat (first | exact HR2.out | (with_reducible refine Kd.C_alloc ?_ _) | (with_reducible refine Kd.C_drewN ?_ _) | (with_reducible refine Kd.C_drew ?_))); (case side4 => exact HC2.out); rintro e w' ⟨rfl, ⟨nd, rfl⟩⟩))
              go_ret
              exact ⟨by first | rfl | (simp; done) | (simp [*]; done), by repeat (first | exact Drawn0.refl _ | apply Drawn0.step)⟩
            · rw [if_neg c9] at H
              exact absurd H (by simp)
          · rw [if_neg c8] at H
            exact absurd H (by simp)
        · rw [if_neg c7] at H
          exact absurd H (by simp)
      · rw [if_neg c6] at H
        have c6b0 : decide ((l2.length : Int) ≤ (wrap64 ((l0.length : Int) - a1))) = false := decide_eq_false c6
        clear c6
        obtain rfl := Option.some.inj H
        go_enter Try.func72, Try.ntmps72
        go_wp2
        go_ret
        exact ⟨by first | rfl | (simp; done) | (simp [*]; done), by repeat (first | exact Drawn0.refl _ | apply Drawn0.step)⟩
    · rw [if_neg c5] at H
      have c5b0 : decide (a1 ≤ (l0.length : Int)) = false := decide_eq_false c5
      clear c5
      obtain rfl := Option.some.inj H
      go_enter Try.func72, Try.ntmps72
      go_wp2
      go_ret
      exact ⟨by first | rfl | (simp; done) | (simp [*]; done), by repeat (first | exact Drawn0.refl _ | apply Drawn0.step)⟩
  · rw [if_neg c4] at H
    have c4b0 : decide (0 ≤ a1) = false := decide_eq_false c4
    clear c4
    obtain rfl := Option.some.inj H
    go_enter Try.func72, Try.ntmps72
    go_wp2
    go_ret
    exact ⟨by first | rfl | (simp; done) | (simp [*]; done), by repeat (first | exact Drawn0.refl _ | apply Drawn0.step)⟩
end Go.Proofs.Ytnllemlmgbjjnaa.PA
namespace Go.Proofs.Ytnllemlmgbjjnaa.PA
open Go.RowKit Go.Proofs.YtnllemlmgbjjnaaW.PrintWords Go.Proofs.YtnllemlmgbjjnaaW.PrintLast Go.Proofs.YtnllemlmgbjjnaaW.PrintMore
attribute [local go_sem] max2_int min2_int max_two min_two max_three min_three max_four min_four   -- for this text's walks alone
set_option linter.unusedVariables false
set_option linter.unusedSimpArgs false
def redlineref19_Strict.l0 : Nat → List (S24) → List ByteArray → List ByteArray → Int → Int → Option (List ByteArray × Int)
  | 0, _, _, _, _, _ => none
  | k + 1, x0, x1, x7, x8, x9 => if x9 < (x0.length : Int) then (if 0 ≤ x9 then ((redlineref11_At.f ((rd_T24 x0 x9).f0) ((rd_T24 x0 x9).f1) ((rd_T24 x0 x9).f2) ((rd_T24 x0 x9).f3) ((rd_T24 x0 x9).f4)).bind fun bt468 => ((redlineref11_Old.f k ((rd_T24 x0 x9).f0) ((rd_T24 x0 x9).f1) ((rd_T24 x0 x9).f2) ((rd_T24 x0 x9).f3) ((rd_T24 x0 x9).f4)).bind fun t471 => ((redlineref19_stands.f k x1 bt468.1 t471).bind fun t474 => (if t474 = true then (if 0 ≤ x8 then (if x8 ≤ bt468.1 then (if bt468.1 ≤ (x1.length : Int) then (if x7.length + ((x1.take (bt468.1 : Int).toNat).drop (x8 : Int).toNat).length < 8796093022208 then ((some (x7 ++ ((x1.take (bt468.1 : Int).toNat).drop (x8 : Int).toNat) : List ByteArray)).bind fun y476 => ((redlineref11_New.f k ((rd_T24 x0 x9).f0) ((rd_T24 x0 x9).f1) ((rd_T24 x0 x9).f2) ((rd_T24 x0 x9).f3) ((rd_T24 x0 x9).f4)).bind fun t480 => (if y476.length + t480.length < 8796093022208 then (redlineref19_Strict.l0 k x0 x1 (y476 ++ t480) (wrap64 (bt468.1 + (t471.length : Int))) (wrap64 (x9 + 1))) else (none)))) else (none)) else (none)) else (none)) else (none)) else (some (([] : List ByteArray), 190)))))) else (none)) else (if 0 ≤ x8 then (if x8 ≤ (x1.length : Int) then (if x7.length + (x1.drop (x8 : Int).toNat).length < 8796093022208 then ((some (x7 ++ (x1.drop (x8 : Int).toNat) : List ByteArray)).bind fun y463 => ((redlineref02_Check.f k y463).bind fun t466 => (if t466 = 0 then (some (y463, 0)) else (some (([] : List ByteArray), 6))))) else (none)) else (none)) else (none))
def redlineref19_Strict.f (k : Nat) (l0 : List (S24)) (l1 : List ByteArray) : Option (List ByteArray × Int) := (redlineref02_Check.f k l1).bind fun t460 => (if t460 = 0 then ((redlineref11_Order.f k l0).bind fun t461 => (if t461 = 0 then (redlineref19_Strict.l0 k l0 l1 ([] : List ByteArray) 0 0) else (some (([] : List ByteArray), t461)))) else (some (([] : List ByteArray), 6)))
def redlineref19_Strict.T15 : Bool × List (List Nat × List Nat) := (true, [([], []), ([], []), ([], []), ([], []), ([1, 2, 3], [1, 2, 3]), ([0, 4], [0, 4]), ([], []), ([], []), ([6, 7], [6, 7]), ([8], [8]), ([9, 5], [9]), ([5, 10, 10], [5, 10]), ([11, 11, 0, 1, 2, 3, 4, 5, 6, 7, 8, 9, 10, 11], [0, 11])])
def redlineref19_Strict.B15 : List Nat := [0, 0, 0, 0, 14, 31, 0, 0, 192, 448, 1023, 2047, 4095]
theorem redlineref19_Strict.tab15 : rtab .any (opsOf Try.f33 15) = redlineref19_Strict.T15 := by kernel_rfl
theorem redlineref19_Strict.bits15 : waitsOk redlineref19_Strict.T15.2 redlineref19_Strict.B15 = true := by kernel_rfl
set_option maxHeartbeats 8000000 in
set_option maxRecDepth 100000 in
theorem redlineref19_Strict.calls (k : Nat) (A0 : Option Addr) (c0 : Nat) (l0 : List (S24)) (A1 : Option Addr) (c1 : Nat) (l1 : List ByteArray) (r1 : List ByteArray) (r2 : Int) (w : World) (hr0 : Kd.C k24 w A0 l0.length l0) (hc0 : l0.length ≤ c0) (hr1 : Kd.C Kd.string w A1 l1.length l1) (hc1 : l1.length ≤ c1) (h : redlineref19_Strict.f k l0 l1 = some (r1, r2)) :
    Calls Try.prog 33 #[.slice A0 l0.length c0, .slice A1 l1.length c1] w fun e w' => ∃ v0_ : Value, e = .returned (.tuple #[v0_, .int .i64 r2]) ∧ Kd.R Kd.string 9 w' w.heap.size (fun _ => True) v0_ r1 ∧ Below w.heap.size w w' := by
  have hu24 := Try.underlying24
  have HR0 := Aside0.mk hr0
  have HC0 := Aside0.mk hc0
  clear hr0 hc0
  have HR1 := Aside0.mk hr1
  have HC1 := Aside0.mk hc1
  clear hr1 hc1
  have HB := Aside0.mk (Below.refl w.heap.size w)
  have H : ((redlineref02_Check.f k l1).bind fun t460 => (if t460 = 0 then ((redlineref11_Order.f k l0).bind fun t461 => (if t461 = 0 then (redlineref19_Strict.l0 k l0 l1 ([] : List ByteArray) 0 0) else (some (([] : List ByteArray), t461)))) else (some (([] : List ByteArray), 6)))) = some (r1, r2) := h
  clear h
  replace H := Option.bind_eq_some_iff.mp H
  obtain ⟨t460, A30, H⟩ := H
  replace H : (if t460 = 0 then ((redlineref11_Order.f k l0).bind fun t461 => (if t461 = 0 then (redlineref19_Strict.l0 k l0 l1 ([] : List ByteArray) 0 0) else (some (([] : List ByteArray), t461)))) else (some (([] : List ByteArray), 6))) = some (r1, r2) := H
  have A3 := Aside0.mk A30
  clear A30
  by_cases c4 : t460 = 0
  · rw [if_pos c4] at H
    have c4b0 : (t460 == 0) = true := beq_iff_eq.mpr c4
    have c4b1 : (t460 != 0) = false := bne_eq_false_iff_eq.mpr c4
    clear c4
    replace H := Option.bind_eq_some_iff.mp H
    obtain ⟨t461, A50, H⟩ := H
    replace H : (if t461 = 0 then (redlineref19_Strict.l0 k l0 l1 ([] : List ByteArray) 0 0) else (some (([] : List ByteArray), t461))) = some (r1, r2) := H
    have A5 := Aside0.mk A50
    clear A50
    by_cases c6 : t461 = 0
    · rw [if_pos c6] at H
      have c6b0 : (t461 == 0) = true := beq_iff_eq.mpr c6
      have c6b1 : (t461 != 0) = false := bne_eq_false_iff_eq.mpr c6
      clear c6
      have H' := Aside0.mk H
      clear H
      go_enter Try.func33, Try.ntmps33
      go_wp2_with (first | ((with_reducible refine gate_callee (f := 71) rfl ?_); refine goesL_ (some 14) rfl rfl Try.func71 (by kernel_rfl) rfl #[.slice A1 l1.length c1] rfl (by (try simp only [List.map_toArray, List.map_cons, List.map_nil]); first | done | rfl | (simp only [List.length_drop, List.length_take]; rfl)) ?_; (with_reducible refine (redlineref02_Check.calls k _ _ l1 t460 _ ?side1 ?side2 A3.out).mono ?_); (case side1 => repeat (first | exact HR1.out | (with_reducible refine Kd.C_alloc ?_ _) | (with_reducible refine Kd.C_drewN ?_ _) | (with_reducible refine Kd.C_drew ?_))); (case side2 => exact HC1.out); rintro e w' ⟨rfl, ⟨nd, rfl⟩⟩; refine ⟨_, rfl, ?_⟩) | ((with_reducible refine gate_callee (f := 27) rfl ?_); refine goesL_ (some 17) rfl rfl Try.func27 (by kernel_rfl) rfl #[.slice A0 l0.length c0] rfl (by (try simp only [List.map_toArray, List.map_cons, List.map_nil]); first | done | rfl | (simp only [List.length_drop, List.length_take]; rfl)) ?_; (with_reducible refine (redlineref11_Order.calls k _ _ l0 t461 _ ?side1 ?side2 A5.out).mono ?_); (case side1 => repeat (first | exact HR0.out | (with_reducible refine Kd.C_alloc ?_ _) | (with_reducible refine Kd.C_drewN ?_ _) | (with_reducible refine Kd.C_drew ?_))); (case side2 => exact HC0.out); rintro e w7 ⟨rfl, hb⟩; refine ⟨_, rfl, ?_⟩; have n0_ := Aside0.mk (below_step (by repeat (first | (with_reducible first | exact HB.out | apply below_alloc | apply pw_below_drewN | apply below_drew1) | exact HB.out)) hb); clear HB; have HB := n0_; clear n0_; (try clear hb); (try clear hb2); (try clear hk); (try clear hi)))
      go_loopg [7, 8, 9] k (fun kq v7 v8 v9 w' => ∃ (x7_1 : List ByteArray) (x8_1 : Int) (x9_1 : Int), v8 = .int .i64 x8_1 ∧ v9 = .int .i64 x9_1 ∧ Aside0 (redlineref19_Strict.l0 kq l0 l1 x7_1 x8_1 x9_1 = some (r1, r2)) ∧ Aside0 (kq ≤ k) ∧ Aside0 (Kd.R Kd.string 9 w' w.heap.size (fun _ => True) v7 x7_1) ∧ Aside0 (Below w.heap.size w w'))
      case atStart => exact ⟨(([] : List ByteArray)), (0), (0), (by first | rfl | (simp; done) | (simp [*]; done)), (by first | rfl | (simp; done) | (simp [*]; done)), H', ⟨Nat.le_refl _⟩, ⟨by first | exact Kd.R_nil _ _ _ _ _ | exact Kd.N_nil _ _ _ _ _ | exact Kd.V_nil _ _ _ _ _ | exact Kd.Q_nil _ _ _ _ _ | exact Kd.S_nil _ _ _ _ _⟩, ⟨by repeat (first | (with_reducible first | exact HB.out | apply below_alloc | apply pw_below_drewN | apply below_drew1) | exact HB.out)⟩⟩
      case round =>
        clear H'
        try clear c1
        try clear c2
        try clear p2
        try clear c3
        try clear c4
        try clear c4b0
        try clear c4b1
        try clear c6
        try clear c6b0
        try clear c6b1
        try clear c7
        obtain ⟨x7_1, x8_1, x9_1, rfl, rfl, HA, HK1, HO_7, HB⟩ := hrel
        cases gk with
        | zero => exact absurd HA.out (by simp [redlineref19_Strict.l0])
        | succ k1 =>
          have H := HA.out
          clear HA
          simp only [redlineref19_Strict.l0] at H
          by_cases c8 : x9_1 < (l0.length : Int)
          · rw [if_pos c8] at H
            have c8b0 : decide (x9_1 < (l0.length : Int)) = true := decide_eq_true c8
            clear c8
            by_cases c9 : 0 ≤ x9_1
            · rw [if_pos c9] at H
              have c9b0 : decide (0 ≤ x9_1) = true := decide_eq_true c9
              clear c9
              replace H := Option.bind_eq_some_iff.mp H
              obtain ⟨⟨t468, t469⟩, A100, H⟩ := H
              replace H : ((redlineref11_Old.f k1 ((rd_T24 l0 x9_1).f0) ((rd_T24 l0 x9_1).f1) ((rd_T24 l0 x9_1).f2) ((rd_T24 l0 x9_1).f3) ((rd_T24 l0 x9_1).f4)).bind fun t471 => ((redlineref19_stands.f k1 l1 t468 t471).bind fun t474 => (if t474 = true then (if 0 ≤ x8_1 then (if x8_1 ≤ t468 then (if t468 ≤ (l1.length : Int) then (if x7_1.length + ((l1.take (t468 : Int).toNat).drop (x8_1 : Int).toNat).length < 8796093022208 then ((some (x7_1 ++ ((l1.take (t468 : Int).toNat).drop (x8_1 : Int).toNat) : List ByteArray)).bind fun y476 => ((redlineref11_New.f k1 ((rd_T24 l0 x9_1).f0) ((rd_T24 l0 x9_1).f1) ((rd_T24 l0 x9_1).f2) ((rd_T24 l0 x9_1).f3) ((rd_T24 l0 x9_1).f4)).bind fun t480 => (if y476.length + t480.length < 8796093022208 then (redlineref19_Strict.l0 k1 l0 l1 (y476 ++ t480) (wrap64 (t468 + (t471.length : Int))) (wrap64 (x9_1 + 1))) else (none)))) else (none)) else (none)) else (none)) else (none)) else (some (([] : List ByteArray), 190))))) = some (r1, r2) := H
              have A10 := Aside0.mk A100
              clear A100
              replace H := Option.bind_eq_some_iff.mp H
              obtain ⟨t471, A110, H⟩ := H
              replace H : ((redlineref19_stands.f k1 l1 t468 t471).bind fun t474 => (if t474 = true then (if 0 ≤ x8_1 then (if x8_1 ≤ t468 then (if t468 ≤ (l1.length : Int) then (if x7_1.length + ((l1.take (t468 : Int).toNat).drop (x8_1 : Int).toNat).length < 8796093022208 then ((some (x7_1 ++ ((l1.take (t468 : Int).toNat).drop (x8_1 : Int).toNat) : List ByteArray)).bind fun y476 => ((redlineref11_New.f k1 ((rd_T24 l0 x9_1).f0) ((rd_T24 l0 x9_1).f1) ((rd_T24 l0 x9_1).f2) ((rd_T24 l0 x9_1).f3) ((rd_T24 l0 x9_1).f4)).bind fun t480 => (if y476.length + t480.length < 8796093022208 then (redlineref19_Strict.l0 k1 l0 l1 (y476 ++ t480) (wrap64 (t468 + (t471.length : Int))) (wrap64 (x9_1 + 1))) else (none)))) else (none)) else (none)) else (none)) else (none)) else (some (([] : List ByteArray), 190)))) = some (r1, r2) := H
              have A11 := Aside0.mk A110
              clear A110
              replace H := Option.bind_eq_some_iff.mp H
              obtain ⟨t474, A120, H⟩ := H
              replace H : (if t474 = true then (if 0 ≤ x8_1 then (if x8_1 ≤ t468 then (if t468 ≤ (l1.length : Int) then (if x7_1.length + ((l1.take (t468 : Int).toNat).drop (x8_1 : Int).toNat).length < 8796093022208 then ((some (x7_1 ++ ((l1.take (t468 : Int).toNat).drop (x8_1 : Int).toNat) : List ByteArray)).bind fun y476 => ((redlineref11_New.f k1 ((rd_T24 l0 x9_1).f0) ((rd_T24 l0 x9_1).f1) ((rd_T24 l0 x9_1).f2) ((rd_T24 l0 x9_1).f3) ((rd_T24 l0 x9_1).f4)).bind fun t480 => (if y476.length + t480.length < 8796093022208 then (redlineref19_Strict.l0 k1 l0 l1 (y476 ++ t480) (wrap64 (t468 + (t471.length : Int))) (wrap64 (x9_1 + 1))) else (none)))) else (none)) else (none)) else (none)) else (none)) else (some (([] : List ByteArray), 190))) = some (r1, r2) := H
              have A12 := Aside0.mk A120
              clear A120
              by_cases c13 : t474 = true
              · subst c13
                have H1 : (if 0 ≤ x8_1 then (if x8_1 ≤ t468 then (if t468 ≤ (l1.length : Int) then (if x7_1.length + ((l1.take (t468 : Int).toNat).drop (x8_1 : Int).toNat).length < 8796093022208 then ((some (x7_1 ++ ((l1.take (t468 : Int).toNat).drop (x8_1 : Int).toNat) : List ByteArray)).bind fun y476 => ((redlineref11_New.f k1 ((rd_T24 l0 x9_1).f0) ((rd_T24 l0 x9_1).f1) ((rd_T24 l0 x9_1).f2) ((rd_T24 l0 x9_1).f3) ((rd_T24 l0 x9_1).f4)).bind fun t480 => (if y476.length + t480.length < 8796093022208 then (redlineref19_Strict.l0 k1 l0 l1 (y476 ++ t480) (wrap64 (t468 + (t471.length : Int))) (wrap64 (x9_1 + 1))) else (none)))) else (none)) else (none)) else (none)) else (none)) = some (r1, r2) := by rw [if_pos rfl] at H; exact H
                clear H
                have H := H1
                clear H1
                by_cases c14 : 0 ≤ x8_1
                · rw [if_pos c14] at H
                  have c14b0 := eq_true c14
                  have c14b1 : decide (0 ≤ x8_1) = true := decide_eq_true c14
                  clear c14
                  by_cases c15 : x8_1 ≤ t468
                  · rw [if_pos c15] at H
                    have c15b0 := eq_true c15
                    have c15b1 : decide (x8_1 ≤ t468) = true := decide_eq_true c15
                    clear c15
                    by_cases c16 : t468 ≤ (l1.length : Int)
                    · rw [if_pos c16] at H
                      have c16b0 := eq_true c16
                      have c16b1 : decide (t468 ≤ (l1.length : Int)) = true := decide_eq_true c16
                      clear c16
                      by_cases c17 : x7_1.length + ((l1.take (t468 : Int).toNat).drop (x8_1 : Int).toNat).length < 8796093022208
                      · rw [if_pos c17] at H
                        have LMc17 := Aside0.mk c17
                        clear c17
                        obtain ⟨y476, hy476⟩ : ∃ y_ : List ByteArray, y_ = (x7_1 ++ ((l1.take (t468 : Int).toNat).drop (x8_1 : Int).toNat)) := ⟨_, rfl⟩
                        replace H : ((redlineref11_New.f k1 ((rd_T24 l0 x9_1).f0) ((rd_T24 l0 x9_1).f1) ((rd_T24 l0 x9_1).f2) ((rd_T24 l0 x9_1).f3) ((rd_T24 l0 x9_1).f4)).bind fun t480 => (if y476.length + t480.length < 8796093022208 then (redlineref19_Strict.l0 k1 l0 l1 (y476 ++ t480) (wrap64 (t468 + (t471.length : Int))) (wrap64 (x9_1 + 1))) else (none))) = some (r1, r2) := by first | (rw [hy476]; with_reducible exact H) | (have H2_ := (Option.bind_some _ _).symm.trans H; rw [hy476]; with_reducible exact H2_) | (have H2_ := (Option.bind_some _ _).symm.trans H; with_reducible exact H2_) | with_reducible exact H | (rw [hy476]; exact H) | exact H
                        have Ny476 := Aside0.mk hy476
                        clear hy476
                        replace H := Option.bind_eq_some_iff.mp H
                        obtain ⟨t480, A180, H⟩ := H
                        replace H : (if y476.length + t480.length < 8796093022208 then (redlineref19_Strict.l0 k1 l0 l1 (y476 ++ t480) (wrap64 (t468 + (t471.length : Int))) (wrap64 (x9_1 + 1))) else (none)) = some (r1, r2) := H
                        have A18 := Aside0.mk A180
                        clear A180
                        by_cases c19 : y476.length + t480.length < 8796093022208
                        · rw [if_pos c19] at H
                          have LMc19 := Aside0.mk c19
                          clear c19
                          obtain ⟨y483, hy483⟩ : ∃ y_ : List ByteArray, y_ = (y476 ++ t480) := ⟨_, rfl⟩
                          replace H : (redlineref19_Strict.l0 k1 l0 l1 y483 (wrap64 (t468 + (t471.length : Int))) (wrap64 (x9_1 + 1))) = some (r1, r2) := by first | (rw [hy483]; with_reducible exact H) | (have H2_ := (Option.bind_some _ _).symm.trans H; rw [hy483]; with_reducible exact H2_) | (have H2_ := (Option.bind_some _ _).symm.trans H; with_reducible exact H2_) | with_reducible exact H | (rw [hy483]; exact H) | exact H
                          have Ny483 := Aside0.mk hy483
                          clear hy483
                          have H' := Aside0.mk H
                          clear H
                          have p467 : 0 ≤ (x9_1 : Int) := of_decide_eq_true (by first | (with_reducible assumption) | assumption)
                          have q467 : x9_1 < (l0.length : Int) := of_decide_eq_true (by first | (with_reducible assumption) | assumption)
                          obtain ⟨ad467, A467_4, c467_4, e467, hx467_0, hx467_1, hx467_2, hx467_3, hx467_4, hl467_4, hi467_4⟩ := at_T24 HR0.out x9_1 p467 q467
                          cases e467
                          replace hx467_0 := (HB.out.cell (World.block_lt_of_cell? w _ hx467_0)).trans hx467_0
                          replace hx467_1 := (HB.out.cell (World.block_lt_of_cell? w _ hx467_1)).trans hx467_1
                          replace hx467_2 := (HB.out.cell (World.block_lt_of_cell? w _ hx467_2)).trans hx467_2
                          replace hx467_3 := (HB.out.cell (World.block_lt_of_cell? w _ hx467_3)).trans hx467_3
                          replace hx467_4 := (HB.out.cell (World.block_lt_of_cell? w _ hx467_4)).trans hx467_4
                          have HR467_4 := Aside0.mk hi467_4
                          have HC467_4 := Aside0.mk hl467_4
                          clear hi467_4 hl467_4
                          replace p467 := eq_true p467
                          replace q467 := eq_true q467
                          try go_wp2_with (first | ((with_reducible refine gate_callee (f := 41) rfl ?_); refine goesL_ (some 32) rfl rfl Try.func41 (by kernel_rfl) rfl #[.agg #[.int .i64 ((rd_T24 l0 x9_1).f0), .int .i64 ((rd_T24 l0 x9_1).f1), .int .i64 ((rd_T24 l0 x9_1).f2), .int .i64 ((rd_T24 l0 x9_1).f3), .slice A467_4 ((rd_T24 l0 x9_1).f4).length c467_4]] rfl (by (try simp only [List.map_toArray, List.map_cons, List.map_nil]); first | done | rfl | (simp only [List.length_drop, List.length_take]; rfl)) ?_; (with_reducible refine (redlineref11_At.calls ((rd_T24 l0 x9_1).f0) ((rd_T24 l0 x9_1).f1) ((rd_T24 l0 x9_1).f2) ((rd_T24 l0 x9_1).f3) _ _ ((rd_T24 l0 x9_1).f4) t468 t469 _ ?side1 ?side2 A10.out).mono ?_); (case side1 => repeat (first | exact (Kd.C_below HR467_4.out HB.out) | (with_reducible refine Kd.C_alloc ?_ _) | (with_reducible refine Kd.C_drewN ?_ _) | (with_reducible refine Kd.C_drew ?_))); (case side2 => exact HC467_4.out); rintro e w20 ⟨rfl, hb⟩; refine ⟨_, rfl, ?_⟩; have n0_ := Aside0.mk (Kd.R_below (by (with_reducible repeat (first | apply Kd.R_alloc | apply Kd.R_drewN | apply Kd.R_drew)); exact HO_7.out) hb); have n1_ := Aside0.mk (below_step (by repeat (first | (with_reducible first | exact HB.out | apply below_alloc | apply pw_below_drewN | apply below_drew1) | exact HB.out)) hb); clear HO_7; clear HB; have HO_7 := n0_; have HB := n1_; clear n0_ n1_; (try clear hb); (try clear hb2); (try clear hk); (try clear hi); have p470 : 0 ≤ (x9_1 : Int) := of_decide_eq_true (by first | (with_reducible assumption) | assumption); have q470 : x9_1 < (l0.length : Int) := of_decide_eq_true (by first | (with_reducible assumption) | assumption); obtain ⟨ad470, A470_4, c470_4, e470, hx470_0, hx470_1, hx470_2, hx470_3, hx470_4, hl470_4, hi470_4⟩ := at_T24 HR0.out x9_1 p470 q470; obtain rfl : ad467 = ad470 := (by injection e470); replace hx470_0 := (HB.out.cell (World.block_lt_of_cell? w _ hx470_0)).trans hx470_0; replace hx470_1 := (HB.out.cell (World.block_lt_of_cell? w _ hx470_1)).trans hx470_1; replace hx470_2 := (HB.out.cell (World.block_lt_of_cell? w _ hx470_2)).trans hx470_2; replace hx470_3 := (HB.out.cell (World.block_lt_of_cell? w _ hx470_3)).trans hx470_3; replace hx470_4 := (HB.out.cell (World.block_lt_of_cell? w _ hx470_4)).trans hx470_4; have HR470_4 := Aside0.mk hi470_4; have HC470_4 := Aside0.mk hl470_4; clear hi470_4 hl470_4; replace p470 := eq_true p470; replace q470 := eq_true q470) | ((with_reducible refine gate_callee (f := 17) rfl ?_); refine goesL_ (some 39) rfl rfl Try.func17 (by kernel_rfl) rfl #[.agg #[.int .i64 ((rd_T24 l0 x9_1).f0), .int .i64 ((rd_T24 l0 x9_1).f1), .int .i64 ((rd_T24 l0 x9_1).f2), .int .i64 ((rd_T24 l0 x9_1).f3), .slice A470_4 ((rd_T24 l0 x9_1).f4).length c470_4]] rfl (by (try simp only [List.map_toArray, List.map_cons, List.map_nil]); first | done | rfl | (simp only [List.length_drop, List.length_take]; rfl)) ?_; (with_reducible refine (redlineref11_Old.calls k1 ((rd_T24 l0 x9_1).f0) ((rd_T24 l0 x9_1).f1) ((rd_T24 l0 x9_1).f2) ((rd_T24 l0 x9_1).f3) _ _ ((rd_T24 l0 x9_1).f4) t471 _ ?side1 ?side2 A11.out).mono ?_); (case side1 => repeat (first | exact (Kd.C_below HR470_4.out HB.out) | (with_reducible refine Kd.C_alloc ?_ _) | (with_reducible refine Kd.C_drewN ?_ _) | (with_reducible refine Kd.C_drew ?_))); (case side2 => exact HC470_4.out); rintro e w21 ⟨v472, rfl, ho0, hb⟩; refine ⟨_, rfl, ?_⟩; have n0_ := Aside0.mk (Kd.R_elder' (by (with_reducible repeat (first | apply Kd.R_alloc | apply Kd.R_drewN | apply Kd.R_drew)); exact HO_7.out) (Kd.R_base ho0) hb); have n1_ := Aside0.mk (Kd.R_lower (Kd.R_new' ho0 (Kd.R_lt (by (with_reducible repeat (first | apply Kd.R_alloc | apply Kd.R_drewN | apply Kd.R_drew)); exact HO_7.out))) (below_size (by repeat (first | (with_reducible first | exact HB.out | apply below_alloc | apply pw_below_drewN | apply below_drew1) | exact HB.out)))); have n2_ := Aside0.mk (below_step (by repeat (first | (with_reducible first | exact HB.out | apply below_alloc | apply pw_below_drewN | apply below_drew1) | exact HB.out)) hb); clear HO_7; clear HB; have HO_7 := n0_; have HO473 := n1_; have HB := n2_; clear n0_ n1_ n2_; (try clear hb); (try clear hb2); (try clear hk); (try clear hi); (try clear ho0); obtain ⟨Ao22, co22, eo22⟩ := Kd.R_slice HO473.out; subst eo22) | ((with_reducible refine gate_callee (f := 72) rfl ?_); refine goesL_ (some 43) rfl rfl Try.func72 (by kernel_rfl) rfl #[.slice A1 l1.length c1, .int .i64 t468, .slice Ao22 t471.length co22] rfl (by (try simp only [List.map_toArray, List.map_cons, List.map_nil]); first | done | rfl | (simp only [List.length_drop, List.length_take]; rfl)) ?_; (with_reducible refine (redlineref19_stands.calls k1 _ _ l1 t468 _ _ t471 true _ ?side1 ?side2 ?side3 ?side4 A12.out).mono ?_); (case side1 => repeat (first | exact (Kd.C_below HR1.out HB.out) | (with_reducible refine Kd.C_alloc ?_ _) | (with_reducible refine Kd.C_drewN ?_ _) | (with_reducible refine Kd.C_drew ?_))); (case side2 => exact HC1.out); (case side3 => repeat (first | exact (Kd.R_reads' HO473.out).2.2 | (with_reducible refine Kd.C_alloc ?_ _) | (with_reducible refine Kd.C_drewN ?_ _) | (with_reducible refine Kd.C_drew ?_))); (case side4 => exact (Kd.R_reads' HO473.out).2.1); rintro e w' ⟨rfl, ⟨nd, rfl⟩⟩; refine ⟨_, rfl, ?_⟩))
                          (try (rw [drewN_self w21]; generalize hq_ : World.drewN w21 _ = w21; have n0_ : Aside0 (Kd.R Kd.string 9 w21 w.heap.size (fun k_ => some k_ ≠ (u7 : Value).ownBlock) (.slice Ao22 t471.length co22) t471) := ⟨by rw [← hq_]; exact (by (with_reducible repeat (first | apply Kd.R_alloc | apply Kd.R_drewN | apply Kd.R_drew)); exact Kd.R_mono HO473.out (fun _ hk => hk.2))⟩; have n1_ : Aside0 (Kd.R Kd.string 9 w21 w.heap.size (fun k_ => some k_ ≠ (.slice Ao22 t471.length co22 : Value).ownBlock) u7 x7_1) := ⟨by rw [← hq_]; exact (by (with_reducible repeat (first | apply Kd.R_alloc | apply Kd.R_drewN | apply Kd.R_drew)); exact Kd.R_mono HO_7.out (fun _ hk => hk.2))⟩; have n2_ : Aside0 (Below w.heap.size w w21) := ⟨by rw [← hq_]; exact (by repeat (first | (with_reducible first | exact HB.out | apply below_alloc | apply pw_below_drewN | apply below_drew1) | exact HB.out))⟩; clear HO473 HO_7 HB hq_; have HO473 := n0_; have HO_7 := n1_; have HB := n2_; clear n0_ n1_ n2_))
                          have n0_ := Aside0.mk (Kd.R_drew HO_7.out)
                          have n1_ := Aside0.mk (Kd.R_drew HO473.out)
                          have n2_ := Aside0.mk (below_drew1 HB.out)
                          clear HO_7
                          clear HO473
                          clear HB
                          have HO_7 := n0_
                          have HO473 := n1_
                          have HB := n2_
                          clear n0_ n1_ n2_
                          obtain ⟨i024, hi024, _, hsz24, _⟩ := info_parts info9
                          obtain ⟨A24, hcut24, hA24, hC24⟩ := print_mid_of (P := Try.prog) Value.string (⟨#[]⟩ : ByteArray) 27 9 .i64 .i64 Try.underlying27 hi024 hsz24 A1 c1 l1 x8_1 t468 (of_decide_eq_true (by first | (with_reducible assumption) | assumption)) (by first | omega | exact of_decide_eq_true (by first | (with_reducible assumption) | assumption)) (of_decide_eq_true (by first | (with_reducible assumption) | assumption)) HC1.out
                          have HR475 := Aside0.mk (Kd.C_of_reads (h1 := fun _ => rfl) (hA24 _ (Kd.reads_of_C HR1.out)))
                          have HC475 := Aside0.mk hC24
                          clear hA24 hC24 hi024 hsz24
                          have p479 : 0 ≤ (x9_1 : Int) := of_decide_eq_true (by first | (with_reducible assumption) | assumption)
                          have q479 : x9_1 < (l0.length : Int) := of_decide_eq_true (by first | (with_reducible assumption) | assumption)
                          obtain ⟨ad479, A479_4, c479_4, e479, hx479_0, hx479_1, hx479_2, hx479_3, hx479_4, hl479_4, hi479_4⟩ := at_T24 HR0.out x9_1 p479 q479
                          have hw479_4 := hx479_4
                          have hw479_3 := hx479_3
                          have hw479_2 := hx479_2
                          have hw479_1 := hx479_1
                          have hw479_0 := hx479_0
                          obtain rfl : ad467 = ad479 := (by injection e479)
                          replace hx479_0 := (HB.out.cell (World.block_lt_of_cell? w _ hx479_0)).trans hx479_0
                          replace hx479_1 := (HB.out.cell (World.block_lt_of_cell? w _ hx479_1)).trans hx479_1
                          replace hx479_2 := (HB.out.cell (World.block_lt_of_cell? w _ hx479_2)).trans hx479_2
                          replace hx479_3 := (HB.out.cell (World.block_lt_of_cell? w _ hx479_3)).trans hx479_3
                          replace hx479_4 := (HB.out.cell (World.block_lt_of_cell? w _ hx479_4)).trans hx479_4
                          have HR479_4 := Aside0.mk hi479_4
                          have HC479_4 := Aside0.mk hl479_4
                          clear hi479_4 hl479_4
                          replace p479 := eq_true p479
                          replace q479 := eq_true q479
                          refine start_ (n := 13) (S := fun w' => w'.cell? (ad467.add ((x9_1).toNat * 5)) = some (.int .i64 ((rd_T24 l0 x9_1).f0)) ∧ w'.cell? ⟨(ad467.add ((x9_1).toNat * 5)).block, (ad467.add ((x9_1).toNat * 5)).off + 1, none⟩ = some (.int .i64 ((rd_T24 l0 x9_1).f1)) ∧ w'.cell? ⟨(ad467.add ((x9_1).toNat * 5)).block, (ad467.add ((x9_1).toNat * 5)).off + 2, none⟩ = some (.int .i64 ((rd_T24 l0 x9_1).f2)) ∧ w'.cell? ⟨(ad467.add ((x9_1).toNat * 5)).block, (ad467.add ((x9_1).toNat * 5)).off + 3, none⟩ = some (.int .i64 ((rd_T24 l0 x9_1).f3)) ∧ w'.cell? ⟨(ad467.add ((x9_1).toNat * 5)).block, (ad467.add ((x9_1).toNat * 5)).off + 4, none⟩ = some (.slice A479_4 ((rd_T24 l0 x9_1).f4).length c479_4)) (ds := []) #[false, false, false, false, false, false, false, false, false, false, false, false, false] (by kernel_rfl) rfl rfl ⟨((HB.out.cell (World.block_lt_of_cell? w _ hw479_0)).trans hw479_0), ((HB.out.cell (World.block_lt_of_cell? w _ hw479_1)).trans hw479_1), ((HB.out.cell (World.block_lt_of_cell? w _ hw479_2)).trans hw479_2), ((HB.out.cell (World.block_lt_of_cell? w _ hw479_3)).trans hw479_3), ((HB.out.cell (World.block_lt_of_cell? w _ hw479_4)).trans hw479_4)⟩ (fun hHeld => ?_); refine with_tabW redlineref19_Strict.tab15 redlineref19_Strict.bits15 (fun HT_ HW_ => ?_)
                          generalize w21.drew = w23 at HO_7 HO473 HB HR475 HR479_4 hx479_0 hx479_1 hx479_2 hx479_3 hx479_4 hHeld ⊢
                          refine pure_ (i := 0) (N := some 45) (v := ?_) (a' := ?_) #[true, false, false, false, false, false, false, false, false, false, false, false, false] rfl rfl (any_of HT_.out (by kernel_rfl)) (fun _ _ _ h => h) (Or.inl ⟨by rfl, ?_⟩) ?_ ?_
                          rotate_left
                          · intro w'
                            go_simp
                            with_reducible rfl
                          rotate_left
                          · simp only [Act.put, List.setIfInBounds_toArray, List.set_cons_zero, List.set_cons_succ, i64_w, i32_w]
                            rfl
                          refine pure_ (i := 1) (N := some 46) (v := ?_) (a' := ?_) #[true, true, false, false, false, false, false, false, false, false, false, false, false] rfl rfl (any_of HT_.out (by kernel_rfl)) (fun _ _ _ h => h) (Or.inl ⟨by rfl, ?_⟩) ?_ ?_
                          rotate_left
                          · intro w'
                            go_simp
                            with_reducible rfl
                          rotate_left
                          · simp only [Act.put, List.setIfInBounds_toArray, List.set_cons_zero, List.set_cons_succ, i64_w, i32_w]
                            rfl
                          refine pure_ (i := 2) (N := some 47) (v := ?_) (a' := ?_) #[true, true, true, false, false, false, false, false, false, false, false, false, false] rfl rfl (any_of HT_.out (by kernel_rfl)) (fun _ _ _ h => h) (Or.inl ⟨by rfl, ?_⟩) ?_ ?_
                          rotate_left
                          · intro w'
                            go_simp
                            with_reducible rfl
                          rotate_left
                          · simp only [Act.put, List.setIfInBounds_toArray, List.set_cons_zero, List.set_cons_succ, i64_w, i32_w]
                            rfl
                          refine pure_ (i := 3) (N := some 48) (v := ?_) (a' := ?_) #[true, true, true, true, false, false, false, false, false, false, false, false, false] rfl rfl (any_of HT_.out (by kernel_rfl)) (fun _ _ _ h => h) (Or.inl ⟨by rfl, ?_⟩) ?_ ?_
                          rotate_left
                          · intro w'
                            go_simp
                            with_reducible rfl
                          rotate_left
                          · simp only [Act.put, List.setIfInBounds_toArray, List.set_cons_zero, List.set_cons_succ, i64_w, i32_w]
                            rfl
                          refine pure_ (i := 4) (N := some 49) (v := ?_) (a' := ?_) #[true, true, true, true, true, false, false, false, false, false, false, false, false] rfl rfl (any_of HT_.out (by kernel_rfl)) (fun _ _ _ h => h) (Or.inl ⟨by rfl, ?_⟩) ?_ ?_
                          rotate_left
                          · intro w'
                            go_simp
                            with_reducible rfl
                          rotate_left
                          · simp only [Act.put, List.setIfInBounds_toArray, List.set_cons_zero, List.set_cons_succ, i64_w, i32_w]
                            rfl
                          refine pure_ (i := 6) (N := some 51) (v := ?_) (a' := ?_) #[true, true, true, true, true, false, true, false, false, false, false, false, false] rfl rfl (any_of HT_.out (by kernel_rfl)) (fun _ _ _ h => h) (Or.inl ⟨by rfl, ?_⟩) ?_ ?_
                          rotate_left
                          · intro w'
                            go_simp
                            with_reducible rfl
                          rotate_left
                          · simp only [Act.put, List.setIfInBounds_toArray, List.set_cons_zero, List.set_cons_succ, i64_w, i32_w]
                            rfl
                          refine pure_ (i := 7) (N := some 52) (v := ?_) (a' := ?_) #[true, true, true, true, true, false, true, true, false, false, false, false, false] rfl rfl (any_of HT_.out (by kernel_rfl)) (fun _ _ _ h => h) (Or.inl ⟨by rfl, ?_⟩) ?_ ?_
                          rotate_left
                          · intro w'
                            go_simp
                            with_reducible rfl
                          rotate_left
                          · simp only [Act.put, List.setIfInBounds_toArray, List.set_cons_zero, List.set_cons_succ, i64_w, i32_w]
                            rfl
                          refine pure_ (i := 8) (N := some 53) (v := ?_) (a' := ?_) #[true, true, true, true, true, false, true, true, true, false, false, false, false] rfl rfl (any_of HT_.out (by kernel_rfl)) (fun _ _ _ h => h) (Or.inl ⟨by rfl, ?_⟩) ?_ ?_
                          rotate_left
                          · intro w'
                            go_simp
                            with_reducible rfl
                          rotate_left
                          · simp only [Act.put, List.setIfInBounds_toArray, List.set_cons_zero, List.set_cons_succ, i64_w, i32_w]
                            rfl
                          refine take_ (i := 9) (N := some 54) (v := ?_) (a' := ?_) #[true, true, true, true, true, false, true, true, true, true, false, false, false] rfl rfl (take_ofW HT_.out HW_.out (by kernel_rfl)) (fun _ _ _ h => h) (Or.inl ⟨by rfl, ?_⟩) hHeld ?_ ?_
                          rotate_left
                          · rintro w' ⟨s0, s1, s2, s3, s4⟩
                            go_simp
                            with_reducible rfl
                          rotate_left
                          · simp only [Act.put, List.setIfInBounds_toArray, List.set_cons_zero, List.set_cons_succ, i64_w, i32_w]
                            rfl
                          refine one_ (i := 5) (N := some 50) #[true, true, true, true, true, true, true, true, true, true, false, false, false] rfl rfl (one_of HT_.out (by kernel_rfl)) (by decide) (fun K hK => ?_)
                          refine Kd.R_append_rows_step Kd.string (w0 := w) w.heap.size (by rfl) (.tmp 45) (.tmp 49) 27 9 (.string ⟨#[]⟩) 16 rfl Try.underlying27 info9 rfl (by decide) (by omega) u7 x7_1 ((l1.take (t468 : Int).toNat).drop (x8_1 : Int).toNat) _ _ _ (fun k_ => some k_ ≠ (.slice Ao22 t471.length co22 : Value).ownBlock) (fun _ => False) rfl rfl ?aO ?aR (fun _ _ h => h) (fun _ h => h.elim) ?aF ?aB ?aS ?aL ?_
                          (case aR => first | (rw [← show ((l1.take (t468 : Int).toNat).drop (x8_1 : Int).toNat).length = (t468.toNat - x8_1.toNat) from (by rw [List.length_drop, List.length_take]; have h_ : (t468 : Int) ≤ (l1.length : Int) := of_decide_eq_true (by first | (with_reducible assumption) | assumption); omega)]; repeat (first | exact (Kd.C_below HR475.out HB.out) | (with_reducible refine Kd.C_alloc ?_ _) | (with_reducible refine Kd.C_drewN ?_ _) | (with_reducible refine Kd.C_drew ?_))) | (repeat (first | exact (Kd.C_below HR475.out HB.out) | (with_reducible refine Kd.C_alloc ?_ _) | (with_reducible refine Kd.C_drewN ?_ _) | (with_reducible refine Kd.C_drew ?_))))
                          (case aB => exact (by repeat (first | (with_reducible first | exact HB.out | apply below_alloc | apply pw_below_drewN | apply below_drew1) | exact HB.out)))
                          (case aF => exact (fun k_ hk => Kd.fresh' (Kd.R_lt (by (with_reducible repeat (first | apply Kd.R_alloc | apply Kd.R_drewN | apply Kd.R_drew)); exact HO473.out)) k_ hk))
                          (case aO => exact (by (with_reducible repeat (first | apply Kd.R_alloc | apply Kd.R_drewN | apply Kd.R_drew)); exact Kd.R_mono HO_7.out (fun _ hk => by first | exact hk.2 | exact hk)))
                          (case aS => exact (below_size (by repeat (first | (with_reducible first | exact HB.out | apply below_alloc | apply pw_below_drewN | apply below_drew1) | exact HB.out))))
                          (case aL => have := LMc17.out; have hlx_ := (show ((l1.take (t468 : Int).toNat).drop (x8_1 : Int).toNat).length = (t468.toNat - x8_1.toNat) from (by rw [List.length_drop, List.length_take]; have h_ : (t468 : Int) ≤ (l1.length : Int) := of_decide_eq_true (by first | (with_reducible assumption) | assumption); omega)); omega)
                          intro v477 w25 ho hb hg hat
                          rw [← Ny476.out] at ho
                          have n0_ := Aside0.mk (Kd.R_after (ok := (fun _ => True)) (by (with_reducible repeat (first | apply Kd.R_alloc | apply Kd.R_drewN | apply Kd.R_drew)); first | exact HO473.out | exact Kd.R_mono HO473.out (fun _ hk => ⟨trivial, hk⟩)) hg hat)
                          have n1_ := Aside0.mk (hb)
                          have n2_ := Aside0.mk (ho)
                          clear HO473
                          clear HB
                          clear HO_7
                          have HO473 := n0_
                          have HB := n1_
                          have HO478 := n2_
                          clear n0_ n1_ n2_
                          clear ho hb hg hat
                          refine hK.out _ _ ⟨((HB.out.cell (World.block_lt_of_cell? w _ hw479_0)).trans hw479_0), ((HB.out.cell (World.block_lt_of_cell? w _ hw479_1)).trans hw479_1), ((HB.out.cell (World.block_lt_of_cell? w _ hw479_2)).trans hw479_2), ((HB.out.cell (World.block_lt_of_cell? w _ hw479_3)).trans hw479_3), ((HB.out.cell (World.block_lt_of_cell? w _ hw479_4)).trans hw479_4)⟩ (fun hHeld => ?_)
                          clear hK K
                          refine norm_ (a' := ?_) ?_ ?_
                          rotate_left
                          · show Act.put _ (some 50) _ = _
                            simp only [Act.put, List.setIfInBounds_toArray, List.set_cons_zero, List.set_cons_succ, i64_w, i32_w]
                            rfl
                          refine one_ (i := 10) (N := some 55) #[true, true, true, true, true, true, true, true, true, true, true, false, false] rfl rfl (one_of HT_.out (by kernel_rfl)) (by decide) (fun K hK => ?_)
                          refine goes_ Try.func18 (by kernel_rfl) rfl #[.agg #[.int .i64 ((rd_T24 l0 x9_1).f0), .int .i64 ((rd_T24 l0 x9_1).f1), .int .i64 ((rd_T24 l0 x9_1).f2), .int .i64 ((rd_T24 l0 x9_1).f3), .slice A479_4 ((rd_T24 l0 x9_1).f4).length c479_4]] (by rfl) rfl rfl (by (try simp only [List.map_toArray, List.map_cons, List.map_nil]); first | done | rfl | (simp only [List.length_drop, List.length_take]; rfl)) ?_
                          with_reducible refine (redlineref11_New.calls k1 ((rd_T24 l0 x9_1).f0) ((rd_T24 l0 x9_1).f1) ((rd_T24 l0 x9_1).f2) ((rd_T24 l0 x9_1).f3) _ _ ((rd_T24 l0 x9_1).f4) t480 _ ?side1 ?side2 A18.out).mono ?_
                          (case side1 => repeat (first | exact (Kd.C_below HR479_4.out HB.out) | (with_reducible refine Kd.C_alloc ?_ _) | (with_reducible refine Kd.C_drewN ?_ _) | (with_reducible refine Kd.C_drew ?_)))
                          (case side2 => exact HC479_4.out)
                          rintro e w26 ⟨v481, rfl, ho0, hb⟩
                          refine ⟨_, rfl, ?_⟩
                          have n0_ := Aside0.mk (Kd.R_elder' (by (with_reducible repeat (first | apply Kd.R_alloc | apply Kd.R_drewN | apply Kd.R_drew)); exact HO473.out) (Kd.R_base ho0) hb)
                          have n1_ := Aside0.mk (Kd.R_elder' (by (with_reducible repeat (first | apply Kd.R_alloc | apply Kd.R_drewN | apply Kd.R_drew)); exact HO478.out) (Kd.R_base ho0) hb)
                          have n2_ := Aside0.mk (Kd.R_lower (Kd.R_new' (Kd.R_new' ho0 (Kd.R_lt (by (with_reducible repeat (first | apply Kd.R_alloc | apply Kd.R_drewN | apply Kd.R_drew)); exact HO473.out))) (Kd.R_lt (by (with_reducible repeat (first | apply Kd.R_alloc | apply Kd.R_drewN | apply Kd.R_drew)); exact HO478.out))) (below_size (by repeat (first | (with_reducible first | exact HB.out | apply below_alloc | apply pw_below_drewN | apply below_drew1) | exact HB.out))))
                          have n3_ := Aside0.mk (below_step (by repeat (first | (with_reducible first | exact HB.out | apply below_alloc | apply pw_below_drewN | apply below_drew1) | exact HB.out)) hb)
                          clear HO473
                          clear HO478
                          clear HB
                          have HO473 := n0_
                          have HO478 := n1_
                          have HO482 := n2_
                          have HB := n3_
                          clear n0_ n1_ n2_ n3_
                          (try clear hb)
                          (try clear hb2)
                          (try clear hk)
                          (try clear hi)
                          (try clear ho0)
                          obtain ⟨Ao28, co28, eo28⟩ := Kd.R_slice HO482.out
                          (first | subst eo28 | (injection eo28 with f1_ f2_ f3_; have f4_ := f1_.symm; have f5_ := f3_.symm; clear f1_ f2_ f3_; subst f4_; subst f5_))
                          refine hK.out _ _ ⟨((HB.out.cell (World.block_lt_of_cell? w _ hw479_0)).trans hw479_0), ((HB.out.cell (World.block_lt_of_cell? w _ hw479_1)).trans hw479_1), ((HB.out.cell (World.block_lt_of_cell? w _ hw479_2)).trans hw479_2), ((HB.out.cell (World.block_lt_of_cell? w _ hw479_3)).trans hw479_3), ((HB.out.cell (World.block_lt_of_cell? w _ hw479_4)).trans hw479_4)⟩ (fun hHeld => ?_)
                          clear hK K
                          refine norm_ (a' := ?_) ?_ ?_
                          rotate_left
                          · show Act.put _ (some 55) _ = _
                            simp only [Act.put, List.setIfInBounds_toArray, List.set_cons_zero, List.set_cons_succ, i64_w, i32_w]
                            rfl
                          refine one_ (i := 11) (N := some 56) #[true, true, true, true, true, true, true, true, true, true, true, true, false] rfl rfl (one_of HT_.out (by kernel_rfl)) (by decide) (fun K hK => ?_)
                          refine Kd.R_append_rows_step Kd.string (w0 := w) w.heap.size (by rfl) (.tmp 50) (.tmp 55) 27 9 (.string ⟨#[]⟩) 16 rfl Try.underlying27 info9 rfl (by decide) (by omega) v477 y476 t480 _ _ _ (fun k_ => some k_ ≠ (.slice Ao22 t471.length co22 : Value).ownBlock ∧ some k_ ≠ (.slice Ao28 t480.length co28 : Value).ownBlock) (fun _ => False) rfl rfl ?aO ?aR (fun _ _ h => h) (fun _ h => h.elim) ?aF ?aB ?aS ?aL ?_
                          (case aR => repeat (first | exact (Kd.R_reads' HO482.out).2.2 | (with_reducible refine Kd.C_alloc ?_ _) | (with_reducible refine Kd.C_drewN ?_ _) | (with_reducible refine Kd.C_drew ?_)))
                          (case aB => exact (by repeat (first | (with_reducible first | exact HB.out | apply below_alloc | apply pw_below_drewN | apply below_drew1) | exact HB.out)))
                          (case aF => exact (fun k_ hk => ⟨Kd.fresh' (Kd.R_lt (by (with_reducible repeat (first | apply Kd.R_alloc | apply Kd.R_drewN | apply Kd.R_drew)); exact HO473.out)) k_ hk, Kd.fresh' (Kd.R_lt (by (with_reducible repeat (first | apply Kd.R_alloc | apply Kd.R_drewN | apply Kd.R_drew)); exact HO482.out)) k_ hk⟩))
                          (case aO => exact (by (with_reducible repeat (first | apply Kd.R_alloc | apply Kd.R_drewN | apply Kd.R_drew)); exact HO478.out))
                          (case aS => exact (below_size (by repeat (first | (with_reducible first | exact HB.out | apply below_alloc | apply pw_below_drewN | apply below_drew1) | exact HB.out))))
                          (case aL => have := LMc19.out; omega)
                          intro v484 w27 ho hb hg hat
                          rw [← Ny483.out] at ho
                          have n0_ := Aside0.mk (Kd.R_after (ok := (fun k_ => some k_ ≠ (.slice Ao28 t480.length co28 : Value).ownBlock)) (by (with_reducible repeat (first | apply Kd.R_alloc | apply Kd.R_drewN | apply Kd.R_drew)); exact Kd.R_mono HO473.out (fun _ hk => ⟨hk.2, hk.1.2⟩)) hg hat)
                          have n1_ := Aside0.mk (Kd.R_after (ok := (fun k_ => some k_ ≠ (.slice Ao22 t471.length co22 : Value).ownBlock)) (by (with_reducible repeat (first | apply Kd.R_alloc | apply Kd.R_drewN | apply Kd.R_drew)); exact Kd.R_mono HO482.out (fun _ hk => ⟨hk.1.2, hk.2⟩)) hg hat)
                          have n2_ := Aside0.mk (hb)
                          have n3_ := Aside0.mk (ho)
                          clear HO473
                          clear HO482
                          clear HB
                          clear HO478
                          have HO473 := n0_
                          have HO482 := n1_
                          have HB := n2_
                          have HO485 := n3_
                          clear n0_ n1_ n2_ n3_
                          clear ho hb hg hat
                          refine hK.out _ _ ⟨((HB.out.cell (World.block_lt_of_cell? w _ hw479_0)).trans hw479_0), ((HB.out.cell (World.block_lt_of_cell? w _ hw479_1)).trans hw479_1), ((HB.out.cell (World.block_lt_of_cell? w _ hw479_2)).trans hw479_2), ((HB.out.cell (World.block_lt_of_cell? w _ hw479_3)).trans hw479_3), ((HB.out.cell (World.block_lt_of_cell? w _ hw479_4)).trans hw479_4)⟩ (fun hHeld => ?_)
                          clear hK K
                          refine norm_ (a' := ?_) ?_ ?_
                          rotate_left
                          · show Act.put _ (some 56) _ = _
                            simp only [Act.put, List.setIfInBounds_toArray, List.set_cons_zero, List.set_cons_succ, i64_w, i32_w]
                            rfl
                          refine pure_ (i := 12) (N := some 7) (v := ?_) (a' := ?_) #[true, true, true, true, true, true, true, true, true, true, true, true, true] rfl rfl (any_of HT_.out (by kernel_rfl)) (fun _ _ _ h => h) (Or.inl ⟨by rfl, ?_⟩) ?_ ?_
                          rotate_left
                          · intro w'
                            go_simp
                            with_reducible rfl
                          rotate_left
                          · simp only [Act.put, List.setIfInBounds_toArray, List.set_cons_zero, List.set_cons_succ, i64_w, i32_w]
                            rfl
                          refine done_ (done_of HT_.out (by kernel_rfl)) ?_
                          try go_wp2
                          go_roundg k1
                          case measure => have := HK1.out; omega
                          case rel => exact ⟨(y483), (wrap64 (t468 + (t471.length : Int))), (wrap64 (x9_1 + 1)), (by first | rfl | (simp; done) | (simp [*]; done)), (by first | rfl | (simp; done) | (simp [*]; done)), H', ⟨by have := HK1.out; omega⟩, ⟨by (with_reducible repeat (first | apply Kd.R_alloc | apply Kd.R_drewN | apply Kd.R_drew)); exact Kd.R_mono HO485.out (fun _ hk => trivial)⟩, ⟨by repeat (first | (with_reducible first | exact HB.out | apply below_alloc | apply pw_below_drewN | apply below_drew1) | exact HB.out)⟩⟩
                        · rw [if_neg c19] at H
                          exact absurd H (by simp)
                      · rw [if_neg c17] at H
                        exact absurd H (by simp)
                    · rw [if_neg c16] at H
                      exact absurd H (by simp)
                  · rw [if_neg c15] at H
                    exact absurd H (by simp)
                · rw [if_neg c14] at H
                  exact absurd H (by simp)
              · replace c13 := Bool.eq_false_iff.mpr c13
                subst c13
                have H1 : (some (([] : List ByteArray), 190)) = some (r1, r2) := by rw [if_neg (show ¬ (false = true) by decide)] at H; exact H
                clear H
                have H := H1
                clear H1
                simp only [Option.some.injEq, Prod.mk.injEq] at H
                obtain ⟨rfl, rfl⟩ := H
                have p467 : 0 ≤ (x9_1 : Int) := of_decide_eq_true (by first | (with_reducible assumption) | assumption)
                have q467 : x9_1 < (l0.length : Int) := of_decide_eq_true (by first | (with_reducible assumption) | assumption)
                obtain ⟨ad467, A467_4, c467_4, e467, hx467_0, hx467_1, hx467_2, hx467_3, hx467_4, hl467_4, hi467_4⟩ := at_T24 HR0.out x9_1 p467 q467
                cases e467
                replace hx467_0 := (HB.out.cell (World.block_lt_of_cell? w _ hx467_0)).trans hx467_0
                replace hx467_1 := (HB.out.cell (World.block_lt_of_cell? w _ hx467_1)).trans hx467_1
                replace hx467_2 := (HB.out.cell (World.block_lt_of_cell? w _ hx467_2)).trans hx467_2
                replace hx467_3 := (HB.out.cell (World.block_lt_of_cell? w _ hx467_3)).trans hx467_3
                replace hx467_4 := (HB.out.cell (World.block_lt_of_cell? w _ hx467_4)).trans hx467_4
                have HR467_4 := Aside0.mk hi467_4
                have HC467_4 := Aside0.mk hl467_4
                clear hi467_4 hl467_4
                replace p467 := eq_true p467
                replace q467 := eq_true q467
                go_wp2_with (first | ((with_reducible refine gate_callee (f := 41) rfl ?_); refine goesL_ (some 32) rfl rfl Try.func41 (by kernel_rfl) rfl #[.agg #[.int .i64 ((rd_T24 l0 x9_1).f0), .int .i64 ((rd_T24 l0 x9_1).f1), .int .i64 ((rd_T24 l0 x9_1).f2), .int .i64 ((rd_T24 l0 x9_1).f3), .slice A467_4 ((rd_T24 l0 x9_1).f4).length c467_4]] rfl (by (try simp only [List.map_toArray, List.map_cons, List.map_nil]); first | done | rfl | (simp only [List.length_drop, List.length_take]; rfl)) ?_; (with_reducible refine (redlineref11_At.calls ((rd_T24 l0 x9_1).f0) ((rd_T24 l0 x9_1).f1) ((rd_T24 l0 x9_1).f2) ((rd_T24 l0 x9_1).f3) _ _ ((rd_T24 l0 x9_1).f4) t468 t469 _ ?side1 ?side2 A10.out).mono ?_); (case side1 => repeat (first | exact (Kd.C_below HR467_4.out HB.out) | (with_reducible refine Kd.C_alloc ?_ _) | (with_reducible refine Kd.C_drewN ?_ _) | (with_reducible refine Kd.C_drew ?_))); (case side2 => exact HC467_4.out); rintro e w29 ⟨rfl, hb⟩; refine ⟨_, rfl, ?_⟩; have n0_ := Aside0.mk (Kd.R_below (by (with_reducible repeat (first | apply Kd.R_alloc | apply Kd.R_drewN | apply Kd.R_drew)); exact HO_7.out) hb); have n1_ := Aside0.mk (below_step (by repeat (first | (with_reducible first | exact HB.out | apply below_alloc | apply pw_below_drewN | apply below_drew1) | exact HB.out)) hb); clear HO_7; clear HB; have HO_7 := n0_; have HB := n1_; clear n0_ n1_; (try clear hb); (try clear hb2); (try clear hk); (try clear hi); have p470 : 0 ≤ (x9_1 : Int) := of_decide_eq_true (by first | (with_reducible assumption) | assumption); have q470 : x9_1 < (l0.length : Int) := of_decide_eq_true (by first | (with_reducible assumption) | assumption); obtain ⟨ad470, A470_4, c470_4, e470, hx470_0, hx470_1, hx470_2, hx470_3, hx470_4, hl470_4, hi470_4⟩ := at_T24 HR0.out x9_1 p470 q470; obtain rfl : ad467 = ad470 := (by injection e470); replace hx470_0 := (HB.out.cell (World.block_lt_of_cell? w _ hx470_0)).trans hx470_0; replace hx470_1 := (HB.out.cell (World.block_lt_of_cell? w _ hx470_1)).trans hx470_1; replace hx470_2 := (HB.out.cell (World.block_lt_of_cell? w _ hx470_2)).trans hx470_2; replace hx470_3 := (HB.out.cell (World.block_lt_of_cell? w _ hx470_3)).trans hx470_3; replace hx470_4 := (HB.out.cell (World.block_lt_of_cell? w _ hx470_4)).trans hx470_4; have HR470_4 := Aside0.mk hi470_4; have HC470_4 := Aside0.mk hl470_4; clear hi470_4 hl470_4; replace p470 := eq_true p470; replace q470 := eq_true q470) | ((with_reducible refine gate_callee (f := 17) rfl ?_); refine goesL_ (some 39) rfl rfl Try.func17 (by kernel_rfl) rfl #[.agg #[.int .i64 ((rd_T24 l0 x9_1).f0), .int .i64 ((rd_T24 l0 x9_1).f1), .int .i64 ((rd_T24 l0 x9_1).f2), .int .i64 ((rd_T24 l0 x9_1).f3), .slice A470_4 ((rd_T24 l0 x9_1).f4).length c470_4]] rfl (by (try simp only [List.map_toArray, List.map_cons, List.map_nil]); first | done | rfl | (simp only [List.length_drop, List.length_take]; rfl)) ?_; (with_reducible refine (redlineref11_Old.calls k1 ((rd_T24 l0 x9_1).f0) ((rd_T24 l0 x9_1).f1) ((rd_T24 l0 x9_1).f2) ((rd_T24 l0 x9_1).f3) _ _ ((rd_T24 l0 x9_1).f4) t471 _ ?side1 ?side2 A11.out).mono ?_); (case side1 => repeat (first | exact (Kd.C_below HR470_4.out HB.out) | (with_reducible refine Kd.C_alloc ?_ _) | (with_reducible refine Kd.C_drewN ?_ _) | (with_reducible refine Kd.C_drew ?_))); (case side2 => exact HC470_4.out); rintro e w30 ⟨v472, rfl, ho0, hb⟩; refine ⟨_, rfl, ?_⟩; have n0_ := Aside0.mk (Kd.R_elder' (by (with_reducible repeat (first | apply Kd.R_alloc | apply Kd.R_drewN | apply Kd.R_drew)); exact HO_7.out) (Kd.R_base ho0) hb); have n1_ := Aside0.mk (Kd.R_lower (Kd.R_new' ho0 (Kd.R_lt (by (with_reducible repeat (first | apply Kd.R_alloc | apply Kd.R_drewN | apply Kd.R_drew)); exact HO_7.out))) (below_size (by repeat (first | (with_reducible first | exact HB.out | apply below_alloc | apply pw_below_drewN | apply below_drew1) | exact HB.out)))); have n2_ := Aside0.mk (below_step (by repeat (first | (with_reducible first | exact HB.out | apply below_alloc | apply pw_below_drewN | apply below_drew1) | exact HB.out)) hb); clear HO_7; clear HB; have HO_7 := n0_; have HO473 := n1_; have HB := n2_; clear n0_ n1_ n2_; (try clear hb); (try clear hb2); (try clear hk); (try clear hi); (try clear ho0); obtain ⟨Ao31, co31, eo31⟩ := Kd.R_slice HO473.out; subst eo31) | ((with_reducible refine gate_callee (f := 72) rfl ?_); refine goesL_ (some 43) rfl rfl Try.func72 (by kernel_rfl) rfl #[.slice A1 l1.length c1, .int .i64 t468, .slice Ao31 t471.length co31] rfl (by (try simp only [List.map_toArray, List.map_cons, List.map_nil]); first | done | rfl | (simp only [List.length_drop, List.length_take]; rfl)) ?_; (with_reducible refine (redlineref19_stands.calls k1 _ _ l1 t468 _ _ t471 false _ ?side1 ?side2 ?side3 ?side4 A12.out).mono ?_); (case side1 => repeat (first | exact (Kd.C_below HR1.out HB.out) | (with_reducible refine Kd.C_alloc ?_ _) | (with_reducible refine Kd.C_drewN ?_ _) | (with_reducible refine Kd.C_drew ?_))); (case side2 => exact HC1.out); (case side3 => repeat (first | exact (Kd.R_reads' HO473.out).2.2 | (with_reducible refine Kd.C_alloc ?_ _) | (with_reducible refine Kd.C_drewN ?_ _) | (with_reducible refine Kd.C_drew ?_))); (case side4 => exact (Kd.R_reads' HO473.out).2.1); rintro e w' ⟨rfl, ⟨nd, rfl⟩⟩; refine ⟨_, rfl, ?_⟩))
                go_ret2
                exact ⟨_, by first | rfl | (simp [errW_none, errW_some] <;> rfl) | (simp [*, errW_none, errW_some] <;> rfl), by first | exact Kd.R_nil _ _ _ _ _ | exact Kd.N_nil _ _ _ _ _ | exact Kd.V_nil _ _ _ _ _ | exact Kd.Q_nil _ _ _ _ _ | exact Kd.S_nil _ _ _ _ _, by repeat (first | (with_reducible first | exact HB.out | apply below_alloc | apply pw_below_drewN | apply below_drew1) | exact HB.out)⟩
            · rw [if_neg c9] at H
              exact absurd H (by simp)
          · rw [if_neg c8] at H
            have c8b0 : decide (x9_1 < (l0.length : Int)) = false := decide_eq_false c8
            clear c8
            by_cases c32 : 0 ≤ x8_1
            · rw [if_pos c32] at H
              have c32b0 := eq_true c32
              have c32b1 : decide (0 ≤ x8_1) = true := decide_eq_true c32
              clear c32
              by_cases c33 : x8_1 ≤ (l1.length : Int)
              · rw [if_pos c33] at H
                have c33b0 := eq_true c33
                have c33b1 : decide (x8_1 ≤ (l1.length : Int)) = true := decide_eq_true c33
                clear c33
                by_cases c34 : x7_1.length + (l1.drop (x8_1 : Int).toNat).length < 8796093022208
                · rw [if_pos c34] at H
                  have LMc34 := Aside0.mk c34
                  clear c34
                  obtain ⟨y463, hy463⟩ : ∃ y_ : List ByteArray, y_ = (x7_1 ++ (l1.drop (x8_1 : Int).toNat)) := ⟨_, rfl⟩
                  replace H : ((redlineref02_Check.f k1 y463).bind fun t466 => (if t466 = 0 then (some (y463, 0)) else (some (([] : List ByteArray), 6)))) = some (r1, r2) := by first | (rw [hy463]; with_reducible exact H) | (have H2_ := (Option.bind_some _ _).symm.trans H; rw [hy463]; with_reducible exact H2_) | (have H2_ := (Option.bind_some _ _).symm.trans H; with_reducible exact H2_) | with_reducible exact H | (rw [hy463]; exact H) | exact H
                  have Ny463 := Aside0.mk hy463
                  clear hy463
                  replace H := Option.bind_eq_some_iff.mp H
                  obtain ⟨t466, A350, H⟩ := H
                  replace H : (if t466 = 0 then (some (y463, 0)) else (some (([] : List ByteArray), 6))) = some (r1, r2) := H
                  have A35 := Aside0.mk A350
                  clear A350
                  by_cases c36 : t466 = 0
                  · rw [if_pos c36] at H
                    have c36b0 : (t466 == 0) = true := beq_iff_eq.mpr c36
                    have c36b1 : (t466 != 0) = false := bne_eq_false_iff_eq.mpr c36
                    clear c36
                    simp only [Option.some.injEq, Prod.mk.injEq] at H
                    obtain ⟨rfl, rfl⟩ := H
                    obtain ⟨i037, hi037, _, hsz37, _⟩ := info_parts info9
                    obtain ⟨A37, hcut37, hA37, hC37⟩ := print_drop_of (P := Try.prog) Value.string (⟨#[]⟩ : ByteArray) 27 9 .i64 Try.underlying27 hi037 hsz37 A1 c1 l1 x8_1 (of_decide_eq_true (by first | (with_reducible assumption) | assumption)) (of_decide_eq_true (by first | (with_reducible assumption) | assumption)) HC1.out
                    have HR462 := Aside0.mk (Kd.C_of_reads (h1 := fun _ => rfl) (hA37 _ (Kd.reads_of_C HR1.out)))
                    have HC462 := Aside0.mk hC37
                    clear hA37 hC37 hi037 hsz37
                    go_wp2_with (first | ((with_reducible refine gate_builtin (b := .append) (xs := #[.tmp 61, .tmp 64]) rfl ?_); at_builtin; refine Kd.R_append_rows Kd.string (w0 := w) w.heap.size rfl (.tmp 61) (.tmp 64) 27 9 (.string ⟨#[]⟩) 16 rfl Try.underlying27 info9 rfl (by decide) (by omega) u7 x7_1 (l1.drop (x8_1 : Int).toNat) _ _ _ (fun _ => True) (fun _ => False) rfl rfl ?aO ?aR (fun _ _ h => h) (fun _ h => h.elim) ?aF ?aB ?aS ?aL ?_; (case aR => first | (rw [← show (l1.drop (x8_1 : Int).toNat).length = (l1.length - x8_1.toNat) from List.length_drop]; repeat (first | exact (Kd.C_below HR462.out HB.out) | (with_reducible refine Kd.C_alloc ?_ _) | (with_reducible refine Kd.C_drewN ?_ _) | (with_reducible refine Kd.C_drew ?_))) | (repeat (first | exact (Kd.C_below HR462.out HB.out) | (with_reducible refine Kd.C_alloc ?_ _) | (with_reducible refine Kd.C_drewN ?_ _) | (with_reducible refine Kd.C_drew ?_)))); (case aB => exact (by repeat (first | (with_reducible first | exact HB.out | apply below_alloc | apply pw_below_drewN | apply below_drew1) | exact HB.out))); (case aF => exact (fun _ _ => trivial)); (case aO => exact (by (with_reducible repeat (first | apply Kd.R_alloc | apply Kd.R_drewN | apply Kd.R_drew)); exact HO_7.out)); (case aS => exact (below_size (by repeat (first | (with_reducible first | exact HB.out | apply below_alloc | apply pw_below_drewN | apply below_drew1) | exact HB.out)))); (case aL => have := LMc34.out; have hlx_ := (show (l1.drop (x8_1 : Int).toNat).length = (l1.length - x8_1.toNat) from List.length_drop); omega); intro v464 w38 ho hb hg hat; rw [← Ny463.out] at ho; have n0_ := Aside0.mk (hb); have n1_ := Aside0.mk (ho); clear HB; clear HO_7; have HB := n0_; have HO465 := n1_; clear n0_ n1_; clear ho hb hg hat; obtain ⟨Ao39, co39, eo39⟩ := Kd.R_slice HO465.out; subst eo39) | ((with_reducible refine gate_callee (f := 71) rfl ?_); refine goesL_ (some 67) rfl rfl Try.func71 (by kernel_rfl) rfl #[.slice Ao39 y463.length co39] rfl (by (try simp only [List.map_toArray, List.map_cons, List.map_nil]); first | done | rfl | (simp only [List.length_drop, List.length_take]; rfl)) ?_; (with_reducible refine (redlineref02_Check.calls k1 _ _ y463 t466 _ ?side1 ?side2 A35.out).mono ?_); (case side1 => repeat (first | exact (Kd.R_reads' HO465.out).2.2 | (with_reducible refine Kd.C_alloc ?_ _) | (with_reducible refine Kd.C_drewN ?_ _) | (with_reducible refine Kd.C_drew ?_))); (case side2 => exact (Kd.R_reads' HO465.out).2.1); rintro e w' ⟨rfl, ⟨nd, rfl⟩⟩; refine ⟨_, rfl, ?_⟩))
                    go_ret2
                    exact ⟨_, by first | rfl | (simp [errW_none, errW_some] <;> rfl) | (simp [*, errW_none, errW_some] <;> rfl), by (with_reducible repeat (first | apply Kd.R_alloc | apply Kd.R_drewN | apply Kd.R_drew)); exact HO465.out, by repeat (first | (with_reducible first | exact HB.out | apply below_alloc | apply pw_below_drewN | apply below_drew1) | exact HB.out)⟩
                  · rw [if_neg c36] at H
                    have c36b0 : (t466 == 0) = false := beq_eq_false_iff_ne.mpr c36
                    have c36b1 : (t466 != 0) = true := bne_iff_ne.mpr c36
                    simp only [Option.some.injEq, Prod.mk.injEq] at H
                    obtain ⟨rfl, rfl⟩ := H
                    obtain ⟨i040, hi040, _, hsz40, _⟩ := info_parts info9
                    obtain ⟨A40, hcut40, hA40, hC40⟩ := print_drop_of (P := Try.prog) Value.string (⟨#[]⟩ : ByteArray) 27 9 .i64 Try.underlying27 hi040 hsz40 A1 c1 l1 x8_1 (of_decide_eq_true (by first | (with_reducible assumption) | assumption)) (of_decide_eq_true (by first | (with_reducible assumption) | assumption)) HC1.out
                    have HR462 := Aside0.mk (Kd.C_of_reads (h1 := fun _ => rfl) (hA40 _ (Kd.reads_of_C HR1.out)))
                    have HC462 := Aside0.mk hC40
                    clear hA40 hC40 hi040 hsz40
                    go_wp2_with (first | ((with_reducible refine gate_builtin (b := .append) (xs := #[.tmp 61, .tmp 64]) rfl ?_); at_builtin; refine Kd.R_append_rows Kd.string (w0 := w) w.heap.size rfl (.tmp 61) (.tmp 64) 27 9 (.string ⟨#[]⟩) 16 rfl Try.underlying27 info9 rfl (by decide) (by omega) u7 x7_1 (l1.drop (x8_1 : Int).toNat) _ _ _ (fun _ => True) (fun _ => False) rfl rfl ?aO ?aR (fun _ _ h => h) (fun _ h => h.elim) ?aF ?aB ?aS ?aL ?_; (case aR => first | (rw [← show (l1.drop (x8_1 : Int).toNat).length = (l1.length - x8_1.toNat) from List.length_drop]; repeat (first | exact (Kd.C_below HR462.out HB.out) | (with_reducible refine Kd.C_alloc ?_ _) | (with_reducible refine Kd.C_drewN ?_ _) | (with_reducible refine Kd.C_drew ?_))) | (repeat (first | exact (Kd.C_below HR462.out HB.out) | (with_reducible refine Kd.C_alloc ?_ _) | (with_reducible refine Kd.C_drewN ?_ _) | (with_reducible refine Kd.C_drew ?_)))); (case aB => exact (by repeat (first | (with_reducible first | exact HB.out | apply below_alloc | apply pw_below_drewN | apply below_drew1) | exact HB.out))); (case aF => exact (fun _ _ => trivial)); (case aO => exact (by (with_reducible repeat (first | apply Kd.R_alloc | apply Kd.R_drewN | apply Kd.R_drew)); exact HO_7.out)); (case aS => exact (below_size (by repeat (first | (with_reducible first | exact HB.out | apply below_alloc | apply pw_below_drewN | apply below_drew1) | exact HB.out)))); (case aL => have := LMc34.out; have hlx_ := (show (l1.drop (x8_1 : Int).toNat).length = (l1.length - x8_1.toNat) from List.length_drop); omega); intro v464 w41 ho hb hg hat; rw [← Ny463.out] at ho; have n0_ := Aside0.mk (hb); have n1_ := Aside0.mk (ho); clear HB; clear HO_7; have HB := n0_; have HO465 := n1_; clear n0_ n1_; clear ho hb hg hat; obtain ⟨Ao42, co42, eo42⟩ := Kd.R_slice HO465.out; subst eo42) | ((with_reducible refine gate_callee (f := 71) rfl ?_); refine goesL_ (some 67) rfl rfl Try.func71 (by kernel_rfl) rfl #[.slice Ao42 y463.length co42] rfl (by (try simp only [List.map_toArray, List.map_cons, List.map_nil]); first | done | rfl | (simp only [List.length_drop, List.length_take]; rfl)) ?_; (with_reducible refine (redlineref02_Check.calls k1 _ _ y463 t466 _ ?side1 ?side2 A35.out).mono ?_); (case side1 => repeat (first | exact (Kd.R_reads' HO465.out).2.2 | (with_reducible refine Kd.C_alloc ?_ _) | (with_reducible refine Kd.C_drewN ?_ _) | (with_reducible refine Kd.C_drew ?_))); (case side2 => exact (Kd.R_reads' HO465.out).2.1); rintro e w' ⟨rfl, ⟨nd, rfl⟩⟩; refine ⟨_, rfl, ?_⟩))
                    go_ret2
                    exact ⟨_, by first | rfl | (simp [errW_none, errW_some] <;> rfl) | (simp [*, errW_none, errW_some] <;> rfl), by first | exact Kd.R_nil _ _ _ _ _ | exact Kd.N_nil _ _ _ _ _ | exact Kd.V_nil _ _ _ _ _ | exact Kd.Q_nil _ _ _ _ _ | exact Kd.S_nil _ _ _ _ _, by repeat (first | (with_reducible first | exact HB.out | apply below_alloc | apply pw_below_drewN | apply below_drew1) | exact HB.out)⟩
                · rw [if_neg c34] at H
                  exact absurd H (by simp)
              · rw [if_neg c33] at H
                exact absurd H (by simp)
            · rw [if_neg c32] at H
              exact absurd H (by simp)
    · rw [if_neg c6] at H
      have c6b0 : (t461 == 0) = false := beq_eq_false_iff_ne.mpr c6
      have c6b1 : (t461 != 0) = true := bne_iff_ne.mpr c6
      simp only [Option.some.injEq, Prod.mk.injEq] at H
      obtain ⟨rfl, rfl⟩ := H
      go_enter Try.func33, Try.ntmps33
      go_wp2_with (first | ((with_reducible refine gate_callee (f := 71) rfl ?_); refine goesL_ (some 14) rfl rfl Try.func71 (by kernel_rfl) rfl #[.slice A1 l1.length c1] rfl (by (try simp only [List.map_toArray, List.map_cons, List.map_nil]); first | done | rfl | (simp only [List.length_drop, List.length_take]; rfl)) ?_; (with_reducible refine (redlineref02_Check.calls k _ _ l1 t460 _ ?side1 ?side2 A3.out).mono ?_); (case side1 => repeat (first | exact HR1.out | (with_reducible refine Kd.C_alloc ?_ _) | (with_reducible refine Kd.C_drewN ?_ _) | (with_reducible refine Kd.C_drew ?_))); (case side2 => exact HC1.out); rintro e w' ⟨rfl, ⟨nd, rfl⟩⟩; refine ⟨_, rfl, ?_⟩) | ((with_reducible refine gate_callee (f := 27) rfl ?_); refine goesL_ (some 17) rfl rfl Try.func27 (by kernel_rfl) rfl #[.slice A0 l0.length c0] rfl (by (try simp only [List.map_toArray, List.map_cons, List.map_nil]); first | done | rfl | (simp only [List.length_drop, List.length_take]; rfl)) ?_; (with_reducible refine (redlineref11_Order.calls k _ _ l0 t461 _ ?side1 ?side2 A5.out).mono ?_); (case side1 => repeat (first | exact HR0.out | (with_reducible refine Kd.C_alloc ?_ _) | (with_reducible refine Kd.C_drewN ?_ _) | (with_reducible refine Kd.C_drew ?_))); (case side2 => exact HC0.out); rintro e w43 ⟨rfl, hb⟩; refine ⟨_, rfl, ?_⟩; have n0_ := Aside0.mk (below_step (by repeat (first | (with_reducible first | exact HB.out | apply below_alloc | apply pw_below_drewN | apply below_drew1) | exact HB.out)) hb); clear HB; have HB := n0_; clear n0_; (try clear hb); (try clear hb2); (try clear hk); (try clear hi)))
      go_ret2
      exact ⟨_, by first | rfl | (simp [errW_none, errW_some] <;> rfl) | (simp [*, errW_none, errW_some] <;> rfl), by first | exact Kd.R_nil _ _ _ _ _ | exact Kd.N_nil _ _ _ _ _ | exact Kd.V_nil _ _ _ _ _ | exact Kd.Q_nil _ _ _ _ _ | exact Kd.S_nil _ _ _ _ _, by repeat (first | (with_reducible first | exact HB.out | apply below_alloc | apply pw_below_drewN | apply below_drew1) | exact HB.out)⟩
  · rw [if_neg c4] at H
    have c4b0 : (t460 == 0) = false := beq_eq_false_iff_ne.mpr c4
    have c4b1 : (t460 != 0) = true := bne_iff_ne.mpr c4
    simp only [Option.some.injEq, Prod.mk.injEq] at H
    obtain ⟨rfl, rfl⟩ := H
    go_enter Try.func33, Try.ntmps33
    go_wp2_with (first | ((with_reducible refine gate_callee (f := 71) rfl ?_); refine goesL_ (some 14) rfl rfl Try.func71 (by kernel_rfl) rfl #[.slice A1 l1.length c1] rfl (by (try simp only [List.map_toArray, List.map_cons, List.map_nil]); first | done | rfl | (simp only [List.length_drop, List.length_take]; rfl)) ?_; (with_reducible refine (redlineref02_Check.calls k _ _ l1 t460 _ ?side1 ?side2 A3.out).mono ?_); (case side1 => repeat (first | exact HR1.out | (with_reducible refine Kd.C_alloc ?_ _) | (with_reducible refine Kd.C_drewN ?_ _) | (with_reducible refine Kd.C_drew ?_))); (case side2 => exact HC1.out); rintro e w' ⟨rfl, ⟨nd, rfl⟩⟩; refine ⟨_, rfl, ?_⟩))
    go_ret2
    exact ⟨_, by first | rfl | (simp [errW_none, errW_some] <;> rfl) | (simp [*, errW_none, errW_some] <;> rfl), by first | exact Kd.R_nil _ _ _ _ _ | exact Kd.N_nil _ _ _ _ _ | exact Kd.V_nil _ _ _ _ _ | exact Kd.Q_nil _ _ _ _ _ | exact Kd.S_nil _ _ _ _ _, by repeat (first | (with_reducible first | exact HB.out | apply below_alloc | apply pw_below_drewN | apply below_drew1) | exact HB.out)⟩
end Go.Proofs.Ytnllemlmgbjjnaa.PA
namespace Go.Proofs.Ytnllemlmgbjjnaa.PA
open Go.RowKit Go.Proofs.YtnllemlmgbjjnaaW.PrintWords Go.Proofs.YtnllemlmgbjjnaaW.PrintLast Go.Proofs.YtnllemlmgbjjnaaW.PrintMore
attribute [local go_sem] max2_int min2_int max_two min_two max_three min_three max_four min_four   -- for this text's walks alone
set_option linter.unusedVariables false
set_option linter.unusedSimpArgs false
def redlineref19_Applied.l0 : Nat → List (S24) → List ByteArray → Int → List (S24) → Int → Option (Bool)
  | 0, _, _, _, _, _ => none
  | k + 1, x0, x1, x6, x7, x8 => if x8 < (x0.length : Int) then (if 0 ≤ x8 then ((redlineref11_Invert.f k ((rd_T24 x0 x8).f0) ((rd_T24 x0 x8).f1) ((rd_T24 x0 x8).f2) ((rd_T24 x0 x8).f3) ((rd_T24 x0 x8).f4)).bind fun bt491 => (if x7.length < 2513169434916 then (redlineref19_Applied.l0 k x0 x1 x6 (x7 ++ [(⟨bt491.1, bt491.2.1, bt491.2.2.1, bt491.2.2.2.1, bt491.2.2.2.2⟩ : S24)]) (wrap64 (x8 + 1))) else (none))) else (none)) else ((redlineref19_Strict.f k x7 x1).bind fun bt501 => (if (x0.length : Int) > 0 then (if x6 = 0 then (some false) else (some (bt501.2 == 0))) else (some false)))
def redlineref19_Applied.f (k : Nat) (l0 : List (S24)) (l1 : List ByteArray) : Option (Bool) := (redlineref19_Strict.f k l0 l1).bind fun bt486 => (redlineref19_Applied.l0 k l0 l1 bt486.2 ([] : List (S24)) 0)
set_option maxHeartbeats 8000000 in
set_option maxRecDepth 100000 in
theorem redlineref19_Applied.calls (k : Nat) (A0 : Option Addr) (c0 : Nat) (l0 : List (S24)) (A1 : Option Addr) (c1 : Nat) (l1 : List ByteArray) (r : Bool) (w : World) (hr0 : Kd.C k24 w A0 l0.length l0) (hc0 : l0.length ≤ c0) (hr1 : Kd.C Kd.string w A1 l1.length l1) (hc1 : l1.length ≤ c1) (h : redlineref19_Applied.f k l0 l1 = some r) :
    Calls Try.prog 35 #[.slice A0 l0.length c0, .slice A1 l1.length c1] w fun e w' => e = .returned (.bool r) ∧ Below w.heap.size w w' := by
  have hu24 := Try.underlying24
  have HR0 := Aside0.mk hr0
  have HC0 := Aside0.mk hc0
  clear hr0 hc0
  have HR1 := Aside0.mk hr1
  have HC1 := Aside0.mk hc1
  clear hr1 hc1
  have HB := Aside0.mk (Below.refl w.heap.size w)
  have H : ((redlineref19_Strict.f k l0 l1).bind fun bt486 => (redlineref19_Applied.l0 k l0 l1 bt486.2 ([] : List (S24)) 0)) = some r := h
  clear h
  replace H := Option.bind_eq_some_iff.mp H
  obtain ⟨⟨t486, t487⟩, A30, H⟩ := H
  replace H : (redlineref19_Applied.l0 k l0 l1 t487 ([] : List (S24)) 0) = some r := H
  have A3 := Aside0.mk A30
  clear A30
  have H' := Aside0.mk H
  clear H
  go_enter Try.func35, Try.ntmps35
  go_wp2_with (first | ((with_reducible refine gate_callee (f := 33) rfl ?_); refine goesL_ (some 14) rfl rfl Try.func33 (by kernel_rfl) rfl #[.slice A0 l0.length c0, .slice A1 l1.length c1] rfl (by (try simp only [List.map_toArray, List.map_cons, List.map_nil]); first | done | rfl | (simp only [List.length_drop, List.length_take]; rfl)) ?_; (with_reducible refine (redlineref19_Strict.calls k _ _ l0 _ _ l1 t486 t487 _ ?side1 ?side2 ?side3 ?side4 A3.out).mono ?_); (case side1 => repeat (first | exact HR0.out | (with_reducible refine Kd.C_alloc ?_ _) | (with_reducible refine Kd.C_drewN ?_ _) | (with_reducible refine Kd.C_drew ?_))); (case side2 => exact HC0.out); (case side3 => repeat (first | exact HR1.out | (with_reducible refine Kd.C_alloc ?_ _) | (with_reducible refine Kd.C_drewN ?_ _) | (with_reducible refine Kd.C_drew ?_))); (case side4 => exact HC1.out); rintro e w4 ⟨v488, rfl, ho0, hb⟩; refine ⟨_, rfl, ?_⟩; have n0_ := Aside0.mk (Kd.R_lower ho0 (below_size (by repeat (first | (with_reducible first | exact HB.out | apply below_alloc | apply pw_below_drewN | apply below_drew1) | exact HB.out)))); have n1_ := Aside0.mk (below_step (by repeat (first | (with_reducible first | exact HB.out | apply below_alloc | apply pw_below_drewN | apply below_drew1) | exact HB.out)) hb); clear HB; have HO489 := n0_; have HB := n1_; clear n0_ n1_; (try clear hb); (try clear hb2); (try clear hk); (try clear hi); (try clear ho0)))
  go_loopg [7, 8] k (fun kq v7 v8 w' => ∃ (x7_1 : List (S24)) (x8_1 : Int), v8 = .int .i64 x8_1 ∧ Aside0 (redlineref19_Applied.l0 kq l0 l1 t487 x7_1 x8_1 = some r) ∧ Aside0 (kq ≤ k) ∧ Aside0 (Kd.S k24 24 w' w.heap.size (fun _ => True) v7 x7_1) ∧ Aside0 (Below w.heap.size w w'))
  case atStart => exact ⟨(([] : List (S24))), (0), (by first | rfl | (simp; done) | (simp [*]; done)), H', ⟨Nat.le_refl _⟩, ⟨by first | exact Kd.S_nil _ _ _ _ _ | exact Kd.N_nil _ _ _ _ _ | exact Kd.V_nil _ _ _ _ _ | exact Kd.Q_nil _ _ _ _ _ | exact Kd.R_nil _ _ _ _ _⟩, ⟨by repeat (first | (with_reducible first | exact HB.out | apply below_alloc | apply pw_below_drewN | apply below_drew1) | exact HB.out)⟩⟩
  case round =>
    clear H'
    try clear c1
    try clear p2
    try clear c3
    obtain ⟨x7_1, x8_1, rfl, HA, HK1, HO_7, HB⟩ := hrel
    cases gk with
    | zero => exact absurd HA.out (by simp [redlineref19_Applied.l0])
    | succ k1 =>
      have H := HA.out
      clear HA
      simp only [redlineref19_Applied.l0] at H
      by_cases c5 : x8_1 < (l0.length : Int)
      · rw [if_pos c5] at H
        have c5b0 : decide (x8_1 < (l0.length : Int)) = true := decide_eq_true c5
        clear c5
        by_cases c6 : 0 ≤ x8_1
        · rw [if_pos c6] at H
          have c6b0 : decide (0 ≤ x8_1) = true := decide_eq_true c6
          clear c6
          replace H := Option.bind_eq_some_iff.mp H
          obtain ⟨⟨t491, t492, t493, t494, t495⟩, A70, H⟩ := H
          replace H : (if x7_1.length < 2513169434916 then (redlineref19_Applied.l0 k1 l0 l1 t487 (x7_1 ++ [(⟨t491, t492, t493, t494, t495⟩ : S24)]) (wrap64 (x8_1 + 1))) else (none)) = some r := H
          have A7 := Aside0.mk A70
          clear A70
          by_cases c8 : x7_1.length < 2513169434916
          · rw [if_pos c8] at H
            have LMc8 := Aside0.mk c8
            clear c8
            obtain ⟨y498, hy498⟩ : ∃ y_ : List (S24), y_ = (x7_1 ++ [(⟨t491, t492, t493, t494, t495⟩ : S24)]) := ⟨_, rfl⟩
            replace H : (redlineref19_Applied.l0 k1 l0 l1 t487 y498 (wrap64 (x8_1 + 1))) = some r := by first | (rw [hy498]; with_reducible exact H) | (have H2_ := (Option.bind_some _ _).symm.trans H; rw [hy498]; with_reducible exact H2_) | (have H2_ := (Option.bind_some _ _).symm.trans H; with_reducible exact H2_) | with_reducible exact H | (rw [hy498]; exact H) | exact H
            have Ny498 := Aside0.mk hy498
            clear hy498
            have H' := Aside0.mk H
            clear H
            have p490 : 0 ≤ (x8_1 : Int) := of_decide_eq_true (by first | (with_reducible assumption) | assumption)
            have q490 : x8_1 < (l0.length : Int) := of_decide_eq_true (by first | (with_reducible assumption) | assumption)
            obtain ⟨ad490, A490_4, c490_4, e490, hx490_0, hx490_1, hx490_2, hx490_3, hx490_4, hl490_4, hi490_4⟩ := at_T24 HR0.out x8_1 p490 q490
            cases e490
            replace hx490_0 := (HB.out.cell (World.block_lt_of_cell? w _ hx490_0)).trans hx490_0
            replace hx490_1 := (HB.out.cell (World.block_lt_of_cell? w _ hx490_1)).trans hx490_1
            replace hx490_2 := (HB.out.cell (World.block_lt_of_cell? w _ hx490_2)).trans hx490_2
            replace hx490_3 := (HB.out.cell (World.block_lt_of_cell? w _ hx490_3)).trans hx490_3
            replace hx490_4 := (HB.out.cell (World.block_lt_of_cell? w _ hx490_4)).trans hx490_4
            have HR490_4 := Aside0.mk hi490_4
            have HC490_4 := Aside0.mk hl490_4
            clear hi490_4 hl490_4
            replace p490 := eq_true p490
            replace q490 := eq_true q490
            go_wp2_with (first | ((with_reducible refine gate_callee (f := 21) rfl ?_); refine goesL_ (some 28) rfl rfl Try.func21 (by kernel_rfl) rfl #[.agg #[.int .i64 ((rd_T24 l0 x8_1).f0), .int .i64 ((rd_T24 l0 x8_1).f1), .int .i64 ((rd_T24 l0 x8_1).f2), .int .i64 ((rd_T24 l0 x8_1).f3), .slice A490_4 ((rd_T24 l0 x8_1).f4).length c490_4]] rfl (by (try simp only [List.map_toArray, List.map_cons, List.map_nil]); first | done | rfl | (simp only [List.length_drop, List.length_take]; rfl)) ?_; (with_reducible refine (redlineref11_Invert.calls k1 ((rd_T24 l0 x8_1).f0) ((rd_T24 l0 x8_1).f1) ((rd_T24 l0 x8_1).f2) ((rd_T24 l0 x8_1).f3) _ _ ((rd_T24 l0 x8_1).f4) t491 t492 t493 t494 t495 _ ?side1 ?side2 A7.out).mono ?_); (case side1 => repeat (first | exact (Kd.C_below HR490_4.out HB.out) | (with_reducible refine Kd.C_alloc ?_ _) | (with_reducible refine Kd.C_drewN ?_ _) | (with_reducible refine Kd.C_drew ?_))); (case side2 => exact HC490_4.out); rintro e w9 ⟨v496, rfl, ho0, hb⟩; refine ⟨_, rfl, ?_⟩; have n0_ := Aside0.mk (Kd.S_elder' (by (with_reducible repeat (first | apply Kd.S_alloc | apply Kd.S_drewN | apply Kd.S_drew)); exact HO_7.out) (Kd.R_base ho0) hb); have n1_ := Aside0.mk (Kd.R_lower ho0 (below_size (by repeat (first | (with_reducible first | exact HB.out | apply below_alloc | apply pw_below_drewN | apply below_drew1) | exact HB.out)))); have n2_ := Aside0.mk (below_step (by repeat (first | (with_reducible first | exact HB.out | apply below_alloc | apply pw_below_drewN | apply below_drew1) | exact HB.out)) hb); clear HO_7; clear HB; have HO_7 := n0_; have HO497 := n1_; have HB := n2_; clear n0_ n1_ n2_; (try clear hb); (try clear hb2); (try clear hk); (try clear hi); (try clear ho0); obtain ⟨Ao11, co11, eo11⟩ := Kd.R_slice HO497.out; subst eo11) | ((with_reducible refine gate_builtin (b := .append) (xs := #[.tmp 23, .tmp 29]) rfl ?_); at_builtin; refine Kd.S_append k24 (w0 := w) w.heap.size rfl (.tmp 23) (.tmp 29) 25 24 (.agg #[(.int .i64 0), (.int .i64 0), (.int .i64 0), (.int .i64 0), (.slice none 0 0)]) 56 rfl Try.underlying25 info24 rfl (by decide) (by omega) u7 x7_1 (⟨t491, t492, t493, t494, t495⟩ : S24) [.int .i64 t491, .int .i64 t492, .int .i64 t493, .int .i64 t494, .slice Ao11 t495.length co11] (fun _ => True) (fun k_ => some k_ = (.slice Ao11 t495.length co11 : Value).ownBlock) rfl rfl ?aP (fun k_ hk_ => ((Kd.R_mono (ok' := fun k_ => ((fun _ => True)) k_ ∧ some k_ ≠ (u7 : Value).ownBlock) (Kd.R_apart' (HO497.out) (Kd.S_typed HO_7.out) (by decide)) (fun k_ hk => ⟨trivial, hk.2⟩))).1 k_ hk_.symm) ?aF ?aO ?aB ?aS ?aL ?_; (case aP => exact k24_mkM _ _ _ (⟨t491, t492, t493, t494, t495⟩ : S24) (Kd.R_mono (Kd.R_tight rfl (Kd.R_mono (ok' := fun k_ => ((fun _ => True)) k_ ∧ some k_ ≠ (u7 : Value).ownBlock) (Kd.R_apart' (HO497.out) (Kd.S_typed HO_7.out) (by decide)) (fun k_ hk => ⟨trivial, hk.2⟩))) (fun _ h_ => h_))); (case aB => exact (by repeat (first | (with_reducible first | exact HB.out | apply below_alloc | apply pw_below_drewN | apply below_drew1) | exact HB.out))); (case aF => exact (fun _ _ => trivial)); (case aO => exact (by (with_reducible repeat (first | apply Kd.S_alloc | apply Kd.S_drewN | apply Kd.S_drew)); exact Kd.S_mono HO_7.out (fun k_ hk => ⟨trivial, fun e_ => hk.2 e_⟩))); (case aS => exact (below_size (by repeat (first | (with_reducible first | exact HB.out | apply below_alloc | apply pw_below_drewN | apply below_drew1) | exact HB.out)))); (case aL => have := LMc8.out; omega); intro v499 w10 ho hb hg hat; rw [← Ny498.out] at ho; have n0_ := Aside0.mk (hb); have n1_ := Aside0.mk (ho); clear HB; clear HO_7; clear HO497; have HB := n0_; have HO500 := n1_; clear n0_ n1_; clear ho hb hg hat))
            go_roundg k1
            case measure => have := HK1.out; omega
            case rel => exact ⟨(y498), (wrap64 (x8_1 + 1)), (by first | rfl | (simp; done) | (simp [*]; done)), H', ⟨by have := HK1.out; omega⟩, ⟨by (with_reducible repeat (first | apply Kd.S_alloc | apply Kd.S_drewN | apply Kd.S_drew)); exact HO500.out⟩, ⟨by repeat (first | (with_reducible first | exact HB.out | apply below_alloc | apply pw_below_drewN | apply below_drew1) | exact HB.out)⟩⟩
          · rw [if_neg c8] at H
            exact absurd H (by simp)
        · rw [if_neg c6] at H
          exact absurd H (by simp)
      · rw [if_neg c5] at H
        have c5b0 : decide (x8_1 < (l0.length : Int)) = false := decide_eq_false c5
        clear c5
        replace H := Option.bind_eq_some_iff.mp H
        obtain ⟨⟨t501, t502⟩, A120, H⟩ := H
        replace H : (if (l0.length : Int) > 0 then (if t487 = 0 then (some false) else (some (t502 == 0))) else (some false)) = some r := H
        have A12 := Aside0.mk A120
        clear A120
        by_cases c13 : (l0.length : Int) > 0
        · rw [if_pos c13] at H
          have c13b0 : decide (0 < (l0.length : Int)) = true := decide_eq_true c13
          have c13b1 : decide (0 < l0.length) = true := decide_eq_true (by omega)
          clear c13
          by_cases c14 : t487 = 0
          · rw [if_pos c14] at H
            have c14b0 : (t487 == 0) = true := beq_iff_eq.mpr c14
            have c14b1 : (t487 != 0) = false := bne_eq_false_iff_eq.mpr c14
            clear c14
            obtain rfl := Option.some.inj H
            obtain ⟨Ao15, co15, eo15⟩ := Kd.S_slice HO_7.out
            subst eo15
            go_wp2_with (first | ((with_reducible refine gate_callee (f := 33) rfl ?_); refine goesL_ (some 34) rfl rfl Try.func33 (by kernel_rfl) rfl #[.slice Ao15 x7_1.length co15, .slice A1 l1.length c1] rfl (by (try simp only [List.map_toArray, List.map_cons, List.map_nil]); first | done | rfl | (simp only [List.length_drop, List.length_take]; rfl)) ?_; (with_reducible refine (redlineref19_Strict.calls k1 _ _ x7_1 _ _ l1 t501 t502 _ ?side1 ?side2 ?side3 ?side4 A12.out).mono ?_); (case side1 => repeat (first | exact (Kd.S_reads' HO_7.out).2.2 | (with_reducible refine Kd.C_alloc ?_ _) | (with_reducible refine Kd.C_drewN ?_ _) | (with_reducible refine Kd.C_drew ?_))); (case side2 => exact (Kd.S_reads' HO_7.out).2.1); (case side3 => repeat (first | exact (Kd.C_below HR1.out HB.out) | (with_reducible refine Kd.C_alloc ?_ _) | (with_reducible refine Kd.C_drewN ?_ _) | (with_reducible refine Kd.C_drew ?_))); (case side4 => exact HC1.out); rintro e w16 ⟨v503, rfl, ho0, hb⟩; refine ⟨_, rfl, ?_⟩; have n0_ := Aside0.mk (Kd.S_below (by (with_reducible repeat (first | apply Kd.S_alloc | apply Kd.S_drewN | apply Kd.S_drew)); exact HO_7.out) hb); have n1_ := Aside0.mk (Kd.R_lower ho0 (below_size (by repeat (first | (with_reducible first | exact HB.out | apply below_alloc | apply pw_below_drewN | apply below_drew1) | exact HB.out)))); have n2_ := Aside0.mk (below_step (by repeat (first | (with_reducible first | exact HB.out | apply below_alloc | apply pw_below_drewN | apply below_drew1) | exact HB.out)) hb); clear HO_7; clear HB; have HO_7 := n0_; have HO504 := n1_; have HB := n2_; clear n0_ n1_ n2_; (try clear hb); (try clear hb2); (try clear hk); (try clear hi); (try clear ho0)))
            go_ret
            exact ⟨by first | rfl | (simp [errW_none, errW_some] <;> rfl) | (simp [*, errW_none, errW_some] <;> rfl), by repeat (first | (with_reducible first | exact HB.out | apply below_alloc | apply pw_below_drewN | apply below_drew1) | exact HB.out)⟩
          · rw [if_neg c14] at H
            have c14b0 : (t487 == 0) = false := beq_eq_false_iff_ne.mpr c14
            have c14b1 : (t487 != 0) = true := bne_iff_ne.mpr c14
            obtain rfl := Option.some.inj H
            obtain ⟨Ao17, co17, eo17⟩ := Kd.S_slice HO_7.out
            subst eo17
            go_wp2_with (first | ((with_reducible refine gate_callee (f := 33) rfl ?_); refine goesL_ (some 34) rfl rfl Try.func33 (by kernel_rfl) rfl #[.slice Ao17 x7_1.length co17, .slice A1 l1.length c1] rfl (by (try simp only [List.map_toArray, List.map_cons, List.map_nil]); first | done | rfl | (simp only [List.length_drop, List.length_take]; rfl)) ?_; (with_reducible refine (redlineref19_Strict.calls k1 _ _ x7_1 _ _ l1 t501 t502 _ ?side1 ?side2 ?side3 ?side4 A12.out).mono ?_); (case side1 => repeat (first | exact (Kd.S_reads' HO_7.out).2.2 | (with_reducible refine Kd.C_alloc ?_ _) | (with_reducible refine Kd.C_drewN ?_ _) | (with_reducible refine Kd.C_drew ?_))); (case side2 => exact (Kd.S_reads' HO_7.out).2.1); (case side3 => repeat (first | exact (Kd.C_below HR1.out HB.out) | (with_reducible refine Kd.C_alloc ?_ _) | (with_reducible refine Kd.C_drewN ?_ _) | (with_reducible refine Kd.C_drew ?_))); (case side4 => exact HC1.out); rintro e w18 ⟨v503, rfl, ho0, hb⟩; refine ⟨_, rfl, ?_⟩; have n0_ := Aside0.mk (Kd.S_below (by (with_reducible repeat (first | apply Kd.S_alloc | apply Kd.S_drewN | apply Kd.S_drew)); exact HO_7.out) hb); have n1_ := Aside0.mk (Kd.R_lower ho0 (below_size (by repeat (first | (with_reducible first | exact HB.out | apply below_alloc | apply pw_below_drewN | apply below_drew1) | exact HB.out)))); have n2_ := Aside0.mk (below_step (by repeat (first | (with_reducible first | exact HB.out | apply below_alloc | apply pw_below_drewN | apply below_drew1) | exact HB.out)) hb); clear HO_7; clear HB; have HO_7 := n0_; have HO504 := n1_; have HB := n2_; clear n0_ n1_ n2_; (try clear hb); (try clear hb2); (try clear hk); (try clear hi); (try clear ho0)))
            go_ret
            exact ⟨by first | rfl | (simp [errW_none, errW_some] <;> rfl) | (simp [*, errW_none, errW_some] <;> rfl), by repeat (first | (with_reducible first | exact HB.out | apply below_alloc | apply pw_below_drewN | apply below_drew1) | exact HB.out)⟩
        · rw [if_neg c13] at H
          have c13b0 : decide (0 < (l0.length : Int)) = false := decide_eq_false c13
          have c13b1 : decide (0 < l0.length) = false := decide_eq_false (by omega)
          clear c13
          obtain rfl := Option.some.inj H
          obtain ⟨Ao19, co19, eo19⟩ := Kd.S_slice HO_7.out
          subst eo19
          go_wp2_with (first | ((with_reducible refine gate_callee (f := 33) rfl ?_); refine goesL_ (some 34) rfl rfl Try.func33 (by kernel_rfl) rfl #[.slice Ao19 x7_1.length co19, .slice A1 l1.length c1] rfl (by (try simp only [List.map_toArray, List.map_cons, List.map_nil]); first | done | rfl | (simp only [List.length_drop, List.length_take]; rfl)) ?_; (with_reducible refine (redlineref19_Strict.calls k1 _ _ x7_1 _ _ l1 t501 t502 _ ?side1 ?side2 ?side3 ?side4 A12.out).mono ?_); (case side1 => repeat (first | exact (Kd.S_reads' HO_7.out).2.2 | (with_reducible refine Kd.C_alloc ?_ _) | (with_reducible refine Kd.C_drewN ?_ _) | (with_reducible refine Kd.C_drew ?_))); (case side2 => exact (Kd.S_reads' HO_7.out).2.1); (case side3 => repeat (first | exact (Kd.C_below HR1.out HB.out) | (with_reducible refine Kd.C_alloc ?_ _) | (with_reducible refine Kd.C_drewN ?_ _) | (with_reducible refine Kd.C_drew ?_))); (case side4 => exact HC1.out); rintro e w20 ⟨v503, rfl, ho0, hb⟩; refine ⟨_, rfl, ?_⟩; have n0_ := Aside0.mk (Kd.S_below (by (with_reducible repeat (first | apply Kd.S_alloc | apply Kd.S_drewN | apply Kd.S_drew)); exact HO_7.out) hb); have n1_ := Aside0.mk (Kd.R_lower ho0 (below_size (by repeat (first | (with_reducible first | exact HB.out | apply below_alloc | apply pw_below_drewN | apply below_drew1) | exact HB.out)))); have n2_ := Aside0.mk (below_step (by repeat (first | (with_reducible first | exact HB.out | apply below_alloc | apply pw_below_drewN | apply below_drew1) | exact HB.out)) hb); clear HO_7; clear HB; have HO_7 := n0_; have HO504 := n1_; have HB := n2_; clear n0_ n1_ n2_; (try clear hb); (try clear hb2); (try clear hk); (try clear hi); (try clear ho0)))
          go_ret
          exact ⟨by first | rfl | (simp [errW_none, errW_some] <;> rfl) | (simp [*, errW_none, errW_some] <;> rfl), by repeat (first | (with_reducible first | exact HB.out | apply below_alloc | apply pw_below_drewN | apply below_drew1) | exact HB.out)⟩
end Go.Proofs.Ytnllemlmgbjjnaa.PA
/- slices.Clone of hunks: a row of one's own whose hunks share their lines with the row that was copied. -/
namespace Go.Proofs.Ytnllemlmgbjjnaa.PA
set_option linter.unusedVariables false
set_option linter.unusedSimpArgs false
open Go.RowKit Go.Proofs.YtnllemlmgbjjnaaW.PrintWords Go.Proofs.YtnllemlmgbjjnaaW.PrintLast Go.Proofs.YtnllemlmgbjjnaaW.PrintMore
/-- A hunk with its lines' slice as it stands. -/
structure SR where
  f0 : Int
  f1 : Int
  f2 : Int
  f3 : Int
  A : Option Addr
  n : Nat
  c : Nat
def encS (x : Option Addr × Nat × Nat) : Value := .slice x.1 x.2.1 x.2.2
def kR : Kd SR := Kd.iso (Kd.pair (Kd.int .i64) (Kd.pair (Kd.int .i64) (Kd.pair (Kd.int .i64) (Kd.pair (Kd.int .i64) (Kd.scalar encS (fun _ => rfl)))))) (fun x => (x.f0, x.f1, x.f2, x.f3, (x.A, x.n, x.c)))
def SR.cs (x : SR) : List Value := [.int .i64 x.f0, .int .i64 x.f1, .int .i64 x.f2, .int .i64 x.f3, .slice x.A x.n x.c]
theorem kR_open {w : World} {x : SR} {cs : List Value} (h : kR.K w x cs) : cs = x.cs := by
  obtain ⟨_, _, rfl, rfl, ⟨_, _, rfl, rfl, ⟨_, _, rfl, rfl, ⟨_, _, rfl, rfl, rfl⟩⟩⟩⟩ := h
  rfl
theorem kR_mk (w : World) (x : SR) : kR.K w x x.cs := ⟨[.int .i64 x.f0], _, rfl, rfl, ⟨[.int .i64 x.f1], _, rfl, rfl, ⟨[.int .i64 x.f2], _, rfl, rfl, ⟨[.int .i64 x.f3], _, rfl, rfl, rfl⟩⟩⟩⟩
theorem kR_mkM (w : World) (base : Nat) (ok : Nat → Prop) (x : SR) : kR.M w base ok x x.cs := ⟨[.int .i64 x.f0], _, rfl, rfl, ⟨[.int .i64 x.f1], _, rfl, rfl, ⟨[.int .i64 x.f2], _, rfl, rfl, ⟨[.int .i64 x.f3], _, rfl, rfl, rfl⟩⟩⟩⟩
theorem kR_KM {W W' : World} {base : Nat} {okp : Nat → Prop} {x : SR} {cs : List Value} (h : kR.K W x cs) : kR.M W' base okp x cs := by
  rw [kR_open h]; exact kR_mkM _ _ _ _
/-- The raw hunk r reads as the hunk h. -/
def Rel (w : World) (r : SR) (h : S24) : Prop := r.f0 = h.f0 ∧ r.f1 = h.f1 ∧ r.f2 = h.f2 ∧ r.f3 = h.f3 ∧ r.n = h.f4.length ∧ r.n ≤ r.c ∧ Kd.C k35 w r.A h.f4.length h.f4
theorem C_raw {w : World} {A : Option Addr} {n : Nat} {l : List S24} (h : Kd.C k24 w A n l) :
    ∃ rs : List SR, Kd.C kR w A n rs ∧ rs.length = l.length ∧ ∀ (j : Nat) (r : SR) (x : S24), rs[j]? = some r → l[j]? = some x → Rel w r x := by
  obtain ⟨hl, hb, hr⟩ := h
  by_cases h0 : 0 < n
  · obtain ⟨ad, hA, hc⟩ := hr h0
    obtain ⟨rs, hrl, hrs⟩ := Go.Proofs.YtnllemlmgbjjnaaOpen.choose_list (α := SR) (R := fun i r => ∀ x, l[i]? = some x → Rel w r x ∧ ∀ q u, r.cs[q]? = some u → w.cell? (ad.add (i * 5 + q)) = some u) (m := l.length) (fun i hi => by
      obtain ⟨cs, hcl, hk, hcell⟩ := hc i _ (List.getElem?_eq_getElem hi)
      obtain ⟨A4, c4, rfl, hle, hcc⟩ := k24_open hk
      refine ⟨⟨l[i].f0, l[i].f1, l[i].f2, l[i].f3, A4, l[i].f4.length, c4⟩, fun x hx => ?_⟩
      rw [List.getElem?_eq_getElem hi] at hx
      obtain rfl := Option.some.inj hx
      exact ⟨⟨rfl, rfl, rfl, rfl, rfl, hle, hcc⟩, hcell⟩)
    refine ⟨rs, ⟨by omega, hb, fun _ => ⟨ad, hA, fun j r hj => ?_⟩⟩, hrl, fun j r x hj hx => (hrs j r hj x hx).1⟩
    have hjl : j < l.length := by have := (List.getElem?_eq_some_iff.1 hj).1; omega
    exact ⟨r.cs, rfl, kR_mk w r, (hrs j r hj _ (List.getElem?_eq_getElem hjl)).2⟩
  · have hn : l = [] := List.eq_nil_of_length_eq_zero (by omega)
    subst hn
    exact ⟨[], ⟨hl, hb, fun h => absurd h h0⟩, rfl, fun j r x hj => by simp at hj⟩
theorem C_unraw {w : World} {A : Option Addr} {n : Nat} {rs : List SR} {l : List S24} (h : Kd.C kR w A n rs) (hl : rs.length = l.length) (hr : ∀ (j : Nat) (r : SR) (x : S24), rs[j]? = some r → l[j]? = some x → Rel w r x) : Kd.C k24 w A n l := by
  obtain ⟨h1, hb, h2⟩ := h
  refine ⟨by omega, hb, fun h0 => ?_⟩
  obtain ⟨ad, hA, hc⟩ := h2 h0
  refine ⟨ad, hA, fun j x hj => ?_⟩
  have hjl : j < rs.length := by have := (List.getElem?_eq_some_iff.1 hj).1; omega
  obtain ⟨cs, hcl, hk, hcell⟩ := hc j _ (List.getElem?_eq_getElem hjl)
  obtain rfl := kR_open hk
  obtain ⟨e0, e1, e2, e3, e4, e5, e6⟩ := hr j _ x (List.getElem?_eq_getElem hjl) hj
  refine ⟨rs[j].cs, rfl, ?_, hcell⟩
  have := k24_mk w x (A4 := rs[j].A) (c4 := rs[j].c) (by omega) e6
  unfold SR.cs
  rw [e0, e1, e2, e3, e4]
  exact this
theorem Rel.below {w w1 : World} {r : SR} {h : S24} (hr : Rel w r h) (hb : Below w.heap.size w w1) : Rel w1 r h := ⟨hr.1, hr.2.1, hr.2.2.1, hr.2.2.2.1, hr.2.2.2.2.1, hr.2.2.2.2.2.1, Kd.C_below hr.2.2.2.2.2.2 hb⟩
set_option maxRecDepth 100000 in
set_option maxHeartbeats 2000000 in
/-- slices.Clone of hunks. -/
theorem clone24_calls (A : Option Addr) (c : Nat) (rs : List SR) (w : World) (hr : Kd.C kR w A rs.length rs) (hl : rs.length < 2513169434916) :
    Calls Try.prog 73 #[.slice A rs.length c] w fun e w' => ∃ v : Value, e = .returned v ∧ Kd.R kR 24 w' w.heap.size (fun _ => True) v rs ∧ Below w.heap.size w w' := by
  have HR := Aside0.mk hr
  have hq25 := fun (W : World) (n c : Nat) => Go.Lib.run_eql_slice_nil (P := Try.prog) W 25 24 A n c 0 0 Try.underlying25
  clear hr
  cases A with
  | none =>
    obtain rfl : rs = [] := by
      obtain ⟨h1, _, h2⟩ := HR.out
      by_cases h0 : 0 < rs.length
      · obtain ⟨ad, he, _⟩ := h2 h0; cases he
      · exact List.eq_nil_of_length_eq_zero (by omega)
    go_enter Try.func73, Try.ntmps73
    go_wp2
    go_ret
    exact ⟨_, rfl, Kd.R_nil _ _ _ _ _, by repeat (first | exact Below.refl _ _ | apply pw_below_drewN)⟩
  | some ad =>
    go_enter Try.func73, Try.ntmps73
    go_wp2_with (first
      | ((with_reducible refine gate_dst (N := 5) rfl ?_); refine Kd.R_lit kR _ 24 ?hg (N := 5) ?hd (xs := ([] : List SR)) (inner := []) (ok := fun _ => True) (okp := fun _ => True) ?hr ?hp (fun _ hk => hk) trivial (Below.refl _ _) (Nat.le_refl _) (by simp) ?_; (case hd => rfl); (case hg => rfl); (case hr => first | (go_simp; done) | (go_simp; rfl)); (case hp => exact (Reps.none _ _)); intro v1 w1 ho1 hb1 hg_ hnew_; clear hg_ hnew_; have HO := Aside0.mk ho1; have HB := Aside0.mk hb1; clear ho1 hb1)
      | (at_builtin; refine Kd.R_append_rows kR (w0 := w) w.heap.size rfl (.tmp 5) (.tmp 6) 25 24 (.agg #[(.int .i64 0), (.int .i64 0), (.int .i64 0), (.int .i64 0), (.slice none 0 0)]) 56 rfl Try.underlying25 info24 rfl (by decide) (by omega) v1 [] rs (some ad) rs.length c (fun _ => True) (fun _ => False) rfl rfl HO.out (Kd.C_below HR.out HB.out) (fun _ _ hk => kR_KM hk) (fun _ hk => hk.elim) (fun _ _ => trivial) HB.out HB.out.size (by simp; omega) ?_; intro v2 w2 hR2 hB2 hg2 ho2; have HR2 := Aside0.mk hR2; have HB2 := Aside0.mk hB2; clear hR2 hB2 hg2 ho2))
    go_ret
    exact ⟨_, rfl, HR2.out, HB2.out⟩
/-- A row of one's own that has elements begins at its block. -/
theorem R_some {α : Type} {d : Kd α} {e : Nat} {W : World} {base : Nat} {ok : Nat → Prop} {A : Option Addr} {n c : Nat} {xs : List α} (h : d.R e W base ok (.slice A n c) xs) (hn : 0 < n) : ∃ g, A = some ⟨g, 0, none⟩ := by
  obtain ⟨_, inner, ⟨ho1, ho2⟩, hr⟩ := h
  rcases ho2 with ⟨hv, h0⟩ | ⟨g, cap, cur, hv, _⟩
  · injection hv with _ hx _
    omega
  · injection hv with ha hx _
    exact ⟨g, ha⟩
def rd_R (xs : List SR) (i : Int) : SR := xs.getD i.toNat ⟨0, 0, 0, 0, none, 0, 0⟩
theorem at_R {w : World} {A : Option Addr} {n : Nat} {xs : List SR} (h : Kd.C kR w A n xs) (i : Int) (h0 : 0 ≤ i) (h1 : i < n) : ∃ ad, A = some ad ∧ w.cell? (ad.add (i.toNat * 5)) = some (.int .i64 (rd_R xs i).f0) ∧ w.cell? ⟨(ad.add (i.toNat * 5)).block, (ad.add (i.toNat * 5)).off + 1, none⟩ = some (.int .i64 (rd_R xs i).f1) ∧ w.cell? ⟨(ad.add (i.toNat * 5)).block, (ad.add (i.toNat * 5)).off + 2, none⟩ = some (.int .i64 (rd_R xs i).f2) ∧ w.cell? ⟨(ad.add (i.toNat * 5)).block, (ad.add (i.toNat * 5)).off + 3, none⟩ = some (.int .i64 (rd_R xs i).f3) ∧ w.cell? ⟨(ad.add (i.toNat * 5)).block, (ad.add (i.toNat * 5)).off + 4, none⟩ = some (.slice (rd_R xs i).A (rd_R xs i).n (rd_R xs i).c) := by
  obtain ⟨ad, c, e, _, hK, hc0⟩ := Kd.C_get h ⟨0, 0, 0, 0, none, 0, 0⟩ i h0 h1
  have hc : ∀ j u, c[j]? = some u → w.cell? (ad.add (i.toNat * 5 + j)) = some u := hc0
  obtain rfl := kR_open hK
  exact ⟨ad, e, hc 0 _ rfl, by rw [← add_field _ _ 1 (by omega)]; exact hc 1 _ rfl, by rw [← add_field _ _ 2 (by omega)]; exact hc 2 _ rfl, by rw [← add_field _ _ 3 (by omega)]; exact hc 3 _ rfl, by rw [← add_field _ _ 4 (by omega)]; exact hc 4 _ rfl⟩
end Go.Proofs.Ytnllemlmgbjjnaa.PA
/- apply.Applied: the walk of it, out of what its callees answer. -/
namespace Go.Proofs.Ytnllemlmgbjjnaa.PA
set_option linter.unusedVariables false
set_option linter.unusedSimpArgs false
open Go.RowKit Go.Proofs.YtnllemlmgbjjnaaW.PrintWords Go.Proofs.YtnllemlmgbjjnaaW.PrintLast Go.Proofs.YtnllemlmgbjjnaaW.PrintMore
/-- A hunk turned round. -/
def invH (h : S24) : S24 := ⟨h.f2, h.f3, h.f0, h.f1, invL h.f4⟩
def apply_Applied.f (k : Nat) (l0 : List S24) (l1 : List ByteArray) : Option Bool :=
  if l0.length < 2513169434916 ∧ l0.all (fun h => decide (h.f4.length < 5864062014805)) = true then
    (apply_Strict.f k l0 l1).bind fun r1 => (apply_Strict.f k (l0.map invH) l1).bind fun r2 => some (decide (0 < l0.length) && r1.2 != 0 && r2.2 == 0)
  else none
/-- The raw hunk r is the hunk x turned round, in rows of one's own. -/
def InvRel (w W : World) (r : SR) (x : S24) : Prop := r.f0 = x.f2 ∧ r.f1 = x.f3 ∧ r.f2 = x.f0 ∧ r.f3 = x.f1 ∧ Kd.R k35 35 W w.heap.size (fun _ => True) (.slice r.A r.n r.c) (invL x.f4)
structure AppSt (w W : World) (A : Option Addr) (c : Nat) (l : List S24) (rs : List SR) (i : Int) : Prop where
  row : Kd.R kR 24 W w.heap.size (fun _ => True) (.slice A l.length c) rs
  len : rs.length = l.length
  bel : Below w.heap.size w W
  done : ∀ (j : Nat) (r : SR) (x : S24), (j : Int) < i → rs[j]? = some r → l[j]? = some x → InvRel w W r x
  todo : ∀ (j : Nat) (r : SR) (x : S24), i ≤ (j : Int) → rs[j]? = some r → l[j]? = some x → Rel w r x
theorem AppSt.moveTo {w W W1 : World} {A : Option Addr} {c : Nat} {l : List S24} {rs : List SR} {i : Int} (h : AppSt w W A c l rs i) (hrow : Kd.R kR 24 W1 w.heap.size (fun _ => True) (.slice A l.length c) rs)
    (hb : Below w.heap.size w W1) (hm : ∀ (v : Value) (xs : List S35), Kd.R k35 35 W w.heap.size (fun _ => True) v xs → Kd.R k35 35 W1 w.heap.size (fun _ => True) v xs) : AppSt w W1 A c l rs i :=
  ⟨hrow, h.len, hb, fun j r x hj hr hx => by obtain ⟨a, b, c, d, e⟩ := h.done j r x hj hr hx; exact ⟨a, b, c, d, hm _ _ e⟩, h.todo⟩
theorem AppSt.alloc {w W : World} {A : Option Addr} {c : Nat} {l : List S24} {rs : List SR} {i : Int} (h : AppSt w W A c l rs i) (o : Obj) : AppSt w (W.alloc o) A c l rs i :=
  h.moveTo (Kd.R_alloc h.row o) (h.bel.alloc h.bel.size o) (fun _ _ hr => Kd.R_alloc hr o)
theorem AppSt.below {w W W1 : World} {A : Option Addr} {c : Nat} {l : List S24} {rs : List SR} {i : Int} (h : AppSt w W A c l rs i) (hb : Below W.heap.size W W1) : AppSt w W1 A c l rs i :=
  h.moveTo (Kd.R_below h.row hb) (h.bel.trans (hb.mono h.bel.size)) (fun _ _ hr => Kd.R_below hr hb)
/-- One hunk more is turned round. -/
theorem AppSt.put {w W W1 : World} {g c : Nat} {l : List S24} {rs : List SR} {i : Int} {x : S24} {r : SR} (h : AppSt w W (some ⟨g, 0, none⟩) c l rs i) (h0 : 0 ≤ i)
    (hx : l[i.toNat]? = some x) (hrel : InvRel w W r x) (hrow : Kd.R kR 24 W1 w.heap.size (fun _ => True) (.slice (some ⟨g, 0, none⟩) l.length c) (rs.set i.toNat r)) (hb : Below w.heap.size w W1) (hg : W.grownBy W1 (some g)) :
    AppSt w W1 (some ⟨g, 0, none⟩) c l (rs.set i.toNat r) (i + 1) := by
  have keep : ∀ (v : Value) (xs : List S35), Kd.R k35 35 W w.heap.size (fun _ => True) v xs → Kd.R k35 35 W1 w.heap.size (fun _ => True) v xs := fun v xs hr =>
    Kd.R_over hr h.row (by decide) hg
  refine ⟨hrow, by rw [List.length_set]; exact h.len, hb, fun j r' x' hj hr hx' => ?_, fun j r' x' hj hr hx' => ?_⟩
  · by_cases e : j = i.toNat
    · subst e
      rw [List.getElem?_set_self (by have := h.len; have := (List.getElem?_eq_some_iff.1 hx).1; omega)] at hr
      obtain rfl := Option.some.inj hr
      rw [hx] at hx'
      obtain rfl := Option.some.inj hx'
      obtain ⟨a, b, c', d, e⟩ := hrel
      exact ⟨a, b, c', d, keep _ _ e⟩
    · rw [List.getElem?_set_ne (fun he => e he.symm)] at hr
      obtain ⟨a, b, c', d, e⟩ := h.done j r' x' (by omega) hr hx'
      exact ⟨a, b, c', d, keep _ _ e⟩
  · rw [List.getElem?_set_ne (by omega)] at hr
    exact h.todo j r' x' (by omega) hr hx'
/-- At the end the row reads as the hunks turned round. -/
theorem AppSt.reads {w W : World} {A : Option Addr} {c : Nat} {l : List S24} {rs : List SR} (h : AppSt w W A c l rs l.length) : Kd.C k24 W A l.length (l.map invH) ∧ l.length ≤ c := by
  obtain ⟨hn, hc, hC⟩ := Kd.R_reads' h.row
  rw [h.len] at hC
  refine ⟨C_unraw hC (by rw [List.length_map]; exact h.len) (fun j r x hr hx => ?_), by omega⟩
  rw [List.getElem?_map] at hx
  obtain ⟨y, hy, rfl⟩ := Option.map_eq_some_iff.1 hx
  obtain ⟨e0, e1, e2, e3, e4⟩ := h.done j r y (by have := (List.getElem?_eq_some_iff.1 hy).1; omega) hr hy
  obtain ⟨q1, q2, q3⟩ := Kd.R_reads' e4
  exact ⟨e0, e1, e2, e3, q1, q2, q3⟩
theorem AppSt.at {w W : World} {A : Option Addr} {c : Nat} {l : List S24} {rs : List SR} {i : Int} (h : AppSt w W A c l rs i) (h0 : 0 ≤ i) (h1 : i < l.length) :
    ∃ A4 c4, rd_R rs i = ⟨(rd_T24 l i).f0, (rd_T24 l i).f1, (rd_T24 l i).f2, (rd_T24 l i).f3, A4, (rd_T24 l i).f4.length, c4⟩ ∧ (rd_T24 l i).f4.length ≤ c4 ∧ Kd.C k35 W A4 (rd_T24 l i).f4.length (rd_T24 l i).f4 := by
  have hl := h.len
  have e1 : rs[i.toNat]? = some (rd_R rs i) := by
    unfold rd_R
    rw [List.getD_eq_getElem?_getD, List.getElem?_eq_getElem (by omega)]
    rfl
  have e2 : l[i.toNat]? = some (rd_T24 l i) := by
    unfold rd_T24
    rw [List.getD_eq_getElem?_getD, List.getElem?_eq_getElem (by omega)]
    rfl
  obtain ⟨a0, a1, a2, a3, a4, a5, a6⟩ := h.todo i.toNat _ _ (by omega) e1 e2
  refine ⟨(rd_R rs i).A, (rd_R rs i).c, ?_, by omega, Kd.C_below a6 h.bel⟩
  generalize rd_R rs i = r at a0 a1 a2 a3 a4 ⊢
  obtain ⟨f0, f1, f2, f3, A, n, c⟩ := r
  simp only at a0 a1 a2 a3 a4
  rw [a0, a1, a2, a3, a4]
theorem cells_R {W : World} {g n c base : Nat} {ok : Nat → Prop} {rs : List SR} (h : Kd.R kR 24 W base ok (.slice (some ⟨g, 0, none⟩) n c) rs) (i : Int) (h0 : 0 ≤ i) (h1 : i < n) : ∀ (j : Nat) (u : Value), (rd_R rs i).cs[j]? = some u → W.cell? ⟨g, i.toNat * kR.sz + j, none⟩ = some u := by
  obtain ⟨hn, _, hC⟩ := Kd.R_reads' h
  obtain ⟨ad, cs, e, _, hK, hc⟩ := Kd.C_get hC ⟨0, 0, 0, 0, none, 0, 0⟩ i h0 (by omega)
  obtain rfl := kR_open hK
  obtain rfl := Option.some.inj e
  intro j u hj
  have := hc j u hj
  rw [add_plain] at this
  exact this
theorem strict_inv (k : Nat) (A0 : Option Addr) (c0 : Nat) (l0 : List S24) (A1 : Option Addr) (c1 : Nat) (l1 : List ByteArray) (r1 : List ByteArray) (r2 : Int) (w : World) (hr0 : Kd.C k24 w A0 l0.length (l0.map invH)) (hc0 : l0.length ≤ c0) (hr1 : Kd.C Kd.string w A1 l1.length l1) (hc1 : l1.length ≤ c1) (h : apply_Strict.f k (l0.map invH) l1 = some (r1, r2)) :
    Calls Try.prog 32 #[.slice A0 l0.length c0, .slice A1 l1.length c1] w fun e w' => ∃ v0_ : Value, e = .returned (.tuple #[v0_, .int .i64 r2]) ∧ Kd.R Kd.string 9 w' w.heap.size (fun _ => True) v0_ r1 ∧ Below w.heap.size w w' := by
  have := apply_Strict.calls k A0 c0 (l0.map invH) A1 c1 l1 r1 r2 w (by rw [List.length_map]; exact hr0) (by rw [List.length_map]; exact hc0) hr1 hc1 h
  rwa [List.length_map] at this
theorem size24 : Option.map (fun x => x.size) (Try.prog.info? 24) = some 5 := by kernel_rfl
theorem cs_one (x : SR) : ∀ q, q ∈ x.cs → q.oneCell' = true := by
  intro q hq
  simp only [SR.cs, List.mem_cons, List.not_mem_nil, or_false] at hq
  rcases hq with rfl | rfl | rfl | rfl | rfl <;> rfl
set_option maxRecDepth 100000 in
set_option maxHeartbeats 8000000 in
theorem apply_Applied.calls (k : Nat) (A0 : Option Addr) (c0 : Nat) (l0 : List S24) (A1 : Option Addr) (c1 : Nat) (l1 : List ByteArray) (r : Bool) (w : World) (hr0 : Kd.C k24 w A0 l0.length l0) (hc0 : l0.length ≤ c0) (hr1 : Kd.C Kd.string w A1 l1.length l1) (hc1 : l1.length ≤ c1) (h : apply_Applied.f k l0 l1 = some r) :
    Calls Try.prog 34 #[.slice A0 l0.length c0, .slice A1 l1.length c1] w fun e w' => e = .returned (.bool r) ∧ Below w.heap.size w w' := by
  unfold apply_Applied.f at h
  by_cases hg : l0.length < 2513169434916 ∧ l0.all (fun h => decide (h.f4.length < 5864062014805)) = true
  case neg => rw [if_neg hg] at h; exact absurd h (by simp)
  rw [if_pos hg] at h
  obtain ⟨⟨p1, e1⟩, hs1, h⟩ := Option.bind_eq_some_iff.1 h
  obtain ⟨⟨p2, e2⟩, hs2, h⟩ := Option.bind_eq_some_iff.1 h
  have HRES := Lib.hid (Option.some.inj h)
  obtain ⟨hg1, hg2⟩ := hg
  have HG2 := Aside0.mk (fun (x : S24) (hx : x ∈ l0) => of_decide_eq_true (List.all_eq_true.1 hg2 x hx))
  have HG1 := Aside0.mk hg1
  obtain ⟨rs, hraw, hrl, hrel⟩ := C_raw hr0
  rw [← hrl] at hraw
  have HRAW := Aside0.mk hraw
  have HREL := Aside0.mk hrel
  have HRLs := Aside0.mk hrl
  have HS1 := Aside0.mk hs1
  have HS2 := Aside0.mk hs2
  have HR0 := Aside0.mk hr0; have HC0 := Aside0.mk hc0; have HR1 := Aside0.mk hr1; have HC1 := Aside0.mk hc1
  clear hraw hrel hs1 hs2 hr0 hc0 hr1 hc1 hg1 hg2 h
  go_enter Try.func34, Try.ntmps34
  go_wp2_with (first
    | (go_at_call 32; refine (apply_Strict.calls k A0 c0 l0 A1 c1 l1 p1 e1 _ HR0.out HC0.out HR1.out HC1.out HS1.out).mono ?_; rintro e w1 ⟨v1, rfl, hR1, hB1⟩; have HB1 := Aside0.mk hB1; clear hR1 hB1)
    | (go_at_call 73; rw [← HRLs.out]; refine (clone24_calls A0 c0 rs _ (Kd.C_below HRAW.out HB1.out) (by have := HRLs.out; have := HG1.out; omega)).mono ?_; rintro e w2 ⟨v2, rfl, hR2, hB2⟩; obtain ⟨A2, c2, hv2, _, _⟩ := Kd.R_reads hR2; rw [HRLs.out] at hv2; subst hv2; have HR2 := Aside0.mk hR2; have HB2 := Aside0.mk hB2; clear hR2 hB2))
  have HI0 : Aside0 (AppSt w w2 A2 c2 l0 rs 0) := ⟨⟨Kd.R_lower HR2.out HB1.out.size, HRLs.out, HB1.out.trans (HB2.out.mono HB1.out.size), fun j r x hj => absurd hj (by omega), fun j r x _ hr hx => HREL.out j r x hr hx⟩⟩
  clear HR2 HB1 HB2 HRAW
  go_loopw [22] (fun v22 wr => ∃ i : Int, 0 ≤ i ∧ i ≤ l0.length ∧ v22 = .int .i64 i ∧ Aside0 (∃ rs', AppSt w wr A2 c2 l0 rs' i)) (fun v22 _ => l0.length - (intOf v22).toNat)
  case atStart => exact ⟨0, by omega, by omega, rfl, ⟨_, HI0.out⟩⟩
  case round =>
    clear HI0 HREL HRLs
    obtain ⟨i, h0, h1, rfl, ⟨rs', hst⟩⟩ := hrel
    by_cases hlt : i < l0.length
    · obtain ⟨A4, c4, hrd, hle, hcc⟩ := hst.at h0 hlt
      obtain ⟨g, rfl⟩ := R_some hst.row (by omega)
      have hC := (Kd.R_reads' hst.row).2.2
      obtain ⟨ad, e, y0, y1, y2, y3, y4⟩ := at_R hC i h0 (by have := hst.len; omega)
      obtain rfl := Option.some.inj e
      rw [hrd] at y0 y1 y2 y3 y4
      simp only [add_plain] at y0 y1 y2 y3 y4
      have hxl : l0[i.toNat]? = some (rd_T24 l0 i) := by
        unfold rd_T24
        rw [List.getD_eq_getElem?_getD, List.getElem?_eq_getElem (by omega)]
        rfl
      have HXL := Aside0.mk hxl
      have HLM := Aside0.mk (HG2.out _ (List.mem_of_getElem? hxl))
      have ST := Aside0.mk hst
      have HRD := Lib.hid hrd
      have HCC := Aside0.mk hcc
      have HLE := Aside0.mk hle
      have hwi : IntKind.i64.wrap (i + 1) = i + 1 := by rw [i64_w]; unfold wrap64; have := HG1.out; omega
      clear hst hrd hcc hle hC hxl e
      go_wp2_with (first
        | (go_at_call 19; refine (hunks_Invert.calls (rd_T24 l0 i).f0 (rd_T24 l0 i).f1 (rd_T24 l0 i).f2 (rd_T24 l0 i).f3 A4 c4 (rd_T24 l0 i).f4 _ _ _ _ _ _ (Kd.C_alloc HCC.out _) HLE.out (by unfold hunks_Invert.f; rw [if_pos HLM.out])).mono ?_; rintro e w3 ⟨v4, rfl, hR3, hB3⟩; obtain ⟨A8, c8, hv4, hc8, _⟩ := Kd.R_reads hR3; subst hv4; have HR3 := Aside0.mk hR3; have HB3 := Aside0.mk hB3; clear hR3 hB3)
        | (refine Kd.R_store kR (w0 := w) w.heap.size rfl rfl 24 (.tmp 31) (.tmp 30) rfl 24 (g := g) (n := l0.length) (cap := c2) (o' := i.toNat * 5) i 0 rs' ⟨(rd_T24 l0 i).f2, (rd_T24 l0 i).f3, (rd_T24 l0 i).f0, (rd_T24 l0 i).f1, A8, (invL (rd_T24 l0 i).f4).length, c8⟩ (.agg #[.int .i64 (rd_T24 l0 i).f2, .int .i64 (rd_T24 l0 i).f3, .int .i64 (rd_T24 l0 i).f0, .int .i64 (rd_T24 l0 i).f1, .slice A8 (invL (rd_T24 l0 i).f4).length c8]) (SR.cs ⟨(rd_T24 l0 i).f2, (rd_T24 l0 i).f3, (rd_T24 l0 i).f0, (rd_T24 l0 i).f1, A8, (invL (rd_T24 l0 i).f4).length, c8⟩) (rd_R rs' i).cs (fun _ => True) (fun _ => False) rfl rfl rfl rfl size24 (cs_one _) ((ST.out.alloc _).below HB3.out).row h0 hlt rfl (cells_R ((ST.out.alloc _).below HB3.out).row i h0 hlt) (show 0 + 5 ≤ 5 from by decide) (kR_mkM _ _ _ ⟨(rd_T24 l0 i).f2, (rd_T24 l0 i).f3, (rd_T24 l0 i).f0, (rd_T24 l0 i).f1, A8, (invL (rd_T24 l0 i).f4).length, c8⟩) (fun _ hk => hk.elim) ((ST.out.alloc _).below HB3.out).bel ?_; intro w4 hR4 hB4 hG4; have HR4 := Aside0.mk hR4; have HB4 := Aside0.mk hB4; have HG4 := Aside0.mk hG4; clear hR4 hB4 hG4))
      refine ⟨⟨i + 1, by omega, by omega, rfl, ⟨_, AppSt.put ((ST.out.alloc _).below HB3.out) h0 HXL.out ⟨rfl, rfl, rfl, rfl, ?_⟩ HR4.out HB4.out HG4.out⟩⟩, by simp [intOf]; omega⟩
      exact Kd.R_lower HR3.out (by have := ST.out.bel.size; simp; omega)
    · obtain rfl : i = l0.length := by omega
      have ST := Aside0.mk hst
      have HRD := Aside0.mk hst.reads
      clear hst
      by_cases q1 : 0 < l0.length
      · have q1b : decide (0 < l0.length) = true := decide_eq_true q1
        have q1i : decide ((0 : Int) < (l0.length : Int)) = true := decide_eq_true (by omega)
        by_cases q2 : e1 = 0
        · have q2b : (e1 == 0) = true := beq_iff_eq.2 q2
          have q2n : (e1 != 0) = false := bne_eq_false_iff_eq.2 q2
          clear q2
          go_wp2_with (go_at_call 32; refine (strict_inv k A2 c2 l0 A1 c1 l1 p2 e2 _ HRD.out.1 HRD.out.2 (Kd.C_below HR1.out ST.out.bel) HC1.out HS2.out).mono ?_; rintro e w5 ⟨v5, rfl, hR5, hB5⟩; have HB5 := Aside0.mk hB5; clear hR5 hB5)
          go_ret
          exact ⟨by rw [← HRES.out]; simp [*], ST.out.bel.trans (HB5.out.mono ST.out.bel.size)⟩
        · have q2b : (e1 == 0) = false := beq_eq_false_iff_ne.2 q2
          have q2n : (e1 != 0) = true := bne_iff_ne.2 q2
          clear q2
          go_wp2_with (go_at_call 32; refine (strict_inv k A2 c2 l0 A1 c1 l1 p2 e2 _ HRD.out.1 HRD.out.2 (Kd.C_below HR1.out ST.out.bel) HC1.out HS2.out).mono ?_; rintro e w5 ⟨v5, rfl, hR5, hB5⟩; have HB5 := Aside0.mk hB5; clear hR5 hB5)
          go_ret
          exact ⟨by rw [← HRES.out]; simp [*], ST.out.bel.trans (HB5.out.mono ST.out.bel.size)⟩
      · have q1b : decide (0 < l0.length) = false := decide_eq_false q1
        have q1i : decide ((0 : Int) < (l0.length : Int)) = false := decide_eq_false (by omega)
        go_wp2_with (go_at_call 32; refine (strict_inv k A2 c2 l0 A1 c1 l1 p2 e2 _ HRD.out.1 HRD.out.2 (Kd.C_below HR1.out ST.out.bel) HC1.out HS2.out).mono ?_; rintro e w5 ⟨v5, rfl, hR5, hB5⟩; have HB5 := Aside0.mk hB5; clear hR5 hB5)
        go_ret
        exact ⟨by rw [← HRES.out]; simp [*], ST.out.bel.trans (HB5.out.mono ST.out.bel.size)⟩
end Go.Proofs.Ytnllemlmgbjjnaa.PA
namespace Go.Proofs.Ytnllemlmgbjjnaa.PA
open Go.RowKit Go.Proofs.YtnllemlmgbjjnaaW.PrintWords Go.Proofs.YtnllemlmgbjjnaaW.PrintLast Go.Proofs.YtnllemlmgbjjnaaW.PrintMore
attribute [local go_sem] max2_int min2_int max_two min_two max_three min_three max_four min_four   -- for this text's walks alone
set_option linter.unusedVariables false
set_option linter.unusedSimpArgs false
mutual
def redlinelaw19_ApplyStricts.j0 : Nat → List (S24) → List ByteArray → List (S24) → List ByteArray → List ByteArray → Bool → Option (Bool)
  | 0, _, _, _, _, _, _ => none
  | k + 1, x0, x1, x5, x6, x7, x46 => if x46 = true then (some false) else (redlinelaw19_ApplyStricts.l0 k x0 x1 x5 x6 x7 0)
def redlinelaw19_ApplyStricts.l0 : Nat → List (S24) → List ByteArray → List (S24) → List ByteArray → List ByteArray → Int → Option (Bool)
  | 0, _, _, _, _, _, _ => none
  | k + 1, x0, x1, x5, x6, x7, x11 => if x11 < (x7.length : Int) then (if 0 ≤ x11 then (redlinelaw19_ApplyStricts.l0 k x0 x1 x5 x6 (x7.set (x11 : Int).toNat (⟨#[115, 112, 111, 105, 108, 116]⟩ : ByteArray)) (wrap64 (x11 + 1))) else (none)) else ((redlineref11_SameHunks.f k x5 x0).bind fun t526 => (if t526 = true then ((redlineref01_SameStrings.f k x1 x6).bind fun t527 => (some t527)) else (some false)))
end
def redlinelaw19_ApplyStricts.f (k : Nat) (l0 : List (S24)) (l1 : List ByteArray) : Option (Bool) := (redlineref11_Copy.f k l0).bind fun t505 => ((some (([] : List ByteArray) : List ByteArray)).bind fun y508 => (if y508.length + l1.length < 8796093022208 then ((some (y508 ++ l1 : List ByteArray)).bind fun y511 => ((apply_Strict.f k t505 y511).bind fun bt514 => ((redlineref19_Strict.f k l0 l1).bind fun bt518 => (if bt514.2 = bt518.2 then ((redlineref01_SameStrings.f k bt514.1 bt518.1).bind fun t522 => (if t522 = true then ((apply_Applied.f k t505 y511).bind fun t523 => ((redlineref19_Applied.f k l0 l1).bind fun t524 => (redlinelaw19_ApplyStricts.j0 k l0 l1 t505 y511 bt514.1 (t523 != t524)))) else (redlinelaw19_ApplyStricts.j0 k l0 l1 t505 y511 bt514.1 true))) else (redlinelaw19_ApplyStricts.j0 k l0 l1 t505 y511 bt514.1 true))))) else (none)))
set_option maxHeartbeats 8000000 in
set_option maxRecDepth 100000 in
theorem redlinelaw19_ApplyStricts.calls (k : Nat) (A0 : Option Addr) (c0 : Nat) (l0 : List (S24)) (A1 : Option Addr) (c1 : Nat) (l1 : List ByteArray) (r : Bool) (w : World) (hr0 : Kd.C k24 w A0 l0.length l0) (hc0 : l0.length ≤ c0) (hr1 : Kd.C Kd.string w A1 l1.length l1) (hc1 : l1.length ≤ c1) (h : redlinelaw19_ApplyStricts.f k l0 l1 = some r) :
    Calls Try.prog 7 #[.slice A0 l0.length c0, .slice A1 l1.length c1] w fun e w' => e = .returned (.bool r) ∧ Below w.heap.size w w' := by
  have HR0 := Aside0.mk hr0
  have HC0 := Aside0.mk hc0
  clear hr0 hc0
  have HR1 := Aside0.mk hr1
  have HC1 := Aside0.mk hc1
  clear hr1 hc1
  have HB := Aside0.mk (Below.refl w.heap.size w)
  have H : ((redlineref11_Copy.f k l0).bind fun t505 => ((some (([] : List ByteArray) : List ByteArray)).bind fun y508 => (if y508.length + l1.length < 8796093022208 then ((some (y508 ++ l1 : List ByteArray)).bind fun y511 => ((apply_Strict.f k t505 y511).bind fun bt514 => ((redlineref19_Strict.f k l0 l1).bind fun bt518 => (if bt514.2 = bt518.2 then ((redlineref01_SameStrings.f k bt514.1 bt518.1).bind fun t522 => (if t522 = true then ((apply_Applied.f k t505 y511).bind fun t523 => ((redlineref19_Applied.f k l0 l1).bind fun t524 => (redlinelaw19_ApplyStricts.j0 k l0 l1 t505 y511 bt514.1 (t523 != t524)))) else (redlinelaw19_ApplyStricts.j0 k l0 l1 t505 y511 bt514.1 true))) else (redlinelaw19_ApplyStricts.j0 k l0 l1 t505 y511 bt514.1 true))))) else (none)))) = some r := h
  clear h
  replace H := Option.bind_eq_some_iff.mp H
  obtain ⟨t505, A30, H⟩ := H
  replace H : ((some (([] : List ByteArray) : List ByteArray)).bind fun y508 => (if y508.length + l1.length < 8796093022208 then ((some (y508 ++ l1 : List ByteArray)).bind fun y511 => ((apply_Strict.f k t505 y511).bind fun bt514 => ((redlineref19_Strict.f k l0 l1).bind fun bt518 => (if bt514.2 = bt518.2 then ((redlineref01_SameStrings.f k bt514.1 bt518.1).bind fun t522 => (if t522 = true then ((apply_Applied.f k t505 y511).bind fun t523 => ((redlineref19_Applied.f k l0 l1).bind fun t524 => (redlinelaw19_ApplyStricts.j0 k l0 l1 t505 y511 bt514.1 (t523 != t524)))) else (redlinelaw19_ApplyStricts.j0 k l0 l1 t505 y511 bt514.1 true))) else (redlinelaw19_ApplyStricts.j0 k l0 l1 t505 y511 bt514.1 true))))) else (none))) = some r := H
  have A3 := Aside0.mk A30
  clear A30
  obtain ⟨y508, hy508⟩ : ∃ y_ : List ByteArray, y_ = (([] : List ByteArray)) := ⟨_, rfl⟩
  replace H : (if y508.length + l1.length < 8796093022208 then ((some (y508 ++ l1 : List ByteArray)).bind fun y511 => ((apply_Strict.f k t505 y511).bind fun bt514 => ((redlineref19_Strict.f k l0 l1).bind fun bt518 => (if bt514.2 = bt518.2 then ((redlineref01_SameStrings.f k bt514.1 bt518.1).bind fun t522 => (if t522 = true then ((apply_Applied.f k t505 y511).bind fun t523 => ((redlineref19_Applied.f k l0 l1).bind fun t524 => (redlinelaw19_ApplyStricts.j0 k l0 l1 t505 y511 bt514.1 (t523 != t524)))) else (redlinelaw19_ApplyStricts.j0 k l0 l1 t505 y511 bt514.1 true))) else (redlinelaw19_ApplyStricts.j0 k l0 l1 t505 y511 bt514.1 true))))) else (none)) = some r := by first | (rw [hy508]; with_reducible exact H) | (have H2_ := (Option.bind_some _ _).symm.trans H; rw [hy508]; with_reducible exact H2_) | (have H2_ := (Option.bind_some _ _).symm.trans H; with_reducible exact H2_) | with_reducible exact H | (rw [hy508]; exact H) | exact H
  have Ny508 := Aside0.mk hy508
  clear hy508
  by_cases c4 : y508.length + l1.length < 8796093022208
  · rw [if_pos c4] at H
    have LMc4 := Aside0.mk c4
    clear c4
    obtain ⟨y511, hy511⟩ : ∃ y_ : List ByteArray, y_ = (y508 ++ l1) := ⟨_, rfl⟩
    replace H : ((apply_Strict.f k t505 y511).bind fun bt514 => ((redlineref19_Strict.f k l0 l1).bind fun bt518 => (if bt514.2 = bt518.2 then ((redlineref01_SameStrings.f k bt514.1 bt518.1).bind fun t522 => (if t522 = true then ((apply_Applied.f k t505 y511).bind fun t523 => ((redlineref19_Applied.f k l0 l1).bind fun t524 => (redlinelaw19_ApplyStricts.j0 k l0 l1 t505 y511 bt514.1 (t523 != t524)))) else (redlinelaw19_ApplyStricts.j0 k l0 l1 t505 y511 bt514.1 true))) else (redlinelaw19_ApplyStricts.j0 k l0 l1 t505 y511 bt514.1 true)))) = some r := by first | (rw [hy511]; with_reducible exact H) | (have H2_ := (Option.bind_some _ _).symm.trans H; rw [hy511]; with_reducible exact H2_) | (have H2_ := (Option.bind_some _ _).symm.trans H; with_reducible exact H2_) | with_reducible exact H | (rw [hy511]; exact H) | exact H
    have Ny511 := Aside0.mk hy511
    clear hy511
    replace H := Option.bind_eq_some_iff.mp H
    obtain ⟨⟨t514, t515⟩, A50, H⟩ := H
    replace H : ((redlineref19_Strict.f k l0 l1).bind fun bt518 => (if t515 = bt518.2 then ((redlineref01_SameStrings.f k t514 bt518.1).bind fun t522 => (if t522 = true then ((apply_Applied.f k t505 y511).bind fun t523 => ((redlineref19_Applied.f k l0 l1).bind fun t524 => (redlinelaw19_ApplyStricts.j0 k l0 l1 t505 y511 t514 (t523 != t524)))) else (redlinelaw19_ApplyStricts.j0 k l0 l1 t505 y511 t514 true))) else (redlinelaw19_ApplyStricts.j0 k l0 l1 t505 y511 t514 true))) = some r := H
    have A5 := Aside0.mk A50
    clear A50
    replace H := Option.bind_eq_some_iff.mp H
    obtain ⟨⟨t518, t519⟩, A60, H⟩ := H
    replace H : (if t515 = t519 then ((redlineref01_SameStrings.f k t514 t518).bind fun t522 => (if t522 = true then ((apply_Applied.f k t505 y511).bind fun t523 => ((redlineref19_Applied.f k l0 l1).bind fun t524 => (redlinelaw19_ApplyStricts.j0 k l0 l1 t505 y511 t514 (t523 != t524)))) else (redlinelaw19_ApplyStricts.j0 k l0 l1 t505 y511 t514 true))) else (redlinelaw19_ApplyStricts.j0 k l0 l1 t505 y511 t514 true)) = some r := H
    have A6 := Aside0.mk A60
    clear A60
    have HC7 := Aside0.mk H
    clear H
    go_enter Try.func7, Try.ntmps7
    go_upto_region 4 with (first | ((with_reducible refine gate_callee (f := 11) rfl ?_); refine goesL_ (some 13) rfl rfl Try.func11 (by kernel_rfl) rfl #[.slice A0 l0.length c0] rfl (by (try simp only [List.map_toArray, List.map_cons, List.map_nil]); first | done | rfl | (simp only [List.length_drop, List.length_take]; rfl)) ?_; (with_reducible refine (redlineref11_Copy.calls k _ _ l0 t505 _ ?side1 ?side2 A3.out).mono ?_); (case side1 => repeat (first | exact HR0.out | (with_reducible refine Kd.C_alloc ?_ _) | (with_reducible refine Kd.C_drewN ?_ _) | (with_reducible refine Kd.C_drew ?_))); (case side2 => exact HC0.out); rintro e w8 ⟨v506, rfl, ho0, hb⟩; refine ⟨_, rfl, ?_⟩; have n0_ := Aside0.mk (Kd.S_lower ho0 (below_size (by repeat (first | (with_reducible first | exact HB.out | apply below_alloc | apply pw_below_drewN | apply below_drew1) | exact HB.out)))); have n1_ := Aside0.mk (below_step (by repeat (first | (with_reducible first | exact HB.out | apply below_alloc | apply pw_below_drewN | apply below_drew1) | exact HB.out)) hb); clear HB; have HO507 := n0_; have HB := n1_; clear n0_ n1_; (try clear hb); (try clear hb2); (try clear hk); (try clear hi); (try clear ho0)) | ((with_reducible refine gate_dst (N := 14) rfl ?_); refine Kd.R_lit Kd.string _ 9 ?hg (N := 14) ?hd (xs := ([] : List ByteArray)) (inner := []) (ok := fun _ => True) (okp := fun _ => True) ?hr ?hp (fun _ hk => hk) trivial (Below.refl _ _) (Nat.le_refl _) (by simp) ?_; (case hd => rfl); (case hg => rfl); (case hr => first | (go_simp; done) | (go_simp; rfl)); (case hp => exact (Reps.none _ _)); intro v509 w9 ho10 hb hg_ hnew_; clear hg_ hnew_; (first | rw [← Ny508.out] at ho10 | (simp only [Int.reduceToNat] at ho10; rw [← Ny508.out] at ho10)); have n0_ := Aside0.mk (Kd.S_below (by (with_reducible repeat (first | apply Kd.S_alloc | apply Kd.S_drewN | apply Kd.S_drew)); exact HO507.out) hb); have n1_ := Aside0.mk (Kd.R_lower ho10 (below_size (by repeat (first | (with_reducible first | exact HB.out | apply below_alloc | apply pw_below_drewN | apply below_drew1) | exact HB.out)))); have n2_ := Aside0.mk (below_step (by repeat (first | (with_reducible first | exact HB.out | apply below_alloc | apply pw_below_drewN | apply below_drew1) | exact HB.out)) hb); clear HO507; clear HB; have HO507 := n0_; have HO510 := n1_; have HB := n2_; clear n0_ n1_ n2_; clear hb ho10) | ((with_reducible refine gate_builtin (b := .append) (xs := #[.tmp 14, .tmp 15]) rfl ?_); at_builtin; refine Kd.R_append_rows Kd.string (w0 := w) w.heap.size rfl (.tmp 14) (.tmp 15) 27 9 (.string ⟨#[]⟩) 16 rfl Try.underlying27 info9 rfl (by decide) (by omega) v509 y508 l1 _ _ _ (fun _ => True) (fun _ => False) rfl rfl ?aO ?aR (fun _ _ h => h) (fun _ h => h.elim) ?aF ?aB ?aS ?aL ?_; (case aR => repeat (first | exact (Kd.C_below HR1.out HB.out) | (with_reducible refine Kd.C_alloc ?_ _) | (with_reducible refine Kd.C_drewN ?_ _) | (with_reducible refine Kd.C_drew ?_))); (case aB => exact (by repeat (first | (with_reducible first | exact HB.out | apply below_alloc | apply pw_below_drewN | apply below_drew1) | exact HB.out))); (case aF => exact (fun _ _ => trivial)); (case aO => exact (by (with_reducible repeat (first | apply Kd.R_alloc | apply Kd.R_drewN | apply Kd.R_drew)); exact HO510.out)); (case aS => exact (below_size (by repeat (first | (with_reducible first | exact HB.out | apply below_alloc | apply pw_below_drewN | apply below_drew1) | exact HB.out)))); (case aL => have := LMc4.out; omega); intro v512 w11 ho hb hg hat; rw [← Ny511.out] at ho; have n0_ := Aside0.mk (Kd.S_over' (by (with_reducible repeat (first | apply Kd.S_alloc | apply Kd.S_drewN | apply Kd.S_drew)); exact HO507.out) (Kd.R_typed (by (with_reducible repeat (first | apply Kd.R_alloc | apply Kd.R_drewN | apply Kd.R_drew)); exact HO510.out)) (by decide) hg); have n1_ := Aside0.mk (hb); have n2_ := Aside0.mk (ho); clear HO507; clear HB; clear HO510; have HO507 := n0_; have HB := n1_; have HO513 := n2_; clear n0_ n1_ n2_; clear ho hb hg hat; obtain ⟨Ao12, co12, eo12⟩ := Kd.S_slice HO507.out; subst eo12; obtain ⟨Ao13, co13, eo13⟩ := Kd.R_slice HO513.out; subst eo13) | ((with_reducible refine gate_callee (f := 32) rfl ?_); refine goesL_ (some 20) rfl rfl Try.func32 (by kernel_rfl) rfl #[.slice Ao12 t505.length co12, .slice Ao13 y511.length co13] rfl (by (try simp only [List.map_toArray, List.map_cons, List.map_nil]); first | done | rfl | (simp only [List.length_drop, List.length_take]; rfl)) ?_; (with_reducible refine (apply_Strict.calls k _ _ t505 _ _ y511 t514 t515 _ ?side1 ?side2 ?side3 ?side4 A5.out).mono ?_); (case side1 => repeat (first | exact (Kd.S_reads' HO507.out).2.2 | (with_reducible refine Kd.C_alloc ?_ _) | (with_reducible refine Kd.C_drewN ?_ _) | (with_reducible refine Kd.C_drew ?_))); (case side2 => exact (Kd.S_reads' HO507.out).2.1); (case side3 => repeat (first | exact (Kd.R_reads' HO513.out).2.2 | (with_reducible refine Kd.C_alloc ?_ _) | (with_reducible refine Kd.C_drewN ?_ _) | (with_reducible refine Kd.C_drew ?_))); (case side4 => exact (Kd.R_reads' HO513.out).2.1); rintro e w14 ⟨v516, rfl, ho0, hb⟩; refine ⟨_, rfl, ?_⟩; have n0_ := Aside0.mk (Kd.S_below (by (with_reducible repeat (first | apply Kd.S_alloc | apply Kd.S_drewN | apply Kd.S_drew)); exact HO507.out) hb); have n1_ := Aside0.mk (Kd.R_elder' (by (with_reducible repeat (first | apply Kd.R_alloc | apply Kd.R_drewN | apply Kd.R_drew)); exact HO513.out) (Kd.R_base ho0) hb); have n2_ := Aside0.mk (Kd.R_lower (Kd.R_new' ho0 (Kd.R_lt (by (with_reducible repeat (first | apply Kd.R_alloc | apply Kd.R_drewN | apply Kd.R_drew)); exact HO513.out))) (below_size (by repeat (first | (with_reducible first | exact HB.out | apply below_alloc | apply pw_below_drewN | apply below_drew1) | exact HB.out)))); have n3_ := Aside0.mk (below_step (by repeat (first | (with_reducible first | exact HB.out | apply below_alloc | apply pw_below_drewN | apply below_drew1) | exact HB.out)) hb); clear HO507; clear HO513; clear HB; have HO507 := n0_; have HO513 := n1_; have HO517 := n2_; have HB := n3_; clear n0_ n1_ n2_ n3_; (try clear hb); (try clear hb2); (try clear hk); (try clear hi); (try clear ho0)) | ((with_reducible refine gate_callee (f := 33) rfl ?_); refine goesL_ (some 26) rfl rfl Try.func33 (by kernel_rfl) rfl #[.slice A0 l0.length c0, .slice A1 l1.length c1] rfl (by (try simp only [List.map_toArray, List.map_cons, List.map_nil]); first | done | rfl | (simp only [List.length_drop, List.length_take]; rfl)) ?_; (with_reducible refine (redlineref19_Strict.calls k _ _ l0 _ _ l1 t518 t519 _ ?side1 ?side2 ?side3 ?side4 A6.out).mono ?_); (case side1 => repeat (first | exact (Kd.C_below HR0.out HB.out) | (with_reducible refine Kd.C_alloc ?_ _) | (with_reducible refine Kd.C_drewN ?_ _) | (with_reducible refine Kd.C_drew ?_))); (case side2 => exact HC0.out); (case side3 => repeat (first | exact (Kd.C_below HR1.out HB.out) | (with_reducible refine Kd.C_alloc ?_ _) | (with_reducible refine Kd.C_drewN ?_ _) | (with_reducible refine Kd.C_drew ?_))); (case side4 => exact HC1.out); rintro e w15 ⟨v520, rfl, ho0, hb⟩; refine ⟨_, rfl, ?_⟩; have n0_ := Aside0.mk (Kd.S_below (by (with_reducible repeat (first | apply Kd.S_alloc | apply Kd.S_drewN | apply Kd.S_drew)); exact HO507.out) hb); have n1_ := Aside0.mk (Kd.R_elder' (by (with_reducible repeat (first | apply Kd.R_alloc | apply Kd.R_drewN | apply Kd.R_drew)); exact HO513.out) (Kd.R_base ho0) hb); have n2_ := Aside0.mk (Kd.R_elder' (by (with_reducible repeat (first | apply Kd.R_alloc | apply Kd.R_drewN | apply Kd.R_drew)); exact HO517.out) (Kd.R_base ho0) hb); have n3_ := Aside0.mk (Kd.R_lower (Kd.R_new' (Kd.R_new' ho0 (Kd.R_lt (by (with_reducible repeat (first | apply Kd.R_alloc | apply Kd.R_drewN | apply Kd.R_drew)); exact HO513.out))) (Kd.R_lt (by (with_reducible repeat (first | apply Kd.R_alloc | apply Kd.R_drewN | apply Kd.R_drew)); exact HO517.out))) (below_size (by repeat (first | (with_reducible first | exact HB.out | apply below_alloc | apply pw_below_drewN | apply below_drew1) | exact HB.out)))); have n4_ := Aside0.mk (below_step (by repeat (first | (with_reducible first | exact HB.out | apply below_alloc | apply pw_below_drewN | apply below_drew1) | exact HB.out)) hb); clear HO507; clear HO513; clear HO517; clear HB; have HO507 := n0_; have HO513 := n1_; have HO517 := n2_; have HO521 := n3_; have HB := n4_; clear n0_ n1_ n2_ n3_ n4_; (try clear hb); (try clear hb2); (try clear hk); (try clear hi); (try clear ho0)))
    (try simp only [Act.put, List.setIfInBounds_toArray, List.set_cons_zero, List.set_cons_succ])
    go_cut [46] (fun v46 wc => ∃ (kq : Nat) (x46_6 : Bool), v46 = .bool x46_6 ∧ Aside0 (redlinelaw19_ApplyStricts.j0 kq l0 l1 t505 y511 t514 x46_6 = some r) ∧ Aside0 (kq ≤ k) ∧ Aside0 (Kd.S k24 24 wc w.heap.size (fun _ => True) (.slice Ao12 t505.length co12) t505) ∧ Aside0 (Kd.R Kd.string 9 wc w.heap.size (fun k_ => some k_ ≠ (v516 : Value).ownBlock) (.slice Ao13 y511.length co13) y511) ∧ Aside0 (Kd.R Kd.string 9 wc w.heap.size (fun k_ => some k_ ≠ ((.slice Ao13 y511.length co13) : Value).ownBlock) v516 t514) ∧ Aside0 (Below w.heap.size w wc))
    case first =>
      have H := HC7.out
      clear HC7
      by_cases c16 : t515 = t519
      · rw [if_pos c16] at H
        have c16b0 : (t515 == t519) = true := beq_iff_eq.mpr c16
        have c16b1 : (t515 != t519) = false := bne_eq_false_iff_eq.mpr c16
        clear c16
        (first | rw [c16b0] | (simp only [i64_w, i32_w]; rw [c16b0]) | skip)
        replace H := Option.bind_eq_some_iff.mp H
        obtain ⟨t522, A170, H⟩ := H
        replace H : (if t522 = true then ((apply_Applied.f k t505 y511).bind fun t523 => ((redlineref19_Applied.f k l0 l1).bind fun t524 => (redlinelaw19_ApplyStricts.j0 k l0 l1 t505 y511 t514 (t523 != t524)))) else (redlinelaw19_ApplyStricts.j0 k l0 l1 t505 y511 t514 true)) = some r := H
        have A17 := Aside0.mk A170
        clear A170
        by_cases c18 : t522 = true
        · subst c18
          have H1 : ((apply_Applied.f k t505 y511).bind fun t523 => ((redlineref19_Applied.f k l0 l1).bind fun t524 => (redlinelaw19_ApplyStricts.j0 k l0 l1 t505 y511 t514 (t523 != t524)))) = some r := by rw [if_pos rfl] at H; exact H
          clear H
          have H := H1
          clear H1
          replace H := Option.bind_eq_some_iff.mp H
          obtain ⟨t523, A190, H⟩ := H
          replace H : ((redlineref19_Applied.f k l0 l1).bind fun t524 => (redlinelaw19_ApplyStricts.j0 k l0 l1 t505 y511 t514 (t523 != t524))) = some r := H
          have A19 := Aside0.mk A190
          clear A190
          replace H := Option.bind_eq_some_iff.mp H
          obtain ⟨t524, A200, H⟩ := H
          replace H : (redlinelaw19_ApplyStricts.j0 k l0 l1 t505 y511 t514 (t523 != t524)) = some r := H
          have A20 := Aside0.mk A200
          clear A200
          have H' := Aside0.mk H
          clear H
          obtain ⟨Ao21, co21, eo21⟩ := Kd.R_slice HO517.out
          subst eo21
          obtain ⟨Ao22, co22, eo22⟩ := Kd.R_slice HO521.out
          subst eo22
          go_wp2_with (first | (go_at_call 16; (with_reducible refine (redlineref01_SameStrings.calls k _ _ t514 _ _ t518 true _ ?side1 ?side2 ?side3 ?side4 A17.out).mono ?_); (case side1 => repeat (first | exact (Kd.R_reads' HO517.out).2.2 | (with_reducible refine Kd.C_alloc ?_ _) | (with_reducible refine Kd.C_drewN ?_ _) | (with_reducible refine Kd.C_drew ?_))); (case side2 => exact (Kd.R_reads' HO517.out).2.1); (case side3 => repeat (first | exact (Kd.R_reads' HO521.out).2.2 | (with_reducible refine Kd.C_alloc ?_ _) | (with_reducible refine Kd.C_drewN ?_ _) | (with_reducible refine Kd.C_drew ?_))); (case side4 => exact (Kd.R_reads' HO521.out).2.1); rintro e w' ⟨rfl, ⟨nd, rfl⟩⟩) | (go_at_call 34; (with_reducible refine (apply_Applied.calls k _ _ t505 _ _ y511 t523 _ ?side1 ?side2 ?side3 ?side4 A19.out).mono ?_); (case side1 => repeat (first | exact (Kd.S_reads' HO507.out).2.2 | (with_reducible refine Kd.C_alloc ?_ _) | (with_reducible refine Kd.C_drewN ?_ _) | (with_reducible refine Kd.C_drew ?_))); (case side2 => exact (Kd.S_reads' HO507.out).2.1); (case side3 => repeat (first | exact (Kd.R_reads' HO513.out).2.2 | (with_reducible refine Kd.C_alloc ?_ _) | (with_reducible refine Kd.C_drewN ?_ _) | (with_reducible refine Kd.C_drew ?_))); (case side4 => exact (Kd.R_reads' HO513.out).2.1); rintro e w23 ⟨rfl, hb⟩; have n0_ := Aside0.mk (Kd.S_below (by (with_reducible repeat (first | apply Kd.S_alloc | apply Kd.S_drewN | apply Kd.S_drew)); exact HO507.out) hb); have n1_ := Aside0.mk (Kd.R_below (by (with_reducible repeat (first | apply Kd.R_alloc | apply Kd.R_drewN | apply Kd.R_drew)); exact HO513.out) hb); have n2_ := Aside0.mk (Kd.R_below (by (with_reducible repeat (first | apply Kd.R_alloc | apply Kd.R_drewN | apply Kd.R_drew)); exact HO517.out) hb); have n3_ := Aside0.mk (Kd.R_below (by (with_reducible repeat (first | apply Kd.R_alloc | apply Kd.R_drewN | apply Kd.R_drew)); exact HO521.out) hb); have n4_ := Aside0.mk (below_step (by repeat (first | (with_reducible first | exact HB.out | apply below_alloc | apply pw_below_drewN | apply below_drew1) | exact HB.out)) hb); clear HO507; clear HO513; clear HO517; clear HO521; clear HB; have HO507 := n0_; have HO513 := n1_; have HO517 := n2_; have HO521 := n3_; have HB := n4_; clear n0_ n1_ n2_ n3_ n4_; (try clear hb); (try clear hb2); (try clear hk); (try clear hi)) | (go_at_call 35; (with_reducible refine (redlineref19_Applied.calls k _ _ l0 _ _ l1 t524 _ ?side1 ?side2 ?side3 ?side4 A20.out).mono ?_); (case side1 => repeat (first | exact (Kd.C_below HR0.out HB.out) | (with_reducible refine Kd.C_alloc ?_ _) | (with_reducible refine Kd.C_drewN ?_ _) | (with_reducible refine Kd.C_drew ?_))); (case side2 => exact HC0.out); (case side3 => repeat (first | exact (Kd.C_below HR1.out HB.out) | (with_reducible refine Kd.C_alloc ?_ _) | (with_reducible refine Kd.C_drewN ?_ _) | (with_reducible refine Kd.C_drew ?_))); (case side4 => exact HC1.out); rintro e w24 ⟨rfl, hb⟩; have n0_ := Aside0.mk (Kd.S_below (by (with_reducible repeat (first | apply Kd.S_alloc | apply Kd.S_drewN | apply Kd.S_drew)); exact HO507.out) hb); have n1_ := Aside0.mk (Kd.R_below (by (with_reducible repeat (first | apply Kd.R_alloc | apply Kd.R_drewN | apply Kd.R_drew)); exact HO513.out) hb); have n2_ := Aside0.mk (Kd.R_below (by (with_reducible repeat (first | apply Kd.R_alloc | apply Kd.R_drewN | apply Kd.R_drew)); exact HO517.out) hb); have n3_ := Aside0.mk (Kd.R_below (by (with_reducible repeat (first | apply Kd.R_alloc | apply Kd.R_drewN | apply Kd.R_drew)); exact HO521.out) hb); have n4_ := Aside0.mk (below_step (by repeat (first | (with_reducible first | exact HB.out | apply below_alloc | apply pw_below_drewN | apply below_drew1) | exact HB.out)) hb); clear HO507; clear HO513; clear HO517; clear HO521; clear HB; have HO507 := n0_; have HO513 := n1_; have HO517 := n2_; have HO521 := n3_; have HB := n4_; clear n0_ n1_ n2_ n3_ n4_; (try clear hb); (try clear hb2); (try clear hk); (try clear hi)))
          go_meet
          case rel => exact ⟨_, ((t523 != t524)), (by first | rfl | (simp; done) | (simp [*]; done)), H', ⟨by first | omega | exact Nat.le_refl _⟩, ⟨by (with_reducible repeat (first | apply Kd.S_alloc | apply Kd.S_drewN | apply Kd.S_drew)); exact HO507.out⟩, ⟨by (with_reducible repeat (first | apply Kd.R_alloc | apply Kd.R_drewN | apply Kd.R_drew)); exact Kd.R_mono HO513.out (fun _ hk => hk.1.2)⟩, ⟨by (with_reducible repeat (first | apply Kd.R_alloc | apply Kd.R_drewN | apply Kd.R_drew)); exact Kd.R_mono HO517.out (fun _ hk => hk.1.2)⟩, ⟨by repeat (first | (with_reducible first | exact HB.out | apply below_alloc | apply pw_below_drewN | apply below_drew1) | exact HB.out)⟩⟩
        · replace c18 := Bool.eq_false_iff.mpr c18
          subst c18
          have H1 : (redlinelaw19_ApplyStricts.j0 k l0 l1 t505 y511 t514 true) = some r := by rw [if_neg (show ¬ (false = true) by decide)] at H; exact H
          clear H
          have H := H1
          clear H1
          have H' := Aside0.mk H
          clear H
          obtain ⟨Ao25, co25, eo25⟩ := Kd.R_slice HO517.out
          subst eo25
          obtain ⟨Ao26, co26, eo26⟩ := Kd.R_slice HO521.out
          subst eo26
          go_wp2_with (first | (go_at_call 16; (with_reducible refine (redlineref01_SameStrings.calls k _ _ t514 _ _ t518 false _ ?side1 ?side2 ?side3 ?side4 A17.out).mono ?_); (case side1 => repeat (first | exact (Kd.R_reads' HO517.out).2.2 | (with_reducible refine Kd.C_alloc ?_ _) | (with_reducible refine Kd.C_drewN ?_ _) | (with_reducible refine Kd.C_drew ?_))); (case side2 => exact (Kd.R_reads' HO517.out).2.1); (case side3 => repeat (first | exact (Kd.R_reads' HO521.out).2.2 | (with_reducible refine Kd.C_alloc ?_ _) | (with_reducible refine Kd.C_drewN ?_ _) | (with_reducible refine Kd.C_drew ?_))); (case side4 => exact (Kd.R_reads' HO521.out).2.1); rintro e w' ⟨rfl, ⟨nd, rfl⟩⟩))
          go_meet
          case rel => exact ⟨_, (true), (by first | rfl | (simp; done) | (simp [*]; done)), H', ⟨by first | omega | exact Nat.le_refl _⟩, ⟨by (with_reducible repeat (first | apply Kd.S_alloc | apply Kd.S_drewN | apply Kd.S_drew)); exact HO507.out⟩, ⟨by (with_reducible repeat (first | apply Kd.R_alloc | apply Kd.R_drewN | apply Kd.R_drew)); exact Kd.R_mono HO513.out (fun _ hk => hk.1.2)⟩, ⟨by (with_reducible repeat (first | apply Kd.R_alloc | apply Kd.R_drewN | apply Kd.R_drew)); exact Kd.R_mono HO517.out (fun _ hk => hk.1.2)⟩, ⟨by repeat (first | (with_reducible first | exact HB.out | apply below_alloc | apply pw_below_drewN | apply below_drew1) | exact HB.out)⟩⟩
      · rw [if_neg c16] at H
        have c16b0 : (t515 == t519) = false := beq_eq_false_iff_ne.mpr c16
        have c16b1 : (t515 != t519) = true := bne_iff_ne.mpr c16
        (first | rw [c16b0] | (simp only [i64_w, i32_w]; rw [c16b0]) | skip)
        have H' := Aside0.mk H
        clear H
        go_wp2
        go_meet
        case rel => exact ⟨_, (true), (by first | rfl | (simp; done) | (simp [*]; done)), H', ⟨by first | omega | exact Nat.le_refl _⟩, ⟨by (with_reducible repeat (first | apply Kd.S_alloc | apply Kd.S_drewN | apply Kd.S_drew)); exact HO507.out⟩, ⟨by (with_reducible repeat (first | apply Kd.R_alloc | apply Kd.R_drewN | apply Kd.R_drew)); exact Kd.R_mono HO513.out (fun _ hk => hk.1.2)⟩, ⟨by (with_reducible repeat (first | apply Kd.R_alloc | apply Kd.R_drewN | apply Kd.R_drew)); exact Kd.R_mono HO517.out (fun _ hk => hk.1.2)⟩, ⟨by repeat (first | (with_reducible first | exact HB.out | apply below_alloc | apply pw_below_drewN | apply below_drew1) | exact HB.out)⟩⟩
    case rest =>
      clear HC7
      try clear c1
      try clear p2
      try clear c3
      try clear c4
      try clear c7
      try clear c11
      try clear c16
      try clear c16b0
      try clear c16b1
      try clear c18
      obtain ⟨kq, x46_6, rfl, HA, HJ6, HO_5, HO_6, HO_7, HB⟩ := hcut
      cases kq with
      | zero => exact absurd HA.out (by simp [redlinelaw19_ApplyStricts.j0])
      | succ kj6 =>
        have H := HA.out
        clear HA
        simp only [redlinelaw19_ApplyStricts.j0] at H
        by_cases c27 : x46_6 = true
        · subst c27
          have H1 : (some false) = some r := by rw [if_pos rfl] at H; exact H
          clear H
          have H := H1
          clear H1
          obtain rfl := Option.some.inj H
          go_wp2
          go_ret
          exact ⟨by first | rfl | (simp [errW_none, errW_some] <;> rfl) | (simp [*, errW_none, errW_some] <;> rfl), by repeat (first | (with_reducible first | exact HB.out | apply below_alloc | apply pw_below_drewN | apply below_drew1) | exact HB.out)⟩
        · replace c27 := Bool.eq_false_iff.mpr c27
          subst c27
          have H1 : (redlinelaw19_ApplyStricts.l0 kj6 l0 l1 t505 y511 t514 0) = some r := by rw [if_neg (show ¬ (false = true) by decide)] at H; exact H
          clear H
          have H := H1
          clear H1
          have H' := Aside0.mk H
          clear H
          go_wp2
          go_loopg [11] kj6 (fun kq v11 w' => ∃ (x7_2 : List ByteArray) (x11_2 : Int), v11 = .int .i64 x11_2 ∧ Aside0 (redlinelaw19_ApplyStricts.l0 kq l0 l1 t505 y511 x7_2 x11_2 = some r) ∧ Aside0 (kq ≤ kj6) ∧ Aside0 (Kd.S k24 24 w' w.heap.size (fun _ => True) (.slice Ao12 t505.length co12) t505) ∧ Aside0 (Kd.R Kd.string 9 w' w.heap.size (fun k_ => some k_ ≠ (v516 : Value).ownBlock) (.slice Ao13 y511.length co13) y511) ∧ Aside0 (Kd.R Kd.string 9 w' w.heap.size (fun k_ => some k_ ≠ ((.slice Ao13 y511.length co13) : Value).ownBlock) v516 x7_2) ∧ Aside0 (Below w.heap.size w w'))
          case atStart => exact ⟨(t514), (0), (by first | rfl | (simp; done) | (simp [*]; done)), H', ⟨Nat.le_refl _⟩, ⟨by (with_reducible repeat (first | apply Kd.S_alloc | apply Kd.S_drewN | apply Kd.S_drew)); exact HO_5.out⟩, ⟨by (with_reducible repeat (first | apply Kd.R_alloc | apply Kd.R_drewN | apply Kd.R_drew)); exact HO_6.out⟩, ⟨by (with_reducible repeat (first | apply Kd.R_alloc | apply Kd.R_drewN | apply Kd.R_drew)); exact HO_7.out⟩, ⟨by repeat (first | (with_reducible first | exact HB.out | apply below_alloc | apply pw_below_drewN | apply below_drew1) | exact HB.out)⟩⟩
          case round =>
            clear H'
            try clear c1
            try clear c2
            try clear p2
            try clear c3
            try clear c4
            try clear c7
            try clear c11
            try clear c16
            try clear c16b0
            try clear c16b1
            try clear c18
            try clear c27
            try clear p2
            obtain ⟨x7_2, x11_2, rfl, HA, HK2, HO_5, HO_6, HO_7, HB⟩ := hrel
            cases gk with
            | zero => exact absurd HA.out (by simp [redlinelaw19_ApplyStricts.l0])
            | succ k2 =>
              have H := HA.out
              clear HA
              simp only [redlinelaw19_ApplyStricts.l0] at H
              by_cases c28 : x11_2 < (x7_2.length : Int)
              · rw [if_pos c28] at H
                have c28b0 : decide (x11_2 < (x7_2.length : Int)) = true := decide_eq_true c28
                clear c28
                by_cases c29 : 0 ≤ x11_2
                · rw [if_pos c29] at H
                  have c29b0 : decide (0 ≤ x11_2) = true := decide_eq_true c29
                  clear c29
                  obtain ⟨y525, hy525⟩ : ∃ y_ : List ByteArray, y_ = (x7_2.set (x11_2 : Int).toNat (⟨#[115, 112, 111, 105, 108, 116]⟩ : ByteArray)) := ⟨_, rfl⟩
                  replace H : (redlinelaw19_ApplyStricts.l0 k2 l0 l1 t505 y511 y525 (wrap64 (x11_2 + 1))) = some r := by first | (rw [hy525]; with_reducible exact H) | (have H2_ := (Option.bind_some _ _).symm.trans H; rw [hy525]; with_reducible exact H2_) | (have H2_ := (Option.bind_some _ _).symm.trans H; with_reducible exact H2_) | with_reducible exact H | (rw [hy525]; exact H) | exact H
                  have Ny525 := Aside0.mk hy525
                  clear hy525
                  have H' := Aside0.mk H
                  clear H
                  obtain ⟨Ao31, co31, eo31⟩ := Kd.R_slice HO_7.out
                  subst eo31
                  have p30 : 0 ≤ (x11_2 : Int) := of_decide_eq_true (by first | (with_reducible assumption) | assumption)
                  have q30 : (x11_2 : Int) < ((x7_2.length : Int) : Int) := of_decide_eq_true (by first | (with_reducible assumption) | assumption)
                  obtain ⟨go30, co30, eo30, gb30, gl30, cl30, HG30⟩ := Kd.R_form HO_7.out (by omega)
                  (first | cases eo30 | (injection eo30 with ea_ en_ ec_; (first | subst ea_ | (injection ea_ with ea_; subst ea_)); subst ec_; clear en_))
                  have GB30 := Aside0.mk gb30
                  have GG30 := Aside0.mk HG30
                  clear gb30 gl30 HG30
                  obtain ⟨hx30_0, hf30_0⟩ := Kd.R_celln (⟨#[]⟩ : ByteArray) HO_7.out (x11_2 : Int) p30 q30
                  replace p30 := eq_true p30
                  replace q30 := eq_true q30
                  have HP32 := Kd.R_putg HO_7.out (x11_2 : Int) (⟨#[115, 112, 111, 105, 108, 116]⟩ : ByteArray)
                  go_wp2_with (first | ((with_reducible refine gate_store (t := 9) (p := 55) rfl ?_); refine store_event (t := 9) (p := 55) (v := ?vo_w33) (w1 := (wr.setCell ⟨go30, (x11_2 : Int).toNat, none⟩ (.string (⟨#[115, 112, 111, 105, 108, 116]⟩ : ByteArray)))) ?hg ?ho ?hn ?hr ?_; (case ho => rfl); (case hg => rfl); (case hn => rfl); (case hr => first | (go_simp; done) | (go_simp; rfl)); intro w33 hw; have hg : wr.grownBy w33 (some go30) := (by rw [hw]; exact HP32.2); have hp_ : Kd.R Kd.string 9 w33 w.heap.size (fun k_ => some k_ ≠ (.slice Ao13 y511.length co13 : Value).ownBlock) (.slice (some ⟨go30, 0, none⟩) x7_2.length co31) y525 := (by rw [hw, Ny525.out]; exact HP32.1); clear HP32; have n0_ := Aside0.mk (Kd.S_over' (v := (.slice (some ⟨go30, 0, none⟩) x7_2.length co31)) (by (with_reducible repeat (first | apply Kd.S_alloc | apply Kd.S_drewN | apply Kd.S_drew)); exact HO_5.out) (Kd.R_typed HO_7.out) (by decide) hg); have n1_ := Aside0.mk (Kd.R_after (v := (.slice (some ⟨go30, 0, none⟩) x7_2.length co31)) (v1 := (.slice (some ⟨go30, 0, none⟩) x7_2.length co31)) (ok := (fun _ => True)) (by (with_reducible repeat (first | apply Kd.R_alloc | apply Kd.R_drewN | apply Kd.R_drew)); exact Kd.R_mono HO_6.out (fun _ hk => ⟨trivial, hk⟩)) hg (.inl rfl)); have n2_ := Aside0.mk (hp_); have n3_ := Aside0.mk ((by rw [hw]; exact below_set (HB.out) GB30.out : Below w.heap.size w w33)); clear HO_5; clear HO_6; clear HO_7; clear HB; have HO_5 := n0_; have HO_6 := n1_; have HO_7 := n2_; have HB := n3_; clear n0_ n1_ n2_ n3_; clear hg hw hp_))
                  go_roundg k2
                  case measure => have := HJ6.out; have := HK2.out; omega
                  case rel => exact ⟨(y525), (wrap64 (x11_2 + 1)), (by first | rfl | (simp; done) | (simp [*]; done)), H', ⟨by have := HJ6.out; have := HK2.out; omega⟩, ⟨by (with_reducible repeat (first | apply Kd.S_alloc | apply Kd.S_drewN | apply Kd.S_drew)); exact HO_5.out⟩, ⟨by (with_reducible repeat (first | apply Kd.R_alloc | apply Kd.R_drewN | apply Kd.R_drew)); exact Kd.R_mono HO_6.out (fun _ hk => hk.2)⟩, ⟨by (with_reducible repeat (first | apply Kd.R_alloc | apply Kd.R_drewN | apply Kd.R_drew)); exact HO_7.out⟩, ⟨by repeat (first | (with_reducible first | exact HB.out | apply below_alloc | apply pw_below_drewN | apply below_drew1) | exact HB.out)⟩⟩
                · rw [if_neg c29] at H
                  exact absurd H (by simp)
              · rw [if_neg c28] at H
                have c28b0 : decide (x11_2 < (x7_2.length : Int)) = false := decide_eq_false c28
                clear c28
                replace H := Option.bind_eq_some_iff.mp H
                obtain ⟨t526, A340, H⟩ := H
                replace H : (if t526 = true then ((redlineref01_SameStrings.f k2 l1 y511).bind fun t527 => (some t527)) else (some false)) = some r := H
                have A34 := Aside0.mk A340
                clear A340
                by_cases c35 : t526 = true
                · subst c35
                  have H1 : ((redlineref01_SameStrings.f k2 l1 y511).bind fun t527 => (some t527)) = some r := by rw [if_pos rfl] at H; exact H
                  clear H
                  have H := H1
                  clear H1
                  replace H := Option.bind_eq_some_iff.mp H
                  obtain ⟨t527, A360, H⟩ := H
                  replace H : (some t527) = some r := H
                  have A36 := Aside0.mk A360
                  clear A360
                  obtain rfl := Option.some.inj H
                  obtain ⟨Ao37, co37, eo37⟩ := Kd.R_slice HO_7.out
                  subst eo37
                  go_wp2_with (first | ((with_reducible refine gate_callee (f := 29) rfl ?_); refine goesL_ (some 58) rfl rfl Try.func29 (by kernel_rfl) rfl #[.slice Ao12 t505.length co12, .slice A0 l0.length c0] rfl (by (try simp only [List.map_toArray, List.map_cons, List.map_nil]); first | done | rfl | (simp only [List.length_drop, List.length_take]; rfl)) ?_; (with_reducible refine (redlineref11_SameHunks.calls k2 _ _ t505 _ _ l0 true _ ?side1 ?side2 ?side3 ?side4 A34.out).mono ?_); (case side1 => repeat (first | exact (Kd.S_reads' HO_5.out).2.2 | (with_reducible refine Kd.C_alloc ?_ _) | (with_reducible refine Kd.C_drewN ?_ _) | (with_reducible refine Kd.C_drew ?_))); (case side2 => exact (Kd.S_reads' HO_5.out).2.1); (case side3 => repeat (first | exact (Kd.C_below HR0.out HB.out) | (with_reducible refine Kd.C_alloc ?_ _) | (with_reducible refine Kd.C_drewN ?_ _) | (with_reducible refine Kd.C_drew ?_))); (case side4 => exact HC0.out); rintro e w38 ⟨rfl, hb⟩; refine ⟨_, rfl, ?_⟩; have n0_ := Aside0.mk (Kd.S_below (by (with_reducible repeat (first | apply Kd.S_alloc | apply Kd.S_drewN | apply Kd.S_drew)); exact HO_5.out) hb); have n1_ := Aside0.mk (Kd.R_below (by (with_reducible repeat (first | apply Kd.R_alloc | apply Kd.R_drewN | apply Kd.R_drew)); exact HO_6.out) hb); have n2_ := Aside0.mk (Kd.R_below (by (with_reducible repeat (first | apply Kd.R_alloc | apply Kd.R_drewN | apply Kd.R_drew)); exact HO_7.out) hb); have n3_ := Aside0.mk (below_step (by repeat (first | (with_reducible first | exact HB.out | apply below_alloc | apply pw_below_drewN | apply below_drew1) | exact HB.out)) hb); clear HO_5; clear HO_6; clear HO_7; clear HB; have HO_5 := n0_; have HO_6 := n1_; have HO_7 := n2_; have HB := n3_; clear n0_ n1_ n2_ n3_; (try clear hb); (try clear hb2); (try clear hk); (try clear hi)) | (go_at_call 16; (with_reducible refine (redlineref01_SameStrings.calls k2 _ _ l1 _ _ y511 t527 _ ?side1 ?side2 ?side3 ?side4 A36.out).mono ?_); (case side1 => repeat (first | exact (Kd.C_below HR1.out HB.out) | (with_reducible refine Kd.C_alloc ?_ _) | (with_reducible refine Kd.C_drewN ?_ _) | (with_reducible refine Kd.C_drew ?_))); (case side2 => exact HC1.out); (case side3 => repeat (first | exact (Kd.R_reads' HO_6.out).2.2 | (with_reducible refine Kd.C_alloc ?_ _) | (with_reducible refine Kd.C_drewN ?_ _) | (with_reducible refine Kd.C_drew ?_))); (case side4 => exact (Kd.R_reads' HO_6.out).2.1); rintro e w' ⟨rfl, ⟨nd, rfl⟩⟩))
                  go_ret
                  exact ⟨by first | rfl | (simp [errW_none, errW_some] <;> rfl) | (simp [*, errW_none, errW_some] <;> rfl), by repeat (first | (with_reducible first | exact HB.out | apply below_alloc | apply pw_below_drewN | apply below_drew1) | exact HB.out)⟩
                · replace c35 := Bool.eq_false_iff.mpr c35
                  subst c35
                  have H1 : (some false) = some r := by rw [if_neg (show ¬ (false = true) by decide)] at H; exact H
                  clear H
                  have H := H1
                  clear H1
                  obtain rfl := Option.some.inj H
                  obtain ⟨Ao39, co39, eo39⟩ := Kd.R_slice HO_7.out
                  subst eo39
                  go_wp2_with (first | ((with_reducible refine gate_callee (f := 29) rfl ?_); refine goesL_ (some 58) rfl rfl Try.func29 (by kernel_rfl) rfl #[.slice Ao12 t505.length co12, .slice A0 l0.length c0] rfl (by (try simp only [List.map_toArray, List.map_cons, List.map_nil]); first | done | rfl | (simp only [List.length_drop, List.length_take]; rfl)) ?_; (with_reducible refine (redlineref11_SameHunks.calls k2 _ _ t505 _ _ l0 false _ ?side1 ?side2 ?side3 ?side4 A34.out).mono ?_); (case side1 => repeat (first | exact (Kd.S_reads' HO_5.out).2.2 | (with_reducible refine Kd.C_alloc ?_ _) | (with_reducible refine Kd.C_drewN ?_ _) | (with_reducible refine Kd.C_drew ?_))); (case side2 => exact (Kd.S_reads' HO_5.out).2.1); (case side3 => repeat (first | exact (Kd.C_below HR0.out HB.out) | (with_reducible refine Kd.C_alloc ?_ _) | (with_reducible refine Kd.C_drewN ?_ _) | (with_reducible refine Kd.C_drew ?_))); (case side4 => exact HC0.out); rintro e w40 ⟨rfl, hb⟩; refine ⟨_, rfl, ?_⟩; have n0_ := Aside0.mk (Kd.S_below (by (with_reducible repeat (first | apply Kd.S_alloc | apply Kd.S_drewN | apply Kd.S_drew)); exact HO_5.out) hb); have n1_ := Aside0.mk (Kd.R_below (by (with_reducible repeat (first | apply Kd.R_alloc | apply Kd.R_drewN | apply Kd.R_drew)); exact HO_6.out) hb); have n2_ := Aside0.mk (Kd.R_below (by (with_reducible repeat (first | apply Kd.R_alloc | apply Kd.R_drewN | apply Kd.R_drew)); exact HO_7.out) hb); have n3_ := Aside0.mk (below_step (by repeat (first | (with_reducible first | exact HB.out | apply below_alloc | apply pw_below_drewN | apply below_drew1) | exact HB.out)) hb); clear HO_5; clear HO_6; clear HO_7; clear HB; have HO_5 := n0_; have HO_6 := n1_; have HO_7 := n2_; have HB := n3_; clear n0_ n1_ n2_ n3_; (try clear hb); (try clear hb2); (try clear hk); (try clear hi)))
                  go_ret
                  exact ⟨by first | rfl | (simp [errW_none, errW_some] <;> rfl) | (simp [*, errW_none, errW_some] <;> rfl), by repeat (first | (with_reducible first | exact HB.out | apply below_alloc | apply pw_below_drewN | apply below_drew1) | exact HB.out)⟩
  · rw [if_neg c4] at H
    exact absurd H (by simp)
end Go.Proofs.Ytnllemlmgbjjnaa.PA
/- Plain laws on the printed functions: hunks laid on a text strictly, by the package and by the reference. -/
namespace Go.Proofs.Ytnllemlmgbjjnaa.PA
set_option linter.unusedVariables false
set_option linter.unusedSimpArgs false
open Go.RowKit Go.Proofs.YtnllemlmgbjjnaaW.PrintWords Go.Proofs.YtnllemlmgbjjnaaW.PrintLast Go.Proofs.YtnllemlmgbjjnaaW.PrintMore
def eqL : List ByteArray → List ByteArray → Bool
  | x :: s, y :: t => decide (x.toList = y.toList) && eqL s t
  | _, _ => true
def eqS (a b : List ByteArray) : Bool := decide (a.length = b.length) && eqL a b
theorem equal_from (a b : List ByteArray) (hab : a.length = b.length) (hl : a.length < 9223372036854775807) : ∀ (d k i : Nat), i + d = a.length → d < k →
    slices_Equal_string_string.l0 k a b (a.length : Int) (i : Int) = some (eqL (a.drop i) (b.drop i)) := by
  intro d
  induction d with
  | zero =>
    intro k i hi hk
    obtain ⟨k, rfl⟩ : ∃ m, k = m + 1 := ⟨k - 1, by omega⟩
    simp only [slices_Equal_string_string.l0]
    rw [if_neg (by omega), List.drop_of_length_le (by omega), List.drop_of_length_le (by omega)]
    rfl
  | succ d ih =>
    intro k i hi hk
    obtain ⟨k, rfl⟩ : ∃ m, k = m + 1 := ⟨k - 1, by omega⟩
    have h1 : i < a.length := by omega
    have h2 : i < b.length := by omega
    have ih1 := ih k (i + 1) (by omega) (by omega)
    simp only [slices_Equal_string_string.l0]
    rw [if_pos (by omega), if_pos (by omega), if_pos (by omega), if_pos (by omega), rdo h1, rdo h2, wrap_id (by omega) (by omega), succ_cast, List.drop_eq_getElem_cons h1, List.drop_eq_getElem_cons h2, ih1]
    show (if a[i].toList = b[i].toList then _ else _) = some (decide (a[i].toList = b[i].toList) && eqL (a.drop (i + 1)) (b.drop (i + 1)))
    by_cases c : a[i].toList = b[i].toList
    · rw [if_pos c, decide_eq_true c]; rfl
    · rw [if_neg c, decide_eq_false c]; rfl
theorem equal_eq (a b : List ByteArray) (hl : a.length < 9223372036854775807) (k : Nat) (hk : a.length < k) : slices_Equal_string_string.f k a b = some (eqS a b) := by
  unfold slices_Equal_string_string.f eqS
  by_cases c : a.length = b.length
  · rw [if_pos (by omega), decide_eq_true c]; exact equal_from a b c hl a.length k 0 (by omega) hk
  · rw [if_neg (by omega), decide_eq_false c]; rfl
theorem samestr_from (a b : List ByteArray) (hab : a.length = b.length) (hl : a.length < 9223372036854775807) : ∀ (d k i : Nat), i + d = a.length → d < k →
    redlineref01_SameStrings.l0 k a b (i : Int) = some (eqL (a.drop i) (b.drop i)) := by
  intro d
  induction d with
  | zero =>
    intro k i hi hk
    obtain ⟨k, rfl⟩ : ∃ m, k = m + 1 := ⟨k - 1, by omega⟩
    simp only [redlineref01_SameStrings.l0]
    rw [if_neg (by omega), List.drop_of_length_le (by omega), List.drop_of_length_le (by omega)]
    rfl
  | succ d ih =>
    intro k i hi hk
    obtain ⟨k, rfl⟩ : ∃ m, k = m + 1 := ⟨k - 1, by omega⟩
    have h1 : i < a.length := by omega
    have h2 : i < b.length := by omega
    have ih1 := ih k (i + 1) (by omega) (by omega)
    simp only [redlineref01_SameStrings.l0]
    rw [if_pos (by omega), if_pos (by omega), if_pos (by omega), rdo h1, rdo h2, wrap_id (by omega) (by omega), succ_cast, List.drop_eq_getElem_cons h1, List.drop_eq_getElem_cons h2, ih1]
    show (if a[i].toList = b[i].toList then _ else _) = some (decide (a[i].toList = b[i].toList) && eqL (a.drop (i + 1)) (b.drop (i + 1)))
    by_cases c : a[i].toList = b[i].toList
    · rw [if_pos c, decide_eq_true c]; rfl
    · rw [if_neg c, decide_eq_false c]; rfl
theorem samestr_eq (a b : List ByteArray) (hl : a.length < 9223372036854775807) (k : Nat) (hk : a.length < k) : redlineref01_SameStrings.f k a b = some (eqS a b) := by
  unfold redlineref01_SameStrings.f eqS
  by_cases c : a.length = b.length
  · rw [if_pos (by omega), decide_eq_true c]; exact samestr_from a b c hl a.length k 0 (by omega) hk
  · rw [if_neg (by omega), decide_eq_false c]; rfl
theorem ib_lt (c : UInt8) : ∀ l : List UInt8, Lib.indexByte l c < (l.length : Int)
  | [] => by simp [Lib.indexByte]
  | b :: l => by
    have := ib_lt c l
    unfold Lib.indexByte
    rw [List.length_cons]
    split
    · omega
    · split <;> omega
def linesB : List ByteArray → Bool
  | [] => true
  | s :: t => (lineB s).1 && (t.isEmpty || (lineB s).2) && linesB t
theorem linesB_cons (s : ByteArray) (t : List ByteArray) : linesB (s :: t) = ((lineB s).1 && (t.isEmpty || (lineB s).2) && linesB t) := rfl
theorem index_lf (s : ByteArray) : strings_Index.f s (⟨#[10]⟩ : ByteArray) = some (lfAt s) := by
  unfold strings_Index.f
  rw [if_pos (by rfl)]
  rfl
theorem lf_range (s : ByteArray) : -1 ≤ lfAt s := Lib.indexByte_ge _ _
theorem empty_iff (s : ByteArray) : s.toList = ([] : List UInt8) ↔ s.size = 0 := by
  rw [← List.length_eq_zero_iff, Lib.toList_data]
  rfl
theorem lines_from (l : List ByteArray) (hl : l.length < 9223372036854775807) (hs : ∀ s ∈ l, s.size ≤ 140737488351232) : ∀ (d k i : Nat), i + d = l.length → d < k →
    lines_Check.l0 k l l (l.length : Int) (i : Int) = some (if linesB (l.drop i) then 0 else 6) := by
  intro d
  induction d with
  | zero =>
    intro k i hi hk
    obtain ⟨k, rfl⟩ : ∃ m, k = m + 1 := ⟨k - 1, by omega⟩
    simp only [lines_Check.l0]
    rw [if_neg (by omega), List.drop_of_length_le (by omega)]
    rfl
  | succ d ih =>
    intro k i hi hk
    obtain ⟨k, rfl⟩ : ∃ m, k = m + 1 := ⟨k - 1, by omega⟩
    have h1 : i < l.length := by omega
    have ih1 := ih k (i + 1) (by omega) (by omega)
    have hsz := hs l[i] (List.getElem_mem h1)
    have hr := lf_range l[i]
    simp only [lines_Check.l0]
    rw [if_pos (by omega), if_pos (by omega), if_pos (by omega), rdo h1, index_lf, Option.bind_some, wrap_id (x := (i : Int) + 1) (by omega) (by omega), succ_cast, List.drop_eq_getElem_cons h1, linesB_cons, ih1,
      wrap_id (x := (l[i].size : Int) - 1) (by omega) (by omega), wrap_id (x := (l.length : Int) - 1) (by omega) (by omega)]
    have he : (l.drop (i + 1)).isEmpty = decide ((i : Int) = (l.length : Int) - 1) := by
      rw [Bool.eq_iff_iff, List.isEmpty_iff_length_eq_zero, List.length_drop, decide_eq_true_iff]
      omega
    rw [he]
    generalize linesB (l.drop (i + 1)) = g
    generalize l[i] = s at hsz hr ⊢
    unfold lineB
    by_cases c0 : s.size = 0
    · rw [if_pos ((empty_iff s).2 c0), if_pos c0]; rfl
    · rw [if_neg (fun h => c0 ((empty_iff s).1 h)), if_neg c0]
      by_cases c1 : lfAt s ≥ 0
      · rw [if_pos c1]
        by_cases c2 : lfAt s = (s.size : Int) - 1
        · rw [if_pos c2, if_neg (show ¬ lfAt s < 0 by omega), if_neg (show ¬ (0 ≤ lfAt s ∧ lfAt s < (s.size : Int) - 1) by omega), decide_eq_true (show 0 ≤ lfAt s from c1)]
          simp
        · rw [if_neg c2]
          by_cases c3 : 0 ≤ lfAt s ∧ lfAt s < (s.size : Int) - 1
          · rw [if_pos c3]; rfl
          · exfalso
            have hlt : lfAt s < (s.size : Int) := by
              unfold lfAt at c1 ⊢
              have := ib_lt 10 s.data.toList
              have e : s.data.toList.length = s.size := rfl
              omega
            omega
      · rw [if_neg c1, if_pos (show lfAt s < 0 by omega), if_neg (show ¬ (0 ≤ lfAt s ∧ lfAt s < (s.size : Int) - 1) by omega), decide_eq_false (show ¬ 0 ≤ lfAt s from c1)]
        by_cases c4 : (i : Int) = (l.length : Int) - 1
        · rw [if_pos c4, decide_eq_true c4]; simp
        · rw [if_neg c4, decide_eq_false c4]; simp
theorem lines_eq (l : List ByteArray) (hl : l.length < 9223372036854775807) (hs : ∀ s ∈ l, s.size ≤ 140737488351232) (k : Nat) (hk : l.length < k) : lines_Check.f k l = some (if linesB l then 0 else 6) := by
  unfold lines_Check.f
  exact lines_from l hl hs l.length k 0 (by omega) hk
end Go.Proofs.Ytnllemlmgbjjnaa.PA
/- Plain laws on the printed functions: hunks laid on a text strictly, by the package and by the reference: the two answer alike. -/
namespace Go.Proofs.Ytnllemlmgbjjnaa.PA
set_option linter.unusedVariables false
set_option linter.unusedSimpArgs false
open Go.RowKit Go.Proofs.YtnllemlmgbjjnaaW.PrintWords Go.Proofs.YtnllemlmgbjjnaaW.PrintLast Go.Proofs.YtnllemlmgbjjnaaW.PrintMore
theorem rline_from (l : List ByteArray) (hl : l.length < 9223372036854775807) (i : Nat) (hi : i < l.length) (hs : l[i].size ≤ 140737488351232) (R : Option Int) (N : Nat)
    (hR : (lineB l[i]).1 = true → ((l.drop (i + 1)).isEmpty || (lineB l[i]).2) = true → ∀ k', N < k' → redlineref02_Check.l0 k' l ((i + 1 : Nat) : Int) = R)
    (hF : ((lineB l[i]).1 && ((l.drop (i + 1)).isEmpty || (lineB l[i]).2)) = false → R = some 6) :
    ∀ (d k j : Nat), j + d = l[i].size - 1 → d + 1 + N < k → (∀ q : Nat, q < j → bt l[i] (q : Int) ≠ 10) → redlineref02_Check.l1 k l (i : Int) (j : Int) = R := by
  have he : (l.drop (i + 1)).isEmpty = decide (¬ (i : Int) < (l.length : Int) - 1) := by
    rw [Bool.eq_iff_iff, List.isEmpty_iff_length_eq_zero, List.length_drop, decide_eq_true_iff]
    omega
  rw [he] at hR hF
  have hwl : wrap64 ((l.length : Int) - 1) = (l.length : Int) - 1 := wrap_id (by omega) (by omega)
  have hws : wrap64 ((l[i].size : Int) - 1) = (l[i].size : Int) - 1 := wrap_id (by omega) (by omega)
  have hwi : wrap64 ((i : Int) + 1) = ((i + 1 : Nat) : Int) := by rw [wrap_id (by omega) (by omega), succ_cast]
  intro d
  induction d with
  | zero =>
    intro k j hj hk hn
    obtain ⟨k, rfl⟩ : ∃ m, k = m + 1 := ⟨k - 1, by omega⟩
    simp only [redlineref02_Check.l1]
    rw [if_pos (by omega), if_pos (by omega), rdo hi, hwl, hws, hwi]
    generalize l[i] = s at hs hj hn hR hF hws ⊢
    rw [if_neg (show ¬ (j : Int) < (s.size : Int) - 1 by omega)]
    unfold lineB at hR hF
    by_cases c0 : s.size = 0
    · rw [if_pos (show (s.size : Int) = 0 by omega)]
      rw [if_pos c0] at hF
      exact (hF rfl).symm
    · rw [if_neg (show ¬ (s.size : Int) = 0 by omega)]
      rw [if_neg c0] at hR hF
      by_cases e : bt s (j : Int) = 10
      · have hlf := lf_at (by omega) e hn
        rw [hlf, if_neg (show ¬ (0 ≤ (j : Int) ∧ (j : Int) < (s.size : Int) - 1) by omega), decide_eq_true (show 0 ≤ (j : Int) by omega)] at hR
        have key := hR rfl (Bool.or_true _) k (by omega)
        have hj1 : (s.size : Int) - 1 = (j : Int) := by omega
        rw [hj1]
        by_cases c1 : (i : Int) < (l.length : Int) - 1
        · rw [if_pos c1, if_pos (by omega), if_pos (by omega), if_pos e]
          exact key
        · rw [if_neg c1]
          exact key
      · have hlf : lfAt s = -1 := lf_none (fun q hq => by by_cases hqj : q = j; (subst hqj; exact e); exact hn q (by omega))
        rw [hlf, if_neg (show ¬ (0 ≤ (-1 : Int) ∧ (-1 : Int) < (s.size : Int) - 1) by omega), decide_eq_false (show ¬ 0 ≤ (-1 : Int) by omega)] at hR hF
        have hj1 : (s.size : Int) - 1 = (j : Int) := by omega
        rw [hj1]
        by_cases c1 : (i : Int) < (l.length : Int) - 1
        · rw [if_pos c1, if_pos (by omega), if_pos (by omega), if_neg e]
          rw [decide_eq_false (fun h => h c1)] at hF
          exact (hF rfl).symm
        · rw [if_neg c1]
          rw [decide_eq_true c1] at hR
          exact hR rfl rfl k (by omega)
  | succ d ih =>
    intro k j hj hk hn
    obtain ⟨k, rfl⟩ : ∃ m, k = m + 1 := ⟨k - 1, by omega⟩
    simp only [redlineref02_Check.l1]
    rw [if_pos (by omega), if_pos (by omega), rdo hi, hws, if_pos (show (j : Int) < (l[i].size : Int) - 1 by omega), if_pos (by omega), if_pos (by omega)]
    by_cases e : bt l[i] (j : Int) = 10
    · rw [if_pos e]
      have hlf := lf_at (by omega) e hn
      unfold lineB at hF
      rw [if_neg (by omega), hlf, if_pos (show 0 ≤ (j : Int) ∧ (j : Int) < (l[i].size : Int) - 1 by omega)] at hF
      exact (hF rfl).symm
    · rw [if_neg e, wrap_id (x := (j : Int) + 1) (by omega) (by omega), succ_cast]
      exact ih k (j + 1) (by omega) (by omega) (fun q hq => by by_cases hqj : q = j; (subst hqj; exact e); exact hn q (by omega))
theorem rlines_from (l : List ByteArray) (hl : l.length < 9223372036854775807) (hs : ∀ s ∈ l, s.size ≤ 140737488351232) : ∀ (d k i : Nat), i + d = l.length → d * 140737488351240 < k →
    redlineref02_Check.l0 k l (i : Int) = some (if linesB (l.drop i) then 0 else 6) := by
  intro d
  induction d with
  | zero =>
    intro k i hi hk
    obtain ⟨k, rfl⟩ : ∃ m, k = m + 1 := ⟨k - 1, by omega⟩
    simp only [redlineref02_Check.l0]
    rw [if_neg (by omega), List.drop_of_length_le (by omega)]
    rfl
  | succ d ih =>
    intro k i hi hk
    obtain ⟨k, rfl⟩ : ∃ m, k = m + 1 := ⟨k - 1, by omega⟩
    have h1 : i < l.length := by omega
    have hsz := hs l[i] (List.getElem_mem h1)
    simp only [redlineref02_Check.l0]
    rw [if_pos (by omega)]
    refine rline_from l hl i h1 hsz _ (d * 140737488351240) (fun a b k' hk' => ?_) (fun a => ?_) (l[i].size - 1) k 0 (by omega) (by omega) (fun q hq => absurd hq (Nat.not_lt_zero _))
    · rw [ih k' (i + 1) (by omega) hk', List.drop_eq_getElem_cons h1, linesB_cons, a, b, Bool.true_and, Bool.true_and]
    · rw [List.drop_eq_getElem_cons h1, linesB_cons, a]
      rfl
theorem rlines_eq (l : List ByteArray) (hl : l.length < 9223372036854775807) (hs : ∀ s ∈ l, s.size ≤ 140737488351232) (k : Nat) (hk : l.length * 140737488351240 < k) : redlineref02_Check.f k l = some (if linesB l then 0 else 6) := by
  unfold redlineref02_Check.f
  exact rlines_from l hl hs l.length k 0 (by omega) hk
def standsB (a : List ByteArray) (p : Int) (w : List ByteArray) : Bool := decide (0 ≤ p) && decide (p + (w.length : Int) ≤ (a.length : Int)) && eqS ((a.take (p + w.length).toNat).drop p.toNat) w
theorem stands_eq (a : List ByteArray) (p : Int) (w : List ByteArray) (ha : a.length < 8796093022208) (hw : w.length < 8796093022208) (hp : p ≤ 4611686018427387904) (k : Nat) (hk : 8796093022208 < k) : apply_stands.f k a p w = some (standsB a p w) := by
  unfold apply_stands.f standsB
  by_cases c1 : p ≥ 0
  · rw [if_pos c1, decide_eq_true (show 0 ≤ p from c1)]
    by_cases c2 : p ≤ (a.length : Int)
    · rw [if_pos c2, wrap_id (x := (a.length : Int) - p) (by omega) (by omega), wrap_id (x := p + (w.length : Int)) (by omega) (by omega)]
      by_cases c3 : (w.length : Int) ≤ (a.length : Int) - p
      · rw [if_pos c3, if_pos c1, if_pos (by omega), if_pos (by omega), decide_eq_true (show p + (w.length : Int) ≤ (a.length : Int) by omega), equal_eq _ _ (by rw [List.length_drop, List.length_take]; omega) _ (by rw [List.length_drop, List.length_take]; omega)]
        rfl
      · rw [if_neg c3, decide_eq_false (show ¬ p + (w.length : Int) ≤ (a.length : Int) by omega)]; rfl
    · rw [if_neg c2, decide_eq_false (show ¬ p + (w.length : Int) ≤ (a.length : Int) by omega)]; rfl
  · rw [if_neg c1, decide_eq_false (show ¬ 0 ≤ p from c1)]; rfl
theorem rstands_eq (a : List ByteArray) (p : Int) (w : List ByteArray) (ha : a.length < 8796093022208) (hw : w.length < 8796093022208) (hp : p ≤ 4611686018427387904) (k : Nat) (hk : 8796093022208 < k) : redlineref19_stands.f k a p w = some (standsB a p w) := by
  unfold redlineref19_stands.f standsB
  by_cases c1 : p ≥ 0
  · rw [if_pos c1, decide_eq_true (show 0 ≤ p from c1)]
    by_cases c2 : p ≤ (a.length : Int)
    · rw [if_pos c2, wrap_id (x := (a.length : Int) - p) (by omega) (by omega), wrap_id (x := p + (w.length : Int)) (by omega) (by omega)]
      by_cases c3 : (w.length : Int) ≤ (a.length : Int) - p
      · rw [if_pos c3, if_pos c1, if_pos (by omega), if_pos (by omega), decide_eq_true (show p + (w.length : Int) ≤ (a.length : Int) by omega), samestr_eq _ _ (by rw [List.length_drop, List.length_take]; omega) _ (by rw [List.length_drop, List.length_take]; omega)]
        rfl
      · rw [if_neg c3, decide_eq_false (show ¬ p + (w.length : Int) ≤ (a.length : Int) by omega)]; rfl
    · rw [if_neg c2, decide_eq_false (show ¬ p + (w.length : Int) ≤ (a.length : Int) by omega)]; rfl
  · rw [if_neg c1, decide_eq_false (show ¬ 0 ≤ p from c1)]; rfl
end Go.Proofs.Ytnllemlmgbjjnaa.PA
/- ApplyStricts: what the printed law answers is true, where the text is not too long. -/
namespace Go.Proofs.Ytnllemlmgbjjnaa.PA
set_option linter.unusedVariables false
set_option linter.unusedSimpArgs false
open Go.RowKit Go.Proofs.YtnllemlmgbjjnaaW.PrintWords Go.Proofs.YtnllemlmgbjjnaaW.PrintLast Go.Proofs.YtnllemlmgbjjnaaW.PrintMore
def strictL (a : List ByteArray) : List ByteArray → Int → List S24 → Option (List ByteArray)
  | out, u, [] => some (out ++ a.drop u.toNat)
  | out, u, h :: t => if standsB a (stA h) (pickL 45 h.f4) then strictL a ((out ++ ((a.take (stA h).toNat).drop u.toNat)) ++ pickL 43 h.f4) (stA h + ((pickL 45 h.f4).length : Int)) t else none
theorem strictL_cons (a out : List ByteArray) (u : Int) (h : S24) (t : List S24) : strictL a out u (h :: t) = if standsB a (stA h) (pickL 45 h.f4) then strictL a ((out ++ ((a.take (stA h).toNat).drop u.toNat)) ++ pickL 43 h.f4) (stA h + ((pickL 45 h.f4).length : Int)) t else none := rfl
def finS (o : Option (List ByteArray)) : List ByteArray × Int :=
  match o with
  | none => ([], 190)
  | some out => if linesB out then (out, 0) else ([], 6)
def Sz (l : List ByteArray) : Prop := ∀ s ∈ l, s.size ≤ 140737488351232
theorem sz_pick {sign : Int} {l : List S35} (h : ∀ m ∈ l, m.f1.size ≤ 140737488351232) : Sz (pickL sign l) := by
  intro s hs
  unfold pickL at hs
  obtain ⟨m, hm, rfl⟩ := List.mem_map.1 hs
  exact h m (List.mem_filter.1 hm).1
theorem sz_app {a b : List ByteArray} (ha : Sz a) (hb : Sz b) : Sz (a ++ b) := fun s hs => by
  rcases List.mem_append.1 hs with h | h
  · exact ha s h
  · exact hb s h
theorem sz_drop {a : List ByteArray} (n : Nat) (ha : Sz a) : Sz (a.drop n) := fun s hs => ha s (List.mem_of_mem_drop hs)
theorem sz_take {a : List ByteArray} (n : Nat) (ha : Sz a) : Sz (a.take n) := fun s hs => ha s (List.mem_of_mem_take hs)
/-- What the order and the check say of the first hunk behind u. -/
theorem first_ok {u v : Int} {h : S24} {t : List S24} (ok : okH h = 0) (ho : ordB u v (h :: t) = true) :
    u ≤ stA h ∧ stA h ≤ 2147483647 ∧ ((pickL 45 h.f4).length : Int) ≤ 2147483647 ∧ ∃ v', ordB (stA h + ((pickL 45 h.f4).length : Int)) v' t = true := by
  obtain ⟨n0, n1, n2, n3, z1, z2, _, hb, _⟩ := check0 ok
  have n0 := numB_iff n0; have n1 := numB_iff n1
  have ea : stA h = h.f0 - mn 1 h.f1 := by
    unfold stA mn
    split <;> exact wrap_id (by omega) (by omega)
  have la : 0 ≤ stA h ∧ stA h ≤ 2147483647 := by rw [ea]; unfold mn; split <;> omega
  rw [ordB_cons] at ho
  split at ho
  · cases ho
  · rename_i c1
    split at ho
    · rw [wrap_id (x := stA h + h.f1) (by omega) (by omega)] at ho
      exact ⟨by omega, la.2, by omega, _, by rw [← hb]; exact ho⟩
    · cases ho
theorem stands_of {a : List ByteArray} {p : Int} {w : List ByteArray} (h : standsB a p w = true) : 0 ≤ p ∧ p + (w.length : Int) ≤ (a.length : Int) := by
  unfold standsB at h
  simp only [Bool.and_eq_true, decide_eq_true_eq] at h
  exact ⟨h.1.1, h.1.2⟩
theorem strict_from (a : List ByteArray) (ha : a.length < 8796093022208) (hz : Sz a) (l : List S24) (hs : Small l) (ok : ∀ x ∈ l, okH x = 0) (M : Nat) (hM : M < 8796093022208) : ∀ (d k i : Nat) (out : List ByteArray) (u v : Int), i + d = l.length → d + 20000000000000 < k →
    0 ≤ u → u ≤ (a.length : Int) → ordB u v (l.drop i) = true → (out.length : Int) + ((a.length : Int) - u) + (T (l.drop i) : Int) ≤ (M : Int) → Sz out →
    apply_Strict.l0 k a out u l (l.length : Int) (i : Int) = some (finS (strictL a out u (l.drop i))) := by
  intro d
  induction d with
  | zero =>
    intro k i out u v hi hk h0 h1 ho hb hz2
    obtain ⟨k, rfl⟩ : ∃ m, k = m + 1 := ⟨k - 1, by omega⟩
    rw [List.drop_of_length_le (by omega)] at hb ⊢
    have hT : T [] = 0 := rfl
    have hlen : (out ++ a.drop u.toNat).length < 8796093022208 := by rw [List.length_append, List.length_drop]; omega
    simp only [apply_Strict.l0]
    rw [if_neg (by omega), if_pos h0, if_pos h1, if_pos (by rw [List.length_append] at hlen; exact hlen)]
    unfold apply_checked.f
    rw [lines_eq _ (by omega) (sz_app hz2 (sz_drop _ hz)) _ (by omega)]
    show _ = some (if linesB (out ++ a.drop u.toNat) then (out ++ a.drop u.toNat, 0) else ([], 6))
    cases linesB (out ++ a.drop u.toNat) <;> rfl
  | succ d ih =>
    intro k i out u v hi hk h0 h1 ho hb hz2
    obtain ⟨k, rfl⟩ : ∃ m, k = m + 1 := ⟨k - 1, by omega⟩
    have hlt : i < l.length := by omega
    have hl1 := hs.1
    have hm := hs.2 l[i] (List.getElem_mem hlt)
    rw [List.drop_eq_getElem_cons hlt] at ho hb ⊢
    rw [T_cons] at hb
    obtain ⟨q1, q2, q3, v', q4⟩ := first_ok (ok _ (List.getElem_mem hlt)) ho
    have p1 := pickL_le 45 l[i].f4
    have p2 := pickL_le 43 l[i].f4
    simp only [apply_Strict.l0]
    rw [if_pos (by omega), if_pos (by omega), if_pos (by omega), rd24 hlt, old_eq _ _ _ _ _ hm.1 _ (by omega), Option.bind_some, strictL_cons]
    show ((some (stA l[i])).bind fun t => _) = _
    rw [Option.bind_some, stands_eq _ _ _ ha (by omega) (by omega) _ (by omega), Option.bind_some]
    cases hst : standsB a (stA l[i]) (pickL 45 l[i].f4) with
    | false => rfl
    | true =>
      obtain ⟨r1, r2⟩ := stands_of hst
      have hl2 : (out ++ (a.take (stA l[i]).toNat).drop u.toNat).length + (pickL 43 l[i].f4).length + (a.length - (stA l[i] + ((pickL 45 l[i].f4).length : Int)).toNat) + T (l.drop (i + 1)) ≤ M := by
        rw [List.length_append, List.length_drop, List.length_take]
        omega
      rw [if_pos rfl, if_pos rfl]
      show ((some (stA l[i])).bind fun t => _) = _
      rw [Option.bind_some, if_pos h0, if_pos q1, if_pos (by omega), if_pos (by rw [List.length_append] at hl2; omega), Option.bind_some, new_eq _ _ _ _ _ hm.1 _ (by omega), Option.bind_some, if_pos (by omega)]
      show ((some (stA l[i])).bind fun t => _) = _
      rw [Option.bind_some, wrap_id (x := stA l[i] + ((pickL 45 l[i].f4).length : Int)) (by omega) (by omega), wrap_id (x := (i : Int) + 1) (by omega) (by omega), succ_cast]
      exact ih k (i + 1) _ _ v' (by omega) (by omega) (by omega) r2 q4 (by rw [List.length_append]; omega) (sz_app (sz_app hz2 (sz_drop _ (sz_take _ hz))) (sz_pick hm.2))
theorem rstrict_from (a : List ByteArray) (ha : a.length < 8796093022208) (hz : Sz a) (l : List S24) (hs : Small l) (ok : ∀ x ∈ l, okH x = 0) (M : Nat) (hM : M < 8796093022208) : ∀ (d k i : Nat) (out : List ByteArray) (u v : Int), i + d = l.length → d + 10000000000000000000000000000 < k →
    0 ≤ u → u ≤ (a.length : Int) → ordB u v (l.drop i) = true → (out.length : Int) + ((a.length : Int) - u) + (T (l.drop i) : Int) ≤ (M : Int) → Sz out →
    redlineref19_Strict.l0 k l a out u (i : Int) = some (finS (strictL a out u (l.drop i))) := by
  intro d
  induction d with
  | zero =>
    intro k i out u v hi hk h0 h1 ho hb hz2
    obtain ⟨k, rfl⟩ : ∃ m, k = m + 1 := ⟨k - 1, by omega⟩
    rw [List.drop_of_length_le (by omega)] at hb ⊢
    have hT : T [] = 0 := rfl
    have hlen : (out ++ a.drop u.toNat).length < 8796093022208 := by rw [List.length_append, List.length_drop]; omega
    simp only [redlineref19_Strict.l0]
    rw [if_neg (by omega), if_pos h0, if_pos h1, if_pos (by rw [List.length_append] at hlen; exact hlen), Option.bind_some, rlines_eq _ (by omega) (sz_app hz2 (sz_drop _ hz)) _ (by omega)]
    show _ = some (if linesB (out ++ a.drop u.toNat) then (out ++ a.drop u.toNat, 0) else ([], 6))
    cases linesB (out ++ a.drop u.toNat) <;> rfl
  | succ d ih =>
    intro k i out u v hi hk h0 h1 ho hb hz2
    obtain ⟨k, rfl⟩ : ∃ m, k = m + 1 := ⟨k - 1, by omega⟩
    have hlt : i < l.length := by omega
    have hl1 := hs.1
    have hm := hs.2 l[i] (List.getElem_mem hlt)
    rw [List.drop_eq_getElem_cons hlt] at ho hb ⊢
    rw [T_cons] at hb
    obtain ⟨q1, q2, q3, v', q4⟩ := first_ok (ok _ (List.getElem_mem hlt)) ho
    have p1 := pickL_le 45 l[i].f4
    have p2 := pickL_le 43 l[i].f4
    simp only [redlineref19_Strict.l0]
    rw [if_pos (by omega), if_pos (by omega), rd24 hlt, at_eq _ (ok _ (List.getElem_mem hlt)), Option.bind_some, rold_eq _ _ _ _ _ hm.1 _ (by omega), Option.bind_some, strictL_cons, rstands_eq _ _ _ ha (by omega) (by omega) _ (by omega), Option.bind_some]
    show (if standsB a (stA l[i]) (pickL 45 l[i].f4) = true then _ else _) = _
    cases hst : standsB a (stA l[i]) (pickL 45 l[i].f4) with
    | false => rfl
    | true =>
      obtain ⟨r1, r2⟩ := stands_of hst
      have hl2 : (out ++ (a.take (stA l[i]).toNat).drop u.toNat).length + (pickL 43 l[i].f4).length + (a.length - (stA l[i] + ((pickL 45 l[i].f4).length : Int)).toNat) + T (l.drop (i + 1)) ≤ M := by
        rw [List.length_append, List.length_drop, List.length_take]
        omega
      rw [if_pos rfl, if_pos rfl, if_pos h0]
      rw [if_pos (show u ≤ (stA l[i], stB l[i]).1 from q1), if_pos (show (stA l[i], stB l[i]).1 ≤ (a.length : Int) by show stA l[i] ≤ _; omega), if_pos (by show out.length + ((a.take (stA l[i]).toNat).drop u.toNat).length < _; rw [List.length_append] at hl2; omega), Option.bind_some, rnew_eq _ _ _ _ _ hm.1 _ (by omega), Option.bind_some, if_pos (by show (out ++ (a.take (stA l[i]).toNat).drop u.toNat).length + _ < _; omega)]
      show redlineref19_Strict.l0 k l a ((out ++ (a.take (stA l[i]).toNat).drop u.toNat) ++ pickL 43 l[i].f4) (wrap64 (stA l[i] + ((pickL 45 l[i].f4).length : Int))) (wrap64 ((i : Int) + 1)) = _
      rw [wrap_id (x := stA l[i] + ((pickL 45 l[i].f4).length : Int)) (by omega) (by omega), wrap_id (x := (i : Int) + 1) (by omega) (by omega), succ_cast]
      exact ih k (i + 1) _ _ v' (by omega) (by omega) (by omega) r2 q4 (by rw [List.length_append]; omega) (sz_app (sz_app hz2 (sz_drop _ (sz_take _ hz))) (sz_pick hm.2))
/-- What the two answer. -/
def strictV (l : List S24) (a : List ByteArray) : List ByteArray × Int :=
  if linesB a then (if orderV l = 0 then finS (strictL a [] 0 l) else ([], orderV l)) else ([], 6)
theorem strict_eq (l : List S24) (a : List ByteArray) (hs : Small l) (ha : a.length < 8787000000000) (hz : Sz a) (k : Nat) (hk : 40000000000000 < k) : apply_Strict.f k l a = some (strictV l a) := by
  have hl1 := hs.1
  unfold apply_Strict.f strictV
  rw [lines_eq a (by omega) hz _ (by omega), Option.bind_some]
  cases linesB a with
  | false => rfl
  | true =>
    rw [if_pos rfl, if_pos rfl, if_pos rfl, order_eq l hs _ (by omega), Option.bind_some]
    by_cases c : orderV l = 0
    · rw [if_pos c, if_pos c]
      have hT := T_small c
      obtain ⟨h1, h2⟩ := order_zero c
      exact strict_from a (by omega) hz l hs h1 (a.length + T l) (by omega) l.length k 0 [] 0 0 (by omega) (by omega) (by omega) (by omega) (by rw [List.drop_zero]; exact h2) (by rw [List.drop_zero]; simp) (fun s hs => by simp at hs)
    · rw [if_neg c, if_neg c]
theorem rstrict_eq (l : List S24) (a : List ByteArray) (hs : Small l) (ha : a.length < 8787000000000) (hz : Sz a) (k : Nat) (hk : 20000000000000000000000000000 < k) : redlineref19_Strict.f k l a = some (strictV l a) := by
  have hl1 := hs.1
  unfold redlineref19_Strict.f strictV
  rw [rlines_eq a (by omega) hz _ (by omega), Option.bind_some]
  cases linesB a with
  | false => rfl
  | true =>
    rw [if_pos rfl, if_pos rfl, if_pos rfl, rorder_eq l hs _ (by omega), Option.bind_some]
    by_cases c : orderV l = 0
    · rw [if_pos c, if_pos c]
      have hT := T_small c
      obtain ⟨h1, h2⟩ := order_zero c
      exact rstrict_from a (by omega) hz l hs h1 (a.length + T l) (by omega) l.length k 0 [] 0 0 (by omega) (by omega) (by omega) (by omega) (by rw [List.drop_zero]; exact h2) (by rw [List.drop_zero]; simp) (fun s hs => by simp at hs)
    · rw [if_neg c, if_neg c]
end Go.Proofs.Ytnllemlmgbjjnaa.PA
