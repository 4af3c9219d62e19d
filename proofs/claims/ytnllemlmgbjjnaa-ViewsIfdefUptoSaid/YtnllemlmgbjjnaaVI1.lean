/- Texts of this proof, packed into one: PAL0 PAxf111 PAxf109 PAxf85 PAxf54 PAxf89 PAxf60 PAxf88 PAxf59 PAxf84 PAxf51 PAxf87 PAxf58 PALb. -/
import Derived.Test.YtnllemlmgbjjnaaVIPAx0
import Derived.Lib.Hide
import Derived.Lib.Strings
/- Plain laws on the printed functions of package hunks: what the lines with one of two signs are. -/
namespace Go.Proofs.Ytnllemlmgbjjnaa.PA
set_option linter.unusedVariables false
set_option linter.unusedSimpArgs false
open Go.RowKit Go.Proofs.YtnllemlmgbjjnaaW.PrintWords Go.Proofs.YtnllemlmgbjjnaaW.PrintLast Go.Proofs.YtnllemlmgbjjnaaW.PrintMore
theorem wrap_id {x : Int} (h1 : -9223372036854775808 ≤ x) (h2 : x ≤ 9223372036854775807) : wrap64 x = x := by
  unfold wrap64
  omega
theorem succ_cast (i : Nat) : ((i : Int) + 1) = ((i + 1 : Nat) : Int) := by omega
end Go.Proofs.Ytnllemlmgbjjnaa.PA
namespace Go.Proofs.Ytnllemlmgbjjnaa.PA
open Go.RowKit Go.Proofs.YtnllemlmgbjjnaaW.PrintWords Go.Proofs.YtnllemlmgbjjnaaW.PrintLast Go.Proofs.YtnllemlmgbjjnaaW.PrintMore
attribute [local go_sem] max2_int min2_int max_two min_two max_three min_three max_four min_four   -- for this text's walks alone
set_option linter.unusedVariables false
set_option linter.unusedSimpArgs false
def stringslite_HasSuffix.f (a0 : ByteArray) (a1 : ByteArray) : Option (Bool) := if (a0.size : Int) ≥ (a1.size : Int) then (if 0 ≤ (wrap64 ((a0.size : Int) - (a1.size : Int))) then (if (wrap64 ((a0.size : Int) - (a1.size : Int))) ≤ (a0.size : Int) then (some ((a0.extract ((wrap64 ((a0.size : Int) - (a1.size : Int))) : Int).toNat a0.size).toList == a1.toList)) else (none)) else (none)) else (some false)
set_option maxHeartbeats 8000000 in
set_option maxRecDepth 100000 in
theorem stringslite_HasSuffix.calls (a0 : ByteArray) (a1 : ByteArray) (r : Bool) (w : World) (h : stringslite_HasSuffix.f a0 a1 = some r) :
    Calls Try.prog 111 #[.string a0, .string a1] w fun e w' => e = .returned (.bool r) ∧ Drawn0 w w' := by
  have H : (if (a0.size : Int) ≥ (a1.size : Int) then (if 0 ≤ (wrap64 ((a0.size : Int) - (a1.size : Int))) then (if (wrap64 ((a0.size : Int) - (a1.size : Int))) ≤ (a0.size : Int) then (some ((a0.extract ((wrap64 ((a0.size : Int) - (a1.size : Int))) : Int).toNat a0.size).toList == a1.toList)) else (none)) else (none)) else (some false)) = some r := h
  clear h
  by_cases c3 : (a0.size : Int) ≥ (a1.size : Int)
  · rw [if_pos c3] at H
    have c3b0 : decide ((a1.size : Int) ≤ (a0.size : Int)) = true := decide_eq_true c3
    have c3b1 : decide (a1.size ≤ a0.size) = true := decide_eq_true (Int.ofNat_le.mp c3)
    clear c3
    obtain ⟨ji4, hji4⟩ : ∃ j_ : Int, (wrap64 ((a0.size : Int) - (a1.size : Int))) = j_ := ⟨_, rfl⟩
    replace H : (if 0 ≤ (ji4) then (if (ji4) ≤ (a0.size : Int) then (some ((a0.extract ((ji4) : Int).toNat a0.size).toList == a1.toList)) else (none)) else (none)) = some r := by first | (rw [hji4] at H; exact H) | (simp only [hji4] at H ⊢; exact H)
    have hji4w : (IntKind.i64.wrap ((a0.size : Int) - (a1.size : Int))) = ji4 := (i64_w _).trans hji4
    by_cases c5 : 0 ≤ (ji4)
    · rw [if_pos c5] at H
      have c5b0 := eq_true c5
      have c5b1 : decide (0 ≤ (ji4)) = true := decide_eq_true c5
      clear c5
      by_cases c6 : (ji4) ≤ (a0.size : Int)
      · rw [if_pos c6] at H
        have c6b0 := eq_true c6
        have c6b1 : decide ((ji4) ≤ (a0.size : Int)) = true := decide_eq_true c6
        clear c6
        obtain rfl := Option.some.inj H
        go_enter Try.func111, Try.ntmps111
        go_wp2
        go_ret
        exact ⟨by first | rfl | (simp; done) | (simp only [← hji4] <;> (first | rfl | simp)) | (simp [*]; done), by repeat (first | exact Drawn0.refl _ | apply Drawn0.step)⟩
      · rw [if_neg c6] at H
        exact absurd H (by simp)
    · rw [if_neg c5] at H
      exact absurd H (by simp)
  · rw [if_neg c3] at H
    have c3b0 : decide ((a1.size : Int) ≤ (a0.size : Int)) = false := decide_eq_false c3
    have c3b1 : decide (a1.size ≤ a0.size) = false := decide_eq_false (fun h => c3 (Int.ofNat_le.mpr h))
    clear c3
    obtain rfl := Option.some.inj H
    go_enter Try.func111, Try.ntmps111
    go_wp2
    go_ret
    exact ⟨by first | rfl | (simp; done) | (simp [*]; done), by repeat (first | exact Drawn0.refl _ | apply Drawn0.step)⟩
end Go.Proofs.Ytnllemlmgbjjnaa.PA
namespace Go.Proofs.Ytnllemlmgbjjnaa.PA
open Go.RowKit Go.Proofs.YtnllemlmgbjjnaaW.PrintWords Go.Proofs.YtnllemlmgbjjnaaW.PrintLast Go.Proofs.YtnllemlmgbjjnaaW.PrintMore
attribute [local go_sem] max2_int min2_int max_two min_two max_three min_three max_four min_four   -- for this text's walks alone
set_option linter.unusedVariables false
set_option linter.unusedSimpArgs false
def stringslite_CutSuffix.f (a0 : ByteArray) (a1 : ByteArray) : Option (ByteArray × Bool) := (stringslite_HasSuffix.f a0 a1).bind fun t689 => (if t689 = true then (if 0 ≤ (wrap64 ((a0.size : Int) - (a1.size : Int))) then (if (wrap64 ((a0.size : Int) - (a1.size : Int))) ≤ (a0.size : Int) then (some (a0.extract 0 ((wrap64 ((a0.size : Int) - (a1.size : Int))) : Int).toNat, true)) else (none)) else (none)) else (some (a0, false)))
set_option maxHeartbeats 8000000 in
set_option maxRecDepth 100000 in
theorem stringslite_CutSuffix.calls (a0 : ByteArray) (a1 : ByteArray) (r1 : ByteArray) (r2 : Bool) (w : World) (h : stringslite_CutSuffix.f a0 a1 = some (r1, r2)) :
    Calls Try.prog 109 #[.string a0, .string a1] w fun e w' => e = .returned (.tuple #[.string r1, .bool r2]) ∧ Drawn0 w w' := by
  have H : ((stringslite_HasSuffix.f a0 a1).bind fun t689 => (if t689 = true then (if 0 ≤ (wrap64 ((a0.size : Int) - (a1.size : Int))) then (if (wrap64 ((a0.size : Int) - (a1.size : Int))) ≤ (a0.size : Int) then (some (a0.extract 0 ((wrap64 ((a0.size : Int) - (a1.size : Int))) : Int).toNat, true)) else (none)) else (none)) else (some (a0, false)))) = some (r1, r2) := h
  clear h
  replace H := Option.bind_eq_some_iff.mp H
  obtain ⟨t689, A30, H⟩ := H
  replace H : (if t689 = true then (if 0 ≤ (wrap64 ((a0.size : Int) - (a1.size : Int))) then (if (wrap64 ((a0.size : Int) - (a1.size : Int))) ≤ (a0.size : Int) then (some (a0.extract 0 ((wrap64 ((a0.size : Int) - (a1.size : Int))) : Int).toNat, true)) else (none)) else (none)) else (some (a0, false))) = some (r1, r2) := H
  have A3 := Aside0.mk A30
  clear A30
  by_cases c4 : t689 = true
  · subst c4
    have H1 : (if 0 ≤ (wrap64 ((a0.size : Int) - (a1.size : Int))) then (if (wrap64 ((a0.size : Int) - (a1.size : Int))) ≤ (a0.size : Int) then (some (a0.extract 0 ((wrap64 ((a0.size : Int) - (a1.size : Int))) : Int).toNat, true)) else (none)) else (none)) = some (r1, r2) := by rw [if_pos rfl] at H; exact H
    clear H
    have H := H1
    clear H1
    obtain ⟨ji5, hji5⟩ : ∃ j_ : Int, (wrap64 ((a0.size : Int) - (a1.size : Int))) = j_ := ⟨_, rfl⟩
    replace H : (if 0 ≤ (ji5) then (if (ji5) ≤ (a0.size : Int) then (some (a0.extract 0 ((ji5) : Int).toNat, true)) else (none)) else (none)) = some (r1, r2) := by first | (rw [hji5] at H; exact H) | (simp only [hji5] at H ⊢; exact H)
    (try rw [hji5] at A3)
    have hji5w : (IntKind.i64.wrap ((a0.size : Int) - (a1.size : Int))) = ji5 := (i64_w _).trans hji5
    by_cases c6 : 0 ≤ (ji5)
    · rw [if_pos c6] at H
      have c6b0 := eq_true c6
      have c6b1 : decide (0 ≤ (ji5)) = true := decide_eq_true c6
      clear c6
      by_cases c7 : (ji5) ≤ (a0.size : Int)
      · rw [if_pos c7] at H
        have c7b0 := eq_true c7
        have c7b1 : decide ((ji5) ≤ (a0.size : Int)) = true := decide_eq_true c7
        clear c7
        simp only [Option.some.injEq, Prod.mk.injEq] at H
        obtain ⟨rfl, rfl⟩ := H
        go_enter Try.func109, Try.ntmps109
        go_wp2_with (first | ((with_reducible refine gate_callee (f := 111) rfl ?_); refine goesL_ (some 8) rfl rfl Try.func111 (by kernel_rfl) rfl #[.string a0, .string a1] rfl (by (try simp only [List.map_toArray, List.map_cons, List.map_nil]); first | done | rfl | (simp only [List.length_drop, List.length_take]; rfl)) ?_; (with_reducible refine (stringslite_HasSuffix.calls a0 a1 true _ A3.out).mono ?_); rintro e w' ⟨rfl, ⟨nd, rfl⟩⟩; refine ⟨_, rfl, ?_⟩))
        go_ret2
        exact ⟨by first | rfl | (simp; done) | (simp only [← hji5] <;> (first | rfl | simp)) | (simp [*]; done), by repeat (first | exact Drawn0.refl _ | apply Drawn0.step)⟩
      · rw [if_neg c7] at H
        exact absurd H (by simp)
    · rw [if_neg c6] at H
      exact absurd H (by simp)
  · replace c4 := Bool.eq_false_iff.mpr c4
    subst c4
    have H1 : (some (a0, false)) = some (r1, r2) := by rw [if_neg (show ¬ (false = true) by decide)] at H; exact H
    clear H
    have H := H1
    clear H1
    simp only [Option.some.injEq, Prod.mk.injEq] at H
    obtain ⟨rfl, rfl⟩ := H
    go_enter Try.func109, Try.ntmps109
    go_wp2_with (first | ((with_reducible refine gate_callee (f := 111) rfl ?_); refine goesL_ (some 8) rfl rfl Try.func111 (by kernel_rfl) rfl #[.string a0, .string a1] rfl (by (try simp only [List.map_toArray, List.map_cons, List.map_nil]); first | done | rfl | (simp only [List.length_drop, List.length_take]; rfl)) ?_; (with_reducible refine (stringslite_HasSuffix.calls a0 a1 false _ A3.out).mono ?_); rintro e w' ⟨rfl, ⟨nd, rfl⟩⟩; refine ⟨_, rfl, ?_⟩))
    go_ret2
    exact ⟨by first | rfl | (simp; done) | (simp [*]; done), by repeat (first | exact Drawn0.refl _ | apply Drawn0.step)⟩
end Go.Proofs.Ytnllemlmgbjjnaa.PA
namespace Go.Proofs.Ytnllemlmgbjjnaa.PA
open Go.RowKit Go.Proofs.YtnllemlmgbjjnaaW.PrintWords Go.Proofs.YtnllemlmgbjjnaaW.PrintLast Go.Proofs.YtnllemlmgbjjnaaW.PrintMore
attribute [local go_sem] max2_int min2_int max_two min_two max_three min_three max_four min_four   -- for this text's walks alone
set_option linter.unusedVariables false
set_option linter.unusedSimpArgs false
def strings_CutSuffix.f (a0 : ByteArray) (a1 : ByteArray) : Option (ByteArray × Bool) := (stringslite_CutSuffix.f a0 a1).bind fun bt690 => (some (bt690.1, bt690.2))
set_option maxHeartbeats 8000000 in
set_option maxRecDepth 100000 in
theorem strings_CutSuffix.calls (a0 : ByteArray) (a1 : ByteArray) (r1 : ByteArray) (r2 : Bool) (w : World) (h : strings_CutSuffix.f a0 a1 = some (r1, r2)) :
    Calls Try.prog 85 #[.string a0, .string a1] w fun e w' => e = .returned (.tuple #[.string r1, .bool r2]) ∧ Drawn0 w w' := by
  have H : ((stringslite_CutSuffix.f a0 a1).bind fun bt690 => (some (bt690.1, bt690.2))) = some (r1, r2) := h
  clear h
  replace H := Option.bind_eq_some_iff.mp H
  obtain ⟨⟨t690, t691⟩, A30, H⟩ := H
  replace H : (some (t690, t691)) = some (r1, r2) := H
  have A3 := Aside0.mk A30
  clear A30
  simp only [Option.some.injEq, Prod.mk.injEq] at H
  obtain ⟨rfl, rfl⟩ := H
  go_enter Try.func85, Try.ntmps85
  go_wp2_with (first | ((with_reducible refine gate_callee (f := 109) rfl ?_); refine goesL_ (some 8) rfl rfl Try.func109 (by kernel_rfl) rfl #[.string a0, .string a1] rfl (by (try simp only [List.map_toArray, List.map_cons, List.map_nil]); first | done | rfl | (simp only [List.length_drop, List.length_take]; rfl)) ?_; (with_reducible refine (stringslite_CutSuffix.calls a0 a1 t690 t691 _ A3.out).mono ?_); rintro e w' ⟨rfl, ⟨nd, rfl⟩⟩; refine ⟨_, rfl, ?_⟩))
  go_ret2
  exact ⟨by first | rfl | (simp; done) | (simp [*]; done), by repeat (first | exact Drawn0.refl _ | apply Drawn0.step)⟩
end Go.Proofs.Ytnllemlmgbjjnaa.PA
namespace Go.Proofs.Ytnllemlmgbjjnaa.PA
open Go.RowKit Go.Proofs.YtnllemlmgbjjnaaW.PrintWords Go.Proofs.YtnllemlmgbjjnaaW.PrintLast Go.Proofs.YtnllemlmgbjjnaaW.PrintMore
attribute [local go_sem] max2_int min2_int max_two min_two max_three min_three max_four min_four   -- for this text's walks alone
set_option linter.unusedVariables false
set_option linter.unusedSimpArgs false
def lines_Bare.f (a0 : ByteArray) : Option (ByteArray × Bool) := (strings_CutSuffix.f a0 (⟨#[10]⟩ : ByteArray)).bind fun bt692 => (some (bt692.1, bt692.2))
set_option maxHeartbeats 8000000 in
set_option maxRecDepth 100000 in
theorem lines_Bare.calls (a0 : ByteArray) (r1 : ByteArray) (r2 : Bool) (w : World) (h : lines_Bare.f a0 = some (r1, r2)) :
    Calls Try.prog 54 #[.string a0] w fun e w' => e = .returned (.tuple #[.string r1, .bool r2]) ∧ Drawn0 w w' := by
  have H : ((strings_CutSuffix.f a0 (⟨#[10]⟩ : ByteArray)).bind fun bt692 => (some (bt692.1, bt692.2))) = some (r1, r2) := h
  clear h
  replace H := Option.bind_eq_some_iff.mp H
  obtain ⟨⟨t692, t693⟩, A20, H⟩ := H
  replace H : (some (t692, t693)) = some (r1, r2) := H
  have A2 := Aside0.mk A20
  clear A20
  simp only [Option.some.injEq, Prod.mk.injEq] at H
  obtain ⟨rfl, rfl⟩ := H
  go_enter Try.func54, Try.ntmps54
  go_wp2_with (first | ((with_reducible refine gate_callee (f := 85) rfl ?_); refine goesL_ (some 5) rfl rfl Try.func85 (by kernel_rfl) rfl #[.string a0, .string (⟨#[10]⟩ : ByteArray)] rfl (by (try simp only [List.map_toArray, List.map_cons, List.map_nil]); first | done | rfl | (simp only [List.length_drop, List.length_take]; rfl)) ?_; (with_reducible refine (strings_CutSuffix.calls a0 (⟨#[10]⟩ : ByteArray) t692 t693 _ A2.out).mono ?_); rintro e w' ⟨rfl, ⟨nd, rfl⟩⟩; refine ⟨_, rfl, ?_⟩))
  go_ret2
  exact ⟨by first | rfl | (simp; done) | (simp [*]; done), by repeat (first | exact Drawn0.refl _ | apply Drawn0.step)⟩
end Go.Proofs.Ytnllemlmgbjjnaa.PA
namespace Go.Proofs.Ytnllemlmgbjjnaa.PA
open Go.RowKit Go.Proofs.YtnllemlmgbjjnaaW.PrintWords Go.Proofs.YtnllemlmgbjjnaaW.PrintLast Go.Proofs.YtnllemlmgbjjnaaW.PrintMore
attribute [local go_sem] max2_int min2_int max_two min_two max_three min_three max_four min_four   -- for this text's walks alone
set_option linter.unusedVariables false
set_option linter.unusedSimpArgs false
def redlineref02_Bare.f (a0 : ByteArray) : Option (ByteArray × Bool) := if (a0.size : Int) = 0 then (some (a0, false)) else (if 0 ≤ (wrap64 ((a0.size : Int) - 1)) then (if (wrap64 ((a0.size : Int) - 1)) < (a0.size : Int) then (if (bt a0 (wrap64 ((a0.size : Int) - 1))) = 10 then (if (wrap64 ((a0.size : Int) - 1)) ≤ (a0.size : Int) then (some (a0.extract 0 ((wrap64 ((a0.size : Int) - 1)) : Int).toNat, true)) else (none)) else (some (a0, false))) else (none)) else (none))
set_option maxHeartbeats 8000000 in
set_option maxRecDepth 100000 in
theorem redlineref02_Bare.calls (a0 : ByteArray) (r1 : ByteArray) (r2 : Bool) (w : World) (h : redlineref02_Bare.f a0 = some (r1, r2)) :
    Calls Try.prog 89 #[.string a0] w fun e w' => e = .returned (.tuple #[.string r1, .bool r2]) ∧ Drawn0 w w' := by
  have H : (if (a0.size : Int) = 0 then (some (a0, false)) else (if 0 ≤ (wrap64 ((a0.size : Int) - 1)) then (if (wrap64 ((a0.size : Int) - 1)) < (a0.size : Int) then (if (bt a0 (wrap64 ((a0.size : Int) - 1))) = 10 then (if (wrap64 ((a0.size : Int) - 1)) ≤ (a0.size : Int) then (some (a0.extract 0 ((wrap64 ((a0.size : Int) - 1)) : Int).toNat, true)) else (none)) else (some (a0, false))) else (none)) else (none))) = some (r1, r2) := h
  clear h
  by_cases c2 : (a0.size : Int) = 0
  · rw [if_pos c2] at H
    have c2b0 : ((a0.size : Int) == 0) = true := beq_iff_eq.mpr c2
    have c2b1 : ((a0.size : Int) != 0) = false := bne_eq_false_iff_eq.mpr c2
    clear c2
    simp only [Option.some.injEq, Prod.mk.injEq] at H
    obtain ⟨rfl, rfl⟩ := H
    go_enter Try.func89, Try.ntmps89
    go_wp2
    go_ret2
    exact ⟨by first | rfl | (simp; done) | (simp [*]; done), by repeat (first | exact Drawn0.refl _ | apply Drawn0.step)⟩
  · rw [if_neg c2] at H
    have c2b0 : ((a0.size : Int) == 0) = false := beq_eq_false_iff_ne.mpr c2
    have c2b1 : ((a0.size : Int) != 0) = true := bne_iff_ne.mpr c2
    obtain ⟨ji3, hji3⟩ : ∃ j_ : Int, (wrap64 ((a0.size : Int) - 1)) = j_ := ⟨_, rfl⟩
    replace H : (if 0 ≤ (ji3) then (if (ji3) < (a0.size : Int) then (if (bt a0 (ji3)) = 10 then (if (ji3) ≤ (a0.size : Int) then (some (a0.extract 0 ((ji3) : Int).toNat, true)) else (none)) else (some (a0, false))) else (none)) else (none)) = some (r1, r2) := by first | (rw [hji3] at H; exact H) | (simp only [hji3] at H ⊢; exact H)
    have hji3w : (IntKind.i64.wrap ((a0.size : Int) - 1)) = ji3 := (i64_w _).trans hji3
    by_cases c4 : 0 ≤ (ji3)
    · rw [if_pos c4] at H
      have c4b0 : decide (0 ≤ (ji3)) = true := decide_eq_true c4
      clear c4
      by_cases c5 : (ji3) < (a0.size : Int)
      · rw [if_pos c5] at H
        have c5b0 : decide ((ji3) < (a0.size : Int)) = true := decide_eq_true c5
        clear c5
        by_cases c7 : (bt a0 (ji3)) = 10
        · rw [if_pos c7] at H
          have c7b0 : ((bt a0 (ji3)) == 10) = true := beq_iff_eq.mpr c7
          have c7b1 : ((bt a0 (ji3)) != 10) = false := bne_eq_false_iff_eq.mpr c7
          clear c7
          have c8b0 := eq_true (of_decide_eq_true (by first | (with_reducible assumption) | assumption) : 0 ≤ (ji3))
          by_cases c9 : (ji3) ≤ (a0.size : Int)
          · rw [if_pos c9] at H
            have c9b0 := eq_true c9
            have c9b1 : decide ((ji3) ≤ (a0.size : Int)) = true := decide_eq_true c9
            clear c9
            simp only [Option.some.injEq, Prod.mk.injEq] at H
            obtain ⟨rfl, rfl⟩ := H
            have p6 : 0 ≤ ((ji3) : Int) := of_decide_eq_true (by first | (with_reducible assumption) | assumption)
            have q6 : (ji3) < (a0.size : Int) := of_decide_eq_true (by first | (with_reducible assumption) | assumption)
            have hx6 := bt_at a0 (ji3)
            replace p6 := eq_true p6
            replace q6 := eq_true q6
            go_enter Try.func89, Try.ntmps89
            go_wp2
            go_ret2
            exact ⟨by first | rfl | (simp; done) | (simp only [← hji3] <;> (first | rfl | simp)) | (simp [*]; done), by repeat (first | exact Drawn0.refl _ | apply Drawn0.step)⟩
          · rw [if_neg c9] at H
            exact absurd H (by simp)
        · rw [if_neg c7] at H
          have c7b0 : ((bt a0 (ji3)) == 10) = false := beq_eq_false_iff_ne.mpr c7
          have c7b1 : ((bt a0 (ji3)) != 10) = true := bne_iff_ne.mpr c7
          simp only [Option.some.injEq, Prod.mk.injEq] at H
          obtain ⟨rfl, rfl⟩ := H
          have p6 : 0 ≤ ((ji3) : Int) := of_decide_eq_true (by first | (with_reducible assumption) | assumption)
          have q6 : (ji3) < (a0.size : Int) := of_decide_eq_true (by first | (with_reducible assumption) | assumption)
          have hx6 := bt_at a0 (ji3)
          replace p6 := eq_true p6
          replace q6 := eq_true q6
          go_enter Try.func89, Try.ntmps89
          go_wp2
          go_ret2
          exact ⟨by first | rfl | (simp; done) | (simp only [← hji3] <;> (first | rfl | simp)) | (simp [*]; done), by repeat (first | exact Drawn0.refl _ | apply Drawn0.step)⟩
      · rw [if_neg c5] at H
        exact absurd H (by simp)
    · rw [if_neg c4] at H
      exact absurd H (by simp)
end Go.Proofs.Ytnllemlmgbjjnaa.PA
namespace Go.Proofs.Ytnllemlmgbjjnaa.PA
open Go.RowKit Go.Proofs.YtnllemlmgbjjnaaW.PrintWords Go.Proofs.YtnllemlmgbjjnaaW.PrintLast Go.Proofs.YtnllemlmgbjjnaaW.PrintMore
attribute [local go_sem] max2_int min2_int max_two min_two max_three min_three max_four min_four   -- for this text's walks alone
set_option linter.unusedVariables false
set_option linter.unusedSimpArgs false
def redlineref17_whole.l0 : Nat → List ByteArray → ByteArray → Int → Option (ByteArray)
  | 0, _, _, _ => none
  | k + 1, x0, x3, x4 => if x4 < (x0.length : Int) then (if 0 ≤ x4 then ((redlineref02_Bare.f (rdOf ByteArray.empty x0 x4)).bind fun bt671 => (if x3.size + bt671.1.size ≤ 9223372036854775807 then (if (x3 ++ bt671.1).size + 1 ≤ 9223372036854775807 then (redlineref17_whole.l0 k x0 ((x3 ++ bt671.1) ++ (⟨#[10]⟩ : ByteArray)) (wrap64 (x4 + 1))) else (none)) else (none))) else (none)) else (some x3)
def redlineref17_whole.f (k : Nat) (l0 : List ByteArray) : Option (ByteArray) := redlineref17_whole.l0 k l0 (⟨#[]⟩ : ByteArray) 0
set_option maxHeartbeats 8000000 in
set_option maxRecDepth 100000 in
theorem redlineref17_whole.calls (k : Nat) (A0 : Option Addr) (c0 : Nat) (l0 : List ByteArray) (r : ByteArray) (w : World) (hr0 : Kd.C Kd.string w A0 l0.length l0) (hc0 : l0.length ≤ c0) (h : redlineref17_whole.f k l0 = some r) :
    Calls Try.prog 60 #[.slice A0 l0.length c0] w fun e w' => e = .returned (.string r) ∧ Drawn0 w w' := by
  have HR0 := Aside0.mk hr0
  have HC0 := Aside0.mk hc0
  clear hr0 hc0
  have H : (redlineref17_whole.l0 k l0 (⟨#[]⟩ : ByteArray) 0) = some r := h
  clear h
  have H' := Aside0.mk H
  clear H
  go_enter Try.func60, Try.ntmps60
  go_wp2
  go_loopg [3, 4] k (fun kq v3 v4 w' => ∃ (x3_1 : ByteArray) (x4_1 : Int), v3 = .string x3_1 ∧ v4 = .int .i64 x4_1 ∧ Aside0 (redlineref17_whole.l0 kq l0 x3_1 x4_1 = some r) ∧ Aside0 (kq ≤ k) ∧ Drawn0 w w')
  case atStart => exact ⟨((⟨#[]⟩ : ByteArray)), (0), (by first | rfl | (simp; done) | (simp [*]; done)), (by first | rfl | (simp; done) | (simp [*]; done)), H', ⟨Nat.le_refl _⟩, by repeat (first | exact Drawn0.refl _ | apply Drawn0.step)⟩
  case round =>
    clear H'
    obtain ⟨x3_1, x4_1, rfl, rfl, HA, HK1, ⟨m1, rfl⟩⟩ := hrel
    cases gk with
    | zero => exact absurd HA.out (by simp [redlineref17_whole.l0])
    | succ k1 =>
      have H := HA.out
      clear HA
      simp only [redlineref17_whole.l0] at H
      by_cases c2 : x4_1 < (l0.length : Int)
      · rw [if_pos c2] at H
        have c2b0 : decide (x4_1 < (l0.length : Int)) = true := decide_eq_true c2
        clear c2
        by_cases c3 : 0 ≤ x4_1
        · rw [if_pos c3] at H
          have c3b0 : decide (0 ≤ x4_1) = true := decide_eq_true c3
          clear c3
          replace H := Option.bind_eq_some_iff.mp H
          obtain ⟨⟨t671, t672⟩, A40, H⟩ := H
          replace H : (if x3_1.size + t671.size ≤ 9223372036854775807 then (if (x3_1 ++ t671).size + 1 ≤ 9223372036854775807 then (redlineref17_whole.l0 k1 l0 ((x3_1 ++ t671) ++ (⟨#[10]⟩ : ByteArray)) (wrap64 (x4_1 + 1))) else (none)) else (none)) = some r := H
          have A4 := Aside0.mk A40
          clear A40
          by_cases c5 : x3_1.size + t671.size ≤ 9223372036854775807
          · rw [if_pos c5] at H
            have c5b0 := eq_true c5
            have c5b1 : decide (x3_1.size + t671.size ≤ 9223372036854775807) = true := decide_eq_true c5
            try have c5b2 : (9223372036854775807 < x3_1.size + t671.size) = False := eq_false (Nat.not_lt.2 c5)
            by_cases c6 : (x3_1 ++ t671).size + 1 ≤ 9223372036854775807
            · rw [if_pos c6] at H
              have c6b0 := eq_true c6
              have c6b1 : decide ((x3_1 ++ t671).size + 1 ≤ 9223372036854775807) = true := decide_eq_true c6
              try have c6b2 : (9223372036854775807 < (x3_1 ++ t671).size + 1) = False := eq_false (Nat.not_lt.2 c6)
              have c6b3 : (9223372036854775807 < x3_1.size + t671.size + 1) = False := eq_false (by have h_ := of_decide_eq_true c6b1; rw [ByteArray.size_append] at h_; omega)
              have H' := Aside0.mk H
              clear H
              have p670 : 0 ≤ (x4_1 : Int) := of_decide_eq_true (by first | (with_reducible assumption) | assumption)
              have q670 : x4_1 < (l0.length : Int) := of_decide_eq_true (by first | (with_reducible assumption) | assumption)
              obtain ⟨ad670, e670, hx670_0⟩ := Kd.at_string HR0.out x4_1 p670 q670
              cases e670
              replace p670 := eq_true p670
              replace q670 := eq_true q670
              go_wp2_with (first | ((with_reducible refine gate_callee (f := 89) rfl ?_); refine goesL_ (some 18) rfl rfl Try.func89 (by kernel_rfl) rfl #[.string (rdOf ByteArray.empty l0 x4_1)] rfl (by (try simp only [List.map_toArray, List.map_cons, List.map_nil]); first | done | rfl | (simp only [List.length_drop, List.length_take]; rfl)) ?_; (with_reducible refine (redlineref02_Bare.calls (rdOf ByteArray.empty l0 x4_1) t671 t672 _ A4.out).mono ?_); rintro e w' ⟨rfl, ⟨nd, rfl⟩⟩; refine ⟨_, rfl, ?_⟩))
              go_roundg k1
              case measure => have := HK1.out; omega
              case rel => exact ⟨((x3_1 ++ t671) ++ (⟨#[10]⟩ : ByteArray)), (wrap64 (x4_1 + 1)), (by first | rfl | (simp; done) | (simp [*]; done)), (by first | rfl | (simp; done) | (simp [*]; done)), H', ⟨by have := HK1.out; omega⟩, by repeat (first | exact Drawn0.refl _ | apply Drawn0.step)⟩
            · rw [if_neg c6] at H
              exact absurd H (by simp)
          · rw [if_neg c5] at H
            exact absurd H (by simp)
        · rw [if_neg c3] at H
          exact absurd H (by simp)
      · rw [if_neg c2] at H
        have c2b0 : decide (x4_1 < (l0.length : Int)) = false := decide_eq_false c2
        clear c2
        obtain rfl := Option.some.inj H
        go_wp2
        go_ret
        exact ⟨by first | rfl | (simp; done) | (simp [*]; done), by repeat (first | exact Drawn0.refl _ | apply Drawn0.step)⟩
end Go.Proofs.Ytnllemlmgbjjnaa.PA
namespace Go.Proofs.Ytnllemlmgbjjnaa.PA
open Go.RowKit Go.Proofs.YtnllemlmgbjjnaaW.PrintWords Go.Proofs.YtnllemlmgbjjnaaW.PrintLast Go.Proofs.YtnllemlmgbjjnaaW.PrintMore
attribute [local go_sem] max2_int min2_int max_two min_two max_three min_three max_four min_four   -- for this text's walks alone
set_option linter.unusedVariables false
set_option linter.unusedSimpArgs false
def redlineref17_letter.f (a0 : Int) : Option (Bool) := if a0 ≥ 97 then (if a0 ≤ 122 then (some true) else (if a0 ≥ 65 then (if a0 ≤ 90 then (some true) else (some (a0 == 95))) else (some (a0 == 95)))) else (if a0 ≥ 65 then (if a0 ≤ 90 then (some true) else (some (a0 == 95))) else (some (a0 == 95)))
set_option maxHeartbeats 8000000 in
set_option maxRecDepth 100000 in
theorem redlineref17_letter.calls (a0 : Int) (r : Bool) (w : World) (h : redlineref17_letter.f a0 = some r) :
    Calls Try.prog 88 #[.int .u8 a0] w fun e w' => e = .returned (.bool r) ∧ Drawn0 w w' := by
  have H : (if a0 ≥ 97 then (if a0 ≤ 122 then (some true) else (if a0 ≥ 65 then (if a0 ≤ 90 then (some true) else (some (a0 == 95))) else (some (a0 == 95)))) else (if a0 ≥ 65 then (if a0 ≤ 90 then (some true) else (some (a0 == 95))) else (some (a0 == 95)))) = some r := h
  clear h
  by_cases c2 : a0 ≥ 97
  · rw [if_pos c2] at H
    have c2b0 : decide (97 ≤ a0) = true := decide_eq_true c2
    clear c2
    by_cases c3 : a0 ≤ 122
    · rw [if_pos c3] at H
      have c3b0 : decide (a0 ≤ 122) = true := decide_eq_true c3
      clear c3
      obtain rfl := Option.some.inj H
      go_enter Try.func88, Try.ntmps88
      go_wp2
      go_ret
      exact ⟨by first | rfl | (simp; done) | (simp [*]; done), by repeat (first | exact Drawn0.refl _ | apply Drawn0.step)⟩
    · rw [if_neg c3] at H
      have c3b0 : decide (a0 ≤ 122) = false := decide_eq_false c3
      clear c3
      by_cases c4 : a0 ≥ 65
      · rw [if_pos c4] at H
        have c4b0 : decide (65 ≤ a0) = true := decide_eq_true c4
        clear c4
        by_cases c5 : a0 ≤ 90
        · rw [if_pos c5] at H
          have c5b0 : decide (a0 ≤ 90) = true := decide_eq_true c5
          clear c5
          obtain rfl := Option.some.inj H
          go_enter Try.func88, Try.ntmps88
          go_wp2
          go_ret
          exact ⟨by first | rfl | (simp; done) | (simp [*]; done), by repeat (first | exact Drawn0.refl _ | apply Drawn0.step)⟩
        · rw [if_neg c5] at H
          have c5b0 : decide (a0 ≤ 90) = false := decide_eq_false c5
          clear c5
          obtain rfl := Option.some.inj H
          go_enter Try.func88, Try.ntmps88
          go_wp2
          go_ret
          exact ⟨by first | rfl | (simp; done) | (simp [*]; done), by repeat (first | exact Drawn0.refl _ | apply Drawn0.step)⟩
      · rw [if_neg c4] at H
        have c4b0 : decide (65 ≤ a0) = false := decide_eq_false c4
        clear c4
        obtain rfl := Option.some.inj H
        go_enter Try.func88, Try.ntmps88
        go_wp2
        go_ret
        exact ⟨by first | rfl | (simp; done) | (simp [*]; done), by repeat (first | exact Drawn0.refl _ | apply Drawn0.step)⟩
  · rw [if_neg c2] at H
    have c2b0 : decide (97 ≤ a0) = false := decide_eq_false c2
    clear c2
    by_cases c6 : a0 ≥ 65
    · rw [if_pos c6] at H
      have c6b0 : decide (65 ≤ a0) = true := decide_eq_true c6
      clear c6
      by_cases c7 : a0 ≤ 90
      · rw [if_pos c7] at H
        have c7b0 : decide (a0 ≤ 90) = true := decide_eq_true c7
        clear c7
        obtain rfl := Option.some.inj H
        go_enter Try.func88, Try.ntmps88
        go_wp2
        go_ret
        exact ⟨by first | rfl | (simp; done) | (simp [*]; done), by repeat (first | exact Drawn0.refl _ | apply Drawn0.step)⟩
      · rw [if_neg c7] at H
        have c7b0 : decide (a0 ≤ 90) = false := decide_eq_false c7
        clear c7
        obtain rfl := Option.some.inj H
        go_enter Try.func88, Try.ntmps88
        go_wp2
        go_ret
        exact ⟨by first | rfl | (simp; done) | (simp [*]; done), by repeat (first | exact Drawn0.refl _ | apply Drawn0.step)⟩
    · rw [if_neg c6] at H
      have c6b0 : decide (65 ≤ a0) = false := decide_eq_false c6
      clear c6
      obtain rfl := Option.some.inj H
      go_enter Try.func88, Try.ntmps88
      go_wp2
      go_ret
      exact ⟨by first | rfl | (simp; done) | (simp [*]; done), by repeat (first | exact Drawn0.refl _ | apply Drawn0.step)⟩
end Go.Proofs.Ytnllemlmgbjjnaa.PA
namespace Go.Proofs.Ytnllemlmgbjjnaa.PA
open Go.RowKit Go.Proofs.YtnllemlmgbjjnaaW.PrintWords Go.Proofs.YtnllemlmgbjjnaaW.PrintLast Go.Proofs.YtnllemlmgbjjnaaW.PrintMore
attribute [local go_sem] max2_int min2_int max_two min_two max_three min_three max_four min_four   -- for this text's walks alone
set_option linter.unusedVariables false
set_option linter.unusedSimpArgs false
mutual
def redlineref17_Name.j0 : Nat → ByteArray → Bool → Option (Bool)
  | 0, _, _ => none
  | k + 1, x0, x11 => if x11 = true then (some false) else (redlineref17_Name.l0 k x0 0)
def redlineref17_Name.l0 : Nat → ByteArray → Int → Option (Bool)
  | 0, _, _ => none
  | k + 1, x0, x3 => if x3 < (x0.size : Int) then (if 0 ≤ x3 then ((redlineref17_letter.f (bt x0 x3)).bind fun t669 => (if t669 = true then (redlineref17_Name.l0 k x0 (wrap64 (x3 + 1))) else (if x3 = 0 then (some false) else (if (bt x0 x3) < 48 then (some false) else (if (bt x0 x3) > 57 then (some false) else (redlineref17_Name.l0 k x0 (wrap64 (x3 + 1)))))))) else (none)) else (some true)
end
def redlineref17_Name.f (k : Nat) (a0 : ByteArray) : Option (Bool) := if (a0.size : Int) = 0 then (redlineref17_Name.j0 k a0 true) else (redlineref17_Name.j0 k a0 (decide ((a0.size : Int) > 64)))
set_option maxHeartbeats 8000000 in
set_option maxRecDepth 100000 in
theorem redlineref17_Name.calls (k : Nat) (a0 : ByteArray) (r : Bool) (w : World) (h : redlineref17_Name.f k a0 = some r) :
    Calls Try.prog 59 #[.string a0] w fun e w' => e = .returned (.bool r) ∧ Drawn0 w w' := by
  have H : (if (a0.size : Int) = 0 then (redlineref17_Name.j0 k a0 true) else (redlineref17_Name.j0 k a0 (decide ((a0.size : Int) > 64)))) = some r := h
  clear h
  have HC2 := Aside0.mk H
  clear H
  go_enter Try.func59, Try.ntmps59
  go_upto_region 1 with (fail)
  go_cut [11] (fun v11 wc => ∃ (kq : Nat) (x11_1 : Bool), v11 = .bool x11_1 ∧ Aside0 (redlineref17_Name.j0 kq a0 x11_1 = some r) ∧ Aside0 (kq ≤ k) ∧ Drawn0 w wc)
  case first =>
    have H := HC2.out
    clear HC2
    by_cases c3 : (a0.size : Int) = 0
    · rw [if_pos c3] at H
      have c3b0 : ((a0.size : Int) == 0) = true := beq_iff_eq.mpr c3
      have c3b1 : ((a0.size : Int) != 0) = false := bne_eq_false_iff_eq.mpr c3
      clear c3
      (first | rw [c3b0] | (simp only [i64_w, i32_w]; rw [c3b0]) | skip)
      have H' := Aside0.mk H
      clear H
      go_wp2
      go_meet
      case rel => exact ⟨_, (true), (by first | rfl | (simp; done) | (simp [*]; done)), H', ⟨by first | omega | exact Nat.le_refl _⟩, by repeat (first | exact Drawn0.refl _ | apply Drawn0.step)⟩
    · rw [if_neg c3] at H
      have c3b0 : ((a0.size : Int) == 0) = false := beq_eq_false_iff_ne.mpr c3
      have c3b1 : ((a0.size : Int) != 0) = true := bne_iff_ne.mpr c3
      (first | rw [c3b0] | (simp only [i64_w, i32_w]; rw [c3b0]) | skip)
      have H' := Aside0.mk H
      clear H
      go_wp2
      go_meet
      case rel => exact ⟨_, (decide ((a0.size : Int) > 64)), (by first | rfl | (simp; done) | (simp [*]; done)), H', ⟨by first | omega | exact Nat.le_refl _⟩, by repeat (first | exact Drawn0.refl _ | apply Drawn0.step)⟩
  case rest =>
    clear HC2
    try clear p2
    try clear c3
    try clear c3b0
    try clear c3b1
    obtain ⟨kq, x11_1, rfl, HA, HJ1, ⟨mc1, rfl⟩⟩ := hcut
    cases kq with
    | zero => exact absurd HA.out (by simp [redlineref17_Name.j0])
    | succ kj1 =>
      have H := HA.out
      clear HA
      simp only [redlineref17_Name.j0] at H
      by_cases c4 : x11_1 = true
      · subst c4
        have H1 : (some false) = some r := by rw [if_pos rfl] at H; exact H
        clear H
        have H := H1
        clear H1
        obtain rfl := Option.some.inj H
        go_wp2
        go_ret
        exact ⟨by first | rfl | (simp; done) | (simp [*]; done), by repeat (first | exact Drawn0.refl _ | apply Drawn0.step)⟩
      · replace c4 := Bool.eq_false_iff.mpr c4
        subst c4
        have H1 : (redlineref17_Name.l0 kj1 a0 0) = some r := by rw [if_neg (show ¬ (false = true) by decide)] at H; exact H
        clear H
        have H := H1
        clear H1
        have H' := Aside0.mk H
        clear H
        go_wp2
        go_loopg [3] kj1 (fun kq v3 w' => ∃ (x3_2 : Int), v3 = .int .i64 x3_2 ∧ Aside0 (redlineref17_Name.l0 kq a0 x3_2 = some r) ∧ Aside0 (kq ≤ kj1) ∧ Drawn0 w w')
        case atStart => exact ⟨(0), (by first | rfl | (simp; done) | (simp [*]; done)), H', ⟨Nat.le_refl _⟩, by repeat (first | exact Drawn0.refl _ | apply Drawn0.step)⟩
        case round =>
          clear H'
          try clear c1
          try clear p2
          try clear c3
          try clear c3b0
          try clear c3b1
          try clear c4
          try clear p2
          obtain ⟨x3_2, rfl, HA, HK2, ⟨m2, rfl⟩⟩ := hrel
          cases gk with
          | zero => exact absurd HA.out (by simp [redlineref17_Name.l0])
          | succ k2 =>
            have H := HA.out
            clear HA
            simp only [redlineref17_Name.l0] at H
            by_cases c5 : x3_2 < (a0.size : Int)
            · rw [if_pos c5] at H
              have c5b0 : decide (x3_2 < (a0.size : Int)) = true := decide_eq_true c5
              clear c5
              by_cases c6 : 0 ≤ x3_2
              · rw [if_pos c6] at H
                have c6b0 : decide (0 ≤ x3_2) = true := decide_eq_true c6
                clear c6
                replace H := Option.bind_eq_some_iff.mp H
                obtain ⟨t669, A80, H⟩ := H
                replace H : (if t669 = true then (redlineref17_Name.l0 k2 a0 (wrap64 (x3_2 + 1))) else (if x3_2 = 0 then (some false) else (if (bt a0 x3_2) < 48 then (some false) else (if (bt a0 x3_2) > 57 then (some false) else (redlineref17_Name.l0 k2 a0 (wrap64 (x3_2 + 1))))))) = some r := H
                have A8 := Aside0.mk A80
                clear A80
                by_cases c9 : t669 = true
                · subst c9
                  have H1 : (redlineref17_Name.l0 k2 a0 (wrap64 (x3_2 + 1))) = some r := by rw [if_pos rfl] at H; exact H
                  clear H
                  have H := H1
                  clear H1
                  have H' := Aside0.mk H
                  clear H
                  have p7 : 0 ≤ (x3_2 : Int) := of_decide_eq_true (by first | (with_reducible assumption) | assumption)
                  have q7 : x3_2 < (a0.size : Int) := of_decide_eq_true (by first | (with_reducible assumption) | assumption)
                  have hx7 := bt_at a0 x3_2
                  replace p7 := eq_true p7
                  replace q7 := eq_true q7
                  go_wp2_with (first | ((with_reducible refine gate_callee (f := 88) rfl ?_); refine goesL_ (some 21) rfl rfl Try.func88 (by kernel_rfl) rfl #[.int .u8 (bt a0 x3_2)] rfl (by (try simp only [List.map_toArray, List.map_cons, List.map_nil]); first | done | rfl | (simp only [List.length_drop, List.length_take]; rfl)) ?_; (with_reducible refine (redlineref17_letter.calls (bt a0 x3_2) true _ A8.out).mono ?_); rintro e w' ⟨rfl, ⟨nd, rfl⟩⟩; refine ⟨_, rfl, ?_⟩))
                  go_roundg k2
                  case measure => have := HJ1.out; have := HK2.out; omega
                  case rel => exact ⟨(wrap64 (x3_2 + 1)), (by first | rfl | (simp; done) | (simp [*]; done)), H', ⟨by have := HJ1.out; have := HK2.out; omega⟩, by repeat (first | exact Drawn0.refl _ | apply Drawn0.step)⟩
                · replace c9 := Bool.eq_false_iff.mpr c9
                  subst c9
                  have H1 : (if x3_2 = 0 then (some false) else (if (bt a0 x3_2) < 48 then (some false) else (if (bt a0 x3_2) > 57 then (some false) else (redlineref17_Name.l0 k2 a0 (wrap64 (x3_2 + 1)))))) = some r := by rw [if_neg (show ¬ (false = true) by decide)] at H; exact H
                  clear H
                  have H := H1
                  clear H1
                  by_cases c10 : x3_2 = 0
                  · rw [if_pos c10] at H
                    have c10b0 : (x3_2 == 0) = true := beq_iff_eq.mpr c10
                    have c10b1 : (x3_2 != 0) = false := bne_eq_false_iff_eq.mpr c10
                    clear c10
                    obtain rfl := Option.some.inj H
                    have p7 : 0 ≤ (x3_2 : Int) := of_decide_eq_true (by first | (with_reducible assumption) | assumption)
                    have q7 : x3_2 < (a0.size : Int) := of_decide_eq_true (by first | (with_reducible assumption) | assumption)
                    have hx7 := bt_at a0 x3_2
                    replace p7 := eq_true p7
                    replace q7 := eq_true q7
                    go_wp2_with (first | ((with_reducible refine gate_callee (f := 88) rfl ?_); refine goesL_ (some 21) rfl rfl Try.func88 (by kernel_rfl) rfl #[.int .u8 (bt a0 x3_2)] rfl (by (try simp only [List.map_toArray, List.map_cons, List.map_nil]); first | done | rfl | (simp only [List.length_drop, List.length_take]; rfl)) ?_; (with_reducible refine (redlineref17_letter.calls (bt a0 x3_2) false _ A8.out).mono ?_); rintro e w' ⟨rfl, ⟨nd, rfl⟩⟩; refine ⟨_, rfl, ?_⟩))
                    go_ret
                    exact ⟨by first | rfl | (simp; done) | (simp [*]; done), by repeat (first | exact Drawn0.refl _ | apply Drawn0.step)⟩
                  · rw [if_neg c10] at H
                    have c10b0 : (x3_2 == 0) = false := beq_eq_false_iff_ne.mpr c10
                    have c10b1 : (x3_2 != 0) = true := bne_iff_ne.mpr c10
                    by_cases c12 : (bt a0 x3_2) < 48
                    · rw [if_pos c12] at H
                      have c12b0 : decide ((bt a0 x3_2) < 48) = true := decide_eq_true c12
                      clear c12
                      obtain rfl := Option.some.inj H
                      have p7 : 0 ≤ (x3_2 : Int) := of_decide_eq_true (by first | (with_reducible assumption) | assumption)
                      have q7 : x3_2 < (a0.size : Int) := of_decide_eq_true (by first | (with_reducible assumption) | assumption)
                      have hx7 := bt_at a0 x3_2
                      replace p7 := eq_true p7
                      replace q7 := eq_true q7
                      go_wp2_with (first | ((with_reducible refine gate_callee (f := 88) rfl ?_); refine goesL_ (some 21) rfl rfl Try.func88 (by kernel_rfl) rfl #[.int .u8 (bt a0 x3_2)] rfl (by (try simp only [List.map_toArray, List.map_cons, List.map_nil]); first | done | rfl | (simp only [List.length_drop, List.length_take]; rfl)) ?_; (with_reducible refine (redlineref17_letter.calls (bt a0 x3_2) false _ A8.out).mono ?_); rintro e w' ⟨rfl, ⟨nd, rfl⟩⟩; refine ⟨_, rfl, ?_⟩; have p11 : 0 ≤ (x3_2 : Int) := of_decide_eq_true (by first | (with_reducible assumption) | assumption); have q11 : x3_2 < (a0.size : Int) := of_decide_eq_true (by first | (with_reducible assumption) | assumption); have hx11 := bt_at a0 x3_2; replace p11 := eq_true p11; replace q11 := eq_true q11))
                      go_ret
                      exact ⟨by first | rfl | (simp; done) | (simp [*]; done), by repeat (first | exact Drawn0.refl _ | apply Drawn0.step)⟩
                    · rw [if_neg c12] at H
                      have c12b0 : decide ((bt a0 x3_2) < 48) = false := decide_eq_false c12
                      clear c12
                      by_cases c14 : (bt a0 x3_2) > 57
                      · rw [if_pos c14] at H
                        have c14b0 : decide (57 < (bt a0 x3_2)) = true := decide_eq_true c14
                        clear c14
                        obtain rfl := Option.some.inj H
                        have p7 : 0 ≤ (x3_2 : Int) := of_decide_eq_true (by first | (with_reducible assumption) | assumption)
                        have q7 : x3_2 < (a0.size : Int) := of_decide_eq_true (by first | (with_reducible assumption) | assumption)
                        have hx7 := bt_at a0 x3_2
                        replace p7 := eq_true p7
                        replace q7 := eq_true q7
                        go_wp2_with (first | ((with_reducible refine gate_callee (f := 88) rfl ?_); refine goesL_ (some 21) rfl rfl Try.func88 (by kernel_rfl) rfl #[.int .u8 (bt a0 x3_2)] rfl (by (try simp only [List.map_toArray, List.map_cons, List.map_nil]); first | done | rfl | (simp only [List.length_drop, List.length_take]; rfl)) ?_; (with_reducible refine (redlineref17_letter.calls (bt a0 x3_2) false _ A8.out).mono ?_); rintro e w' ⟨rfl, ⟨nd, rfl⟩⟩; refine ⟨_, rfl, ?_⟩; have p11 : 0 ≤ (x3_2 : Int) := of_decide_eq_true (by first | (with_reducible assumption) | assumption); have q11 : x3_2 < (a0.size : Int) := of_decide_eq_true (by first | (with_reducible assumption) | assumption); have hx11 := bt_at a0 x3_2; replace p11 := eq_true p11; replace q11 := eq_true q11; have p13 : 0 ≤ (x3_2 : Int) := of_decide_eq_true (by first | (with_reducible assumption) | assumption); have q13 : x3_2 < (a0.size : Int) := of_decide_eq_true (by first | (with_reducible assumption) | assumption); have hx13 := bt_at a0 x3_2; replace p13 := eq_true p13; replace q13 := eq_true q13))
                        go_ret
                        exact ⟨by first | rfl | (simp; done) | (simp [*]; done), by repeat (first | exact Drawn0.refl _ | apply Drawn0.step)⟩
                      · rw [if_neg c14] at H
                        have c14b0 : decide (57 < (bt a0 x3_2)) = false := decide_eq_false c14
                        clear c14
                        have H' := Aside0.mk H
                        clear H
                        have p7 : 0 ≤ (x3_2 : Int) := of_decide_eq_true (by first | (with_reducible assumption) | assumption)
                        have q7 : x3_2 < (a0.size : Int) := of_decide_eq_true (by first | (with_reducible assumption) | assumption)
                        have hx7 := bt_at a0 x3_2
                        replace p7 := eq_true p7
                        replace q7 := eq_true q7
                        go_wp2_with (first | ((with_reducible refine gate_callee (f := 88) rfl ?_); refine goesL_ (some 21) rfl rfl Try.func88 (by kernel_rfl) rfl #[.int .u8 (bt a0 x3_2)] rfl (by (try simp only [List.map_toArray, List.map_cons, List.map_nil]); first | done | rfl | (simp only [List.length_drop, List.length_take]; rfl)) ?_; (with_reducible refine (redlineref17_letter.calls (bt a0 x3_2) false _ A8.out).mono ?_); rintro e w' ⟨rfl, ⟨nd, rfl⟩⟩; refine ⟨_, rfl, ?_⟩; have p11 : 0 ≤ (x3_2 : Int) := of_decide_eq_true (by first | (with_reducible assumption) | assumption); have q11 : x3_2 < (a0.size : Int) := of_decide_eq_true (by first | (with_reducible assumption) | assumption); have hx11 := bt_at a0 x3_2; replace p11 := eq_true p11; replace q11 := eq_true q11; have p13 : 0 ≤ (x3_2 : Int) := of_decide_eq_true (by first | (with_reducible assumption) | assumption); have q13 : x3_2 < (a0.size : Int) := of_decide_eq_true (by first | (with_reducible assumption) | assumption); have hx13 := bt_at a0 x3_2; replace p13 := eq_true p13; replace q13 := eq_true q13))
                        go_roundg k2
                        case measure => have := HJ1.out; have := HK2.out; omega
                        case rel => exact ⟨(wrap64 (x3_2 + 1)), (by first | rfl | (simp; done) | (simp [*]; done)), H', ⟨by have := HJ1.out; have := HK2.out; omega⟩, by repeat (first | exact Drawn0.refl _ | apply Drawn0.step)⟩
              · rw [if_neg c6] at H
                exact absurd H (by simp)
            · rw [if_neg c5] at H
              have c5b0 : decide (x3_2 < (a0.size : Int)) = false := decide_eq_false c5
              clear c5
              obtain rfl := Option.some.inj H
              go_wp2
              go_ret
              exact ⟨by first | rfl | (simp; done) | (simp [*]; done), by repeat (first | exact Drawn0.refl _ | apply Drawn0.step)⟩
end Go.Proofs.Ytnllemlmgbjjnaa.PA
namespace Go.Proofs.Ytnllemlmgbjjnaa.PA
open Go.RowKit Go.Proofs.YtnllemlmgbjjnaaW.PrintWords Go.Proofs.YtnllemlmgbjjnaaW.PrintLast Go.Proofs.YtnllemlmgbjjnaaW.PrintMore
attribute [local go_sem] max2_int min2_int max_two min_two max_three min_three max_four min_four   -- for this text's walks alone
set_option linter.unusedVariables false
set_option linter.unusedSimpArgs false
def edits_count.f (a0 : Int) : Option (Bool) := if a0 ≥ 0 then (some (decide (a0 ≤ 2147483647))) else (some false)
set_option maxHeartbeats 8000000 in
set_option maxRecDepth 100000 in
theorem edits_count.calls (a0 : Int) (r : Bool) (w : World) (h : edits_count.f a0 = some r) :
    Calls Try.prog 84 #[.int .i64 a0] w fun e w' => e = .returned (.bool r) ∧ Drawn0 w w' := by
  have H : (if a0 ≥ 0 then (some (decide (a0 ≤ 2147483647))) else (some false)) = some r := h
  clear h
  by_cases c2 : a0 ≥ 0
  · rw [if_pos c2] at H
    have c2b0 : decide (0 ≤ a0) = true := decide_eq_true c2
    clear c2
    obtain rfl := Option.some.inj H
    go_enter Try.func84, Try.ntmps84
    go_wp2
    go_ret
    exact ⟨by first | rfl | (simp; done) | (simp [*]; done), by repeat (first | exact Drawn0.refl _ | apply Drawn0.step)⟩
  · rw [if_neg c2] at H
    have c2b0 : decide (0 ≤ a0) = false := decide_eq_false c2
    clear c2
    obtain rfl := Option.some.inj H
    go_enter Try.func84, Try.ntmps84
    go_wp2
    go_ret
    exact ⟨by first | rfl | (simp; done) | (simp [*]; done), by repeat (first | exact Drawn0.refl _ | apply Drawn0.step)⟩
end Go.Proofs.Ytnllemlmgbjjnaa.PA
namespace Go.Proofs.Ytnllemlmgbjjnaa.PA
open Go.RowKit Go.Proofs.YtnllemlmgbjjnaaW.PrintWords Go.Proofs.YtnllemlmgbjjnaaW.PrintLast Go.Proofs.YtnllemlmgbjjnaaW.PrintMore
attribute [local go_sem] max2_int min2_int max_two min_two max_three min_three max_four min_four   -- for this text's walks alone
set_option linter.unusedVariables false
set_option linter.unusedSimpArgs false
mutual
def edits_Check.l0 : Nat → Int → Int → Int → Int → List (S94) → Int → Int → Option (Int)
  | 0, _, _, _, _, _, _, _ => none
  | k + 1, x1, x2, x7, x8, x12, x13, x14 => if x14 < x13 then (if 0 ≤ x14 then (if x14 < (x12.length : Int) then ((edits_count.f ((rd_T94 x12 x14).f0)).bind fun t337 => (if t337 = true then ((edits_count.f ((rd_T94 x12 x14).f1)).bind fun t338 => (if t338 = true then ((edits_count.f ((rd_T94 x12 x14).f2)).bind fun t339 => (if t339 = true then ((edits_count.f ((rd_T94 x12 x14).f3)).bind fun t340 => (if t340 = true then (if ((rd_T94 x12 x14).f1) = 0 then (edits_Check.j1 k x1 x2 x7 x8 x14 x12 x13 x14 (((rd_T94 x12 x14).f3) == 0) ((rd_T94 x12 x14).f0) ((rd_T94 x12 x14).f1) ((rd_T94 x12 x14).f2) ((rd_T94 x12 x14).f3)) else (edits_Check.j1 k x1 x2 x7 x8 x14 x12 x13 x14 false ((rd_T94 x12 x14).f0) ((rd_T94 x12 x14).f1) ((rd_T94 x12 x14).f2) ((rd_T94 x12 x14).f3))) else (edits_Check.j1 k x1 x2 x7 x8 x14 x12 x13 x14 true ((rd_T94 x12 x14).f0) ((rd_T94 x12 x14).f1) ((rd_T94 x12 x14).f2) ((rd_T94 x12 x14).f3)))) else (edits_Check.j1 k x1 x2 x7 x8 x14 x12 x13 x14 true ((rd_T94 x12 x14).f0) ((rd_T94 x12 x14).f1) ((rd_T94 x12 x14).f2) ((rd_T94 x12 x14).f3)))) else (edits_Check.j1 k x1 x2 x7 x8 x14 x12 x13 x14 true ((rd_T94 x12 x14).f0) ((rd_T94 x12 x14).f1) ((rd_T94 x12 x14).f2) ((rd_T94 x12 x14).f3)))) else (edits_Check.j1 k x1 x2 x7 x8 x14 x12 x13 x14 true ((rd_T94 x12 x14).f0) ((rd_T94 x12 x14).f1) ((rd_T94 x12 x14).f2) ((rd_T94 x12 x14).f3)))) else (none)) else (none)) else (if x7 > x1 then (some 50) else (if x8 > x2 then (some 50) else (if (wrap64 (x1 - x7)) = (wrap64 (x2 - x8)) then (some 0) else (some 50))))
def edits_Check.j1 : Nat → Int → Int → Int → Int → Int → List (S94) → Int → Int → Bool → Int → Int → Int → Int → Option (Int)
  | 0, _, _, _, _, _, _, _, _, _, _, _, _, _ => none
  | k + 1, x1, x2, x7, x8, x9, x12, x13, x14, x50, x337000, x337001, x337002, x337003 => if x50 = true then (some 50) else (if (wrap64 (x337000 - x7)) < 0 then (some 50) else (if x9 > 0 then (if (wrap64 (x337000 - x7)) = 0 then (some 50) else (if (wrap64 (x337000 - x7)) = (wrap64 (x337002 - x8)) then (edits_Check.l0 k x1 x2 (wrap64 (x337000 + x337001)) (wrap64 (x337002 + x337003)) x12 x13 (wrap64 (x14 + 1))) else (some 50))) else (if (wrap64 (x337000 - x7)) = (wrap64 (x337002 - x8)) then (edits_Check.l0 k x1 x2 (wrap64 (x337000 + x337001)) (wrap64 (x337002 + x337003)) x12 x13 (wrap64 (x14 + 1))) else (some 50))))
end
def edits_Check.f (k : Nat) (l0 : List (S94)) (a1 : Int) (a2 : Int) : Option (Int) := edits_Check.l0 k a1 a2 0 0 l0 (l0.length : Int) 0
set_option maxHeartbeats 8000000 in
set_option maxRecDepth 100000 in
theorem edits_Check.calls (k : Nat) (A0 : Option Addr) (c0 : Nat) (l0 : List (S94)) (a1 : Int) (a2 : Int) (r : Int) (w : World) (hr0 : Kd.C k94 w A0 l0.length l0) (hc0 : l0.length ≤ c0) (h : edits_Check.f k l0 a1 a2 = some r) :
    Calls Try.prog 51 #[.slice A0 l0.length c0, .int .i64 a1, .int .i64 a2] w fun e w' => e = .returned (.int .i64 r) ∧ Below w.heap.size w w' := by
  have hu94 := Try.underlying94
  have HR0 := Aside0.mk hr0
  have HC0 := Aside0.mk hc0
  clear hr0 hc0
  have HB := Aside0.mk (Below.refl w.heap.size w)
  have H : (edits_Check.l0 k a1 a2 0 0 l0 (l0.length : Int) 0) = some r := h
  clear h
  have H' := Aside0.mk H
  clear H
  go_enter Try.func51, Try.ntmps51
  go_wp2
  repeat (go_quiet (fail); try go_wp2)
  go_loopg [7, 8, 14] k (fun kq v7 v8 v14 w' => ∃ (x7_1 : Int) (x8_1 : Int) (x14_1 : Int), v7 = .int .i64 x7_1 ∧ v8 = .int .i64 x8_1 ∧ v14 = .int .i64 x14_1 ∧ Aside0 (edits_Check.l0 kq a1 a2 x7_1 x8_1 l0 (l0.length : Int) x14_1 = some r) ∧ Aside0 (kq ≤ k) ∧ Aside0 (Below w.heap.size w w'))
  case atStart => exact ⟨(0), (0), (0), (by first | rfl | (simp; done) | (simp [*]; done)), (by first | rfl | (simp; done) | (simp [*]; done)), (by first | rfl | (simp; done) | (simp [*]; done)), H', ⟨Nat.le_refl _⟩, ⟨by repeat (first | (with_reducible first | exact HB.out | apply below_alloc | apply pw_below_drewN | apply below_drew1) | exact HB.out)⟩⟩
  case round =>
    clear H'
    try clear p2
    obtain ⟨x7_1, x8_1, x14_1, rfl, rfl, rfl, HA, HK1, HB⟩ := hrel
    cases gk with
    | zero => exact absurd HA.out (by simp [edits_Check.l0])
    | succ k1 =>
      have H := HA.out
      clear HA
      simp only [edits_Check.l0] at H
      by_cases c4 : x14_1 < (l0.length : Int)
      · rw [if_pos c4] at H
        have c4b0 : decide (x14_1 < (l0.length : Int)) = true := decide_eq_true c4
        clear c4
        by_cases c5 : 0 ≤ x14_1
        · rw [if_pos c5] at H
          have c5b0 : decide (0 ≤ x14_1) = true := decide_eq_true c5
          clear c5
          by_cases c6 : x14_1 < (l0.length : Int)
          · rw [if_pos c6] at H
            have c6b0 : decide (x14_1 < (l0.length : Int)) = true := decide_eq_true c6
            clear c6
            have HC7 := Aside0.mk H
            clear H
            have p335 : 0 ≤ (x14_1 : Int) := of_decide_eq_true (by first | (with_reducible assumption) | assumption)
            have q335 : x14_1 < (l0.length : Int) := of_decide_eq_true (by first | (with_reducible assumption) | assumption)
            obtain ⟨ad335, e335, hx335_0, hx335_1, hx335_2, hx335_3⟩ := at_T94 HR0.out x14_1 p335 q335
            cases e335
            replace hx335_0 := (HB.out.cell (World.block_lt_of_cell? w _ hx335_0)).trans hx335_0
            replace hx335_1 := (HB.out.cell (World.block_lt_of_cell? w _ hx335_1)).trans hx335_1
            replace hx335_2 := (HB.out.cell (World.block_lt_of_cell? w _ hx335_2)).trans hx335_2
            replace hx335_3 := (HB.out.cell (World.block_lt_of_cell? w _ hx335_3)).trans hx335_3
            replace p335 := eq_true p335
            replace q335 := eq_true q335
            go_upto_region 5 with (first | ((with_reducible refine gate_dst (N := 10) rfl ?_); refine box_event ?hg (N := 10) ?hd (cs := #[.int .i64 0, .int .i64 0, .int .i64 0, .int .i64 0]) (t := 94) ?hr ?_; (case hd => rfl); (case hg => rfl); (case hr => first | (go_simp; done) | (go_simp; rfl)); intro gb336 hg w8 hbox hb; have n0_ := Aside0.mk (below_step (by repeat (first | (with_reducible first | exact HB.out | apply below_alloc | apply pw_below_drewN | apply below_drew1) | exact HB.out)) hb); have n1_ := Aside0.mk (hbox); have n2_ := Aside0.mk ((by rw [hg]; exact (below_size (by repeat (first | (with_reducible first | exact HB.out | apply below_alloc | apply pw_below_drewN | apply below_drew1) | exact HB.out))) : w.heap.size ≤ gb336)); have n3_ := Aside0.mk ((by rw [hg]; exact (below_size (by repeat (first | (with_reducible first | exact HB.out | apply below_alloc | apply pw_below_drewN | apply below_drew1) | exact HB.out))) : w.heap.size ≤ gb336)); clear HB; have HB := n0_; have BK336 := n1_; have GW336 := n2_; have GE336 := n3_; clear n0_ n1_ n2_ n3_; clear hb hbox hg; have hcz9_0 : w8.cell? ⟨gb336, 0, none⟩ = some (.int .i64 0) := (blk_cell BK336.out 0).trans rfl; have hcz9_1 : w8.cell? ⟨gb336, 1, none⟩ = some (.int .i64 0) := (blk_cell BK336.out 1).trans rfl; have hcz9_2 : w8.cell? ⟨gb336, 2, none⟩ = some (.int .i64 0) := (blk_cell BK336.out 2).trans rfl; have hcz9_3 : w8.cell? ⟨gb336, 3, none⟩ = some (.int .i64 0) := (blk_cell BK336.out 3).trans rfl; have hfz9_0 := blk_frozen BK336.out 0; have hfz9_1 := blk_frozen BK336.out 1; have hfz9_2 := blk_frozen BK336.out 2; have hfz9_3 := blk_frozen BK336.out 3))
            repeat (go_quiet (first | ((with_reducible refine gate_dst (N := 10) rfl ?_); refine box_event ?hg (N := 10) ?hd (cs := #[.int .i64 0, .int .i64 0, .int .i64 0, .int .i64 0]) (t := 94) ?hr ?_; (case hd => rfl); (case hg => rfl); (case hr => first | (go_simp; done) | (go_simp; rfl)); intro gb336 hg w8 hbox hb; have n0_ := Aside0.mk (below_step (by repeat (first | (with_reducible first | exact HB.out | apply below_alloc | apply pw_below_drewN | apply below_drew1) | exact HB.out)) hb); have n1_ := Aside0.mk (hbox); have n2_ := Aside0.mk ((by rw [hg]; exact (below_size (by repeat (first | (with_reducible first | exact HB.out | apply below_alloc | apply pw_below_drewN | apply below_drew1) | exact HB.out))) : w.heap.size ≤ gb336)); have n3_ := Aside0.mk ((by rw [hg]; exact (below_size (by repeat (first | (with_reducible first | exact HB.out | apply below_alloc | apply pw_below_drewN | apply below_drew1) | exact HB.out))) : w.heap.size ≤ gb336)); clear HB; have HB := n0_; have BK336 := n1_; have GW336 := n2_; have GE336 := n3_; clear n0_ n1_ n2_ n3_; clear hb hbox hg; have hcz9_0 : w8.cell? ⟨gb336, 0, none⟩ = some (.int .i64 0) := (blk_cell BK336.out 0).trans rfl; have hcz9_1 : w8.cell? ⟨gb336, 1, none⟩ = some (.int .i64 0) := (blk_cell BK336.out 1).trans rfl; have hcz9_2 : w8.cell? ⟨gb336, 2, none⟩ = some (.int .i64 0) := (blk_cell BK336.out 2).trans rfl; have hcz9_3 : w8.cell? ⟨gb336, 3, none⟩ = some (.int .i64 0) := (blk_cell BK336.out 3).trans rfl; have hfz9_0 := blk_frozen BK336.out 0; have hfz9_1 := blk_frozen BK336.out 1; have hfz9_2 := blk_frozen BK336.out 2; have hfz9_3 := blk_frozen BK336.out 3)); go_upto_region 5 with (first | ((with_reducible refine gate_dst (N := 10) rfl ?_); refine box_event ?hg (N := 10) ?hd (cs := #[.int .i64 0, .int .i64 0, .int .i64 0, .int .i64 0]) (t := 94) ?hr ?_; (case hd => rfl); (case hg => rfl); (case hr => first | (go_simp; done) | (go_simp; rfl)); intro gb336 hg w8 hbox hb; have n0_ := Aside0.mk (below_step (by repeat (first | (with_reducible first | exact HB.out | apply below_alloc | apply pw_below_drewN | apply below_drew1) | exact HB.out)) hb); have n1_ := Aside0.mk (hbox); have n2_ := Aside0.mk ((by rw [hg]; exact (below_size (by repeat (first | (with_reducible first | exact HB.out | apply below_alloc | apply pw_below_drewN | apply below_drew1) | exact HB.out))) : w.heap.size ≤ gb336)); have n3_ := Aside0.mk ((by rw [hg]; exact (below_size (by repeat (first | (with_reducible first | exact HB.out | apply below_alloc | apply pw_below_drewN | apply below_drew1) | exact HB.out))) : w.heap.size ≤ gb336)); clear HB; have HB := n0_; have BK336 := n1_; have GW336 := n2_; have GE336 := n3_; clear n0_ n1_ n2_ n3_; clear hb hbox hg; have hcz9_0 : w8.cell? ⟨gb336, 0, none⟩ = some (.int .i64 0) := (blk_cell BK336.out 0).trans rfl; have hcz9_1 : w8.cell? ⟨gb336, 1, none⟩ = some (.int .i64 0) := (blk_cell BK336.out 1).trans rfl; have hcz9_2 : w8.cell? ⟨gb336, 2, none⟩ = some (.int .i64 0) := (blk_cell BK336.out 2).trans rfl; have hcz9_3 : w8.cell? ⟨gb336, 3, none⟩ = some (.int .i64 0) := (blk_cell BK336.out 3).trans rfl; have hfz9_0 := blk_frozen BK336.out 0; have hfz9_1 := blk_frozen BK336.out 1; have hfz9_2 := blk_frozen BK336.out 2; have hfz9_3 := blk_frozen BK336.out 3)))
            (try simp only [Act.put, List.setIfInBounds_toArray, List.set_cons_zero, List.set_cons_succ])
            go_cut [50] (fun v50 wc => ∃ (kq : Nat) (x50_6 : Bool), v50 = .bool x50_6 ∧ Aside0 (edits_Check.j1 kq a1 a2 x7_1 x8_1 x14_1 l0 (l0.length : Int) x14_1 x50_6 ((rd_T94 l0 x14_1).f0) ((rd_T94 l0 x14_1).f1) ((rd_T94 l0 x14_1).f2) ((rd_T94 l0 x14_1).f3) = some r) ∧ Aside0 (kq ≤ k1) ∧ Aside0 (wc.heap[gb336]? = some (.cells #[.int .i64 ((rd_T94 l0 x14_1).f0), .int .i64 ((rd_T94 l0 x14_1).f1), .int .i64 ((rd_T94 l0 x14_1).f2), .int .i64 ((rd_T94 l0 x14_1).f3)] 94 (0, 0))) ∧ Aside0 (Below w.heap.size w wc))
            case first =>
              have H := HC7.out
              clear HC7
              replace H := Option.bind_eq_some_iff.mp H
              obtain ⟨t337, A100, H⟩ := H
              replace H : (if t337 = true then ((edits_count.f ((rd_T94 l0 x14_1).f1)).bind fun t338 => (if t338 = true then ((edits_count.f ((rd_T94 l0 x14_1).f2)).bind fun t339 => (if t339 = true then ((edits_count.f ((rd_T94 l0 x14_1).f3)).bind fun t340 => (if t340 = true then (if ((rd_T94 l0 x14_1).f1) = 0 then (edits_Check.j1 k1 a1 a2 x7_1 x8_1 x14_1 l0 (l0.length : Int) x14_1 (((rd_T94 l0 x14_1).f3) == 0) ((rd_T94 l0 x14_1).f0) ((rd_T94 l0 x14_1).f1) ((rd_T94 l0 x14_1).f2) ((rd_T94 l0 x14_1).f3)) else (edits_Check.j1 k1 a1 a2 x7_1 x8_1 x14_1 l0 (l0.length : Int) x14_1 false ((rd_T94 l0 x14_1).f0) ((rd_T94 l0 x14_1).f1) ((rd_T94 l0 x14_1).f2) ((rd_T94 l0 x14_1).f3))) else (edits_Check.j1 k1 a1 a2 x7_1 x8_1 x14_1 l0 (l0.length : Int) x14_1 true ((rd_T94 l0 x14_1).f0) ((rd_T94 l0 x14_1).f1) ((rd_T94 l0 x14_1).f2) ((rd_T94 l0 x14_1).f3)))) else (edits_Check.j1 k1 a1 a2 x7_1 x8_1 x14_1 l0 (l0.length : Int) x14_1 true ((rd_T94 l0 x14_1).f0) ((rd_T94 l0 x14_1).f1) ((rd_T94 l0 x14_1).f2) ((rd_T94 l0 x14_1).f3)))) else (edits_Check.j1 k1 a1 a2 x7_1 x8_1 x14_1 l0 (l0.length : Int) x14_1 true ((rd_T94 l0 x14_1).f0) ((rd_T94 l0 x14_1).f1) ((rd_T94 l0 x14_1).f2) ((rd_T94 l0 x14_1).f3)))) else (edits_Check.j1 k1 a1 a2 x7_1 x8_1 x14_1 l0 (l0.length : Int) x14_1 true ((rd_T94 l0 x14_1).f0) ((rd_T94 l0 x14_1).f1) ((rd_T94 l0 x14_1).f2) ((rd_T94 l0 x14_1).f3))) = some r := H
              have A10 := Aside0.mk A100
              clear A100
              by_cases c11 : t337 = true
              · subst c11
                have H1 : ((edits_count.f ((rd_T94 l0 x14_1).f1)).bind fun t338 => (if t338 = true then ((edits_count.f ((rd_T94 l0 x14_1).f2)).bind fun t339 => (if t339 = true then ((edits_count.f ((rd_T94 l0 x14_1).f3)).bind fun t340 => (if t340 = true then (if ((rd_T94 l0 x14_1).f1) = 0 then (edits_Check.j1 k1 a1 a2 x7_1 x8_1 x14_1 l0 (l0.length : Int) x14_1 (((rd_T94 l0 x14_1).f3) == 0) ((rd_T94 l0 x14_1).f0) ((rd_T94 l0 x14_1).f1) ((rd_T94 l0 x14_1).f2) ((rd_T94 l0 x14_1).f3)) else (edits_Check.j1 k1 a1 a2 x7_1 x8_1 x14_1 l0 (l0.length : Int) x14_1 false ((rd_T94 l0 x14_1).f0) ((rd_T94 l0 x14_1).f1) ((rd_T94 l0 x14_1).f2) ((rd_T94 l0 x14_1).f3))) else (edits_Check.j1 k1 a1 a2 x7_1 x8_1 x14_1 l0 (l0.length : Int) x14_1 true ((rd_T94 l0 x14_1).f0) ((rd_T94 l0 x14_1).f1) ((rd_T94 l0 x14_1).f2) ((rd_T94 l0 x14_1).f3)))) else (edits_Check.j1 k1 a1 a2 x7_1 x8_1 x14_1 l0 (l0.length : Int) x14_1 true ((rd_T94 l0 x14_1).f0) ((rd_T94 l0 x14_1).f1) ((rd_T94 l0 x14_1).f2) ((rd_T94 l0 x14_1).f3)))) else (edits_Check.j1 k1 a1 a2 x7_1 x8_1 x14_1 l0 (l0.length : Int) x14_1 true ((rd_T94 l0 x14_1).f0) ((rd_T94 l0 x14_1).f1) ((rd_T94 l0 x14_1).f2) ((rd_T94 l0 x14_1).f3)))) = some r := by rw [if_pos rfl] at H; exact H
                clear H
                have H := H1
                clear H1
                replace H := Option.bind_eq_some_iff.mp H
                obtain ⟨t338, A120, H⟩ := H
                replace H : (if t338 = true then ((edits_count.f ((rd_T94 l0 x14_1).f2)).bind fun t339 => (if t339 = true then ((edits_count.f ((rd_T94 l0 x14_1).f3)).bind fun t340 => (if t340 = true then (if ((rd_T94 l0 x14_1).f1) = 0 then (edits_Check.j1 k1 a1 a2 x7_1 x8_1 x14_1 l0 (l0.length : Int) x14_1 (((rd_T94 l0 x14_1).f3) == 0) ((rd_T94 l0 x14_1).f0) ((rd_T94 l0 x14_1).f1) ((rd_T94 l0 x14_1).f2) ((rd_T94 l0 x14_1).f3)) else (edits_Check.j1 k1 a1 a2 x7_1 x8_1 x14_1 l0 (l0.length : Int) x14_1 false ((rd_T94 l0 x14_1).f0) ((rd_T94 l0 x14_1).f1) ((rd_T94 l0 x14_1).f2) ((rd_T94 l0 x14_1).f3))) else (edits_Check.j1 k1 a1 a2 x7_1 x8_1 x14_1 l0 (l0.length : Int) x14_1 true ((rd_T94 l0 x14_1).f0) ((rd_T94 l0 x14_1).f1) ((rd_T94 l0 x14_1).f2) ((rd_T94 l0 x14_1).f3)))) else (edits_Check.j1 k1 a1 a2 x7_1 x8_1 x14_1 l0 (l0.length : Int) x14_1 true ((rd_T94 l0 x14_1).f0) ((rd_T94 l0 x14_1).f1) ((rd_T94 l0 x14_1).f2) ((rd_T94 l0 x14_1).f3)))) else (edits_Check.j1 k1 a1 a2 x7_1 x8_1 x14_1 l0 (l0.length : Int) x14_1 true ((rd_T94 l0 x14_1).f0) ((rd_T94 l0 x14_1).f1) ((rd_T94 l0 x14_1).f2) ((rd_T94 l0 x14_1).f3))) = some r := H
                have A12 := Aside0.mk A120
                clear A120
                by_cases c13 : t338 = true
                · subst c13
                  have H1 : ((edits_count.f ((rd_T94 l0 x14_1).f2)).bind fun t339 => (if t339 = true then ((edits_count.f ((rd_T94 l0 x14_1).f3)).bind fun t340 => (if t340 = true then (if ((rd_T94 l0 x14_1).f1) = 0 then (edits_Check.j1 k1 a1 a2 x7_1 x8_1 x14_1 l0 (l0.length : Int) x14_1 (((rd_T94 l0 x14_1).f3) == 0) ((rd_T94 l0 x14_1).f0) ((rd_T94 l0 x14_1).f1) ((rd_T94 l0 x14_1).f2) ((rd_T94 l0 x14_1).f3)) else (edits_Check.j1 k1 a1 a2 x7_1 x8_1 x14_1 l0 (l0.length : Int) x14_1 false ((rd_T94 l0 x14_1).f0) ((rd_T94 l0 x14_1).f1) ((rd_T94 l0 x14_1).f2) ((rd_T94 l0 x14_1).f3))) else (edits_Check.j1 k1 a1 a2 x7_1 x8_1 x14_1 l0 (l0.length : Int) x14_1 true ((rd_T94 l0 x14_1).f0) ((rd_T94 l0 x14_1).f1) ((rd_T94 l0 x14_1).f2) ((rd_T94 l0 x14_1).f3)))) else (edits_Check.j1 k1 a1 a2 x7_1 x8_1 x14_1 l0 (l0.length : Int) x14_1 true ((rd_T94 l0 x14_1).f0) ((rd_T94 l0 x14_1).f1) ((rd_T94 l0 x14_1).f2) ((rd_T94 l0 x14_1).f3)))) = some r := by rw [if_pos rfl] at H; exact H
                  clear H
                  have H := H1
                  clear H1
                  replace H := Option.bind_eq_some_iff.mp H
                  obtain ⟨t339, A140, H⟩ := H
                  replace H : (if t339 = true then ((edits_count.f ((rd_T94 l0 x14_1).f3)).bind fun t340 => (if t340 = true then (if ((rd_T94 l0 x14_1).f1) = 0 then (edits_Check.j1 k1 a1 a2 x7_1 x8_1 x14_1 l0 (l0.length : Int) x14_1 (((rd_T94 l0 x14_1).f3) == 0) ((rd_T94 l0 x14_1).f0) ((rd_T94 l0 x14_1).f1) ((rd_T94 l0 x14_1).f2) ((rd_T94 l0 x14_1).f3)) else (edits_Check.j1 k1 a1 a2 x7_1 x8_1 x14_1 l0 (l0.length : Int) x14_1 false ((rd_T94 l0 x14_1).f0) ((rd_T94 l0 x14_1).f1) ((rd_T94 l0 x14_1).f2) ((rd_T94 l0 x14_1).f3))) else (edits_Check.j1 k1 a1 a2 x7_1 x8_1 x14_1 l0 (l0.length : Int) x14_1 true ((rd_T94 l0 x14_1).f0) ((rd_T94 l0 x14_1).f1) ((rd_T94 l0 x14_1).f2) ((rd_T94 l0 x14_1).f3)))) else (edits_Check.j1 k1 a1 a2 x7_1 x8_1 x14_1 l0 (l0.length : Int) x14_1 true ((rd_T94 l0 x14_1).f0) ((rd_T94 l0 x14_1).f1) ((rd_T94 l0 x14_1).f2) ((rd_T94 l0 x14_1).f3))) = some r := H
                  have A14 := Aside0.mk A140
                  clear A140
                  by_cases c15 : t339 = true
                  · subst c15
                    have H1 : ((edits_count.f ((rd_T94 l0 x14_1).f3)).bind fun t340 => (if t340 = true then (if ((rd_T94 l0 x14_1).f1) = 0 then (edits_Check.j1 k1 a1 a2 x7_1 x8_1 x14_1 l0 (l0.length : Int) x14_1 (((rd_T94 l0 x14_1).f3) == 0) ((rd_T94 l0 x14_1).f0) ((rd_T94 l0 x14_1).f1) ((rd_T94 l0 x14_1).f2) ((rd_T94 l0 x14_1).f3)) else (edits_Check.j1 k1 a1 a2 x7_1 x8_1 x14_1 l0 (l0.length : Int) x14_1 false ((rd_T94 l0 x14_1).f0) ((rd_T94 l0 x14_1).f1) ((rd_T94 l0 x14_1).f2) ((rd_T94 l0 x14_1).f3))) else (edits_Check.j1 k1 a1 a2 x7_1 x8_1 x14_1 l0 (l0.length : Int) x14_1 true ((rd_T94 l0 x14_1).f0) ((rd_T94 l0 x14_1).f1) ((rd_T94 l0 x14_1).f2) ((rd_T94 l0 x14_1).f3)))) = some r := by rw [if_pos rfl] at H; exact H
                    clear H
                    have H := H1
                    clear H1
                    replace H := Option.bind_eq_some_iff.mp H
                    obtain ⟨t340, A160, H⟩ := H
                    replace H : (if t340 = true then (if ((rd_T94 l0 x14_1).f1) = 0 then (edits_Check.j1 k1 a1 a2 x7_1 x8_1 x14_1 l0 (l0.length : Int) x14_1 (((rd_T94 l0 x14_1).f3) == 0) ((rd_T94 l0 x14_1).f0) ((rd_T94 l0 x14_1).f1) ((rd_T94 l0 x14_1).f2) ((rd_T94 l0 x14_1).f3)) else (edits_Check.j1 k1 a1 a2 x7_1 x8_1 x14_1 l0 (l0.length : Int) x14_1 false ((rd_T94 l0 x14_1).f0) ((rd_T94 l0 x14_1).f1) ((rd_T94 l0 x14_1).f2) ((rd_T94 l0 x14_1).f3))) else (edits_Check.j1 k1 a1 a2 x7_1 x8_1 x14_1 l0 (l0.length : Int) x14_1 true ((rd_T94 l0 x14_1).f0) ((rd_T94 l0 x14_1).f1) ((rd_T94 l0 x14_1).f2) ((rd_T94 l0 x14_1).f3))) = some r := H
                    have A16 := Aside0.mk A160
                    clear A160
                    by_cases c17 : t340 = true
                    · subst c17
                      have H1 : (if ((rd_T94 l0 x14_1).f1) = 0 then (edits_Check.j1 k1 a1 a2 x7_1 x8_1 x14_1 l0 (l0.length : Int) x14_1 (((rd_T94 l0 x14_1).f3) == 0) ((rd_T94 l0 x14_1).f0) ((rd_T94 l0 x14_1).f1) ((rd_T94 l0 x14_1).f2) ((rd_T94 l0 x14_1).f3)) else (edits_Check.j1 k1 a1 a2 x7_1 x8_1 x14_1 l0 (l0.length : Int) x14_1 false ((rd_T94 l0 x14_1).f0) ((rd_T94 l0 x14_1).f1) ((rd_T94 l0 x14_1).f2) ((rd_T94 l0 x14_1).f3))) = some r := by rw [if_pos rfl] at H; exact H
                      clear H
                      have H := H1
                      clear H1
                      by_cases c18 : ((rd_T94 l0 x14_1).f1) = 0
                      · rw [if_pos c18] at H
                        have c18b0 : (((rd_T94 l0 x14_1).f1) == 0) = true := beq_iff_eq.mpr c18
                        have c18b1 : (((rd_T94 l0 x14_1).f1) != 0) = false := bne_eq_false_iff_eq.mpr c18
                        clear c18
                        (first | rw [c18b0] | (simp only [i64_w, i32_w]; rw [c18b0]) | skip)
                        have H' := Aside0.mk H
                        clear H
                        have hcz19_0 : w8.cell? ⟨gb336, 0, none⟩ = some (.int .i64 0) := (blk_cell BK336.out 0).trans rfl
                        have hcz19_1 : w8.cell? ⟨gb336, 1, none⟩ = some (.int .i64 0) := (blk_cell BK336.out 1).trans rfl
                        have hcz19_2 : w8.cell? ⟨gb336, 2, none⟩ = some (.int .i64 0) := (blk_cell BK336.out 2).trans rfl
                        have hcz19_3 : w8.cell? ⟨gb336, 3, none⟩ = some (.int .i64 0) := (blk_cell BK336.out 3).trans rfl
                        have hfz19_0 := blk_frozen BK336.out 0
                        have hfz19_1 := blk_frozen BK336.out 1
                        have hfz19_2 := blk_frozen BK336.out 2
                        have hfz19_3 := blk_frozen BK336.out 3
                        go_wp2_with (first | (go_at_call 84; (with_reducible refine (edits_count.calls ((rd_T94 l0 x14_1).f0) true _ A10.out).mono ?_); rintro e w' ⟨rfl, ⟨nd, rfl⟩⟩; (try first | exact ⟨rfl, _, World.drewN_drewN _ _ _⟩ | exact ⟨rfl, _, Eq.trans (World.drewN_drewN _ _ _) (congrArg (World.drewN _) (Nat.add_assoc _ _ _))⟩)) | (go_at_call 84; (with_reducible refine (edits_count.calls ((rd_T94 l0 x14_1).f1) true _ A12.out).mono ?_); rintro e w' ⟨rfl, ⟨nd, rfl⟩⟩; (try first | exact ⟨rfl, _, World.drewN_drewN _ _ _⟩ | exact ⟨rfl, _, Eq.trans (World.drewN_drewN _ _ _) (congrArg (World.drewN _) (Nat.add_assoc _ _ _))⟩)) | (go_at_call 84; (with_reducible refine (edits_count.calls ((rd_T94 l0 x14_1).f2) true _ A14.out).mono ?_); rintro e w' ⟨rfl, ⟨nd, rfl⟩⟩; (try first | exact ⟨rfl, _, World.drewN_drewN _ _ _⟩ | exact ⟨rfl, _, Eq.trans (World.drewN_drewN _ _ _) (congrArg (World.drewN _) (Nat.add_assoc _ _ _))⟩)) | (go_at_call 84; (with_reducible refine (edits_count.calls ((rd_T94 l0 x14_1).f3) true _ A16.out).mono ?_); rintro e w' ⟨rfl, ⟨nd, rfl⟩⟩; (try first | exact ⟨rfl, _, World.drewN_drewN _ _ _⟩ | exact ⟨rfl, _, Eq.trans (World.drewN_drewN _ _ _) (congrArg (World.drewN _) (Nat.add_assoc _ _ _))⟩)))
                        repeat (go_quiet (first | (go_at_call 84; (with_reducible refine (edits_count.calls ((rd_T94 l0 x14_1).f0) true _ A10.out).mono ?_); rintro e w' ⟨rfl, ⟨nd, rfl⟩⟩; (try first | exact ⟨rfl, _, World.drewN_drewN _ _ _⟩ | exact ⟨rfl, _, Eq.trans (World.drewN_drewN _ _ _) (congrArg (World.drewN _) (Nat.add_assoc _ _ _))⟩)) | (go_at_call 84; (with_reducible refine (edits_count.calls ((rd_T94 l0 x14_1).f1) true _ A12.out).mono ?_); rintro e w' ⟨rfl, ⟨nd, rfl⟩⟩; (try first | exact ⟨rfl, _, World.drewN_drewN _ _ _⟩ | exact ⟨rfl, _, Eq.trans (World.drewN_drewN _ _ _) (congrArg (World.drewN _) (Nat.add_assoc _ _ _))⟩)) | (go_at_call 84; (with_reducible refine (edits_count.calls ((rd_T94 l0 x14_1).f2) true _ A14.out).mono ?_); rintro e w' ⟨rfl, ⟨nd, rfl⟩⟩; (try first | exact ⟨rfl, _, World.drewN_drewN _ _ _⟩ | exact ⟨rfl, _, Eq.trans (World.drewN_drewN _ _ _) (congrArg (World.drewN _) (Nat.add_assoc _ _ _))⟩)) | (go_at_call 84; (with_reducible refine (edits_count.calls ((rd_T94 l0 x14_1).f3) true _ A16.out).mono ?_); rintro e w' ⟨rfl, ⟨nd, rfl⟩⟩; (try first | exact ⟨rfl, _, World.drewN_drewN _ _ _⟩ | exact ⟨rfl, _, Eq.trans (World.drewN_drewN _ _ _) (congrArg (World.drewN _) (Nat.add_assoc _ _ _))⟩))); try go_wp2_with (first | (go_at_call 84; (with_reducible refine (edits_count.calls ((rd_T94 l0 x14_1).f0) true _ A10.out).mono ?_); rintro e w' ⟨rfl, ⟨nd, rfl⟩⟩; (try first | exact ⟨rfl, _, World.drewN_drewN _ _ _⟩ | exact ⟨rfl, _, Eq.trans (World.drewN_drewN _ _ _) (congrArg (World.drewN _) (Nat.add_assoc _ _ _))⟩)) | (go_at_call 84; (with_reducible refine (edits_count.calls ((rd_T94 l0 x14_1).f1) true _ A12.out).mono ?_); rintro e w' ⟨rfl, ⟨nd, rfl⟩⟩; (try first | exact ⟨rfl, _, World.drewN_drewN _ _ _⟩ | exact ⟨rfl, _, Eq.trans (World.drewN_drewN _ _ _) (congrArg (World.drewN _) (Nat.add_assoc _ _ _))⟩)) | (go_at_call 84; (with_reducible refine (edits_count.calls ((rd_T94 l0 x14_1).f2) true _ A14.out).mono ?_); rintro e w' ⟨rfl, ⟨nd, rfl⟩⟩; (try first | exact ⟨rfl, _, World.drewN_drewN _ _ _⟩ | exact ⟨rfl, _, Eq.trans (World.drewN_drewN _ _ _) (congrArg (World.drewN _) (Nat.add_assoc _ _ _))⟩)) | (go_at_call 84; (with_reducible refine (edits_count.calls ((rd_T94 l0 x14_1).f3) true _ A16.out).mono ?_); rintro e w' ⟨rfl, ⟨nd, rfl⟩⟩; (try first | exact ⟨rfl, _, World.drewN_drewN _ _ _⟩ | exact ⟨rfl, _, Eq.trans (World.drewN_drewN _ _ _) (congrArg (World.drewN _) (Nat.add_assoc _ _ _))⟩))))
                        go_meet
                        case rel => exact ⟨_, ((((rd_T94 l0 x14_1).f3) == 0)), (by first | rfl | (simp; done) | (simp [*]; done)), H', ⟨by have := HK1.out; first | omega | exact Nat.le_refl _⟩, ⟨by (with_reducible repeat (first | refine blk_drewN ?_ _ | refine blk_drew ?_ | refine blk_alloc ?_ _)); refine blk_put (cs := #[.int .i64 ((rd_T94 l0 x14_1).f0), .int .i64 ((rd_T94 l0 x14_1).f1), .int .i64 ((rd_T94 l0 x14_1).f2), .int .i64 0]) ?_ 3 _ rfl; (with_reducible repeat (first | refine blk_drewN ?_ _ | refine blk_drew ?_ | refine blk_alloc ?_ _)); refine blk_put (cs := #[.int .i64 ((rd_T94 l0 x14_1).f0), .int .i64 ((rd_T94 l0 x14_1).f1), .int .i64 0, .int .i64 0]) ?_ 2 _ rfl; (with_reducible repeat (first | refine blk_drewN ?_ _ | refine blk_drew ?_ | refine blk_alloc ?_ _)); refine blk_put (cs := #[.int .i64 ((rd_T94 l0 x14_1).f0), .int .i64 0, .int .i64 0, .int .i64 0]) ?_ 1 _ rfl; (with_reducible repeat (first | refine blk_drewN ?_ _ | refine blk_drew ?_ | refine blk_alloc ?_ _)); refine blk_put (cs := #[.int .i64 0, .int .i64 0, .int .i64 0, .int .i64 0]) ?_ 0 _ rfl; (with_reducible repeat (first | refine blk_drewN ?_ _ | refine blk_drew ?_ | refine blk_alloc ?_ _)); exact BK336.out⟩, ⟨by repeat (first | (with_reducible first | exact HB.out | apply below_alloc | apply pw_below_drewN | apply below_drew1 | refine below_set ?_ GE336.out) | exact HB.out)⟩⟩
                      · rw [if_neg c18] at H
                        have c18b0 : (((rd_T94 l0 x14_1).f1) == 0) = false := beq_eq_false_iff_ne.mpr c18
                        have c18b1 : (((rd_T94 l0 x14_1).f1) != 0) = true := bne_iff_ne.mpr c18
                        (first | rw [c18b0] | (simp only [i64_w, i32_w]; rw [c18b0]) | skip)
                        have H' := Aside0.mk H
                        clear H
                        have hcz20_0 : w8.cell? ⟨gb336, 0, none⟩ = some (.int .i64 0) := (blk_cell BK336.out 0).trans rfl
                        have hcz20_1 : w8.cell? ⟨gb336, 1, none⟩ = some (.int .i64 0) := (blk_cell BK336.out 1).trans rfl
                        have hcz20_2 : w8.cell? ⟨gb336, 2, none⟩ = some (.int .i64 0) := (blk_cell BK336.out 2).trans rfl
                        have hcz20_3 : w8.cell? ⟨gb336, 3, none⟩ = some (.int .i64 0) := (blk_cell BK336.out 3).trans rfl
                        have hfz20_0 := blk_frozen BK336.out 0
                        have hfz20_1 := blk_frozen BK336.out 1
                        have hfz20_2 := blk_frozen BK336.out 2
                        have hfz20_3 := blk_frozen BK336.out 3
                        go_wp2_with (first | (go_at_call 84; (with_reducible refine (edits_count.calls ((rd_T94 l0 x14_1).f0) true _ A10.out).mono ?_); rintro e w' ⟨rfl, ⟨nd, rfl⟩⟩; (try first | exact ⟨rfl, _, World.drewN_drewN _ _ _⟩ | exact ⟨rfl, _, Eq.trans (World.drewN_drewN _ _ _) (congrArg (World.drewN _) (Nat.add_assoc _ _ _))⟩)) | (go_at_call 84; (with_reducible refine (edits_count.calls ((rd_T94 l0 x14_1).f1) true _ A12.out).mono ?_); rintro e w' ⟨rfl, ⟨nd, rfl⟩⟩; (try first | exact ⟨rfl, _, World.drewN_drewN _ _ _⟩ | exact ⟨rfl, _, Eq.trans (World.drewN_drewN _ _ _) (congrArg (World.drewN _) (Nat.add_assoc _ _ _))⟩)) | (go_at_call 84; (with_reducible refine (edits_count.calls ((rd_T94 l0 x14_1).f2) true _ A14.out).mono ?_); rintro e w' ⟨rfl, ⟨nd, rfl⟩⟩; (try first | exact ⟨rfl, _, World.drewN_drewN _ _ _⟩ | exact ⟨rfl, _, Eq.trans (World.drewN_drewN _ _ _) (congrArg (World.drewN _) (Nat.add_assoc _ _ _))⟩)) | (go_at_call 84; (with_reducible refine (edits_count.calls ((rd_T94 l0 x14_1).f3) true _ A16.out).mono ?_); rintro e w' ⟨rfl, ⟨nd, rfl⟩⟩; (try first | exact ⟨rfl, _, World.drewN_drewN _ _ _⟩ | exact ⟨rfl, _, Eq.trans (World.drewN_drewN _ _ _) (congrArg (World.drewN _) (Nat.add_assoc _ _ _))⟩)))
                        repeat (go_quiet (first | (go_at_call 84; (with_reducible refine (edits_count.calls ((rd_T94 l0 x14_1).f0) true _ A10.out).mono ?_); rintro e w' ⟨rfl, ⟨nd, rfl⟩⟩; (try first | exact ⟨rfl, _, World.drewN_drewN _ _ _⟩ | exact ⟨rfl, _, Eq.trans (World.drewN_drewN _ _ _) (congrArg (World.drewN _) (Nat.add_assoc _ _ _))⟩)) | (go_at_call 84; (with_reducible refine (edits_count.calls ((rd_T94 l0 x14_1).f1) true _ A12.out).mono ?_); rintro e w' ⟨rfl, ⟨nd, rfl⟩⟩; (try first | exact ⟨rfl, _, World.drewN_drewN _ _ _⟩ | exact ⟨rfl, _, Eq.trans (World.drewN_drewN _ _ _) (congrArg (World.drewN _) (Nat.add_assoc _ _ _))⟩)) | (go_at_call 84; (with_reducible refine (edits_count.calls ((rd_T94 l0 x14_1).f2) true _ A14.out).mono ?_); rintro e w' ⟨rfl, ⟨nd, rfl⟩⟩; (try first | exact ⟨rfl, _, World.drewN_drewN _ _ _⟩ | exact ⟨rfl, _, Eq.trans (World.drewN_drewN _ _ _) (congrArg (World.drewN _) (Nat.add_assoc _ _ _))⟩)) | (go_at_call 84; (with_reducible refine (edits_count.calls ((rd_T94 l0 x14_1).f3) true _ A16.out).mono ?_); rintro e w' ⟨rfl, ⟨nd, rfl⟩⟩; (try first | exact ⟨rfl, _, World.drewN_drewN _ _ _⟩ | exact ⟨rfl, _, Eq.trans (World.drewN_drewN _ _ _) (congrArg (World.drewN _) (Nat.add_assoc _ _ _))⟩))); try go_wp2_with (first | (go_at_call 84; (with_reducible refine (edits_count.calls ((rd_T94 l0 x14_1).f0) true _ A10.out).mono ?_); rintro e w' ⟨rfl, ⟨nd, rfl⟩⟩; (try first | exact ⟨rfl, _, World.drewN_drewN _ _ _⟩ | exact ⟨rfl, _, Eq.trans (World.drewN_drewN _ _ _) (congrArg (World.drewN _) (Nat.add_assoc _ _ _))⟩)) | (go_at_call 84; (with_reducible refine (edits_count.calls ((rd_T94 l0 x14_1).f1) true _ A12.out).mono ?_); rintro e w' ⟨rfl, ⟨nd, rfl⟩⟩; (try first | exact ⟨rfl, _, World.drewN_drewN _ _ _⟩ | exact ⟨rfl, _, Eq.trans (World.drewN_drewN _ _ _) (congrArg (World.drewN _) (Nat.add_assoc _ _ _))⟩)) | (go_at_call 84; (with_reducible refine (edits_count.calls ((rd_T94 l0 x14_1).f2) true _ A14.out).mono ?_); rintro e w' ⟨rfl, ⟨nd, rfl⟩⟩; (try first | exact ⟨rfl, _, World.drewN_drewN _ _ _⟩ | exact ⟨rfl, _, Eq.trans (World.drewN_drewN _ _ _) (congrArg (World.drewN _) (Nat.add_assoc _ _ _))⟩)) | (go_at_call 84; (with_reducible refine (edits_count.calls ((rd_T94 l0 x14_1).f3) true _ A16.out).mono ?_); rintro e w' ⟨rfl, ⟨nd, rfl⟩⟩; (try first | exact ⟨rfl, _, World.drewN_drewN _ _ _⟩ | exact ⟨rfl, _, Eq.trans (World.drewN_drewN _ _ _) (congrArg (World.drewN _) (Nat.add_assoc _ _ _))⟩))))
                        go_meet
                        case rel => exact ⟨_, (false), (by first | rfl | (simp; done) | (simp [*]; done)), H', ⟨by have := HK1.out; first | omega | exact Nat.le_refl _⟩, ⟨by (with_reducible repeat (first | refine blk_drewN ?_ _ | refine blk_drew ?_ | refine blk_alloc ?_ _)); refine blk_put (cs := #[.int .i64 ((rd_T94 l0 x14_1).f0), .int .i64 ((rd_T94 l0 x14_1).f1), .int .i64 ((rd_T94 l0 x14_1).f2), .int .i64 0]) ?_ 3 _ rfl; (with_reducible repeat (first | refine blk_drewN ?_ _ | refine blk_drew ?_ | refine blk_alloc ?_ _)); refine blk_put (cs := #[.int .i64 ((rd_T94 l0 x14_1).f0), .int .i64 ((rd_T94 l0 x14_1).f1), .int .i64 0, .int .i64 0]) ?_ 2 _ rfl; (with_reducible repeat (first | refine blk_drewN ?_ _ | refine blk_drew ?_ | refine blk_alloc ?_ _)); refine blk_put (cs := #[.int .i64 ((rd_T94 l0 x14_1).f0), .int .i64 0, .int .i64 0, .int .i64 0]) ?_ 1 _ rfl; (with_reducible repeat (first | refine blk_drewN ?_ _ | refine blk_drew ?_ | refine blk_alloc ?_ _)); refine blk_put (cs := #[.int .i64 0, .int .i64 0, .int .i64 0, .int .i64 0]) ?_ 0 _ rfl; (with_reducible repeat (first | refine blk_drewN ?_ _ | refine blk_drew ?_ | refine blk_alloc ?_ _)); exact BK336.out⟩, ⟨by repeat (first | (with_reducible first | exact HB.out | apply below_alloc | apply pw_below_drewN | apply below_drew1 | refine below_set ?_ GE336.out) | exact HB.out)⟩⟩
                    · replace c17 := Bool.eq_false_iff.mpr c17
                      subst c17
                      have H1 : (edits_Check.j1 k1 a1 a2 x7_1 x8_1 x14_1 l0 (l0.length : Int) x14_1 true ((rd_T94 l0 x14_1).f0) ((rd_T94 l0 x14_1).f1) ((rd_T94 l0 x14_1).f2) ((rd_T94 l0 x14_1).f3)) = some r := by rw [if_neg (show ¬ (false = true) by decide)] at H; exact H
                      clear H
                      have H := H1
                      clear H1
                      have H' := Aside0.mk H
                      clear H
                      have hcz21_0 : w8.cell? ⟨gb336, 0, none⟩ = some (.int .i64 0) := (blk_cell BK336.out 0).trans rfl
                      have hcz21_1 : w8.cell? ⟨gb336, 1, none⟩ = some (.int .i64 0) := (blk_cell BK336.out 1).trans rfl
                      have hcz21_2 : w8.cell? ⟨gb336, 2, none⟩ = some (.int .i64 0) := (blk_cell BK336.out 2).trans rfl
                      have hcz21_3 : w8.cell? ⟨gb336, 3, none⟩ = some (.int .i64 0) := (blk_cell BK336.out 3).trans rfl
                      have hfz21_0 := blk_frozen BK336.out 0
                      have hfz21_1 := blk_frozen BK336.out 1
                      have hfz21_2 := blk_frozen BK336.out 2
                      have hfz21_3 := blk_frozen BK336.out 3
                      go_wp2_with (first | (go_at_call 84; (with_reducible refine (edits_count.calls ((rd_T94 l0 x14_1).f0) true _ A10.out).mono ?_); rintro e w' ⟨rfl, ⟨nd, rfl⟩⟩; (try first | exact ⟨rfl, _, World.drewN_drewN _ _ _⟩ | exact ⟨rfl, _, Eq.trans (World.drewN_drewN _ _ _) (congrArg (World.drewN _) (Nat.add_assoc _ _ _))⟩)) | (go_at_call 84; (with_reducible refine (edits_count.calls ((rd_T94 l0 x14_1).f1) true _ A12.out).mono ?_); rintro e w' ⟨rfl, ⟨nd, rfl⟩⟩; (try first | exact ⟨rfl, _, World.drewN_drewN _ _ _⟩ | exact ⟨rfl, _, Eq.trans (World.drewN_drewN _ _ _) (congrArg (World.drewN _) (Nat.add_assoc _ _ _))⟩)) | (go_at_call 84; (with_reducible refine (edits_count.calls ((rd_T94 l0 x14_1).f2) true _ A14.out).mono ?_); rintro e w' ⟨rfl, ⟨nd, rfl⟩⟩; (try first | exact ⟨rfl, _, World.drewN_drewN _ _ _⟩ | exact ⟨rfl, _, Eq.trans (World.drewN_drewN _ _ _) (congrArg (World.drewN _) (Nat.add_assoc _ _ _))⟩)) | (go_at_call 84; (with_reducible refine (edits_count.calls ((rd_T94 l0 x14_1).f3) false _ A16.out).mono ?_); rintro e w' ⟨rfl, ⟨nd, rfl⟩⟩; (try first | exact ⟨rfl, _, World.drewN_drewN _ _ _⟩ | exact ⟨rfl, _, Eq.trans (World.drewN_drewN _ _ _) (congrArg (World.drewN _) (Nat.add_assoc _ _ _))⟩)))
                      repeat (go_quiet (first | (go_at_call 84; (with_reducible refine (edits_count.calls ((rd_T94 l0 x14_1).f0) true _ A10.out).mono ?_); rintro e w' ⟨rfl, ⟨nd, rfl⟩⟩; (try first | exact ⟨rfl, _, World.drewN_drewN _ _ _⟩ | exact ⟨rfl, _, Eq.trans (World.drewN_drewN _ _ _) (congrArg (World.drewN _) (Nat.add_assoc _ _ _))⟩)) | (go_at_call 84; (with_reducible refine (edits_count.calls ((rd_T94 l0 x14_1).f1) true _ A12.out).mono ?_); rintro e w' ⟨rfl, ⟨nd, rfl⟩⟩; (try first | exact ⟨rfl, _, World.drewN_drewN _ _ _⟩ | exact ⟨rfl, _, Eq.trans (World.drewN_drewN _ _ _) (congrArg (World.drewN _) (Nat.add_assoc _ _ _))⟩)) | (go_at_call 84; (with_reducible refine (edits_count.calls ((rd_T94 l0 x14_1).f2) true _ A14.out).mono ?_); rintro e w' ⟨rfl, ⟨nd, rfl⟩⟩; (try first | exact ⟨rfl, _, World.drewN_drewN _ _ _⟩ | exact ⟨rfl, _, Eq.trans (World.drewN_drewN _ _ _) (congrArg (World.drewN _) (Nat.add_assoc _ _ _))⟩)) | (go_at_call 84; (with_reducible refine (edits_count.calls ((rd_T94 l0 x14_1).f3) false _ A16.out).mono ?_); rintro e w' ⟨rfl, ⟨nd, rfl⟩⟩; (try first | exact ⟨rfl, _, World.drewN_drewN _ _ _⟩ | exact ⟨rfl, _, Eq.trans (World.drewN_drewN _ _ _) (congrArg (World.drewN _) (Nat.add_assoc _ _ _))⟩))); try go_wp2_with (first | (go_at_call 84; (with_reducible refine (edits_count.calls ((rd_T94 l0 x14_1).f0) true _ A10.out).mono ?_); rintro e w' ⟨rfl, ⟨nd, rfl⟩⟩; (try first | exact ⟨rfl, _, World.drewN_drewN _ _ _⟩ | exact ⟨rfl, _, Eq.trans (World.drewN_drewN _ _ _) (congrArg (World.drewN _) (Nat.add_assoc _ _ _))⟩)) | (go_at_call 84; (with_reducible refine (edits_count.calls ((rd_T94 l0 x14_1).f1) true _ A12.out).mono ?_); rintro e w' ⟨rfl, ⟨nd, rfl⟩⟩; (try first | exact ⟨rfl, _, World.drewN_drewN _ _ _⟩ | exact ⟨rfl, _, Eq.trans (World.drewN_drewN _ _ _) (congrArg (World.drewN _) (Nat.add_assoc _ _ _))⟩)) | (go_at_call 84; (with_reducible refine (edits_count.calls ((rd_T94 l0 x14_1).f2) true _ A14.out).mono ?_); rintro e w' ⟨rfl, ⟨nd, rfl⟩⟩; (try first | exact ⟨rfl, _, World.drewN_drewN _ _ _⟩ | exact ⟨rfl, _, Eq.trans (World.drewN_drewN _ _ _) (congrArg (World.drewN _) (Nat.add_assoc _ _ _))⟩)) | (go_at_call 84; (with_reducible refine (edits_count.calls ((rd_T94 l0 x14_1).f3) false _ A16.out).mono ?_); rintro e w' ⟨rfl, ⟨nd, rfl⟩⟩; (try first | exact ⟨rfl, _, World.drewN_drewN _ _ _⟩ | exact ⟨rfl, _, Eq.trans (World.drewN_drewN _ _ _) (congrArg (World.drewN _) (Nat.add_assoc _ _ _))⟩))))
                      go_meet
                      case rel => exact ⟨_, (true), (by first | rfl | (simp; done) | (simp [*]; done)), H', ⟨by have := HK1.out; first | omega | exact Nat.le_refl _⟩, ⟨by (with_reducible repeat (first | refine blk_drewN ?_ _ | refine blk_drew ?_ | refine blk_alloc ?_ _)); refine blk_put (cs := #[.int .i64 ((rd_T94 l0 x14_1).f0), .int .i64 ((rd_T94 l0 x14_1).f1), .int .i64 ((rd_T94 l0 x14_1).f2), .int .i64 0]) ?_ 3 _ rfl; (with_reducible repeat (first | refine blk_drewN ?_ _ | refine blk_drew ?_ | refine blk_alloc ?_ _)); refine blk_put (cs := #[.int .i64 ((rd_T94 l0 x14_1).f0), .int .i64 ((rd_T94 l0 x14_1).f1), .int .i64 0, .int .i64 0]) ?_ 2 _ rfl; (with_reducible repeat (first | refine blk_drewN ?_ _ | refine blk_drew ?_ | refine blk_alloc ?_ _)); refine blk_put (cs := #[.int .i64 ((rd_T94 l0 x14_1).f0), .int .i64 0, .int .i64 0, .int .i64 0]) ?_ 1 _ rfl; (with_reducible repeat (first | refine blk_drewN ?_ _ | refine blk_drew ?_ | refine blk_alloc ?_ _)); refine blk_put (cs := #[.int .i64 0, .int .i64 0, .int .i64 0, .int .i64 0]) ?_ 0 _ rfl; (with_reducible repeat (first | refine blk_drewN ?_ _ | refine blk_drew ?_ | refine blk_alloc ?_ _)); exact BK336.out⟩, ⟨by repeat (first | (with_reducible first | exact HB.out | apply below_alloc | apply pw_below_drewN | apply below_drew1 | refine below_set ?_ GE336.out) | exact HB.out)⟩⟩
                  · replace c15 := Bool.eq_false_iff.mpr c15
                    subst c15
                    have H1 : (edits_Check.j1 k1 a1 a2 x7_1 x8_1 x14_1 l0 (l0.length : Int) x14_1 true ((rd_T94 l0 x14_1).f0) ((rd_T94 l0 x14_1).f1) ((rd_T94 l0 x14_1).f2) ((rd_T94 l0 x14_1).f3)) = some r := by rw [if_neg (show ¬ (false = true) by decide)] at H; exact H
                    clear H
                    have H := H1
                    clear H1
                    have H' := Aside0.mk H
                    clear H
                    have hcz22_0 : w8.cell? ⟨gb336, 0, none⟩ = some (.int .i64 0) := (blk_cell BK336.out 0).trans rfl
                    have hcz22_1 : w8.cell? ⟨gb336, 1, none⟩ = some (.int .i64 0) := (blk_cell BK336.out 1).trans rfl
                    have hcz22_2 : w8.cell? ⟨gb336, 2, none⟩ = some (.int .i64 0) := (blk_cell BK336.out 2).trans rfl
                    have hcz22_3 : w8.cell? ⟨gb336, 3, none⟩ = some (.int .i64 0) := (blk_cell BK336.out 3).trans rfl
                    have hfz22_0 := blk_frozen BK336.out 0
                    have hfz22_1 := blk_frozen BK336.out 1
                    have hfz22_2 := blk_frozen BK336.out 2
                    have hfz22_3 := blk_frozen BK336.out 3
                    go_wp2_with (first | (go_at_call 84; (with_reducible refine (edits_count.calls ((rd_T94 l0 x14_1).f0) true _ A10.out).mono ?_); rintro e w' ⟨rfl, ⟨nd, rfl⟩⟩; (try first | exact ⟨rfl, _, World.drewN_drewN _ _ _⟩ | exact ⟨rfl, _, Eq.trans (World.drewN_drewN _ _ _) (congrArg (World.drewN _) (Nat.add_assoc _ _ _))⟩)) | (go_at_call 84; (with_reducible refine (edits_count.calls ((rd_T94 l0 x14_1).f1) true _ A12.out).mono ?_); rintro e w' ⟨rfl, ⟨nd, rfl⟩⟩; (try first | exact ⟨rfl, _, World.drewN_drewN _ _ _⟩ | exact ⟨rfl, _, Eq.trans (World.drewN_drewN _ _ _) (congrArg (World.drewN _) (Nat.add_assoc _ _ _))⟩)) | (go_at_call 84; (with_reducible refine (edits_count.calls ((rd_T94 l0 x14_1).f2) false _ A14.out).mono ?_); rintro e w' ⟨rfl, ⟨nd, rfl⟩⟩; (try first | exact ⟨rfl, _, World.drewN_drewN _ _ _⟩ | exact ⟨rfl, _, Eq.trans (World.drewN_drewN _ _ _) (congrArg (World.drewN _) (Nat.add_assoc _ _ _))⟩)))
                    repeat (go_quiet (first | (go_at_call 84; (with_reducible refine (edits_count.calls ((rd_T94 l0 x14_1).f0) true _ A10.out).mono ?_); rintro e w' ⟨rfl, ⟨nd, rfl⟩⟩; (try first | exact ⟨rfl, _, World.drewN_drewN _ _ _⟩ | exact ⟨rfl, _, Eq.trans (World.drewN_drewN _ _ _) (congrArg (World.drewN _) (Nat.add_assoc _ _ _))⟩)) | (go_at_call 84; (with_reducible refine (edits_count.calls ((rd_T94 l0 x14_1).f1) true _ A12.out).mono ?_); rintro e w' ⟨rfl, ⟨nd, rfl⟩⟩; (try first | exact ⟨rfl, _, World.drewN_drewN _ _ _⟩ | exact ⟨rfl, _, Eq.trans (World.drewN_drewN _ _ _) (congrArg (World.drewN _) (Nat.add_assoc _ _ _))⟩)) | (go_at_call 84; (with_reducible refine (edits_count.calls ((rd_T94 l0 x14_1).f2) false _ A14.out).mono ?_); rintro e w' ⟨rfl, ⟨nd, rfl⟩⟩; (try first | exact ⟨rfl, _, World.drewN_drewN _ _ _⟩ | exact ⟨rfl, _, Eq.trans (World.drewN_drewN _ _ _) (congrArg (World.drewN _) (Nat.add_assoc _ _ _))⟩))); try go_wp2_with (first | (go_at_call 84; (with_reducible refine (edits_count.calls ((rd_T94 l0 x14_1).f0) true _ A10.out).mono ?_); rintro e w' ⟨rfl, ⟨nd, rfl⟩⟩; (try first | exact ⟨rfl, _, World.drewN_drewN _ _ _⟩ | exact ⟨rfl, _, Eq.trans (World.drewN_drewN _ _ _) (congrArg (World.drewN _) (Nat.add_assoc _ _ _))⟩)) | (go_at_call 84; (with_reducible refine (edits_count.calls ((rd_T94 l0 x14_1).f1) true _ A12.out).mono ?_); rintro e w' ⟨rfl, ⟨nd, rfl⟩⟩; (try first | exact ⟨rfl, _, World.drewN_drewN _ _ _⟩ | exact ⟨rfl, _, Eq.trans (World.drewN_drewN _ _ _) (congrArg (World.drewN _) (Nat.add_assoc _ _ _))⟩)) | (go_at_call 84; (with_reducible refine (edits_count.calls ((rd_T94 l0 x14_1).f2) false _ A14.out).mono ?_); rintro e w' ⟨rfl, ⟨nd, rfl⟩⟩; (try first | exact ⟨rfl, _, World.drewN_drewN _ _ _⟩ | exact ⟨rfl, _, Eq.trans (World.drewN_drewN _ _ _) (congrArg (World.drewN _) (Nat.add_assoc _ _ _))⟩))))
                    go_meet
                    case rel => exact ⟨_, (true), (by first | rfl | (simp; done) | (simp [*]; done)), H', ⟨by have := HK1.out; first | omega | exact Nat.le_refl _⟩, ⟨by (with_reducible repeat (first | refine blk_drewN ?_ _ | refine blk_drew ?_ | refine blk_alloc ?_ _)); refine blk_put (cs := #[.int .i64 ((rd_T94 l0 x14_1).f0), .int .i64 ((rd_T94 l0 x14_1).f1), .int .i64 ((rd_T94 l0 x14_1).f2), .int .i64 0]) ?_ 3 _ rfl; (with_reducible repeat (first | refine blk_drewN ?_ _ | refine blk_drew ?_ | refine blk_alloc ?_ _)); refine blk_put (cs := #[.int .i64 ((rd_T94 l0 x14_1).f0), .int .i64 ((rd_T94 l0 x14_1).f1), .int .i64 0, .int .i64 0]) ?_ 2 _ rfl; (with_reducible repeat (first | refine blk_drewN ?_ _ | refine blk_drew ?_ | refine blk_alloc ?_ _)); refine blk_put (cs := #[.int .i64 ((rd_T94 l0 x14_1).f0), .int .i64 0, .int .i64 0, .int .i64 0]) ?_ 1 _ rfl; (with_reducible repeat (first | refine blk_drewN ?_ _ | refine blk_drew ?_ | refine blk_alloc ?_ _)); refine blk_put (cs := #[.int .i64 0, .int .i64 0, .int .i64 0, .int .i64 0]) ?_ 0 _ rfl; (with_reducible repeat (first | refine blk_drewN ?_ _ | refine blk_drew ?_ | refine blk_alloc ?_ _)); exact BK336.out⟩, ⟨by repeat (first | (with_reducible first | exact HB.out | apply below_alloc | apply pw_below_drewN | apply below_drew1 | refine below_set ?_ GE336.out) | exact HB.out)⟩⟩
                · replace c13 := Bool.eq_false_iff.mpr c13
                  subst c13
                  have H1 : (edits_Check.j1 k1 a1 a2 x7_1 x8_1 x14_1 l0 (l0.length : Int) x14_1 true ((rd_T94 l0 x14_1).f0) ((rd_T94 l0 x14_1).f1) ((rd_T94 l0 x14_1).f2) ((rd_T94 l0 x14_1).f3)) = some r := by rw [if_neg (show ¬ (false = true) by decide)] at H; exact H
                  clear H
                  have H := H1
                  clear H1
                  have H' := Aside0.mk H
                  clear H
                  have hcz23_0 : w8.cell? ⟨gb336, 0, none⟩ = some (.int .i64 0) := (blk_cell BK336.out 0).trans rfl
                  have hcz23_1 : w8.cell? ⟨gb336, 1, none⟩ = some (.int .i64 0) := (blk_cell BK336.out 1).trans rfl
                  have hcz23_2 : w8.cell? ⟨gb336, 2, none⟩ = some (.int .i64 0) := (blk_cell BK336.out 2).trans rfl
                  have hcz23_3 : w8.cell? ⟨gb336, 3, none⟩ = some (.int .i64 0) := (blk_cell BK336.out 3).trans rfl
                  have hfz23_0 := blk_frozen BK336.out 0
                  have hfz23_1 := blk_frozen BK336.out 1
                  have hfz23_2 := blk_frozen BK336.out 2
                  have hfz23_3 := blk_frozen BK336.out 3
                  go_wp2_with (first | (go_at_call 84; (with_reducible refine (edits_count.calls ((rd_T94 l0 x14_1).f0) true _ A10.out).mono ?_); rintro e w' ⟨rfl, ⟨nd, rfl⟩⟩; (try first | exact ⟨rfl, _, World.drewN_drewN _ _ _⟩ | exact ⟨rfl, _, Eq.trans (World.drewN_drewN _ _ _) (congrArg (World.drewN _) (Nat.add_assoc _ _ _))⟩)) | (go_at_call 84; (with_reducible refine (edits_count.calls ((rd_T94 l0 x14_1).f1) false _ A12.out).mono ?_); rintro e w' ⟨rfl, ⟨nd, rfl⟩⟩; (try first | exact ⟨rfl, _, World.drewN_drewN _ _ _⟩ | exact ⟨rfl, _, Eq.trans (World.drewN_drewN _ _ _) (congrArg (World.drewN _) (Nat.add_assoc _ _ _))⟩)))
                  repeat (go_quiet (first | (go_at_call 84; (with_reducible refine (edits_count.calls ((rd_T94 l0 x14_1).f0) true _ A10.out).mono ?_); rintro e w' ⟨rfl, ⟨nd, rfl⟩⟩; (try first | exact ⟨rfl, _, World.drewN_drewN _ _ _⟩ | exact ⟨rfl, _, Eq.trans (World.drewN_drewN _ _ _) (congrArg (World.drewN _) (Nat.add_assoc _ _ _))⟩)) | (go_at_call 84; (with_reducible refine (edits_count.calls ((rd_T94 l0 x14_1).f1) false _ A12.out).mono ?_); rintro e w' ⟨rfl, ⟨nd, rfl⟩⟩; (try first | exact ⟨rfl, _, World.drewN_drewN _ _ _⟩ | exact ⟨rfl, _, Eq.trans (World.drewN_drewN _ _ _) (congrArg (World.drewN _) (Nat.add_assoc _ _ _))⟩))); try go_wp2_with (first | (go_at_call 84; (with_reducible refine (edits_count.calls ((rd_T94 l0 x14_1).f0) true _ A10.out).mono ?_); rintro e w' ⟨rfl, ⟨nd, rfl⟩⟩; (try first | exact ⟨rfl, _, World.drewN_drewN _ _ _⟩ | exact ⟨rfl, _, Eq.trans (World.drewN_drewN _ _ _) (congrArg (World.drewN _) (Nat.add_assoc _ _ _))⟩)) | (go_at_call 84; (with_reducible refine (edits_count.calls ((rd_T94 l0 x14_1).f1) false _ A12.out).mono ?_); rintro e w' ⟨rfl, ⟨nd, rfl⟩⟩; (try first | exact ⟨rfl, _, World.drewN_drewN _ _ _⟩ | exact ⟨rfl, _, Eq.trans (World.drewN_drewN _ _ _) (congrArg (World.drewN _) (Nat.add_assoc _ _ _))⟩))))
                  go_meet
                  case rel => exact ⟨_, (true), (by first | rfl | (simp; done) | (simp [*]; done)), H', ⟨by have := HK1.out; first | omega | exact Nat.le_refl _⟩, ⟨by (with_reducible repeat (first | refine blk_drewN ?_ _ | refine blk_drew ?_ | refine blk_alloc ?_ _)); refine blk_put (cs := #[.int .i64 ((rd_T94 l0 x14_1).f0), .int .i64 ((rd_T94 l0 x14_1).f1), .int .i64 ((rd_T94 l0 x14_1).f2), .int .i64 0]) ?_ 3 _ rfl; (with_reducible repeat (first | refine blk_drewN ?_ _ | refine blk_drew ?_ | refine blk_alloc ?_ _)); refine blk_put (cs := #[.int .i64 ((rd_T94 l0 x14_1).f0), .int .i64 ((rd_T94 l0 x14_1).f1), .int .i64 0, .int .i64 0]) ?_ 2 _ rfl; (with_reducible repeat (first | refine blk_drewN ?_ _ | refine blk_drew ?_ | refine blk_alloc ?_ _)); refine blk_put (cs := #[.int .i64 ((rd_T94 l0 x14_1).f0), .int .i64 0, .int .i64 0, .int .i64 0]) ?_ 1 _ rfl; (with_reducible repeat (first | refine blk_drewN ?_ _ | refine blk_drew ?_ | refine blk_alloc ?_ _)); refine blk_put (cs := #[.int .i64 0, .int .i64 0, .int .i64 0, .int .i64 0]) ?_ 0 _ rfl; (with_reducible repeat (first | refine blk_drewN ?_ _ | refine blk_drew ?_ | refine blk_alloc ?_ _)); exact BK336.out⟩, ⟨by repeat (first | (with_reducible first | exact HB.out | apply below_alloc | apply pw_below_drewN | apply below_drew1 | refine below_set ?_ GE336.out) | exact HB.out)⟩⟩
              · replace c11 := Bool.eq_false_iff.mpr c11
                subst c11
                have H1 : (edits_Check.j1 k1 a1 a2 x7_1 x8_1 x14_1 l0 (l0.length : Int) x14_1 true ((rd_T94 l0 x14_1).f0) ((rd_T94 l0 x14_1).f1) ((rd_T94 l0 x14_1).f2) ((rd_T94 l0 x14_1).f3)) = some r := by rw [if_neg (show ¬ (false = true) by decide)] at H; exact H
                clear H
                have H := H1
                clear H1
                have H' := Aside0.mk H
                clear H
                have hcz24_0 : w8.cell? ⟨gb336, 0, none⟩ = some (.int .i64 0) := (blk_cell BK336.out 0).trans rfl
                have hcz24_1 : w8.cell? ⟨gb336, 1, none⟩ = some (.int .i64 0) := (blk_cell BK336.out 1).trans rfl
                have hcz24_2 : w8.cell? ⟨gb336, 2, none⟩ = some (.int .i64 0) := (blk_cell BK336.out 2).trans rfl
                have hcz24_3 : w8.cell? ⟨gb336, 3, none⟩ = some (.int .i64 0) := (blk_cell BK336.out 3).trans rfl
                have hfz24_0 := blk_frozen BK336.out 0
                have hfz24_1 := blk_frozen BK336.out 1
                have hfz24_2 := blk_frozen BK336.out 2
                have hfz24_3 := blk_frozen BK336.out 3
                go_wp2_with (first | (go_at_call 84; (with_reducible refine (edits_count.calls ((rd_T94 l0 x14_1).f0) false _ A10.out).mono ?_); rintro e w' ⟨rfl, ⟨nd, rfl⟩⟩; (try first | exact ⟨rfl, _, World.drewN_drewN _ _ _⟩ | exact ⟨rfl, _, Eq.trans (World.drewN_drewN _ _ _) (congrArg (World.drewN _) (Nat.add_assoc _ _ _))⟩)))
                repeat (go_quiet (first | (go_at_call 84; (with_reducible refine (edits_count.calls ((rd_T94 l0 x14_1).f0) false _ A10.out).mono ?_); rintro e w' ⟨rfl, ⟨nd, rfl⟩⟩; (try first | exact ⟨rfl, _, World.drewN_drewN _ _ _⟩ | exact ⟨rfl, _, Eq.trans (World.drewN_drewN _ _ _) (congrArg (World.drewN _) (Nat.add_assoc _ _ _))⟩))); try go_wp2_with (first | (go_at_call 84; (with_reducible refine (edits_count.calls ((rd_T94 l0 x14_1).f0) false _ A10.out).mono ?_); rintro e w' ⟨rfl, ⟨nd, rfl⟩⟩; (try first | exact ⟨rfl, _, World.drewN_drewN _ _ _⟩ | exact ⟨rfl, _, Eq.trans (World.drewN_drewN _ _ _) (congrArg (World.drewN _) (Nat.add_assoc _ _ _))⟩))))
                go_meet
                case rel => exact ⟨_, (true), (by first | rfl | (simp; done) | (simp [*]; done)), H', ⟨by have := HK1.out; first | omega | exact Nat.le_refl _⟩, ⟨by (with_reducible repeat (first | refine blk_drewN ?_ _ | refine blk_drew ?_ | refine blk_alloc ?_ _)); refine blk_put (cs := #[.int .i64 ((rd_T94 l0 x14_1).f0), .int .i64 ((rd_T94 l0 x14_1).f1), .int .i64 ((rd_T94 l0 x14_1).f2), .int .i64 0]) ?_ 3 _ rfl; (with_reducible repeat (first | refine blk_drewN ?_ _ | refine blk_drew ?_ | refine blk_alloc ?_ _)); refine blk_put (cs := #[.int .i64 ((rd_T94 l0 x14_1).f0), .int .i64 ((rd_T94 l0 x14_1).f1), .int .i64 0, .int .i64 0]) ?_ 2 _ rfl; (with_reducible repeat (first | refine blk_drewN ?_ _ | refine blk_drew ?_ | refine blk_alloc ?_ _)); refine blk_put (cs := #[.int .i64 ((rd_T94 l0 x14_1).f0), .int .i64 0, .int .i64 0, .int .i64 0]) ?_ 1 _ rfl; (with_reducible repeat (first | refine blk_drewN ?_ _ | refine blk_drew ?_ | refine blk_alloc ?_ _)); refine blk_put (cs := #[.int .i64 0, .int .i64 0, .int .i64 0, .int .i64 0]) ?_ 0 _ rfl; (with_reducible repeat (first | refine blk_drewN ?_ _ | refine blk_drew ?_ | refine blk_alloc ?_ _)); exact BK336.out⟩, ⟨by repeat (first | (with_reducible first | exact HB.out | apply below_alloc | apply pw_below_drewN | apply below_drew1 | refine below_set ?_ GE336.out) | exact HB.out)⟩⟩
            case rest =>
              clear HC7
              try clear c1
              try clear p2
              try clear p3
              try clear q3
              try clear hx3
              try clear c4
              try clear c4b0
              try clear c5
              try clear c5b0
              try clear c6
              try clear c6b0
              try clear c11
              try clear c13
              try clear c15
              try clear c17
              try clear c18
              try clear c18b0
              try clear c18b1
              try clear hcz19_0
              try clear hcz19_1
              try clear hcz19_2
              try clear hcz19_3
              try clear hcz20_0
              try clear hcz20_1
              try clear hcz20_2
              try clear hcz20_3
              try clear hcz21_0
              try clear hcz21_1
              try clear hcz21_2
              try clear hcz21_3
              try clear hcz22_0
              try clear hcz22_1
              try clear hcz22_2
              try clear hcz22_3
              try clear hcz23_0
              try clear hcz23_1
              try clear hcz23_2
              try clear hcz23_3
              try clear hcz24_0
              try clear hcz24_1
              try clear hcz24_2
              try clear hcz24_3
              try clear hcz9_0
              try clear hcz9_1
              try clear hcz9_2
              try clear hcz9_3
              try clear hfz19_0
              try clear hfz19_1
              try clear hfz19_2
              try clear hfz19_3
              try clear hfz20_0
              try clear hfz20_1
              try clear hfz20_2
              try clear hfz20_3
              try clear hfz21_0
              try clear hfz21_1
              try clear hfz21_2
              try clear hfz21_3
              try clear hfz22_0
              try clear hfz22_1
              try clear hfz22_2
              try clear hfz22_3
              try clear hfz23_0
              try clear hfz23_1
              try clear hfz23_2
              try clear hfz23_3
              try clear hfz24_0
              try clear hfz24_1
              try clear hfz24_2
              try clear hfz24_3
              try clear hfz9_0
              try clear hfz9_1
              try clear hfz9_2
              try clear hfz9_3
              try clear hx335_0
              try clear hx335_1
              try clear hx335_2
              try clear hx335_3
              try clear p2
              try clear p335
              try clear q335
              obtain ⟨kq, x50_6, rfl, HA, HJ6, BK336, HB⟩ := hcut
              cases kq with
              | zero => exact absurd HA.out (by simp [edits_Check.j1])
              | succ kj6 =>
                have H := HA.out
                clear HA
                simp only [edits_Check.j1] at H
                by_cases c25 : x50_6 = true
                · subst c25
                  have H1 : (some 50) = some r := by rw [if_pos rfl] at H; exact H
                  clear H
                  have H := H1
                  clear H1
                  obtain rfl := Option.some.inj H
                  go_wp2
                  repeat (go_quiet (fail); try go_wp2)
                  go_ret
                  exact ⟨by first | rfl | (simp [errW_none, errW_some] <;> rfl) | (simp [*, errW_none, errW_some] <;> rfl), by repeat (first | (with_reducible first | exact HB.out | apply below_alloc | apply pw_below_drewN | apply below_drew1 | refine below_set ?_ GE336.out) | exact HB.out)⟩
                · replace c25 := Bool.eq_false_iff.mpr c25
                  subst c25
                  have H1 : (if (wrap64 (((rd_T94 l0 x14_1).f0) - x7_1)) < 0 then (some 50) else (if x14_1 > 0 then (if (wrap64 (((rd_T94 l0 x14_1).f0) - x7_1)) = 0 then (some 50) else (if (wrap64 (((rd_T94 l0 x14_1).f0) - x7_1)) = (wrap64 (((rd_T94 l0 x14_1).f2) - x8_1)) then (edits_Check.l0 kj6 a1 a2 (wrap64 (((rd_T94 l0 x14_1).f0) + ((rd_T94 l0 x14_1).f1))) (wrap64 (((rd_T94 l0 x14_1).f2) + ((rd_T94 l0 x14_1).f3))) l0 (l0.length : Int) (wrap64 (x14_1 + 1))) else (some 50))) else (if (wrap64 (((rd_T94 l0 x14_1).f0) - x7_1)) = (wrap64 (((rd_T94 l0 x14_1).f2) - x8_1)) then (edits_Check.l0 kj6 a1 a2 (wrap64 (((rd_T94 l0 x14_1).f0) + ((rd_T94 l0 x14_1).f1))) (wrap64 (((rd_T94 l0 x14_1).f2) + ((rd_T94 l0 x14_1).f3))) l0 (l0.length : Int) (wrap64 (x14_1 + 1))) else (some 50)))) = some r := by rw [if_neg (show ¬ (false = true) by decide)] at H; exact H
                  clear H
                  have H := H1
                  clear H1
                  by_cases c26 : (wrap64 (((rd_T94 l0 x14_1).f0) - x7_1)) < 0
                  · rw [if_pos c26] at H
                    have c26b0 : decide ((wrap64 (((rd_T94 l0 x14_1).f0) - x7_1)) < 0) = true := decide_eq_true c26
                    clear c26
                    obtain rfl := Option.some.inj H
                    have hcz27_0 : wc.cell? ⟨gb336, 0, none⟩ = some (.int .i64 ((rd_T94 l0 x14_1).f0)) := (blk_cell BK336.out 0).trans rfl
                    have hcz27_1 : wc.cell? ⟨gb336, 1, none⟩ = some (.int .i64 ((rd_T94 l0 x14_1).f1)) := (blk_cell BK336.out 1).trans rfl
                    have hcz27_2 : wc.cell? ⟨gb336, 2, none⟩ = some (.int .i64 ((rd_T94 l0 x14_1).f2)) := (blk_cell BK336.out 2).trans rfl
                    have hcz27_3 : wc.cell? ⟨gb336, 3, none⟩ = some (.int .i64 ((rd_T94 l0 x14_1).f3)) := (blk_cell BK336.out 3).trans rfl
                    have hfz27_0 := blk_frozen BK336.out 0
                    have hfz27_1 := blk_frozen BK336.out 1
                    have hfz27_2 := blk_frozen BK336.out 2
                    have hfz27_3 := blk_frozen BK336.out 3
                    go_wp2
                    repeat (go_quiet (fail); try go_wp2)
                    go_ret
                    exact ⟨by first | rfl | (simp [errW_none, errW_some] <;> rfl) | (simp [*, errW_none, errW_some] <;> rfl), by repeat (first | (with_reducible first | exact HB.out | apply below_alloc | apply pw_below_drewN | apply below_drew1 | refine below_set ?_ GE336.out) | exact HB.out)⟩
                  · rw [if_neg c26] at H
                    have c26b0 : decide ((wrap64 (((rd_T94 l0 x14_1).f0) - x7_1)) < 0) = false := decide_eq_false c26
                    clear c26
                    by_cases c28 : x14_1 > 0
                    · rw [if_pos c28] at H
                      have c28b0 : decide (0 < x14_1) = true := decide_eq_true c28
                      clear c28
                      by_cases c29 : (wrap64 (((rd_T94 l0 x14_1).f0) - x7_1)) = 0
                      · rw [if_pos c29] at H
                        have c29b0 : ((wrap64 (((rd_T94 l0 x14_1).f0) - x7_1)) == 0) = true := beq_iff_eq.mpr c29
                        have c29b1 : ((wrap64 (((rd_T94 l0 x14_1).f0) - x7_1)) != 0) = false := bne_eq_false_iff_eq.mpr c29
                        clear c29
                        obtain rfl := Option.some.inj H
                        have hcz30_0 : wc.cell? ⟨gb336, 0, none⟩ = some (.int .i64 ((rd_T94 l0 x14_1).f0)) := (blk_cell BK336.out 0).trans rfl
                        have hcz30_1 : wc.cell? ⟨gb336, 1, none⟩ = some (.int .i64 ((rd_T94 l0 x14_1).f1)) := (blk_cell BK336.out 1).trans rfl
                        have hcz30_2 : wc.cell? ⟨gb336, 2, none⟩ = some (.int .i64 ((rd_T94 l0 x14_1).f2)) := (blk_cell BK336.out 2).trans rfl
                        have hcz30_3 : wc.cell? ⟨gb336, 3, none⟩ = some (.int .i64 ((rd_T94 l0 x14_1).f3)) := (blk_cell BK336.out 3).trans rfl
                        have hfz30_0 := blk_frozen BK336.out 0
                        have hfz30_1 := blk_frozen BK336.out 1
                        have hfz30_2 := blk_frozen BK336.out 2
                        have hfz30_3 := blk_frozen BK336.out 3
                        go_wp2
                        repeat (go_quiet (fail); try go_wp2)
                        go_ret
                        exact ⟨by first | rfl | (simp [errW_none, errW_some] <;> rfl) | (simp [*, errW_none, errW_some] <;> rfl), by repeat (first | (with_reducible first | exact HB.out | apply below_alloc | apply pw_below_drewN | apply below_drew1 | refine below_set ?_ GE336.out) | exact HB.out)⟩
                      · rw [if_neg c29] at H
                        have c29b0 : ((wrap64 (((rd_T94 l0 x14_1).f0) - x7_1)) == 0) = false := beq_eq_false_iff_ne.mpr c29
                        have c29b1 : ((wrap64 (((rd_T94 l0 x14_1).f0) - x7_1)) != 0) = true := bne_iff_ne.mpr c29
                        by_cases c31 : (wrap64 (((rd_T94 l0 x14_1).f0) - x7_1)) = (wrap64 (((rd_T94 l0 x14_1).f2) - x8_1))
                        · rw [if_pos c31] at H
                          have c31b0 : ((wrap64 (((rd_T94 l0 x14_1).f0) - x7_1)) == (wrap64 (((rd_T94 l0 x14_1).f2) - x8_1))) = true := beq_iff_eq.mpr c31
                          have c31b1 : ((wrap64 (((rd_T94 l0 x14_1).f0) - x7_1)) != (wrap64 (((rd_T94 l0 x14_1).f2) - x8_1))) = false := bne_eq_false_iff_eq.mpr c31
                          clear c31
                          have H' := Aside0.mk H
                          clear H
                          have hcz32_0 : wc.cell? ⟨gb336, 0, none⟩ = some (.int .i64 ((rd_T94 l0 x14_1).f0)) := (blk_cell BK336.out 0).trans rfl
                          have hcz32_1 : wc.cell? ⟨gb336, 1, none⟩ = some (.int .i64 ((rd_T94 l0 x14_1).f1)) := (blk_cell BK336.out 1).trans rfl
                          have hcz32_2 : wc.cell? ⟨gb336, 2, none⟩ = some (.int .i64 ((rd_T94 l0 x14_1).f2)) := (blk_cell BK336.out 2).trans rfl
                          have hcz32_3 : wc.cell? ⟨gb336, 3, none⟩ = some (.int .i64 ((rd_T94 l0 x14_1).f3)) := (blk_cell BK336.out 3).trans rfl
                          have hfz32_0 := blk_frozen BK336.out 0
                          have hfz32_1 := blk_frozen BK336.out 1
                          have hfz32_2 := blk_frozen BK336.out 2
                          have hfz32_3 := blk_frozen BK336.out 3
                          go_wp2
                          repeat (go_quiet (fail); try go_wp2)
                          go_roundg kj6
                          case measure => have := HK1.out; have := HJ6.out; omega
                          case rel => exact ⟨(wrap64 (((rd_T94 l0 x14_1).f0) + ((rd_T94 l0 x14_1).f1))), (wrap64 (((rd_T94 l0 x14_1).f2) + ((rd_T94 l0 x14_1).f3))), (wrap64 (x14_1 + 1)), (by first | rfl | (simp; done) | (simp [*]; done)), (by first | rfl | (simp; done) | (simp [*]; done)), (by first | rfl | (simp; done) | (simp [*]; done)), H', ⟨by have := HK1.out; have := HJ6.out; omega⟩, ⟨by repeat (first | (with_reducible first | exact HB.out | apply below_alloc | apply pw_below_drewN | apply below_drew1 | refine below_set ?_ GE336.out) | exact HB.out)⟩⟩
                        · rw [if_neg c31] at H
                          have c31b0 : ((wrap64 (((rd_T94 l0 x14_1).f0) - x7_1)) == (wrap64 (((rd_T94 l0 x14_1).f2) - x8_1))) = false := beq_eq_false_iff_ne.mpr c31
                          have c31b1 : ((wrap64 (((rd_T94 l0 x14_1).f0) - x7_1)) != (wrap64 (((rd_T94 l0 x14_1).f2) - x8_1))) = true := bne_iff_ne.mpr c31
                          obtain rfl := Option.some.inj H
                          have hcz33_0 : wc.cell? ⟨gb336, 0, none⟩ = some (.int .i64 ((rd_T94 l0 x14_1).f0)) := (blk_cell BK336.out 0).trans rfl
                          have hcz33_1 : wc.cell? ⟨gb336, 1, none⟩ = some (.int .i64 ((rd_T94 l0 x14_1).f1)) := (blk_cell BK336.out 1).trans rfl
                          have hcz33_2 : wc.cell? ⟨gb336, 2, none⟩ = some (.int .i64 ((rd_T94 l0 x14_1).f2)) := (blk_cell BK336.out 2).trans rfl
                          have hcz33_3 : wc.cell? ⟨gb336, 3, none⟩ = some (.int .i64 ((rd_T94 l0 x14_1).f3)) := (blk_cell BK336.out 3).trans rfl
                          have hfz33_0 := blk_frozen BK336.out 0
                          have hfz33_1 := blk_frozen BK336.out 1
                          have hfz33_2 := blk_frozen BK336.out 2
                          have hfz33_3 := blk_frozen BK336.out 3
                          go_wp2
                          repeat (go_quiet (fail); try go_wp2)
                          go_ret
                          exact ⟨by first | rfl | (simp [errW_none, errW_some] <;> rfl) | (simp [*, errW_none, errW_some] <;> rfl), by repeat (first | (with_reducible first | exact HB.out | apply below_alloc | apply pw_below_drewN | apply below_drew1 | refine below_set ?_ GE336.out) | exact HB.out)⟩
                    · rw [if_neg c28] at H
                      have c28b0 : decide (0 < x14_1) = false := decide_eq_false c28
                      clear c28
                      by_cases c34 : (wrap64 (((rd_T94 l0 x14_1).f0) - x7_1)) = (wrap64 (((rd_T94 l0 x14_1).f2) - x8_1))
                      · rw [if_pos c34] at H
                        have c34b0 : ((wrap64 (((rd_T94 l0 x14_1).f0) - x7_1)) == (wrap64 (((rd_T94 l0 x14_1).f2) - x8_1))) = true := beq_iff_eq.mpr c34
                        have c34b1 : ((wrap64 (((rd_T94 l0 x14_1).f0) - x7_1)) != (wrap64 (((rd_T94 l0 x14_1).f2) - x8_1))) = false := bne_eq_false_iff_eq.mpr c34
                        clear c34
                        have H' := Aside0.mk H
                        clear H
                        have hcz35_0 : wc.cell? ⟨gb336, 0, none⟩ = some (.int .i64 ((rd_T94 l0 x14_1).f0)) := (blk_cell BK336.out 0).trans rfl
                        have hcz35_1 : wc.cell? ⟨gb336, 1, none⟩ = some (.int .i64 ((rd_T94 l0 x14_1).f1)) := (blk_cell BK336.out 1).trans rfl
                        have hcz35_2 : wc.cell? ⟨gb336, 2, none⟩ = some (.int .i64 ((rd_T94 l0 x14_1).f2)) := (blk_cell BK336.out 2).trans rfl
                        have hcz35_3 : wc.cell? ⟨gb336, 3, none⟩ = some (.int .i64 ((rd_T94 l0 x14_1).f3)) := (blk_cell BK336.out 3).trans rfl
                        have hfz35_0 := blk_frozen BK336.out 0
                        have hfz35_1 := blk_frozen BK336.out 1
                        have hfz35_2 := blk_frozen BK336.out 2
                        have hfz35_3 := blk_frozen BK336.out 3
                        go_wp2
                        repeat (go_quiet (fail); try go_wp2)
                        go_roundg kj6
                        case measure => have := HK1.out; have := HJ6.out; omega
                        case rel => exact ⟨(wrap64 (((rd_T94 l0 x14_1).f0) + ((rd_T94 l0 x14_1).f1))), (wrap64 (((rd_T94 l0 x14_1).f2) + ((rd_T94 l0 x14_1).f3))), (wrap64 (x14_1 + 1)), (by first | rfl | (simp; done) | (simp [*]; done)), (by first | rfl | (simp; done) | (simp [*]; done)), (by first | rfl | (simp; done) | (simp [*]; done)), H', ⟨by have := HK1.out; have := HJ6.out; omega⟩, ⟨by repeat (first | (with_reducible first | exact HB.out | apply below_alloc | apply pw_below_drewN | apply below_drew1 | refine below_set ?_ GE336.out) | exact HB.out)⟩⟩
                      · rw [if_neg c34] at H
                        have c34b0 : ((wrap64 (((rd_T94 l0 x14_1).f0) - x7_1)) == (wrap64 (((rd_T94 l0 x14_1).f2) - x8_1))) = false := beq_eq_false_iff_ne.mpr c34
                        have c34b1 : ((wrap64 (((rd_T94 l0 x14_1).f0) - x7_1)) != (wrap64 (((rd_T94 l0 x14_1).f2) - x8_1))) = true := bne_iff_ne.mpr c34
                        obtain rfl := Option.some.inj H
                        have hcz36_0 : wc.cell? ⟨gb336, 0, none⟩ = some (.int .i64 ((rd_T94 l0 x14_1).f0)) := (blk_cell BK336.out 0).trans rfl
                        have hcz36_1 : wc.cell? ⟨gb336, 1, none⟩ = some (.int .i64 ((rd_T94 l0 x14_1).f1)) := (blk_cell BK336.out 1).trans rfl
                        have hcz36_2 : wc.cell? ⟨gb336, 2, none⟩ = some (.int .i64 ((rd_T94 l0 x14_1).f2)) := (blk_cell BK336.out 2).trans rfl
                        have hcz36_3 : wc.cell? ⟨gb336, 3, none⟩ = some (.int .i64 ((rd_T94 l0 x14_1).f3)) := (blk_cell BK336.out 3).trans rfl
                        have hfz36_0 := blk_frozen BK336.out 0
                        have hfz36_1 := blk_frozen BK336.out 1
                        have hfz36_2 := blk_frozen BK336.out 2
                        have hfz36_3 := blk_frozen BK336.out 3
                        go_wp2
                        repeat (go_quiet (fail); try go_wp2)
                        go_ret
                        exact ⟨by first | rfl | (simp [errW_none, errW_some] <;> rfl) | (simp [*, errW_none, errW_some] <;> rfl), by repeat (first | (with_reducible first | exact HB.out | apply below_alloc | apply pw_below_drewN | apply below_drew1 | refine below_set ?_ GE336.out) | exact HB.out)⟩
          · rw [if_neg c6] at H
            exact absurd H (by simp)
        · rw [if_neg c5] at H
          exact absurd H (by simp)
      · rw [if_neg c4] at H
        have c4b0 : decide (x14_1 < (l0.length : Int)) = false := decide_eq_false c4
        clear c4
        by_cases c37 : x7_1 > a1
        · rw [if_pos c37] at H
          have c37b0 : decide (a1 < x7_1) = true := decide_eq_true c37
          clear c37
          obtain rfl := Option.some.inj H
          go_wp2
          repeat (go_quiet (fail); try go_wp2)
          go_ret
          exact ⟨by first | rfl | (simp [errW_none, errW_some] <;> rfl) | (simp [*, errW_none, errW_some] <;> rfl), by repeat (first | (with_reducible first | exact HB.out | apply below_alloc | apply pw_below_drewN | apply below_drew1) | exact HB.out)⟩
        · rw [if_neg c37] at H
          have c37b0 : decide (a1 < x7_1) = false := decide_eq_false c37
          clear c37
          by_cases c38 : x8_1 > a2
          · rw [if_pos c38] at H
            have c38b0 : decide (a2 < x8_1) = true := decide_eq_true c38
            clear c38
            obtain rfl := Option.some.inj H
            go_wp2
            repeat (go_quiet (fail); try go_wp2)
            go_ret
            exact ⟨by first | rfl | (simp [errW_none, errW_some] <;> rfl) | (simp [*, errW_none, errW_some] <;> rfl), by repeat (first | (with_reducible first | exact HB.out | apply below_alloc | apply pw_below_drewN | apply below_drew1) | exact HB.out)⟩
          · rw [if_neg c38] at H
            have c38b0 : decide (a2 < x8_1) = false := decide_eq_false c38
            clear c38
            by_cases c39 : (wrap64 (a1 - x7_1)) = (wrap64 (a2 - x8_1))
            · rw [if_pos c39] at H
              have c39b0 : ((wrap64 (a1 - x7_1)) == (wrap64 (a2 - x8_1))) = true := beq_iff_eq.mpr c39
              have c39b1 : ((wrap64 (a1 - x7_1)) != (wrap64 (a2 - x8_1))) = false := bne_eq_false_iff_eq.mpr c39
              clear c39
              obtain rfl := Option.some.inj H
              go_wp2
              repeat (go_quiet (fail); try go_wp2)
              go_ret
              exact ⟨by first | rfl | (simp [errW_none, errW_some] <;> rfl) | (simp [*, errW_none, errW_some] <;> rfl), by repeat (first | (with_reducible first | exact HB.out | apply below_alloc | apply pw_below_drewN | apply below_drew1) | exact HB.out)⟩
            · rw [if_neg c39] at H
              have c39b0 : ((wrap64 (a1 - x7_1)) == (wrap64 (a2 - x8_1))) = false := beq_eq_false_iff_ne.mpr c39
              have c39b1 : ((wrap64 (a1 - x7_1)) != (wrap64 (a2 - x8_1))) = true := bne_iff_ne.mpr c39
              obtain rfl := Option.some.inj H
              go_wp2
              repeat (go_quiet (fail); try go_wp2)
              go_ret
              exact ⟨by first | rfl | (simp [errW_none, errW_some] <;> rfl) | (simp [*, errW_none, errW_some] <;> rfl), by repeat (first | (with_reducible first | exact HB.out | apply below_alloc | apply pw_below_drewN | apply below_drew1) | exact HB.out)⟩
end Go.Proofs.Ytnllemlmgbjjnaa.PA
namespace Go.Proofs.Ytnllemlmgbjjnaa.PA
open Go.RowKit Go.Proofs.YtnllemlmgbjjnaaW.PrintWords Go.Proofs.YtnllemlmgbjjnaaW.PrintLast Go.Proofs.YtnllemlmgbjjnaaW.PrintMore
attribute [local go_sem] max2_int min2_int max_two min_two max_three min_three max_four min_four   -- for this text's walks alone
set_option linter.unusedVariables false
set_option linter.unusedSimpArgs false
def redlineref05_count.f (a0 : Int) : Option (Bool) := if a0 ≥ 0 then (some (decide (a0 ≤ 2147483647))) else (some false)
set_option maxHeartbeats 8000000 in
set_option maxRecDepth 100000 in
theorem redlineref05_count.calls (a0 : Int) (r : Bool) (w : World) (h : redlineref05_count.f a0 = some r) :
    Calls Try.prog 87 #[.int .i64 a0] w fun e w' => e = .returned (.bool r) ∧ Drawn0 w w' := by
  have H : (if a0 ≥ 0 then (some (decide (a0 ≤ 2147483647))) else (some false)) = some r := h
  clear h
  by_cases c2 : a0 ≥ 0
  · rw [if_pos c2] at H
    have c2b0 : decide (0 ≤ a0) = true := decide_eq_true c2
    clear c2
    obtain rfl := Option.some.inj H
    go_enter Try.func87, Try.ntmps87
    go_wp2
    go_ret
    exact ⟨by first | rfl | (simp; done) | (simp [*]; done), by repeat (first | exact Drawn0.refl _ | apply Drawn0.step)⟩
  · rw [if_neg c2] at H
    have c2b0 : decide (0 ≤ a0) = false := decide_eq_false c2
    clear c2
    obtain rfl := Option.some.inj H
    go_enter Try.func87, Try.ntmps87
    go_wp2
    go_ret
    exact ⟨by first | rfl | (simp; done) | (simp [*]; done), by repeat (first | exact Drawn0.refl _ | apply Drawn0.step)⟩
end Go.Proofs.Ytnllemlmgbjjnaa.PA
namespace Go.Proofs.Ytnllemlmgbjjnaa.PA
open Go.RowKit Go.Proofs.YtnllemlmgbjjnaaW.PrintWords Go.Proofs.YtnllemlmgbjjnaaW.PrintLast Go.Proofs.YtnllemlmgbjjnaaW.PrintMore
attribute [local go_sem] max2_int min2_int max_two min_two max_three min_three max_four min_four   -- for this text's walks alone
set_option linter.unusedVariables false
set_option linter.unusedSimpArgs false
mutual
def redlineref05_Check.j0 : Nat → List (S94) → Int → Int → Bool → Option (Int)
  | 0, _, _, _, _ => none
  | k + 1, x0, x1, x2, x16 => if x16 = true then (some 50) else (redlineref05_Check.l0 k x0 x1 x2 0 0 0)
def redlineref05_Check.l0 : Nat → List (S94) → Int → Int → Int → Int → Int → Option (Int)
  | 0, _, _, _, _, _, _ => none
  | k + 1, x0, x1, x2, x7, x8, x9 => if x9 < (x0.length : Int) then (if 0 ≤ x9 then ((redlineref05_count.f ((rd_T94 x0 x9).f0)).bind fun t360 => (if t360 = true then ((redlineref05_count.f ((rd_T94 x0 x9).f1)).bind fun t361 => (if t361 = true then ((redlineref05_count.f ((rd_T94 x0 x9).f2)).bind fun t362 => (if t362 = true then ((redlineref05_count.f ((rd_T94 x0 x9).f3)).bind fun t363 => (if t363 = true then (redlineref05_Check.j2 k x0 x1 x2 x7 x8 x9 ((wrap64 (((rd_T94 x0 x9).f1) + ((rd_T94 x0 x9).f3))) == 0) ((rd_T94 x0 x9).f0) ((rd_T94 x0 x9).f1) ((rd_T94 x0 x9).f2) ((rd_T94 x0 x9).f3)) else (redlineref05_Check.j2 k x0 x1 x2 x7 x8 x9 true ((rd_T94 x0 x9).f0) ((rd_T94 x0 x9).f1) ((rd_T94 x0 x9).f2) ((rd_T94 x0 x9).f3)))) else (redlineref05_Check.j2 k x0 x1 x2 x7 x8 x9 true ((rd_T94 x0 x9).f0) ((rd_T94 x0 x9).f1) ((rd_T94 x0 x9).f2) ((rd_T94 x0 x9).f3)))) else (redlineref05_Check.j2 k x0 x1 x2 x7 x8 x9 true ((rd_T94 x0 x9).f0) ((rd_T94 x0 x9).f1) ((rd_T94 x0 x9).f2) ((rd_T94 x0 x9).f3)))) else (redlineref05_Check.j2 k x0 x1 x2 x7 x8 x9 true ((rd_T94 x0 x9).f0) ((rd_T94 x0 x9).f1) ((rd_T94 x0 x9).f2) ((rd_T94 x0 x9).f3)))) else (none)) else (if x7 > x1 then (some 50) else (if x8 > x2 then (some 50) else (if (wrap64 (x1 - x7)) = (wrap64 (x2 - x8)) then (some 0) else (some 50))))
def redlineref05_Check.j2 : Nat → List (S94) → Int → Int → Int → Int → Int → Bool → Int → Int → Int → Int → Option (Int)
  | 0, _, _, _, _, _, _, _, _, _, _, _ => none
  | k + 1, x0, x1, x2, x7, x8, x9, x56, x360000, x360001, x360002, x360003 => if x56 = true then (some 50) else (if (wrap64 (x360000 - x7)) = (wrap64 (x360002 - x8)) then (if x360000 < x7 then (some 50) else (if x9 > 0 then (if x360000 = x7 then (some 50) else (redlineref05_Check.l0 k x0 x1 x2 (wrap64 (x360000 + x360001)) (wrap64 (x360002 + x360003)) (wrap64 (x9 + 1)))) else (redlineref05_Check.l0 k x0 x1 x2 (wrap64 (x360000 + x360001)) (wrap64 (x360002 + x360003)) (wrap64 (x9 + 1))))) else (some 50))
end
def redlineref05_Check.f (k : Nat) (l0 : List (S94)) (a1 : Int) (a2 : Int) : Option (Int) := if a1 < 0 then (redlineref05_Check.j0 k l0 a1 a2 true) else (redlineref05_Check.j0 k l0 a1 a2 (decide (a2 < 0)))
set_option maxHeartbeats 8000000 in
set_option maxRecDepth 100000 in
theorem redlineref05_Check.calls (k : Nat) (A0 : Option Addr) (c0 : Nat) (l0 : List (S94)) (a1 : Int) (a2 : Int) (r : Int) (w : World) (hr0 : Kd.C k94 w A0 l0.length l0) (hc0 : l0.length ≤ c0) (h : redlineref05_Check.f k l0 a1 a2 = some r) :
    Calls Try.prog 58 #[.slice A0 l0.length c0, .int .i64 a1, .int .i64 a2] w fun e w' => e = .returned (.int .i64 r) ∧ Below w.heap.size w w' := by
  have hu94 := Try.underlying94
  have HR0 := Aside0.mk hr0
  have HC0 := Aside0.mk hc0
  clear hr0 hc0
  have HB := Aside0.mk (Below.refl w.heap.size w)
  have H : (if a1 < 0 then (redlineref05_Check.j0 k l0 a1 a2 true) else (redlineref05_Check.j0 k l0 a1 a2 (decide (a2 < 0)))) = some r := h
  clear h
  have HC4 := Aside0.mk H
  clear H
  go_enter Try.func58, Try.ntmps58
  go_upto_region 1 with (fail)
  go_cut [16] (fun v16 wc => ∃ (kq : Nat) (x16_3 : Bool), v16 = .bool x16_3 ∧ Aside0 (redlineref05_Check.j0 kq l0 a1 a2 x16_3 = some r) ∧ Aside0 (kq ≤ k) ∧ Aside0 (Below w.heap.size w wc))
  case first =>
    have H := HC4.out
    clear HC4
    by_cases c5 : a1 < 0
    · rw [if_pos c5] at H
      have c5b0 : decide (a1 < 0) = true := decide_eq_true c5
      clear c5
      (first | rw [c5b0] | (simp only [i64_w, i32_w]; rw [c5b0]) | skip)
      have H' := Aside0.mk H
      clear H
      go_wp2
      go_meet
      case rel => exact ⟨_, (true), (by first | rfl | (simp; done) | (simp [*]; done)), H', ⟨by first | omega | exact Nat.le_refl _⟩, ⟨by repeat (first | (with_reducible first | exact HB.out | apply below_alloc | apply pw_below_drewN | apply below_drew1) | exact HB.out)⟩⟩
    · rw [if_neg c5] at H
      have c5b0 : decide (a1 < 0) = false := decide_eq_false c5
      clear c5
      (first | rw [c5b0] | (simp only [i64_w, i32_w]; rw [c5b0]) | skip)
      have H' := Aside0.mk H
      clear H
      go_wp2
      go_meet
      case rel => exact ⟨_, (decide (a2 < 0)), (by first | rfl | (simp; done) | (simp [*]; done)), H', ⟨by first | omega | exact Nat.le_refl _⟩, ⟨by repeat (first | (with_reducible first | exact HB.out | apply below_alloc | apply pw_below_drewN | apply below_drew1) | exact HB.out)⟩⟩
  case rest =>
    clear HC4
    try clear p2
    try clear c5
    try clear c5b0
    obtain ⟨kq, x16_3, rfl, HA, HJ3, HB⟩ := hcut
    cases kq with
    | zero => exact absurd HA.out (by simp [redlineref05_Check.j0])
    | succ kj3 =>
      have H := HA.out
      clear HA
      simp only [redlineref05_Check.j0] at H
      by_cases c6 : x16_3 = true
      · subst c6
        have H1 : (some 50) = some r := by rw [if_pos rfl] at H; exact H
        clear H
        have H := H1
        clear H1
        obtain rfl := Option.some.inj H
        go_wp2
        go_ret
        exact ⟨by first | rfl | (simp [errW_none, errW_some] <;> rfl) | (simp [*, errW_none, errW_some] <;> rfl), by repeat (first | (with_reducible first | exact HB.out | apply below_alloc | apply pw_below_drewN | apply below_drew1) | exact HB.out)⟩
      · replace c6 := Bool.eq_false_iff.mpr c6
        subst c6
        have H1 : (redlineref05_Check.l0 kj3 l0 a1 a2 0 0 0) = some r := by rw [if_neg (show ¬ (false = true) by decide)] at H; exact H
        clear H
        have H := H1
        clear H1
        have H' := Aside0.mk H
        clear H
        go_wp2
        go_loopg [7, 8, 9] kj3 (fun kq v7 v8 v9 w' => ∃ (x7_2 : Int) (x8_2 : Int) (x9_2 : Int), v7 = .int .i64 x7_2 ∧ v8 = .int .i64 x8_2 ∧ v9 = .int .i64 x9_2 ∧ Aside0 (redlineref05_Check.l0 kq l0 a1 a2 x7_2 x8_2 x9_2 = some r) ∧ Aside0 (kq ≤ kj3) ∧ Aside0 (Below w.heap.size w w'))
        case atStart => exact ⟨(0), (0), (0), (by first | rfl | (simp; done) | (simp [*]; done)), (by first | rfl | (simp; done) | (simp [*]; done)), (by first | rfl | (simp; done) | (simp [*]; done)), H', ⟨Nat.le_refl _⟩, ⟨by repeat (first | (with_reducible first | exact HB.out | apply below_alloc | apply pw_below_drewN | apply below_drew1) | exact HB.out)⟩⟩
        case round =>
          clear H'
          try clear p2
          try clear c5
          try clear c5b0
          try clear c6
          try clear p2
          obtain ⟨x7_2, x8_2, x9_2, rfl, rfl, rfl, HA, HK2, HB⟩ := hrel
          cases gk with
          | zero => exact absurd HA.out (by simp [redlineref05_Check.l0])
          | succ k2 =>
            have H := HA.out
            clear HA
            simp only [redlineref05_Check.l0] at H
            by_cases c7 : x9_2 < (l0.length : Int)
            · rw [if_pos c7] at H
              have c7b0 : decide (x9_2 < (l0.length : Int)) = true := decide_eq_true c7
              clear c7
              by_cases c8 : 0 ≤ x9_2
              · rw [if_pos c8] at H
                have c8b0 : decide (0 ≤ x9_2) = true := decide_eq_true c8
                clear c8
                have HC9 := Aside0.mk H
                clear H
                have p358 : 0 ≤ (x9_2 : Int) := of_decide_eq_true (by first | (with_reducible assumption) | assumption)
                have q358 : x9_2 < (l0.length : Int) := of_decide_eq_true (by first | (with_reducible assumption) | assumption)
                obtain ⟨ad358, e358, hx358_0, hx358_1, hx358_2, hx358_3⟩ := at_T94 HR0.out x9_2 p358 q358
                cases e358
                replace hx358_0 := (HB.out.cell (World.block_lt_of_cell? w _ hx358_0)).trans hx358_0
                replace hx358_1 := (HB.out.cell (World.block_lt_of_cell? w _ hx358_1)).trans hx358_1
                replace hx358_2 := (HB.out.cell (World.block_lt_of_cell? w _ hx358_2)).trans hx358_2
                replace hx358_3 := (HB.out.cell (World.block_lt_of_cell? w _ hx358_3)).trans hx358_3
                replace p358 := eq_true p358
                replace q358 := eq_true q358
                go_upto_region 8 with (first | ((with_reducible refine gate_dst (N := 10) rfl ?_); refine box_event ?hg (N := 10) ?hd (cs := #[.int .i64 0, .int .i64 0, .int .i64 0, .int .i64 0]) (t := 94) ?hr ?_; (case hd => rfl); (case hg => rfl); (case hr => first | (go_simp; done) | (go_simp; rfl)); intro gb359 hg w10 hbox hb; have n0_ := Aside0.mk (below_step (by repeat (first | (with_reducible first | exact HB.out | apply below_alloc | apply pw_below_drewN | apply below_drew1) | exact HB.out)) hb); have n1_ := Aside0.mk (hbox); have n2_ := Aside0.mk ((by rw [hg]; exact (below_size (by repeat (first | (with_reducible first | exact HB.out | apply below_alloc | apply pw_below_drewN | apply below_drew1) | exact HB.out))) : w.heap.size ≤ gb359)); have n3_ := Aside0.mk ((by rw [hg]; exact (below_size (by repeat (first | (with_reducible first | exact HB.out | apply below_alloc | apply pw_below_drewN | apply below_drew1) | exact HB.out))) : w.heap.size ≤ gb359)); clear HB; have HB := n0_; have BK359 := n1_; have GW359 := n2_; have GE359 := n3_; clear n0_ n1_ n2_ n3_; clear hb hbox hg; have hcz11_0 : w10.cell? ⟨gb359, 0, none⟩ = some (.int .i64 0) := (blk_cell BK359.out 0).trans rfl; have hcz11_1 : w10.cell? ⟨gb359, 1, none⟩ = some (.int .i64 0) := (blk_cell BK359.out 1).trans rfl; have hcz11_2 : w10.cell? ⟨gb359, 2, none⟩ = some (.int .i64 0) := (blk_cell BK359.out 2).trans rfl; have hcz11_3 : w10.cell? ⟨gb359, 3, none⟩ = some (.int .i64 0) := (blk_cell BK359.out 3).trans rfl; have hfz11_0 := blk_frozen BK359.out 0; have hfz11_1 := blk_frozen BK359.out 1; have hfz11_2 := blk_frozen BK359.out 2; have hfz11_3 := blk_frozen BK359.out 3))
                (try simp only [Act.put, List.setIfInBounds_toArray, List.set_cons_zero, List.set_cons_succ])
                go_cut [56] (fun v56 wc => ∃ (kq : Nat) (x56_8 : Bool), v56 = .bool x56_8 ∧ Aside0 (redlineref05_Check.j2 kq l0 a1 a2 x7_2 x8_2 x9_2 x56_8 ((rd_T94 l0 x9_2).f0) ((rd_T94 l0 x9_2).f1) ((rd_T94 l0 x9_2).f2) ((rd_T94 l0 x9_2).f3) = some r) ∧ Aside0 (kq ≤ k2) ∧ Aside0 (wc.heap[gb359]? = some (.cells #[.int .i64 ((rd_T94 l0 x9_2).f0), .int .i64 ((rd_T94 l0 x9_2).f1), .int .i64 ((rd_T94 l0 x9_2).f2), .int .i64 ((rd_T94 l0 x9_2).f3)] 94 (0, 0))) ∧ Aside0 (Below w.heap.size w wc))
                case first =>
                  have H := HC9.out
                  clear HC9
                  replace H := Option.bind_eq_some_iff.mp H
                  obtain ⟨t360, A120, H⟩ := H
                  replace H : (if t360 = true then ((redlineref05_count.f ((rd_T94 l0 x9_2).f1)).bind fun t361 => (if t361 = true then ((redlineref05_count.f ((rd_T94 l0 x9_2).f2)).bind fun t362 => (if t362 = true then ((redlineref05_count.f ((rd_T94 l0 x9_2).f3)).bind fun t363 => (if t363 = true then (redlineref05_Check.j2 k2 l0 a1 a2 x7_2 x8_2 x9_2 ((wrap64 (((rd_T94 l0 x9_2).f1) + ((rd_T94 l0 x9_2).f3))) == 0) ((rd_T94 l0 x9_2).f0) ((rd_T94 l0 x9_2).f1) ((rd_T94 l0 x9_2).f2) ((rd_T94 l0 x9_2).f3)) else (redlineref05_Check.j2 k2 l0 a1 a2 x7_2 x8_2 x9_2 true ((rd_T94 l0 x9_2).f0) ((rd_T94 l0 x9_2).f1) ((rd_T94 l0 x9_2).f2) ((rd_T94 l0 x9_2).f3)))) else (redlineref05_Check.j2 k2 l0 a1 a2 x7_2 x8_2 x9_2 true ((rd_T94 l0 x9_2).f0) ((rd_T94 l0 x9_2).f1) ((rd_T94 l0 x9_2).f2) ((rd_T94 l0 x9_2).f3)))) else (redlineref05_Check.j2 k2 l0 a1 a2 x7_2 x8_2 x9_2 true ((rd_T94 l0 x9_2).f0) ((rd_T94 l0 x9_2).f1) ((rd_T94 l0 x9_2).f2) ((rd_T94 l0 x9_2).f3)))) else (redlineref05_Check.j2 k2 l0 a1 a2 x7_2 x8_2 x9_2 true ((rd_T94 l0 x9_2).f0) ((rd_T94 l0 x9_2).f1) ((rd_T94 l0 x9_2).f2) ((rd_T94 l0 x9_2).f3))) = some r := H
                  have A12 := Aside0.mk A120
                  clear A120
                  by_cases c13 : t360 = true
                  · subst c13
                    have H1 : ((redlineref05_count.f ((rd_T94 l0 x9_2).f1)).bind fun t361 => (if t361 = true then ((redlineref05_count.f ((rd_T94 l0 x9_2).f2)).bind fun t362 => (if t362 = true then ((redlineref05_count.f ((rd_T94 l0 x9_2).f3)).bind fun t363 => (if t363 = true then (redlineref05_Check.j2 k2 l0 a1 a2 x7_2 x8_2 x9_2 ((wrap64 (((rd_T94 l0 x9_2).f1) + ((rd_T94 l0 x9_2).f3))) == 0) ((rd_T94 l0 x9_2).f0) ((rd_T94 l0 x9_2).f1) ((rd_T94 l0 x9_2).f2) ((rd_T94 l0 x9_2).f3)) else (redlineref05_Check.j2 k2 l0 a1 a2 x7_2 x8_2 x9_2 true ((rd_T94 l0 x9_2).f0) ((rd_T94 l0 x9_2).f1) ((rd_T94 l0 x9_2).f2) ((rd_T94 l0 x9_2).f3)))) else (redlineref05_Check.j2 k2 l0 a1 a2 x7_2 x8_2 x9_2 true ((rd_T94 l0 x9_2).f0) ((rd_T94 l0 x9_2).f1) ((rd_T94 l0 x9_2).f2) ((rd_T94 l0 x9_2).f3)))) else (redlineref05_Check.j2 k2 l0 a1 a2 x7_2 x8_2 x9_2 true ((rd_T94 l0 x9_2).f0) ((rd_T94 l0 x9_2).f1) ((rd_T94 l0 x9_2).f2) ((rd_T94 l0 x9_2).f3)))) = some r := by rw [if_pos rfl] at H; exact H
                    clear H
                    have H := H1
                    clear H1
                    replace H := Option.bind_eq_some_iff.mp H
                    obtain ⟨t361, A140, H⟩ := H
                    replace H : (if t361 = true then ((redlineref05_count.f ((rd_T94 l0 x9_2).f2)).bind fun t362 => (if t362 = true then ((redlineref05_count.f ((rd_T94 l0 x9_2).f3)).bind fun t363 => (if t363 = true then (redlineref05_Check.j2 k2 l0 a1 a2 x7_2 x8_2 x9_2 ((wrap64 (((rd_T94 l0 x9_2).f1) + ((rd_T94 l0 x9_2).f3))) == 0) ((rd_T94 l0 x9_2).f0) ((rd_T94 l0 x9_2).f1) ((rd_T94 l0 x9_2).f2) ((rd_T94 l0 x9_2).f3)) else (redlineref05_Check.j2 k2 l0 a1 a2 x7_2 x8_2 x9_2 true ((rd_T94 l0 x9_2).f0) ((rd_T94 l0 x9_2).f1) ((rd_T94 l0 x9_2).f2) ((rd_T94 l0 x9_2).f3)))) else (redlineref05_Check.j2 k2 l0 a1 a2 x7_2 x8_2 x9_2 true ((rd_T94 l0 x9_2).f0) ((rd_T94 l0 x9_2).f1) ((rd_T94 l0 x9_2).f2) ((rd_T94 l0 x9_2).f3)))) else (redlineref05_Check.j2 k2 l0 a1 a2 x7_2 x8_2 x9_2 true ((rd_T94 l0 x9_2).f0) ((rd_T94 l0 x9_2).f1) ((rd_T94 l0 x9_2).f2) ((rd_T94 l0 x9_2).f3))) = some r := H
                    have A14 := Aside0.mk A140
                    clear A140
                    by_cases c15 : t361 = true
                    · subst c15
                      have H1 : ((redlineref05_count.f ((rd_T94 l0 x9_2).f2)).bind fun t362 => (if t362 = true then ((redlineref05_count.f ((rd_T94 l0 x9_2).f3)).bind fun t363 => (if t363 = true then (redlineref05_Check.j2 k2 l0 a1 a2 x7_2 x8_2 x9_2 ((wrap64 (((rd_T94 l0 x9_2).f1) + ((rd_T94 l0 x9_2).f3))) == 0) ((rd_T94 l0 x9_2).f0) ((rd_T94 l0 x9_2).f1) ((rd_T94 l0 x9_2).f2) ((rd_T94 l0 x9_2).f3)) else (redlineref05_Check.j2 k2 l0 a1 a2 x7_2 x8_2 x9_2 true ((rd_T94 l0 x9_2).f0) ((rd_T94 l0 x9_2).f1) ((rd_T94 l0 x9_2).f2) ((rd_T94 l0 x9_2).f3)))) else (redlineref05_Check.j2 k2 l0 a1 a2 x7_2 x8_2 x9_2 true ((rd_T94 l0 x9_2).f0) ((rd_T94 l0 x9_2).f1) ((rd_T94 l0 x9_2).f2) ((rd_T94 l0 x9_2).f3)))) = some r := by rw [if_pos rfl] at H; exact H
                      clear H
                      have H := H1
                      clear H1
                      replace H := Option.bind_eq_some_iff.mp H
                      obtain ⟨t362, A160, H⟩ := H
                      replace H : (if t362 = true then ((redlineref05_count.f ((rd_T94 l0 x9_2).f3)).bind fun t363 => (if t363 = true then (redlineref05_Check.j2 k2 l0 a1 a2 x7_2 x8_2 x9_2 ((wrap64 (((rd_T94 l0 x9_2).f1) + ((rd_T94 l0 x9_2).f3))) == 0) ((rd_T94 l0 x9_2).f0) ((rd_T94 l0 x9_2).f1) ((rd_T94 l0 x9_2).f2) ((rd_T94 l0 x9_2).f3)) else (redlineref05_Check.j2 k2 l0 a1 a2 x7_2 x8_2 x9_2 true ((rd_T94 l0 x9_2).f0) ((rd_T94 l0 x9_2).f1) ((rd_T94 l0 x9_2).f2) ((rd_T94 l0 x9_2).f3)))) else (redlineref05_Check.j2 k2 l0 a1 a2 x7_2 x8_2 x9_2 true ((rd_T94 l0 x9_2).f0) ((rd_T94 l0 x9_2).f1) ((rd_T94 l0 x9_2).f2) ((rd_T94 l0 x9_2).f3))) = some r := H
                      have A16 := Aside0.mk A160
                      clear A160
                      by_cases c17 : t362 = true
                      · subst c17
                        have H1 : ((redlineref05_count.f ((rd_T94 l0 x9_2).f3)).bind fun t363 => (if t363 = true then (redlineref05_Check.j2 k2 l0 a1 a2 x7_2 x8_2 x9_2 ((wrap64 (((rd_T94 l0 x9_2).f1) + ((rd_T94 l0 x9_2).f3))) == 0) ((rd_T94 l0 x9_2).f0) ((rd_T94 l0 x9_2).f1) ((rd_T94 l0 x9_2).f2) ((rd_T94 l0 x9_2).f3)) else (redlineref05_Check.j2 k2 l0 a1 a2 x7_2 x8_2 x9_2 true ((rd_T94 l0 x9_2).f0) ((rd_T94 l0 x9_2).f1) ((rd_T94 l0 x9_2).f2) ((rd_T94 l0 x9_2).f3)))) = some r := by rw [if_pos rfl] at H; exact H
                        clear H
                        have H := H1
                        clear H1
                        replace H := Option.bind_eq_some_iff.mp H
                        obtain ⟨t363, A180, H⟩ := H
                        replace H : (if t363 = true then (redlineref05_Check.j2 k2 l0 a1 a2 x7_2 x8_2 x9_2 ((wrap64 (((rd_T94 l0 x9_2).f1) + ((rd_T94 l0 x9_2).f3))) == 0) ((rd_T94 l0 x9_2).f0) ((rd_T94 l0 x9_2).f1) ((rd_T94 l0 x9_2).f2) ((rd_T94 l0 x9_2).f3)) else (redlineref05_Check.j2 k2 l0 a1 a2 x7_2 x8_2 x9_2 true ((rd_T94 l0 x9_2).f0) ((rd_T94 l0 x9_2).f1) ((rd_T94 l0 x9_2).f2) ((rd_T94 l0 x9_2).f3))) = some r := H
                        have A18 := Aside0.mk A180
                        clear A180
                        by_cases c19 : t363 = true
                        · subst c19
                          have H1 : (redlineref05_Check.j2 k2 l0 a1 a2 x7_2 x8_2 x9_2 ((wrap64 (((rd_T94 l0 x9_2).f1) + ((rd_T94 l0 x9_2).f3))) == 0) ((rd_T94 l0 x9_2).f0) ((rd_T94 l0 x9_2).f1) ((rd_T94 l0 x9_2).f2) ((rd_T94 l0 x9_2).f3)) = some r := by rw [if_pos rfl] at H; exact H
                          clear H
                          have H := H1
                          clear H1
                          have H' := Aside0.mk H
                          clear H
                          have hcz20_0 : w10.cell? ⟨gb359, 0, none⟩ = some (.int .i64 0) := (blk_cell BK359.out 0).trans rfl
                          have hcz20_1 : w10.cell? ⟨gb359, 1, none⟩ = some (.int .i64 0) := (blk_cell BK359.out 1).trans rfl
                          have hcz20_2 : w10.cell? ⟨gb359, 2, none⟩ = some (.int .i64 0) := (blk_cell BK359.out 2).trans rfl
                          have hcz20_3 : w10.cell? ⟨gb359, 3, none⟩ = some (.int .i64 0) := (blk_cell BK359.out 3).trans rfl
                          have hfz20_0 := blk_frozen BK359.out 0
                          have hfz20_1 := blk_frozen BK359.out 1
                          have hfz20_2 := blk_frozen BK359.out 2
                          have hfz20_3 := blk_frozen BK359.out 3
                          go_wp2_with (first | ((with_reducible refine gate_callee (f := 87) rfl ?_); refine goesL_ (some 29) rfl rfl Try.func87 (by kernel_rfl) rfl #[.int .i64 ((rd_T94 l0 x9_2).f0)] rfl (by (try simp only [List.map_toArray, List.map_cons, List.map_nil]); first | done | rfl | (simp only [List.length_drop, List.length_take]; rfl)) ?_; (with_reducible refine (redlineref05_count.calls ((rd_T94 l0 x9_2).f0) true _ A12.out).mono ?_); rintro e w' ⟨rfl, ⟨nd, rfl⟩⟩; refine ⟨_, rfl, ?_⟩) | (go_at_call 87; (with_reducible refine (redlineref05_count.calls ((rd_T94 l0 x9_2).f1) true _ A14.out).mono ?_); rintro e w' ⟨rfl, ⟨nd, rfl⟩⟩) | (go_at_call 87; (with_reducible refine (redlineref05_count.calls ((rd_T94 l0 x9_2).f2) true _ A16.out).mono ?_); rintro e w' ⟨rfl, ⟨nd, rfl⟩⟩) | (go_at_call 87; (with_reducible refine (redlineref05_count.calls ((rd_T94 l0 x9_2).f3) true _ A18.out).mono ?_); rintro e w' ⟨rfl, ⟨nd, rfl⟩⟩))
                          go_meet
                          case rel => exact ⟨_, (((wrap64 (((rd_T94 l0 x9_2).f1) + ((rd_T94 l0 x9_2).f3))) == 0)), (by first | rfl | (simp; done) | (simp [*]; done)), H', ⟨by have := HJ3.out; have := HK2.out; first | omega | exact Nat.le_refl _⟩, ⟨by (with_reducible repeat (first | refine blk_drewN ?_ _ | refine blk_drew ?_ | refine blk_alloc ?_ _)); refine blk_put (cs := #[.int .i64 ((rd_T94 l0 x9_2).f0), .int .i64 ((rd_T94 l0 x9_2).f1), .int .i64 ((rd_T94 l0 x9_2).f2), .int .i64 0]) ?_ 3 _ rfl; (with_reducible repeat (first | refine blk_drewN ?_ _ | refine blk_drew ?_ | refine blk_alloc ?_ _)); refine blk_put (cs := #[.int .i64 ((rd_T94 l0 x9_2).f0), .int .i64 ((rd_T94 l0 x9_2).f1), .int .i64 0, .int .i64 0]) ?_ 2 _ rfl; (with_reducible repeat (first | refine blk_drewN ?_ _ | refine blk_drew ?_ | refine blk_alloc ?_ _)); refine blk_put (cs := #[.int .i64 ((rd_T94 l0 x9_2).f0), .int .i64 0, .int .i64 0, .int .i64 0]) ?_ 1 _ rfl; (with_reducible repeat (first | refine blk_drewN ?_ _ | refine blk_drew ?_ | refine blk_alloc ?_ _)); refine blk_put (cs := #[.int .i64 0, .int .i64 0, .int .i64 0, .int .i64 0]) ?_ 0 _ rfl; (with_reducible repeat (first | refine blk_drewN ?_ _ | refine blk_drew ?_ | refine blk_alloc ?_ _)); exact BK359.out⟩, ⟨by repeat (first | (with_reducible first | exact HB.out | apply below_alloc | apply pw_below_drewN | apply below_drew1 | refine below_set ?_ GE359.out) | exact HB.out)⟩⟩
                        · replace c19 := Bool.eq_false_iff.mpr c19
                          subst c19
                          have H1 : (redlineref05_Check.j2 k2 l0 a1 a2 x7_2 x8_2 x9_2 true ((rd_T94 l0 x9_2).f0) ((rd_T94 l0 x9_2).f1) ((rd_T94 l0 x9_2).f2) ((rd_T94 l0 x9_2).f3)) = some r := by rw [if_neg (show ¬ (false = true) by decide)] at H; exact H
                          clear H
                          have H := H1
                          clear H1
                          have H' := Aside0.mk H
                          clear H
                          have hcz21_0 : w10.cell? ⟨gb359, 0, none⟩ = some (.int .i64 0) := (blk_cell BK359.out 0).trans rfl
                          have hcz21_1 : w10.cell? ⟨gb359, 1, none⟩ = some (.int .i64 0) := (blk_cell BK359.out 1).trans rfl
                          have hcz21_2 : w10.cell? ⟨gb359, 2, none⟩ = some (.int .i64 0) := (blk_cell BK359.out 2).trans rfl
                          have hcz21_3 : w10.cell? ⟨gb359, 3, none⟩ = some (.int .i64 0) := (blk_cell BK359.out 3).trans rfl
                          have hfz21_0 := blk_frozen BK359.out 0
                          have hfz21_1 := blk_frozen BK359.out 1
                          have hfz21_2 := blk_frozen BK359.out 2
                          have hfz21_3 := blk_frozen BK359.out 3
                          go_wp2_with (first | ((with_reducible refine gate_callee (f := 87) rfl ?_); refine goesL_ (some 29) rfl rfl Try.func87 (by kernel_rfl) rfl #[.int .i64 ((rd_T94 l0 x9_2).f0)] rfl (by (try simp only [List.map_toArray, List.map_cons, List.map_nil]); first | done | rfl | (simp only [List.length_drop, List.length_take]; rfl)) ?_; (with_reducible refine (redlineref05_count.calls ((rd_T94 l0 x9_2).f0) true _ A12.out).mono ?_); rintro e w' ⟨rfl, ⟨nd, rfl⟩⟩; refine ⟨_, rfl, ?_⟩) | (go_at_call 87; (with_reducible refine (redlineref05_count.calls ((rd_T94 l0 x9_2).f1) true _ A14.out).mono ?_); rintro e w' ⟨rfl, ⟨nd, rfl⟩⟩) | (go_at_call 87; (with_reducible refine (redlineref05_count.calls ((rd_T94 l0 x9_2).f2) true _ A16.out).mono ?_); rintro e w' ⟨rfl, ⟨nd, rfl⟩⟩) | (go_at_call 87; (with_reducible refine (redlineref05_count.calls ((rd_T94 l0 x9_2).f3) false _ A18.out).mono ?_); rintro e w' ⟨rfl, ⟨nd, rfl⟩⟩))
                          go_meet
                          case rel => exact ⟨_, (true), (by first | rfl | (simp; done) | (simp [*]; done)), H', ⟨by have := HJ3.out; have := HK2.out; first | omega | exact Nat.le_refl _⟩, ⟨by (with_reducible repeat (first | refine blk_drewN ?_ _ | refine blk_drew ?_ | refine blk_alloc ?_ _)); refine blk_put (cs := #[.int .i64 ((rd_T94 l0 x9_2).f0), .int .i64 ((rd_T94 l0 x9_2).f1), .int .i64 ((rd_T94 l0 x9_2).f2), .int .i64 0]) ?_ 3 _ rfl; (with_reducible repeat (first | refine blk_drewN ?_ _ | refine blk_drew ?_ | refine blk_alloc ?_ _)); refine blk_put (cs := #[.int .i64 ((rd_T94 l0 x9_2).f0), .int .i64 ((rd_T94 l0 x9_2).f1), .int .i64 0, .int .i64 0]) ?_ 2 _ rfl; (with_reducible repeat (first | refine blk_drewN ?_ _ | refine blk_drew ?_ | refine blk_alloc ?_ _)); refine blk_put (cs := #[.int .i64 ((rd_T94 l0 x9_2).f0), .int .i64 0, .int .i64 0, .int .i64 0]) ?_ 1 _ rfl; (with_reducible repeat (first | refine blk_drewN ?_ _ | refine blk_drew ?_ | refine blk_alloc ?_ _)); refine blk_put (cs := #[.int .i64 0, .int .i64 0, .int .i64 0, .int .i64 0]) ?_ 0 _ rfl; (with_reducible repeat (first | refine blk_drewN ?_ _ | refine blk_drew ?_ | refine blk_alloc ?_ _)); exact BK359.out⟩, ⟨by repeat (first | (with_reducible first | exact HB.out | apply below_alloc | apply pw_below_drewN | apply below_drew1 | refine below_set ?_ GE359.out) | exact HB.out)⟩⟩
                      · replace c17 := Bool.eq_false_iff.mpr c17
                        subst c17
                        have H1 : (redlineref05_Check.j2 k2 l0 a1 a2 x7_2 x8_2 x9_2 true ((rd_T94 l0 x9_2).f0) ((rd_T94 l0 x9_2).f1) ((rd_T94 l0 x9_2).f2) ((rd_T94 l0 x9_2).f3)) = some r := by rw [if_neg (show ¬ (false = true) by decide)] at H; exact H
                        clear H
                        have H := H1
                        clear H1
                        have H' := Aside0.mk H
                        clear H
                        have hcz22_0 : w10.cell? ⟨gb359, 0, none⟩ = some (.int .i64 0) := (blk_cell BK359.out 0).trans rfl
                        have hcz22_1 : w10.cell? ⟨gb359, 1, none⟩ = some (.int .i64 0) := (blk_cell BK359.out 1).trans rfl
                        have hcz22_2 : w10.cell? ⟨gb359, 2, none⟩ = some (.int .i64 0) := (blk_cell BK359.out 2).trans rfl
                        have hcz22_3 : w10.cell? ⟨gb359, 3, none⟩ = some (.int .i64 0) := (blk_cell BK359.out 3).trans rfl
                        have hfz22_0 := blk_frozen BK359.out 0
                        have hfz22_1 := blk_frozen BK359.out 1
                        have hfz22_2 := blk_frozen BK359.out 2
                        have hfz22_3 := blk_frozen BK359.out 3
                        go_wp2_with (first | ((with_reducible refine gate_callee (f := 87) rfl ?_); refine goesL_ (some 29) rfl rfl Try.func87 (by kernel_rfl) rfl #[.int .i64 ((rd_T94 l0 x9_2).f0)] rfl (by (try simp only [List.map_toArray, List.map_cons, List.map_nil]); first | done | rfl | (simp only [List.length_drop, List.length_take]; rfl)) ?_; (with_reducible refine (redlineref05_count.calls ((rd_T94 l0 x9_2).f0) true _ A12.out).mono ?_); rintro e w' ⟨rfl, ⟨nd, rfl⟩⟩; refine ⟨_, rfl, ?_⟩) | (go_at_call 87; (with_reducible refine (redlineref05_count.calls ((rd_T94 l0 x9_2).f1) true _ A14.out).mono ?_); rintro e w' ⟨rfl, ⟨nd, rfl⟩⟩) | (go_at_call 87; (with_reducible refine (redlineref05_count.calls ((rd_T94 l0 x9_2).f2) false _ A16.out).mono ?_); rintro e w' ⟨rfl, ⟨nd, rfl⟩⟩))
                        go_meet
                        case rel => exact ⟨_, (true), (by first | rfl | (simp; done) | (simp [*]; done)), H', ⟨by have := HJ3.out; have := HK2.out; first | omega | exact Nat.le_refl _⟩, ⟨by (with_reducible repeat (first | refine blk_drewN ?_ _ | refine blk_drew ?_ | refine blk_alloc ?_ _)); refine blk_put (cs := #[.int .i64 ((rd_T94 l0 x9_2).f0), .int .i64 ((rd_T94 l0 x9_2).f1), .int .i64 ((rd_T94 l0 x9_2).f2), .int .i64 0]) ?_ 3 _ rfl; (with_reducible repeat (first | refine blk_drewN ?_ _ | refine blk_drew ?_ | refine blk_alloc ?_ _)); refine blk_put (cs := #[.int .i64 ((rd_T94 l0 x9_2).f0), .int .i64 ((rd_T94 l0 x9_2).f1), .int .i64 0, .int .i64 0]) ?_ 2 _ rfl; (with_reducible repeat (first | refine blk_drewN ?_ _ | refine blk_drew ?_ | refine blk_alloc ?_ _)); refine blk_put (cs := #[.int .i64 ((rd_T94 l0 x9_2).f0), .int .i64 0, .int .i64 0, .int .i64 0]) ?_ 1 _ rfl; (with_reducible repeat (first | refine blk_drewN ?_ _ | refine blk_drew ?_ | refine blk_alloc ?_ _)); refine blk_put (cs := #[.int .i64 0, .int .i64 0, .int .i64 0, .int .i64 0]) ?_ 0 _ rfl; (with_reducible repeat (first | refine blk_drewN ?_ _ | refine blk_drew ?_ | refine blk_alloc ?_ _)); exact BK359.out⟩, ⟨by repeat (first | (with_reducible first | exact HB.out | apply below_alloc | apply pw_below_drewN | apply below_drew1 | refine below_set ?_ GE359.out) | exact HB.out)⟩⟩
                    · replace c15 := Bool.eq_false_iff.mpr c15
                      subst c15
                      have H1 : (redlineref05_Check.j2 k2 l0 a1 a2 x7_2 x8_2 x9_2 true ((rd_T94 l0 x9_2).f0) ((rd_T94 l0 x9_2).f1) ((rd_T94 l0 x9_2).f2) ((rd_T94 l0 x9_2).f3)) = some r := by rw [if_neg (show ¬ (false = true) by decide)] at H; exact H
                      clear H
                      have H := H1
                      clear H1
                      have H' := Aside0.mk H
                      clear H
                      have hcz23_0 : w10.cell? ⟨gb359, 0, none⟩ = some (.int .i64 0) := (blk_cell BK359.out 0).trans rfl
                      have hcz23_1 : w10.cell? ⟨gb359, 1, none⟩ = some (.int .i64 0) := (blk_cell BK359.out 1).trans rfl
                      have hcz23_2 : w10.cell? ⟨gb359, 2, none⟩ = some (.int .i64 0) := (blk_cell BK359.out 2).trans rfl
                      have hcz23_3 : w10.cell? ⟨gb359, 3, none⟩ = some (.int .i64 0) := (blk_cell BK359.out 3).trans rfl
                      have hfz23_0 := blk_frozen BK359.out 0
                      have hfz23_1 := blk_frozen BK359.out 1
                      have hfz23_2 := blk_frozen BK359.out 2
                      have hfz23_3 := blk_frozen BK359.out 3
                      go_wp2_with (first | ((with_reducible refine gate_callee (f := 87) rfl ?_); refine goesL_ (some 29) rfl rfl Try.func87 (by kernel_rfl) rfl #[.int .i64 ((rd_T94 l0 x9_2).f0)] rfl (by (try simp only [List.map_toArray, List.map_cons, List.map_nil]); first | done | rfl | (simp only [List.length_drop, List.length_take]; rfl)) ?_; (with_reducible refine (redlineref05_count.calls ((rd_T94 l0 x9_2).f0) true _ A12.out).mono ?_); rintro e w' ⟨rfl, ⟨nd, rfl⟩⟩; refine ⟨_, rfl, ?_⟩) | (go_at_call 87; (with_reducible refine (redlineref05_count.calls ((rd_T94 l0 x9_2).f1) false _ A14.out).mono ?_); rintro e w' ⟨rfl, ⟨nd, rfl⟩⟩))
                      go_meet
                      case rel => exact ⟨_, (true), (by first | rfl | (simp; done) | (simp [*]; done)), H', ⟨by have := HJ3.out; have := HK2.out; first | omega | exact Nat.le_refl _⟩, ⟨by (with_reducible repeat (first | refine blk_drewN ?_ _ | refine blk_drew ?_ | refine blk_alloc ?_ _)); refine blk_put (cs := #[.int .i64 ((rd_T94 l0 x9_2).f0), .int .i64 ((rd_T94 l0 x9_2).f1), .int .i64 ((rd_T94 l0 x9_2).f2), .int .i64 0]) ?_ 3 _ rfl; (with_reducible repeat (first | refine blk_drewN ?_ _ | refine blk_drew ?_ | refine blk_alloc ?_ _)); refine blk_put (cs := #[.int .i64 ((rd_T94 l0 x9_2).f0), .int .i64 ((rd_T94 l0 x9_2).f1), .int .i64 0, .int .i64 0]) ?_ 2 _ rfl; (with_reducible repeat (first | refine blk_drewN ?_ _ | refine blk_drew ?_ | refine blk_alloc ?_ _)); refine blk_put (cs := #[.int .i64 ((rd_T94 l0 x9_2).f0), .int .i64 0, .int .i64 0, .int .i64 0]) ?_ 1 _ rfl; (with_reducible repeat (first | refine blk_drewN ?_ _ | refine blk_drew ?_ | refine blk_alloc ?_ _)); refine blk_put (cs := #[.int .i64 0, .int .i64 0, .int .i64 0, .int .i64 0]) ?_ 0 _ rfl; (with_reducible repeat (first | refine blk_drewN ?_ _ | refine blk_drew ?_ | refine blk_alloc ?_ _)); exact BK359.out⟩, ⟨by repeat (first | (with_reducible first | exact HB.out | apply below_alloc | apply pw_below_drewN | apply below_drew1 | refine below_set ?_ GE359.out) | exact HB.out)⟩⟩
                  · replace c13 := Bool.eq_false_iff.mpr c13
                    subst c13
                    have H1 : (redlineref05_Check.j2 k2 l0 a1 a2 x7_2 x8_2 x9_2 true ((rd_T94 l0 x9_2).f0) ((rd_T94 l0 x9_2).f1) ((rd_T94 l0 x9_2).f2) ((rd_T94 l0 x9_2).f3)) = some r := by rw [if_neg (show ¬ (false = true) by decide)] at H; exact H
                    clear H
                    have H := H1
                    clear H1
                    have H' := Aside0.mk H
                    clear H
                    have hcz24_0 : w10.cell? ⟨gb359, 0, none⟩ = some (.int .i64 0) := (blk_cell BK359.out 0).trans rfl
                    have hcz24_1 : w10.cell? ⟨gb359, 1, none⟩ = some (.int .i64 0) := (blk_cell BK359.out 1).trans rfl
                    have hcz24_2 : w10.cell? ⟨gb359, 2, none⟩ = some (.int .i64 0) := (blk_cell BK359.out 2).trans rfl
                    have hcz24_3 : w10.cell? ⟨gb359, 3, none⟩ = some (.int .i64 0) := (blk_cell BK359.out 3).trans rfl
                    have hfz24_0 := blk_frozen BK359.out 0
                    have hfz24_1 := blk_frozen BK359.out 1
                    have hfz24_2 := blk_frozen BK359.out 2
                    have hfz24_3 := blk_frozen BK359.out 3
                    go_wp2_with (first | ((with_reducible refine gate_callee (f := 87) rfl ?_); refine goesL_ (some 29) rfl rfl Try.func87 (by kernel_rfl) rfl #[.int .i64 ((rd_T94 l0 x9_2).f0)] rfl (by (try simp only [List.map_toArray, List.map_cons, List.map_nil]); first | done | rfl | (simp only [List.length_drop, List.length_take]; rfl)) ?_; (with_reducible refine (redlineref05_count.calls ((rd_T94 l0 x9_2).f0) false _ A12.out).mono ?_); rintro e w' ⟨rfl, ⟨nd, rfl⟩⟩; refine ⟨_, rfl, ?_⟩))
                    go_meet
                    case rel => exact ⟨_, (true), (by first | rfl | (simp; done) | (simp [*]; done)), H', ⟨by have := HJ3.out; have := HK2.out; first | omega | exact Nat.le_refl _⟩, ⟨by (with_reducible repeat (first | refine blk_drewN ?_ _ | refine blk_drew ?_ | refine blk_alloc ?_ _)); refine blk_put (cs := #[.int .i64 ((rd_T94 l0 x9_2).f0), .int .i64 ((rd_T94 l0 x9_2).f1), .int .i64 ((rd_T94 l0 x9_2).f2), .int .i64 0]) ?_ 3 _ rfl; (with_reducible repeat (first | refine blk_drewN ?_ _ | refine blk_drew ?_ | refine blk_alloc ?_ _)); refine blk_put (cs := #[.int .i64 ((rd_T94 l0 x9_2).f0), .int .i64 ((rd_T94 l0 x9_2).f1), .int .i64 0, .int .i64 0]) ?_ 2 _ rfl; (with_reducible repeat (first | refine blk_drewN ?_ _ | refine blk_drew ?_ | refine blk_alloc ?_ _)); refine blk_put (cs := #[.int .i64 ((rd_T94 l0 x9_2).f0), .int .i64 0, .int .i64 0, .int .i64 0]) ?_ 1 _ rfl; (with_reducible repeat (first | refine blk_drewN ?_ _ | refine blk_drew ?_ | refine blk_alloc ?_ _)); refine blk_put (cs := #[.int .i64 0, .int .i64 0, .int .i64 0, .int .i64 0]) ?_ 0 _ rfl; (with_reducible repeat (first | refine blk_drewN ?_ _ | refine blk_drew ?_ | refine blk_alloc ?_ _)); exact BK359.out⟩, ⟨by repeat (first | (with_reducible first | exact HB.out | apply below_alloc | apply pw_below_drewN | apply below_drew1 | refine below_set ?_ GE359.out) | exact HB.out)⟩⟩
                case rest =>
                  clear HC9
                  try clear c1
                  try clear p2
                  try clear p3
                  try clear q3
                  try clear hx3
                  try clear c5
                  try clear c5b0
                  try clear c6
                  try clear p6
                  try clear c7
                  try clear c7b0
                  try clear c8
                  try clear c8b0
                  try clear c13
                  try clear c15
                  try clear c17
                  try clear c19
                  try clear hcz11_0
                  try clear hcz11_1
                  try clear hcz11_2
                  try clear hcz11_3
                  try clear hcz20_0
                  try clear hcz20_1
                  try clear hcz20_2
                  try clear hcz20_3
                  try clear hcz21_0
                  try clear hcz21_1
                  try clear hcz21_2
                  try clear hcz21_3
                  try clear hcz22_0
                  try clear hcz22_1
                  try clear hcz22_2
                  try clear hcz22_3
                  try clear hcz23_0
                  try clear hcz23_1
                  try clear hcz23_2
                  try clear hcz23_3
                  try clear hcz24_0
                  try clear hcz24_1
                  try clear hcz24_2
                  try clear hcz24_3
                  try clear hfz11_0
                  try clear hfz11_1
                  try clear hfz11_2
                  try clear hfz11_3
                  try clear hfz20_0
                  try clear hfz20_1
                  try clear hfz20_2
                  try clear hfz20_3
                  try clear hfz21_0
                  try clear hfz21_1
                  try clear hfz21_2
                  try clear hfz21_3
                  try clear hfz22_0
                  try clear hfz22_1
                  try clear hfz22_2
                  try clear hfz22_3
                  try clear hfz23_0
                  try clear hfz23_1
                  try clear hfz23_2
                  try clear hfz23_3
                  try clear hfz24_0
                  try clear hfz24_1
                  try clear hfz24_2
                  try clear hfz24_3
                  try clear hx358_0
                  try clear hx358_1
                  try clear hx358_2
                  try clear hx358_3
                  try clear p2
                  try clear p358
                  try clear q358
                  obtain ⟨kq, x56_8, rfl, HA, HJ8, BK359, HB⟩ := hcut
                  cases kq with
                  | zero => exact absurd HA.out (by simp [redlineref05_Check.j2])
                  | succ kj8 =>
                    have H := HA.out
                    clear HA
                    simp only [redlineref05_Check.j2] at H
                    by_cases c25 : x56_8 = true
                    · subst c25
                      have H1 : (some 50) = some r := by rw [if_pos rfl] at H; exact H
                      clear H
                      have H := H1
                      clear H1
                      obtain rfl := Option.some.inj H
                      go_wp2
                      go_ret
                      exact ⟨by first | rfl | (simp [errW_none, errW_some] <;> rfl) | (simp [*, errW_none, errW_some] <;> rfl), by repeat (first | (with_reducible first | exact HB.out | apply below_alloc | apply pw_below_drewN | apply below_drew1 | refine below_set ?_ GE359.out) | exact HB.out)⟩
                    · replace c25 := Bool.eq_false_iff.mpr c25
                      subst c25
                      have H1 : (if (wrap64 (((rd_T94 l0 x9_2).f0) - x7_2)) = (wrap64 (((rd_T94 l0 x9_2).f2) - x8_2)) then (if ((rd_T94 l0 x9_2).f0) < x7_2 then (some 50) else (if x9_2 > 0 then (if ((rd_T94 l0 x9_2).f0) = x7_2 then (some 50) else (redlineref05_Check.l0 kj8 l0 a1 a2 (wrap64 (((rd_T94 l0 x9_2).f0) + ((rd_T94 l0 x9_2).f1))) (wrap64 (((rd_T94 l0 x9_2).f2) + ((rd_T94 l0 x9_2).f3))) (wrap64 (x9_2 + 1)))) else (redlineref05_Check.l0 kj8 l0 a1 a2 (wrap64 (((rd_T94 l0 x9_2).f0) + ((rd_T94 l0 x9_2).f1))) (wrap64 (((rd_T94 l0 x9_2).f2) + ((rd_T94 l0 x9_2).f3))) (wrap64 (x9_2 + 1))))) else (some 50)) = some r := by rw [if_neg (show ¬ (false = true) by decide)] at H; exact H
                      clear H
                      have H := H1
                      clear H1
                      by_cases c26 : (wrap64 (((rd_T94 l0 x9_2).f0) - x7_2)) = (wrap64 (((rd_T94 l0 x9_2).f2) - x8_2))
                      · rw [if_pos c26] at H
                        have c26b0 : ((wrap64 (((rd_T94 l0 x9_2).f0) - x7_2)) == (wrap64 (((rd_T94 l0 x9_2).f2) - x8_2))) = true := beq_iff_eq.mpr c26
                        have c26b1 : ((wrap64 (((rd_T94 l0 x9_2).f0) - x7_2)) != (wrap64 (((rd_T94 l0 x9_2).f2) - x8_2))) = false := bne_eq_false_iff_eq.mpr c26
                        clear c26
                        by_cases c27 : ((rd_T94 l0 x9_2).f0) < x7_2
                        · rw [if_pos c27] at H
                          have c27b0 : decide (((rd_T94 l0 x9_2).f0) < x7_2) = true := decide_eq_true c27
                          clear c27
                          obtain rfl := Option.some.inj H
                          have hcz28_0 : wc.cell? ⟨gb359, 0, none⟩ = some (.int .i64 ((rd_T94 l0 x9_2).f0)) := (blk_cell BK359.out 0).trans rfl
                          have hcz28_1 : wc.cell? ⟨gb359, 1, none⟩ = some (.int .i64 ((rd_T94 l0 x9_2).f1)) := (blk_cell BK359.out 1).trans rfl
                          have hcz28_2 : wc.cell? ⟨gb359, 2, none⟩ = some (.int .i64 ((rd_T94 l0 x9_2).f2)) := (blk_cell BK359.out 2).trans rfl
                          have hcz28_3 : wc.cell? ⟨gb359, 3, none⟩ = some (.int .i64 ((rd_T94 l0 x9_2).f3)) := (blk_cell BK359.out 3).trans rfl
                          have hfz28_0 := blk_frozen BK359.out 0
                          have hfz28_1 := blk_frozen BK359.out 1
                          have hfz28_2 := blk_frozen BK359.out 2
                          have hfz28_3 := blk_frozen BK359.out 3
                          go_wp2
                          go_ret
                          exact ⟨by first | rfl | (simp [errW_none, errW_some] <;> rfl) | (simp [*, errW_none, errW_some] <;> rfl), by repeat (first | (with_reducible first | exact HB.out | apply below_alloc | apply pw_below_drewN | apply below_drew1 | refine below_set ?_ GE359.out) | exact HB.out)⟩
                        · rw [if_neg c27] at H
                          have c27b0 : decide (((rd_T94 l0 x9_2).f0) < x7_2) = false := decide_eq_false c27
                          clear c27
                          by_cases c29 : x9_2 > 0
                          · rw [if_pos c29] at H
                            have c29b0 : decide (0 < x9_2) = true := decide_eq_true c29
                            clear c29
                            by_cases c30 : ((rd_T94 l0 x9_2).f0) = x7_2
                            · rw [if_pos c30] at H
                              have c30b0 : (((rd_T94 l0 x9_2).f0) == x7_2) = true := beq_iff_eq.mpr c30
                              have c30b1 : (((rd_T94 l0 x9_2).f0) != x7_2) = false := bne_eq_false_iff_eq.mpr c30
                              clear c30
                              obtain rfl := Option.some.inj H
                              have hcz31_0 : wc.cell? ⟨gb359, 0, none⟩ = some (.int .i64 ((rd_T94 l0 x9_2).f0)) := (blk_cell BK359.out 0).trans rfl
                              have hcz31_1 : wc.cell? ⟨gb359, 1, none⟩ = some (.int .i64 ((rd_T94 l0 x9_2).f1)) := (blk_cell BK359.out 1).trans rfl
                              have hcz31_2 : wc.cell? ⟨gb359, 2, none⟩ = some (.int .i64 ((rd_T94 l0 x9_2).f2)) := (blk_cell BK359.out 2).trans rfl
                              have hcz31_3 : wc.cell? ⟨gb359, 3, none⟩ = some (.int .i64 ((rd_T94 l0 x9_2).f3)) := (blk_cell BK359.out 3).trans rfl
                              have hfz31_0 := blk_frozen BK359.out 0
                              have hfz31_1 := blk_frozen BK359.out 1
                              have hfz31_2 := blk_frozen BK359.out 2
                              have hfz31_3 := blk_frozen BK359.out 3
                              go_wp2
                              go_ret
                              exact ⟨by first | rfl | (simp [errW_none, errW_some] <;> rfl) | (simp [*, errW_none, errW_some] <;> rfl), by repeat (first | (with_reducible first | exact HB.out | apply below_alloc | apply pw_below_drewN | apply below_drew1 | refine below_set ?_ GE359.out) | exact HB.out)⟩
                            · rw [if_neg c30] at H
                              have c30b0 : (((rd_T94 l0 x9_2).f0) == x7_2) = false := beq_eq_false_iff_ne.mpr c30
                              have c30b1 : (((rd_T94 l0 x9_2).f0) != x7_2) = true := bne_iff_ne.mpr c30
                              have H' := Aside0.mk H
                              clear H
                              have hcz32_0 : wc.cell? ⟨gb359, 0, none⟩ = some (.int .i64 ((rd_T94 l0 x9_2).f0)) := (blk_cell BK359.out 0).trans rfl
                              have hcz32_1 : wc.cell? ⟨gb359, 1, none⟩ = some (.int .i64 ((rd_T94 l0 x9_2).f1)) := (blk_cell BK359.out 1).trans rfl
                              have hcz32_2 : wc.cell? ⟨gb359, 2, none⟩ = some (.int .i64 ((rd_T94 l0 x9_2).f2)) := (blk_cell BK359.out 2).trans rfl
                              have hcz32_3 : wc.cell? ⟨gb359, 3, none⟩ = some (.int .i64 ((rd_T94 l0 x9_2).f3)) := (blk_cell BK359.out 3).trans rfl
                              have hfz32_0 := blk_frozen BK359.out 0
                              have hfz32_1 := blk_frozen BK359.out 1
                              have hfz32_2 := blk_frozen BK359.out 2
                              have hfz32_3 := blk_frozen BK359.out 3
                              go_wp2
                              go_roundg kj8
                              case measure => have := HJ3.out; have := HK2.out; have := HJ8.out; omega
                              case rel => exact ⟨(wrap64 (((rd_T94 l0 x9_2).f0) + ((rd_T94 l0 x9_2).f1))), (wrap64 (((rd_T94 l0 x9_2).f2) + ((rd_T94 l0 x9_2).f3))), (wrap64 (x9_2 + 1)), (by first | rfl | (simp; done) | (simp [*]; done)), (by first | rfl | (simp; done) | (simp [*]; done)), (by first | rfl | (simp; done) | (simp [*]; done)), H', ⟨by have := HJ3.out; have := HK2.out; have := HJ8.out; omega⟩, ⟨by repeat (first | (with_reducible first | exact HB.out | apply below_alloc | apply pw_below_drewN | apply below_drew1 | refine below_set ?_ GE359.out) | exact HB.out)⟩⟩
                          · rw [if_neg c29] at H
                            have c29b0 : decide (0 < x9_2) = false := decide_eq_false c29
                            clear c29
                            have H' := Aside0.mk H
                            clear H
                            have hcz33_0 : wc.cell? ⟨gb359, 0, none⟩ = some (.int .i64 ((rd_T94 l0 x9_2).f0)) := (blk_cell BK359.out 0).trans rfl
                            have hcz33_1 : wc.cell? ⟨gb359, 1, none⟩ = some (.int .i64 ((rd_T94 l0 x9_2).f1)) := (blk_cell BK359.out 1).trans rfl
                            have hcz33_2 : wc.cell? ⟨gb359, 2, none⟩ = some (.int .i64 ((rd_T94 l0 x9_2).f2)) := (blk_cell BK359.out 2).trans rfl
                            have hcz33_3 : wc.cell? ⟨gb359, 3, none⟩ = some (.int .i64 ((rd_T94 l0 x9_2).f3)) := (blk_cell BK359.out 3).trans rfl
                            have hfz33_0 := blk_frozen BK359.out 0
                            have hfz33_1 := blk_frozen BK359.out 1
                            have hfz33_2 := blk_frozen BK359.out 2
                            have hfz33_3 := blk_frozen BK359.out 3
                            go_wp2
                            go_roundg kj8
                            case measure => have := HJ3.out; have := HK2.out; have := HJ8.out; omega
                            case rel => exact ⟨(wrap64 (((rd_T94 l0 x9_2).f0) + ((rd_T94 l0 x9_2).f1))), (wrap64 (((rd_T94 l0 x9_2).f2) + ((rd_T94 l0 x9_2).f3))), (wrap64 (x9_2 + 1)), (by first | rfl | (simp; done) | (simp [*]; done)), (by first | rfl | (simp; done) | (simp [*]; done)), (by first | rfl | (simp; done) | (simp [*]; done)), H', ⟨by have := HJ3.out; have := HK2.out; have := HJ8.out; omega⟩, ⟨by repeat (first | (with_reducible first | exact HB.out | apply below_alloc | apply pw_below_drewN | apply below_drew1 | refine below_set ?_ GE359.out) | exact HB.out)⟩⟩
                      · rw [if_neg c26] at H
                        have c26b0 : ((wrap64 (((rd_T94 l0 x9_2).f0) - x7_2)) == (wrap64 (((rd_T94 l0 x9_2).f2) - x8_2))) = false := beq_eq_false_iff_ne.mpr c26
                        have c26b1 : ((wrap64 (((rd_T94 l0 x9_2).f0) - x7_2)) != (wrap64 (((rd_T94 l0 x9_2).f2) - x8_2))) = true := bne_iff_ne.mpr c26
                        obtain rfl := Option.some.inj H
                        have hcz34_0 : wc.cell? ⟨gb359, 0, none⟩ = some (.int .i64 ((rd_T94 l0 x9_2).f0)) := (blk_cell BK359.out 0).trans rfl
                        have hcz34_1 : wc.cell? ⟨gb359, 1, none⟩ = some (.int .i64 ((rd_T94 l0 x9_2).f1)) := (blk_cell BK359.out 1).trans rfl
                        have hcz34_2 : wc.cell? ⟨gb359, 2, none⟩ = some (.int .i64 ((rd_T94 l0 x9_2).f2)) := (blk_cell BK359.out 2).trans rfl
                        have hcz34_3 : wc.cell? ⟨gb359, 3, none⟩ = some (.int .i64 ((rd_T94 l0 x9_2).f3)) := (blk_cell BK359.out 3).trans rfl
                        have hfz34_0 := blk_frozen BK359.out 0
                        have hfz34_1 := blk_frozen BK359.out 1
                        have hfz34_2 := blk_frozen BK359.out 2
                        have hfz34_3 := blk_frozen BK359.out 3
                        go_wp2
                        go_ret
                        exact ⟨by first | rfl | (simp [errW_none, errW_some] <;> rfl) | (simp [*, errW_none, errW_some] <;> rfl), by repeat (first | (with_reducible first | exact HB.out | apply below_alloc | apply pw_below_drewN | apply below_drew1 | refine below_set ?_ GE359.out) | exact HB.out)⟩
              · rw [if_neg c8] at H
                exact absurd H (by simp)
            · rw [if_neg c7] at H
              have c7b0 : decide (x9_2 < (l0.length : Int)) = false := decide_eq_false c7
              clear c7
              by_cases c35 : x7_2 > a1
              · rw [if_pos c35] at H
                have c35b0 : decide (a1 < x7_2) = true := decide_eq_true c35
                clear c35
                obtain rfl := Option.some.inj H
                go_wp2
                go_ret
                exact ⟨by first | rfl | (simp [errW_none, errW_some] <;> rfl) | (simp [*, errW_none, errW_some] <;> rfl), by repeat (first | (with_reducible first | exact HB.out | apply below_alloc | apply pw_below_drewN | apply below_drew1) | exact HB.out)⟩
              · rw [if_neg c35] at H
                have c35b0 : decide (a1 < x7_2) = false := decide_eq_false c35
                clear c35
                by_cases c36 : x8_2 > a2
                · rw [if_pos c36] at H
                  have c36b0 : decide (a2 < x8_2) = true := decide_eq_true c36
                  clear c36
                  obtain rfl := Option.some.inj H
                  go_wp2
                  go_ret
                  exact ⟨by first | rfl | (simp [errW_none, errW_some] <;> rfl) | (simp [*, errW_none, errW_some] <;> rfl), by repeat (first | (with_reducible first | exact HB.out | apply below_alloc | apply pw_below_drewN | apply below_drew1) | exact HB.out)⟩
                · rw [if_neg c36] at H
                  have c36b0 : decide (a2 < x8_2) = false := decide_eq_false c36
                  clear c36
                  by_cases c37 : (wrap64 (a1 - x7_2)) = (wrap64 (a2 - x8_2))
                  · rw [if_pos c37] at H
                    have c37b0 : ((wrap64 (a1 - x7_2)) == (wrap64 (a2 - x8_2))) = true := beq_iff_eq.mpr c37
                    have c37b1 : ((wrap64 (a1 - x7_2)) != (wrap64 (a2 - x8_2))) = false := bne_eq_false_iff_eq.mpr c37
                    clear c37
                    obtain rfl := Option.some.inj H
                    go_wp2
                    go_ret
                    exact ⟨by first | rfl | (simp [errW_none, errW_some] <;> rfl) | (simp [*, errW_none, errW_some] <;> rfl), by repeat (first | (with_reducible first | exact HB.out | apply below_alloc | apply pw_below_drewN | apply below_drew1) | exact HB.out)⟩
                  · rw [if_neg c37] at H
                    have c37b0 : ((wrap64 (a1 - x7_2)) == (wrap64 (a2 - x8_2))) = false := beq_eq_false_iff_ne.mpr c37
                    have c37b1 : ((wrap64 (a1 - x7_2)) != (wrap64 (a2 - x8_2))) = true := bne_iff_ne.mpr c37
                    obtain rfl := Option.some.inj H
                    go_wp2
                    go_ret
                    exact ⟨by first | rfl | (simp [errW_none, errW_some] <;> rfl) | (simp [*, errW_none, errW_some] <;> rfl), by repeat (first | (with_reducible first | exact HB.out | apply below_alloc | apply pw_below_drewN | apply below_drew1) | exact HB.out)⟩
end Go.Proofs.Ytnllemlmgbjjnaa.PA
/- Plain laws on the printed functions: bare lines, names, edit scripts. -/
namespace Go.Proofs.Ytnllemlmgbjjnaa.PA
set_option linter.unusedVariables false
set_option linter.unusedSimpArgs false
open Go.RowKit Go.Proofs.YtnllemlmgbjjnaaW.PrintWords Go.Proofs.YtnllemlmgbjjnaaW.PrintLast Go.Proofs.YtnllemlmgbjjnaaW.PrintMore
theorem last_eq (s : ByteArray) (h : 0 < s.size) : ((s.extract (s.size - 1) s.size).toList == (⟨#[10]⟩ : ByteArray).toList) = decide (bt s ((s.size - 1 : Nat) : Int) = 10) := by
  rw [Lib.toList_data, Lib.toList_data, ByteArray.data_extract, Array.toList_extract]
  have hl : s.data.toList.length = s.size := rfl
  have h1 : s.size - 1 < s.data.toList.length := by omega
  have e : List.extract s.data.toList (s.size - 1) s.size = [s.data.toList[s.size - 1]] := by
    unfold List.extract
    rw [List.drop_eq_getElem_cons h1, show s.size - 1 + 1 = s.size from by omega, List.drop_of_length_le (by omega), List.take_of_length_le (by simp; omega)]
  rw [e, Bool.eq_iff_iff, decide_eq_true_iff, beq_iff_eq]
  unfold bt
  rw [dif_pos (by rw [Int.toNat_natCast]; omega)]
  constructor
  · intro h2
    have h3 : s.data.toList[s.size - 1] = 10 := by simpa using h2
    have h4 : (s[((s.size - 1 : Nat) : Int).toNat]'(by rw [Int.toNat_natCast]; omega)) = 10 := h3
    rw [h4]; rfl
  · intro h2
    have h4 : (s[((s.size - 1 : Nat) : Int).toNat]'(by rw [Int.toNat_natCast]; omega)) = 10 := UInt8.toNat_inj.1 (by rw [show ((10 : UInt8).toNat) = 10 from rfl]; omega)
    have h3 : s.data.toList[s.size - 1] = 10 := h4
    rw [h3]
def bareF (s : ByteArray) : ByteArray × Bool := if 0 < s.size ∧ bt s ((s.size - 1 : Nat) : Int) = 10 then (s.extract 0 (s.size - 1), true) else (s, false)
theorem rbare_eq (s : ByteArray) (hs : s.size ≤ 140737488355328) : redlineref02_Bare.f s = some (bareF s) := by
  unfold redlineref02_Bare.f bareF
  by_cases h0 : s.size = 0
  · rw [if_pos (by omega), if_neg (by omega)]
  · have e : wrap64 ((s.size : Int) - 1) = ((s.size - 1 : Nat) : Int) := by rw [wrap_id (by omega) (by omega)]; omega
    rw [if_neg (by omega), e, if_pos (by omega), if_pos (by omega)]
    by_cases h1 : bt s ((s.size - 1 : Nat) : Int) = 10
    · rw [if_pos h1, if_pos (by omega), if_pos ⟨by omega, h1⟩]; rfl
    · rw [if_neg h1, if_neg (fun h => h1 h.2)]
theorem bare_eq (s : ByteArray) (hs : s.size ≤ 140737488355328) : lines_Bare.f s = some (bareF s) := by
  have h1 : ((⟨#[10]⟩ : ByteArray).size) = 1 := rfl
  unfold lines_Bare.f strings_CutSuffix.f stringslite_CutSuffix.f stringslite_HasSuffix.f bareF
  by_cases h0 : s.size = 0
  · rw [if_neg (by rw [h1]; omega), if_neg (show ¬ (0 < s.size ∧ _) from fun h => absurd h.1 (by omega)), Option.bind_some, if_neg (by decide)]; rfl
  · have e : wrap64 ((s.size : Int) - ((⟨#[10]⟩ : ByteArray).size : Int)) = ((s.size - 1 : Nat) : Int) := by rw [h1, wrap_id (by omega) (by omega)]; omega
    have g1 : (s.size : Int) ≥ ((⟨#[10]⟩ : ByteArray).size : Int) := by rw [h1]; omega
    have g2 : (0 : Int) ≤ ((s.size - 1 : Nat) : Int) := by omega
    have g3 : ((s.size - 1 : Nat) : Int) ≤ (s.size : Int) := by omega
    rw [e]
    simp only [if_pos g1, if_pos g2, if_pos g3, Int.toNat_natCast]
    rw [last_eq s (by omega), Option.bind_some]
    by_cases h2 : bt s ((s.size - 1 : Nat) : Int) = 10
    · rw [if_pos (decide_eq_true h2), if_pos (And.intro (by omega) h2)]; rfl
    · rw [if_neg (by rw [decide_eq_true_iff]; exact h2), if_neg (fun h => h2 h.2)]; rfl
theorem bareF_size (s : ByteArray) : (bareF s).1.size ≤ s.size := by
  unfold bareF
  split
  · simp [ByteArray.size_extract]
  · exact Nat.le_refl _
def whL (l : List ByteArray) : List UInt8 := l.flatMap fun s => (bareF s).1.data.toList ++ [10]
theorem whL_cons (s : ByteArray) (l : List ByteArray) : whL (s :: l) = ((bareF s).1.data.toList ++ [10]) ++ whL l := rfl
def szL (l : List ByteArray) : Nat := (l.map fun s => s.size + 1).sum
theorem szL_cons (s : ByteArray) (l : List ByteArray) : szL (s :: l) = s.size + 1 + szL l := rfl
theorem whL_le (l : List ByteArray) : (whL l).length ≤ szL l := by
  induction l with
  | nil => exact Nat.le_refl _
  | cons s t ih =>
    rw [whL_cons, szL_cons, List.length_append, List.length_append]
    have := bareF_size s
    have e : (bareF s).1.data.toList.length = (bareF s).1.size := rfl
    simp only [List.length_singleton]
    omega
theorem szL_app (a b : List ByteArray) : szL (a ++ b) = szL a + szL b := by simp [szL]
theorem szL_take (l : List ByteArray) (n : Nat) : szL (l.take n) ≤ szL l := by
  have := szL_app (l.take n) (l.drop n); rw [List.take_append_drop] at this; omega
theorem szL_drop (l : List ByteArray) (n : Nat) : szL (l.drop n) ≤ szL l := by
  have := szL_app (l.take n) (l.drop n); rw [List.take_append_drop] at this; omega
theorem szL_len (l : List ByteArray) : l.length ≤ szL l := by
  induction l with
  | nil => exact Nat.le_refl _
  | cons s t ih => rw [szL_cons, List.length_cons]; omega
theorem szL_mem {l : List ByteArray} {s : ByteArray} (h : s ∈ l) : s.size + 1 ≤ szL l := by
  induction l with
  | nil => cases h
  | cons a t ih =>
    rw [szL_cons]
    rcases List.mem_cons.1 h with rfl | h
    · omega
    · have := ih h; omega
theorem rdS {l : List ByteArray} {i : Nat} (h : i < l.length) : rdOf ByteArray.empty l (i : Int) = l[i] := by
  unfold rdOf
  rw [Int.toNat_natCast, List.getD_eq_getElem?_getD, List.getElem?_eq_getElem h]
  rfl
theorem ofL (x : ByteArray) (l : List UInt8) (h : x.data.toList = l) : x = ⟨l.toArray⟩ := by
  subst h; cases x; rfl
theorem whole_from (l : List ByteArray) (hz : szL l ≤ 70368744177664) : ∀ (d k i : Nat) (acc : ByteArray), i + d = l.length → d < k → acc.size + szL (l.drop i) ≤ 140737488355328 →
    ∃ r, redlineref17_whole.l0 k l acc (i : Int) = some r ∧ r.data.toList = acc.data.toList ++ whL (l.drop i) := by
  intro d
  induction d with
  | zero =>
    intro k i acc hi hk ha
    obtain ⟨k, rfl⟩ : ∃ m, k = m + 1 := ⟨k - 1, by omega⟩
    simp only [redlineref17_whole.l0]
    rw [if_neg (by omega), List.drop_of_length_le (by omega)]
    exact ⟨_, rfl, by simp [whL]⟩
  | succ d ih =>
    intro k i acc hi hk ha
    obtain ⟨k, rfl⟩ : ∃ m, k = m + 1 := ⟨k - 1, by omega⟩
    have hlt : i < l.length := by omega
    have hll := szL_len l
    have hm := szL_mem (List.getElem_mem hlt)
    have hb := bareF_size l[i]
    rw [List.drop_eq_getElem_cons hlt, szL_cons] at ha
    simp only [redlineref17_whole.l0]
    rw [if_pos (by omega), if_pos (by omega), rdS hlt, rbare_eq _ (by omega), Option.bind_some, if_pos (by omega), if_pos (by rw [ByteArray.size_append]; omega), wrap_id (by omega) (by omega), succ_cast]
    have e10 : (⟨#[10]⟩ : ByteArray).size = 1 := rfl
    obtain ⟨r, h1, h2⟩ := ih k (i + 1) ((acc ++ (bareF l[i]).1) ++ (⟨#[10]⟩ : ByteArray)) (by omega) (by omega) (by rw [ByteArray.size_append, ByteArray.size_append, e10]; omega)
    refine ⟨r, h1, ?_⟩
    rw [h2, List.drop_eq_getElem_cons hlt, whL_cons]
    simp [ByteArray.data_append]
theorem whole_eq (l : List ByteArray) (hz : szL l ≤ 70368744177664) (k : Nat) (hk : l.length < k) : redlineref17_whole.f k l = some ⟨(whL l).toArray⟩ := by
  obtain ⟨r, h1, h2⟩ := whole_from l hz l.length k 0 (⟨#[]⟩ : ByteArray) (by omega) hk (by rw [List.drop_zero, show (⟨#[]⟩ : ByteArray).size = 0 from rfl]; omega)
  unfold redlineref17_whole.f
  rw [show (0 : Int) = ((0 : Nat) : Int) from rfl, h1, ofL r _ h2]
  simp
theorem rd94 {l : List S94} {i : Nat} (h : i < l.length) : rd_T94 l (i : Int) = l[i] := by
  unfold rd_T94
  rw [Int.toNat_natCast, List.getD_eq_getElem?_getD, List.getElem?_eq_getElem h]
  rfl
def cntB (x : Int) : Bool := decide (0 ≤ x) && decide (x ≤ 2147483647)
theorem cnt_eq (x : Int) : edits_count.f x = some (cntB x) := by
  unfold edits_count.f cntB
  by_cases h : x ≥ 0
  · rw [if_pos h, decide_eq_true h]; rfl
  · rw [if_neg h, decide_eq_false h]; rfl
theorem rcnt_eq (x : Int) : redlineref05_count.f x = some (cntB x) := cnt_eq x
theorem cntB_iff {x : Int} (h : cntB x = true) : 0 ≤ x ∧ x ≤ 2147483647 := by
  unfold cntB at h
  simp only [Bool.and_eq_true, decide_eq_true_eq] at h
  exact h
/-- Is a change right behind the places a, b? -/
def chB (first : Bool) (a b : Int) (c : S94) : Bool :=
  cntB c.f0 && cntB c.f1 && cntB c.f2 && cntB c.f3 && !(decide (c.f1 = 0) && decide (c.f3 = 0)) && decide (a ≤ c.f0) && !(!first && decide (c.f0 = a)) && decide (c.f0 - a = c.f2 - b)
def scr (n m : Int) : Bool → Int → Int → List S94 → Int
  | _, a, b, [] => if a > n then 50 else if b > m then 50 else if n - a = m - b then 0 else 50
  | first, a, b, c :: t => if chB first a b c = true then scr n m false (c.f0 + c.f1) (c.f2 + c.f3) t else 50
theorem scr_cons (n m : Int) (first : Bool) (a b : Int) (c : S94) (t : List S94) : scr n m first a b (c :: t) = if chB first a b c = true then scr n m false (c.f0 + c.f1) (c.f2 + c.f3) t else 50 := rfl
theorem check_from (l : List S94) (hl : l.length ≤ 1099511627776) (n m : Int) (hn : 0 ≤ n ∧ n ≤ 1099511627776) (hm : 0 ≤ m ∧ m ≤ 1099511627776) : ∀ (d k i : Nat) (a b : Int), i + d = l.length → 2 * d < k → 0 ≤ a → a ≤ 4294967294 → 0 ≤ b → b ≤ 4294967294 →
    edits_Check.l0 k n m a b l (l.length : Int) (i : Int) = some (scr n m (decide (i = 0)) a b (l.drop i)) := by
  intro d
  induction d with
  | zero =>
    intro k i a b hi hk a0 a1 b0 b1
    obtain ⟨k, rfl⟩ : ∃ m, k = m + 1 := ⟨k - 1, by omega⟩
    simp only [edits_Check.l0]
    rw [if_neg (by omega), List.drop_of_length_le (by omega), wrap_id (by omega) (by omega), wrap_id (by omega) (by omega)]
    unfold scr
    split
    · rfl
    · split
      · rfl
      · split <;> rfl
  | succ d ih =>
    intro k i a b hi hk a0 a1 b0 b1
    obtain ⟨k, rfl⟩ : ∃ m, k = m + 2 := ⟨k - 2, by omega⟩
    have hlt : i < l.length := by omega
    simp only [edits_Check.l0]
    rw [if_pos (by omega), if_pos (by omega), if_pos (by omega), rd94 hlt, List.drop_eq_getElem_cons hlt, scr_cons]
    generalize l[i] = c
    rw [cnt_eq, cnt_eq, cnt_eq, cnt_eq]
    unfold chB
    cases h0 : cntB c.f0 with
    | false => rfl
    | true =>
    cases h1 : cntB c.f1 with
    | false => rfl
    | true =>
    cases h2 : cntB c.f2 with
    | false => rfl
    | true =>
    cases h3 : cntB c.f3 with
    | false => rfl
    | true =>
    replace h0 := cntB_iff h0; replace h1 := cntB_iff h1; replace h2 := cntB_iff h2; replace h3 := cntB_iff h3
    simp only [Option.bind_some, if_true, Bool.true_and]
    have ih1 := ih k (i + 1) (c.f0 + c.f1) (c.f2 + c.f3) (by omega) (by omega) (by omega) (by omega) (by omega) (by omega)
    rw [show decide (i + 1 = 0) = false from rfl] at ih1
    by_cases e1 : c.f1 = 0 ∧ c.f3 = 0
    · rw [if_pos e1.1, decide_eq_true e1.1, decide_eq_true e1.2]
      simp only [edits_Check.j1]
      rw [if_pos (by rw [e1.2]; rfl)]
      rfl
    · have e2 : (decide (c.f1 = 0) && decide (c.f3 = 0)) = false := by simp; omega
      have e3 : (if c.f1 = 0 then edits_Check.j1 (k + 1) n m a b (i : Int) l (l.length : Int) (i : Int) (c.f3 == 0) c.f0 c.f1 c.f2 c.f3 else edits_Check.j1 (k + 1) n m a b (i : Int) l (l.length : Int) (i : Int) false c.f0 c.f1 c.f2 c.f3) = edits_Check.j1 (k + 1) n m a b (i : Int) l (l.length : Int) (i : Int) false c.f0 c.f1 c.f2 c.f3 := by
        by_cases e4 : c.f1 = 0
        · rw [if_pos e4, show (c.f3 == 0) = false from beq_eq_false_iff_ne.2 (fun h => e1 ⟨e4, h⟩)]
        · rw [if_neg e4]
      rw [e3, e2]
      simp only [edits_Check.j1]
      rw [if_neg (by decide), wrap_id (x := c.f0 - a) (by omega) (by omega), wrap_id (x := c.f2 - b) (by omega) (by omega), wrap_id (x := c.f0 + c.f1) (by omega) (by omega), wrap_id (x := c.f2 + c.f3) (by omega) (by omega), wrap_id (x := (i : Int) + 1) (by omega) (by omega), succ_cast, ih1]
      by_cases g0 : c.f0 - a < 0
      · rw [if_pos g0, decide_eq_false (show ¬ a ≤ c.f0 by omega)]; rfl
      · rw [if_neg g0, decide_eq_true (show a ≤ c.f0 by omega)]
        by_cases g1 : i = 0
        · rw [if_neg (by omega), decide_eq_true g1]
          by_cases g2 : c.f0 - a = c.f2 - b
          · rw [if_pos g2, decide_eq_true g2]; rfl
          · rw [if_neg g2, decide_eq_false g2]; rfl
        · rw [if_pos (by omega), decide_eq_false g1]
          by_cases g3 : c.f0 - a = 0
          · rw [if_pos g3, decide_eq_true (show c.f0 = a by omega)]; rfl
          · rw [if_neg g3, decide_eq_false (show ¬ c.f0 = a by omega)]
            by_cases g2 : c.f0 - a = c.f2 - b
            · rw [if_pos g2, decide_eq_true g2]; rfl
            · rw [if_neg g2, decide_eq_false g2]; rfl
theorem scheck_eq (l : List S94) (hl : l.length ≤ 1099511627776) (n m : Int) (hn : 0 ≤ n ∧ n ≤ 1099511627776) (hm : 0 ≤ m ∧ m ≤ 1099511627776) (k : Nat) (hk : 2 * l.length < k) : edits_Check.f k l n m = some (scr n m true 0 0 l) := by
  unfold edits_Check.f
  have := check_from l hl n m hn hm l.length k 0 0 0 (by omega) hk (by omega) (by omega) (by omega) (by omega)
  rw [List.drop_zero] at this
  exact this
theorem rcheck_from (l : List S94) (hl : l.length ≤ 1099511627776) (n m : Int) (hn : 0 ≤ n ∧ n ≤ 1099511627776) (hm : 0 ≤ m ∧ m ≤ 1099511627776) : ∀ (d k i : Nat) (a b : Int), i + d = l.length → 2 * d < k → 0 ≤ a → a ≤ 4294967294 → 0 ≤ b → b ≤ 4294967294 →
    redlineref05_Check.l0 k l n m a b (i : Int) = some (scr n m (decide (i = 0)) a b (l.drop i)) := by
  intro d
  induction d with
  | zero =>
    intro k i a b hi hk a0 a1 b0 b1
    obtain ⟨k, rfl⟩ : ∃ m, k = m + 1 := ⟨k - 1, by omega⟩
    simp only [redlineref05_Check.l0]
    rw [if_neg (by omega), List.drop_of_length_le (by omega), wrap_id (by omega) (by omega), wrap_id (by omega) (by omega)]
    unfold scr
    split
    · rfl
    · split
      · rfl
      · split <;> rfl
  | succ d ih =>
    intro k i a b hi hk a0 a1 b0 b1
    obtain ⟨k, rfl⟩ : ∃ m, k = m + 2 := ⟨k - 2, by omega⟩
    have hlt : i < l.length := by omega
    simp only [redlineref05_Check.l0]
    rw [if_pos (by omega), if_pos (by omega), rd94 hlt, List.drop_eq_getElem_cons hlt, scr_cons]
    generalize l[i] = c
    rw [rcnt_eq, rcnt_eq, rcnt_eq, rcnt_eq]
    unfold chB
    cases h0 : cntB c.f0 with
    | false => rfl
    | true =>
    cases h1 : cntB c.f1 with
    | false => rfl
    | true =>
    cases h2 : cntB c.f2 with
    | false => rfl
    | true =>
    cases h3 : cntB c.f3 with
    | false => rfl
    | true =>
    replace h0 := cntB_iff h0; replace h1 := cntB_iff h1; replace h2 := cntB_iff h2; replace h3 := cntB_iff h3
    simp only [Option.bind_some, if_true, Bool.true_and]
    have ih1 := ih k (i + 1) (c.f0 + c.f1) (c.f2 + c.f3) (by omega) (by omega) (by omega) (by omega) (by omega) (by omega)
    rw [show decide (i + 1 = 0) = false from rfl] at ih1
    simp only [redlineref05_Check.j2]
    rw [wrap_id (x := c.f1 + c.f3) (by omega) (by omega)]
    by_cases e1 : c.f1 = 0 ∧ c.f3 = 0
    · rw [if_pos (by rw [e1.1, e1.2]; rfl), decide_eq_true e1.1, decide_eq_true e1.2]
      rfl
    · have e2 : (decide (c.f1 = 0) && decide (c.f3 = 0)) = false := by simp; omega
      rw [if_neg (by rw [beq_iff_eq]; omega), e2]
      rw [wrap_id (x := c.f0 - a) (by omega) (by omega), wrap_id (x := c.f2 - b) (by omega) (by omega), wrap_id (x := c.f0 + c.f1) (by omega) (by omega), wrap_id (x := c.f2 + c.f3) (by omega) (by omega), wrap_id (x := (i : Int) + 1) (by omega) (by omega), succ_cast, ih1]
      by_cases g2 : c.f0 - a = c.f2 - b
      · rw [if_pos g2, decide_eq_true g2]
        by_cases g0 : c.f0 < a
        · rw [if_pos g0, decide_eq_false (show ¬ a ≤ c.f0 by omega)]; rfl
        · rw [if_neg g0, decide_eq_true (show a ≤ c.f0 by omega)]
          by_cases g1 : i = 0
          · rw [if_neg (by omega), decide_eq_true g1]; rfl
          · rw [if_pos (by omega), decide_eq_false g1]
            by_cases g3 : c.f0 = a
            · rw [if_pos g3, decide_eq_true g3]; rfl
            · rw [if_neg g3, decide_eq_false g3]; rfl
      · rw [if_neg g2, decide_eq_false g2, Bool.and_false]; rfl
theorem rscheck_eq (l : List S94) (hl : l.length ≤ 1099511627776) (n m : Int) (hn : 0 ≤ n ∧ n ≤ 1099511627776) (hm : 0 ≤ m ∧ m ≤ 1099511627776) (k : Nat) (hk : 2 * l.length + 1 < k) : redlineref05_Check.f k l n m = some (scr n m true 0 0 l) := by
  unfold redlineref05_Check.f
  obtain ⟨k, rfl⟩ : ∃ m, k = m + 1 := ⟨k - 1, by omega⟩
  rw [if_neg (by omega), decide_eq_false (show ¬ m < 0 by omega)]
  simp only [redlineref05_Check.j0]
  rw [if_neg (by decide)]
  have := rcheck_from l hl n m hn hm l.length k 0 0 0 (by omega) (by omega) (by omega) (by omega) (by omega) (by omega)
  rw [List.drop_zero] at this
  exact this
/-- What a right script says of its first change. -/
theorem scr_le {n m : Int} : ∀ {l : List S94} {first : Bool} {a b : Int}, scr n m first a b l = 0 → a ≤ n ∧ b ≤ m
  | [], first, a, b, h => by
    unfold scr at h
    split at h
    · cases h
    · split at h
      · cases h
      · constructor <;> omega
  | c :: t, first, a, b, h => by
    rw [scr_cons] at h
    split at h
    case isFalse => cases h
    rename_i hc
    have := scr_le h
    unfold chB at hc
    simp only [Bool.and_eq_true, decide_eq_true_eq] at hc
    obtain ⟨⟨⟨⟨⟨⟨⟨c0, c1⟩, c2⟩, c3⟩, _⟩, c4⟩, _⟩, c5⟩ := hc
    replace c0 := cntB_iff c0; replace c1 := cntB_iff c1; replace c2 := cntB_iff c2; replace c3 := cntB_iff c3
    constructor <;> omega
theorem scr_first {n m : Int} {first : Bool} {a b : Int} {c : S94} {t : List S94} (h : scr n m first a b (c :: t) = 0) :
    a ≤ c.f0 ∧ 0 ≤ c.f0 ∧ c.f0 ≤ 2147483647 ∧ 0 ≤ c.f1 ∧ c.f1 ≤ 2147483647 ∧ 0 ≤ c.f2 ∧ c.f2 ≤ 2147483647 ∧ 0 ≤ c.f3 ∧ c.f3 ≤ 2147483647 ∧ c.f0 - a = c.f2 - b ∧ c.f0 + c.f1 ≤ n ∧ c.f2 + c.f3 ≤ m ∧ ¬ (c.f1 = 0 ∧ c.f3 = 0) ∧ scr n m false (c.f0 + c.f1) (c.f2 + c.f3) t = 0 := by
  rw [scr_cons] at h
  split at h
  case isFalse => cases h
  rename_i hc
  have h2 := scr_le h
  unfold chB at hc
  simp only [Bool.and_eq_true, decide_eq_true_eq, Bool.not_eq_true', Bool.and_eq_false_iff, decide_eq_false_iff_not] at hc
  obtain ⟨⟨⟨⟨⟨⟨⟨c0, c1⟩, c2⟩, c3⟩, c6⟩, c4⟩, _⟩, c5⟩ := hc
  replace c0 := cntB_iff c0; replace c1 := cntB_iff c1; replace c2 := cntB_iff c2; replace c3 := cntB_iff c3
  exact ⟨c4, c0.1, c0.2, c1.1, c1.2, c2.1, c2.2, c3.1, c3.2, c5, h2.1, h2.2, by omega, h⟩
end Go.Proofs.Ytnllemlmgbjjnaa.PA
