/- Texts of this proof, packed into one: PAxf23 PAE7 PAE8 PAE6 PAxf56 PAE9 PAF2 PAxf4 PALc PAOp. -/
import Derived.Test.YtnllemlmgbjjnaaVIPAx0
import Derived.Test.YtnllemlmgbjjnaaVI1
import Derived.Test.YtnllemlmgbjjnaaVIShelfB
import Derived.Lib.FrozenHead
import Derived.Lib.OthersKept
import Derived.Lib.Builder
import Derived.Lib.Hide
import Derived.Laws.RangeAny
import Derived.Lib.Strings
import Derived.Test.YtnllemlmgbjjnaaVIOpen
namespace Go.Proofs.Ytnllemlmgbjjnaa.PA
open Go.RowKit Go.Proofs.YtnllemlmgbjjnaaW.PrintWords Go.Proofs.YtnllemlmgbjjnaaW.PrintLast Go.Proofs.YtnllemlmgbjjnaaW.PrintMore
attribute [local go_sem] max2_int min2_int max_two min_two max_three min_three max_four min_four   -- for this text's walks alone
set_option linter.unusedVariables false
set_option linter.unusedSimpArgs false
def redlineref17_Ifdef.l0 : Nat → List (S94) → List ByteArray → List ByteArray → ByteArray → ByteArray → Int → Int → Option (ByteArray × Int)
  | 0, _, _, _, _, _, _, _ => none
  | k + 1, x0, x1, x2, x3, x11, x12, x13 => if x13 < (x0.length : Int) then (if 0 ≤ x13 then (if 0 ≤ x12 then (if x12 ≤ ((rd_T94 x0 x13).f0) then (if ((rd_T94 x0 x13).f0) ≤ (x1.length : Int) then ((redlineref17_whole.f k ((x1.take (((rd_T94 x0 x13).f0) : Int).toNat).drop (x12 : Int).toNat)).bind fun t680 => (if x11.size + t680.size ≤ 9223372036854775807 then (if 0 ≤ ((rd_T94 x0 x13).f0) then (if ((rd_T94 x0 x13).f0) ≤ (wrap64 (((rd_T94 x0 x13).f0) + ((rd_T94 x0 x13).f1))) then (if (wrap64 (((rd_T94 x0 x13).f0) + ((rd_T94 x0 x13).f1))) ≤ (x1.length : Int) then ((redlineref17_whole.f k ((x1.take ((wrap64 (((rd_T94 x0 x13).f0) + ((rd_T94 x0 x13).f1))) : Int).toNat).drop (((rd_T94 x0 x13).f0) : Int).toNat)).bind fun t682 => (if 0 ≤ ((rd_T94 x0 x13).f2) then (if ((rd_T94 x0 x13).f2) ≤ (wrap64 (((rd_T94 x0 x13).f2) + ((rd_T94 x0 x13).f3))) then (if (wrap64 (((rd_T94 x0 x13).f2) + ((rd_T94 x0 x13).f3))) ≤ (x2.length : Int) then ((redlineref17_whole.f k ((x2.take ((wrap64 (((rd_T94 x0 x13).f2) + ((rd_T94 x0 x13).f3))) : Int).toNat).drop (((rd_T94 x0 x13).f2) : Int).toNat)).bind fun t684 => (if ((rd_T94 x0 x13).f3) = 0 then (if (x11 ++ t680).size + 8 ≤ 9223372036854775807 then (if ((x11 ++ t680) ++ (⟨#[35, 105, 102, 110, 100, 101, 102, 32]⟩ : ByteArray)).size + x3.size ≤ 9223372036854775807 then (if (((x11 ++ t680) ++ (⟨#[35, 105, 102, 110, 100, 101, 102, 32]⟩ : ByteArray)) ++ x3).size + 1 ≤ 9223372036854775807 then (if ((((x11 ++ t680) ++ (⟨#[35, 105, 102, 110, 100, 101, 102, 32]⟩ : ByteArray)) ++ x3) ++ (⟨#[10]⟩ : ByteArray)).size + t682.size ≤ 9223372036854775807 then (if (((((x11 ++ t680) ++ (⟨#[35, 105, 102, 110, 100, 101, 102, 32]⟩ : ByteArray)) ++ x3) ++ (⟨#[10]⟩ : ByteArray)) ++ t682).size + 12 ≤ 9223372036854775807 then (if ((((((x11 ++ t680) ++ (⟨#[35, 105, 102, 110, 100, 101, 102, 32]⟩ : ByteArray)) ++ x3) ++ (⟨#[10]⟩ : ByteArray)) ++ t682) ++ (⟨#[35, 101, 110, 100, 105, 102, 32, 47, 42, 32, 33, 32]⟩ : ByteArray)).size + x3.size ≤ 9223372036854775807 then (if (((((((x11 ++ t680) ++ (⟨#[35, 105, 102, 110, 100, 101, 102, 32]⟩ : ByteArray)) ++ x3) ++ (⟨#[10]⟩ : ByteArray)) ++ t682) ++ (⟨#[35, 101, 110, 100, 105, 102, 32, 47, 42, 32, 33, 32]⟩ : ByteArray)) ++ x3).size + 4 ≤ 9223372036854775807 then (redlineref17_Ifdef.l0 k x0 x1 x2 x3 ((((((((x11 ++ t680) ++ (⟨#[35, 105, 102, 110, 100, 101, 102, 32]⟩ : ByteArray)) ++ x3) ++ (⟨#[10]⟩ : ByteArray)) ++ t682) ++ (⟨#[35, 101, 110, 100, 105, 102, 32, 47, 42, 32, 33, 32]⟩ : ByteArray)) ++ x3) ++ (⟨#[32, 42, 47, 10]⟩ : ByteArray)) (wrap64 (((rd_T94 x0 x13).f0) + ((rd_T94 x0 x13).f1))) (wrap64 (x13 + 1))) else (none)) else (none)) else (none)) else (none)) else (none)) else (none)) else (none)) else (if ((rd_T94 x0 x13).f1) = 0 then (if (x11 ++ t680).size + 7 ≤ 9223372036854775807 then (if ((x11 ++ t680) ++ (⟨#[35, 105, 102, 100, 101, 102, 32]⟩ : ByteArray)).size + x3.size ≤ 9223372036854775807 then (if (((x11 ++ t680) ++ (⟨#[35, 105, 102, 100, 101, 102, 32]⟩ : ByteArray)) ++ x3).size + 1 ≤ 9223372036854775807 then (if ((((x11 ++ t680) ++ (⟨#[35, 105, 102, 100, 101, 102, 32]⟩ : ByteArray)) ++ x3) ++ (⟨#[10]⟩ : ByteArray)).size + t684.size ≤ 9223372036854775807 then (if (((((x11 ++ t680) ++ (⟨#[35, 105, 102, 100, 101, 102, 32]⟩ : ByteArray)) ++ x3) ++ (⟨#[10]⟩ : ByteArray)) ++ t684).size + 10 ≤ 9223372036854775807 then (if ((((((x11 ++ t680) ++ (⟨#[35, 105, 102, 100, 101, 102, 32]⟩ : ByteArray)) ++ x3) ++ (⟨#[10]⟩ : ByteArray)) ++ t684) ++ (⟨#[35, 101, 110, 100, 105, 102, 32, 47, 42, 32]⟩ : ByteArray)).size + x3.size ≤ 9223372036854775807 then (if (((((((x11 ++ t680) ++ (⟨#[35, 105, 102, 100, 101, 102, 32]⟩ : ByteArray)) ++ x3) ++ (⟨#[10]⟩ : ByteArray)) ++ t684) ++ (⟨#[35, 101, 110, 100, 105, 102, 32, 47, 42, 32]⟩ : ByteArray)) ++ x3).size + 4 ≤ 9223372036854775807 then (redlineref17_Ifdef.l0 k x0 x1 x2 x3 ((((((((x11 ++ t680) ++ (⟨#[35, 105, 102, 100, 101, 102, 32]⟩ : ByteArray)) ++ x3) ++ (⟨#[10]⟩ : ByteArray)) ++ t684) ++ (⟨#[35, 101, 110, 100, 105, 102, 32, 47, 42, 32]⟩ : ByteArray)) ++ x3) ++ (⟨#[32, 42, 47, 10]⟩ : ByteArray)) (wrap64 (((rd_T94 x0 x13).f0) + ((rd_T94 x0 x13).f1))) (wrap64 (x13 + 1))) else (none)) else (none)) else (none)) else (none)) else (none)) else (none)) else (none)) else (if (x11 ++ t680).size + 8 ≤ 9223372036854775807 then (if ((x11 ++ t680) ++ (⟨#[35, 105, 102, 110, 100, 101, 102, 32]⟩ : ByteArray)).size + x3.size ≤ 9223372036854775807 then (if (((x11 ++ t680) ++ (⟨#[35, 105, 102, 110, 100, 101, 102, 32]⟩ : ByteArray)) ++ x3).size + 1 ≤ 9223372036854775807 then (if ((((x11 ++ t680) ++ (⟨#[35, 105, 102, 110, 100, 101, 102, 32]⟩ : ByteArray)) ++ x3) ++ (⟨#[10]⟩ : ByteArray)).size + t682.size ≤ 9223372036854775807 then (if (((((x11 ++ t680) ++ (⟨#[35, 105, 102, 110, 100, 101, 102, 32]⟩ : ByteArray)) ++ x3) ++ (⟨#[10]⟩ : ByteArray)) ++ t682).size + 9 ≤ 9223372036854775807 then (if ((((((x11 ++ t680) ++ (⟨#[35, 105, 102, 110, 100, 101, 102, 32]⟩ : ByteArray)) ++ x3) ++ (⟨#[10]⟩ : ByteArray)) ++ t682) ++ (⟨#[35, 101, 108, 115, 101, 32, 47, 42, 32]⟩ : ByteArray)).size + x3.size ≤ 9223372036854775807 then (if (((((((x11 ++ t680) ++ (⟨#[35, 105, 102, 110, 100, 101, 102, 32]⟩ : ByteArray)) ++ x3) ++ (⟨#[10]⟩ : ByteArray)) ++ t682) ++ (⟨#[35, 101, 108, 115, 101, 32, 47, 42, 32]⟩ : ByteArray)) ++ x3).size + 4 ≤ 9223372036854775807 then (if ((((((((x11 ++ t680) ++ (⟨#[35, 105, 102, 110, 100, 101, 102, 32]⟩ : ByteArray)) ++ x3) ++ (⟨#[10]⟩ : ByteArray)) ++ t682) ++ (⟨#[35, 101, 108, 115, 101, 32, 47, 42, 32]⟩ : ByteArray)) ++ x3) ++ (⟨#[32, 42, 47, 10]⟩ : ByteArray)).size + t684.size ≤ 9223372036854775807 then (if (((((((((x11 ++ t680) ++ (⟨#[35, 105, 102, 110, 100, 101, 102, 32]⟩ : ByteArray)) ++ x3) ++ (⟨#[10]⟩ : ByteArray)) ++ t682) ++ (⟨#[35, 101, 108, 115, 101, 32, 47, 42, 32]⟩ : ByteArray)) ++ x3) ++ (⟨#[32, 42, 47, 10]⟩ : ByteArray)) ++ t684).size + 10 ≤ 9223372036854775807 then (if ((((((((((x11 ++ t680) ++ (⟨#[35, 105, 102, 110, 100, 101, 102, 32]⟩ : ByteArray)) ++ x3) ++ (⟨#[10]⟩ : ByteArray)) ++ t682) ++ (⟨#[35, 101, 108, 115, 101, 32, 47, 42, 32]⟩ : ByteArray)) ++ x3) ++ (⟨#[32, 42, 47, 10]⟩ : ByteArray)) ++ t684) ++ (⟨#[35, 101, 110, 100, 105, 102, 32, 47, 42, 32]⟩ : ByteArray)).size + x3.size ≤ 9223372036854775807 then (if (((((((((((x11 ++ t680) ++ (⟨#[35, 105, 102, 110, 100, 101, 102, 32]⟩ : ByteArray)) ++ x3) ++ (⟨#[10]⟩ : ByteArray)) ++ t682) ++ (⟨#[35, 101, 108, 115, 101, 32, 47, 42, 32]⟩ : ByteArray)) ++ x3) ++ (⟨#[32, 42, 47, 10]⟩ : ByteArray)) ++ t684) ++ (⟨#[35, 101, 110, 100, 105, 102, 32, 47, 42, 32]⟩ : ByteArray)) ++ x3).size + 4 ≤ 9223372036854775807 then (redlineref17_Ifdef.l0 k x0 x1 x2 x3 ((((((((((((x11 ++ t680) ++ (⟨#[35, 105, 102, 110, 100, 101, 102, 32]⟩ : ByteArray)) ++ x3) ++ (⟨#[10]⟩ : ByteArray)) ++ t682) ++ (⟨#[35, 101, 108, 115, 101, 32, 47, 42, 32]⟩ : ByteArray)) ++ x3) ++ (⟨#[32, 42, 47, 10]⟩ : ByteArray)) ++ t684) ++ (⟨#[35, 101, 110, 100, 105, 102, 32, 47, 42, 32]⟩ : ByteArray)) ++ x3) ++ (⟨#[32, 42, 47, 10]⟩ : ByteArray)) (wrap64 (((rd_T94 x0 x13).f0) + ((rd_T94 x0 x13).f1))) (wrap64 (x13 + 1))) else (none)) else (none)) else (none)) else (none)) else (none)) else (none)) else (none)) else (none)) else (none)) else (none)) else (none))))) else (none)) else (none)) else (none))) else (none)) else (none)) else (none)) else (none))) else (none)) else (none)) else (none)) else (none)) else (if 0 ≤ x12 then (if x12 ≤ (x1.length : Int) then ((redlineref17_whole.f k (x1.drop (x12 : Int).toNat)).bind fun t676 => (if x11.size + t676.size ≤ 9223372036854775807 then (some (x11 ++ t676, 0)) else (none))) else (none)) else (none))
def redlineref17_Ifdef.f (k : Nat) (l0 : List (S94)) (l1 : List ByteArray) (l2 : List ByteArray) (a3 : ByteArray) : Option (ByteArray × Int) := (redlineref05_Check.f k l0 (l1.length : Int) (l2.length : Int)).bind fun t673 => (if t673 = 0 then ((redlineref17_Name.f k a3).bind fun t674 => (if t674 = true then (redlineref17_Ifdef.l0 k l0 l1 l2 a3 (⟨#[]⟩ : ByteArray) 0 0) else (some ((⟨#[]⟩ : ByteArray), 253)))) else (some ((⟨#[]⟩ : ByteArray), t673)))
set_option maxHeartbeats 8000000 in
set_option maxRecDepth 100000 in
theorem redlineref17_Ifdef.calls (k : Nat) (A0 : Option Addr) (c0 : Nat) (l0 : List (S94)) (A1 : Option Addr) (c1 : Nat) (l1 : List ByteArray) (A2 : Option Addr) (c2 : Nat) (l2 : List ByteArray) (a3 : ByteArray) (r1 : ByteArray) (r2 : Int) (w : World) (hr0 : Kd.C k94 w A0 l0.length l0) (hc0 : l0.length ≤ c0) (hr1 : Kd.C Kd.string w A1 l1.length l1) (hc1 : l1.length ≤ c1) (hr2 : Kd.C Kd.string w A2 l2.length l2) (hc2 : l2.length ≤ c2) (h : redlineref17_Ifdef.f k l0 l1 l2 a3 = some (r1, r2)) :
    Calls Try.prog 23 #[.slice A0 l0.length c0, .slice A1 l1.length c1, .slice A2 l2.length c2, .string a3] w fun e w' => e = .returned (.tuple #[.string r1, .int .i64 r2]) ∧ Below w.heap.size w w' := by
  have hu94 := Try.underlying94
  have HR0 := Aside0.mk hr0
  have HC0 := Aside0.mk hc0
  clear hr0 hc0
  have HR1 := Aside0.mk hr1
  have HC1 := Aside0.mk hc1
  clear hr1 hc1
  have HR2 := Aside0.mk hr2
  have HC2 := Aside0.mk hc2
  clear hr2 hc2
  have HB := Aside0.mk (Below.refl w.heap.size w)
  have H : ((redlineref05_Check.f k l0 (l1.length : Int) (l2.length : Int)).bind fun t673 => (if t673 = 0 then ((redlineref17_Name.f k a3).bind fun t674 => (if t674 = true then (redlineref17_Ifdef.l0 k l0 l1 l2 a3 (⟨#[]⟩ : ByteArray) 0 0) else (some ((⟨#[]⟩ : ByteArray), 253)))) else (some ((⟨#[]⟩ : ByteArray), t673)))) = some (r1, r2) := h
  clear h
  replace H := Option.bind_eq_some_iff.mp H
  obtain ⟨t673, A50, H⟩ := H
  replace H : (if t673 = 0 then ((redlineref17_Name.f k a3).bind fun t674 => (if t674 = true then (redlineref17_Ifdef.l0 k l0 l1 l2 a3 (⟨#[]⟩ : ByteArray) 0 0) else (some ((⟨#[]⟩ : ByteArray), 253)))) else (some ((⟨#[]⟩ : ByteArray), t673))) = some (r1, r2) := H
  have A5 := Aside0.mk A50
  clear A50
  by_cases c6 : t673 = 0
  · rw [if_pos c6] at H
    have c6b0 : (t673 == 0) = true := beq_iff_eq.mpr c6
    have c6b1 : (t673 != 0) = false := bne_eq_false_iff_eq.mpr c6
    clear c6
    replace H := Option.bind_eq_some_iff.mp H
    obtain ⟨t674, A70, H⟩ := H
    replace H : (if t674 = true then (redlineref17_Ifdef.l0 k l0 l1 l2 a3 (⟨#[]⟩ : ByteArray) 0 0) else (some ((⟨#[]⟩ : ByteArray), 253))) = some (r1, r2) := H
    have A7 := Aside0.mk A70
    clear A70
    by_cases c8 : t674 = true
    · subst c8
      have H1 : (redlineref17_Ifdef.l0 k l0 l1 l2 a3 (⟨#[]⟩ : ByteArray) 0 0) = some (r1, r2) := by rw [if_pos rfl] at H; exact H
      clear H
      have H := H1
      clear H1
      have H' := Aside0.mk H
      clear H
      go_enter Try.func23, Try.ntmps23
      go_wp2_with (first | (go_at_call 58; (with_reducible refine (redlineref05_Check.calls k _ _ l0 (l1.length : Int) (l2.length : Int) t673 _ ?side1 ?side2 A5.out).mono ?_); (case side1 => repeat (first | exact HR0.out | (with_reducible refine Kd.C_alloc ?_ _) | (with_reducible refine Kd.C_drewN ?_ _) | (with_reducible refine Kd.C_drew ?_))); (case side2 => exact HC0.out); rintro e w9 ⟨rfl, hb⟩; have n0_ := Aside0.mk (below_step (by repeat (first | (with_reducible first | exact HB.out | apply below_alloc | apply pw_below_drewN | apply below_drew1) | exact HB.out)) hb); clear HB; have HB := n0_; clear n0_; (try clear hb); (try clear hb2); (try clear hk); (try clear hi)) | (go_at_call 59; (with_reducible refine (redlineref17_Name.calls k a3 true _ A7.out).mono ?_); rintro e w' ⟨rfl, ⟨nd, rfl⟩⟩; (try first | exact ⟨rfl, _, World.drewN_drewN _ _ _⟩ | exact ⟨rfl, _, Eq.trans (World.drewN_drewN _ _ _) (congrArg (World.drewN _) (Nat.add_assoc _ _ _))⟩)))
      repeat (go_quiet (first | (go_at_call 58; (with_reducible refine (redlineref05_Check.calls k _ _ l0 (l1.length : Int) (l2.length : Int) t673 _ ?side1 ?side2 A5.out).mono ?_); (case side1 => repeat (first | exact HR0.out | (with_reducible refine Kd.C_alloc ?_ _) | (with_reducible refine Kd.C_drewN ?_ _) | (with_reducible refine Kd.C_drew ?_))); (case side2 => exact HC0.out); rintro e w9 ⟨rfl, hb⟩; have n0_ := Aside0.mk (below_step (by repeat (first | (with_reducible first | exact HB.out | apply below_alloc | apply pw_below_drewN | apply below_drew1) | exact HB.out)) hb); clear HB; have HB := n0_; clear n0_; (try clear hb); (try clear hb2); (try clear hk); (try clear hi)) | (go_at_call 59; (with_reducible refine (redlineref17_Name.calls k a3 true _ A7.out).mono ?_); rintro e w' ⟨rfl, ⟨nd, rfl⟩⟩; (try first | exact ⟨rfl, _, World.drewN_drewN _ _ _⟩ | exact ⟨rfl, _, Eq.trans (World.drewN_drewN _ _ _) (congrArg (World.drewN _) (Nat.add_assoc _ _ _))⟩))); try go_wp2_with (first | (go_at_call 58; (with_reducible refine (redlineref05_Check.calls k _ _ l0 (l1.length : Int) (l2.length : Int) t673 _ ?side1 ?side2 A5.out).mono ?_); (case side1 => repeat (first | exact HR0.out | (with_reducible refine Kd.C_alloc ?_ _) | (with_reducible refine Kd.C_drewN ?_ _) | (with_reducible refine Kd.C_drew ?_))); (case side2 => exact HC0.out); rintro e w9 ⟨rfl, hb⟩; have n0_ := Aside0.mk (below_step (by repeat (first | (with_reducible first | exact HB.out | apply below_alloc | apply pw_below_drewN | apply below_drew1) | exact HB.out)) hb); clear HB; have HB := n0_; clear n0_; (try clear hb); (try clear hb2); (try clear hk); (try clear hi)) | (go_at_call 59; (with_reducible refine (redlineref17_Name.calls k a3 true _ A7.out).mono ?_); rintro e w' ⟨rfl, ⟨nd, rfl⟩⟩; (try first | exact ⟨rfl, _, World.drewN_drewN _ _ _⟩ | exact ⟨rfl, _, Eq.trans (World.drewN_drewN _ _ _) (congrArg (World.drewN _) (Nat.add_assoc _ _ _))⟩))))
      go_loopg [11, 12, 13] k (fun kq v11 v12 v13 w' => ∃ (x11_1 : ByteArray) (x12_1 : Int) (x13_1 : Int), v11 = .string x11_1 ∧ v12 = .int .i64 x12_1 ∧ v13 = .int .i64 x13_1 ∧ Aside0 (redlineref17_Ifdef.l0 kq l0 l1 l2 a3 x11_1 x12_1 x13_1 = some (r1, r2)) ∧ Aside0 (kq ≤ k) ∧ Aside0 (Below w.heap.size w w'))
      case atStart => exact ⟨((⟨#[]⟩ : ByteArray)), (0), (0), (by first | rfl | (simp; done) | (simp [*]; done)), (by first | rfl | (simp; done) | (simp [*]; done)), (by first | rfl | (simp; done) | (simp [*]; done)), H', ⟨Nat.le_refl _⟩, ⟨by repeat (first | (with_reducible first | exact HB.out | apply below_alloc | apply pw_below_drewN | apply below_drew1) | exact HB.out)⟩⟩
      case round =>
        clear H'
        try clear c1
        try clear c2
        try clear p2
        try clear c6
        try clear c6b0
        try clear c6b1
        try clear c8
        obtain ⟨x11_1, x12_1, x13_1, rfl, rfl, rfl, HA, HK1, HB⟩ := hrel
        cases gk with
        | zero => exact absurd HA.out (by simp [redlineref17_Ifdef.l0])
        | succ k1 =>
          have H := HA.out
          clear HA
          simp only [redlineref17_Ifdef.l0] at H
          by_cases c10 : x13_1 < (l0.length : Int)
          · rw [if_pos c10] at H
            have c10b0 : decide (x13_1 < (l0.length : Int)) = true := decide_eq_true c10
            clear c10
            by_cases c11 : 0 ≤ x13_1
            · rw [if_pos c11] at H
              have c11b0 : decide (0 ≤ x13_1) = true := decide_eq_true c11
              clear c11
              by_cases c12 : 0 ≤ x12_1
              · rw [if_pos c12] at H
                have c12b0 := eq_true c12
                have c12b1 : decide (0 ≤ x12_1) = true := decide_eq_true c12
                clear c12
                by_cases c13 : x12_1 ≤ ((rd_T94 l0 x13_1).f0)
                · rw [if_pos c13] at H
                  have c13b0 := eq_true c13
                  have c13b1 : decide (x12_1 ≤ ((rd_T94 l0 x13_1).f0)) = true := decide_eq_true c13
                  clear c13
                  by_cases c14 : ((rd_T94 l0 x13_1).f0) ≤ (l1.length : Int)
                  · rw [if_pos c14] at H
                    have c14b0 := eq_true c14
                    have c14b1 : decide (((rd_T94 l0 x13_1).f0) ≤ (l1.length : Int)) = true := decide_eq_true c14
                    clear c14
                    replace H := Option.bind_eq_some_iff.mp H
                    obtain ⟨t680, A150, H⟩ := H
                    replace H : (if x11_1.size + t680.size ≤ 9223372036854775807 then (if 0 ≤ ((rd_T94 l0 x13_1).f0) then (if ((rd_T94 l0 x13_1).f0) ≤ (wrap64 (((rd_T94 l0 x13_1).f0) + ((rd_T94 l0 x13_1).f1))) then (if (wrap64 (((rd_T94 l0 x13_1).f0) + ((rd_T94 l0 x13_1).f1))) ≤ (l1.length : Int) then ((redlineref17_whole.f k1 ((l1.take ((wrap64 (((rd_T94 l0 x13_1).f0) + ((rd_T94 l0 x13_1).f1))) : Int).toNat).drop (((rd_T94 l0 x13_1).f0) : Int).toNat)).bind fun t682 => (if 0 ≤ ((rd_T94 l0 x13_1).f2) then (if ((rd_T94 l0 x13_1).f2) ≤ (wrap64 (((rd_T94 l0 x13_1).f2) + ((rd_T94 l0 x13_1).f3))) then (if (wrap64 (((rd_T94 l0 x13_1).f2) + ((rd_T94 l0 x13_1).f3))) ≤ (l2.length : Int) then ((redlineref17_whole.f k1 ((l2.take ((wrap64 (((rd_T94 l0 x13_1).f2) + ((rd_T94 l0 x13_1).f3))) : Int).toNat).drop (((rd_T94 l0 x13_1).f2) : Int).toNat)).bind fun t684 => (if ((rd_T94 l0 x13_1).f3) = 0 then (if (x11_1 ++ t680).size + 8 ≤ 9223372036854775807 then (if ((x11_1 ++ t680) ++ (⟨#[35, 105, 102, 110, 100, 101, 102, 32]⟩ : ByteArray)).size + a3.size ≤ 9223372036854775807 then (if (((x11_1 ++ t680) ++ (⟨#[35, 105, 102, 110, 100, 101, 102, 32]⟩ : ByteArray)) ++ a3).size + 1 ≤ 9223372036854775807 then (if ((((x11_1 ++ t680) ++ (⟨#[35, 105, 102, 110, 100, 101, 102, 32]⟩ : ByteArray)) ++ a3) ++ (⟨#[10]⟩ : ByteArray)).size + t682.size ≤ 9223372036854775807 then (if (((((x11_1 ++ t680) ++ (⟨#[35, 105, 102, 110, 100, 101, 102, 32]⟩ : ByteArray)) ++ a3) ++ (⟨#[10]⟩ : ByteArray)) ++ t682).size + 12 ≤ 9223372036854775807 then (if ((((((x11_1 ++ t680) ++ (⟨#[35, 105, 102, 110, 100, 101, 102, 32]⟩ : ByteArray)) ++ a3) ++ (⟨#[10]⟩ : ByteArray)) ++ t682) ++ (⟨#[35, 101, 110, 100, 105, 102, 32, 47, 42, 32, 33, 32]⟩ : ByteArray)).size + a3.size ≤ 9223372036854775807 then (if (((((((x11_1 ++ t680) ++ (⟨#[35, 105, 102, 110, 100, 101, 102, 32]⟩ : ByteArray)) ++ a3) ++ (⟨#[10]⟩ : ByteArray)) ++ t682) ++ (⟨#[35, 101, 110, 100, 105, 102, 32, 47, 42, 32, 33, 32]⟩ : ByteArray)) ++ a3).size + 4 ≤ 9223372036854775807 then (redlineref17_Ifdef.l0 k1 l0 l1 l2 a3 ((((((((x11_1 ++ t680) ++ (⟨#[35, 105, 102, 110, 100, 101, 102, 32]⟩ : ByteArray)) ++ a3) ++ (⟨#[10]⟩ : ByteArray)) ++ t682) ++ (⟨#[35, 101, 110, 100, 105, 102, 32, 47, 42, 32, 33, 32]⟩ : ByteArray)) ++ a3) ++ (⟨#[32, 42, 47, 10]⟩ : ByteArray)) (wrap64 (((rd_T94 l0 x13_1).f0) + ((rd_T94 l0 x13_1).f1))) (wrap64 (x13_1 + 1))) else (none)) else (none)) else (none)) else (none)) else (none)) else (none)) else (none)) else (if ((rd_T94 l0 x13_1).f1) = 0 then (if (x11_1 ++ t680).size + 7 ≤ 9223372036854775807 then (if ((x11_1 ++ t680) ++ (⟨#[35, 105, 102, 100, 101, 102, 32]⟩ : ByteArray)).size + a3.size ≤ 9223372036854775807 then (if (((x11_1 ++ t680) ++ (⟨#[35, 105, 102, 100, 101, 102, 32]⟩ : ByteArray)) ++ a3).size + 1 ≤ 9223372036854775807 then (if ((((x11_1 ++ t680) ++ (⟨#[35, 105, 102, 100, 101, 102, 32]⟩ : ByteArray)) ++ a3) ++ (⟨#[10]⟩ : ByteArray)).size + t684.size ≤ 9223372036854775807 then (if (((((x11_1 ++ t680) ++ (⟨#[35, 105, 102, 100, 101, 102, 32]⟩ : ByteArray)) ++ a3) ++ (⟨#[10]⟩ : ByteArray)) ++ t684).size + 10 ≤ 9223372036854775807 then (if ((((((x11_1 ++ t680) ++ (⟨#[35, 105, 102, 100, 101, 102, 32]⟩ : ByteArray)) ++ a3) ++ (⟨#[10]⟩ : ByteArray)) ++ t684) ++ (⟨#[35, 101, 110, 100, 105, 102, 32, 47, 42, 32]⟩ : ByteArray)).size + a3.size ≤ 9223372036854775807 then (if (((((((x11_1 ++ t680) ++ (⟨#[35, 105, 102, 100, 101, 102, 32]⟩ : ByteArray)) ++ a3) ++ (⟨#[10]⟩ : ByteArray)) ++ t684) ++ (⟨#[35, 101, 110, 100, 105, 102, 32, 47, 42, 32]⟩ : ByteArray)) ++ a3).size + 4 ≤ 9223372036854775807 then (redlineref17_Ifdef.l0 k1 l0 l1 l2 a3 ((((((((x11_1 ++ t680) ++ (⟨#[35, 105, 102, 100, 101, 102, 32]⟩ : ByteArray)) ++ a3) ++ (⟨#[10]⟩ : ByteArray)) ++ t684) ++ (⟨#[35, 101, 110, 100, 105, 102, 32, 47, 42, 32]⟩ : ByteArray)) ++ a3) ++ (⟨#[32, 42, 47, 10]⟩ : ByteArray)) (wrap64 (((rd_T94 l0 x13_1).f0) + ((rd_T94 l0 x13_1).f1))) (wrap64 (x13_1 + 1))) else (none)) else (none)) else (none)) else (none)) else (none)) else (none)) else (none)) else (if (x11_1 ++ t680).size + 8 ≤ 9223372036854775807 then (if ((x11_1 ++ t680) ++ (⟨#[35, 105, 102, 110, 100, 101, 102, 32]⟩ : ByteArray)).size + a3.size ≤ 9223372036854775807 then (if (((x11_1 ++ t680) ++ (⟨#[35, 105, 102, 110, 100, 101, 102, 32]⟩ : ByteArray)) ++ a3).size + 1 ≤ 9223372036854775807 then (if ((((x11_1 ++ t680) ++ (⟨#[35, 105, 102, 110, 100, 101, 102, 32]⟩ : ByteArray)) ++ a3) ++ (⟨#[10]⟩ : ByteArray)).size + t682.size ≤ 9223372036854775807 then (if (((((x11_1 ++ t680) ++ (⟨#[35, 105, 102, 110, 100, 101, 102, 32]⟩ : ByteArray)) ++ a3) ++ (⟨#[10]⟩ : ByteArray)) ++ t682).size + 9 ≤ 9223372036854775807 then (if ((((((x11_1 ++ t680) ++ (⟨#[35, 105, 102, 110, 100, 101, 102, 32]⟩ : ByteArray)) ++ a3) ++ (⟨#[10]⟩ : ByteArray)) ++ t682) ++ (⟨#[35, 101, 108, 115, 101, 32, 47, 42, 32]⟩ : ByteArray)).size + a3.size ≤ 9223372036854775807 then (if (((((((x11_1 ++ t680) ++ (⟨#[35, 105, 102, 110, 100, 101, 102, 32]⟩ : ByteArray)) ++ a3) ++ (⟨#[10]⟩ : ByteArray)) ++ t682) ++ (⟨#[35, 101, 108, 115, 101, 32, 47, 42, 32]⟩ : ByteArray)) ++ a3).size + 4 ≤ 9223372036854775807 then (if ((((((((x11_1 ++ t680) ++ (⟨#[35, 105, 102, 110, 100, 101, 102, 32]⟩ : ByteArray)) ++ a3) ++ (⟨#[10]⟩ : ByteArray)) ++ t682) ++ (⟨#[35, 101, 108, 115, 101, 32, 47, 42, 32]⟩ : ByteArray)) ++ a3) ++ (⟨#[32, 42, 47, 10]⟩ : ByteArray)).size + t684.size ≤ 9223372036854775807 then (if (((((((((x11_1 ++ t680) ++ (⟨#[35, 105, 102, 110, 100, 101, 102, 32]⟩ : ByteArray)) ++ a3) ++ (⟨#[10]⟩ : ByteArray)) ++ t682) ++ (⟨#[35, 101, 108, 115, 101, 32, 47, 42, 32]⟩ : ByteArray)) ++ a3) ++ (⟨#[32, 42, 47, 10]⟩ : ByteArray)) ++ t684).size + 10 ≤ 9223372036854775807 then (if ((((((((((x11_1 ++ t680) ++ (⟨#[35, 105, 102, 110, 100, 101, 102, 32]⟩ : ByteArray)) ++ a3) ++ (⟨#[10]⟩ : ByteArray)) ++ t682) ++ (⟨#[35, 101, 108, 115, 101, 32, 47, 42, 32]⟩ : ByteArray)) ++ a3) ++ (⟨#[32, 42, 47, 10]⟩ : ByteArray)) ++ t684) ++ (⟨#[35, 101, 110, 100, 105, 102, 32, 47, 42, 32]⟩ : ByteArray)).size + a3.size ≤ 9223372036854775807 then (if (((((((((((x11_1 ++ t680) ++ (⟨#[35, 105, 102, 110, 100, 101, 102, 32]⟩ : ByteArray)) ++ a3) ++ (⟨#[10]⟩ : ByteArray)) ++ t682) ++ (⟨#[35, 101, 108, 115, 101, 32, 47, 42, 32]⟩ : ByteArray)) ++ a3) ++ (⟨#[32, 42, 47, 10]⟩ : ByteArray)) ++ t684) ++ (⟨#[35, 101, 110, 100, 105, 102, 32, 47, 42, 32]⟩ : ByteArray)) ++ a3).size + 4 ≤ 9223372036854775807 then (redlineref17_Ifdef.l0 k1 l0 l1 l2 a3 ((((((((((((x11_1 ++ t680) ++ (⟨#[35, 105, 102, 110, 100, 101, 102, 32]⟩ : ByteArray)) ++ a3) ++ (⟨#[10]⟩ : ByteArray)) ++ t682) ++ (⟨#[35, 101, 108, 115, 101, 32, 47, 42, 32]⟩ : ByteArray)) ++ a3) ++ (⟨#[32, 42, 47, 10]⟩ : ByteArray)) ++ t684) ++ (⟨#[35, 101, 110, 100, 105, 102, 32, 47, 42, 32]⟩ : ByteArray)) ++ a3) ++ (⟨#[32, 42, 47, 10]⟩ : ByteArray)) (wrap64 (((rd_T94 l0 x13_1).f0) + ((rd_T94 l0 x13_1).f1))) (wrap64 (x13_1 + 1))) else (none)) else (none)) else (none)) else (none)) else (none)) else (none)) else (none)) else (none)) else (none)) else (none)) else (none))))) else (none)) else (none)) else (none))) else (none)) else (none)) else (none)) else (none)) = some (r1, r2) := H
                    have A15 := Aside0.mk A150
                    clear A150
                    by_cases c16 : x11_1.size + t680.size ≤ 9223372036854775807
                    · rw [if_pos c16] at H
                      have c16b0 := eq_true c16
                      have c16b1 : decide (x11_1.size + t680.size ≤ 9223372036854775807) = true := decide_eq_true c16
                      try have c16b2 : (9223372036854775807 < x11_1.size + t680.size) = False := eq_false (Nat.not_lt.2 c16)
                      by_cases c17 : 0 ≤ ((rd_T94 l0 x13_1).f0)
                      · rw [if_pos c17] at H
                        have c17b0 := eq_true c17
                        have c17b1 : decide (0 ≤ ((rd_T94 l0 x13_1).f0)) = true := decide_eq_true c17
                        clear c17
                        by_cases c18 : ((rd_T94 l0 x13_1).f0) ≤ (wrap64 (((rd_T94 l0 x13_1).f0) + ((rd_T94 l0 x13_1).f1)))
                        · rw [if_pos c18] at H
                          have c18b0 := eq_true c18
                          have c18b1 : decide (((rd_T94 l0 x13_1).f0) ≤ (wrap64 (((rd_T94 l0 x13_1).f0) + ((rd_T94 l0 x13_1).f1)))) = true := decide_eq_true c18
                          by_cases c19 : (wrap64 (((rd_T94 l0 x13_1).f0) + ((rd_T94 l0 x13_1).f1))) ≤ (l1.length : Int)
                          · rw [if_pos c19] at H
                            have c19b0 := eq_true c19
                            have c19b1 : decide ((wrap64 (((rd_T94 l0 x13_1).f0) + ((rd_T94 l0 x13_1).f1))) ≤ (l1.length : Int)) = true := decide_eq_true c19
                            replace H := Option.bind_eq_some_iff.mp H
                            obtain ⟨t682, A200, H⟩ := H
                            replace H : (if 0 ≤ ((rd_T94 l0 x13_1).f2) then (if ((rd_T94 l0 x13_1).f2) ≤ (wrap64 (((rd_T94 l0 x13_1).f2) + ((rd_T94 l0 x13_1).f3))) then (if (wrap64 (((rd_T94 l0 x13_1).f2) + ((rd_T94 l0 x13_1).f3))) ≤ (l2.length : Int) then ((redlineref17_whole.f k1 ((l2.take ((wrap64 (((rd_T94 l0 x13_1).f2) + ((rd_T94 l0 x13_1).f3))) : Int).toNat).drop (((rd_T94 l0 x13_1).f2) : Int).toNat)).bind fun t684 => (if ((rd_T94 l0 x13_1).f3) = 0 then (if (x11_1 ++ t680).size + 8 ≤ 9223372036854775807 then (if ((x11_1 ++ t680) ++ (⟨#[35, 105, 102, 110, 100, 101, 102, 32]⟩ : ByteArray)).size + a3.size ≤ 9223372036854775807 then (if (((x11_1 ++ t680) ++ (⟨#[35, 105, 102, 110, 100, 101, 102, 32]⟩ : ByteArray)) ++ a3).size + 1 ≤ 9223372036854775807 then (if ((((x11_1 ++ t680) ++ (⟨#[35, 105, 102, 110, 100, 101, 102, 32]⟩ : ByteArray)) ++ a3) ++ (⟨#[10]⟩ : ByteArray)).size + t682.size ≤ 9223372036854775807 then (if (((((x11_1 ++ t680) ++ (⟨#[35, 105, 102, 110, 100, 101, 102, 32]⟩ : ByteArray)) ++ a3) ++ (⟨#[10]⟩ : ByteArray)) ++ t682).size + 12 ≤ 9223372036854775807 then (if ((((((x11_1 ++ t680) ++ (⟨#[35, 105, 102, 110, 100, 101, 102, 32]⟩ : ByteArray)) ++ a3) ++ (⟨#[10]⟩ : ByteArray)) ++ t682) ++ (⟨#[35, 101, 110, 100, 105, 102, 32, 47, 42, 32, 33, 32]⟩ : ByteArray)).size + a3.size ≤ 9223372036854775807 then (if (((((((x11_1 ++ t680) ++ (⟨#[35, 105, 102, 110, 100, 101, 102, 32]⟩ : ByteArray)) ++ a3) ++ (⟨#[10]⟩ : ByteArray)) ++ t682) ++ (⟨#[35, 101, 110, 100, 105, 102, 32, 47, 42, 32, 33, 32]⟩ : ByteArray)) ++ a3).size + 4 ≤ 9223372036854775807 then (redlineref17_Ifdef.l0 k1 l0 l1 l2 a3 ((((((((x11_1 ++ t680) ++ (⟨#[35, 105, 102, 110, 100, 101, 102, 32]⟩ : ByteArray)) ++ a3) ++ (⟨#[10]⟩ : ByteArray)) ++ t682) ++ (⟨#[35, 101, 110, 100, 105, 102, 32, 47, 42, 32, 33, 32]⟩ : ByteArray)) ++ a3) ++ (⟨#[32, 42, 47, 10]⟩ : ByteArray)) (wrap64 (((rd_T94 l0 x13_1).f0) + ((rd_T94 l0 x13_1).f1))) (wrap64 (x13_1 + 1))) else (none)) else (none)) else (none)) else (none)) else (none)) else (none)) else (none)) else (if ((rd_T94 l0 x13_1).f1) = 0 then (if (x11_1 ++ t680).size + 7 ≤ 9223372036854775807 then (if ((x11_1 ++ t680) ++ (⟨#[35, 105, 102, 100, 101, 102, 32]⟩ : ByteArray)).size + a3.size ≤ 9223372036854775807 then (if (((x11_1 ++ t680) ++ (⟨#[35, 105, 102, 100, 101, 102, 32]⟩ : ByteArray)) ++ a3).size + 1 ≤ 9223372036854775807 then (if ((((x11_1 ++ t680) ++ (⟨#[35, 105, 102, 100, 101, 102, 32]⟩ : ByteArray)) ++ a3) ++ (⟨#[10]⟩ : ByteArray)).size + t684.size ≤ 9223372036854775807 then (if (((((x11_1 ++ t680) ++ (⟨#[35, 105, 102, 100, 101, 102, 32]⟩ : ByteArray)) ++ a3) ++ (⟨#[10]⟩ : ByteArray)) ++ t684).size + 10 ≤ 9223372036854775807 then (if ((((((x11_1 ++ t680) ++ (⟨#[35, 105, 102, 100, 101, 102, 32]⟩ : ByteArray)) ++ a3) ++ (⟨#[10]⟩ : ByteArray)) ++ t684) ++ (⟨#[35, 101, 110, 100, 105, 102, 32, 47, 42, 32]⟩ : ByteArray)).size + a3.size ≤ 9223372036854775807 then (if (((((((x11_1 ++ t680) ++ (⟨#[35, 105, 102, 100, 101, 102, 32]⟩ : ByteArray)) ++ a3) ++ (⟨#[10]⟩ : ByteArray)) ++ t684) ++ (⟨#[35, 101, 110, 100, 105, 102, 32, 47, 42, 32]⟩ : ByteArray)) ++ a3).size + 4 ≤ 9223372036854775807 then (redlineref17_Ifdef.l0 k1 l0 l1 l2 a3 ((((((((x11_1 ++ t680) ++ (⟨#[35, 105, 102, 100, 101, 102, 32]⟩ : ByteArray)) ++ a3) ++ (⟨#[10]⟩ : ByteArray)) ++ t684) ++ (⟨#[35, 101, 110, 100, 105, 102, 32, 47, 42, 32]⟩ : ByteArray)) ++ a3) ++ (⟨#[32, 42, 47, 10]⟩ : ByteArray)) (wrap64 (((rd_T94 l0 x13_1).f0) + ((rd_T94 l0 x13_1).f1))) (wrap64 (x13_1 + 1))) else (none)) else (none)) else (none)) else (none)) else (none)) else (none)) else (none)) else (if (x11_1 ++ t680).size + 8 ≤ 9223372036854775807 then (if ((x11_1 ++ t680) ++ (⟨#[35, 105, 102, 110, 100, 101, 102, 32]⟩ : ByteArray)).size + a3.size ≤ 9223372036854775807 then (if (((x11_1 ++ t680) ++ (⟨#[35, 105, 102, 110, 100, 101, 102, 32]⟩ : ByteArray)) ++ a3).size + 1 ≤ 9223372036854775807 then (if ((((x11_1 ++ t680) ++ (⟨#[35, 105, 102, 110, 100, 101, 102, 32]⟩ : ByteArray)) ++ a3) ++ (⟨#[10]⟩ : ByteArray)).size + t682.size ≤ 9223372036854775807 then (if (((((x11_1 ++ t680) ++ (⟨#[35, 105, 102, 110, 100, 101, 102, 32]⟩ : ByteArray)) ++ a3) ++ (⟨#[10]⟩ : ByteArray)) ++ t682).size + 9 ≤ 9223372036854775807 then (if ((((((x11_1 ++ t680) ++ (⟨#[35, 105, 102, 110, 100, 101, 102, 32]⟩ : ByteArray)) ++ a3) ++ (⟨#[10]⟩ : ByteArray)) ++ t682) ++ (⟨#[35, 101, 108, 115, 101, 32, 47, 42, 32]⟩ : ByteArray)).size + a3.size ≤ 9223372036854775807 then (if (((((((x11_1 ++ t680) ++ (⟨#[35, 105, 102, 110, 100, 101, 102, 32]⟩ : ByteArray)) ++ a3) ++ (⟨#[10]⟩ : ByteArray)) ++ t682) ++ (⟨#[35, 101, 108, 115, 101, 32, 47, 42, 32]⟩ : ByteArray)) ++ a3).size + 4 ≤ 9223372036854775807 then (if ((((((((x11_1 ++ t680) ++ (⟨#[35, 105, 102, 110, 100, 101, 102, 32]⟩ : ByteArray)) ++ a3) ++ (⟨#[10]⟩ : ByteArray)) ++ t682) ++ (⟨#[35, 101, 108, 115, 101, 32, 47, 42, 32]⟩ : ByteArray)) ++ a3) ++ (⟨#[32, 42, 47, 10]⟩ : ByteArray)).size + t684.size ≤ 9223372036854775807 then (if (((((((((x11_1 ++ t680) ++ (⟨#[35, 105, 102, 110, 100, 101, 102, 32]⟩ : ByteArray)) ++ a3) ++ (⟨#[10]⟩ : ByteArray)) ++ t682) ++ (⟨#[35, 101, 108, 115, 101, 32, 47, 42, 32]⟩ : ByteArray)) ++ a3) ++ (⟨#[32, 42, 47, 10]⟩ : ByteArray)) ++ t684).size + 10 ≤ 9223372036854775807 then (if ((((((((((x11_1 ++ t680) ++ (⟨#[35, 105, 102, 110, 100, 101, 102, 32]⟩ : ByteArray)) ++ a3) ++ (⟨#[10]⟩ : ByteArray)) ++ t682) ++ (⟨#[35, 101, 108, 115, 101, 32, 47, 42, 32]⟩ : ByteArray)) ++ a3) ++ (⟨#[32, 42, 47, 10]⟩ : ByteArray)) ++ t684) ++ (⟨#[35, 101, 110, 100, 105, 102, 32, 47, 42, 32]⟩ : ByteArray)).size + a3.size ≤ 9223372036854775807 then (if (((((((((((x11_1 ++ t680) ++ (⟨#[35, 105, 102, 110, 100, 101, 102, 32]⟩ : ByteArray)) ++ a3) ++ (⟨#[10]⟩ : ByteArray)) ++ t682) ++ (⟨#[35, 101, 108, 115, 101, 32, 47, 42, 32]⟩ : ByteArray)) ++ a3) ++ (⟨#[32, 42, 47, 10]⟩ : ByteArray)) ++ t684) ++ (⟨#[35, 101, 110, 100, 105, 102, 32, 47, 42, 32]⟩ : ByteArray)) ++ a3).size + 4 ≤ 9223372036854775807 then (redlineref17_Ifdef.l0 k1 l0 l1 l2 a3 ((((((((((((x11_1 ++ t680) ++ (⟨#[35, 105, 102, 110, 100, 101, 102, 32]⟩ : ByteArray)) ++ a3) ++ (⟨#[10]⟩ : ByteArray)) ++ t682) ++ (⟨#[35, 101, 108, 115, 101, 32, 47, 42, 32]⟩ : ByteArray)) ++ a3) ++ (⟨#[32, 42, 47, 10]⟩ : ByteArray)) ++ t684) ++ (⟨#[35, 101, 110, 100, 105, 102, 32, 47, 42, 32]⟩ : ByteArray)) ++ a3) ++ (⟨#[32, 42, 47, 10]⟩ : ByteArray)) (wrap64 (((rd_T94 l0 x13_1).f0) + ((rd_T94 l0 x13_1).f1))) (wrap64 (x13_1 + 1))) else (none)) else (none)) else (none)) else (none)) else (none)) else (none)) else (none)) else (none)) else (none)) else (none)) else (none))))) else (none)) else (none)) else (none)) = some (r1, r2) := H
                            have A20 := Aside0.mk A200
                            clear A200
                            by_cases c21 : 0 ≤ ((rd_T94 l0 x13_1).f2)
                            · rw [if_pos c21] at H
                              have c21b0 := eq_true c21
                              have c21b1 : decide (0 ≤ ((rd_T94 l0 x13_1).f2)) = true := decide_eq_true c21
                              clear c21
                              by_cases c22 : ((rd_T94 l0 x13_1).f2) ≤ (wrap64 (((rd_T94 l0 x13_1).f2) + ((rd_T94 l0 x13_1).f3)))
                              · rw [if_pos c22] at H
                                have c22b0 := eq_true c22
                                have c22b1 : decide (((rd_T94 l0 x13_1).f2) ≤ (wrap64 (((rd_T94 l0 x13_1).f2) + ((rd_T94 l0 x13_1).f3)))) = true := decide_eq_true c22
                                by_cases c23 : (wrap64 (((rd_T94 l0 x13_1).f2) + ((rd_T94 l0 x13_1).f3))) ≤ (l2.length : Int)
                                · rw [if_pos c23] at H
                                  have c23b0 := eq_true c23
                                  have c23b1 : decide ((wrap64 (((rd_T94 l0 x13_1).f2) + ((rd_T94 l0 x13_1).f3))) ≤ (l2.length : Int)) = true := decide_eq_true c23
                                  replace H := Option.bind_eq_some_iff.mp H
                                  obtain ⟨t684, A240, H⟩ := H
                                  replace H : (if ((rd_T94 l0 x13_1).f3) = 0 then (if (x11_1 ++ t680).size + 8 ≤ 9223372036854775807 then (if ((x11_1 ++ t680) ++ (⟨#[35, 105, 102, 110, 100, 101, 102, 32]⟩ : ByteArray)).size + a3.size ≤ 9223372036854775807 then (if (((x11_1 ++ t680) ++ (⟨#[35, 105, 102, 110, 100, 101, 102, 32]⟩ : ByteArray)) ++ a3).size + 1 ≤ 9223372036854775807 then (if ((((x11_1 ++ t680) ++ (⟨#[35, 105, 102, 110, 100, 101, 102, 32]⟩ : ByteArray)) ++ a3) ++ (⟨#[10]⟩ : ByteArray)).size + t682.size ≤ 9223372036854775807 then (if (((((x11_1 ++ t680) ++ (⟨#[35, 105, 102, 110, 100, 101, 102, 32]⟩ : ByteArray)) ++ a3) ++ (⟨#[10]⟩ : ByteArray)) ++ t682).size + 12 ≤ 9223372036854775807 then (if ((((((x11_1 ++ t680) ++ (⟨#[35, 105, 102, 110, 100, 101, 102, 32]⟩ : ByteArray)) ++ a3) ++ (⟨#[10]⟩ : ByteArray)) ++ t682) ++ (⟨#[35, 101, 110, 100, 105, 102, 32, 47, 42, 32, 33, 32]⟩ : ByteArray)).size + a3.size ≤ 9223372036854775807 then (if (((((((x11_1 ++ t680) ++ (⟨#[35, 105, 102, 110, 100, 101, 102, 32]⟩ : ByteArray)) ++ a3) ++ (⟨#[10]⟩ : ByteArray)) ++ t682) ++ (⟨#[35, 101, 110, 100, 105, 102, 32, 47, 42, 32, 33, 32]⟩ : ByteArray)) ++ a3).size + 4 ≤ 9223372036854775807 then (redlineref17_Ifdef.l0 k1 l0 l1 l2 a3 ((((((((x11_1 ++ t680) ++ (⟨#[35, 105, 102, 110, 100, 101, 102, 32]⟩ : ByteArray)) ++ a3) ++ (⟨#[10]⟩ : ByteArray)) ++ t682) ++ (⟨#[35, 101, 110, 100, 105, 102, 32, 47, 42, 32, 33, 32]⟩ : ByteArray)) ++ a3) ++ (⟨#[32, 42, 47, 10]⟩ : ByteArray)) (wrap64 (((rd_T94 l0 x13_1).f0) + ((rd_T94 l0 x13_1).f1))) (wrap64 (x13_1 + 1))) else (none)) else (none)) else (none)) else (none)) else (none)) else (none)) else (none)) else (if ((rd_T94 l0 x13_1).f1) = 0 then (if (x11_1 ++ t680).size + 7 ≤ 9223372036854775807 then (if ((x11_1 ++ t680) ++ (⟨#[35, 105, 102, 100, 101, 102, 32]⟩ : ByteArray)).size + a3.size ≤ 9223372036854775807 then (if (((x11_1 ++ t680) ++ (⟨#[35, 105, 102, 100, 101, 102, 32]⟩ : ByteArray)) ++ a3).size + 1 ≤ 9223372036854775807 then (if ((((x11_1 ++ t680) ++ (⟨#[35, 105, 102, 100, 101, 102, 32]⟩ : ByteArray)) ++ a3) ++ (⟨#[10]⟩ : ByteArray)).size + t684.size ≤ 9223372036854775807 then (if (((((x11_1 ++ t680) ++ (⟨#[35, 105, 102, 100, 101, 102, 32]⟩ : ByteArray)) ++ a3) ++ (⟨#[10]⟩ : ByteArray)) ++ t684).size + 10 ≤ 9223372036854775807 then (if ((((((x11_1 ++ t680) ++ (⟨#[35, 105, 102, 100, 101, 102, 32]⟩ : ByteArray)) ++ a3) ++ (⟨#[10]⟩ : ByteArray)) ++ t684) ++ (⟨#[35, 101, 110, 100, 105, 102, 32, 47, 42, 32]⟩ : ByteArray)).size + a3.size ≤ 9223372036854775807 then (if (((((((x11_1 ++ t680) ++ (⟨#[35, 105, 102, 100, 101, 102, 32]⟩ : ByteArray)) ++ a3) ++ (⟨#[10]⟩ : ByteArray)) ++ t684) ++ (⟨#[35, 101, 110, 100, 105, 102, 32, 47, 42, 32]⟩ : ByteArray)) ++ a3).size + 4 ≤ 9223372036854775807 then (redlineref17_Ifdef.l0 k1 l0 l1 l2 a3 ((((((((x11_1 ++ t680) ++ (⟨#[35, 105, 102, 100, 101, 102, 32]⟩ : ByteArray)) ++ a3) ++ (⟨#[10]⟩ : ByteArray)) ++ t684) ++ (⟨#[35, 101, 110, 100, 105, 102, 32, 47, 42, 32]⟩ : ByteArray)) ++ a3) ++ (⟨#[32, 42, 47, 10]⟩ : ByteArray)) (wrap64 (((rd_T94 l0 x13_1).f0) + ((rd_T94 l0 x13_1).f1))) (wrap64 (x13_1 + 1))) else (none)) else (none)) else (none)) else (none)) else (none)) else (none)) else (none)) else (if (x11_1 ++ t680).size + 8 ≤ 9223372036854775807 then (if ((x11_1 ++ t680) ++ (⟨#[35, 105, 102, 110, 100, 101, 102, 32]⟩ : ByteArray)).size + a3.size ≤ 9223372036854775807 then (if (((x11_1 ++ t680) ++ (⟨#[35, 105, 102, 110, 100, 101, 102, 32]⟩ : ByteArray)) ++ a3).size + 1 ≤ 9223372036854775807 then (if ((((x11_1 ++ t680) ++ (⟨#[35, 105, 102, 110, 100, 101, 102, 32]⟩ : ByteArray)) ++ a3) ++ (⟨#[10]⟩ : ByteArray)).size + t682.size ≤ 9223372036854775807 then (if (((((x11_1 ++ t680) ++ (⟨#[35, 105, 102, 110, 100, 101, 102, 32]⟩ : ByteArray)) ++ a3) ++ (⟨#[10]⟩ : ByteArray)) ++ t682).size + 9 ≤ 9223372036854775807 then (if ((((((x11_1 ++ t680) ++ (⟨#[35, 105, 102, 110, 100, 101, 102, 32]⟩ : ByteArray)) ++ a3) ++ (⟨#[10]⟩ : ByteArray)) ++ t682) ++ (⟨#[35, 101, 108, 115, 101, 32, 47, 42, 32]⟩ : ByteArray)).size + a3.size ≤ 9223372036854775807 then (if (((((((x11_1 ++ t680) ++ (⟨#[35, 105, 102, 110, 100, 101, 102, 32]⟩ : ByteArray)) ++ a3) ++ (⟨#[10]⟩ : ByteArray)) ++ t682) ++ (⟨#[35, 101, 108, 115, 101, 32, 47, 42, 32]⟩ : ByteArray)) ++ a3).size + 4 ≤ 9223372036854775807 then (if ((((((((x11_1 ++ t680) ++ (⟨#[35, 105, 102, 110, 100, 101, 102, 32]⟩ : ByteArray)) ++ a3) ++ (⟨#[10]⟩ : ByteArray)) ++ t682) ++ (⟨#[35, 101, 108, 115, 101, 32, 47, 42, 32]⟩ : ByteArray)) ++ a3) ++ (⟨#[32, 42, 47, 10]⟩ : ByteArray)).size + t684.size ≤ 9223372036854775807 then (if (((((((((x11_1 ++ t680) ++ (⟨#[35, 105, 102, 110, 100, 101, 102, 32]⟩ : ByteArray)) ++ a3) ++ (⟨#[10]⟩ : ByteArray)) ++ t682) ++ (⟨#[35, 101, 108, 115, 101, 32, 47, 42, 32]⟩ : ByteArray)) ++ a3) ++ (⟨#[32, 42, 47, 10]⟩ : ByteArray)) ++ t684).size + 10 ≤ 9223372036854775807 then (if ((((((((((x11_1 ++ t680) ++ (⟨#[35, 105, 102, 110, 100, 101, 102, 32]⟩ : ByteArray)) ++ a3) ++ (⟨#[10]⟩ : ByteArray)) ++ t682) ++ (⟨#[35, 101, 108, 115, 101, 32, 47, 42, 32]⟩ : ByteArray)) ++ a3) ++ (⟨#[32, 42, 47, 10]⟩ : ByteArray)) ++ t684) ++ (⟨#[35, 101, 110, 100, 105, 102, 32, 47, 42, 32]⟩ : ByteArray)).size + a3.size ≤ 9223372036854775807 then (if (((((((((((x11_1 ++ t680) ++ (⟨#[35, 105, 102, 110, 100, 101, 102, 32]⟩ : ByteArray)) ++ a3) ++ (⟨#[10]⟩ : ByteArray)) ++ t682) ++ (⟨#[35, 101, 108, 115, 101, 32, 47, 42, 32]⟩ : ByteArray)) ++ a3) ++ (⟨#[32, 42, 47, 10]⟩ : ByteArray)) ++ t684) ++ (⟨#[35, 101, 110, 100, 105, 102, 32, 47, 42, 32]⟩ : ByteArray)) ++ a3).size + 4 ≤ 9223372036854775807 then (redlineref17_Ifdef.l0 k1 l0 l1 l2 a3 ((((((((((((x11_1 ++ t680) ++ (⟨#[35, 105, 102, 110, 100, 101, 102, 32]⟩ : ByteArray)) ++ a3) ++ (⟨#[10]⟩ : ByteArray)) ++ t682) ++ (⟨#[35, 101, 108, 115, 101, 32, 47, 42, 32]⟩ : ByteArray)) ++ a3) ++ (⟨#[32, 42, 47, 10]⟩ : ByteArray)) ++ t684) ++ (⟨#[35, 101, 110, 100, 105, 102, 32, 47, 42, 32]⟩ : ByteArray)) ++ a3) ++ (⟨#[32, 42, 47, 10]⟩ : ByteArray)) (wrap64 (((rd_T94 l0 x13_1).f0) + ((rd_T94 l0 x13_1).f1))) (wrap64 (x13_1 + 1))) else (none)) else (none)) else (none)) else (none)) else (none)) else (none)) else (none)) else (none)) else (none)) else (none)) else (none)))) = some (r1, r2) := H
                                  have A24 := Aside0.mk A240
                                  clear A240
                                  by_cases c25 : ((rd_T94 l0 x13_1).f3) = 0
                                  · rw [if_pos c25] at H
                                    have c25b0 : (((rd_T94 l0 x13_1).f3) == 0) = true := beq_iff_eq.mpr c25
                                    have c25b1 : (((rd_T94 l0 x13_1).f3) != 0) = false := bne_eq_false_iff_eq.mpr c25
                                    clear c25
                                    by_cases c26 : (x11_1 ++ t680).size + 8 ≤ 9223372036854775807
                                    · rw [if_pos c26] at H
                                      have c26b0 := eq_true c26
                                      have c26b1 : decide ((x11_1 ++ t680).size + 8 ≤ 9223372036854775807) = true := decide_eq_true c26
                                      try have c26b2 : (9223372036854775807 < (x11_1 ++ t680).size + 8) = False := eq_false (Nat.not_lt.2 c26)
                                      have c26b3 : (9223372036854775807 < x11_1.size + t680.size + 8) = False := eq_false (by have h_ := c26; simp only [ByteArray.size_append] at h_; omega)
                                      by_cases c27 : ((x11_1 ++ t680) ++ (⟨#[35, 105, 102, 110, 100, 101, 102, 32]⟩ : ByteArray)).size + a3.size ≤ 9223372036854775807
                                      · rw [if_pos c27] at H
                                        have c27b0 := eq_true c27
                                        have c27b1 : decide (((x11_1 ++ t680) ++ (⟨#[35, 105, 102, 110, 100, 101, 102, 32]⟩ : ByteArray)).size + a3.size ≤ 9223372036854775807) = true := decide_eq_true c27
                                        try have c27b2 : (9223372036854775807 < ((x11_1 ++ t680) ++ (⟨#[35, 105, 102, 110, 100, 101, 102, 32]⟩ : ByteArray)).size + a3.size) = False := eq_false (Nat.not_lt.2 c27)
                                        have c27b3 : (9223372036854775807 < x11_1.size + t680.size + 8 + a3.size) = False := eq_false (by have h_ := c27; simp only [ByteArray.size_append] at h_; have l0_ : (⟨#[35, 105, 102, 110, 100, 101, 102, 32]⟩ : ByteArray).size = 8 := rfl; omega)
                                        by_cases c28 : (((x11_1 ++ t680) ++ (⟨#[35, 105, 102, 110, 100, 101, 102, 32]⟩ : ByteArray)) ++ a3).size + 1 ≤ 9223372036854775807
                                        · rw [if_pos c28] at H
                                          have c28b0 := eq_true c28
                                          have c28b1 : decide ((((x11_1 ++ t680) ++ (⟨#[35, 105, 102, 110, 100, 101, 102, 32]⟩ : ByteArray)) ++ a3).size + 1 ≤ 9223372036854775807) = true := decide_eq_true c28
                                          try have c28b2 : (9223372036854775807 < (((x11_1 ++ t680) ++ (⟨#[35, 105, 102, 110, 100, 101, 102, 32]⟩ : ByteArray)) ++ a3).size + 1) = False := eq_false (Nat.not_lt.2 c28)
                                          have c28b3 : (9223372036854775807 < x11_1.size + t680.size + 8 + a3.size + 1) = False := eq_false (by have h_ := c28; simp only [ByteArray.size_append] at h_; have l0_ : (⟨#[35, 105, 102, 110, 100, 101, 102, 32]⟩ : ByteArray).size = 8 := rfl; omega)
                                          by_cases c29 : ((((x11_1 ++ t680) ++ (⟨#[35, 105, 102, 110, 100, 101, 102, 32]⟩ : ByteArray)) ++ a3) ++ (⟨#[10]⟩ : ByteArray)).size + t682.size ≤ 9223372036854775807
                                          · rw [if_pos c29] at H
                                            have c29b0 := eq_true c29
                                            have c29b1 : decide (((((x11_1 ++ t680) ++ (⟨#[35, 105, 102, 110, 100, 101, 102, 32]⟩ : ByteArray)) ++ a3) ++ (⟨#[10]⟩ : ByteArray)).size + t682.size ≤ 9223372036854775807) = true := decide_eq_true c29
                                            try have c29b2 : (9223372036854775807 < ((((x11_1 ++ t680) ++ (⟨#[35, 105, 102, 110, 100, 101, 102, 32]⟩ : ByteArray)) ++ a3) ++ (⟨#[10]⟩ : ByteArray)).size + t682.size) = False := eq_false (Nat.not_lt.2 c29)
                                            have c29b3 : (9223372036854775807 < x11_1.size + t680.size + 8 + a3.size + 1 + t682.size) = False := eq_false (by have h_ := c29; simp only [ByteArray.size_append] at h_; have l0_ : (⟨#[10]⟩ : ByteArray).size = 1 := rfl; have l1_ : (⟨#[35, 105, 102, 110, 100, 101, 102, 32]⟩ : ByteArray).size = 8 := rfl; omega)
                                            by_cases c30 : (((((x11_1 ++ t680) ++ (⟨#[35, 105, 102, 110, 100, 101, 102, 32]⟩ : ByteArray)) ++ a3) ++ (⟨#[10]⟩ : ByteArray)) ++ t682).size + 12 ≤ 9223372036854775807
                                            · rw [if_pos c30] at H
                                              have c30b0 := eq_true c30
                                              have c30b1 : decide ((((((x11_1 ++ t680) ++ (⟨#[35, 105, 102, 110, 100, 101, 102, 32]⟩ : ByteArray)) ++ a3) ++ (⟨#[10]⟩ : ByteArray)) ++ t682).size + 12 ≤ 9223372036854775807) = true := decide_eq_true c30
                                              try have c30b2 : (9223372036854775807 < (((((x11_1 ++ t680) ++ (⟨#[35, 105, 102, 110, 100, 101, 102, 32]⟩ : ByteArray)) ++ a3) ++ (⟨#[10]⟩ : ByteArray)) ++ t682).size + 12) = False := eq_false (Nat.not_lt.2 c30)
                                              have c30b3 : (9223372036854775807 < x11_1.size + t680.size + 8 + a3.size + 1 + t682.size + 12) = False := eq_false (by have h_ := c30; simp only [ByteArray.size_append] at h_; have l0_ : (⟨#[10]⟩ : ByteArray).size = 1 := rfl; have l1_ : (⟨#[35, 105, 102, 110, 100, 101, 102, 32]⟩ : ByteArray).size = 8 := rfl; omega)
                                              by_cases c31 : ((((((x11_1 ++ t680) ++ (⟨#[35, 105, 102, 110, 100, 101, 102, 32]⟩ : ByteArray)) ++ a3) ++ (⟨#[10]⟩ : ByteArray)) ++ t682) ++ (⟨#[35, 101, 110, 100, 105, 102, 32, 47, 42, 32, 33, 32]⟩ : ByteArray)).size + a3.size ≤ 9223372036854775807
                                              · rw [if_pos c31] at H
                                                have c31b0 := eq_true c31
                                                have c31b1 : decide (((((((x11_1 ++ t680) ++ (⟨#[35, 105, 102, 110, 100, 101, 102, 32]⟩ : ByteArray)) ++ a3) ++ (⟨#[10]⟩ : ByteArray)) ++ t682) ++ (⟨#[35, 101, 110, 100, 105, 102, 32, 47, 42, 32, 33, 32]⟩ : ByteArray)).size + a3.size ≤ 9223372036854775807) = true := decide_eq_true c31
                                                try have c31b2 : (9223372036854775807 < ((((((x11_1 ++ t680) ++ (⟨#[35, 105, 102, 110, 100, 101, 102, 32]⟩ : ByteArray)) ++ a3) ++ (⟨#[10]⟩ : ByteArray)) ++ t682) ++ (⟨#[35, 101, 110, 100, 105, 102, 32, 47, 42, 32, 33, 32]⟩ : ByteArray)).size + a3.size) = False := eq_false (Nat.not_lt.2 c31)
                                                have c31b3 : (9223372036854775807 < x11_1.size + t680.size + 8 + a3.size + 1 + t682.size + 12 + a3.size) = False := eq_false (by have h_ := c31; simp only [ByteArray.size_append] at h_; have l0_ : (⟨#[10]⟩ : ByteArray).size = 1 := rfl; have l1_ : (⟨#[35, 101, 110, 100, 105, 102, 32, 47, 42, 32, 33, 32]⟩ : ByteArray).size = 12 := rfl; have l2_ : (⟨#[35, 105, 102, 110, 100, 101, 102, 32]⟩ : ByteArray).size = 8 := rfl; omega)
                                                by_cases c32 : (((((((x11_1 ++ t680) ++ (⟨#[35, 105, 102, 110, 100, 101, 102, 32]⟩ : ByteArray)) ++ a3) ++ (⟨#[10]⟩ : ByteArray)) ++ t682) ++ (⟨#[35, 101, 110, 100, 105, 102, 32, 47, 42, 32, 33, 32]⟩ : ByteArray)) ++ a3).size + 4 ≤ 9223372036854775807
                                                · rw [if_pos c32] at H
                                                  have c32b0 := eq_true c32
                                                  have c32b1 : decide ((((((((x11_1 ++ t680) ++ (⟨#[35, 105, 102, 110, 100, 101, 102, 32]⟩ : ByteArray)) ++ a3) ++ (⟨#[10]⟩ : ByteArray)) ++ t682) ++ (⟨#[35, 101, 110, 100, 105, 102, 32, 47, 42, 32, 33, 32]⟩ : ByteArray)) ++ a3).size + 4 ≤ 9223372036854775807) = true := decide_eq_true c32
                                                  try have c32b2 : (9223372036854775807 < (((((((x11_1 ++ t680) ++ (⟨#[35, 105, 102, 110, 100, 101, 102, 32]⟩ : ByteArray)) ++ a3) ++ (⟨#[10]⟩ : ByteArray)) ++ t682) ++ (⟨#[35, 101, 110, 100, 105, 102, 32, 47, 42, 32, 33, 32]⟩ : ByteArray)) ++ a3).size + 4) = False := eq_false (Nat.not_lt.2 c32)
                                                  have c32b3 : (9223372036854775807 < x11_1.size + t680.size + 8 + a3.size + 1 + t682.size + 12 + a3.size + 4) = False := eq_false (by have h_ := c32; simp only [ByteArray.size_append] at h_; have l0_ : (⟨#[10]⟩ : ByteArray).size = 1 := rfl; have l1_ : (⟨#[35, 101, 110, 100, 105, 102, 32, 47, 42, 32, 33, 32]⟩ : ByteArray).size = 12 := rfl; have l2_ : (⟨#[35, 105, 102, 110, 100, 101, 102, 32]⟩ : ByteArray).size = 8 := rfl; omega)
                                                  have H' := Aside0.mk H
                                                  clear H
                                                  have p677 : 0 ≤ (x13_1 : Int) := of_decide_eq_true (by first | (with_reducible assumption) | assumption)
                                                  have q677 : x13_1 < (l0.length : Int) := of_decide_eq_true (by first | (with_reducible assumption) | assumption)
                                                  obtain ⟨ad677, e677, hx677_0, hx677_1, hx677_2, hx677_3⟩ := at_T94 HR0.out x13_1 p677 q677
                                                  cases e677
                                                  replace hx677_0 := (HB.out.cell (World.block_lt_of_cell? w _ hx677_0)).trans hx677_0
                                                  replace hx677_1 := (HB.out.cell (World.block_lt_of_cell? w _ hx677_1)).trans hx677_1
                                                  replace hx677_2 := (HB.out.cell (World.block_lt_of_cell? w _ hx677_2)).trans hx677_2
                                                  replace hx677_3 := (HB.out.cell (World.block_lt_of_cell? w _ hx677_3)).trans hx677_3
                                                  replace p677 := eq_true p677
                                                  replace q677 := eq_true q677
                                                  go_wp2_with (first | ((with_reducible refine gate_dst (N := 14) rfl ?_); refine box_event ?hg (N := 14) ?hd (cs := #[.int .i64 0, .int .i64 0, .int .i64 0, .int .i64 0]) (t := 94) ?hr ?_; (case hd => rfl); (case hg => rfl); (case hr => first | (go_simp; done) | (go_simp; rfl)); intro gb678 hg w33 hbox hb; have n0_ := Aside0.mk (below_step (by repeat (first | (with_reducible first | exact HB.out | apply below_alloc | apply pw_below_drewN | apply below_drew1) | exact HB.out)) hb); have n1_ := Aside0.mk (hbox); have n2_ := Aside0.mk ((by rw [hg]; exact (below_size (by repeat (first | (with_reducible first | exact HB.out | apply below_alloc | apply pw_below_drewN | apply below_drew1) | exact HB.out))) : w.heap.size ≤ gb678)); have n3_ := Aside0.mk ((by rw [hg]; exact (below_size (by repeat (first | (with_reducible first | exact HB.out | apply below_alloc | apply pw_below_drewN | apply below_drew1) | exact HB.out))) : w.heap.size ≤ gb678)); clear HB; have HB := n0_; have BK678 := n1_; have GW678 := n2_; have GE678 := n3_; clear n0_ n1_ n2_ n3_; clear hb hbox hg; have hcz34_0 : w33.cell? ⟨gb678, 0, none⟩ = some (.int .i64 0) := (blk_cell BK678.out 0).trans rfl; have hcz34_1 : w33.cell? ⟨gb678, 1, none⟩ = some (.int .i64 0) := (blk_cell BK678.out 1).trans rfl; have hcz34_2 : w33.cell? ⟨gb678, 2, none⟩ = some (.int .i64 0) := (blk_cell BK678.out 2).trans rfl; have hcz34_3 : w33.cell? ⟨gb678, 3, none⟩ = some (.int .i64 0) := (blk_cell BK678.out 3).trans rfl; have hfz34_0 := blk_frozen BK678.out 0; have hfz34_1 := blk_frozen BK678.out 1; have hfz34_2 := blk_frozen BK678.out 2; have hfz34_3 := blk_frozen BK678.out 3; obtain ⟨i035, hi035, _, hsz35, _⟩ := info_parts info9; obtain ⟨A35, hcut35, hA35, hC35⟩ := print_mid_of (P := Try.prog) Value.string (⟨#[]⟩ : ByteArray) 27 9 .i64 .i64 Try.underlying27 hi035 hsz35 A1 c1 l1 x12_1 ((rd_T94 l0 x13_1).f0) (of_decide_eq_true (by first | (with_reducible assumption) | assumption)) (by first | omega | exact of_decide_eq_true (by first | (with_reducible assumption) | assumption)) (of_decide_eq_true (by first | (with_reducible assumption) | assumption)) HC1.out; have HR679 := Aside0.mk (Kd.C_of_reads (h1 := fun _ => rfl) (hA35 _ (Kd.reads_of_C HR1.out))); have HC679 := Aside0.mk hC35; clear hA35 hC35 hi035 hsz35) | (go_at_call 60; (try rw [← (show ((l1.take (((rd_T94 l0 x13_1).f0) : Int).toNat).drop (x12_1 : Int).toNat).length = (((rd_T94 l0 x13_1).f0).toNat - x12_1.toNat) from (by rw [List.length_drop, List.length_take]; have h_ : (((rd_T94 l0 x13_1).f0) : Int) ≤ (l1.length : Int) := of_decide_eq_true (by first | (with_reducible assumption) | assumption); omega))]); (with_reducible refine (redlineref17_whole.calls k1 _ _ ((l1.take (((rd_T94 l0 x13_1).f0) : Int).toNat).drop (x12_1 : Int).toNat) t680 _ ?side1 ?side2 A15.out).mono ?_); (case side1 => exact Kd.C_below HR679.out (by repeat (first | (with_reducible first | exact HB.out | apply below_alloc | apply pw_below_drewN | apply below_drew1 | refine below_set ?_ GE678.out) | exact HB.out))); (case side2 => exact HC679.out); rintro e w' ⟨rfl, ⟨nd, rfl⟩⟩; (try first | exact ⟨rfl, _, World.drewN_drewN _ _ _⟩ | exact ⟨rfl, _, Eq.trans (World.drewN_drewN _ _ _) (congrArg (World.drewN _) (Nat.add_assoc _ _ _))⟩); obtain ⟨i036, hi036, _, hsz36, _⟩ := info_parts info9; obtain ⟨A36, hcut36, hA36, hC36⟩ := print_mid_of (P := Try.prog) Value.string (⟨#[]⟩ : ByteArray) 27 9 .i64 .i64 Try.underlying27 hi036 hsz36 A1 c1 l1 ((rd_T94 l0 x13_1).f0) (wrap64 (((rd_T94 l0 x13_1).f0) + ((rd_T94 l0 x13_1).f1))) (of_decide_eq_true (by first | (with_reducible assumption) | assumption)) (by first | omega | exact of_decide_eq_true (by first | (with_reducible assumption) | assumption)) (of_decide_eq_true (by first | (with_reducible assumption) | assumption)) HC1.out; have HR681 := Aside0.mk (Kd.C_of_reads (h1 := fun _ => rfl) (hA36 _ (Kd.reads_of_C HR1.out))); have HC681 := Aside0.mk hC36; clear hA36 hC36 hi036 hsz36) | (go_at_call 60; (try rw [← (show ((l1.take ((wrap64 (((rd_T94 l0 x13_1).f0) + ((rd_T94 l0 x13_1).f1))) : Int).toNat).drop (((rd_T94 l0 x13_1).f0) : Int).toNat).length = ((wrap64 (((rd_T94 l0 x13_1).f0) + ((rd_T94 l0 x13_1).f1))).toNat - ((rd_T94 l0 x13_1).f0).toNat) from (by rw [List.length_drop, List.length_take]; have h_ : ((wrap64 (((rd_T94 l0 x13_1).f0) + ((rd_T94 l0 x13_1).f1))) : Int) ≤ (l1.length : Int) := of_decide_eq_true (by first | (with_reducible assumption) | assumption); omega))]); (with_reducible refine (redlineref17_whole.calls k1 _ _ ((l1.take ((wrap64 (((rd_T94 l0 x13_1).f0) + ((rd_T94 l0 x13_1).f1))) : Int).toNat).drop (((rd_T94 l0 x13_1).f0) : Int).toNat) t682 _ ?side1 ?side2 A20.out).mono ?_); (case side1 => exact Kd.C_below HR681.out (by repeat (first | (with_reducible first | exact HB.out | apply below_alloc | apply pw_below_drewN | apply below_drew1 | refine below_set ?_ GE678.out) | exact HB.out))); (case side2 => exact HC681.out); rintro e w' ⟨rfl, ⟨nd, rfl⟩⟩; (try first | exact ⟨rfl, _, World.drewN_drewN _ _ _⟩ | exact ⟨rfl, _, Eq.trans (World.drewN_drewN _ _ _) (congrArg (World.drewN _) (Nat.add_assoc _ _ _))⟩); obtain ⟨i037, hi037, _, hsz37, _⟩ := info_parts info9; obtain ⟨A37, hcut37, hA37, hC37⟩ := print_mid_of (P := Try.prog) Value.string (⟨#[]⟩ : ByteArray) 27 9 .i64 .i64 Try.underlying27 hi037 hsz37 A2 c2 l2 ((rd_T94 l0 x13_1).f2) (wrap64 (((rd_T94 l0 x13_1).f2) + ((rd_T94 l0 x13_1).f3))) (of_decide_eq_true (by first | (with_reducible assumption) | assumption)) (by first | omega | exact of_decide_eq_true (by first | (with_reducible assumption) | assumption)) (of_decide_eq_true (by first | (with_reducible assumption) | assumption)) HC2.out; have HR683 := Aside0.mk (Kd.C_of_reads (h1 := fun _ => rfl) (hA37 _ (Kd.reads_of_C HR2.out))); have HC683 := Aside0.mk hC37; clear hA37 hC37 hi037 hsz37) | (go_at_call 60; (try rw [← (show ((l2.take ((wrap64 (((rd_T94 l0 x13_1).f2) + ((rd_T94 l0 x13_1).f3))) : Int).toNat).drop (((rd_T94 l0 x13_1).f2) : Int).toNat).length = ((wrap64 (((rd_T94 l0 x13_1).f2) + ((rd_T94 l0 x13_1).f3))).toNat - ((rd_T94 l0 x13_1).f2).toNat) from (by rw [List.length_drop, List.length_take]; have h_ : ((wrap64 (((rd_T94 l0 x13_1).f2) + ((rd_T94 l0 x13_1).f3))) : Int) ≤ (l2.length : Int) := of_decide_eq_true (by first | (with_reducible assumption) | assumption); omega))]); (with_reducible refine (redlineref17_whole.calls k1 _ _ ((l2.take ((wrap64 (((rd_T94 l0 x13_1).f2) + ((rd_T94 l0 x13_1).f3))) : Int).toNat).drop (((rd_T94 l0 x13_1).f2) : Int).toNat) t684 _ ?side1 ?side2 A24.out).mono ?_); (case side1 => exact Kd.C_below HR683.out (by repeat (first | (with_reducible first | exact HB.out | apply below_alloc | apply pw_below_drewN | apply below_drew1 | refine below_set ?_ GE678.out) | exact HB.out))); (case side2 => exact HC683.out); rintro e w' ⟨rfl, ⟨nd, rfl⟩⟩; (try first | exact ⟨rfl, _, World.drewN_drewN _ _ _⟩ | exact ⟨rfl, _, Eq.trans (World.drewN_drewN _ _ _) (congrArg (World.drewN _) (Nat.add_assoc _ _ _))⟩)))
                                                  have hwq_ : ∀ x, IntKind.i64.wrap x = wrap64 x := i64_w
                                                  repeat (go_quiet (first | ((with_reducible refine gate_dst (N := 14) rfl ?_); refine box_event ?hg (N := 14) ?hd (cs := #[.int .i64 0, .int .i64 0, .int .i64 0, .int .i64 0]) (t := 94) ?hr ?_; (case hd => rfl); (case hg => rfl); (case hr => first | (go_simp; done) | (go_simp; rfl)); intro gb678 hg w33 hbox hb; have n0_ := Aside0.mk (below_step (by repeat (first | (with_reducible first | exact HB.out | apply below_alloc | apply pw_below_drewN | apply below_drew1) | exact HB.out)) hb); have n1_ := Aside0.mk (hbox); have n2_ := Aside0.mk ((by rw [hg]; exact (below_size (by repeat (first | (with_reducible first | exact HB.out | apply below_alloc | apply pw_below_drewN | apply below_drew1) | exact HB.out))) : w.heap.size ≤ gb678)); have n3_ := Aside0.mk ((by rw [hg]; exact (below_size (by repeat (first | (with_reducible first | exact HB.out | apply below_alloc | apply pw_below_drewN | apply below_drew1) | exact HB.out))) : w.heap.size ≤ gb678)); clear HB; have HB := n0_; have BK678 := n1_; have GW678 := n2_; have GE678 := n3_; clear n0_ n1_ n2_ n3_; clear hb hbox hg; have hcz34_0 : w33.cell? ⟨gb678, 0, none⟩ = some (.int .i64 0) := (blk_cell BK678.out 0).trans rfl; have hcz34_1 : w33.cell? ⟨gb678, 1, none⟩ = some (.int .i64 0) := (blk_cell BK678.out 1).trans rfl; have hcz34_2 : w33.cell? ⟨gb678, 2, none⟩ = some (.int .i64 0) := (blk_cell BK678.out 2).trans rfl; have hcz34_3 : w33.cell? ⟨gb678, 3, none⟩ = some (.int .i64 0) := (blk_cell BK678.out 3).trans rfl; have hfz34_0 := blk_frozen BK678.out 0; have hfz34_1 := blk_frozen BK678.out 1; have hfz34_2 := blk_frozen BK678.out 2; have hfz34_3 := blk_frozen BK678.out 3; obtain ⟨i035, hi035, _, hsz35, _⟩ := info_parts info9; obtain ⟨A35, hcut35, hA35, hC35⟩ := print_mid_of (P := Try.prog) Value.string (⟨#[]⟩ : ByteArray) 27 9 .i64 .i64 Try.underlying27 hi035 hsz35 A1 c1 l1 x12_1 ((rd_T94 l0 x13_1).f0) (of_decide_eq_true (by first | (with_reducible assumption) | assumption)) (by first | omega | exact of_decide_eq_true (by first | (with_reducible assumption) | assumption)) (of_decide_eq_true (by first | (with_reducible assumption) | assumption)) HC1.out; have HR679 := Aside0.mk (Kd.C_of_reads (h1 := fun _ => rfl) (hA35 _ (Kd.reads_of_C HR1.out))); have HC679 := Aside0.mk hC35; clear hA35 hC35 hi035 hsz35) | (go_at_call 60; (try rw [← (show ((l1.take (((rd_T94 l0 x13_1).f0) : Int).toNat).drop (x12_1 : Int).toNat).length = (((rd_T94 l0 x13_1).f0).toNat - x12_1.toNat) from (by rw [List.length_drop, List.length_take]; have h_ : (((rd_T94 l0 x13_1).f0) : Int) ≤ (l1.length : Int) := of_decide_eq_true (by first | (with_reducible assumption) | assumption); omega))]); (with_reducible refine (redlineref17_whole.calls k1 _ _ ((l1.take (((rd_T94 l0 x13_1).f0) : Int).toNat).drop (x12_1 : Int).toNat) t680 _ ?side1 ?side2 A15.out).mono ?_); (case side1 => exact Kd.C_below HR679.out (by repeat (first | (with_reducible first | exact HB.out | apply below_alloc | apply pw_below_drewN | apply below_drew1 | refine below_set ?_ GE678.out) | exact HB.out))); (case side2 => exact HC679.out); rintro e w' ⟨rfl, ⟨nd, rfl⟩⟩; (try first | exact ⟨rfl, _, World.drewN_drewN _ _ _⟩ | exact ⟨rfl, _, Eq.trans (World.drewN_drewN _ _ _) (congrArg (World.drewN _) (Nat.add_assoc _ _ _))⟩); obtain ⟨i036, hi036, _, hsz36, _⟩ := info_parts info9; obtain ⟨A36, hcut36, hA36, hC36⟩ := print_mid_of (P := Try.prog) Value.string (⟨#[]⟩ : ByteArray) 27 9 .i64 .i64 Try.underlying27 hi036 hsz36 A1 c1 l1 ((rd_T94 l0 x13_1).f0) (wrap64 (((rd_T94 l0 x13_1).f0) + ((rd_T94 l0 x13_1).f1))) (of_decide_eq_true (by first | (with_reducible assumption) | assumption)) (by first | omega | exact of_decide_eq_true (by first | (with_reducible assumption) | assumption)) (of_decide_eq_true (by first | (with_reducible assumption) | assumption)) HC1.out; have HR681 := Aside0.mk (Kd.C_of_reads (h1 := fun _ => rfl) (hA36 _ (Kd.reads_of_C HR1.out))); have HC681 := Aside0.mk hC36; clear hA36 hC36 hi036 hsz36) | (go_at_call 60; (try rw [← (show ((l1.take ((wrap64 (((rd_T94 l0 x13_1).f0) + ((rd_T94 l0 x13_1).f1))) : Int).toNat).drop (((rd_T94 l0 x13_1).f0) : Int).toNat).length = ((wrap64 (((rd_T94 l0 x13_1).f0) + ((rd_T94 l0 x13_1).f1))).toNat - ((rd_T94 l0 x13_1).f0).toNat) from (by rw [List.length_drop, List.length_take]; have h_ : ((wrap64 (((rd_T94 l0 x13_1).f0) + ((rd_T94 l0 x13_1).f1))) : Int) ≤ (l1.length : Int) := of_decide_eq_true (by first | (with_reducible assumption) | assumption); omega))]); (with_reducible refine (redlineref17_whole.calls k1 _ _ ((l1.take ((wrap64 (((rd_T94 l0 x13_1).f0) + ((rd_T94 l0 x13_1).f1))) : Int).toNat).drop (((rd_T94 l0 x13_1).f0) : Int).toNat) t682 _ ?side1 ?side2 A20.out).mono ?_); (case side1 => exact Kd.C_below HR681.out (by repeat (first | (with_reducible first | exact HB.out | apply below_alloc | apply pw_below_drewN | apply below_drew1 | refine below_set ?_ GE678.out) | exact HB.out))); (case side2 => exact HC681.out); rintro e w' ⟨rfl, ⟨nd, rfl⟩⟩; (try first | exact ⟨rfl, _, World.drewN_drewN _ _ _⟩ | exact ⟨rfl, _, Eq.trans (World.drewN_drewN _ _ _) (congrArg (World.drewN _) (Nat.add_assoc _ _ _))⟩); obtain ⟨i037, hi037, _, hsz37, _⟩ := info_parts info9; obtain ⟨A37, hcut37, hA37, hC37⟩ := print_mid_of (P := Try.prog) Value.string (⟨#[]⟩ : ByteArray) 27 9 .i64 .i64 Try.underlying27 hi037 hsz37 A2 c2 l2 ((rd_T94 l0 x13_1).f2) (wrap64 (((rd_T94 l0 x13_1).f2) + ((rd_T94 l0 x13_1).f3))) (of_decide_eq_true (by first | (with_reducible assumption) | assumption)) (by first | omega | exact of_decide_eq_true (by first | (with_reducible assumption) | assumption)) (of_decide_eq_true (by first | (with_reducible assumption) | assumption)) HC2.out; have HR683 := Aside0.mk (Kd.C_of_reads (h1 := fun _ => rfl) (hA37 _ (Kd.reads_of_C HR2.out))); have HC683 := Aside0.mk hC37; clear hA37 hC37 hi037 hsz37) | (go_at_call 60; (try rw [← (show ((l2.take ((wrap64 (((rd_T94 l0 x13_1).f2) + ((rd_T94 l0 x13_1).f3))) : Int).toNat).drop (((rd_T94 l0 x13_1).f2) : Int).toNat).length = ((wrap64 (((rd_T94 l0 x13_1).f2) + ((rd_T94 l0 x13_1).f3))).toNat - ((rd_T94 l0 x13_1).f2).toNat) from (by rw [List.length_drop, List.length_take]; have h_ : ((wrap64 (((rd_T94 l0 x13_1).f2) + ((rd_T94 l0 x13_1).f3))) : Int) ≤ (l2.length : Int) := of_decide_eq_true (by first | (with_reducible assumption) | assumption); omega))]); (with_reducible refine (redlineref17_whole.calls k1 _ _ ((l2.take ((wrap64 (((rd_T94 l0 x13_1).f2) + ((rd_T94 l0 x13_1).f3))) : Int).toNat).drop (((rd_T94 l0 x13_1).f2) : Int).toNat) t684 _ ?side1 ?side2 A24.out).mono ?_); (case side1 => exact Kd.C_below HR683.out (by repeat (first | (with_reducible first | exact HB.out | apply below_alloc | apply pw_below_drewN | apply below_drew1 | refine below_set ?_ GE678.out) | exact HB.out))); (case side2 => exact HC683.out); rintro e w' ⟨rfl, ⟨nd, rfl⟩⟩; (try first | exact ⟨rfl, _, World.drewN_drewN _ _ _⟩ | exact ⟨rfl, _, Eq.trans (World.drewN_drewN _ _ _) (congrArg (World.drewN _) (Nat.add_assoc _ _ _))⟩))); try go_wp2_with (first | ((with_reducible refine gate_dst (N := 14) rfl ?_); refine box_event ?hg (N := 14) ?hd (cs := #[.int .i64 0, .int .i64 0, .int .i64 0, .int .i64 0]) (t := 94) ?hr ?_; (case hd => rfl); (case hg => rfl); (case hr => first | (go_simp; done) | (go_simp; rfl)); intro gb678 hg w33 hbox hb; have n0_ := Aside0.mk (below_step (by repeat (first | (with_reducible first | exact HB.out | apply below_alloc | apply pw_below_drewN | apply below_drew1) | exact HB.out)) hb); have n1_ := Aside0.mk (hbox); have n2_ := Aside0.mk ((by rw [hg]; exact (below_size (by repeat (first | (with_reducible first | exact HB.out | apply below_alloc | apply pw_below_drewN | apply below_drew1) | exact HB.out))) : w.heap.size ≤ gb678)); have n3_ := Aside0.mk ((by rw [hg]; exact (below_size (by repeat (first | (with_reducible first | exact HB.out | apply below_alloc | apply pw_below_drewN | apply below_drew1) | exact HB.out))) : w.heap.size ≤ gb678)); clear HB; have HB := n0_; have BK678 := n1_; have GW678 := n2_; have GE678 := n3_; clear n0_ n1_ n2_ n3_; clear hb hbox hg; have hcz34_0 : w33.cell? ⟨gb678, 0, none⟩ = some (.int .i64 0) := (blk_cell BK678.out 0).trans rfl; have hcz34_1 : w33.cell? ⟨gb678, 1, none⟩ = some (.int .i64 0) := (blk_cell BK678.out 1).trans rfl; have hcz34_2 : w33.cell? ⟨gb678, 2, none⟩ = some (.int .i64 0) := (blk_cell BK678.out 2).trans rfl; have hcz34_3 : w33.cell? ⟨gb678, 3, none⟩ = some (.int .i64 0) := (blk_cell BK678.out 3).trans rfl; have hfz34_0 := blk_frozen BK678.out 0; have hfz34_1 := blk_frozen BK678.out 1; have hfz34_2 := blk_frozen BK678.out 2; have hfz34_3 := blk_frozen BK678.out 3; obtain ⟨i035, hi035, _, hsz35, _⟩ := info_parts info9; obtain ⟨A35, hcut35, hA35, hC35⟩ := print_mid_of (P := Try.prog) Value.string (⟨#[]⟩ : ByteArray) 27 9 .i64 .i64 Try.underlying27 hi035 hsz35 A1 c1 l1 x12_1 ((rd_T94 l0 x13_1).f0) (of_decide_eq_true (by first | (with_reducible assumption) | assumption)) (by first | omega | exact of_decide_eq_true (by first | (with_reducible assumption) | assumption)) (of_decide_eq_true (by first | (with_reducible assumption) | assumption)) HC1.out; have HR679 := Aside0.mk (Kd.C_of_reads (h1 := fun _ => rfl) (hA35 _ (Kd.reads_of_C HR1.out))); have HC679 := Aside0.mk hC35; clear hA35 hC35 hi035 hsz35) | (go_at_call 60; (try rw [← (show ((l1.take (((rd_T94 l0 x13_1).f0) : Int).toNat).drop (x12_1 : Int).toNat).length = (((rd_T94 l0 x13_1).f0).toNat - x12_1.toNat) from (by rw [List.length_drop, List.length_take]; have h_ : (((rd_T94 l0 x13_1).f0) : Int) ≤ (l1.length : Int) := of_decide_eq_true (by first | (with_reducible assumption) | assumption); omega))]); (with_reducible refine (redlineref17_whole.calls k1 _ _ ((l1.take (((rd_T94 l0 x13_1).f0) : Int).toNat).drop (x12_1 : Int).toNat) t680 _ ?side1 ?side2 A15.out).mono ?_); (case side1 => exact Kd.C_below HR679.out (by repeat (first | (with_reducible first | exact HB.out | apply below_alloc | apply pw_below_drewN | apply below_drew1 | refine below_set ?_ GE678.out) | exact HB.out))); (case side2 => exact HC679.out); rintro e w' ⟨rfl, ⟨nd, rfl⟩⟩; (try first | exact ⟨rfl, _, World.drewN_drewN _ _ _⟩ | exact ⟨rfl, _, Eq.trans (World.drewN_drewN _ _ _) (congrArg (World.drewN _) (Nat.add_assoc _ _ _))⟩); obtain ⟨i036, hi036, _, hsz36, _⟩ := info_parts info9; obtain ⟨A36, hcut36, hA36, hC36⟩ := print_mid_of (P := Try.prog) Value.string (⟨#[]⟩ : ByteArray) 27 9 .i64 .i64 Try.underlying27 hi036 hsz36 A1 c1 l1 ((rd_T94 l0 x13_1).f0) (wrap64 (((rd_T94 l0 x13_1).f0) + ((rd_T94 l0 x13_1).f1))) (of_decide_eq_true (by first | (with_reducible assumption) | assumption)) (by first | omega | exact of_decide_eq_true (by first | (with_reducible assumption) | assumption)) (of_decide_eq_true (by first | (with_reducible assumption) | assumption)) HC1.out; have HR681 := Aside0.mk (Kd.C_of_reads (h1 := fun _ => rfl) (hA36 _ (Kd.reads_of_C HR1.out))); have HC681 := Aside0.mk hC36; clear hA36 hC36 hi036 hsz36) | (go_at_call 60; (try rw [← (show ((l1.take ((wrap64 (((rd_T94 l0 x13_1).f0) + ((rd_T94 l0 x13_1).f1))) : Int).toNat).drop (((rd_T94 l0 x13_1).f0) : Int).toNat).length = ((wrap64 (((rd_T94 l0 x13_1).f0) + ((rd_T94 l0 x13_1).f1))).toNat - ((rd_T94 l0 x13_1).f0).toNat) from (by rw [List.length_drop, List.length_take]; have h_ : ((wrap64 (((rd_T94 l0 x13_1).f0) + ((rd_T94 l0 x13_1).f1))) : Int) ≤ (l1.length : Int) := of_decide_eq_true (by first | (with_reducible assumption) | assumption); omega))]); (with_reducible refine (redlineref17_whole.calls k1 _ _ ((l1.take ((wrap64 (((rd_T94 l0 x13_1).f0) + ((rd_T94 l0 x13_1).f1))) : Int).toNat).drop (((rd_T94 l0 x13_1).f0) : Int).toNat) t682 _ ?side1 ?side2 A20.out).mono ?_); (case side1 => exact Kd.C_below HR681.out (by repeat (first | (with_reducible first | exact HB.out | apply below_alloc | apply pw_below_drewN | apply below_drew1 | refine below_set ?_ GE678.out) | exact HB.out))); (case side2 => exact HC681.out); rintro e w' ⟨rfl, ⟨nd, rfl⟩⟩; (try first | exact ⟨rfl, _, World.drewN_drewN _ _ _⟩ | exact ⟨rfl, _, Eq.trans (World.drewN_drewN _ _ _) (congrArg (World.drewN _) (Nat.add_assoc _ _ _))⟩); obtain ⟨i037, hi037, _, hsz37, _⟩ := info_parts info9; obtain ⟨A37, hcut37, hA37, hC37⟩ := print_mid_of (P := Try.prog) Value.string (⟨#[]⟩ : ByteArray) 27 9 .i64 .i64 Try.underlying27 hi037 hsz37 A2 c2 l2 ((rd_T94 l0 x13_1).f2) (wrap64 (((rd_T94 l0 x13_1).f2) + ((rd_T94 l0 x13_1).f3))) (of_decide_eq_true (by first | (with_reducible assumption) | assumption)) (by first | omega | exact of_decide_eq_true (by first | (with_reducible assumption) | assumption)) (of_decide_eq_true (by first | (with_reducible assumption) | assumption)) HC2.out; have HR683 := Aside0.mk (Kd.C_of_reads (h1 := fun _ => rfl) (hA37 _ (Kd.reads_of_C HR2.out))); have HC683 := Aside0.mk hC37; clear hA37 hC37 hi037 hsz37) | (go_at_call 60; (try rw [← (show ((l2.take ((wrap64 (((rd_T94 l0 x13_1).f2) + ((rd_T94 l0 x13_1).f3))) : Int).toNat).drop (((rd_T94 l0 x13_1).f2) : Int).toNat).length = ((wrap64 (((rd_T94 l0 x13_1).f2) + ((rd_T94 l0 x13_1).f3))).toNat - ((rd_T94 l0 x13_1).f2).toNat) from (by rw [List.length_drop, List.length_take]; have h_ : ((wrap64 (((rd_T94 l0 x13_1).f2) + ((rd_T94 l0 x13_1).f3))) : Int) ≤ (l2.length : Int) := of_decide_eq_true (by first | (with_reducible assumption) | assumption); omega))]); (with_reducible refine (redlineref17_whole.calls k1 _ _ ((l2.take ((wrap64 (((rd_T94 l0 x13_1).f2) + ((rd_T94 l0 x13_1).f3))) : Int).toNat).drop (((rd_T94 l0 x13_1).f2) : Int).toNat) t684 _ ?side1 ?side2 A24.out).mono ?_); (case side1 => exact Kd.C_below HR683.out (by repeat (first | (with_reducible first | exact HB.out | apply below_alloc | apply pw_below_drewN | apply below_drew1 | refine below_set ?_ GE678.out) | exact HB.out))); (case side2 => exact HC683.out); rintro e w' ⟨rfl, ⟨nd, rfl⟩⟩; (try first | exact ⟨rfl, _, World.drewN_drewN _ _ _⟩ | exact ⟨rfl, _, Eq.trans (World.drewN_drewN _ _ _) (congrArg (World.drewN _) (Nat.add_assoc _ _ _))⟩))))
                                                  try clear hwq_
                                                  go_roundg k1
                                                  case measure => have := HK1.out; omega
                                                  case rel => exact ⟨((((((((x11_1 ++ t680) ++ (⟨#[35, 105, 102, 110, 100, 101, 102, 32]⟩ : ByteArray)) ++ a3) ++ (⟨#[10]⟩ : ByteArray)) ++ t682) ++ (⟨#[35, 101, 110, 100, 105, 102, 32, 47, 42, 32, 33, 32]⟩ : ByteArray)) ++ a3) ++ (⟨#[32, 42, 47, 10]⟩ : ByteArray)), (wrap64 (((rd_T94 l0 x13_1).f0) + ((rd_T94 l0 x13_1).f1))), (wrap64 (x13_1 + 1)), (by first | rfl | (simp; done) | (simp [*]; done)), (by first | rfl | (simp; done) | (simp [*]; done)), (by first | rfl | (simp; done) | (simp [*]; done)), H', ⟨by have := HK1.out; omega⟩, ⟨by repeat (first | (with_reducible first | exact HB.out | apply below_alloc | apply pw_below_drewN | apply below_drew1 | refine below_set ?_ GE678.out) | exact HB.out)⟩⟩
                                                · rw [if_neg c32] at H
                                                  exact absurd H (by simp)
                                              · rw [if_neg c31] at H
                                                exact absurd H (by simp)
                                            · rw [if_neg c30] at H
                                              exact absurd H (by simp)
                                          · rw [if_neg c29] at H
                                            exact absurd H (by simp)
                                        · rw [if_neg c28] at H
                                          exact absurd H (by simp)
                                      · rw [if_neg c27] at H
                                        exact absurd H (by simp)
                                    · rw [if_neg c26] at H
                                      exact absurd H (by simp)
                                  · rw [if_neg c25] at H
                                    have c25b0 : (((rd_T94 l0 x13_1).f3) == 0) = false := beq_eq_false_iff_ne.mpr c25
                                    have c25b1 : (((rd_T94 l0 x13_1).f3) != 0) = true := bne_iff_ne.mpr c25
                                    by_cases c38 : ((rd_T94 l0 x13_1).f1) = 0
                                    · rw [if_pos c38] at H
                                      have c38b0 : (((rd_T94 l0 x13_1).f1) == 0) = true := beq_iff_eq.mpr c38
                                      have c38b1 : (((rd_T94 l0 x13_1).f1) != 0) = false := bne_eq_false_iff_eq.mpr c38
                                      clear c38
                                      by_cases c39 : (x11_1 ++ t680).size + 7 ≤ 9223372036854775807
                                      · rw [if_pos c39] at H
                                        have c39b0 := eq_true c39
                                        have c39b1 : decide ((x11_1 ++ t680).size + 7 ≤ 9223372036854775807) = true := decide_eq_true c39
                                        try have c39b2 : (9223372036854775807 < (x11_1 ++ t680).size + 7) = False := eq_false (Nat.not_lt.2 c39)
                                        have c39b3 : (9223372036854775807 < x11_1.size + t680.size + 7) = False := eq_false (by have h_ := c39; simp only [ByteArray.size_append] at h_; omega)
                                        by_cases c40 : ((x11_1 ++ t680) ++ (⟨#[35, 105, 102, 100, 101, 102, 32]⟩ : ByteArray)).size + a3.size ≤ 9223372036854775807
                                        · rw [if_pos c40] at H
                                          have c40b0 := eq_true c40
                                          have c40b1 : decide (((x11_1 ++ t680) ++ (⟨#[35, 105, 102, 100, 101, 102, 32]⟩ : ByteArray)).size + a3.size ≤ 9223372036854775807) = true := decide_eq_true c40
                                          try have c40b2 : (9223372036854775807 < ((x11_1 ++ t680) ++ (⟨#[35, 105, 102, 100, 101, 102, 32]⟩ : ByteArray)).size + a3.size) = False := eq_false (Nat.not_lt.2 c40)
                                          have c40b3 : (9223372036854775807 < x11_1.size + t680.size + 7 + a3.size) = False := eq_false (by have h_ := c40; simp only [ByteArray.size_append] at h_; have l0_ : (⟨#[35, 105, 102, 100, 101, 102, 32]⟩ : ByteArray).size = 7 := rfl; omega)
                                          by_cases c41 : (((x11_1 ++ t680) ++ (⟨#[35, 105, 102, 100, 101, 102, 32]⟩ : ByteArray)) ++ a3).size + 1 ≤ 9223372036854775807
                                          · rw [if_pos c41] at H
                                            have c41b0 := eq_true c41
                                            have c41b1 : decide ((((x11_1 ++ t680) ++ (⟨#[35, 105, 102, 100, 101, 102, 32]⟩ : ByteArray)) ++ a3).size + 1 ≤ 9223372036854775807) = true := decide_eq_true c41
                                            try have c41b2 : (9223372036854775807 < (((x11_1 ++ t680) ++ (⟨#[35, 105, 102, 100, 101, 102, 32]⟩ : ByteArray)) ++ a3).size + 1) = False := eq_false (Nat.not_lt.2 c41)
                                            have c41b3 : (9223372036854775807 < x11_1.size + t680.size + 7 + a3.size + 1) = False := eq_false (by have h_ := c41; simp only [ByteArray.size_append] at h_; have l0_ : (⟨#[35, 105, 102, 100, 101, 102, 32]⟩ : ByteArray).size = 7 := rfl; omega)
                                            by_cases c42 : ((((x11_1 ++ t680) ++ (⟨#[35, 105, 102, 100, 101, 102, 32]⟩ : ByteArray)) ++ a3) ++ (⟨#[10]⟩ : ByteArray)).size + t684.size ≤ 9223372036854775807
                                            · rw [if_pos c42] at H
                                              have c42b0 := eq_true c42
                                              have c42b1 : decide (((((x11_1 ++ t680) ++ (⟨#[35, 105, 102, 100, 101, 102, 32]⟩ : ByteArray)) ++ a3) ++ (⟨#[10]⟩ : ByteArray)).size + t684.size ≤ 9223372036854775807) = true := decide_eq_true c42
                                              try have c42b2 : (9223372036854775807 < ((((x11_1 ++ t680) ++ (⟨#[35, 105, 102, 100, 101, 102, 32]⟩ : ByteArray)) ++ a3) ++ (⟨#[10]⟩ : ByteArray)).size + t684.size) = False := eq_false (Nat.not_lt.2 c42)
                                              have c42b3 : (9223372036854775807 < x11_1.size + t680.size + 7 + a3.size + 1 + t684.size) = False := eq_false (by have h_ := c42; simp only [ByteArray.size_append] at h_; have l0_ : (⟨#[10]⟩ : ByteArray).size = 1 := rfl; have l1_ : (⟨#[35, 105, 102, 100, 101, 102, 32]⟩ : ByteArray).size = 7 := rfl; omega)
                                              by_cases c43 : (((((x11_1 ++ t680) ++ (⟨#[35, 105, 102, 100, 101, 102, 32]⟩ : ByteArray)) ++ a3) ++ (⟨#[10]⟩ : ByteArray)) ++ t684).size + 10 ≤ 9223372036854775807
                                              · rw [if_pos c43] at H
                                                have c43b0 := eq_true c43
                                                have c43b1 : decide ((((((x11_1 ++ t680) ++ (⟨#[35, 105, 102, 100, 101, 102, 32]⟩ : ByteArray)) ++ a3) ++ (⟨#[10]⟩ : ByteArray)) ++ t684).size + 10 ≤ 9223372036854775807) = true := decide_eq_true c43
                                                try have c43b2 : (9223372036854775807 < (((((x11_1 ++ t680) ++ (⟨#[35, 105, 102, 100, 101, 102, 32]⟩ : ByteArray)) ++ a3) ++ (⟨#[10]⟩ : ByteArray)) ++ t684).size + 10) = False := eq_false (Nat.not_lt.2 c43)
                                                have c43b3 : (9223372036854775807 < x11_1.size + t680.size + 7 + a3.size + 1 + t684.size + 10) = False := eq_false (by have h_ := c43; simp only [ByteArray.size_append] at h_; have l0_ : (⟨#[10]⟩ : ByteArray).size = 1 := rfl; have l1_ : (⟨#[35, 105, 102, 100, 101, 102, 32]⟩ : ByteArray).size = 7 := rfl; omega)
                                                by_cases c44 : ((((((x11_1 ++ t680) ++ (⟨#[35, 105, 102, 100, 101, 102, 32]⟩ : ByteArray)) ++ a3) ++ (⟨#[10]⟩ : ByteArray)) ++ t684) ++ (⟨#[35, 101, 110, 100, 105, 102, 32, 47, 42, 32]⟩ : ByteArray)).size + a3.size ≤ 9223372036854775807
                                                · rw [if_pos c44] at H
                                                  have c44b0 := eq_true c44
                                                  have c44b1 : decide (((((((x11_1 ++ t680) ++ (⟨#[35, 105, 102, 100, 101, 102, 32]⟩ : ByteArray)) ++ a3) ++ (⟨#[10]⟩ : ByteArray)) ++ t684) ++ (⟨#[35, 101, 110, 100, 105, 102, 32, 47, 42, 32]⟩ : ByteArray)).size + a3.size ≤ 9223372036854775807) = true := decide_eq_true c44
                                                  try have c44b2 : (9223372036854775807 < ((((((x11_1 ++ t680) ++ (⟨#[35, 105, 102, 100, 101, 102, 32]⟩ : ByteArray)) ++ a3) ++ (⟨#[10]⟩ : ByteArray)) ++ t684) ++ (⟨#[35, 101, 110, 100, 105, 102, 32, 47, 42, 32]⟩ : ByteArray)).size + a3.size) = False := eq_false (Nat.not_lt.2 c44)
                                                  have c44b3 : (9223372036854775807 < x11_1.size + t680.size + 7 + a3.size + 1 + t684.size + 10 + a3.size) = False := eq_false (by have h_ := c44; simp only [ByteArray.size_append] at h_; have l0_ : (⟨#[10]⟩ : ByteArray).size = 1 := rfl; have l1_ : (⟨#[35, 101, 110, 100, 105, 102, 32, 47, 42, 32]⟩ : ByteArray).size = 10 := rfl; have l2_ : (⟨#[35, 105, 102, 100, 101, 102, 32]⟩ : ByteArray).size = 7 := rfl; omega)
                                                  by_cases c45 : (((((((x11_1 ++ t680) ++ (⟨#[35, 105, 102, 100, 101, 102, 32]⟩ : ByteArray)) ++ a3) ++ (⟨#[10]⟩ : ByteArray)) ++ t684) ++ (⟨#[35, 101, 110, 100, 105, 102, 32, 47, 42, 32]⟩ : ByteArray)) ++ a3).size + 4 ≤ 9223372036854775807
                                                  · rw [if_pos c45] at H
                                                    have c45b0 := eq_true c45
                                                    have c45b1 : decide ((((((((x11_1 ++ t680) ++ (⟨#[35, 105, 102, 100, 101, 102, 32]⟩ : ByteArray)) ++ a3) ++ (⟨#[10]⟩ : ByteArray)) ++ t684) ++ (⟨#[35, 101, 110, 100, 105, 102, 32, 47, 42, 32]⟩ : ByteArray)) ++ a3).size + 4 ≤ 9223372036854775807) = true := decide_eq_true c45
                                                    try have c45b2 : (9223372036854775807 < (((((((x11_1 ++ t680) ++ (⟨#[35, 105, 102, 100, 101, 102, 32]⟩ : ByteArray)) ++ a3) ++ (⟨#[10]⟩ : ByteArray)) ++ t684) ++ (⟨#[35, 101, 110, 100, 105, 102, 32, 47, 42, 32]⟩ : ByteArray)) ++ a3).size + 4) = False := eq_false (Nat.not_lt.2 c45)
                                                    have c45b3 : (9223372036854775807 < x11_1.size + t680.size + 7 + a3.size + 1 + t684.size + 10 + a3.size + 4) = False := eq_false (by have h_ := c45; simp only [ByteArray.size_append] at h_; have l0_ : (⟨#[10]⟩ : ByteArray).size = 1 := rfl; have l1_ : (⟨#[35, 101, 110, 100, 105, 102, 32, 47, 42, 32]⟩ : ByteArray).size = 10 := rfl; have l2_ : (⟨#[35, 105, 102, 100, 101, 102, 32]⟩ : ByteArray).size = 7 := rfl; omega)
                                                    have H' := Aside0.mk H
                                                    clear H
                                                    have p677 : 0 ≤ (x13_1 : Int) := of_decide_eq_true (by first | (with_reducible assumption) | assumption)
                                                    have q677 : x13_1 < (l0.length : Int) := of_decide_eq_true (by first | (with_reducible assumption) | assumption)
                                                    obtain ⟨ad677, e677, hx677_0, hx677_1, hx677_2, hx677_3⟩ := at_T94 HR0.out x13_1 p677 q677
                                                    cases e677
                                                    replace hx677_0 := (HB.out.cell (World.block_lt_of_cell? w _ hx677_0)).trans hx677_0
                                                    replace hx677_1 := (HB.out.cell (World.block_lt_of_cell? w _ hx677_1)).trans hx677_1
                                                    replace hx677_2 := (HB.out.cell (World.block_lt_of_cell? w _ hx677_2)).trans hx677_2
                                                    replace hx677_3 := (HB.out.cell (World.block_lt_of_cell? w _ hx677_3)).trans hx677_3
                                                    replace p677 := eq_true p677
                                                    replace q677 := eq_true q677
                                                    go_wp2_with (first | ((with_reducible refine gate_dst (N := 14) rfl ?_); refine box_event ?hg (N := 14) ?hd (cs := #[.int .i64 0, .int .i64 0, .int .i64 0, .int .i64 0]) (t := 94) ?hr ?_; (case hd => rfl); (case hg => rfl); (case hr => first | (go_simp; done) | (go_simp; rfl)); intro gb678 hg w46 hbox hb; have n0_ := Aside0.mk (below_step (by repeat (first | (with_reducible first | exact HB.out | apply below_alloc | apply pw_below_drewN | apply below_drew1) | exact HB.out)) hb); have n1_ := Aside0.mk (hbox); have n2_ := Aside0.mk ((by rw [hg]; exact (below_size (by repeat (first | (with_reducible first | exact HB.out | apply below_alloc | apply pw_below_drewN | apply below_drew1) | exact HB.out))) : w.heap.size ≤ gb678)); have n3_ := Aside0.mk ((by rw [hg]; exact (below_size (by repeat (first | (with_reducible first | exact HB.out | apply below_alloc | apply pw_below_drewN | apply below_drew1) | exact HB.out))) : w.heap.size ≤ gb678)); clear HB; have HB := n0_; have BK678 := n1_; have GW678 := n2_; have GE678 := n3_; clear n0_ n1_ n2_ n3_; clear hb hbox hg; have hcz47_0 : w46.cell? ⟨gb678, 0, none⟩ = some (.int .i64 0) := (blk_cell BK678.out 0).trans rfl; have hcz47_1 : w46.cell? ⟨gb678, 1, none⟩ = some (.int .i64 0) := (blk_cell BK678.out 1).trans rfl; have hcz47_2 : w46.cell? ⟨gb678, 2, none⟩ = some (.int .i64 0) := (blk_cell BK678.out 2).trans rfl; have hcz47_3 : w46.cell? ⟨gb678, 3, none⟩ = some (.int .i64 0) := (blk_cell BK678.out 3).trans rfl; have hfz47_0 := blk_frozen BK678.out 0; have hfz47_1 := blk_frozen BK678.out 1; have hfz47_2 := blk_frozen BK678.out 2; have hfz47_3 := blk_frozen BK678.out 3; obtain ⟨i048, hi048, _, hsz48, _⟩ := info_parts info9; obtain ⟨A48, hcut48, hA48, hC48⟩ := print_mid_of (P := Try.prog) Value.string (⟨#[]⟩ : ByteArray) 27 9 .i64 .i64 Try.underlying27 hi048 hsz48 A1 c1 l1 x12_1 ((rd_T94 l0 x13_1).f0) (of_decide_eq_true (by first | (with_reducible assumption) | assumption)) (by first | omega | exact of_decide_eq_true (by first | (with_reducible assumption) | assumption)) (of_decide_eq_true (by first | (with_reducible assumption) | assumption)) HC1.out; have HR679 := Aside0.mk (Kd.C_of_reads (h1 := fun _ => rfl) (hA48 _ (Kd.reads_of_C HR1.out))); have HC679 := Aside0.mk hC48; clear hA48 hC48 hi048 hsz48) | (go_at_call 60; (try rw [← (show ((l1.take (((rd_T94 l0 x13_1).f0) : Int).toNat).drop (x12_1 : Int).toNat).length = (((rd_T94 l0 x13_1).f0).toNat - x12_1.toNat) from (by rw [List.length_drop, List.length_take]; have h_ : (((rd_T94 l0 x13_1).f0) : Int) ≤ (l1.length : Int) := of_decide_eq_true (by first | (with_reducible assumption) | assumption); omega))]); (with_reducible refine (redlineref17_whole.calls k1 _ _ ((l1.take (((rd_T94 l0 x13_1).f0) : Int).toNat).drop (x12_1 : Int).toNat) t680 _ ?side1 ?side2 A15.out).mono ?_); (case side1 => exact Kd.C_below HR679.out (by repeat (first | (with_reducible first | exact HB.out | apply below_alloc | apply pw_below_drewN | apply below_drew1 | refine below_set ?_ GE678.out) | exact HB.out))); (case side2 => exact HC679.out); rintro e w' ⟨rfl, ⟨nd, rfl⟩⟩; (try first | exact ⟨rfl, _, World.drewN_drewN _ _ _⟩ | exact ⟨rfl, _, Eq.trans (World.drewN_drewN _ _ _) (congrArg (World.drewN _) (Nat.add_assoc _ _ _))⟩); obtain ⟨i049, hi049, _, hsz49, _⟩ := info_parts info9; obtain ⟨A49, hcut49, hA49, hC49⟩ := print_mid_of (P := Try.prog) Value.string (⟨#[]⟩ : ByteArray) 27 9 .i64 .i64 Try.underlying27 hi049 hsz49 A1 c1 l1 ((rd_T94 l0 x13_1).f0) (wrap64 (((rd_T94 l0 x13_1).f0) + ((rd_T94 l0 x13_1).f1))) (of_decide_eq_true (by first | (with_reducible assumption) | assumption)) (by first | omega | exact of_decide_eq_true (by first | (with_reducible assumption) | assumption)) (of_decide_eq_true (by first | (with_reducible assumption) | assumption)) HC1.out; have HR681 := Aside0.mk (Kd.C_of_reads (h1 := fun _ => rfl) (hA49 _ (Kd.reads_of_C HR1.out))); have HC681 := Aside0.mk hC49; clear hA49 hC49 hi049 hsz49) | (go_at_call 60; (try rw [← (show ((l1.take ((wrap64 (((rd_T94 l0 x13_1).f0) + ((rd_T94 l0 x13_1).f1))) : Int).toNat).drop (((rd_T94 l0 x13_1).f0) : Int).toNat).length = ((wrap64 (((rd_T94 l0 x13_1).f0) + ((rd_T94 l0 x13_1).f1))).toNat - ((rd_T94 l0 x13_1).f0).toNat) from (by rw [List.length_drop, List.length_take]; have h_ : ((wrap64 (((rd_T94 l0 x13_1).f0) + ((rd_T94 l0 x13_1).f1))) : Int) ≤ (l1.length : Int) := of_decide_eq_true (by first | (with_reducible assumption) | assumption); omega))]); (with_reducible refine (redlineref17_whole.calls k1 _ _ ((l1.take ((wrap64 (((rd_T94 l0 x13_1).f0) + ((rd_T94 l0 x13_1).f1))) : Int).toNat).drop (((rd_T94 l0 x13_1).f0) : Int).toNat) t682 _ ?side1 ?side2 A20.out).mono ?_); (case side1 => exact Kd.C_below HR681.out (by repeat (first | (with_reducible first | exact HB.out | apply below_alloc | apply pw_below_drewN | apply below_drew1 | refine below_set ?_ GE678.out) | exact HB.out))); (case side2 => exact HC681.out); rintro e w' ⟨rfl, ⟨nd, rfl⟩⟩; (try first | exact ⟨rfl, _, World.drewN_drewN _ _ _⟩ | exact ⟨rfl, _, Eq.trans (World.drewN_drewN _ _ _) (congrArg (World.drewN _) (Nat.add_assoc _ _ _))⟩); obtain ⟨i050, hi050, _, hsz50, _⟩ := info_parts info9; obtain ⟨A50, hcut50, hA50, hC50⟩ := print_mid_of (P := Try.prog) Value.string (⟨#[]⟩ : ByteArray) 27 9 .i64 .i64 Try.underlying27 hi050 hsz50 A2 c2 l2 ((rd_T94 l0 x13_1).f2) (wrap64 (((rd_T94 l0 x13_1).f2) + ((rd_T94 l0 x13_1).f3))) (of_decide_eq_true (by first | (with_reducible assumption) | assumption)) (by first | omega | exact of_decide_eq_true (by first | (with_reducible assumption) | assumption)) (of_decide_eq_true (by first | (with_reducible assumption) | assumption)) HC2.out; have HR683 := Aside0.mk (Kd.C_of_reads (h1 := fun _ => rfl) (hA50 _ (Kd.reads_of_C HR2.out))); have HC683 := Aside0.mk hC50; clear hA50 hC50 hi050 hsz50) | (go_at_call 60; (try rw [← (show ((l2.take ((wrap64 (((rd_T94 l0 x13_1).f2) + ((rd_T94 l0 x13_1).f3))) : Int).toNat).drop (((rd_T94 l0 x13_1).f2) : Int).toNat).length = ((wrap64 (((rd_T94 l0 x13_1).f2) + ((rd_T94 l0 x13_1).f3))).toNat - ((rd_T94 l0 x13_1).f2).toNat) from (by rw [List.length_drop, List.length_take]; have h_ : ((wrap64 (((rd_T94 l0 x13_1).f2) + ((rd_T94 l0 x13_1).f3))) : Int) ≤ (l2.length : Int) := of_decide_eq_true (by first | (with_reducible assumption) | assumption); omega))]); (with_reducible refine (redlineref17_whole.calls k1 _ _ ((l2.take ((wrap64 (((rd_T94 l0 x13_1).f2) + ((rd_T94 l0 x13_1).f3))) : Int).toNat).drop (((rd_T94 l0 x13_1).f2) : Int).toNat) t684 _ ?side1 ?side2 A24.out).mono ?_); (case side1 => exact Kd.C_below HR683.out (by repeat (first | (with_reducible first | exact HB.out | apply below_alloc | apply pw_below_drewN | apply below_drew1 | refine below_set ?_ GE678.out) | exact HB.out))); (case side2 => exact HC683.out); rintro e w' ⟨rfl, ⟨nd, rfl⟩⟩; (try first | exact ⟨rfl, _, World.drewN_drewN _ _ _⟩ | exact ⟨rfl, _, Eq.trans (World.drewN_drewN _ _ _) (congrArg (World.drewN _) (Nat.add_assoc _ _ _))⟩)))
                                                    have hwq_ : ∀ x, IntKind.i64.wrap x = wrap64 x := i64_w
                                                    repeat (go_quiet (first | ((with_reducible refine gate_dst (N := 14) rfl ?_); refine box_event ?hg (N := 14) ?hd (cs := #[.int .i64 0, .int .i64 0, .int .i64 0, .int .i64 0]) (t := 94) ?hr ?_; (case hd => rfl); (case hg => rfl); (case hr => first | (go_simp; done) | (go_simp; rfl)); intro gb678 hg w46 hbox hb; have n0_ := Aside0.mk (below_step (by repeat (first | (with_reducible first | exact HB.out | apply below_alloc | apply pw_below_drewN | apply below_drew1) | exact HB.out)) hb); have n1_ := Aside0.mk (hbox); have n2_ := Aside0.mk ((by rw [hg]; exact (below_size (by repeat (first | (with_reducible first | exact HB.out | apply below_alloc | apply pw_below_drewN | apply below_drew1) | exact HB.out))) : w.heap.size ≤ gb678)); have n3_ := Aside0.mk ((by rw [hg]; exact (below_size (by repeat (first | (with_reducible first | exact HB.out | apply below_alloc | apply pw_below_drewN | apply below_drew1) | exact HB.out))) : w.heap.size ≤ gb678)); clear HB; have HB := n0_; have BK678 := n1_; have GW678 := n2_; have GE678 := n3_; clear n0_ n1_ n2_ n3_; clear hb hbox hg; have hcz47_0 : w46.cell? ⟨gb678, 0, none⟩ = some (.int .i64 0) := (blk_cell BK678.out 0).trans rfl; have hcz47_1 : w46.cell? ⟨gb678, 1, none⟩ = some (.int .i64 0) := (blk_cell BK678.out 1).trans rfl; have hcz47_2 : w46.cell? ⟨gb678, 2, none⟩ = some (.int .i64 0) := (blk_cell BK678.out 2).trans rfl; have hcz47_3 : w46.cell? ⟨gb678, 3, none⟩ = some (.int .i64 0) := (blk_cell BK678.out 3).trans rfl; have hfz47_0 := blk_frozen BK678.out 0; have hfz47_1 := blk_frozen BK678.out 1; have hfz47_2 := blk_frozen BK678.out 2; have hfz47_3 := blk_frozen BK678.out 3; obtain ⟨i048, hi048, _, hsz48, _⟩ := info_parts info9; obtain ⟨A48, hcut48, hA48, hC48⟩ := print_mid_of (P := Try.prog) Value.string (⟨#[]⟩ : ByteArray) 27 9 .i64 .i64 Try.underlying27 hi048 hsz48 A1 c1 l1 x12_1 ((rd_T94 l0 x13_1).f0) (of_decide_eq_true (by first | (with_reducible assumption) | assumption)) (by first | omega | exact of_decide_eq_true (by first | (with_reducible assumption) | assumption)) (of_decide_eq_true (by first | (with_reducible assumption) | assumption)) HC1.out; have HR679 := Aside0.mk (Kd.C_of_reads (h1 := fun _ => rfl) (hA48 _ (Kd.reads_of_C HR1.out))); have HC679 := Aside0.mk hC48; clear hA48 hC48 hi048 hsz48) | (go_at_call 60; (try rw [← (show ((l1.take (((rd_T94 l0 x13_1).f0) : Int).toNat).drop (x12_1 : Int).toNat).length = (((rd_T94 l0 x13_1).f0).toNat - x12_1.toNat) from (by rw [List.length_drop, List.length_take]; have h_ : (((rd_T94 l0 x13_1).f0) : Int) ≤ (l1.length : Int) := of_decide_eq_true (by first | (with_reducible assumption) | assumption); omega))]); (with_reducible refine (redlineref17_whole.calls k1 _ _ ((l1.take (((rd_T94 l0 x13_1).f0) : Int).toNat).drop (x12_1 : Int).toNat) t680 _ ?side1 ?side2 A15.out).mono ?_); (case side1 => exact Kd.C_below HR679.out (by repeat (first | (with_reducible first | exact HB.out | apply below_alloc | apply pw_below_drewN | apply below_drew1 | refine below_set ?_ GE678.out) | exact HB.out))); (case side2 => exact HC679.out); rintro e w' ⟨rfl, ⟨nd, rfl⟩⟩; (try first | exact ⟨rfl, _, World.drewN_drewN _ _ _⟩ | exact ⟨rfl, _, Eq.trans (World.drewN_drewN _ _ _) (congrArg (World.drewN _) (Nat.add_assoc _ _ _))⟩); obtain ⟨i049, hi049, _, hsz49, _⟩ := info_parts info9; obtain ⟨A49, hcut49, hA49, hC49⟩ := print_mid_of (P := Try.prog) Value.string (⟨#[]⟩ : ByteArray) 27 9 .i64 .i64 Try.underlying27 hi049 hsz49 A1 c1 l1 ((rd_T94 l0 x13_1).f0) (wrap64 (((rd_T94 l0 x13_1).f0) + ((rd_T94 l0 x13_1).f1))) (of_decide_eq_true (by first | (with_reducible assumption) | assumption)) (by first | omega | exact of_decide_eq_true (by first | (with_reducible assumption) | assumption)) (of_decide_eq_true (by first | (with_reducible assumption) | assumption)) HC1.out; have HR681 := Aside0.mk (Kd.C_of_reads (h1 := fun _ => rfl) (hA49 _ (Kd.reads_of_C HR1.out))); have HC681 := Aside0.mk hC49; clear hA49 hC49 hi049 hsz49) | (go_at_call 60; (try rw [← (show ((l1.take ((wrap64 (((rd_T94 l0 x13_1).f0) + ((rd_T94 l0 x13_1).f1))) : Int).toNat).drop (((rd_T94 l0 x13_1).f0) : Int).toNat).length = ((wrap64 (((rd_T94 l0 x13_1).f0) + ((rd_T94 l0 x13_1).f1))).toNat - ((rd_T94 l0 x13_1).f0).toNat) from (by rw [List.length_drop, List.length_take]; have h_ : ((wrap64 (((rd_T94 l0 x13_1).f0) + ((rd_T94 l0 x13_1).f1))) : Int) ≤ (l1.length : Int) := of_decide_eq_true (by first | (with_reducible assumption) | assumption); omega))]); (with_reducible refine (redlineref17_whole.calls k1 _ _ ((l1.take ((wrap64 (((rd_T94 l0 x13_1).f0) + ((rd_T94 l0 x13_1).f1))) : Int).toNat).drop (((rd_T94 l0 x13_1).f0) : Int).toNat) t682 _ ?side1 ?side2 A20.out).mono ?_); (case side1 => exact Kd.C_below HR681.out (by repeat (first | (with_reducible first | exact HB.out | apply below_alloc | apply pw_below_drewN | apply below_drew1 | refine below_set ?_ GE678.out) | exact HB.out))); (case side2 => exact HC681.out); rintro e w' ⟨rfl, ⟨nd, rfl⟩⟩; (try first | exact ⟨rfl, _, World.drewN_drewN _ _ _⟩ | exact ⟨rfl, _, Eq.trans (World.drewN_drewN _ _ _) (congrArg (World.drewN _) (Nat.add_assoc _ _ _))⟩); obtain ⟨i050, hi050, _, hsz50, _⟩ := info_parts info9; obtain ⟨A50, hcut50, hA50, hC50⟩ := print_mid_of (P := Try.prog) Value.string (⟨#[]⟩ : ByteArray) 27 9 .i64 .i64 Try.underlying27 hi050 hsz50 A2 c2 l2 ((rd_T94 l0 x13_1).f2) (wrap64 (((rd_T94 l0 x13_1).f2) + ((rd_T94 l0 x13_1).f3))) (of_decide_eq_true (by first | (with_reducible assumption) | assumption)) (by first | omega | exact of_decide_eq_true (by first | (with_reducible assumption) | assumption)) (of_decide_eq_true (by first | (with_reducible assumption) | assumption)) HC2.out; have HR683 := Aside0.mk (Kd.C_of_reads (h1 := fun _ => rfl) (hA50 _ (Kd.reads_of_C HR2.out))); have HC683 := Aside0.mk hC50; clear hA50 hC50 hi050 hsz50) | (go_at_call 60; (try rw [← (show ((l2.take ((wrap64 (((rd_T94 l0 x13_1).f2) + ((rd_T94 l0 x13_1).f3))) : Int).toNat).drop (((rd_T94 l0 x13_1).f2) : Int).toNat).length = ((wrap64 (((rd_T94 l0 x13_1).f2) + ((rd_T94 l0 x13_1).f3))).toNat - ((rd_T94 l0 x13_1).f2).toNat) from (by rw [List.length_drop, List.length_take]; have h_ : ((wrap64 (((rd_T94 l0 x13_1).f2) + ((rd_T94 l0 x13_1).f3))) : Int) ≤ (l2.length : Int) := of_decide_eq_true (by first | (with_reducible assumption) | assumption); omega))]); (with_reducible refine (redlineref17_whole.calls k1 _ _ ((l2.take ((wrap64 (((rd_T94 l0 x13_1).f2) + ((rd_T94 l0 x13_1).f3))) : Int).toNat).drop (((rd_T94 l0 x13_1).f2) : Int).toNat) t684 _ ?side1 ?side2 A24.out).mono ?_); (case side1 => exact Kd.C_below HR683.out (by repeat (first | (with_reducible first | exact HB.out | apply below_alloc | apply pw_below_drewN | apply below_drew1 | refine below_set ?_ GE678.out) | exact HB.out))); (case side2 => exact HC683.out); rintro e w' ⟨rfl, ⟨nd, rfl⟩⟩; (try first | exact ⟨rfl, _, World.drewN_drewN _ _ _⟩ | exact ⟨rfl, _, Eq.trans (World.drewN_drewN _ _ _) (congrArg (World.drewN _) (Nat.add_assoc _ _ _))⟩))); try go_wp2_with (first | ((with_reducible refine gate_dst (N := 14) rfl ?_); refine box_event ?hg (N := 14) ?hd (cs := #[.int .i64 0, .int .i64 0, .int .i64 0, .int .i64 0]) (t := 94) ?hr ?_; (case hd => rfl); (case hg => rfl); (case hr => first | (go_simp; done) | (go_simp; rfl)); intro gb678 hg w46 hbox hb; have n0_ := Aside0.mk (below_step (by repeat (first | (with_reducible first | exact HB.out | apply below_alloc | apply pw_below_drewN | apply below_drew1) | exact HB.out)) hb); have n1_ := Aside0.mk (hbox); have n2_ := Aside0.mk ((by rw [hg]; exact (below_size (by repeat (first | (with_reducible first | exact HB.out | apply below_alloc | apply pw_below_drewN | apply below_drew1) | exact HB.out))) : w.heap.size ≤ gb678)); have n3_ := Aside0.mk ((by rw [hg]; exact (below_size (by repeat (first | (with_reducible first | exact HB.out | apply below_alloc | apply pw_below_drewN | apply below_drew1) | exact HB.out))) : w.heap.size ≤ gb678)); clear HB; have HB := n0_; have BK678 := n1_; have GW678 := n2_; have GE678 := n3_; clear n0_ n1_ n2_ n3_; clear hb hbox hg; have hcz47_0 : w46.cell? ⟨gb678, 0, none⟩ = some (.int .i64 0) := (blk_cell BK678.out 0).trans rfl; have hcz47_1 : w46.cell? ⟨gb678, 1, none⟩ = some (.int .i64 0) := (blk_cell BK678.out 1).trans rfl; have hcz47_2 : w46.cell? ⟨gb678, 2, none⟩ = some (.int .i64 0) := (blk_cell BK678.out 2).trans rfl; have hcz47_3 : w46.cell? ⟨gb678, 3, none⟩ = some (.int .i64 0) := (blk_cell BK678.out 3).trans rfl; have hfz47_0 := blk_frozen BK678.out 0; have hfz47_1 := blk_frozen BK678.out 1; have hfz47_2 := blk_frozen BK678.out 2; have hfz47_3 := blk_frozen BK678.out 3; obtain ⟨i048, hi048, _, hsz48, _⟩ := info_parts info9; obtain ⟨A48, hcut48, hA48, hC48⟩ := print_mid_of (P := Try.prog) Value.string (⟨#[]⟩ : ByteArray) 27 9 .i64 .i64 Try.underlying27 hi048 hsz48 A1 c1 l1 x12_1 ((rd_T94 l0 x13_1).f0) (of_decide_eq_true (by first | (with_reducible assumption) | assumption)) (by first | omega | exact of_decide_eq_true (by first | (with_reducible assumption) | assumption)) (of_decide_eq_true (by first | (with_reducible assumption) | assumption)) HC1.out; have HR679 := Aside0.mk (Kd.C_of_reads (h1 := fun _ => rfl) (hA48 _ (Kd.reads_of_C HR1.out))); have HC679 := Aside0.mk hC48; clear hA48 hC48 hi048 hsz48) | (go_at_call 60; (try rw [← (show ((l1.take (((rd_T94 l0 x13_1).f0) : Int).toNat).drop (x12_1 : Int).toNat).length = (((rd_T94 l0 x13_1).f0).toNat - x12_1.toNat) from (by rw [List.length_drop, List.length_take]; have h_ : (((rd_T94 l0 x13_1).f0) : Int) ≤ (l1.length : Int) := of_decide_eq_true (by first | (with_reducible assumption) | assumption); omega))]); (with_reducible refine (redlineref17_whole.calls k1 _ _ ((l1.take (((rd_T94 l0 x13_1).f0) : Int).toNat).drop (x12_1 : Int).toNat) t680 _ ?side1 ?side2 A15.out).mono ?_); (case side1 => exact Kd.C_below HR679.out (by repeat (first | (with_reducible first | exact HB.out | apply below_alloc | apply pw_below_drewN | apply below_drew1 | refine below_set ?_ GE678.out) | exact HB.out))); (case side2 => exact HC679.out); rintro e w' ⟨rfl, ⟨nd, rfl⟩⟩; (try first | exact ⟨rfl, _, World.drewN_drewN _ _ _⟩ | exact ⟨rfl, _, Eq.trans (World.drewN_drewN _ _ _) (congrArg (World.drewN _) (Nat.add_assoc _ _ _))⟩); obtain ⟨i049, hi049, _, hsz49, _⟩ := info_parts info9; obtain ⟨A49, hcut49, hA49, hC49⟩ := print_mid_of (P := Try.prog) Value.string (⟨#[]⟩ : ByteArray) 27 9 .i64 .i64 Try.underlying27 hi049 hsz49 A1 c1 l1 ((rd_T94 l0 x13_1).f0) (wrap64 (((rd_T94 l0 x13_1).f0) + ((rd_T94 l0 x13_1).f1))) (of_decide_eq_true (by first | (with_reducible assumption) | assumption)) (by first | omega | exact of_decide_eq_true (by first | (with_reducible assumption) | assumption)) (of_decide_eq_true (by first | (with_reducible assumption) | assumption)) HC1.out; have HR681 := Aside0.mk (Kd.C_of_reads (h1 := fun _ => rfl) (hA49 _ (Kd.reads_of_C HR1.out))); have HC681 := Aside0.mk hC49; clear hA49 hC49 hi049 hsz49) | (go_at_call 60; (try rw [← (show ((l1.take ((wrap64 (((rd_T94 l0 x13_1).f0) + ((rd_T94 l0 x13_1).f1))) : Int).toNat).drop (((rd_T94 l0 x13_1).f0) : Int).toNat).length = ((wrap64 (((rd_T94 l0 x13_1).f0) + ((rd_T94 l0 x13_1).f1))).toNat - ((rd_T94 l0 x13_1).f0).toNat) from (by rw [List.length_drop, List.length_take]; have h_ : ((wrap64 (((rd_T94 l0 x13_1).f0) + ((rd_T94 l0 x13_1).f1))) : Int) ≤ (l1.length : Int) := of_decide_eq_true (by first | (with_reducible assumption) | assumption); omega))]); (with_reducible refine (redlineref17_whole.calls k1 _ _ ((l1.take ((wrap64 (((rd_T94 l0 x13_1).f0) + ((rd_T94 l0 x13_1).f1))) : Int).toNat).drop (((rd_T94 l0 x13_1).f0) : Int).toNat) t682 _ ?side1 ?side2 A20.out).mono ?_); (case side1 => exact Kd.C_below HR681.out (by repeat (first | (with_reducible first | exact HB.out | apply below_alloc | apply pw_below_drewN | apply below_drew1 | refine below_set ?_ GE678.out) | exact HB.out))); (case side2 => exact HC681.out); rintro e w' ⟨rfl, ⟨nd, rfl⟩⟩; (try first | exact ⟨rfl, _, World.drewN_drewN _ _ _⟩ | exact ⟨rfl, _, Eq.trans (World.drewN_drewN _ _ _) (congrArg (World.drewN _) (Nat.add_assoc _ _ _))⟩); obtain ⟨i050, hi050, _, hsz50, _⟩ := info_parts info9; obtain ⟨A50, hcut50, hA50, hC50⟩ := print_mid_of (P := Try.prog) Value.string (⟨#[]⟩ : ByteArray) 27 9 .i64 .i64 Try.underlying27 hi050 hsz50 A2 c2 l2 ((rd_T94 l0 x13_1).f2) (wrap64 (((rd_T94 l0 x13_1).f2) + ((rd_T94 l0 x13_1).f3))) (of_decide_eq_true (by first | (with_reducible assumption) | assumption)) (by first | omega | exact of_decide_eq_true (by first | (with_reducible assumption) | assumption)) (of_decide_eq_true (by first | (with_reducible assumption) | assumption)) HC2.out; have HR683 := Aside0.mk (Kd.C_of_reads (h1 := fun _ => rfl) (hA50 _ (Kd.reads_of_C HR2.out))); have HC683 := Aside0.mk hC50; clear hA50 hC50 hi050 hsz50) | (go_at_call 60; (try rw [← (show ((l2.take ((wrap64 (((rd_T94 l0 x13_1).f2) + ((rd_T94 l0 x13_1).f3))) : Int).toNat).drop (((rd_T94 l0 x13_1).f2) : Int).toNat).length = ((wrap64 (((rd_T94 l0 x13_1).f2) + ((rd_T94 l0 x13_1).f3))).toNat - ((rd_T94 l0 x13_1).f2).toNat) from (by rw [List.length_drop, List.length_take]; have h_ : ((wrap64 (((rd_T94 l0 x13_1).f2) + ((rd_T94 l0 x13_1).f3))) : Int) ≤ (l2.length : Int) := of_decide_eq_true (by first | (with_reducible assumption) | assumption); omega))]); (with_reducible refine (redlineref17_whole.calls k1 _ _ ((l2.take ((wrap64 (((rd_T94 l0 x13_1).f2) + ((rd_T94 l0 x13_1).f3))) : Int).toNat).drop (((rd_T94 l0 x13_1).f2) : Int).toNat) t684 _ ?side1 ?side2 A24.out).mono ?_); (case side1 => exact Kd.C_below HR683.out (by repeat (first | (with_reducible first | exact HB.out | apply below_alloc | apply pw_below_drewN | apply below_drew1 | refine below_set ?_ GE678.out) | exact HB.out))); (case side2 => exact HC683.out); rintro e w' ⟨rfl, ⟨nd, rfl⟩⟩; (try first | exact ⟨rfl, _, World.drewN_drewN _ _ _⟩ | exact ⟨rfl, _, Eq.trans (World.drewN_drewN _ _ _) (congrArg (World.drewN _) (Nat.add_assoc _ _ _))⟩))))
                                                    try clear hwq_
                                                    go_roundg k1
                                                    case measure => have := HK1.out; omega
                                                    case rel => exact ⟨((((((((x11_1 ++ t680) ++ (⟨#[35, 105, 102, 100, 101, 102, 32]⟩ : ByteArray)) ++ a3) ++ (⟨#[10]⟩ : ByteArray)) ++ t684) ++ (⟨#[35, 101, 110, 100, 105, 102, 32, 47, 42, 32]⟩ : ByteArray)) ++ a3) ++ (⟨#[32, 42, 47, 10]⟩ : ByteArray)), (wrap64 (((rd_T94 l0 x13_1).f0) + ((rd_T94 l0 x13_1).f1))), (wrap64 (x13_1 + 1)), (by first | rfl | (simp; done) | (simp [*]; done)), (by first | rfl | (simp; done) | (simp [*]; done)), (by first | rfl | (simp; done) | (simp [*]; done)), H', ⟨by have := HK1.out; omega⟩, ⟨by repeat (first | (with_reducible first | exact HB.out | apply below_alloc | apply pw_below_drewN | apply below_drew1 | refine below_set ?_ GE678.out) | exact HB.out)⟩⟩
                                                  · rw [if_neg c45] at H
                                                    exact absurd H (by simp)
                                                · rw [if_neg c44] at H
                                                  exact absurd H (by simp)
                                              · rw [if_neg c43] at H
                                                exact absurd H (by simp)
                                            · rw [if_neg c42] at H
                                              exact absurd H (by simp)
                                          · rw [if_neg c41] at H
                                            exact absurd H (by simp)
                                        · rw [if_neg c40] at H
                                          exact absurd H (by simp)
                                      · rw [if_neg c39] at H
                                        exact absurd H (by simp)
                                    · rw [if_neg c38] at H
                                      have c38b0 : (((rd_T94 l0 x13_1).f1) == 0) = false := beq_eq_false_iff_ne.mpr c38
                                      have c38b1 : (((rd_T94 l0 x13_1).f1) != 0) = true := bne_iff_ne.mpr c38
                                      by_cases c51 : (x11_1 ++ t680).size + 8 ≤ 9223372036854775807
                                      · rw [if_pos c51] at H
                                        have c51b0 := eq_true c51
                                        have c51b1 : decide ((x11_1 ++ t680).size + 8 ≤ 9223372036854775807) = true := decide_eq_true c51
                                        try have c51b2 : (9223372036854775807 < (x11_1 ++ t680).size + 8) = False := eq_false (Nat.not_lt.2 c51)
                                        have c51b3 : (9223372036854775807 < x11_1.size + t680.size + 8) = False := eq_false (by have h_ := c51; simp only [ByteArray.size_append] at h_; omega)
                                        by_cases c52 : ((x11_1 ++ t680) ++ (⟨#[35, 105, 102, 110, 100, 101, 102, 32]⟩ : ByteArray)).size + a3.size ≤ 9223372036854775807
                                        · rw [if_pos c52] at H
                                          have c52b0 := eq_true c52
                                          have c52b1 : decide (((x11_1 ++ t680) ++ (⟨#[35, 105, 102, 110, 100, 101, 102, 32]⟩ : ByteArray)).size + a3.size ≤ 9223372036854775807) = true := decide_eq_true c52
                                          try have c52b2 : (9223372036854775807 < ((x11_1 ++ t680) ++ (⟨#[35, 105, 102, 110, 100, 101, 102, 32]⟩ : ByteArray)).size + a3.size) = False := eq_false (Nat.not_lt.2 c52)
                                          have c52b3 : (9223372036854775807 < x11_1.size + t680.size + 8 + a3.size) = False := eq_false (by have h_ := c52; simp only [ByteArray.size_append] at h_; have l0_ : (⟨#[35, 105, 102, 110, 100, 101, 102, 32]⟩ : ByteArray).size = 8 := rfl; omega)
                                          by_cases c53 : (((x11_1 ++ t680) ++ (⟨#[35, 105, 102, 110, 100, 101, 102, 32]⟩ : ByteArray)) ++ a3).size + 1 ≤ 9223372036854775807
                                          · rw [if_pos c53] at H
                                            have c53b0 := eq_true c53
                                            have c53b1 : decide ((((x11_1 ++ t680) ++ (⟨#[35, 105, 102, 110, 100, 101, 102, 32]⟩ : ByteArray)) ++ a3).size + 1 ≤ 9223372036854775807) = true := decide_eq_true c53
                                            try have c53b2 : (9223372036854775807 < (((x11_1 ++ t680) ++ (⟨#[35, 105, 102, 110, 100, 101, 102, 32]⟩ : ByteArray)) ++ a3).size + 1) = False := eq_false (Nat.not_lt.2 c53)
                                            have c53b3 : (9223372036854775807 < x11_1.size + t680.size + 8 + a3.size + 1) = False := eq_false (by have h_ := c53; simp only [ByteArray.size_append] at h_; have l0_ : (⟨#[35, 105, 102, 110, 100, 101, 102, 32]⟩ : ByteArray).size = 8 := rfl; omega)
                                            by_cases c54 : ((((x11_1 ++ t680) ++ (⟨#[35, 105, 102, 110, 100, 101, 102, 32]⟩ : ByteArray)) ++ a3) ++ (⟨#[10]⟩ : ByteArray)).size + t682.size ≤ 9223372036854775807
                                            · rw [if_pos c54] at H
                                              have c54b0 := eq_true c54
                                              have c54b1 : decide (((((x11_1 ++ t680) ++ (⟨#[35, 105, 102, 110, 100, 101, 102, 32]⟩ : ByteArray)) ++ a3) ++ (⟨#[10]⟩ : ByteArray)).size + t682.size ≤ 9223372036854775807) = true := decide_eq_true c54
                                              try have c54b2 : (9223372036854775807 < ((((x11_1 ++ t680) ++ (⟨#[35, 105, 102, 110, 100, 101, 102, 32]⟩ : ByteArray)) ++ a3) ++ (⟨#[10]⟩ : ByteArray)).size + t682.size) = False := eq_false (Nat.not_lt.2 c54)
                                              have c54b3 : (9223372036854775807 < x11_1.size + t680.size + 8 + a3.size + 1 + t682.size) = False := eq_false (by have h_ := c54; simp only [ByteArray.size_append] at h_; have l0_ : (⟨#[10]⟩ : ByteArray).size = 1 := rfl; have l1_ : (⟨#[35, 105, 102, 110, 100, 101, 102, 32]⟩ : ByteArray).size = 8 := rfl; omega)
                                              by_cases c55 : (((((x11_1 ++ t680) ++ (⟨#[35, 105, 102, 110, 100, 101, 102, 32]⟩ : ByteArray)) ++ a3) ++ (⟨#[10]⟩ : ByteArray)) ++ t682).size + 9 ≤ 9223372036854775807
                                              · rw [if_pos c55] at H
                                                have c55b0 := eq_true c55
                                                have c55b1 : decide ((((((x11_1 ++ t680) ++ (⟨#[35, 105, 102, 110, 100, 101, 102, 32]⟩ : ByteArray)) ++ a3) ++ (⟨#[10]⟩ : ByteArray)) ++ t682).size + 9 ≤ 9223372036854775807) = true := decide_eq_true c55
                                                try have c55b2 : (9223372036854775807 < (((((x11_1 ++ t680) ++ (⟨#[35, 105, 102, 110, 100, 101, 102, 32]⟩ : ByteArray)) ++ a3) ++ (⟨#[10]⟩ : ByteArray)) ++ t682).size + 9) = False := eq_false (Nat.not_lt.2 c55)
                                                have c55b3 : (9223372036854775807 < x11_1.size + t680.size + 8 + a3.size + 1 + t682.size + 9) = False := eq_false (by have h_ := c55; simp only [ByteArray.size_append] at h_; have l0_ : (⟨#[10]⟩ : ByteArray).size = 1 := rfl; have l1_ : (⟨#[35, 105, 102, 110, 100, 101, 102, 32]⟩ : ByteArray).size = 8 := rfl; omega)
                                                by_cases c56 : ((((((x11_1 ++ t680) ++ (⟨#[35, 105, 102, 110, 100, 101, 102, 32]⟩ : ByteArray)) ++ a3) ++ (⟨#[10]⟩ : ByteArray)) ++ t682) ++ (⟨#[35, 101, 108, 115, 101, 32, 47, 42, 32]⟩ : ByteArray)).size + a3.size ≤ 9223372036854775807
                                                · rw [if_pos c56] at H
                                                  have c56b0 := eq_true c56
                                                  have c56b1 : decide (((((((x11_1 ++ t680) ++ (⟨#[35, 105, 102, 110, 100, 101, 102, 32]⟩ : ByteArray)) ++ a3) ++ (⟨#[10]⟩ : ByteArray)) ++ t682) ++ (⟨#[35, 101, 108, 115, 101, 32, 47, 42, 32]⟩ : ByteArray)).size + a3.size ≤ 9223372036854775807) = true := decide_eq_true c56
                                                  try have c56b2 : (9223372036854775807 < ((((((x11_1 ++ t680) ++ (⟨#[35, 105, 102, 110, 100, 101, 102, 32]⟩ : ByteArray)) ++ a3) ++ (⟨#[10]⟩ : ByteArray)) ++ t682) ++ (⟨#[35, 101, 108, 115, 101, 32, 47, 42, 32]⟩ : ByteArray)).size + a3.size) = False := eq_false (Nat.not_lt.2 c56)
                                                  have c56b3 : (9223372036854775807 < x11_1.size + t680.size + 8 + a3.size + 1 + t682.size + 9 + a3.size) = False := eq_false (by have h_ := c56; simp only [ByteArray.size_append] at h_; have l0_ : (⟨#[10]⟩ : ByteArray).size = 1 := rfl; have l1_ : (⟨#[35, 101, 108, 115, 101, 32, 47, 42, 32]⟩ : ByteArray).size = 9 := rfl; have l2_ : (⟨#[35, 105, 102, 110, 100, 101, 102, 32]⟩ : ByteArray).size = 8 := rfl; omega)
                                                  by_cases c57 : (((((((x11_1 ++ t680) ++ (⟨#[35, 105, 102, 110, 100, 101, 102, 32]⟩ : ByteArray)) ++ a3) ++ (⟨#[10]⟩ : ByteArray)) ++ t682) ++ (⟨#[35, 101, 108, 115, 101, 32, 47, 42, 32]⟩ : ByteArray)) ++ a3).size + 4 ≤ 9223372036854775807
                                                  · rw [if_pos c57] at H
                                                    have c57b0 := eq_true c57
                                                    have c57b1 : decide ((((((((x11_1 ++ t680) ++ (⟨#[35, 105, 102, 110, 100, 101, 102, 32]⟩ : ByteArray)) ++ a3) ++ (⟨#[10]⟩ : ByteArray)) ++ t682) ++ (⟨#[35, 101, 108, 115, 101, 32, 47, 42, 32]⟩ : ByteArray)) ++ a3).size + 4 ≤ 9223372036854775807) = true := decide_eq_true c57
                                                    try have c57b2 : (9223372036854775807 < (((((((x11_1 ++ t680) ++ (⟨#[35, 105, 102, 110, 100, 101, 102, 32]⟩ : ByteArray)) ++ a3) ++ (⟨#[10]⟩ : ByteArray)) ++ t682) ++ (⟨#[35, 101, 108, 115, 101, 32, 47, 42, 32]⟩ : ByteArray)) ++ a3).size + 4) = False := eq_false (Nat.not_lt.2 c57)
                                                    have c57b3 : (9223372036854775807 < x11_1.size + t680.size + 8 + a3.size + 1 + t682.size + 9 + a3.size + 4) = False := eq_false (by have h_ := c57; simp only [ByteArray.size_append] at h_; have l0_ : (⟨#[10]⟩ : ByteArray).size = 1 := rfl; have l1_ : (⟨#[35, 101, 108, 115, 101, 32, 47, 42, 32]⟩ : ByteArray).size = 9 := rfl; have l2_ : (⟨#[35, 105, 102, 110, 100, 101, 102, 32]⟩ : ByteArray).size = 8 := rfl; omega)
                                                    by_cases c58 : ((((((((x11_1 ++ t680) ++ (⟨#[35, 105, 102, 110, 100, 101, 102, 32]⟩ : ByteArray)) ++ a3) ++ (⟨#[10]⟩ : ByteArray)) ++ t682) ++ (⟨#[35, 101, 108, 115, 101, 32, 47, 42, 32]⟩ : ByteArray)) ++ a3) ++ (⟨#[32, 42, 47, 10]⟩ : ByteArray)).size + t684.size ≤ 9223372036854775807
                                                    · rw [if_pos c58] at H
                                                      have c58b0 := eq_true c58
                                                      have c58b1 : decide (((((((((x11_1 ++ t680) ++ (⟨#[35, 105, 102, 110, 100, 101, 102, 32]⟩ : ByteArray)) ++ a3) ++ (⟨#[10]⟩ : ByteArray)) ++ t682) ++ (⟨#[35, 101, 108, 115, 101, 32, 47, 42, 32]⟩ : ByteArray)) ++ a3) ++ (⟨#[32, 42, 47, 10]⟩ : ByteArray)).size + t684.size ≤ 9223372036854775807) = true := decide_eq_true c58
                                                      try have c58b2 : (9223372036854775807 < ((((((((x11_1 ++ t680) ++ (⟨#[35, 105, 102, 110, 100, 101, 102, 32]⟩ : ByteArray)) ++ a3) ++ (⟨#[10]⟩ : ByteArray)) ++ t682) ++ (⟨#[35, 101, 108, 115, 101, 32, 47, 42, 32]⟩ : ByteArray)) ++ a3) ++ (⟨#[32, 42, 47, 10]⟩ : ByteArray)).size + t684.size) = False := eq_false (Nat.not_lt.2 c58)
                                                      have c58b3 : (9223372036854775807 < x11_1.size + t680.size + 8 + a3.size + 1 + t682.size + 9 + a3.size + 4 + t684.size) = False := eq_false (by have h_ := c58; simp only [ByteArray.size_append] at h_; have l0_ : (⟨#[10]⟩ : ByteArray).size = 1 := rfl; have l1_ : (⟨#[32, 42, 47, 10]⟩ : ByteArray).size = 4 := rfl; have l2_ : (⟨#[35, 101, 108, 115, 101, 32, 47, 42, 32]⟩ : ByteArray).size = 9 := rfl; have l3_ : (⟨#[35, 105, 102, 110, 100, 101, 102, 32]⟩ : ByteArray).size = 8 := rfl; omega)
                                                      by_cases c59 : (((((((((x11_1 ++ t680) ++ (⟨#[35, 105, 102, 110, 100, 101, 102, 32]⟩ : ByteArray)) ++ a3) ++ (⟨#[10]⟩ : ByteArray)) ++ t682) ++ (⟨#[35, 101, 108, 115, 101, 32, 47, 42, 32]⟩ : ByteArray)) ++ a3) ++ (⟨#[32, 42, 47, 10]⟩ : ByteArray)) ++ t684).size + 10 ≤ 9223372036854775807
                                                      · rw [if_pos c59] at H
                                                        have c59b0 := eq_true c59
                                                        have c59b1 : decide ((((((((((x11_1 ++ t680) ++ (⟨#[35, 105, 102, 110, 100, 101, 102, 32]⟩ : ByteArray)) ++ a3) ++ (⟨#[10]⟩ : ByteArray)) ++ t682) ++ (⟨#[35, 101, 108, 115, 101, 32, 47, 42, 32]⟩ : ByteArray)) ++ a3) ++ (⟨#[32, 42, 47, 10]⟩ : ByteArray)) ++ t684).size + 10 ≤ 9223372036854775807) = true := decide_eq_true c59
                                                        try have c59b2 : (9223372036854775807 < (((((((((x11_1 ++ t680) ++ (⟨#[35, 105, 102, 110, 100, 101, 102, 32]⟩ : ByteArray)) ++ a3) ++ (⟨#[10]⟩ : ByteArray)) ++ t682) ++ (⟨#[35, 101, 108, 115, 101, 32, 47, 42, 32]⟩ : ByteArray)) ++ a3) ++ (⟨#[32, 42, 47, 10]⟩ : ByteArray)) ++ t684).size + 10) = False := eq_false (Nat.not_lt.2 c59)
                                                        have c59b3 : (9223372036854775807 < x11_1.size + t680.size + 8 + a3.size + 1 + t682.size + 9 + a3.size + 4 + t684.size + 10) = False := eq_false (by have h_ := c59; simp only [ByteArray.size_append] at h_; have l0_ : (⟨#[10]⟩ : ByteArray).size = 1 := rfl; have l1_ : (⟨#[32, 42, 47, 10]⟩ : ByteArray).size = 4 := rfl; have l2_ : (⟨#[35, 101, 108, 115, 101, 32, 47, 42, 32]⟩ : ByteArray).size = 9 := rfl; have l3_ : (⟨#[35, 105, 102, 110, 100, 101, 102, 32]⟩ : ByteArray).size = 8 := rfl; omega)
                                                        by_cases c60 : ((((((((((x11_1 ++ t680) ++ (⟨#[35, 105, 102, 110, 100, 101, 102, 32]⟩ : ByteArray)) ++ a3) ++ (⟨#[10]⟩ : ByteArray)) ++ t682) ++ (⟨#[35, 101, 108, 115, 101, 32, 47, 42, 32]⟩ : ByteArray)) ++ a3) ++ (⟨#[32, 42, 47, 10]⟩ : ByteArray)) ++ t684) ++ (⟨#[35, 101, 110, 100, 105, 102, 32, 47, 42, 32]⟩ : ByteArray)).size + a3.size ≤ 9223372036854775807
                                                        · rw [if_pos c60] at H
                                                          have c60b0 := eq_true c60
                                                          have c60b1 : decide (((((((((((x11_1 ++ t680) ++ (⟨#[35, 105, 102, 110, 100, 101, 102, 32]⟩ : ByteArray)) ++ a3) ++ (⟨#[10]⟩ : ByteArray)) ++ t682) ++ (⟨#[35, 101, 108, 115, 101, 32, 47, 42, 32]⟩ : ByteArray)) ++ a3) ++ (⟨#[32, 42, 47, 10]⟩ : ByteArray)) ++ t684) ++ (⟨#[35, 101, 110, 100, 105, 102, 32, 47, 42, 32]⟩ : ByteArray)).size + a3.size ≤ 9223372036854775807) = true := decide_eq_true c60
                                                          try have c60b2 : (9223372036854775807 < ((((((((((x11_1 ++ t680) ++ (⟨#[35, 105, 102, 110, 100, 101, 102, 32]⟩ : ByteArray)) ++ a3) ++ (⟨#[10]⟩ : ByteArray)) ++ t682) ++ (⟨#[35, 101, 108, 115, 101, 32, 47, 42, 32]⟩ : ByteArray)) ++ a3) ++ (⟨#[32, 42, 47, 10]⟩ : ByteArray)) ++ t684) ++ (⟨#[35, 101, 110, 100, 105, 102, 32, 47, 42, 32]⟩ : ByteArray)).size + a3.size) = False := eq_false (Nat.not_lt.2 c60)
                                                          have c60b3 : (9223372036854775807 < x11_1.size + t680.size + 8 + a3.size + 1 + t682.size + 9 + a3.size + 4 + t684.size + 10 + a3.size) = False := eq_false (by have h_ := c60; simp only [ByteArray.size_append] at h_; have l0_ : (⟨#[10]⟩ : ByteArray).size = 1 := rfl; have l1_ : (⟨#[32, 42, 47, 10]⟩ : ByteArray).size = 4 := rfl; have l2_ : (⟨#[35, 101, 108, 115, 101, 32, 47, 42, 32]⟩ : ByteArray).size = 9 := rfl; have l3_ : (⟨#[35, 101, 110, 100, 105, 102, 32, 47, 42, 32]⟩ : ByteArray).size = 10 := rfl; have l4_ : (⟨#[35, 105, 102, 110, 100, 101, 102, 32]⟩ : ByteArray).size = 8 := rfl; omega)
                                                          by_cases c61 : (((((((((((x11_1 ++ t680) ++ (⟨#[35, 105, 102, 110, 100, 101, 102, 32]⟩ : ByteArray)) ++ a3) ++ (⟨#[10]⟩ : ByteArray)) ++ t682) ++ (⟨#[35, 101, 108, 115, 101, 32, 47, 42, 32]⟩ : ByteArray)) ++ a3) ++ (⟨#[32, 42, 47, 10]⟩ : ByteArray)) ++ t684) ++ (⟨#[35, 101, 110, 100, 105, 102, 32, 47, 42, 32]⟩ : ByteArray)) ++ a3).size + 4 ≤ 9223372036854775807
                                                          · rw [if_pos c61] at H
                                                            have c61b0 := eq_true c61
                                                            have c61b1 : decide ((((((((((((x11_1 ++ t680) ++ (⟨#[35, 105, 102, 110, 100, 101, 102, 32]⟩ : ByteArray)) ++ a3) ++ (⟨#[10]⟩ : ByteArray)) ++ t682) ++ (⟨#[35, 101, 108, 115, 101, 32, 47, 42, 32]⟩ : ByteArray)) ++ a3) ++ (⟨#[32, 42, 47, 10]⟩ : ByteArray)) ++ t684) ++ (⟨#[35, 101, 110, 100, 105, 102, 32, 47, 42, 32]⟩ : ByteArray)) ++ a3).size + 4 ≤ 9223372036854775807) = true := decide_eq_true c61
                                                            try have c61b2 : (9223372036854775807 < (((((((((((x11_1 ++ t680) ++ (⟨#[35, 105, 102, 110, 100, 101, 102, 32]⟩ : ByteArray)) ++ a3) ++ (⟨#[10]⟩ : ByteArray)) ++ t682) ++ (⟨#[35, 101, 108, 115, 101, 32, 47, 42, 32]⟩ : ByteArray)) ++ a3) ++ (⟨#[32, 42, 47, 10]⟩ : ByteArray)) ++ t684) ++ (⟨#[35, 101, 110, 100, 105, 102, 32, 47, 42, 32]⟩ : ByteArray)) ++ a3).size + 4) = False := eq_false (Nat.not_lt.2 c61)
                                                            have c61b3 : (9223372036854775807 < x11_1.size + t680.size + 8 + a3.size + 1 + t682.size + 9 + a3.size + 4 + t684.size + 10 + a3.size + 4) = False := eq_false (by have h_ := c61; simp only [ByteArray.size_append] at h_; have l0_ : (⟨#[10]⟩ : ByteArray).size = 1 := rfl; have l1_ : (⟨#[32, 42, 47, 10]⟩ : ByteArray).size = 4 := rfl; have l2_ : (⟨#[35, 101, 108, 115, 101, 32, 47, 42, 32]⟩ : ByteArray).size = 9 := rfl; have l3_ : (⟨#[35, 101, 110, 100, 105, 102, 32, 47, 42, 32]⟩ : ByteArray).size = 10 := rfl; have l4_ : (⟨#[35, 105, 102, 110, 100, 101, 102, 32]⟩ : ByteArray).size = 8 := rfl; omega)
                                                            have H' := Aside0.mk H
                                                            clear H
                                                            have p677 : 0 ≤ (x13_1 : Int) := of_decide_eq_true (by first | (with_reducible assumption) | assumption)
                                                            have q677 : x13_1 < (l0.length : Int) := of_decide_eq_true (by first | (with_reducible assumption) | assumption)
                                                            obtain ⟨ad677, e677, hx677_0, hx677_1, hx677_2, hx677_3⟩ := at_T94 HR0.out x13_1 p677 q677
                                                            cases e677
                                                            replace hx677_0 := (HB.out.cell (World.block_lt_of_cell? w _ hx677_0)).trans hx677_0
                                                            replace hx677_1 := (HB.out.cell (World.block_lt_of_cell? w _ hx677_1)).trans hx677_1
                                                            replace hx677_2 := (HB.out.cell (World.block_lt_of_cell? w _ hx677_2)).trans hx677_2
                                                            replace hx677_3 := (HB.out.cell (World.block_lt_of_cell? w _ hx677_3)).trans hx677_3
                                                            replace p677 := eq_true p677
                                                            replace q677 := eq_true q677
                                                            go_wp2_with (first | ((with_reducible refine gate_dst (N := 14) rfl ?_); refine box_event ?hg (N := 14) ?hd (cs := #[.int .i64 0, .int .i64 0, .int .i64 0, .int .i64 0]) (t := 94) ?hr ?_; (case hd => rfl); (case hg => rfl); (case hr => first | (go_simp; done) | (go_simp; rfl)); intro gb678 hg w62 hbox hb; have n0_ := Aside0.mk (below_step (by repeat (first | (with_reducible first | exact HB.out | apply below_alloc | apply pw_below_drewN | apply below_drew1) | exact HB.out)) hb); have n1_ := Aside0.mk (hbox); have n2_ := Aside0.mk ((by rw [hg]; exact (below_size (by repeat (first | (with_reducible first | exact HB.out | apply below_alloc | apply pw_below_drewN | apply below_drew1) | exact HB.out))) : w.heap.size ≤ gb678)); have n3_ := Aside0.mk ((by rw [hg]; exact (below_size (by repeat (first | (with_reducible first | exact HB.out | apply below_alloc | apply pw_below_drewN | apply below_drew1) | exact HB.out))) : w.heap.size ≤ gb678)); clear HB; have HB := n0_; have BK678 := n1_; have GW678 := n2_; have GE678 := n3_; clear n0_ n1_ n2_ n3_; clear hb hbox hg; have hcz63_0 : w62.cell? ⟨gb678, 0, none⟩ = some (.int .i64 0) := (blk_cell BK678.out 0).trans rfl; have hcz63_1 : w62.cell? ⟨gb678, 1, none⟩ = some (.int .i64 0) := (blk_cell BK678.out 1).trans rfl; have hcz63_2 : w62.cell? ⟨gb678, 2, none⟩ = some (.int .i64 0) := (blk_cell BK678.out 2).trans rfl; have hcz63_3 : w62.cell? ⟨gb678, 3, none⟩ = some (.int .i64 0) := (blk_cell BK678.out 3).trans rfl; have hfz63_0 := blk_frozen BK678.out 0; have hfz63_1 := blk_frozen BK678.out 1; have hfz63_2 := blk_frozen BK678.out 2; have hfz63_3 := blk_frozen BK678.out 3; obtain ⟨i064, hi064, _, hsz64, _⟩ := info_parts info9; obtain ⟨A64, hcut64, hA64, hC64⟩ := print_mid_of (P := Try.prog) Value.string (⟨#[]⟩ : ByteArray) 27 9 .i64 .i64 Try.underlying27 hi064 hsz64 A1 c1 l1 x12_1 ((rd_T94 l0 x13_1).f0) (of_decide_eq_true (by first | (with_reducible assumption) | assumption)) (by first | omega | exact of_decide_eq_true (by first | (with_reducible assumption) | assumption)) (of_decide_eq_true (by first | (with_reducible assumption) | assumption)) HC1.out; have HR679 := Aside0.mk (Kd.C_of_reads (h1 := fun _ => rfl) (hA64 _ (Kd.reads_of_C HR1.out))); have HC679 := Aside0.mk hC64; clear hA64 hC64 hi064 hsz64) | (go_at_call 60; (try rw [← (show ((l1.take (((rd_T94 l0 x13_1).f0) : Int).toNat).drop (x12_1 : Int).toNat).length = (((rd_T94 l0 x13_1).f0).toNat - x12_1.toNat) from (by rw [List.length_drop, List.length_take]; have h_ : (((rd_T94 l0 x13_1).f0) : Int) ≤ (l1.length : Int) := of_decide_eq_true (by first | (with_reducible assumption) | assumption); omega))]); (with_reducible refine (redlineref17_whole.calls k1 _ _ ((l1.take (((rd_T94 l0 x13_1).f0) : Int).toNat).drop (x12_1 : Int).toNat) t680 _ ?side1 ?side2 A15.out).mono ?_); (case side1 => exact Kd.C_below HR679.out (by repeat (first | (with_reducible first | exact HB.out | apply below_alloc | apply pw_below_drewN | apply below_drew1 | refine below_set ?_ GE678.out) | exact HB.out))); (case side2 => exact HC679.out); rintro e w' ⟨rfl, ⟨nd, rfl⟩⟩; (try first | exact ⟨rfl, _, World.drewN_drewN _ _ _⟩ | exact ⟨rfl, _, Eq.trans (World.drewN_drewN _ _ _) (congrArg (World.drewN _) (Nat.add_assoc _ _ _))⟩); obtain ⟨i065, hi065, _, hsz65, _⟩ := info_parts info9; obtain ⟨A65, hcut65, hA65, hC65⟩ := print_mid_of (P := Try.prog) Value.string (⟨#[]⟩ : ByteArray) 27 9 .i64 .i64 Try.underlying27 hi065 hsz65 A1 c1 l1 ((rd_T94 l0 x13_1).f0) (wrap64 (((rd_T94 l0 x13_1).f0) + ((rd_T94 l0 x13_1).f1))) (of_decide_eq_true (by first | (with_reducible assumption) | assumption)) (by first | omega | exact of_decide_eq_true (by first | (with_reducible assumption) | assumption)) (of_decide_eq_true (by first | (with_reducible assumption) | assumption)) HC1.out; have HR681 := Aside0.mk (Kd.C_of_reads (h1 := fun _ => rfl) (hA65 _ (Kd.reads_of_C HR1.out))); have HC681 := Aside0.mk hC65; clear hA65 hC65 hi065 hsz65) | (go_at_call 60; (try rw [← (show ((l1.take ((wrap64 (((rd_T94 l0 x13_1).f0) + ((rd_T94 l0 x13_1).f1))) : Int).toNat).drop (((rd_T94 l0 x13_1).f0) : Int).toNat).length = ((wrap64 (((rd_T94 l0 x13_1).f0) + ((rd_T94 l0 x13_1).f1))).toNat - ((rd_T94 l0 x13_1).f0).toNat) from (by rw [List.length_drop, List.length_take]; have h_ : ((wrap64 (((rd_T94 l0 x13_1).f0) + ((rd_T94 l0 x13_1).f1))) : Int) ≤ (l1.length : Int) := of_decide_eq_true (by first | (with_reducible assumption) | assumption); omega))]); (with_reducible refine (redlineref17_whole.calls k1 _ _ ((l1.take ((wrap64 (((rd_T94 l0 x13_1).f0) + ((rd_T94 l0 x13_1).f1))) : Int).toNat).drop (((rd_T94 l0 x13_1).f0) : Int).toNat) t682 _ ?side1 ?side2 A20.out).mono ?_); (case side1 => exact Kd.C_below HR681.out (by repeat (first | (with_reducible first | exact HB.out | apply below_alloc | apply pw_below_drewN | apply below_drew1 | refine below_set ?_ GE678.out) | exact HB.out))); (case side2 => exact HC681.out); rintro e w' ⟨rfl, ⟨nd, rfl⟩⟩; (try first | exact ⟨rfl, _, World.drewN_drewN _ _ _⟩ | exact ⟨rfl, _, Eq.trans (World.drewN_drewN _ _ _) (congrArg (World.drewN _) (Nat.add_assoc _ _ _))⟩); obtain ⟨i066, hi066, _, hsz66, _⟩ := info_parts info9; obtain ⟨A66, hcut66, hA66, hC66⟩ := print_mid_of (P := Try.prog) Value.string (⟨#[]⟩ : ByteArray) 27 9 .i64 .i64 Try.underlying27 hi066 hsz66 A2 c2 l2 ((rd_T94 l0 x13_1).f2) (wrap64 (((rd_T94 l0 x13_1).f2) + ((rd_T94 l0 x13_1).f3))) (of_decide_eq_true (by first | (with_reducible assumption) | assumption)) (by first | omega | exact of_decide_eq_true (by first | (with_reducible assumption) | assumption)) (of_decide_eq_true (by first | (with_reducible assumption) | assumption)) HC2.out; have HR683 := Aside0.mk (Kd.C_of_reads (h1 := fun _ => rfl) (hA66 _ (Kd.reads_of_C HR2.out))); have HC683 := Aside0.mk hC66; clear hA66 hC66 hi066 hsz66) | (go_at_call 60; (try rw [← (show ((l2.take ((wrap64 (((rd_T94 l0 x13_1).f2) + ((rd_T94 l0 x13_1).f3))) : Int).toNat).drop (((rd_T94 l0 x13_1).f2) : Int).toNat).length = ((wrap64 (((rd_T94 l0 x13_1).f2) + ((rd_T94 l0 x13_1).f3))).toNat - ((rd_T94 l0 x13_1).f2).toNat) from (by rw [List.length_drop, List.length_take]; have h_ : ((wrap64 (((rd_T94 l0 x13_1).f2) + ((rd_T94 l0 x13_1).f3))) : Int) ≤ (l2.length : Int) := of_decide_eq_true (by first | (with_reducible assumption) | assumption); omega))]); (with_reducible refine (redlineref17_whole.calls k1 _ _ ((l2.take ((wrap64 (((rd_T94 l0 x13_1).f2) + ((rd_T94 l0 x13_1).f3))) : Int).toNat).drop (((rd_T94 l0 x13_1).f2) : Int).toNat) t684 _ ?side1 ?side2 A24.out).mono ?_); (case side1 => exact Kd.C_below HR683.out (by repeat (first | (with_reducible first | exact HB.out | apply below_alloc | apply pw_below_drewN | apply below_drew1 | refine below_set ?_ GE678.out) | exact HB.out))); (case side2 => exact HC683.out); rintro e w' ⟨rfl, ⟨nd, rfl⟩⟩; (try first | exact ⟨rfl, _, World.drewN_drewN _ _ _⟩ | exact ⟨rfl, _, Eq.trans (World.drewN_drewN _ _ _) (congrArg (World.drewN _) (Nat.add_assoc _ _ _))⟩)))
                                                            have hwq_ : ∀ x, IntKind.i64.wrap x = wrap64 x := i64_w
                                                            repeat (go_quiet (first | ((with_reducible refine gate_dst (N := 14) rfl ?_); refine box_event ?hg (N := 14) ?hd (cs := #[.int .i64 0, .int .i64 0, .int .i64 0, .int .i64 0]) (t := 94) ?hr ?_; (case hd => rfl); (case hg => rfl); (case hr => first | (go_simp; done) | (go_simp; rfl)); intro gb678 hg w62 hbox hb; have n0_ := Aside0.mk (below_step (by repeat (first | (with_reducible first | exact HB.out | apply below_alloc | apply pw_below_drewN | apply below_drew1) | exact HB.out)) hb); have n1_ := Aside0.mk (hbox); have n2_ := Aside0.mk ((by rw [hg]; exact (below_size (by repeat (first | (with_reducible first | exact HB.out | apply below_alloc | apply pw_below_drewN | apply below_drew1) | exact HB.out))) : w.heap.size ≤ gb678)); have n3_ := Aside0.mk ((by rw [hg]; exact (below_size (by repeat (first | (with_reducible first | exact HB.out | apply below_alloc | apply pw_below_drewN | apply below_drew1) | exact HB.out))) : w.heap.size ≤ gb678)); clear HB; have HB := n0_; have BK678 := n1_; have GW678 := n2_; have GE678 := n3_; clear n0_ n1_ n2_ n3_; clear hb hbox hg; have hcz63_0 : w62.cell? ⟨gb678, 0, none⟩ = some (.int .i64 0) := (blk_cell BK678.out 0).trans rfl; have hcz63_1 : w62.cell? ⟨gb678, 1, none⟩ = some (.int .i64 0) := (blk_cell BK678.out 1).trans rfl; have hcz63_2 : w62.cell? ⟨gb678, 2, none⟩ = some (.int .i64 0) := (blk_cell BK678.out 2).trans rfl; have hcz63_3 : w62.cell? ⟨gb678, 3, none⟩ = some (.int .i64 0) := (blk_cell BK678.out 3).trans rfl; have hfz63_0 := blk_frozen BK678.out 0; have hfz63_1 := blk_frozen BK678.out 1; have hfz63_2 := blk_frozen BK678.out 2; have hfz63_3 := blk_frozen BK678.out 3; obtain ⟨i064, hi064, _, hsz64, _⟩ := info_parts info9; obtain ⟨A64, hcut64, hA64, hC64⟩ := print_mid_of (P := Try.prog) Value.string (⟨#[]⟩ : ByteArray) 27 9 .i64 .i64 Try.underlying27 hi064 hsz64 A1 c1 l1 x12_1 ((rd_T94 l0 x13_1).f0) (of_decide_eq_true (by first | (with_reducible assumption) | assumption)) (by first | omega | exact of_decide_eq_true (by first | (with_reducible assumption) | assumption)) (of_decide_eq_true (by first | (with_reducible assumption) | assumption)) HC1.out; have HR679 := Aside0.mk (Kd.C_of_reads (h1 := fun _ => rfl) (hA64 _ (Kd.reads_of_C HR1.out))); have HC679 := Aside0.mk hC64; clear hA64 hC64 hi064 hsz64) | (go_at_call 60; (try rw [← (show ((l1.take (((rd_T94 l0 x13_1).f0) : Int).toNat).drop (x12_1 : Int).toNat).length = (((rd_T94 l0 x13_1).f0).toNat - x12_1.toNat) from (by rw [List.length_drop, List.length_take]; have h_ : (((rd_T94 l0 x13_1).f0) : Int) ≤ (l1.length : Int) := of_decide_eq_true (by first | (with_reducible assumption) | assumption); omega))]); (with_reducible refine (redlineref17_whole.calls k1 _ _ ((l1.take (((rd_T94 l0 x13_1).f0) : Int).toNat).drop (x12_1 : Int).toNat) t680 _ ?side1 ?side2 A15.out).mono ?_); (case side1 => exact Kd.C_below HR679.out (by repeat (first | (with_reducible first | exact HB.out | apply below_alloc | apply pw_below_drewN | apply below_drew1 | refine below_set ?_ GE678.out) | exact HB.out))); (case side2 => exact HC679.out); rintro e w' ⟨rfl, ⟨nd, rfl⟩⟩; (try first | exact ⟨rfl, _, World.drewN_drewN _ _ _⟩ | exact ⟨rfl, _, Eq.trans (World.drewN_drewN _ _ _) (congrArg (World.drewN _) (Nat.add_assoc _ _ _))⟩); obtain ⟨i065, hi065, _, hsz65, _⟩ := info_parts info9; obtain ⟨A65, hcut65, hA65, hC65⟩ := print_mid_of (P := Try.prog) Value.string (⟨#[]⟩ : ByteArray) 27 9 .i64 .i64 Try.underlying27 hi065 hsz65 A1 c1 l1 ((rd_T94 l0 x13_1).f0) (wrap64 (((rd_T94 l0 x13_1).f0) + ((rd_T94 l0 x13_1).f1))) (of_decide_eq_true (by first | (with_reducible assumption) | assumption)) (by first | omega | exact of_decide_eq_true (by first | (with_reducible assumption) | assumption)) (of_decide_eq_true (by first | (with_reducible assumption) | assumption)) HC1.out; have HR681 := Aside0.mk (Kd.C_of_reads (h1 := fun _ => rfl) (hA65 _ (Kd.reads_of_C HR1.out))); have HC681 := Aside0.mk hC65; clear hA65 hC65 hi065 hsz65) | (go_at_call 60; (try rw [← (show ((l1.take ((wrap64 (((rd_T94 l0 x13_1).f0) + ((rd_T94 l0 x13_1).f1))) : Int).toNat).drop (((rd_T94 l0 x13_1).f0) : Int).toNat).length = ((wrap64 (((rd_T94 l0 x13_1).f0) + ((rd_T94 l0 x13_1).f1))).toNat - ((rd_T94 l0 x13_1).f0).toNat) from (by rw [List.length_drop, List.length_take]; have h_ : ((wrap64 (((rd_T94 l0 x13_1).f0) + ((rd_T94 l0 x13_1).f1))) : Int) ≤ (l1.length : Int) := of_decide_eq_true (by first | (with_reducible assumption) | assumption); omega))]); (with_reducible refine (redlineref17_whole.calls k1 _ _ ((l1.take ((wrap64 (((rd_T94 l0 x13_1).f0) + ((rd_T94 l0 x13_1).f1))) : Int).toNat).drop (((rd_T94 l0 x13_1).f0) : Int).toNat) t682 _ ?side1 ?side2 A20.out).mono ?_); (case side1 => exact Kd.C_below HR681.out (by repeat (first | (with_reducible first | exact HB.out | apply below_alloc | apply pw_below_drewN | apply below_drew1 | refine below_set ?_ GE678.out) | exact HB.out))); (case side2 => exact HC681.out); rintro e w' ⟨rfl, ⟨nd, rfl⟩⟩; (try first | exact ⟨rfl, _, World.drewN_drewN _ _ _⟩ | exact ⟨rfl, _, Eq.trans (World.drewN_drewN _ _ _) (congrArg (World.drewN _) (Nat.add_assoc _ _ _))⟩); obtain ⟨i066, hi066, _, hsz66, _⟩ := info_parts info9; obtain ⟨A66, hcut66, hA66, hC66⟩ := print_mid_of (P := Try.prog) Value.string (⟨#[]⟩ : ByteArray) 27 9 .i64 .i64 Try.underlying27 hi066 hsz66 A2 c2 l2 ((rd_T94 l0 x13_1).f2) (wrap64 (((rd_T94 l0 x13_1).f2) + ((rd_T94 l0 x13_1).f3))) (of_decide_eq_true (by first | (with_reducible assumption) | assumption)) (by first | omega | exact of_decide_eq_true (by first | (with_reducible assumption) | assumption)) (of_decide_eq_true (by first | (with_reducible assumption) | assumption)) HC2.out; have HR683 := Aside0.mk (Kd.C_of_reads (h1 := fun _ => rfl) (hA66 _ (Kd.reads_of_C HR2.out))); have HC683 := Aside0.mk hC66; clear hA66 hC66 hi066 hsz66) | (go_at_call 60; (try rw [← (show ((l2.take ((wrap64 (((rd_T94 l0 x13_1).f2) + ((rd_T94 l0 x13_1).f3))) : Int).toNat).drop (((rd_T94 l0 x13_1).f2) : Int).toNat).length = ((wrap64 (((rd_T94 l0 x13_1).f2) + ((rd_T94 l0 x13_1).f3))).toNat - ((rd_T94 l0 x13_1).f2).toNat) from (by rw [List.length_drop, List.length_take]; have h_ : ((wrap64 (((rd_T94 l0 x13_1).f2) + ((rd_T94 l0 x13_1).f3))) : Int) ≤ (l2.length : Int) := of_decide_eq_true (by first | (with_reducible assumption) | assumption); omega))]); (with_reducible refine (redlineref17_whole.calls k1 _ _ ((l2.take ((wrap64 (((rd_T94 l0 x13_1).f2) + ((rd_T94 l0 x13_1).f3))) : Int).toNat).drop (((rd_T94 l0 x13_1).f2) : Int).toNat) t684 _ ?side1 ?side2 A24.out).mono ?_); (case side1 => exact Kd.C_below HR683.out (by repeat (first | (with_reducible first | exact HB.out | apply below_alloc | apply pw_below_drewN | apply below_drew1 | refine below_set ?_ GE678.out) | exact HB.out))); (case side2 => exact HC683.out); rintro e w' ⟨rfl, ⟨nd, rfl⟩⟩; (try first | exact ⟨rfl, _, World.drewN_drewN _ _ _⟩ | exact ⟨rfl, _, Eq.trans (World.drewN_drewN _ _ _) (congrArg (World.drewN _) (Nat.add_assoc _ _ _))⟩))); try go_wp2_with (first | ((with_reducible refine gate_dst (N := 14) rfl ?_); refine box_event ?hg (N := 14) ?hd (cs := #[.int .i64 0, .int .i64 0, .int .i64 0, .int .i64 0]) (t := 94) ?hr ?_; (case hd => rfl); (case hg => rfl); (case hr => first | (go_simp; done) | (go_simp; rfl)); intro gb678 hg w62 hbox hb; have n0_ := Aside0.mk (below_step (by repeat (first | (with_reducible first | exact HB.out | apply below_alloc | apply pw_below_drewN | apply below_drew1) | exact HB.out)) hb); have n1_ := Aside0.mk (hbox); have n2_ := Aside0.mk ((by rw [hg]; exact (below_size (by repeat (first | (with_reducible first | exact HB.out | apply below_alloc | apply pw_below_drewN | apply below_drew1) | exact HB.out))) : w.heap.size ≤ gb678)); have n3_ := Aside0.mk ((by rw [hg]; exact (below_size (by repeat (first | (with_reducible first | exact HB.out | apply below_alloc | apply pw_below_drewN | apply below_drew1) | exact HB.out))) : w.heap.size ≤ gb678)); clear HB; have HB := n0_; have BK678 := n1_; have GW678 := n2_; have GE678 := n3_; clear n0_ n1_ n2_ n3_; clear hb hbox hg; have hcz63_0 : w62.cell? ⟨gb678, 0, none⟩ = some (.int .i64 0) := (blk_cell BK678.out 0).trans rfl; have hcz63_1 : w62.cell? ⟨gb678, 1, none⟩ = some (.int .i64 0) := (blk_cell BK678.out 1).trans rfl; have hcz63_2 : w62.cell? ⟨gb678, 2, none⟩ = some (.int .i64 0) := (blk_cell BK678.out 2).trans rfl; have hcz63_3 : w62.cell? ⟨gb678, 3, none⟩ = some (.int .i64 0) := (blk_cell BK678.out 3).trans rfl; have hfz63_0 := blk_frozen BK678.out 0; have hfz63_1 := blk_frozen BK678.out 1; have hfz63_2 := blk_frozen BK678.out 2; have hfz63_3 := blk_frozen BK678.out 3; obtain ⟨i064, hi064, _, hsz64, _⟩ := info_parts info9; obtain ⟨A64, hcut64, hA64, hC64⟩ := print_mid_of (P := Try.prog) Value.string (⟨#[]⟩ : ByteArray) 27 9 .i64 .i64 Try.underlying27 hi064 hsz64 A1 c1 l1 x12_1 ((rd_T94 l0 x13_1).f0) (of_decide_eq_true (by first | (with_reducible assumption) | assumption)) (by first | omega | exact of_decide_eq_true (by first | (with_reducible assumption) | assumption)) (of_decide_eq_true (by first | (with_reducible assumption) | assumption)) HC1.out; have HR679 := Aside0.mk (Kd.C_of_reads (h1 := fun _ => rfl) (hA64 _ (Kd.reads_of_C HR1.out))); have HC679 := Aside0.mk hC64; clear hA64 hC64 hi064 hsz64) | (go_at_call 60; (try rw [← (show ((l1.take (((rd_T94 l0 x13_1).f0) : Int).toNat).drop (x12_1 : Int).toNat).length = (((rd_T94 l0 x13_1).f0).toNat - x12_1.toNat) from (by rw [List.length_drop, List.length_take]; have h_ : (((rd_T94 l0 x13_1).f0) : Int) ≤ (l1.length : Int) := of_decide_eq_true (by first | (with_reducible assumption) | assumption); omega))]); (with_reducible refine (redlineref17_whole.calls k1 _ _ ((l1.take (((rd_T94 l0 x13_1).f0) : Int).toNat).drop (x12_1 : Int).toNat) t680 _ ?side1 ?side2 A15.out).mono ?_); (case side1 => exact Kd.C_below HR679.out (by repeat (first | (with_reducible first | exact HB.out | apply below_alloc | apply pw_below_drewN | apply below_drew1 | refine below_set ?_ GE678.out) | exact HB.out))); (case side2 => exact HC679.out); rintro e w' ⟨rfl, ⟨nd, rfl⟩⟩; (try first | exact ⟨rfl, _, World.drewN_drewN _ _ _⟩ | exact ⟨rfl, _, Eq.trans (World.drewN_drewN _ _ _) (congrArg (World.drewN _) (Nat.add_assoc _ _ _))⟩); obtain ⟨i065, hi065, _, hsz65, _⟩ := info_parts info9; obtain ⟨A65, hcut65, hA65, hC65⟩ := print_mid_of (P := Try.prog) Value.string (⟨#[]⟩ : ByteArray) 27 9 .i64 .i64 Try.underlying27 hi065 hsz65 A1 c1 l1 ((rd_T94 l0 x13_1).f0) (wrap64 (((rd_T94 l0 x13_1).f0) + ((rd_T94 l0 x13_1).f1))) (of_decide_eq_true (by first | (with_reducible assumption) | assumption)) (by first | omega | exact of_decide_eq_true (by first | (with_reducible assumption) | assumption)) (of_decide_eq_true (by first | (with_reducible assumption) | assumption)) HC1.out; have HR681 := Aside0.mk (Kd.C_of_reads (h1 := fun _ => rfl) (hA65 _ (Kd.reads_of_C HR1.out))); have HC681 := Aside0.mk hC65; clear hA65 hC65 hi065 hsz65) | (go_at_call 60; (try rw [← (show ((l1.take ((wrap64 (((rd_T94 l0 x13_1).f0) + ((rd_T94 l0 x13_1).f1))) : Int).toNat).drop (((rd_T94 l0 x13_1).f0) : Int).toNat).length = ((wrap64 (((rd_T94 l0 x13_1).f0) + ((rd_T94 l0 x13_1).f1))).toNat - ((rd_T94 l0 x13_1).f0).toNat) from (by rw [List.length_drop, List.length_take]; have h_ : ((wrap64 (((rd_T94 l0 x13_1).f0) + ((rd_T94 l0 x13_1).f1))) : Int) ≤ (l1.length : Int) := of_decide_eq_true (by first | (with_reducible assumption) | assumption); omega))]); (with_reducible refine (redlineref17_whole.calls k1 _ _ ((l1.take ((wrap64 (((rd_T94 l0 x13_1).f0) + ((rd_T94 l0 x13_1).f1))) : Int).toNat).drop (((rd_T94 l0 x13_1).f0) : Int).toNat) t682 _ ?side1 ?side2 A20.out).mono ?_); (case side1 => exact Kd.C_below HR681.out (by repeat (first | (with_reducible first | exact HB.out | apply below_alloc | apply pw_below_drewN | apply below_drew1 | refine below_set ?_ GE678.out) | exact HB.out))); (case side2 => exact HC681.out); rintro e w' ⟨rfl, ⟨nd, rfl⟩⟩; (try first | exact ⟨rfl, _, World.drewN_drewN _ _ _⟩ | exact ⟨rfl, _, Eq.trans (World.drewN_drewN _ _ _) (congrArg (World.drewN _) (Nat.add_assoc _ _ _))⟩); obtain ⟨i066, hi066, _, hsz66, _⟩ := info_parts info9; obtain ⟨A66, hcut66, hA66, hC66⟩ := print_mid_of (P := Try.prog) Value.string (⟨#[]⟩ : ByteArray) 27 9 .i64 .i64 Try.underlying27 hi066 hsz66 A2 c2 l2 ((rd_T94 l0 x13_1).f2) (wrap64 (((rd_T94 l0 x13_1).f2) + ((rd_T94 l0 x13_1).f3))) (of_decide_eq_true (by first | (with_reducible assumption) | assumption)) (by first | omega | exact of_decide_eq_true (by first | (with_reducible assumption) | assumption)) (of_decide_eq_true (by first | (with_reducible assumption) | assumption)) HC2.out; have HR683 := Aside0.mk (Kd.C_of_reads (h1 := fun _ => rfl) (hA66 _ (Kd.reads_of_C HR2.out))); have HC683 := Aside0.mk hC66; clear hA66 hC66 hi066 hsz66) | (go_at_call 60; (try rw [← (show ((l2.take ((wrap64 (((rd_T94 l0 x13_1).f2) + ((rd_T94 l0 x13_1).f3))) : Int).toNat).drop (((rd_T94 l0 x13_1).f2) : Int).toNat).length = ((wrap64 (((rd_T94 l0 x13_1).f2) + ((rd_T94 l0 x13_1).f3))).toNat - ((rd_T94 l0 x13_1).f2).toNat) from (by rw [List.length_drop, List.length_take]; have h_ : ((wrap64 (((rd_T94 l0 x13_1).f2) + ((rd_T94 l0 x13_1).f3))) : Int) ≤ (l2.length : Int) := of_decide_eq_true (by first | (with_reducible assumption) | assumption); omega))]); (with_reducible refine (redlineref17_whole.calls k1 _ _ ((l2.take ((wrap64 (((rd_T94 l0 x13_1).f2) + ((rd_T94 l0 x13_1).f3))) : Int).toNat).drop (((rd_T94 l0 x13_1).f2) : Int).toNat) t684 _ ?side1 ?side2 A24.out).mono ?_); (case side1 => exact Kd.C_below HR683.out (by repeat (first | (with_reducible first | exact HB.out | apply below_alloc | apply pw_below_drewN | apply below_drew1 | refine below_set ?_ GE678.out) | exact HB.out))); (case side2 => exact HC683.out); rintro e w' ⟨rfl, ⟨nd, rfl⟩⟩; (try first | exact ⟨rfl, _, World.drewN_drewN _ _ _⟩ | exact ⟨rfl, _, Eq.trans (World.drewN_drewN _ _ _) (congrArg (World.drewN _) (Nat.add_assoc _ _ _))⟩))))
                                                            try clear hwq_
                                                            go_roundg k1
                                                            case measure => have := HK1.out; omega
                                                            case rel => exact ⟨((((((((((((x11_1 ++ t680) ++ (⟨#[35, 105, 102, 110, 100, 101, 102, 32]⟩ : ByteArray)) ++ a3) ++ (⟨#[10]⟩ : ByteArray)) ++ t682) ++ (⟨#[35, 101, 108, 115, 101, 32, 47, 42, 32]⟩ : ByteArray)) ++ a3) ++ (⟨#[32, 42, 47, 10]⟩ : ByteArray)) ++ t684) ++ (⟨#[35, 101, 110, 100, 105, 102, 32, 47, 42, 32]⟩ : ByteArray)) ++ a3) ++ (⟨#[32, 42, 47, 10]⟩ : ByteArray)), (wrap64 (((rd_T94 l0 x13_1).f0) + ((rd_T94 l0 x13_1).f1))), (wrap64 (x13_1 + 1)), (by first | rfl | (simp; done) | (simp [*]; done)), (by first | rfl | (simp; done) | (simp [*]; done)), (by first | rfl | (simp; done) | (simp [*]; done)), H', ⟨by have := HK1.out; omega⟩, ⟨by repeat (first | (with_reducible first | exact HB.out | apply below_alloc | apply pw_below_drewN | apply below_drew1 | refine below_set ?_ GE678.out) | exact HB.out)⟩⟩
                                                          · rw [if_neg c61] at H
                                                            exact absurd H (by simp)
                                                        · rw [if_neg c60] at H
                                                          exact absurd H (by simp)
                                                      · rw [if_neg c59] at H
                                                        exact absurd H (by simp)
                                                    · rw [if_neg c58] at H
                                                      exact absurd H (by simp)
                                                  · rw [if_neg c57] at H
                                                    exact absurd H (by simp)
                                                · rw [if_neg c56] at H
                                                  exact absurd H (by simp)
                                              · rw [if_neg c55] at H
                                                exact absurd H (by simp)
                                            · rw [if_neg c54] at H
                                              exact absurd H (by simp)
                                          · rw [if_neg c53] at H
                                            exact absurd H (by simp)
                                        · rw [if_neg c52] at H
                                          exact absurd H (by simp)
                                      · rw [if_neg c51] at H
                                        exact absurd H (by simp)
                                · rw [if_neg c23] at H
                                  exact absurd H (by simp)
                              · rw [if_neg c22] at H
                                exact absurd H (by simp)
                            · rw [if_neg c21] at H
                              exact absurd H (by simp)
                          · rw [if_neg c19] at H
                            exact absurd H (by simp)
                        · rw [if_neg c18] at H
                          exact absurd H (by simp)
                      · rw [if_neg c17] at H
                        exact absurd H (by simp)
                    · rw [if_neg c16] at H
                      exact absurd H (by simp)
                  · rw [if_neg c14] at H
                    exact absurd H (by simp)
                · rw [if_neg c13] at H
                  exact absurd H (by simp)
              · rw [if_neg c12] at H
                exact absurd H (by simp)
            · rw [if_neg c11] at H
              exact absurd H (by simp)
          · rw [if_neg c10] at H
            have c10b0 : decide (x13_1 < (l0.length : Int)) = false := decide_eq_false c10
            clear c10
            by_cases c67 : 0 ≤ x12_1
            · rw [if_pos c67] at H
              have c67b0 := eq_true c67
              have c67b1 : decide (0 ≤ x12_1) = true := decide_eq_true c67
              clear c67
              by_cases c68 : x12_1 ≤ (l1.length : Int)
              · rw [if_pos c68] at H
                have c68b0 := eq_true c68
                have c68b1 : decide (x12_1 ≤ (l1.length : Int)) = true := decide_eq_true c68
                clear c68
                replace H := Option.bind_eq_some_iff.mp H
                obtain ⟨t676, A690, H⟩ := H
                replace H : (if x11_1.size + t676.size ≤ 9223372036854775807 then (some (x11_1 ++ t676, 0)) else (none)) = some (r1, r2) := H
                have A69 := Aside0.mk A690
                clear A690
                by_cases c70 : x11_1.size + t676.size ≤ 9223372036854775807
                · rw [if_pos c70] at H
                  have c70b0 := eq_true c70
                  have c70b1 : decide (x11_1.size + t676.size ≤ 9223372036854775807) = true := decide_eq_true c70
                  try have c70b2 : (9223372036854775807 < x11_1.size + t676.size) = False := eq_false (Nat.not_lt.2 c70)
                  simp only [Option.some.injEq, Prod.mk.injEq] at H
                  obtain ⟨rfl, rfl⟩ := H
                  obtain ⟨i071, hi071, _, hsz71, _⟩ := info_parts info9
                  obtain ⟨A71, hcut71, hA71, hC71⟩ := print_drop_of (P := Try.prog) Value.string (⟨#[]⟩ : ByteArray) 27 9 .i64 Try.underlying27 hi071 hsz71 A1 c1 l1 x12_1 (of_decide_eq_true (by first | (with_reducible assumption) | assumption)) (of_decide_eq_true (by first | (with_reducible assumption) | assumption)) HC1.out
                  have HR675 := Aside0.mk (Kd.C_of_reads (h1 := fun _ => rfl) (hA71 _ (Kd.reads_of_C HR1.out)))
                  have HC675 := Aside0.mk hC71
                  clear hA71 hC71 hi071 hsz71
                  go_wp2_with (first | (go_at_call 60; (try rw [← (show (l1.drop (x12_1 : Int).toNat).length = (l1.length - x12_1.toNat) from List.length_drop)]); (with_reducible refine (redlineref17_whole.calls k1 _ _ (l1.drop (x12_1 : Int).toNat) t676 _ ?side1 ?side2 A69.out).mono ?_); (case side1 => repeat (first | exact (Kd.C_below HR675.out HB.out) | (with_reducible refine Kd.C_alloc ?_ _) | (with_reducible refine Kd.C_drewN ?_ _) | (with_reducible refine Kd.C_drew ?_))); (case side2 => exact HC675.out); rintro e w' ⟨rfl, ⟨nd, rfl⟩⟩; (try first | exact ⟨rfl, _, World.drewN_drewN _ _ _⟩ | exact ⟨rfl, _, Eq.trans (World.drewN_drewN _ _ _) (congrArg (World.drewN _) (Nat.add_assoc _ _ _))⟩)))
                  repeat (go_quiet (first | (go_at_call 60; (try rw [← (show (l1.drop (x12_1 : Int).toNat).length = (l1.length - x12_1.toNat) from List.length_drop)]); (with_reducible refine (redlineref17_whole.calls k1 _ _ (l1.drop (x12_1 : Int).toNat) t676 _ ?side1 ?side2 A69.out).mono ?_); (case side1 => repeat (first | exact (Kd.C_below HR675.out HB.out) | (with_reducible refine Kd.C_alloc ?_ _) | (with_reducible refine Kd.C_drewN ?_ _) | (with_reducible refine Kd.C_drew ?_))); (case side2 => exact HC675.out); rintro e w' ⟨rfl, ⟨nd, rfl⟩⟩; (try first | exact ⟨rfl, _, World.drewN_drewN _ _ _⟩ | exact ⟨rfl, _, Eq.trans (World.drewN_drewN _ _ _) (congrArg (World.drewN _) (Nat.add_assoc _ _ _))⟩))); try go_wp2_with (first | (go_at_call 60; (try rw [← (show (l1.drop (x12_1 : Int).toNat).length = (l1.length - x12_1.toNat) from List.length_drop)]); (with_reducible refine (redlineref17_whole.calls k1 _ _ (l1.drop (x12_1 : Int).toNat) t676 _ ?side1 ?side2 A69.out).mono ?_); (case side1 => repeat (first | exact (Kd.C_below HR675.out HB.out) | (with_reducible refine Kd.C_alloc ?_ _) | (with_reducible refine Kd.C_drewN ?_ _) | (with_reducible refine Kd.C_drew ?_))); (case side2 => exact HC675.out); rintro e w' ⟨rfl, ⟨nd, rfl⟩⟩; (try first | exact ⟨rfl, _, World.drewN_drewN _ _ _⟩ | exact ⟨rfl, _, Eq.trans (World.drewN_drewN _ _ _) (congrArg (World.drewN _) (Nat.add_assoc _ _ _))⟩))))
                  go_ret2
                  exact ⟨by first | rfl | (simp [errW_none, errW_some] <;> rfl) | (simp [*, errW_none, errW_some] <;> rfl), by repeat (first | (with_reducible first | exact HB.out | apply below_alloc | apply pw_below_drewN | apply below_drew1) | exact HB.out)⟩
                · rw [if_neg c70] at H
                  exact absurd H (by simp)
              · rw [if_neg c68] at H
                exact absurd H (by simp)
            · rw [if_neg c67] at H
              exact absurd H (by simp)
    · replace c8 := Bool.eq_false_iff.mpr c8
      subst c8
      have H1 : (some ((⟨#[]⟩ : ByteArray), 253)) = some (r1, r2) := by rw [if_neg (show ¬ (false = true) by decide)] at H; exact H
      clear H
      have H := H1
      clear H1
      simp only [Option.some.injEq, Prod.mk.injEq] at H
      obtain ⟨rfl, rfl⟩ := H
      go_enter Try.func23, Try.ntmps23
      go_wp2_with (first | (go_at_call 58; (with_reducible refine (redlineref05_Check.calls k _ _ l0 (l1.length : Int) (l2.length : Int) t673 _ ?side1 ?side2 A5.out).mono ?_); (case side1 => repeat (first | exact HR0.out | (with_reducible refine Kd.C_alloc ?_ _) | (with_reducible refine Kd.C_drewN ?_ _) | (with_reducible refine Kd.C_drew ?_))); (case side2 => exact HC0.out); rintro e w72 ⟨rfl, hb⟩; have n0_ := Aside0.mk (below_step (by repeat (first | (with_reducible first | exact HB.out | apply below_alloc | apply pw_below_drewN | apply below_drew1) | exact HB.out)) hb); clear HB; have HB := n0_; clear n0_; (try clear hb); (try clear hb2); (try clear hk); (try clear hi)) | (go_at_call 59; (with_reducible refine (redlineref17_Name.calls k a3 false _ A7.out).mono ?_); rintro e w' ⟨rfl, ⟨nd, rfl⟩⟩; (try first | exact ⟨rfl, _, World.drewN_drewN _ _ _⟩ | exact ⟨rfl, _, Eq.trans (World.drewN_drewN _ _ _) (congrArg (World.drewN _) (Nat.add_assoc _ _ _))⟩)))
      repeat (go_quiet (first | (go_at_call 58; (with_reducible refine (redlineref05_Check.calls k _ _ l0 (l1.length : Int) (l2.length : Int) t673 _ ?side1 ?side2 A5.out).mono ?_); (case side1 => repeat (first | exact HR0.out | (with_reducible refine Kd.C_alloc ?_ _) | (with_reducible refine Kd.C_drewN ?_ _) | (with_reducible refine Kd.C_drew ?_))); (case side2 => exact HC0.out); rintro e w72 ⟨rfl, hb⟩; have n0_ := Aside0.mk (below_step (by repeat (first | (with_reducible first | exact HB.out | apply below_alloc | apply pw_below_drewN | apply below_drew1) | exact HB.out)) hb); clear HB; have HB := n0_; clear n0_; (try clear hb); (try clear hb2); (try clear hk); (try clear hi)) | (go_at_call 59; (with_reducible refine (redlineref17_Name.calls k a3 false _ A7.out).mono ?_); rintro e w' ⟨rfl, ⟨nd, rfl⟩⟩; (try first | exact ⟨rfl, _, World.drewN_drewN _ _ _⟩ | exact ⟨rfl, _, Eq.trans (World.drewN_drewN _ _ _) (congrArg (World.drewN _) (Nat.add_assoc _ _ _))⟩))); try go_wp2_with (first | (go_at_call 58; (with_reducible refine (redlineref05_Check.calls k _ _ l0 (l1.length : Int) (l2.length : Int) t673 _ ?side1 ?side2 A5.out).mono ?_); (case side1 => repeat (first | exact HR0.out | (with_reducible refine Kd.C_alloc ?_ _) | (with_reducible refine Kd.C_drewN ?_ _) | (with_reducible refine Kd.C_drew ?_))); (case side2 => exact HC0.out); rintro e w72 ⟨rfl, hb⟩; have n0_ := Aside0.mk (below_step (by repeat (first | (with_reducible first | exact HB.out | apply below_alloc | apply pw_below_drewN | apply below_drew1) | exact HB.out)) hb); clear HB; have HB := n0_; clear n0_; (try clear hb); (try clear hb2); (try clear hk); (try clear hi)) | (go_at_call 59; (with_reducible refine (redlineref17_Name.calls k a3 false _ A7.out).mono ?_); rintro e w' ⟨rfl, ⟨nd, rfl⟩⟩; (try first | exact ⟨rfl, _, World.drewN_drewN _ _ _⟩ | exact ⟨rfl, _, Eq.trans (World.drewN_drewN _ _ _) (congrArg (World.drewN _) (Nat.add_assoc _ _ _))⟩))))
      go_ret2
      exact ⟨by first | rfl | (simp [errW_none, errW_some] <;> rfl) | (simp [*, errW_none, errW_some] <;> rfl), by repeat (first | (with_reducible first | exact HB.out | apply below_alloc | apply pw_below_drewN | apply below_drew1) | exact HB.out)⟩
  · rw [if_neg c6] at H
    have c6b0 : (t673 == 0) = false := beq_eq_false_iff_ne.mpr c6
    have c6b1 : (t673 != 0) = true := bne_iff_ne.mpr c6
    simp only [Option.some.injEq, Prod.mk.injEq] at H
    obtain ⟨rfl, rfl⟩ := H
    go_enter Try.func23, Try.ntmps23
    go_wp2_with (first | (go_at_call 58; (with_reducible refine (redlineref05_Check.calls k _ _ l0 (l1.length : Int) (l2.length : Int) t673 _ ?side1 ?side2 A5.out).mono ?_); (case side1 => repeat (first | exact HR0.out | (with_reducible refine Kd.C_alloc ?_ _) | (with_reducible refine Kd.C_drewN ?_ _) | (with_reducible refine Kd.C_drew ?_))); (case side2 => exact HC0.out); rintro e w73 ⟨rfl, hb⟩; have n0_ := Aside0.mk (below_step (by repeat (first | (with_reducible first | exact HB.out | apply below_alloc | apply pw_below_drewN | apply below_drew1) | exact HB.out)) hb); clear HB; have HB := n0_; clear n0_; (try clear hb); (try clear hb2); (try clear hk); (try clear hi)))
    repeat (go_quiet (first | (go_at_call 58; (with_reducible refine (redlineref05_Check.calls k _ _ l0 (l1.length : Int) (l2.length : Int) t673 _ ?side1 ?side2 A5.out).mono ?_); (case side1 => repeat (first | exact HR0.out | (with_reducible refine Kd.C_alloc ?_ _) | (with_reducible refine Kd.C_drewN ?_ _) | (with_reducible refine Kd.C_drew ?_))); (case side2 => exact HC0.out); rintro e w73 ⟨rfl, hb⟩; have n0_ := Aside0.mk (below_step (by repeat (first | (with_reducible first | exact HB.out | apply below_alloc | apply pw_below_drewN | apply below_drew1) | exact HB.out)) hb); clear HB; have HB := n0_; clear n0_; (try clear hb); (try clear hb2); (try clear hk); (try clear hi))); try go_wp2_with (first | (go_at_call 58; (with_reducible refine (redlineref05_Check.calls k _ _ l0 (l1.length : Int) (l2.length : Int) t673 _ ?side1 ?side2 A5.out).mono ?_); (case side1 => repeat (first | exact HR0.out | (with_reducible refine Kd.C_alloc ?_ _) | (with_reducible refine Kd.C_drewN ?_ _) | (with_reducible refine Kd.C_drew ?_))); (case side2 => exact HC0.out); rintro e w73 ⟨rfl, hb⟩; have n0_ := Aside0.mk (below_step (by repeat (first | (with_reducible first | exact HB.out | apply below_alloc | apply pw_below_drewN | apply below_drew1) | exact HB.out)) hb); clear HB; have HB := n0_; clear n0_; (try clear hb); (try clear hb2); (try clear hk); (try clear hi))))
    go_ret2
    exact ⟨by first | rfl | (simp [errW_none, errW_some] <;> rfl) | (simp [*, errW_none, errW_some] <;> rfl), by repeat (first | (with_reducible first | exact HB.out | apply below_alloc | apply pw_below_drewN | apply below_drew1) | exact HB.out)⟩
end Go.Proofs.Ytnllemlmgbjjnaa.PA
/- strings.Builder's writers at this seat's program: what WriteString leaves, and what it lets stand. -/
namespace Go.Proofs.Ytnllemlmgbjjnaa.PA
set_option linter.unusedVariables false
set_option linter.unusedSimpArgs false
open Go.RowKit Go.Proofs.YtnllemlmgbjjnaaW.PrintWords Go.Proofs.YtnllemlmgbjjnaaW.PrintLast Go.Proofs.YtnllemlmgbjjnaaW.PrintMore
/-- What a write to the builder b leaves. -/
def Wrote (B b : Nat) (bs : List Value) (w w' : World) : Prop := Lib.BuilderAtF 82 5 B b (.pointer (some ⟨b, 0, none⟩)) bs w' ∧ Below B w w' ∧ Lib.OthersKept 5 (some b) w w'
theorem size82 : (Try.prog.info? 82).map (fun i => i.size) = some 2 := by kernel_rfl
theorem lies82 : liesAt Try.prog Try.prog.depth 82 (2 / Try.prog.cellsOf 82) 0 82 1 = true := by kernel_rfl
theorem info5b : (Try.prog.info? 5).map (fun i => (i.zero, i.size, i.bytes)) = some (some (.int .u8 0), 1, 1) := by kernel_rfl
set_option maxRecDepth 100000 in
set_option maxHeartbeats 2000000 in
theorem copyCheck_calls (B b : Nat) (bs : List Value) (w : World) (h : Lib.IsBuilderF 82 5 B b bs w) :
    Calls Try.prog 86 #[.pointer (some ⟨b, 0, none⟩)] w fun e w' => e = .returned (.tuple #[]) ∧ Wrote B b bs w w' := by
  have hu82 := Try.underlying82
  have hu79 := Try.underlying79
  have hu148 := Try.underlying148
  rcases h with h | h
  · obtain ⟨j, hj, hjs⟩ := Option.map_eq_some_iff.1 size82
    have c0 := h.cell0
    have hsh := h.shape
    have fz := h.frozen0
    have H := Aside0.mk h
    clear h
    go_enter Try.func86, Try.ntmps86
    go_wp2
    rw [Lib.run_to_unsafe w ⟨b, 0, none⟩ Try.underlying79 Try.underlying148 hj (by rw [hjs]; decide) hsh (Nat.zero_lt_succ 1)]
    simp only [Result.andThen]
    rw [Oper.upon_value]
    go_wp2
    rw [run_callFunc_extern Try.func110 (by kernel_rfl) (by kernel_rfl) (by kernel_rfl) (e := Extern.AbiNoEscape.same) (by kernel_rfl)]
    rw [Lib.run_noEscape]
    simp only [Result.andThen]
    rw [Oper.upon_value]
    go_wp2
    rw [Lib.run_from_unsafe w ⟨b, 0, none⟩ Try.underlying148 Try.underlying79 hj hsh lies82]
    simp only [Result.andThen]
    rw [Oper.upon_value]
    go_wp2
    go_end0
    exact ⟨rfl, H.out.used _, (Below.refl B w).setCell (p := ⟨b, 0, none⟩) H.out.1 _, (Lib.OthersKept.refl _ _ w).setCell ⟨b, 0, none⟩ rfl _⟩
  · obtain ⟨j, hj, _⟩ := Option.map_eq_some_iff.1 size82
    have c0 := h.cell0
    have H := Aside0.mk h
    clear h
    go_enter Try.func86, Try.ntmps86
    go_wp2
    rw [Lib.run_neq_ptr_same w _ Try.underlying79 hj]
    go_wp2
    go_end0
    exact ⟨rfl, H.out, Below.refl _ _, Lib.OthersKept.refl _ _ _⟩
set_option maxRecDepth 100000 in
set_option maxHeartbeats 2000000 in
/-- WriteString: the bytes go in behind. -/
theorem writeString_calls (B b : Nat) (bs : List Value) (s : ByteArray) (w : World) (h : Lib.IsBuilderF 82 5 B b bs w) (hlen : bs.length + s.size ≤ 140737488355328) (hBw : B ≤ w.heap.size) :
    Calls Try.prog 55 #[.pointer (some ⟨b, 0, none⟩), .string s] w fun e w' => e = .returned (.tuple #[.int .i64 s.size, .nilIface]) ∧ Wrote B b (bs ++ Lib.strCells s) w w' := by
  obtain ⟨i5, h5, hz, hsz, hby⟩ := info_parts info5b
  have hu82 := Try.underlying82
  have HL := Aside0.mk hlen
  have HB := Aside0.mk hBw
  clear hlen hBw
  go_enter Try.func55, Try.ntmps55
  go_wp2_with (first
    | (go_at_call 86; refine (copyCheck_calls B b bs _ h).mono ?_; rintro e w1 ⟨rfl, hat, hb1, hk1⟩; obtain ⟨hB, v, hbk, hown, hne⟩ := hat; have d0 : w1.cell? ⟨b, 0, none⟩ = some (.pointer (some ⟨b, 0, none⟩)) := (by rw [Lib.cell_of_heap hbk]; rfl); have d1 : w1.cell? ⟨b, 1, none⟩ = some v := (by rw [Lib.cell_of_heap hbk]; rfl); have OW := Aside0.mk hown; have BK := Aside0.mk hbk; have NE := Aside0.mk hne; have B1 := Aside0.mk hb1; have K1 := Aside0.mk hk1; have GE := Aside0.mk hB; clear hown hbk hne hb1 hk1 hB)
    | (at_builtin; refine Lib.wpList_append_own_stringF _ rfl (.tmp 12) (.tmp 13) 80 9 rfl B 5 i5 Try.underlying80 Try.underlying9 h5 hz hsz hby v bs.length bs rfl OW.out s rfl (by unfold maxLen; have := HL.out; omega) HL.out (by have := B1.out.size; have := HB.out; omega) ?_; intro v2 w2 ho2 hg2 hnil; have hlt : b < w1.heap.size := blk_lt BK.out; have hb2 : w2.heap[b]? = some (.cells #[.pointer (some ⟨b, 0, none⟩), v] 82 (0, 0)) := (by rw [hg2.block b hlt (fun e => NE.out e.symm)]; exact BK.out); have z0 : w2.cell? ⟨b, 0, none⟩ = some (.pointer (some ⟨b, 0, none⟩)) := (by rw [Lib.cell_of_heap hb2]; rfl); have z1 : w2.cell? ⟨b, 1, none⟩ = some v := (by rw [Lib.cell_of_heap hb2]; rfl); have y1 : w2.frozen? ⟨b, 1, none⟩ = false := Lib.frozen_of_heap hb2 1; have O2 := Aside0.mk ho2; have G2 := Aside0.mk hg2; have BK2 := Aside0.mk hb2; clear ho2 hg2 hb2 hnil hlt; obtain ⟨ao, n', cap, hv2⟩ : ∃ ao n' cap, v2 = .slice ao n' cap := (by rcases O2.out.2 with ⟨hv, _⟩ | ⟨g, cap, cur, fz, hv, _⟩ <;> exact ⟨_, _, _, hv⟩); subst hv2))
  go_ret2
  refine ⟨rfl, ?_, ?_, (K1.out.grown G2.out (Lib.ownsRowF_kind OW.out)).setCell ⟨b, 1, none⟩ rfl _⟩
  · have := O2.out
    exact Lib.BuilderAtF.put (T := 82) (e := 5) GE.out BK2.out (bs' := bs ++ Lib.strCells s) (by simpa [Lib.strCells_length] using this) (by decide)
  · exact (B1.out.grown G2.out (by have := B1.out.size; have := HB.out; omega) (fun k hk => (OW.out.lt k hk).1)).setCell (p := ⟨b, 1, none⟩) GE.out _
end Go.Proofs.Ytnllemlmgbjjnaa.PA
/- views.Ifdef's closure: it writes lines, bare, each with one line feed, into the builder. -/
namespace Go.Proofs.Ytnllemlmgbjjnaa.PA
set_option linter.unusedVariables false
set_option linter.unusedSimpArgs false
open Go.RowKit Go.Proofs.YtnllemlmgbjjnaaW.PrintWords Go.Proofs.YtnllemlmgbjjnaaW.PrintLast Go.Proofs.YtnllemlmgbjjnaaW.PrintMore
def bareS (s : ByteArray) : ByteArray := ((lines_Bare.f s).getD (⟨#[]⟩, false)).1
/-- The lines, bare, each with one line feed. -/
def wholeC (l : List ByteArray) : List Value := l.flatMap fun s => Lib.strCells (bareS s ++ (⟨#[10]⟩ : ByteArray))
theorem wholeC_snoc (l : List ByteArray) (s : ByteArray) : wholeC (l ++ [s]) = wholeC l ++ Lib.strCells (bareS s ++ (⟨#[10]⟩ : ByteArray)) := by simp [wholeC]
theorem wholeC_take (l : List ByteArray) (i : Nat) : (wholeC (l.take i)).length ≤ (wholeC l).length := by
  have : wholeC l = wholeC (l.take i) ++ wholeC (l.drop i) := by
    unfold wholeC
    rw [← List.flatMap_append, List.take_append_drop]
  rw [this, List.length_append]
  omega
/-- What a writer of the builder b leaves, from one world to another. -/
structure BSt (B b : Nat) (bs : List Value) (w w' : World) : Prop where
  is : Lib.IsBuilderF 82 5 B b bs w'
  bel : Below B w w'
  kept : Lib.OthersKept 5 (some b) w w'
theorem BSt.wrote {B b : Nat} {bs bs2 : List Value} {w w1 w2 : World} (h : BSt B b bs w w1) (h2 : Wrote B b bs2 w1 w2) : BSt B b bs2 w w2 :=
  ⟨.inr h2.1, h.bel.trans h2.2.1, h.kept.trans h2.2.2⟩
theorem BSt.drewN {B b : Nat} {bs : List Value} {w w1 : World} (h : BSt B b bs w w1) (n : Nat) : BSt B b bs w (w1.drewN n) := by
  induction n with
  | zero => exact h
  | succ n ih => exact ⟨ih.is, pw_below_drewN h.bel (n + 1), ih.kept.drew⟩
theorem take_rdo (l : List ByteArray) (i : Int) (h0 : 0 ≤ i) (h1 : i < l.length) : l.take (i + 1).toNat = l.take i.toNat ++ [rdOf ByteArray.empty l i] := by
  have e : (i + 1).toNat = i.toNat + 1 := by omega
  have hl : i.toNat < l.length := by omega
  rw [e, List.take_succ_eq_append_getElem hl]
  unfold rdOf
  rw [List.getD_eq_getElem?_getD, List.getElem?_eq_getElem hl]
  rfl
set_option maxRecDepth 100000 in
set_option maxHeartbeats 4000000 in
theorem all_calls (B b : Nat) (bs : List Value) (A : Option Addr) (c : Nat) (l : List ByteArray) (w0 w : World) (hb : Lib.IsBuilderF 82 5 B b bs w) (hr : Kd.C Kd.string w0 A l.length l) (hB : B = w0.heap.size) (hw : Below B w0 w)
    (hbare : ∀ s ∈ l, ∃ t, lines_Bare.f s = some (bareS s, t)) (hlen : bs.length + (wholeC l).length ≤ 140737488355328) (hl : l.length < 8796093022208) :
    Calls Try.prog 53 #[.slice A l.length c, .pointer (some ⟨b, 0, none⟩)] w fun e w' => e = .returned (.tuple #[]) ∧ BSt B b (bs ++ wholeC l) w w' := by
  have hu27 := Try.underlying27
  have HI0 : Aside0 (BSt B b (bs ++ wholeC (l.take (0 : Int).toNat)) w w) := ⟨⟨by simpa [wholeC] using hb, Below.refl _ _, Lib.OthersKept.refl _ _ _⟩⟩
  have HBR := Aside0.mk hbare
  have HLN := Aside0.mk hlen
  have HL := Aside0.mk hl
  have HW := Aside0.mk hw
  have HB := Lib.hid hB
  have HR := Aside0.mk hr
  clear hb hbare hlen hl hw hB hr
  go_enter Try.func53, Try.ntmps53
  go_wp2
  go_loopw [9] (fun v9 wr => ∃ i : Int, 0 ≤ i ∧ i ≤ l.length ∧ v9 = .int .i64 i ∧ Aside0 (BSt B b (bs ++ wholeC (l.take i.toNat)) w wr)) (fun v9 _ => l.length - (intOf v9).toNat)
  case atStart => exact ⟨0, by omega, by omega, rfl, HI0⟩
  case round =>
    clear HI0
    obtain ⟨i, h0, h1, rfl, hst⟩ := hrel
    by_cases hlt : i < l.length
    · obtain ⟨ad, e, hx⟩ := Kd.at_string HR.out i h0 hlt
      subst e
      have hmem : rdOf ByteArray.empty l i ∈ l := by
        have hl : i.toNat < l.length := by omega
        unfold rdOf
        rw [List.getD_eq_getElem?_getD, List.getElem?_eq_getElem hl]
        exact List.getElem_mem hl
      obtain ⟨t, ht⟩ := HBR.out _ hmem
      have hbel : Below w0.heap.size w0 wr := by have h3 := HB.out; subst h3; exact HW.out.trans hst.out.bel
      replace hx := (hbel.cell (World.block_lt_of_cell? w0 _ hx)).trans hx
      have HT := Aside0.mk ht
      have htk := take_rdo l i h0 hlt
      have hle : (bs ++ wholeC (l.take i.toNat)).length + (bareS (rdOf ByteArray.empty l i) ++ (⟨#[10]⟩ : ByteArray)).size ≤ 140737488355328 := by
        have h4 := wholeC_take l (i + 1).toNat
        rw [htk, wholeC_snoc, List.length_append, Lib.strCells_length] at h4
        have := HLN.out
        rw [List.length_append]
        omega
      have HLE := Aside0.mk hle
      have HTK := Lib.hid htk
      have HST := hst
      have hsz : (bareS (rdOf ByteArray.empty l i)).size + 1 ≤ 9223372036854775807 := by
        rw [List.length_append, ByteArray.size_append] at hle
        have : (⟨#[10]⟩ : ByteArray).size = 1 := rfl
        omega
      have hwi : IntKind.i64.wrap (i + 1) = i + 1 := by rw [i64_w]; unfold wrap64; have := HL.out; omega
      have hmax : B ≤ wr.heap.size := by have h3 := HB.out; rw [h3]; exact hbel.size
      have HMX := Aside0.mk hmax
      clear hst htk hle hbel hmem ht hmax
      go_wp2_with (first
        | (go_at_call 54; refine (lines_Bare.calls _ _ _ _ HT.out).mono ?_; rintro e w1 ⟨rfl, ⟨nd, rfl⟩⟩)
        | (go_at_call 55; refine (writeString_calls B b _ _ _ (HST.out.drewN nd).is HLE.out (by have := HMX.out; simp; omega)).mono ?_; rintro e w2 ⟨rfl, hw2⟩; have HW2 := Aside0.mk hw2; clear hw2))
      refine ⟨⟨i + 1, by omega, by omega, rfl, ⟨?_⟩⟩, by simp [intOf]; omega⟩
      rw [HTK.out, wholeC_snoc, ← List.append_assoc]
      exact (HST.out.drewN nd).wrote HW2.out
    · obtain rfl : i = l.length := by omega
      have HST := hst
      clear hst
      go_wp2
      go_end0
      have := HST.out
      rw [Int.toNat_natCast, List.take_length] at this
      exact ⟨rfl, this⟩
end Go.Proofs.Ytnllemlmgbjjnaa.PA
/- views.named: which texts are names; a walk over the letters of a text. -/
namespace Go.Proofs.Ytnllemlmgbjjnaa.PA
set_option linter.unusedVariables false
set_option linter.unusedSimpArgs false
open Go.RowKit Go.Proofs.YtnllemlmgbjjnaaW.PrintWords Go.Proofs.YtnllemlmgbjjnaaW.PrintLast Go.Proofs.YtnllemlmgbjjnaaW.PrintMore
/-- Is a letter of a name, at its place. -/
def letterB (c : Int) : Bool := c == 95 || (decide (97 ≤ c) && decide (c ≤ 122)) || (decide (65 ≤ c) && decide (c ≤ 90))
def nameCh (i : Nat) (c : Int) : Bool := letterB c || !(decide (i = 0) || decide (c < 48) || decide (57 < c))
def nameB (s : ByteArray) : Bool := (List.range s.size).all (fun i => nameCh i (bt s (i : Int))) && decide (s.size ≠ 0) && decide (s.size ≤ 64)
def views_named.f (a0 : ByteArray) : Option Bool := some (nameB a0)
theorem name_stop {s : ByteArray} {i : Nat} (h : i < s.size) (hc : nameCh i (bt s (i : Int)) = false) : nameB s = false := by
  unfold nameB
  have : (List.range s.size).all (fun i => nameCh i (bt s (i : Int))) = false := by
    rw [List.all_eq_false]
    exact ⟨i, List.mem_range.2 h, by rw [hc]; decide⟩
  rw [this]; rfl
set_option maxRecDepth 100000 in
set_option maxHeartbeats 4000000 in
theorem views_named.calls (a0 : ByteArray) (r : Bool) (w : World) (h : views_named.f a0 = some r) :
    Calls Try.prog 52 #[.string a0] w fun e w' => e = .returned (.bool r) ∧ Below w.heap.size w w' := by
  have HRES := Lib.hid (Option.some.inj h)
  clear h
  have hu9 := Try.underlying9
  go_enter Try.func52, Try.ntmps52
  go_wp2
  go_loopw [] (fun wr => ∃ pos : Nat, pos ≤ a0.size ∧ wr = w.iter a0 pos ∧ ∀ j : Nat, j < pos → nameCh j (bt a0 (j : Int)) = true) (fun wr => a0.size - wr.iterPos w.heap.size)
  case atStart => exact ⟨0, Nat.zero_le _, rfl, fun j hj => absurd hj (Nat.not_lt_zero _)⟩
  case round =>
    obtain ⟨pos, hp, rfl, hall⟩ := hrel
    by_cases hlt : pos < a0.size
    · by_cases hasc : (a0[pos]'hlt).toNat < 128
      · have hnx := fun ty => run_next_ascii (P := Try.prog) w a0 pos ty hlt hasc
        have hb : ((a0[pos]'hlt).toNat : Int) = bt a0 (pos : Int) := by unfold bt; rw [dif_pos (by simpa using hlt)]; rfl
        rw [hb] at hnx
        have hr := bt_range a0 (pos : Int)
        have HLT := Aside0.mk hlt
        have HALL := Aside0.mk hall
        generalize hc : bt a0 (pos : Int) = c at hnx hr
        have HC := Lib.hid hc
        clear hlt hall hasc hb hc
        have hb1 : Below w.heap.size w (w.iter a0 (pos + 1)) := (Below.refl _ w).alloc (Nat.le_refl _) _
        have stop : nameCh pos c = false → nameB a0 = false := fun h => name_stop HLT.out (by rw [HC.out]; exact h)
        have go : nameCh pos c = true → ∀ j : Nat, j < pos + 1 → nameCh j (bt a0 (j : Int)) = true := fun h j hj => by
          by_cases e : j = pos
          · rw [e, HC.out]; exact h
          · exact HALL.out j (by omega)
        have HST := Aside0.mk stop
        have HGO := Aside0.mk go
        clear stop go
        by_cases h95 : c = 95
        · skip
          have e95 : (c == 95) = true := beq_iff_eq.2 (by omega)
          have g97 : decide (97 ≤ c) = false := decide_eq_false (by omega)
          have g65 : decide (65 ≤ c) = true := decide_eq_true (by omega)
          have l90 : decide (c ≤ 90) = false := decide_eq_false (by omega)
          go_wp2_with fail
          exact ⟨⟨pos + 1, by have := HLT.out; omega, rfl, HGO.out (by unfold nameCh letterB; simp [*])⟩, by have := HLT.out; simp; omega⟩
        · by_cases h97 : 97 ≤ c
          · by_cases h122 : c ≤ 122
            · skip
              have e95 : (c == 95) = false := beq_eq_false_iff_ne.2 (by omega)
              have g97 : decide (97 ≤ c) = true := decide_eq_true (by omega)
              have l122 : decide (c ≤ 122) = true := decide_eq_true (by omega)
              go_wp2_with fail
              exact ⟨⟨pos + 1, by have := HLT.out; omega, rfl, HGO.out (by unfold nameCh letterB; simp [*])⟩, by have := HLT.out; simp; omega⟩
            · skip
              by_cases q0 : pos = 0
              · subst q0
                have e95 : (c == 95) = false := beq_eq_false_iff_ne.2 (by omega)
                have g97 : decide (97 ≤ c) = true := decide_eq_true (by omega)
                have l122 : decide (c ≤ 122) = false := decide_eq_false (by omega)
                have g65 : decide (65 ≤ c) = true := decide_eq_true (by omega)
                have l90 : decide (c ≤ 90) = false := decide_eq_false (by omega)
                have p0 : (((0 : Nat) : Int) == 0) = true := rfl
                go_wp2_with fail
                go_ret
                exact ⟨by rw [← HRES.out, HST.out (by unfold nameCh letterB; simp [*])]; try rfl, hb1⟩
              · skip
                have e95 : (c == 95) = false := beq_eq_false_iff_ne.2 (by omega)
                have g97 : decide (97 ≤ c) = true := decide_eq_true (by omega)
                have l122 : decide (c ≤ 122) = false := decide_eq_false (by omega)
                have g65 : decide (65 ≤ c) = true := decide_eq_true (by omega)
                have l90 : decide (c ≤ 90) = false := decide_eq_false (by omega)
                have p0 : ((pos : Int) == 0) = false := beq_eq_false_iff_ne.2 (by omega)
                have c48 : decide (c < 48) = false := decide_eq_false (by omega)
                have c57 : decide (57 < c) = true := decide_eq_true (by omega)
                go_wp2_with fail
                go_ret
                exact ⟨by rw [← HRES.out, HST.out (by unfold nameCh letterB; simp [*])]; try rfl, hb1⟩
          · by_cases h65 : 65 ≤ c
            · by_cases h90 : c ≤ 90
              · skip
                have e95 : (c == 95) = false := beq_eq_false_iff_ne.2 (by omega)
                have g97 : decide (97 ≤ c) = false := decide_eq_false (by omega)
                have g65 : decide (65 ≤ c) = true := decide_eq_true (by omega)
                have l90 : decide (c ≤ 90) = true := decide_eq_true (by omega)
                go_wp2_with fail
                exact ⟨⟨pos + 1, by have := HLT.out; omega, rfl, HGO.out (by unfold nameCh letterB; simp [*])⟩, by have := HLT.out; simp; omega⟩
              · skip
                by_cases q0 : pos = 0
                · subst q0
                  have e95 : (c == 95) = false := beq_eq_false_iff_ne.2 (by omega)
                  have g97 : decide (97 ≤ c) = false := decide_eq_false (by omega)
                  have g65 : decide (65 ≤ c) = true := decide_eq_true (by omega)
                  have l90 : decide (c ≤ 90) = false := decide_eq_false (by omega)
                  have p0 : (((0 : Nat) : Int) == 0) = true := rfl
                  go_wp2_with fail
                  go_ret
                  exact ⟨by rw [← HRES.out, HST.out (by unfold nameCh letterB; simp [*])]; try rfl, hb1⟩
                · skip
                  have e95 : (c == 95) = false := beq_eq_false_iff_ne.2 (by omega)
                  have g97 : decide (97 ≤ c) = false := decide_eq_false (by omega)
                  have g65 : decide (65 ≤ c) = true := decide_eq_true (by omega)
                  have l90 : decide (c ≤ 90) = false := decide_eq_false (by omega)
                  have p0 : ((pos : Int) == 0) = false := beq_eq_false_iff_ne.2 (by omega)
                  have c48 : decide (c < 48) = false := decide_eq_false (by omega)
                  have c57 : decide (57 < c) = true := decide_eq_true (by omega)
                  go_wp2_with fail
                  go_ret
                  exact ⟨by rw [← HRES.out, HST.out (by unfold nameCh letterB; simp [*])]; try rfl, hb1⟩
            · skip
              by_cases q0 : pos = 0
              · subst q0
                have e95 : (c == 95) = false := beq_eq_false_iff_ne.2 (by omega)
                have g97 : decide (97 ≤ c) = false := decide_eq_false (by omega)
                have g65 : decide (65 ≤ c) = false := decide_eq_false (by omega)
                have p0 : (((0 : Nat) : Int) == 0) = true := rfl
                go_wp2_with fail
                go_ret
                exact ⟨by rw [← HRES.out, HST.out (by unfold nameCh letterB; simp [*])]; try rfl, hb1⟩
              · by_cases q1 : c < 48
                · skip
                  have e95 : (c == 95) = false := beq_eq_false_iff_ne.2 (by omega)
                  have g97 : decide (97 ≤ c) = false := decide_eq_false (by omega)
                  have g65 : decide (65 ≤ c) = false := decide_eq_false (by omega)
                  have p0 : ((pos : Int) == 0) = false := beq_eq_false_iff_ne.2 (by omega)
                  have c48 : decide (c < 48) = true := decide_eq_true (by omega)
                  go_wp2_with fail
                  go_ret
                  exact ⟨by rw [← HRES.out, HST.out (by unfold nameCh letterB; simp [*])]; try rfl, hb1⟩
                · by_cases q2 : 57 < c
                  · skip
                    have e95 : (c == 95) = false := beq_eq_false_iff_ne.2 (by omega)
                    have g97 : decide (97 ≤ c) = false := decide_eq_false (by omega)
                    have g65 : decide (65 ≤ c) = false := decide_eq_false (by omega)
                    have p0 : ((pos : Int) == 0) = false := beq_eq_false_iff_ne.2 (by omega)
                    have c48 : decide (c < 48) = false := decide_eq_false (by omega)
                    have c57 : decide (57 < c) = true := decide_eq_true (by omega)
                    go_wp2_with fail
                    go_ret
                    exact ⟨by rw [← HRES.out, HST.out (by unfold nameCh letterB; simp [*])]; try rfl, hb1⟩
                  · skip
                    have e95 : (c == 95) = false := beq_eq_false_iff_ne.2 (by omega)
                    have g97 : decide (97 ≤ c) = false := decide_eq_false (by omega)
                    have g65 : decide (65 ≤ c) = false := decide_eq_false (by omega)
                    have p0 : ((pos : Int) == 0) = false := beq_eq_false_iff_ne.2 (by omega)
                    have c48 : decide (c < 48) = false := decide_eq_false (by omega)
                    have c57 : decide (57 < c) = false := decide_eq_false (by omega)
                    go_wp2_with fail
                    exact ⟨⟨pos + 1, by have := HLT.out; omega, rfl, HGO.out (by unfold nameCh letterB; simp [*])⟩, by have := HLT.out; simp; omega⟩
      · have hnx := fun ty => run_next_any (P := Try.prog) w a0 pos ty hlt
        have hd := (decode_high a0 pos hlt (by omega)).1
        have hst : nameB a0 = false := by
          refine name_stop hlt ?_
          have hb : bt a0 (pos : Int) = ((a0[pos]'hlt).toNat : Int) := by unfold bt; rw [dif_pos (by simpa using hlt)]; rfl
          rw [hb]
          unfold nameCh letterB
          simp
          omega
        have HST := Lib.hid hst
        have hb1 : Below w.heap.size w (w.iter a0 (pos + (Utf8.decode a0 pos).2)) := (Below.refl _ w).alloc (Nat.le_refl _) _
        clear hlt hasc hst hall
        generalize (Utf8.decode a0 pos).2 = q2 at hnx hb1
        obtain ⟨c, hc⟩ : ∃ c : Int, ((Utf8.decode a0 pos).1 : Int) = c := ⟨_, rfl⟩
        rw [hc] at hnx
        have hd : 128 ≤ c := by omega
        clear hc
        have e95 : (c == 95) = false := beq_eq_false_iff_ne.2 (by omega)
        have g97 : decide (97 ≤ c) = true := decide_eq_true (by omega)
        have l122 : decide (c ≤ 122) = false := decide_eq_false (by omega)
        have g65 : decide (65 ≤ c) = true := decide_eq_true (by omega)
        have l90 : decide (c ≤ 90) = false := decide_eq_false (by omega)
        have c48 : decide (c < 48) = false := decide_eq_false (by omega)
        have c57 : decide (57 < c) = true := decide_eq_true (by omega)
        by_cases q0 : pos = 0
        · subst q0
          have p0 : (((0 : Nat) : Int) == 0) = true := rfl
          go_wp2_with fail
          go_ret
          exact ⟨by rw [← HRES.out, HST.out]; try rfl, by simpa using hb1⟩
        · have p0 : ((pos : Int) == 0) = false := beq_eq_false_iff_ne.2 (by omega)
          go_wp2_with fail
          go_ret
          exact ⟨by rw [← HRES.out, HST.out]; try rfl, hb1⟩
    · obtain rfl : pos = a0.size := by omega
      have hnx := fun ty => run_next_end (P := Try.prog) w a0 a0.size ty (Nat.lt_irrefl _)
      have hb1 : Below w.heap.size w (w.iter a0 a0.size) := (Below.refl _ w).alloc (Nat.le_refl _) _
      have he : a0.toList.isEmpty = decide (a0.size = 0) := by
        rw [Bool.eq_iff_iff, List.isEmpty_iff_length_eq_zero, decide_eq_true_iff, Lib.toList_data]
        exact Iff.rfl
      have hres : nameB a0 = (!a0.toList.isEmpty && decide ((a0.size : Int) ≤ 64)) := by
        unfold nameB
        rw [List.all_eq_true.2 (fun i hi => hall i (List.mem_range.1 hi)), Bool.true_and, he]
        congr 1
        · exact decide_not
        · exact decide_eq_decide.2 (by omega)
      have HR2 := Lib.hid hres
      clear hres hall hlt hp he
      go_wp2_with fail
      all_goals go_ret
      all_goals refine ⟨?_, hb1⟩
      all_goals rw [← HRES.out, HR2.out]
      all_goals first | rfl | (simp_all; done)
end Go.Proofs.Ytnllemlmgbjjnaa.PA
namespace Go.Proofs.Ytnllemlmgbjjnaa.PA
open Go.RowKit Go.Proofs.YtnllemlmgbjjnaaW.PrintWords Go.Proofs.YtnllemlmgbjjnaaW.PrintLast Go.Proofs.YtnllemlmgbjjnaaW.PrintMore
attribute [local go_sem] max2_int min2_int max_two min_two max_three min_three max_four min_four   -- for this text's walks alone
set_option linter.unusedVariables false
set_option linter.unusedSimpArgs false
def views_of.f (a0 : ByteArray) : Option (ByteArray × ByteArray × ByteArray × ByteArray × ByteArray) := if 7 + a0.size ≤ 9223372036854775807 then (if ((⟨#[35, 105, 102, 100, 101, 102, 32]⟩ : ByteArray) ++ a0).size + 1 ≤ 9223372036854775807 then (if 8 + a0.size ≤ 9223372036854775807 then (if ((⟨#[35, 105, 102, 110, 100, 101, 102, 32]⟩ : ByteArray) ++ a0).size + 1 ≤ 9223372036854775807 then (if 9 + a0.size ≤ 9223372036854775807 then (if ((⟨#[35, 101, 108, 115, 101, 32, 47, 42, 32]⟩ : ByteArray) ++ a0).size + 4 ≤ 9223372036854775807 then (if 10 + a0.size ≤ 9223372036854775807 then (if ((⟨#[35, 101, 110, 100, 105, 102, 32, 47, 42, 32]⟩ : ByteArray) ++ a0).size + 4 ≤ 9223372036854775807 then (if 12 + a0.size ≤ 9223372036854775807 then (if ((⟨#[35, 101, 110, 100, 105, 102, 32, 47, 42, 32, 33, 32]⟩ : ByteArray) ++ a0).size + 4 ≤ 9223372036854775807 then (some (((⟨#[35, 105, 102, 100, 101, 102, 32]⟩ : ByteArray) ++ a0) ++ (⟨#[10]⟩ : ByteArray), ((⟨#[35, 105, 102, 110, 100, 101, 102, 32]⟩ : ByteArray) ++ a0) ++ (⟨#[10]⟩ : ByteArray), ((⟨#[35, 101, 108, 115, 101, 32, 47, 42, 32]⟩ : ByteArray) ++ a0) ++ (⟨#[32, 42, 47, 10]⟩ : ByteArray), ((⟨#[35, 101, 110, 100, 105, 102, 32, 47, 42, 32]⟩ : ByteArray) ++ a0) ++ (⟨#[32, 42, 47, 10]⟩ : ByteArray), ((⟨#[35, 101, 110, 100, 105, 102, 32, 47, 42, 32, 33, 32]⟩ : ByteArray) ++ a0) ++ (⟨#[32, 42, 47, 10]⟩ : ByteArray))) else (none)) else (none)) else (none)) else (none)) else (none)) else (none)) else (none)) else (none)) else (none)) else (none)
set_option maxHeartbeats 8000000 in
set_option maxRecDepth 100000 in
theorem views_of.calls (a0 : ByteArray) (r1 : ByteArray) (r2 : ByteArray) (r3 : ByteArray) (r4 : ByteArray) (r5 : ByteArray) (w : World) (h : views_of.f a0 = some (r1, r2, r3, r4, r5)) :
    Calls Try.prog 56 #[.string a0] w fun e w' => e = .returned (.agg #[.string r1, .string r2, .string r3, .string r4, .string r5]) ∧ Below w.heap.size w w' := by
  have hu91 := Try.underlying91
  have HB := Aside0.mk (Below.refl w.heap.size w)
  have H : (if 7 + a0.size ≤ 9223372036854775807 then (if ((⟨#[35, 105, 102, 100, 101, 102, 32]⟩ : ByteArray) ++ a0).size + 1 ≤ 9223372036854775807 then (if 8 + a0.size ≤ 9223372036854775807 then (if ((⟨#[35, 105, 102, 110, 100, 101, 102, 32]⟩ : ByteArray) ++ a0).size + 1 ≤ 9223372036854775807 then (if 9 + a0.size ≤ 9223372036854775807 then (if ((⟨#[35, 101, 108, 115, 101, 32, 47, 42, 32]⟩ : ByteArray) ++ a0).size + 4 ≤ 9223372036854775807 then (if 10 + a0.size ≤ 9223372036854775807 then (if ((⟨#[35, 101, 110, 100, 105, 102, 32, 47, 42, 32]⟩ : ByteArray) ++ a0).size + 4 ≤ 9223372036854775807 then (if 12 + a0.size ≤ 9223372036854775807 then (if ((⟨#[35, 101, 110, 100, 105, 102, 32, 47, 42, 32, 33, 32]⟩ : ByteArray) ++ a0).size + 4 ≤ 9223372036854775807 then (some (((⟨#[35, 105, 102, 100, 101, 102, 32]⟩ : ByteArray) ++ a0) ++ (⟨#[10]⟩ : ByteArray), ((⟨#[35, 105, 102, 110, 100, 101, 102, 32]⟩ : ByteArray) ++ a0) ++ (⟨#[10]⟩ : ByteArray), ((⟨#[35, 101, 108, 115, 101, 32, 47, 42, 32]⟩ : ByteArray) ++ a0) ++ (⟨#[32, 42, 47, 10]⟩ : ByteArray), ((⟨#[35, 101, 110, 100, 105, 102, 32, 47, 42, 32]⟩ : ByteArray) ++ a0) ++ (⟨#[32, 42, 47, 10]⟩ : ByteArray), ((⟨#[35, 101, 110, 100, 105, 102, 32, 47, 42, 32, 33, 32]⟩ : ByteArray) ++ a0) ++ (⟨#[32, 42, 47, 10]⟩ : ByteArray))) else (none)) else (none)) else (none)) else (none)) else (none)) else (none)) else (none)) else (none)) else (none)) else (none)) = some (r1, r2, r3, r4, r5) := h
  clear h
  by_cases c2 : 7 + a0.size ≤ 9223372036854775807
  · rw [if_pos c2] at H
    have c2b0 := eq_true c2
    have c2b1 : decide (7 + a0.size ≤ 9223372036854775807) = true := decide_eq_true c2
    try have c2b2 : (9223372036854775807 < 7 + a0.size) = False := eq_false (Nat.not_lt.2 c2)
    by_cases c3 : ((⟨#[35, 105, 102, 100, 101, 102, 32]⟩ : ByteArray) ++ a0).size + 1 ≤ 9223372036854775807
    · rw [if_pos c3] at H
      have c3b0 := eq_true c3
      have c3b1 : decide (((⟨#[35, 105, 102, 100, 101, 102, 32]⟩ : ByteArray) ++ a0).size + 1 ≤ 9223372036854775807) = true := decide_eq_true c3
      try have c3b2 : (9223372036854775807 < ((⟨#[35, 105, 102, 100, 101, 102, 32]⟩ : ByteArray) ++ a0).size + 1) = False := eq_false (Nat.not_lt.2 c3)
      by_cases c4 : 8 + a0.size ≤ 9223372036854775807
      · rw [if_pos c4] at H
        have c4b0 := eq_true c4
        have c4b1 : decide (8 + a0.size ≤ 9223372036854775807) = true := decide_eq_true c4
        try have c4b2 : (9223372036854775807 < 8 + a0.size) = False := eq_false (Nat.not_lt.2 c4)
        by_cases c5 : ((⟨#[35, 105, 102, 110, 100, 101, 102, 32]⟩ : ByteArray) ++ a0).size + 1 ≤ 9223372036854775807
        · rw [if_pos c5] at H
          have c5b0 := eq_true c5
          have c5b1 : decide (((⟨#[35, 105, 102, 110, 100, 101, 102, 32]⟩ : ByteArray) ++ a0).size + 1 ≤ 9223372036854775807) = true := decide_eq_true c5
          try have c5b2 : (9223372036854775807 < ((⟨#[35, 105, 102, 110, 100, 101, 102, 32]⟩ : ByteArray) ++ a0).size + 1) = False := eq_false (Nat.not_lt.2 c5)
          by_cases c6 : 9 + a0.size ≤ 9223372036854775807
          · rw [if_pos c6] at H
            have c6b0 := eq_true c6
            have c6b1 : decide (9 + a0.size ≤ 9223372036854775807) = true := decide_eq_true c6
            try have c6b2 : (9223372036854775807 < 9 + a0.size) = False := eq_false (Nat.not_lt.2 c6)
            by_cases c7 : ((⟨#[35, 101, 108, 115, 101, 32, 47, 42, 32]⟩ : ByteArray) ++ a0).size + 4 ≤ 9223372036854775807
            · rw [if_pos c7] at H
              have c7b0 := eq_true c7
              have c7b1 : decide (((⟨#[35, 101, 108, 115, 101, 32, 47, 42, 32]⟩ : ByteArray) ++ a0).size + 4 ≤ 9223372036854775807) = true := decide_eq_true c7
              try have c7b2 : (9223372036854775807 < ((⟨#[35, 101, 108, 115, 101, 32, 47, 42, 32]⟩ : ByteArray) ++ a0).size + 4) = False := eq_false (Nat.not_lt.2 c7)
              by_cases c8 : 10 + a0.size ≤ 9223372036854775807
              · rw [if_pos c8] at H
                have c8b0 := eq_true c8
                have c8b1 : decide (10 + a0.size ≤ 9223372036854775807) = true := decide_eq_true c8
                try have c8b2 : (9223372036854775807 < 10 + a0.size) = False := eq_false (Nat.not_lt.2 c8)
                by_cases c9 : ((⟨#[35, 101, 110, 100, 105, 102, 32, 47, 42, 32]⟩ : ByteArray) ++ a0).size + 4 ≤ 9223372036854775807
                · rw [if_pos c9] at H
                  have c9b0 := eq_true c9
                  have c9b1 : decide (((⟨#[35, 101, 110, 100, 105, 102, 32, 47, 42, 32]⟩ : ByteArray) ++ a0).size + 4 ≤ 9223372036854775807) = true := decide_eq_true c9
                  try have c9b2 : (9223372036854775807 < ((⟨#[35, 101, 110, 100, 105, 102, 32, 47, 42, 32]⟩ : ByteArray) ++ a0).size + 4) = False := eq_false (Nat.not_lt.2 c9)
                  by_cases c10 : 12 + a0.size ≤ 9223372036854775807
                  · rw [if_pos c10] at H
                    have c10b0 := eq_true c10
                    have c10b1 : decide (12 + a0.size ≤ 9223372036854775807) = true := decide_eq_true c10
                    try have c10b2 : (9223372036854775807 < 12 + a0.size) = False := eq_false (Nat.not_lt.2 c10)
                    by_cases c11 : ((⟨#[35, 101, 110, 100, 105, 102, 32, 47, 42, 32, 33, 32]⟩ : ByteArray) ++ a0).size + 4 ≤ 9223372036854775807
                    · rw [if_pos c11] at H
                      have c11b0 := eq_true c11
                      have c11b1 : decide (((⟨#[35, 101, 110, 100, 105, 102, 32, 47, 42, 32, 33, 32]⟩ : ByteArray) ++ a0).size + 4 ≤ 9223372036854775807) = true := decide_eq_true c11
                      try have c11b2 : (9223372036854775807 < ((⟨#[35, 101, 110, 100, 105, 102, 32, 47, 42, 32, 33, 32]⟩ : ByteArray) ++ a0).size + 4) = False := eq_false (Nat.not_lt.2 c11)
                      simp only [Option.some.injEq, Prod.mk.injEq] at H
                      obtain ⟨rfl, rfl, rfl, rfl, rfl⟩ := H
                      have hz_ : 12 + a0.size + 4 ≤ 9223372036854775807 := by have h_ := of_decide_eq_true c11b1; rw [ByteArray.size_append] at h_; exact h_
                      have hz7_ : (9223372036854775807 < 7 + a0.size + 1) = False := eq_false (by omega)
                      have hz8_ : (9223372036854775807 < 8 + a0.size + 1) = False := eq_false (by omega)
                      have hz9_ : (9223372036854775807 < 9 + a0.size + 4) = False := eq_false (by omega)
                      have hz10_ : (9223372036854775807 < 10 + a0.size + 4) = False := eq_false (by omega)
                      have hz12_ : (9223372036854775807 < 12 + a0.size + 4) = False := eq_false (by omega)
                      clear hz_
                      go_enter Try.func56, Try.ntmps56
                      go_wp2_with (first | ((with_reducible refine gate_dst (N := 2) rfl ?_); refine box_event ?hg (N := 2) ?hd (cs := #[.string (⟨#[]⟩ : ByteArray), .string (⟨#[]⟩ : ByteArray), .string (⟨#[]⟩ : ByteArray), .string (⟨#[]⟩ : ByteArray), .string (⟨#[]⟩ : ByteArray)]) (t := 91) ?hr ?_; (case hd => rfl); (case hg => rfl); (case hr => first | (go_simp; done) | (go_simp; rfl)); intro gb668 hg w12 hbox hb; have n0_ := Aside0.mk (below_step (by repeat (first | (with_reducible first | exact HB.out | apply below_alloc | apply pw_below_drewN | apply below_drew1) | exact HB.out)) hb); have n1_ := Aside0.mk (hbox); have n2_ := Aside0.mk ((by rw [hg]; exact (below_size (by repeat (first | (with_reducible first | exact HB.out | apply below_alloc | apply pw_below_drewN | apply below_drew1) | exact HB.out))) : w.heap.size ≤ gb668)); have n3_ := Aside0.mk ((by rw [hg]; exact (below_size (by repeat (first | (with_reducible first | exact HB.out | apply below_alloc | apply pw_below_drewN | apply below_drew1) | exact HB.out))) : w.heap.size ≤ gb668)); clear HB; have HB := n0_; have BK668 := n1_; have GW668 := n2_; have GE668 := n3_; clear n0_ n1_ n2_ n3_; clear hb hbox hg; have hcz13_0 : w12.cell? ⟨gb668, 0, none⟩ = some (.string (⟨#[]⟩ : ByteArray)) := (blk_cell BK668.out 0).trans rfl; have hcz13_1 : w12.cell? ⟨gb668, 1, none⟩ = some (.string (⟨#[]⟩ : ByteArray)) := (blk_cell BK668.out 1).trans rfl; have hcz13_2 : w12.cell? ⟨gb668, 2, none⟩ = some (.string (⟨#[]⟩ : ByteArray)) := (blk_cell BK668.out 2).trans rfl; have hcz13_3 : w12.cell? ⟨gb668, 3, none⟩ = some (.string (⟨#[]⟩ : ByteArray)) := (blk_cell BK668.out 3).trans rfl; have hcz13_4 : w12.cell? ⟨gb668, 4, none⟩ = some (.string (⟨#[]⟩ : ByteArray)) := (blk_cell BK668.out 4).trans rfl; have hfz13_0 := blk_frozen BK668.out 0; have hfz13_1 := blk_frozen BK668.out 1; have hfz13_2 := blk_frozen BK668.out 2; have hfz13_3 := blk_frozen BK668.out 3; have hfz13_4 := blk_frozen BK668.out 4))
                      refine bodyPost_ret (results_cell_row rfl _ _ gb668 91 #[.string (((⟨#[35, 105, 102, 100, 101, 102, 32]⟩ : ByteArray) ++ a0) ++ (⟨#[10]⟩ : ByteArray)), .string (((⟨#[35, 105, 102, 110, 100, 101, 102, 32]⟩ : ByteArray) ++ a0) ++ (⟨#[10]⟩ : ByteArray)), .string (((⟨#[35, 101, 108, 115, 101, 32, 47, 42, 32]⟩ : ByteArray) ++ a0) ++ (⟨#[32, 42, 47, 10]⟩ : ByteArray)), .string (((⟨#[35, 101, 110, 100, 105, 102, 32, 47, 42, 32]⟩ : ByteArray) ++ a0) ++ (⟨#[32, 42, 47, 10]⟩ : ByteArray)), .string (((⟨#[35, 101, 110, 100, 105, 102, 32, 47, 42, 32, 33, 32]⟩ : ByteArray) ++ a0) ++ (⟨#[32, 42, 47, 10]⟩ : ByteArray))] (0, 0) _ rfl (by (with_reducible repeat (first | refine blk_drewN ?_ _ | refine blk_drew ?_ | refine blk_alloc ?_ _)); refine blk_put (cs := #[.string (((⟨#[35, 105, 102, 100, 101, 102, 32]⟩ : ByteArray) ++ a0) ++ (⟨#[10]⟩ : ByteArray)), .string (((⟨#[35, 105, 102, 110, 100, 101, 102, 32]⟩ : ByteArray) ++ a0) ++ (⟨#[10]⟩ : ByteArray)), .string (((⟨#[35, 101, 108, 115, 101, 32, 47, 42, 32]⟩ : ByteArray) ++ a0) ++ (⟨#[32, 42, 47, 10]⟩ : ByteArray)), .string (((⟨#[35, 101, 110, 100, 105, 102, 32, 47, 42, 32]⟩ : ByteArray) ++ a0) ++ (⟨#[32, 42, 47, 10]⟩ : ByteArray)), .string (⟨#[]⟩ : ByteArray)]) ?_ 4 _ rfl; (with_reducible repeat (first | refine blk_drewN ?_ _ | refine blk_drew ?_ | refine blk_alloc ?_ _)); refine blk_put (cs := #[.string (((⟨#[35, 105, 102, 100, 101, 102, 32]⟩ : ByteArray) ++ a0) ++ (⟨#[10]⟩ : ByteArray)), .string (((⟨#[35, 105, 102, 110, 100, 101, 102, 32]⟩ : ByteArray) ++ a0) ++ (⟨#[10]⟩ : ByteArray)), .string (((⟨#[35, 101, 108, 115, 101, 32, 47, 42, 32]⟩ : ByteArray) ++ a0) ++ (⟨#[32, 42, 47, 10]⟩ : ByteArray)), .string (⟨#[]⟩ : ByteArray), .string (⟨#[]⟩ : ByteArray)]) ?_ 3 _ rfl; (with_reducible repeat (first | refine blk_drewN ?_ _ | refine blk_drew ?_ | refine blk_alloc ?_ _)); refine blk_put (cs := #[.string (((⟨#[35, 105, 102, 100, 101, 102, 32]⟩ : ByteArray) ++ a0) ++ (⟨#[10]⟩ : ByteArray)), .string (((⟨#[35, 105, 102, 110, 100, 101, 102, 32]⟩ : ByteArray) ++ a0) ++ (⟨#[10]⟩ : ByteArray)), .string (⟨#[]⟩ : ByteArray), .string (⟨#[]⟩ : ByteArray), .string (⟨#[]⟩ : ByteArray)]) ?_ 2 _ rfl; (with_reducible repeat (first | refine blk_drewN ?_ _ | refine blk_drew ?_ | refine blk_alloc ?_ _)); refine blk_put (cs := #[.string (((⟨#[35, 105, 102, 100, 101, 102, 32]⟩ : ByteArray) ++ a0) ++ (⟨#[10]⟩ : ByteArray)), .string (⟨#[]⟩ : ByteArray), .string (⟨#[]⟩ : ByteArray), .string (⟨#[]⟩ : ByteArray), .string (⟨#[]⟩ : ByteArray)]) ?_ 1 _ rfl; (with_reducible repeat (first | refine blk_drewN ?_ _ | refine blk_drew ?_ | refine blk_alloc ?_ _)); refine blk_put (cs := #[.string (⟨#[]⟩ : ByteArray), .string (⟨#[]⟩ : ByteArray), .string (⟨#[]⟩ : ByteArray), .string (⟨#[]⟩ : ByteArray), .string (⟨#[]⟩ : ByteArray)]) ?_ 0 _ rfl; (with_reducible repeat (first | refine blk_drewN ?_ _ | refine blk_drew ?_ | refine blk_alloc ?_ _)); exact BK668.out) Try.underlying91 rfl (by kernel_rfl)) rfl ?_
                      exact ⟨by first | rfl | (simp [errW_none, errW_some] <;> rfl) | (simp [*, errW_none, errW_some] <;> rfl), by repeat (first | (with_reducible first | exact HB.out | apply below_alloc | apply pw_below_drewN | apply below_drew1 | refine below_set ?_ GE668.out) | exact HB.out)⟩
                    · rw [if_neg c11] at H
                      exact absurd H (by simp)
                  · rw [if_neg c10] at H
                    exact absurd H (by simp)
                · rw [if_neg c9] at H
                  exact absurd H (by simp)
              · rw [if_neg c8] at H
                exact absurd H (by simp)
            · rw [if_neg c7] at H
              exact absurd H (by simp)
          · rw [if_neg c6] at H
            exact absurd H (by simp)
        · rw [if_neg c5] at H
          exact absurd H (by simp)
      · rw [if_neg c4] at H
        exact absurd H (by simp)
    · rw [if_neg c3] at H
      exact absurd H (by simp)
  · rw [if_neg c2] at H
    exact absurd H (by simp)
end Go.Proofs.Ytnllemlmgbjjnaa.PA
/- views.Ifdef: the walk of it, out of what its callees answer. -/
namespace Go.Proofs.Ytnllemlmgbjjnaa.PA
set_option linter.unusedVariables false
set_option linter.unusedSimpArgs false
open Go.RowKit Go.Proofs.YtnllemlmgbjjnaaW.PrintWords Go.Proofs.YtnllemlmgbjjnaaW.PrintLast Go.Proofs.YtnllemlmgbjjnaaW.PrintMore
def wholeB (l : List ByteArray) : List UInt8 := l.flatMap fun s => (bareS s ++ (⟨#[10]⟩ : ByteArray)).data.toList
theorem byteCells_append (a b : List UInt8) : Lib.byteCells (a ++ b) = Lib.byteCells a ++ Lib.byteCells b := by simp [Lib.byteCells]
theorem wholeC_eq (l : List ByteArray) : wholeC l = Lib.byteCells (wholeB l) := by
  induction l with
  | nil => rfl
  | cons s t ih =>
    show Lib.strCells _ ++ wholeC t = Lib.byteCells (_ ++ wholeB t)
    rw [ih, byteCells_append]
    rfl
/-- The five commands. -/
structure Sg where
  ifdef : ByteArray
  ifndef : ByteArray
  other : ByteArray
  fin : ByteArray
  finNot : ByteArray
/-- One piece more, under the limit of a builder. -/
def put1 (acc x : List UInt8) (f : List UInt8 → Option (List UInt8)) : Option (List UInt8) := if (acc ++ x).length ≤ 140737488355328 then f (acc ++ x) else none
/-- A part of a text. -/
def cutL (a : List ByteArray) (i j : Int) (f : List ByteArray → Option (List UInt8)) : Option (List UInt8) := if 0 ≤ i ∧ i ≤ j ∧ j ≤ (a.length : Int) then f ((a.take j.toNat).drop i.toNat) else none
def ifStep (a b : List ByteArray) (sg : Sg) (c : S94) (at_ : Int) (acc : List UInt8) : Option (List UInt8) :=
  cutL a at_ c.f0 fun p => put1 acc (wholeB p) fun acc =>
    if c.f3 = 0 then put1 acc sg.ifndef.data.toList fun acc => cutL a c.f0 (wrap64 (c.f0 + c.f1)) fun p => put1 acc (wholeB p) fun acc => put1 acc sg.finNot.data.toList some
    else (if c.f1 = 0 then put1 acc sg.ifdef.data.toList some
      else put1 acc sg.ifndef.data.toList fun acc => cutL a c.f0 (wrap64 (c.f0 + c.f1)) fun p => put1 acc (wholeB p) fun acc => put1 acc sg.other.data.toList some).bind fun acc =>
        cutL b c.f2 (wrap64 (c.f2 + c.f3)) fun p => put1 acc (wholeB p) fun acc => put1 acc sg.fin.data.toList some
def ifL (a b : List ByteArray) (sg : Sg) : List S94 → Int → List UInt8 → Option (List UInt8)
  | [], at_, acc => if 0 ≤ at_ ∧ at_ ≤ (a.length : Int) then put1 acc (wholeB (a.drop at_.toNat)) some else none
  | c :: t, at_, acc => (ifStep a b sg c at_ acc).bind fun acc => ifL a b sg t (wrap64 (c.f0 + c.f1)) acc
def bareOk (l : List ByteArray) : Bool := l.all fun s => (lines_Bare.f s).isSome
def views_Ifdef.f (k : Nat) (l0 : List S94) (l1 l2 : List ByteArray) (a3 : ByteArray) : Option (ByteArray × Int) :=
  if bareOk l1 = true ∧ bareOk l2 = true ∧ l1.length < 8796093022208 ∧ l2.length < 8796093022208 ∧ l0.length < 4398046511104 then
    (edits_Check.f k l0 (l1.length : Int) (l2.length : Int)).bind fun e => if e = 0 then (if nameB a3 = true then (views_of.f a3).bind fun s => (ifL l1 l2 ⟨s.1, s.2.1, s.2.2.1, s.2.2.2.1, s.2.2.2.2⟩ l0 0 []).bind fun acc => some ((⟨acc.toArray⟩ : ByteArray), 0)
      else some ((⟨#[]⟩ : ByteArray), 253)) else some ((⟨#[]⟩ : ByteArray), e)
  else none
theorem bare_of {l : List ByteArray} (h : bareOk l = true) : ∀ s ∈ l, ∃ t, lines_Bare.f s = some (bareS s, t) := by
  intro s hs
  obtain ⟨⟨u, t⟩, hu⟩ := Option.isSome_iff_exists.1 (List.all_eq_true.1 h s hs)
  exact ⟨t, by unfold bareS; rw [hu]; rfl⟩
end Go.Proofs.Ytnllemlmgbjjnaa.PA
/- views.Ifdef: the walk. -/
namespace Go.Proofs.Ytnllemlmgbjjnaa.PA
set_option linter.unusedVariables false
set_option linter.unusedSimpArgs false
open Go.RowKit Go.Proofs.YtnllemlmgbjjnaaW.PrintWords Go.Proofs.YtnllemlmgbjjnaaW.PrintLast Go.Proofs.YtnllemlmgbjjnaaW.PrintMore
/-- What the loop holds: the builder, the commands' box. -/
structure IfSt (w W : World) (b g : Nat) (sg : Sg) (acc : List UInt8) : Prop where
  is : Lib.IsBuilderF 82 5 w.heap.size b (Lib.byteCells acc) W
  bel : Below w.heap.size w W
  box : W.heap[g]? = some (.cells #[.string sg.ifdef, .string sg.ifndef, .string sg.other, .string sg.fin, .string sg.finNot] 91 (0, 0))
  ne : g ≠ b
theorem IfSt.step {w W W1 : World} {b g : Nat} {sg : Sg} {acc acc2 : List UInt8} (h : IfSt w W b g sg acc) (h2 : BSt w.heap.size b (Lib.byteCells acc2) W W1) : IfSt w W1 b g sg acc2 :=
  ⟨h2.is, h.bel.trans h2.bel, h2.kept g _ h.box (fun e => h.ne (by injection e)) (fun c fz he => by injection he with _ h3; exact absurd h3 (by decide)), h.ne⟩
theorem IfSt.alloc {w W : World} {b g : Nat} {sg : Sg} {acc : List UInt8} (h : IfSt w W b g sg acc) (o : Obj) : IfSt w (W.alloc o) b g sg acc :=
  ⟨h.is.alloc o, h.bel.alloc h.bel.size o, blk_alloc h.box o, h.ne⟩
/-- .. and in a round: the box of the change that is looked at. -/
structure RdSt (w W : World) (b g q : Nat) (sg : Sg) (c : S94) (acc : List UInt8) : Prop where
  st : IfSt w W b g sg acc
  box : W.heap[q]? = some (.cells #[.int .i64 c.f0, .int .i64 c.f1, .int .i64 c.f2, .int .i64 c.f3] 94 (0, 0))
  ne : q ≠ b
theorem RdSt.step {w W W1 : World} {b g q : Nat} {sg : Sg} {c : S94} {acc acc2 : List UInt8} (h : RdSt w W b g q sg c acc) (h2 : BSt w.heap.size b (Lib.byteCells acc2) W W1) : RdSt w W1 b g q sg c acc2 :=
  ⟨h.st.step h2, h2.kept q _ h.box (fun e => h.ne (by injection e)) (fun c fz he => by injection he with _ h3; exact absurd h3 (by decide)), h.ne⟩
theorem RdSt.write {w W W1 : World} {b g q : Nat} {sg : Sg} {c : S94} {acc : List UInt8} {x : ByteArray} (h : RdSt w W b g q sg c acc) (h2 : Wrote w.heap.size b (Lib.byteCells acc ++ Lib.strCells x) W W1) : RdSt w W1 b g q sg c (acc ++ x.data.toList) :=
  h.step ⟨by rw [byteCells_append]; exact .inr h2.1, h2.2.1, h2.2.2⟩
theorem RdSt.lines {w W W1 : World} {b g q : Nat} {sg : Sg} {c : S94} {acc : List UInt8} {l : List ByteArray} (h : RdSt w W b g q sg c acc) (h2 : BSt w.heap.size b (Lib.byteCells acc ++ wholeC l) W W1) : RdSt w W1 b g q sg c (acc ++ wholeB l) :=
  h.step ⟨by rw [byteCells_append, ← wholeC_eq]; exact h2.is, h2.bel, h2.kept⟩
theorem cut_some {a : List ByteArray} {i j : Int} {f : List ByteArray → Option (List UInt8)} {r : List UInt8} (h : cutL a i j f = some r) : (0 ≤ i ∧ i ≤ j ∧ j ≤ (a.length : Int)) ∧ f ((a.take j.toNat).drop i.toNat) = some r := by
  unfold cutL at h
  by_cases q : 0 ≤ i ∧ i ≤ j ∧ j ≤ (a.length : Int)
  · rw [if_pos q] at h; exact ⟨q, h⟩
  · rw [if_neg q] at h; cases h
theorem put_some {acc x : List UInt8} {f : List UInt8 → Option (List UInt8)} {r : List UInt8} (h : put1 acc x f = some r) : (acc ++ x).length ≤ 140737488355328 ∧ f (acc ++ x) = some r := by
  unfold put1 at h
  by_cases q : (acc ++ x).length ≤ 140737488355328
  · rw [if_pos q] at h; exact ⟨q, h⟩
  · rw [if_neg q] at h; cases h
theorem slice_fact {w : World} {A : Option Addr} {n : Nat} (l : List ByteArray) (i j : Int) (h : 0 ≤ i ∧ i ≤ j ∧ j ≤ (l.length : Int)) (hc : l.length ≤ n) (hr : Kd.C Kd.string w A l.length l) :
    ∃ A', (∀ W : World, Sem.run Try.prog (Instr.slice 27 (.slice A l.length n) (some (.int .i64 i)) (some (.int .i64 j)) none) W = .ok (.slice A' ((l.take j.toNat).drop i.toNat).length (n - i.toNat)) W) ∧ Kd.C Kd.string w A' ((l.take j.toNat).drop i.toNat).length ((l.take j.toNat).drop i.toNat) := by
  obtain ⟨i9, hi9, _, hsz9, _⟩ := info_parts info9
  obtain ⟨A5, hcut5, hA5, hC5⟩ := print_mid_of (P := Try.prog) Value.string (⟨#[]⟩ : ByteArray) 27 9 .i64 .i64 Try.underlying27 hi9 hsz9 A n l i j h.1 h.2.1 h.2.2 hc
  exact ⟨A5, hcut5, Kd.C_of_reads (h1 := fun _ => rfl) (hA5 _ (Kd.reads_of_C hr))⟩
theorem bare_cut {l : List ByteArray} (h : bareOk l = true) (i j : Nat) : bareOk ((l.take j).drop i) = true := List.all_eq_true.2 fun s hs => List.all_eq_true.1 h s (List.mem_of_mem_take (List.mem_of_mem_drop hs))
theorem len_cut {l : List ByteArray} (h : l.length < 8796093022208) (i j : Nat) : ((l.take j).drop i).length < 8796093022208 := by rw [List.length_drop, List.length_take]; omega
theorem all_of {w W : World} {b : Nat} {acc : List UInt8} {A : Option Addr} {n : Nat} {l : List ByteArray} (hi : Lib.IsBuilderF 82 5 w.heap.size b (Lib.byteCells acc) W) (hb : Below w.heap.size w W) (hr : Kd.C Kd.string w A l.length l) (ho : bareOk l = true) (hl : l.length < 8796093022208) (hq : (acc ++ wholeB l).length ≤ 140737488355328) :
    Calls Try.prog 53 #[.slice A l.length n, .pointer (some ⟨b, 0, none⟩)] W fun e w' => e = .returned (.tuple #[]) ∧ BSt w.heap.size b (Lib.byteCells acc ++ wholeC l) W w' :=
  all_calls w.heap.size b (Lib.byteCells acc) A n l w W hi hr rfl hb (bare_of ho) (by rw [wholeC_eq, ← List.length_append, ← byteCells_append, Lib.byteCells_length]; exact hq) hl
theorem write_of {w W : World} {b : Nat} {acc : List UInt8} {x : ByteArray} (hi : Lib.IsBuilderF 82 5 w.heap.size b (Lib.byteCells acc) W) (hb : Below w.heap.size w W) (hq : (acc ++ x.data.toList).length ≤ 140737488355328) :
    Calls Try.prog 55 #[.pointer (some ⟨b, 0, none⟩), .string x] W fun e w' => e = .returned (.tuple #[.int .i64 x.size, .nilIface]) ∧ Wrote w.heap.size b (Lib.byteCells acc ++ Lib.strCells x) W w' :=
  writeString_calls w.heap.size b (Lib.byteCells acc) x W hi (by rw [List.length_append] at hq; rw [Lib.byteCells_length]; exact hq) hb.size
set_option maxRecDepth 100000 in
set_option maxHeartbeats 8000000 in
theorem views_Ifdef.calls (k : Nat) (A0 : Option Addr) (c0 : Nat) (l0 : List S94) (A1 : Option Addr) (c1 : Nat) (l1 : List ByteArray) (A2 : Option Addr) (c2 : Nat) (l2 : List ByteArray) (a3 : ByteArray) (r1 : ByteArray) (r2 : Int) (w : World)
    (hr0 : Kd.C k94 w A0 l0.length l0) (hc0 : l0.length ≤ c0) (hr1 : Kd.C Kd.string w A1 l1.length l1) (hc1 : l1.length ≤ c1) (hr2 : Kd.C Kd.string w A2 l2.length l2) (hc2 : l2.length ≤ c2) (h : views_Ifdef.f k l0 l1 l2 a3 = some (r1, r2)) :
    Calls Try.prog 22 #[.slice A0 l0.length c0, .slice A1 l1.length c1, .slice A2 l2.length c2, .string a3] w fun e w' => e = .returned (.tuple #[.string r1, .int .i64 r2]) ∧ Below w.heap.size w w' := by
  unfold views_Ifdef.f at h
  by_cases hg : bareOk l1 = true ∧ bareOk l2 = true ∧ l1.length < 8796093022208 ∧ l2.length < 8796093022208 ∧ l0.length < 4398046511104
  case neg => rw [if_neg hg] at h; exact absurd h (by simp)
  rw [if_pos hg] at h
  obtain ⟨e0, he0, h⟩ := Option.bind_eq_some_iff.1 h
  have HE := Aside0.mk he0
  have HG := Aside0.mk hg
  have HR0 := Aside0.mk hr0; have HC0 := Aside0.mk hc0; have HR1 := Aside0.mk hr1; have HC1 := Aside0.mk hc1; have HR2 := Aside0.mk hr2; have HC2 := Aside0.mk hc2
  clear he0 hg hr0 hc0 hr1 hc1 hr2 hc2
  by_cases q0 : e0 = 0
  case neg =>
    rw [if_neg q0] at h
    have H := Aside0.mk (Option.some.inj h)
    have q0n : (e0 != 0) = true := bne_iff_ne.2 q0
    clear h q0
    go_enter Try.func22, Try.ntmps22
    go_wp2_with (go_at_call 51; refine (edits_Check.calls k A0 c0 l0 _ _ e0 _ HR0.out HC0.out HE.out).mono ?_; rintro e w1 ⟨rfl, hB1⟩; have HB1 := Aside0.mk hB1; clear hB1)
    go_ret2
    have := H.out
    simp only [Prod.mk.injEq] at this
    obtain ⟨rfl, rfl⟩ := this
    exact ⟨rfl, HB1.out⟩
  case pos =>
    rw [if_pos q0] at h
    have q0n : (e0 != 0) = false := bne_eq_false_iff_eq.2 q0
    clear q0
    by_cases q1 : nameB a3 = true
    case neg =>
      rw [if_neg q1] at h
      have H := Aside0.mk (Option.some.inj h)
      have q1n : nameB a3 = false := by simpa using q1
      have Q1 := Lib.hid q1n
      clear h q1 q1n
      go_enter Try.func22, Try.ntmps22
      go_wp2_with (first
        | (go_at_call 51; refine (edits_Check.calls k A0 c0 l0 _ _ e0 _ HR0.out HC0.out HE.out).mono ?_; rintro e w1 ⟨rfl, hB1⟩; have HB1 := Aside0.mk hB1; clear hB1)
        | (go_at_call 52; refine (views_named.calls a3 false _ (by unfold views_named.f; rw [Q1.out])).mono ?_; rintro e w2 ⟨rfl, hB2⟩; have HB2 := Aside0.mk hB2; clear hB2))
      go_ret2
      have := H.out
      simp only [Prod.mk.injEq] at this
      obtain ⟨rfl, rfl⟩ := this
      exact ⟨rfl, HB1.out.trans (HB2.out.mono HB1.out.size)⟩
    case pos =>
      rw [if_pos q1] at h
      obtain ⟨⟨s1, s2, s3, s4, s5⟩, hsg, h⟩ := Option.bind_eq_some_iff.1 h
      obtain ⟨acc, hacc, h⟩ := Option.bind_eq_some_iff.1 h
      have H := Aside0.mk (Option.some.inj h)
      have Q1 := Lib.hid q1
      have HS := Aside0.mk hsg
      have HA := Aside0.mk hacc
      clear h q1 hsg hacc
      go_enter Try.func22, Try.ntmps22
      go_wp2_with (first
        | (go_at_call 51; refine (edits_Check.calls k A0 c0 l0 _ _ e0 _ HR0.out HC0.out HE.out).mono ?_; rintro e w1 ⟨rfl, hB1⟩; have HB1 := Aside0.mk hB1; clear hB1)
        | (go_at_call 52; refine (views_named.calls a3 true _ (by unfold views_named.f; rw [Q1.out])).mono ?_; rintro e w2 ⟨rfl, hB2⟩; have HB2 := Aside0.mk hB2; clear hB2)
        | (go_at_call 56; refine (views_of.calls a3 s1 s2 s3 s4 s5 _ HS.out).mono ?_; rintro e w3 ⟨rfl, hB3⟩; have HB3 := Aside0.mk hB3; clear hB3))
      have hbb : (w3.alloc (.cells #[.string s1, .string s2, .string s3, .string s4, .string s5] 91)).heap[w2.heap.size]? = some (.cells #[.pointer none, .slice none 0 0] 82 (0, 0)) := blk_alloc (blk_below (blk_new w2 _) HB3.out) _
      have hb2 : Below w.heap.size w w2 := HB1.out.trans (HB2.out.mono HB1.out.size)
      have hb3 : Below w.heap.size w w3 := (hb2.alloc hb2.size (.cells #[.pointer none, .slice none 0 0] 82)).trans (HB3.out.mono (by have := hb2.size; simp; omega))
      have hlt3 : w2.heap.size < w3.heap.size := by have := HB3.out.size; simp at this; omega
      have hst0 : IfSt w (w3.alloc (.cells #[.string s1, .string s2, .string s3, .string s4, .string s5] 91)) w2.heap.size w3.heap.size ⟨s1, s2, s3, s4, s5⟩ [] :=
        ⟨.inl ⟨hb2.size, .slice none 0 0, hbb, ⟨rfl, .inl ⟨rfl, rfl⟩⟩, by simp [Value.ownBlock]⟩, hb3.alloc hb3.size _, blk_new w3 _, by omega⟩
      clear hbb hb2 hb3 hlt3 HB1 HB2 HB3
      generalize w3.alloc (.cells #[.string s1, .string s2, .string s3, .string s4, .string s5] 91) = W4 at hst0 ⊢
      generalize w2.heap.size = b at hst0 ⊢
      generalize w3.heap.size = g at hst0 ⊢
      have ST0 := Aside0.mk hst0
      clear hst0
      go_loopw [14, 34] (fun v14 v34 wr => ∃ (i at_ : Int), 0 ≤ i ∧ i ≤ l0.length ∧ v34 = .int .i64 i ∧ v14 = .int .i64 at_ ∧ Aside0 (∃ acc2, ifL l1 l2 ⟨s1, s2, s3, s4, s5⟩ (l0.drop i.toNat) at_ acc2 = some acc ∧ IfSt w wr b g ⟨s1, s2, s3, s4, s5⟩ acc2)) (fun _ v34 _ => l0.length - (intOf v34).toNat)
      case atStart => exact ⟨0, 0, by omega, by omega, rfl, rfl, ⟨[], by simpa using HA.out, ST0.out⟩⟩
      case round =>
        clear ST0
        obtain ⟨i, at_, h0, h1, rfl, rfl, ⟨acc2, hif, hst⟩⟩ := hrel
        by_cases hlt : i < l0.length
        · skip
          obtain ⟨ad, e, z0, z1, z2, z3⟩ := at_T94 HR0.out i h0 hlt
          subst e
          replace z0 := (hst.bel.cell (World.block_lt_of_cell? w _ z0)).trans z0
          replace z1 := (hst.bel.cell (World.block_lt_of_cell? w _ z1)).trans z1
          replace z2 := (hst.bel.cell (World.block_lt_of_cell? w _ z2)).trans z2
          replace z3 := (hst.bel.cell (World.block_lt_of_cell? w _ z3)).trans z3
          have hi' : i.toNat < l0.length := by omega
          have hrd : l0[i.toNat] = rd_T94 l0 i := by unfold rd_T94; rw [List.getD_eq_getElem?_getD, List.getElem?_eq_getElem hi']; rfl
          rw [List.drop_eq_getElem_cons hi', hrd] at hif
          obtain ⟨acc3, hstep, hrest⟩ := Option.bind_eq_some_iff.1 (show ((ifStep l1 l2 ⟨s1, s2, s3, s4, s5⟩ (rd_T94 l0 i) at_ acc2).bind fun acc => ifL l1 l2 ⟨s1, s2, s3, s4, s5⟩ (l0.drop (i.toNat + 1)) (wrap64 ((rd_T94 l0 i).f0 + (rd_T94 l0 i).f1)) acc) = some acc from hif)
          have hdr : l0.drop (i + 1).toNat = l0.drop (i.toNat + 1) := by congr 1; omega
          rw [← hdr] at hrest
          have HREST := Aside0.mk hrest
          have hwi : IntKind.i64.wrap (i + 1) = i + 1 := by rw [i64_w]; unfold wrap64; have := HG.out.2.2.2.2; omega
          clear hif hdr hrest hrd hi' HA
          unfold ifStep at hstep
          obtain ⟨ok1, hstep⟩ := cut_some hstep
          obtain ⟨len1, hstep⟩ := put_some hstep
          obtain ⟨A5, hcut5, hr5⟩ := slice_fact l1 at_ (rd_T94 l0 i).f0 ok1 HC1.out HR1.out
          have HO5 := Aside0.mk (bare_cut HG.out.1 at_.toNat (rd_T94 l0 i).f0.toNat)
          have HL5 := Aside0.mk (len_cut HG.out.2.2.1 at_.toNat (rd_T94 l0 i).f0.toNat)
          have HR5 := Aside0.mk hr5
          generalize ((l1.take (rd_T94 l0 i).f0.toNat).drop at_.toNat) = p5 at hcut5 HR5 HO5 HL5 len1 hstep
          have LEN1 := Aside0.mk len1
          have RS0 : Aside0 (RdSt w (wr.alloc (.cells #[.int .i64 (rd_T94 l0 i).f0, .int .i64 (rd_T94 l0 i).f1, .int .i64 (rd_T94 l0 i).f2, .int .i64 (rd_T94 l0 i).f3] 94)) b g wr.heap.size ⟨s1, s2, s3, s4, s5⟩ (rd_T94 l0 i) acc2) := ⟨⟨hst.alloc _, blk_new wr _, by
            have := hst.is
            rcases this with h | h <;> exact fun e => absurd h.lt (by omega)⟩⟩
          clear hr5 len1 ok1 hst
          go_upto_region 13 with fail
          generalize wr.alloc (.cells #[.int .i64 (rd_T94 l0 i).f0, .int .i64 (rd_T94 l0 i).f1, .int .i64 (rd_T94 l0 i).f2, .int .i64 (rd_T94 l0 i).f3] 94) = W5 at RS0 ⊢
          generalize wr.heap.size = q at RS0 ⊢
          clear z0 z1 z2 z3
          have y0 : W5.cell? ⟨q, 0, none⟩ = some (.int .i64 (rd_T94 l0 i).f0) := (blk_cell RS0.out.box 0).trans rfl
          have y1 : W5.cell? ⟨q, 1, none⟩ = some (.int .i64 (rd_T94 l0 i).f1) := (blk_cell RS0.out.box 1).trans rfl
          have y2 : W5.cell? ⟨q, 2, none⟩ = some (.int .i64 (rd_T94 l0 i).f2) := (blk_cell RS0.out.box 2).trans rfl
          have y3 : W5.cell? ⟨q, 3, none⟩ = some (.int .i64 (rd_T94 l0 i).f3) := (blk_cell RS0.out.box 3).trans rfl
          have x0 : W5.cell? ⟨g, 0, none⟩ = some (.string s1) := (blk_cell RS0.out.st.box 0).trans rfl
          have x1 : W5.cell? ⟨g, 1, none⟩ = some (.string s2) := (blk_cell RS0.out.st.box 1).trans rfl
          have x2 : W5.cell? ⟨g, 2, none⟩ = some (.string s3) := (blk_cell RS0.out.st.box 2).trans rfl
          have x3 : W5.cell? ⟨g, 3, none⟩ = some (.string s4) := (blk_cell RS0.out.st.box 3).trans rfl
          have x4 : W5.cell? ⟨g, 4, none⟩ = some (.string s5) := (blk_cell RS0.out.st.box 4).trans rfl
          go_upto_block 2 with (go_at_call 53; refine (all_of RS0.out.st.is RS0.out.st.bel HR5.out HO5.out HL5.out LEN1.out).mono ?_; rintro e w5 ⟨rfl, hb5⟩; have RS1 := Aside0.mk (RS0.out.lines hb5); clear hb5 RS0; clear y0 y1 y2 y3 x0 x1 x2 x3 x4; have y0 : w5.cell? ⟨q, 0, none⟩ = some (.int .i64 (rd_T94 l0 i).f0) := (blk_cell RS1.out.box 0).trans rfl; have y1 : w5.cell? ⟨q, 1, none⟩ = some (.int .i64 (rd_T94 l0 i).f1) := (blk_cell RS1.out.box 1).trans rfl; have y2 : w5.cell? ⟨q, 2, none⟩ = some (.int .i64 (rd_T94 l0 i).f2) := (blk_cell RS1.out.box 2).trans rfl; have y3 : w5.cell? ⟨q, 3, none⟩ = some (.int .i64 (rd_T94 l0 i).f3) := (blk_cell RS1.out.box 3).trans rfl; have x0 : w5.cell? ⟨g, 0, none⟩ = some (.string s1) := (blk_cell RS1.out.st.box 0).trans rfl; have x1 : w5.cell? ⟨g, 1, none⟩ = some (.string s2) := (blk_cell RS1.out.st.box 1).trans rfl; have x2 : w5.cell? ⟨g, 2, none⟩ = some (.string s3) := (blk_cell RS1.out.st.box 2).trans rfl; have x3 : w5.cell? ⟨g, 3, none⟩ = some (.string s4) := (blk_cell RS1.out.st.box 3).trans rfl; have x4 : w5.cell? ⟨g, 4, none⟩ = some (.string s5) := (blk_cell RS1.out.st.box 4).trans rfl)
          by_cases q3 : (rd_T94 l0 i).f3 = 0
          · rw [if_pos q3] at hstep
            have e3 : ((rd_T94 l0 i).f3 == 0) = true := beq_iff_eq.2 q3
            clear q3
            obtain ⟨len2, hstep⟩ := put_some hstep
            obtain ⟨ok6, hstep⟩ := cut_some hstep
            obtain ⟨len3, hstep⟩ := put_some hstep
            obtain ⟨len4, hstep⟩ := put_some hstep
            obtain rfl := Option.some.inj hstep
            obtain ⟨A6, hcut6, hr6⟩ := slice_fact l1 (rd_T94 l0 i).f0 (wrap64 ((rd_T94 l0 i).f0 + (rd_T94 l0 i).f1)) ok6 HC1.out HR1.out
            have HO6 := Aside0.mk (bare_cut HG.out.1 (rd_T94 l0 i).f0.toNat (wrap64 ((rd_T94 l0 i).f0 + (rd_T94 l0 i).f1)).toNat)
            have HL6 := Aside0.mk (len_cut HG.out.2.2.1 (rd_T94 l0 i).f0.toNat (wrap64 ((rd_T94 l0 i).f0 + (rd_T94 l0 i).f1)).toNat)
            have HR6 := Aside0.mk hr6
            generalize ((l1.take (wrap64 ((rd_T94 l0 i).f0 + (rd_T94 l0 i).f1)).toNat).drop (rd_T94 l0 i).f0.toNat) = p6 at hcut6 HR6 HO6 HL6 len3 len4 HREST
            have LEN2 := Aside0.mk len2
            have LEN3 := Aside0.mk len3
            have LEN4 := Aside0.mk len4
            clear hr6 ok6 len2 len3 len4 hstep
            have TK1 := True.intro
            have TK2 := True.intro
            have TK3 := True.intro
            go_wp2_with (first | (go_at_call 55; have t_ := TK1; clear TK1 t_; refine (write_of RS1.out.st.is RS1.out.st.bel LEN2.out).mono ?_; rintro e w6 ⟨rfl, hw⟩; have RS2 := Aside0.mk (RS1.out.write hw); clear hw RS1; clear y0 y1 y2 y3 x0 x1 x2 x3 x4; have y0 : w6.cell? ⟨q, 0, none⟩ = some (.int .i64 (rd_T94 l0 i).f0) := (blk_cell RS2.out.box 0).trans rfl; have y1 : w6.cell? ⟨q, 1, none⟩ = some (.int .i64 (rd_T94 l0 i).f1) := (blk_cell RS2.out.box 1).trans rfl; have y2 : w6.cell? ⟨q, 2, none⟩ = some (.int .i64 (rd_T94 l0 i).f2) := (blk_cell RS2.out.box 2).trans rfl; have y3 : w6.cell? ⟨q, 3, none⟩ = some (.int .i64 (rd_T94 l0 i).f3) := (blk_cell RS2.out.box 3).trans rfl; have x0 : w6.cell? ⟨g, 0, none⟩ = some (.string s1) := (blk_cell RS2.out.st.box 0).trans rfl; have x1 : w6.cell? ⟨g, 1, none⟩ = some (.string s2) := (blk_cell RS2.out.st.box 1).trans rfl; have x2 : w6.cell? ⟨g, 2, none⟩ = some (.string s3) := (blk_cell RS2.out.st.box 2).trans rfl; have x3 : w6.cell? ⟨g, 3, none⟩ = some (.string s4) := (blk_cell RS2.out.st.box 3).trans rfl; have x4 : w6.cell? ⟨g, 4, none⟩ = some (.string s5) := (blk_cell RS2.out.st.box 4).trans rfl) | (go_at_call 53; have t_ := TK2; clear TK2 t_; refine (all_of RS2.out.st.is RS2.out.st.bel HR6.out HO6.out HL6.out LEN3.out).mono ?_; rintro e w7 ⟨rfl, hb⟩; have RS3 := Aside0.mk (RS2.out.lines hb); clear hb RS2; clear y0 y1 y2 y3 x0 x1 x2 x3 x4; have y0 : w7.cell? ⟨q, 0, none⟩ = some (.int .i64 (rd_T94 l0 i).f0) := (blk_cell RS3.out.box 0).trans rfl; have y1 : w7.cell? ⟨q, 1, none⟩ = some (.int .i64 (rd_T94 l0 i).f1) := (blk_cell RS3.out.box 1).trans rfl; have y2 : w7.cell? ⟨q, 2, none⟩ = some (.int .i64 (rd_T94 l0 i).f2) := (blk_cell RS3.out.box 2).trans rfl; have y3 : w7.cell? ⟨q, 3, none⟩ = some (.int .i64 (rd_T94 l0 i).f3) := (blk_cell RS3.out.box 3).trans rfl; have x0 : w7.cell? ⟨g, 0, none⟩ = some (.string s1) := (blk_cell RS3.out.st.box 0).trans rfl; have x1 : w7.cell? ⟨g, 1, none⟩ = some (.string s2) := (blk_cell RS3.out.st.box 1).trans rfl; have x2 : w7.cell? ⟨g, 2, none⟩ = some (.string s3) := (blk_cell RS3.out.st.box 2).trans rfl; have x3 : w7.cell? ⟨g, 3, none⟩ = some (.string s4) := (blk_cell RS3.out.st.box 3).trans rfl; have x4 : w7.cell? ⟨g, 4, none⟩ = some (.string s5) := (blk_cell RS3.out.st.box 4).trans rfl) | (go_at_call 55; have t_ := TK3; clear TK3 t_; refine (write_of RS3.out.st.is RS3.out.st.bel LEN4.out).mono ?_; rintro e w8 ⟨rfl, hw⟩; have RS4 := Aside0.mk (RS3.out.write hw); clear hw RS3; clear y0 y1 y2 y3 x0 x1 x2 x3 x4; have y0 : w8.cell? ⟨q, 0, none⟩ = some (.int .i64 (rd_T94 l0 i).f0) := (blk_cell RS4.out.box 0).trans rfl; have y1 : w8.cell? ⟨q, 1, none⟩ = some (.int .i64 (rd_T94 l0 i).f1) := (blk_cell RS4.out.box 1).trans rfl; have y2 : w8.cell? ⟨q, 2, none⟩ = some (.int .i64 (rd_T94 l0 i).f2) := (blk_cell RS4.out.box 2).trans rfl; have y3 : w8.cell? ⟨q, 3, none⟩ = some (.int .i64 (rd_T94 l0 i).f3) := (blk_cell RS4.out.box 3).trans rfl; have x0 : w8.cell? ⟨g, 0, none⟩ = some (.string s1) := (blk_cell RS4.out.st.box 0).trans rfl; have x1 : w8.cell? ⟨g, 1, none⟩ = some (.string s2) := (blk_cell RS4.out.st.box 1).trans rfl; have x2 : w8.cell? ⟨g, 2, none⟩ = some (.string s3) := (blk_cell RS4.out.st.box 2).trans rfl; have x3 : w8.cell? ⟨g, 3, none⟩ = some (.string s4) := (blk_cell RS4.out.st.box 3).trans rfl; have x4 : w8.cell? ⟨g, 4, none⟩ = some (.string s5) := (blk_cell RS4.out.st.box 4).trans rfl))
            exact ⟨⟨i + 1, _, by omega, by omega, rfl, rfl, ⟨_, HREST.out, RS4.out.st⟩⟩, by simp [intOf]; omega⟩
          · skip
            rw [if_neg q3] at hstep
            have e3 : ((rd_T94 l0 i).f3 == 0) = false := beq_eq_false_iff_ne.2 q3
            clear q3
            obtain ⟨acc4, hs1, hs2⟩ := Option.bind_eq_some_iff.1 hstep
            obtain ⟨ok7, hs2⟩ := cut_some hs2
            obtain ⟨len5, hs2⟩ := put_some hs2
            obtain ⟨len6, hs2⟩ := put_some hs2
            obtain rfl := Option.some.inj hs2
            obtain ⟨A7, hcut7, hr7⟩ := slice_fact l2 (rd_T94 l0 i).f2 (wrap64 ((rd_T94 l0 i).f2 + (rd_T94 l0 i).f3)) ok7 HC2.out HR2.out
            have HO7 := Aside0.mk (bare_cut HG.out.2.1 (rd_T94 l0 i).f2.toNat (wrap64 ((rd_T94 l0 i).f2 + (rd_T94 l0 i).f3)).toNat)
            have HL7 := Aside0.mk (len_cut HG.out.2.2.2.1 (rd_T94 l0 i).f2.toNat (wrap64 ((rd_T94 l0 i).f2 + (rd_T94 l0 i).f3)).toNat)
            have HR7 := Aside0.mk hr7
            generalize ((l2.take (wrap64 ((rd_T94 l0 i).f2 + (rd_T94 l0 i).f3)).toNat).drop (rd_T94 l0 i).f2.toNat) = p7 at hcut7 HR7 HO7 HL7 len5 len6 HREST
            by_cases q4 : (rd_T94 l0 i).f1 = 0
            · rw [if_pos q4] at hs1
              have e4 : ((rd_T94 l0 i).f1 == 0) = true := beq_iff_eq.2 q4
              clear q4
              obtain ⟨len2, hs1⟩ := put_some hs1
              obtain rfl := Option.some.inj hs1
              have LEN2 := Aside0.mk len2
              have LEN5 := Aside0.mk len5
              have LEN6 := Aside0.mk len6
              clear hr7 ok7 len2 len5 len6 hstep hs1 hs2
              have TK1 := True.intro
              have TK2 := True.intro
              have TK3 := True.intro
              go_wp2_with (first | (go_at_call 55; have t_ := TK1; clear TK1 t_; refine (write_of RS1.out.st.is RS1.out.st.bel LEN2.out).mono ?_; rintro e w6 ⟨rfl, hw⟩; have RS2 := Aside0.mk (RS1.out.write hw); clear hw RS1; clear y0 y1 y2 y3 x0 x1 x2 x3 x4; have y0 : w6.cell? ⟨q, 0, none⟩ = some (.int .i64 (rd_T94 l0 i).f0) := (blk_cell RS2.out.box 0).trans rfl; have y1 : w6.cell? ⟨q, 1, none⟩ = some (.int .i64 (rd_T94 l0 i).f1) := (blk_cell RS2.out.box 1).trans rfl; have y2 : w6.cell? ⟨q, 2, none⟩ = some (.int .i64 (rd_T94 l0 i).f2) := (blk_cell RS2.out.box 2).trans rfl; have y3 : w6.cell? ⟨q, 3, none⟩ = some (.int .i64 (rd_T94 l0 i).f3) := (blk_cell RS2.out.box 3).trans rfl; have x0 : w6.cell? ⟨g, 0, none⟩ = some (.string s1) := (blk_cell RS2.out.st.box 0).trans rfl; have x1 : w6.cell? ⟨g, 1, none⟩ = some (.string s2) := (blk_cell RS2.out.st.box 1).trans rfl; have x2 : w6.cell? ⟨g, 2, none⟩ = some (.string s3) := (blk_cell RS2.out.st.box 2).trans rfl; have x3 : w6.cell? ⟨g, 3, none⟩ = some (.string s4) := (blk_cell RS2.out.st.box 3).trans rfl; have x4 : w6.cell? ⟨g, 4, none⟩ = some (.string s5) := (blk_cell RS2.out.st.box 4).trans rfl) | (go_at_call 53; have t_ := TK2; clear TK2 t_; refine (all_of RS2.out.st.is RS2.out.st.bel HR7.out HO7.out HL7.out LEN5.out).mono ?_; rintro e w7 ⟨rfl, hb⟩; have RS3 := Aside0.mk (RS2.out.lines hb); clear hb RS2; clear y0 y1 y2 y3 x0 x1 x2 x3 x4; have y0 : w7.cell? ⟨q, 0, none⟩ = some (.int .i64 (rd_T94 l0 i).f0) := (blk_cell RS3.out.box 0).trans rfl; have y1 : w7.cell? ⟨q, 1, none⟩ = some (.int .i64 (rd_T94 l0 i).f1) := (blk_cell RS3.out.box 1).trans rfl; have y2 : w7.cell? ⟨q, 2, none⟩ = some (.int .i64 (rd_T94 l0 i).f2) := (blk_cell RS3.out.box 2).trans rfl; have y3 : w7.cell? ⟨q, 3, none⟩ = some (.int .i64 (rd_T94 l0 i).f3) := (blk_cell RS3.out.box 3).trans rfl; have x0 : w7.cell? ⟨g, 0, none⟩ = some (.string s1) := (blk_cell RS3.out.st.box 0).trans rfl; have x1 : w7.cell? ⟨g, 1, none⟩ = some (.string s2) := (blk_cell RS3.out.st.box 1).trans rfl; have x2 : w7.cell? ⟨g, 2, none⟩ = some (.string s3) := (blk_cell RS3.out.st.box 2).trans rfl; have x3 : w7.cell? ⟨g, 3, none⟩ = some (.string s4) := (blk_cell RS3.out.st.box 3).trans rfl; have x4 : w7.cell? ⟨g, 4, none⟩ = some (.string s5) := (blk_cell RS3.out.st.box 4).trans rfl) | (go_at_call 55; have t_ := TK3; clear TK3 t_; refine (write_of RS3.out.st.is RS3.out.st.bel LEN6.out).mono ?_; rintro e w8 ⟨rfl, hw⟩; have RS4 := Aside0.mk (RS3.out.write hw); clear hw RS3; clear y0 y1 y2 y3 x0 x1 x2 x3 x4; have y0 : w8.cell? ⟨q, 0, none⟩ = some (.int .i64 (rd_T94 l0 i).f0) := (blk_cell RS4.out.box 0).trans rfl; have y1 : w8.cell? ⟨q, 1, none⟩ = some (.int .i64 (rd_T94 l0 i).f1) := (blk_cell RS4.out.box 1).trans rfl; have y2 : w8.cell? ⟨q, 2, none⟩ = some (.int .i64 (rd_T94 l0 i).f2) := (blk_cell RS4.out.box 2).trans rfl; have y3 : w8.cell? ⟨q, 3, none⟩ = some (.int .i64 (rd_T94 l0 i).f3) := (blk_cell RS4.out.box 3).trans rfl; have x0 : w8.cell? ⟨g, 0, none⟩ = some (.string s1) := (blk_cell RS4.out.st.box 0).trans rfl; have x1 : w8.cell? ⟨g, 1, none⟩ = some (.string s2) := (blk_cell RS4.out.st.box 1).trans rfl; have x2 : w8.cell? ⟨g, 2, none⟩ = some (.string s3) := (blk_cell RS4.out.st.box 2).trans rfl; have x3 : w8.cell? ⟨g, 3, none⟩ = some (.string s4) := (blk_cell RS4.out.st.box 3).trans rfl; have x4 : w8.cell? ⟨g, 4, none⟩ = some (.string s5) := (blk_cell RS4.out.st.box 4).trans rfl))
              exact ⟨⟨i + 1, _, by omega, by omega, rfl, rfl, ⟨_, HREST.out, RS4.out.st⟩⟩, by simp [intOf]; omega⟩
            · rw [if_neg q4] at hs1
              have e4 : ((rd_T94 l0 i).f1 == 0) = false := beq_eq_false_iff_ne.2 q4
              clear q4
              obtain ⟨len2, hs1⟩ := put_some hs1
              obtain ⟨ok6, hs1⟩ := cut_some hs1
              obtain ⟨len3, hs1⟩ := put_some hs1
              obtain ⟨len4, hs1⟩ := put_some hs1
              obtain rfl := Option.some.inj hs1
              obtain ⟨A6, hcut6, hr6⟩ := slice_fact l1 (rd_T94 l0 i).f0 (wrap64 ((rd_T94 l0 i).f0 + (rd_T94 l0 i).f1)) ok6 HC1.out HR1.out
              have HO6 := Aside0.mk (bare_cut HG.out.1 (rd_T94 l0 i).f0.toNat (wrap64 ((rd_T94 l0 i).f0 + (rd_T94 l0 i).f1)).toNat)
              have HL6 := Aside0.mk (len_cut HG.out.2.2.1 (rd_T94 l0 i).f0.toNat (wrap64 ((rd_T94 l0 i).f0 + (rd_T94 l0 i).f1)).toNat)
              have HR6 := Aside0.mk hr6
              generalize ((l1.take (wrap64 ((rd_T94 l0 i).f0 + (rd_T94 l0 i).f1)).toNat).drop (rd_T94 l0 i).f0.toNat) = p6 at hcut6 HR6 HO6 HL6 len3 len4 len5 len6 HREST
              have LEN2 := Aside0.mk len2
              have LEN3 := Aside0.mk len3
              have LEN4 := Aside0.mk len4
              have LEN5 := Aside0.mk len5
              have LEN6 := Aside0.mk len6
              clear hr6 hr7 ok6 ok7 len2 len3 len4 len5 len6 hstep hs1 hs2
              have TK1 := True.intro
              have TK2 := True.intro
              have TK3 := True.intro
              have TK4 := True.intro
              have TK5 := True.intro
              go_wp2_with (first | (go_at_call 55; have t_ := TK1; clear TK1 t_; refine (write_of RS1.out.st.is RS1.out.st.bel LEN2.out).mono ?_; rintro e w6 ⟨rfl, hw⟩; have RS2 := Aside0.mk (RS1.out.write hw); clear hw RS1; clear y0 y1 y2 y3 x0 x1 x2 x3 x4; have y0 : w6.cell? ⟨q, 0, none⟩ = some (.int .i64 (rd_T94 l0 i).f0) := (blk_cell RS2.out.box 0).trans rfl; have y1 : w6.cell? ⟨q, 1, none⟩ = some (.int .i64 (rd_T94 l0 i).f1) := (blk_cell RS2.out.box 1).trans rfl; have y2 : w6.cell? ⟨q, 2, none⟩ = some (.int .i64 (rd_T94 l0 i).f2) := (blk_cell RS2.out.box 2).trans rfl; have y3 : w6.cell? ⟨q, 3, none⟩ = some (.int .i64 (rd_T94 l0 i).f3) := (blk_cell RS2.out.box 3).trans rfl; have x0 : w6.cell? ⟨g, 0, none⟩ = some (.string s1) := (blk_cell RS2.out.st.box 0).trans rfl; have x1 : w6.cell? ⟨g, 1, none⟩ = some (.string s2) := (blk_cell RS2.out.st.box 1).trans rfl; have x2 : w6.cell? ⟨g, 2, none⟩ = some (.string s3) := (blk_cell RS2.out.st.box 2).trans rfl; have x3 : w6.cell? ⟨g, 3, none⟩ = some (.string s4) := (blk_cell RS2.out.st.box 3).trans rfl; have x4 : w6.cell? ⟨g, 4, none⟩ = some (.string s5) := (blk_cell RS2.out.st.box 4).trans rfl) | (go_at_call 53; have t_ := TK2; clear TK2 t_; refine (all_of RS2.out.st.is RS2.out.st.bel HR6.out HO6.out HL6.out LEN3.out).mono ?_; rintro e w7 ⟨rfl, hb⟩; have RS3 := Aside0.mk (RS2.out.lines hb); clear hb RS2; clear y0 y1 y2 y3 x0 x1 x2 x3 x4; have y0 : w7.cell? ⟨q, 0, none⟩ = some (.int .i64 (rd_T94 l0 i).f0) := (blk_cell RS3.out.box 0).trans rfl; have y1 : w7.cell? ⟨q, 1, none⟩ = some (.int .i64 (rd_T94 l0 i).f1) := (blk_cell RS3.out.box 1).trans rfl; have y2 : w7.cell? ⟨q, 2, none⟩ = some (.int .i64 (rd_T94 l0 i).f2) := (blk_cell RS3.out.box 2).trans rfl; have y3 : w7.cell? ⟨q, 3, none⟩ = some (.int .i64 (rd_T94 l0 i).f3) := (blk_cell RS3.out.box 3).trans rfl; have x0 : w7.cell? ⟨g, 0, none⟩ = some (.string s1) := (blk_cell RS3.out.st.box 0).trans rfl; have x1 : w7.cell? ⟨g, 1, none⟩ = some (.string s2) := (blk_cell RS3.out.st.box 1).trans rfl; have x2 : w7.cell? ⟨g, 2, none⟩ = some (.string s3) := (blk_cell RS3.out.st.box 2).trans rfl; have x3 : w7.cell? ⟨g, 3, none⟩ = some (.string s4) := (blk_cell RS3.out.st.box 3).trans rfl; have x4 : w7.cell? ⟨g, 4, none⟩ = some (.string s5) := (blk_cell RS3.out.st.box 4).trans rfl) | (go_at_call 55; have t_ := TK3; clear TK3 t_; refine (write_of RS3.out.st.is RS3.out.st.bel LEN4.out).mono ?_; rintro e w8 ⟨rfl, hw⟩; have RS4 := Aside0.mk (RS3.out.write hw); clear hw RS3; clear y0 y1 y2 y3 x0 x1 x2 x3 x4; have y0 : w8.cell? ⟨q, 0, none⟩ = some (.int .i64 (rd_T94 l0 i).f0) := (blk_cell RS4.out.box 0).trans rfl; have y1 : w8.cell? ⟨q, 1, none⟩ = some (.int .i64 (rd_T94 l0 i).f1) := (blk_cell RS4.out.box 1).trans rfl; have y2 : w8.cell? ⟨q, 2, none⟩ = some (.int .i64 (rd_T94 l0 i).f2) := (blk_cell RS4.out.box 2).trans rfl; have y3 : w8.cell? ⟨q, 3, none⟩ = some (.int .i64 (rd_T94 l0 i).f3) := (blk_cell RS4.out.box 3).trans rfl; have x0 : w8.cell? ⟨g, 0, none⟩ = some (.string s1) := (blk_cell RS4.out.st.box 0).trans rfl; have x1 : w8.cell? ⟨g, 1, none⟩ = some (.string s2) := (blk_cell RS4.out.st.box 1).trans rfl; have x2 : w8.cell? ⟨g, 2, none⟩ = some (.string s3) := (blk_cell RS4.out.st.box 2).trans rfl; have x3 : w8.cell? ⟨g, 3, none⟩ = some (.string s4) := (blk_cell RS4.out.st.box 3).trans rfl; have x4 : w8.cell? ⟨g, 4, none⟩ = some (.string s5) := (blk_cell RS4.out.st.box 4).trans rfl) | (go_at_call 53; have t_ := TK4; clear TK4 t_; refine (all_of RS4.out.st.is RS4.out.st.bel HR7.out HO7.out HL7.out LEN5.out).mono ?_; rintro e w9 ⟨rfl, hb⟩; have RS5 := Aside0.mk (RS4.out.lines hb); clear hb RS4; clear y0 y1 y2 y3 x0 x1 x2 x3 x4; have y0 : w9.cell? ⟨q, 0, none⟩ = some (.int .i64 (rd_T94 l0 i).f0) := (blk_cell RS5.out.box 0).trans rfl; have y1 : w9.cell? ⟨q, 1, none⟩ = some (.int .i64 (rd_T94 l0 i).f1) := (blk_cell RS5.out.box 1).trans rfl; have y2 : w9.cell? ⟨q, 2, none⟩ = some (.int .i64 (rd_T94 l0 i).f2) := (blk_cell RS5.out.box 2).trans rfl; have y3 : w9.cell? ⟨q, 3, none⟩ = some (.int .i64 (rd_T94 l0 i).f3) := (blk_cell RS5.out.box 3).trans rfl; have x0 : w9.cell? ⟨g, 0, none⟩ = some (.string s1) := (blk_cell RS5.out.st.box 0).trans rfl; have x1 : w9.cell? ⟨g, 1, none⟩ = some (.string s2) := (blk_cell RS5.out.st.box 1).trans rfl; have x2 : w9.cell? ⟨g, 2, none⟩ = some (.string s3) := (blk_cell RS5.out.st.box 2).trans rfl; have x3 : w9.cell? ⟨g, 3, none⟩ = some (.string s4) := (blk_cell RS5.out.st.box 3).trans rfl; have x4 : w9.cell? ⟨g, 4, none⟩ = some (.string s5) := (blk_cell RS5.out.st.box 4).trans rfl) | (go_at_call 55; have t_ := TK5; clear TK5 t_; refine (write_of RS5.out.st.is RS5.out.st.bel LEN6.out).mono ?_; rintro e w10 ⟨rfl, hw⟩; have RS6 := Aside0.mk (RS5.out.write hw); clear hw RS5; clear y0 y1 y2 y3 x0 x1 x2 x3 x4; have y0 : w10.cell? ⟨q, 0, none⟩ = some (.int .i64 (rd_T94 l0 i).f0) := (blk_cell RS6.out.box 0).trans rfl; have y1 : w10.cell? ⟨q, 1, none⟩ = some (.int .i64 (rd_T94 l0 i).f1) := (blk_cell RS6.out.box 1).trans rfl; have y2 : w10.cell? ⟨q, 2, none⟩ = some (.int .i64 (rd_T94 l0 i).f2) := (blk_cell RS6.out.box 2).trans rfl; have y3 : w10.cell? ⟨q, 3, none⟩ = some (.int .i64 (rd_T94 l0 i).f3) := (blk_cell RS6.out.box 3).trans rfl; have x0 : w10.cell? ⟨g, 0, none⟩ = some (.string s1) := (blk_cell RS6.out.st.box 0).trans rfl; have x1 : w10.cell? ⟨g, 1, none⟩ = some (.string s2) := (blk_cell RS6.out.st.box 1).trans rfl; have x2 : w10.cell? ⟨g, 2, none⟩ = some (.string s3) := (blk_cell RS6.out.st.box 2).trans rfl; have x3 : w10.cell? ⟨g, 3, none⟩ = some (.string s4) := (blk_cell RS6.out.st.box 3).trans rfl; have x4 : w10.cell? ⟨g, 4, none⟩ = some (.string s5) := (blk_cell RS6.out.st.box 4).trans rfl))
              exact ⟨⟨i + 1, _, by omega, by omega, rfl, rfl, ⟨_, HREST.out, RS6.out.st⟩⟩, by simp [intOf]; omega⟩
        · obtain rfl : i = l0.length := by omega
          rw [Int.toNat_natCast, List.drop_length] at hif
          have hif : (if 0 ≤ at_ ∧ at_ ≤ (l1.length : Int) then put1 acc2 (wholeB (l1.drop at_.toNat)) some else none) = some acc := hif
          by_cases q : 0 ≤ at_ ∧ at_ ≤ (l1.length : Int)
          case neg => rw [if_neg q] at hif; cases hif
          rw [if_pos q] at hif
          unfold put1 at hif
          by_cases q2 : (acc2 ++ wholeB (l1.drop at_.toNat)).length ≤ 140737488355328
          case neg => rw [if_neg q2] at hif; cases hif
          rw [if_pos q2] at hif
          obtain rfl := Option.some.inj hif
          obtain ⟨i9, hi9, _, hsz9, _⟩ := info_parts info9
          obtain ⟨A5, hcut5, hA5, hC5⟩ := print_drop_of (P := Try.prog) Value.string (⟨#[]⟩ : ByteArray) 27 9 .i64 Try.underlying27 hi9 hsz9 A1 c1 l1 at_ q.1 q.2 HC1.out
          have HRS := Aside0.mk (Kd.C_of_reads (h1 := fun _ => rfl) (hA5 _ (Kd.reads_of_C HR1.out)))
          have hbare : bareOk (l1.drop at_.toNat) = true := List.all_eq_true.2 fun s hs => List.all_eq_true.1 HG.out.1 s (List.mem_of_mem_drop hs)
          have hll : (l1.drop at_.toNat).length < 8796093022208 := by rw [List.length_drop]; have := HG.out.2.2.1; omega
          generalize hsl : l1.drop at_.toNat = sl at hcut5 HRS hbare hll q2 HA H
          have HBR := Aside0.mk (bare_of hbare)
          have HLL := Aside0.mk hll
          have HQ2 := Aside0.mk q2
          have HST := Aside0.mk hst
          clear hst hbare hll q2 hif hA5 hC5 hi9 hsz9 hsl
          go_wp2_with (first
            | (go_at_call 53; refine (all_calls w.heap.size b (Lib.byteCells acc2) A5 _ sl w wr HST.out.is HRS.out rfl HST.out.bel HBR.out (by rw [wholeC_eq, ← List.length_append, ← byteCells_append, Lib.byteCells_length]; exact HQ2.out) HLL.out).mono ?_; rintro e w5 ⟨rfl, hb5⟩; have HB5 := Aside0.mk hb5; clear hb5)
            | (go_at_call 57; refine (Try.Builder_String_any_k w.heap.size b (acc2 ++ wholeB sl) _ (by rw [byteCells_append, ← wholeC_eq]; exact HB5.out.is) (by have := (HST.out.bel.trans HB5.out.bel).size; exact this)).mono ?_; rintro e w6 ⟨rfl, hb6⟩; have HB6 := Aside0.mk hb6; clear hb6))
          go_ret2
          have := H.out
          simp only [Prod.mk.injEq] at this
          obtain ⟨rfl, rfl⟩ := this
          exact ⟨rfl, HST.out.bel.trans (HB5.out.bel.trans HB6.out.2.1)⟩
end Go.Proofs.Ytnllemlmgbjjnaa.PA
namespace Go.Proofs.Ytnllemlmgbjjnaa.PA
open Go.RowKit Go.Proofs.YtnllemlmgbjjnaaW.PrintWords Go.Proofs.YtnllemlmgbjjnaaW.PrintLast Go.Proofs.YtnllemlmgbjjnaaW.PrintMore
attribute [local go_sem] max2_int min2_int max_two min_two max_three min_three max_four min_four   -- for this text's walks alone
set_option linter.unusedVariables false
set_option linter.unusedSimpArgs false
def redlinelaw17_ViewsIfdef.f (k : Nat) (l0 : List (S94)) (l1 : List ByteArray) (l2 : List ByteArray) (a3 : ByteArray) : Option (Bool) := (views_Ifdef.f k l0 l1 l2 a3).bind fun bt685 => ((redlineref17_Ifdef.f k l0 l1 l2 a3).bind fun bt687 => (if bt685.1.toList = bt687.1.toList then (some (bt685.2 == bt687.2)) else (some false)))
set_option maxHeartbeats 8000000 in
set_option maxRecDepth 100000 in
theorem redlinelaw17_ViewsIfdef.calls (k : Nat) (A0 : Option Addr) (c0 : Nat) (l0 : List (S94)) (A1 : Option Addr) (c1 : Nat) (l1 : List ByteArray) (A2 : Option Addr) (c2 : Nat) (l2 : List ByteArray) (a3 : ByteArray) (r : Bool) (w : World) (hr0 : Kd.C k94 w A0 l0.length l0) (hc0 : l0.length ≤ c0) (hr1 : Kd.C Kd.string w A1 l1.length l1) (hc1 : l1.length ≤ c1) (hr2 : Kd.C Kd.string w A2 l2.length l2) (hc2 : l2.length ≤ c2) (h : redlinelaw17_ViewsIfdef.f k l0 l1 l2 a3 = some r) :
    Calls Try.prog 4 #[.slice A0 l0.length c0, .slice A1 l1.length c1, .slice A2 l2.length c2, .string a3] w fun e w' => e = .returned (.bool r) ∧ Below w.heap.size w w' := by
  have HR0 := Aside0.mk hr0
  have HC0 := Aside0.mk hc0
  clear hr0 hc0
  have HR1 := Aside0.mk hr1
  have HC1 := Aside0.mk hc1
  clear hr1 hc1
  have HR2 := Aside0.mk hr2
  have HC2 := Aside0.mk hc2
  clear hr2 hc2
  have HB := Aside0.mk (Below.refl w.heap.size w)
  have H : ((views_Ifdef.f k l0 l1 l2 a3).bind fun bt685 => ((redlineref17_Ifdef.f k l0 l1 l2 a3).bind fun bt687 => (if bt685.1.toList = bt687.1.toList then (some (bt685.2 == bt687.2)) else (some false)))) = some r := h
  clear h
  replace H := Option.bind_eq_some_iff.mp H
  obtain ⟨⟨t685, t686⟩, A50, H⟩ := H
  replace H : ((redlineref17_Ifdef.f k l0 l1 l2 a3).bind fun bt687 => (if t685.toList = bt687.1.toList then (some (t686 == bt687.2)) else (some false))) = some r := H
  have A5 := Aside0.mk A50
  clear A50
  replace H := Option.bind_eq_some_iff.mp H
  obtain ⟨⟨t687, t688⟩, A60, H⟩ := H
  replace H : (if t685.toList = t687.toList then (some (t686 == t688)) else (some false)) = some r := H
  have A6 := Aside0.mk A60
  clear A60
  by_cases c7 : t685.toList = t687.toList
  · rw [if_pos c7] at H
    have c7b0 : (t685.toList == t687.toList) = true := beq_iff_eq.mpr c7
    have c7b1 : (t685.toList != t687.toList) = false := bne_eq_false_iff_eq.mpr c7
    clear c7
    obtain rfl := Option.some.inj H
    go_enter Try.func4, Try.ntmps4
    go_wp2_with (first | ((with_reducible refine gate_callee (f := 22) rfl ?_); refine goesL_ (some 18) rfl rfl Try.func22 (by kernel_rfl) rfl #[.slice A0 l0.length c0, .slice A1 l1.length c1, .slice A2 l2.length c2, .string a3] rfl (by (try simp only [List.map_toArray, List.map_cons, List.map_nil]); first | done | rfl | (simp only [List.length_drop, List.length_take]; rfl)) ?_; (with_reducible refine (views_Ifdef.calls k _ _ l0 _ _ l1 _ _ l2 a3 t685 t686 _ ?side1 ?side2 ?side3 ?side4 ?side5 ?side6 A5.out).mono ?_); (case side1 => repeat (first | exact HR0.out | (with_reducible refine Kd.C_alloc ?_ _) | (with_reducible refine Kd.C_drewN ?_ _) | (with_reducible refine Kd.C_drew ?_))); (case side2 => exact HC0.out); (case side3 => repeat (first | exact HR1.out | (with_reducible refine Kd.C_alloc ?_ _) | (with_reducible refine Kd.C_drewN ?_ _) | (with_reducible refine Kd.C_drew ?_))); (case side4 => exact HC1.out); (case side5 => repeat (first | exact HR2.out | (with_reducible refine Kd.C_alloc ?_ _) | (with_reducible refine Kd.C_drewN ?_ _) | (with_reducible refine Kd.C_drew ?_))); (case side6 => exact HC2.out); rintro e w8 ⟨rfl, hb⟩; refine ⟨_, rfl, ?_⟩; have n0_ := Aside0.mk (below_step (by repeat (first | (with_reducible first | exact HB.out | apply below_alloc | apply pw_below_drewN | apply below_drew1) | exact HB.out)) hb); clear HB; have HB := n0_; clear n0_; (try clear hb); (try clear hb2); (try clear hk); (try clear hi)) | ((with_reducible refine gate_callee (f := 23) rfl ?_); refine goesL_ (some 26) rfl rfl Try.func23 (by kernel_rfl) rfl #[.slice A0 l0.length c0, .slice A1 l1.length c1, .slice A2 l2.length c2, .string a3] rfl (by (try simp only [List.map_toArray, List.map_cons, List.map_nil]); first | done | rfl | (simp only [List.length_drop, List.length_take]; rfl)) ?_; (with_reducible refine (redlineref17_Ifdef.calls k _ _ l0 _ _ l1 _ _ l2 a3 t687 t688 _ ?side1 ?side2 ?side3 ?side4 ?side5 ?side6 A6.out).mono ?_); (case side1 => repeat (first | exact (Kd.C_below HR0.out HB.out) | (with_reducible refine Kd.C_alloc ?_ _) | (with_reducible refine Kd.C_drewN ?_ _) | (with_reducible refine Kd.C_drew ?_))); (case side2 => exact HC0.out); (case side3 => repeat (first | exact (Kd.C_below HR1.out HB.out) | (with_reducible refine Kd.C_alloc ?_ _) | (with_reducible refine Kd.C_drewN ?_ _) | (with_reducible refine Kd.C_drew ?_))); (case side4 => exact HC1.out); (case side5 => repeat (first | exact (Kd.C_below HR2.out HB.out) | (with_reducible refine Kd.C_alloc ?_ _) | (with_reducible refine Kd.C_drewN ?_ _) | (with_reducible refine Kd.C_drew ?_))); (case side6 => exact HC2.out); rintro e w9 ⟨rfl, hb⟩; refine ⟨_, rfl, ?_⟩; have n0_ := Aside0.mk (below_step (by repeat (first | (with_reducible first | exact HB.out | apply below_alloc | apply pw_below_drewN | apply below_drew1) | exact HB.out)) hb); clear HB; have HB := n0_; clear n0_; (try clear hb); (try clear hb2); (try clear hk); (try clear hi)))
    go_ret
    exact ⟨by first | rfl | (simp [errW_none, errW_some] <;> rfl) | (simp [*, errW_none, errW_some] <;> rfl), by repeat (first | (with_reducible first | exact HB.out | apply below_alloc | apply pw_below_drewN | apply below_drew1) | exact HB.out)⟩
  · rw [if_neg c7] at H
    have c7b0 : (t685.toList == t687.toList) = false := beq_eq_false_iff_ne.mpr c7
    have c7b1 : (t685.toList != t687.toList) = true := bne_iff_ne.mpr c7
    obtain rfl := Option.some.inj H
    go_enter Try.func4, Try.ntmps4
    go_wp2_with (first | ((with_reducible refine gate_callee (f := 22) rfl ?_); refine goesL_ (some 18) rfl rfl Try.func22 (by kernel_rfl) rfl #[.slice A0 l0.length c0, .slice A1 l1.length c1, .slice A2 l2.length c2, .string a3] rfl (by (try simp only [List.map_toArray, List.map_cons, List.map_nil]); first | done | rfl | (simp only [List.length_drop, List.length_take]; rfl)) ?_; (with_reducible refine (views_Ifdef.calls k _ _ l0 _ _ l1 _ _ l2 a3 t685 t686 _ ?side1 ?side2 ?side3 ?side4 ?side5 ?side6 A5.out).mono ?_); (case side1 => repeat (first | exact HR0.out | (with_reducible refine Kd.C_alloc ?_ _) | (with_reducible refine Kd.C_drewN ?_ _) | (with_reducible refine Kd.C_drew ?_))); (case side2 => exact HC0.out); (case side3 => repeat (first | exact HR1.out | (with_reducible refine Kd.C_alloc ?_ _) | (with_reducible refine Kd.C_drewN ?_ _) | (with_reducible refine Kd.C_drew ?_))); (case side4 => exact HC1.out); (case side5 => repeat (first | exact HR2.out | (with_reducible refine Kd.C_alloc ?_ _) | (with_reducible refine Kd.C_drewN ?_ _) | (with_reducible refine Kd.C_drew ?_))); (case side6 => exact HC2.out); rintro e w10 ⟨rfl, hb⟩; refine ⟨_, rfl, ?_⟩; have n0_ := Aside0.mk (below_step (by repeat (first | (with_reducible first | exact HB.out | apply below_alloc | apply pw_below_drewN | apply below_drew1) | exact HB.out)) hb); clear HB; have HB := n0_; clear n0_; (try clear hb); (try clear hb2); (try clear hk); (try clear hi)) | ((with_reducible refine gate_callee (f := 23) rfl ?_); refine goesL_ (some 26) rfl rfl Try.func23 (by kernel_rfl) rfl #[.slice A0 l0.length c0, .slice A1 l1.length c1, .slice A2 l2.length c2, .string a3] rfl (by (try simp only [List.map_toArray, List.map_cons, List.map_nil]); first | done | rfl | (simp only [List.length_drop, List.length_take]; rfl)) ?_; (with_reducible refine (redlineref17_Ifdef.calls k _ _ l0 _ _ l1 _ _ l2 a3 t687 t688 _ ?side1 ?side2 ?side3 ?side4 ?side5 ?side6 A6.out).mono ?_); (case side1 => repeat (first | exact (Kd.C_below HR0.out HB.out) | (with_reducible refine Kd.C_alloc ?_ _) | (with_reducible refine Kd.C_drewN ?_ _) | (with_reducible refine Kd.C_drew ?_))); (case side2 => exact HC0.out); (case side3 => repeat (first | exact (Kd.C_below HR1.out HB.out) | (with_reducible refine Kd.C_alloc ?_ _) | (with_reducible refine Kd.C_drewN ?_ _) | (with_reducible refine Kd.C_drew ?_))); (case side4 => exact HC1.out); (case side5 => repeat (first | exact (Kd.C_below HR2.out HB.out) | (with_reducible refine Kd.C_alloc ?_ _) | (with_reducible refine Kd.C_drewN ?_ _) | (with_reducible refine Kd.C_drew ?_))); (case side6 => exact HC2.out); rintro e w11 ⟨rfl, hb⟩; refine ⟨_, rfl, ?_⟩; have n0_ := Aside0.mk (below_step (by repeat (first | (with_reducible first | exact HB.out | apply below_alloc | apply pw_below_drewN | apply below_drew1) | exact HB.out)) hb); clear HB; have HB := n0_; clear n0_; (try clear hb); (try clear hb2); (try clear hk); (try clear hi)))
    go_ret
    exact ⟨by first | rfl | (simp [errW_none, errW_some] <;> rfl) | (simp [*, errW_none, errW_some] <;> rfl), by repeat (first | (with_reducible first | exact HB.out | apply below_alloc | apply pw_below_drewN | apply below_drew1) | exact HB.out)⟩
end Go.Proofs.Ytnllemlmgbjjnaa.PA
/- ViewsIfdef: what the printed law answers is true, where the texts are not too long. -/
namespace Go.Proofs.Ytnllemlmgbjjnaa.PA
set_option linter.unusedVariables false
set_option linter.unusedSimpArgs false
open Go.RowKit Go.Proofs.YtnllemlmgbjjnaaW.PrintWords Go.Proofs.YtnllemlmgbjjnaaW.PrintLast Go.Proofs.YtnllemlmgbjjnaaW.PrintMore
theorem letter_eq (c : Int) : redlineref17_letter.f c = some (letterB c) := by
  have h95 : (c == 95) = decide (c = 95) := rfl
  unfold redlineref17_letter.f letterB
  rw [h95]
  by_cases h1 : c ≥ 97
  · rw [if_pos h1]
    by_cases h2 : c ≤ 122
    · rw [if_pos h2, decide_eq_true (show 97 ≤ c from h1), decide_eq_true h2]; simp
    · rw [if_neg h2, if_pos (by omega), if_neg (by omega), decide_eq_false h2, decide_eq_false (show ¬ c ≤ 90 by omega)]; simp
  · rw [if_neg h1, decide_eq_false (show ¬ 97 ≤ c by omega)]
    by_cases h2 : c ≥ 65
    · rw [if_pos h2]
      by_cases h3 : c ≤ 90
      · rw [if_pos h3, decide_eq_true (show 65 ≤ c from h2), decide_eq_true h3]; simp
      · rw [if_neg h3, decide_eq_false h3]; simp
    · rw [if_neg h2, decide_eq_false (show ¬ 65 ≤ c by omega)]; simp
theorem name_from (s : ByteArray) (hs : s.size ≤ 64) : ∀ (d k i : Nat), i + d = s.size → d < k →
    redlineref17_Name.l0 k s (i : Int) = some ((List.range' i d).all fun j => nameCh j (bt s (j : Int))) := by
  intro d
  induction d with
  | zero =>
    intro k i hi hk
    obtain ⟨k, rfl⟩ : ∃ m, k = m + 1 := ⟨k - 1, by omega⟩
    simp only [redlineref17_Name.l0]
    rw [if_neg (by omega)]
    rfl
  | succ d ih =>
    intro k i hi hk
    obtain ⟨k, rfl⟩ : ∃ m, k = m + 1 := ⟨k - 1, by omega⟩
    have ih1 := ih k (i + 1) (by omega) (by omega)
    simp only [redlineref17_Name.l0]
    rw [if_pos (by omega), if_pos (by omega), letter_eq, Option.bind_some, wrap_id (by omega) (by omega), succ_cast, ih1, List.range'_succ, List.all_cons]
    unfold nameCh
    cases letterB (bt s (i : Int)) with
    | true => simp
    | false =>
      rw [if_neg (by decide)]
      by_cases h0 : i = 0
      · rw [if_pos (by omega), decide_eq_true h0]; simp
      · rw [if_neg (by omega), decide_eq_false h0]
        by_cases h1 : bt s (i : Int) < 48
        · rw [if_pos h1, decide_eq_true h1]; simp
        · rw [if_neg h1, decide_eq_false h1]
          by_cases h2 : bt s (i : Int) > 57
          · rw [if_pos h2, decide_eq_true (show 57 < bt s (i : Int) from h2)]; simp
          · rw [if_neg h2, decide_eq_false (show ¬ 57 < bt s (i : Int) from h2)]; simp
theorem rname_eq (s : ByteArray) (k : Nat) (hk : 66 < k) : redlineref17_Name.f k s = some (nameB s) := by
  obtain ⟨k, rfl⟩ : ∃ m, k = m + 1 := ⟨k - 1, by omega⟩
  unfold redlineref17_Name.f nameB
  by_cases h0 : (s.size : Int) = 0
  · rw [if_pos h0]
    simp only [redlineref17_Name.j0]
    have : s.size = 0 := by omega
    simp [this]
  · rw [if_neg h0]
    by_cases h1 : (s.size : Int) > 64
    · rw [decide_eq_true h1]
      simp only [redlineref17_Name.j0]
      rw [decide_eq_false (show ¬ s.size ≤ 64 by omega)]; simp
    · rw [decide_eq_false h1]
      simp only [redlineref17_Name.j0]
      rw [if_neg (by decide), show (0 : Int) = ((0 : Nat) : Int) from rfl, name_from s (by omega) s.size k 0 (by omega) (by omega), decide_eq_true (show s.size ≤ 64 by omega), decide_eq_true (show s.size ≠ 0 by omega), List.range_eq_range']
      simp
theorem nameB_le {s : ByteArray} (h : nameB s = true) : s.size ≤ 64 := by
  unfold nameB at h
  simp only [Bool.and_eq_true, decide_eq_true_eq] at h
  exact h.2
theorem whole_ex (l : List ByteArray) (hz : szL l ≤ 2097152) (k : Nat) (hk : l.length < k) : ∃ u, redlineref17_whole.f k l = some u ∧ u.size ≤ 2097152 ∧ u.data.toList = whL l := by
  refine ⟨_, whole_eq l (by omega) k hk, ?_, rfl⟩
  have := whL_le l
  show (whL l).toArray.size ≤ _
  simp; omega
theorem wholeB_eq (l : List ByteArray) (hz : szL l ≤ 2097152) : wholeB l = whL l := by
  induction l with
  | nil => rfl
  | cons s t ih =>
    rw [szL_cons] at hz
    have e : wholeB (s :: t) = (bareS s ++ (⟨#[10]⟩ : ByteArray)).data.toList ++ wholeB t := rfl
    rw [e, ih (by omega), whL_cons]
    unfold bareS
    rw [bare_eq s (by omega)]
    simp [ByteArray.data_append]
theorem bareOk_of (l : List ByteArray) (hz : szL l ≤ 2097152) : bareOk l = true := by
  unfold bareOk
  rw [List.all_eq_true]
  intro s hs
  have := szL_mem hs
  rw [bare_eq s (by omega)]; rfl
def l_ifndef : List UInt8 := [35, 105, 102, 110, 100, 101, 102, 32]
theorem z_ifndef : (⟨#[35, 105, 102, 110, 100, 101, 102, 32]⟩ : ByteArray).size = 8 := rfl
theorem d_ifndef : (#[35, 105, 102, 110, 100, 101, 102, 32] : Array UInt8).toList = l_ifndef := rfl
def l_ifdef : List UInt8 := [35, 105, 102, 100, 101, 102, 32]
theorem z_ifdef : (⟨#[35, 105, 102, 100, 101, 102, 32]⟩ : ByteArray).size = 7 := rfl
theorem d_ifdef : (#[35, 105, 102, 100, 101, 102, 32] : Array UInt8).toList = l_ifdef := rfl
def l_els : List UInt8 := [35, 101, 108, 115, 101, 32, 47, 42, 32]
theorem z_els : (⟨#[35, 101, 108, 115, 101, 32, 47, 42, 32]⟩ : ByteArray).size = 9 := rfl
theorem d_els : (#[35, 101, 108, 115, 101, 32, 47, 42, 32] : Array UInt8).toList = l_els := rfl
def l_endi : List UInt8 := [35, 101, 110, 100, 105, 102, 32, 47, 42, 32]
theorem z_endi : (⟨#[35, 101, 110, 100, 105, 102, 32, 47, 42, 32]⟩ : ByteArray).size = 10 := rfl
theorem d_endi : (#[35, 101, 110, 100, 105, 102, 32, 47, 42, 32] : Array UInt8).toList = l_endi := rfl
def l_endn : List UInt8 := [35, 101, 110, 100, 105, 102, 32, 47, 42, 32, 33, 32]
theorem z_endn : (⟨#[35, 101, 110, 100, 105, 102, 32, 47, 42, 32, 33, 32]⟩ : ByteArray).size = 12 := rfl
theorem d_endn : (#[35, 101, 110, 100, 105, 102, 32, 47, 42, 32, 33, 32] : Array UInt8).toList = l_endn := rfl
def l_tail : List UInt8 := [32, 42, 47, 10]
theorem z_tail : (⟨#[32, 42, 47, 10]⟩ : ByteArray).size = 4 := rfl
theorem d_tail : (#[32, 42, 47, 10] : Array UInt8).toList = l_tail := rfl
def l_nl : List UInt8 := [10]
theorem z_nl : (⟨#[10]⟩ : ByteArray).size = 1 := rfl
theorem d_nl : (#[10] : Array UInt8).toList = l_nl := rfl
theorem n_ifndef : l_ifndef.length = 8 := rfl
theorem n_ifdef : l_ifdef.length = 7 := rfl
theorem n_els : l_els.length = 9 := rfl
theorem n_endi : l_endi.length = 10 := rfl
theorem n_endn : l_endn.length = 12 := rfl
theorem n_tail : l_tail.length = 4 := rfl
theorem n_nl : l_nl.length = 1 := rfl
def oldP (a : List ByteArray) (c : S94) : List UInt8 := whL ((a.take (c.f0 + c.f1).toNat).drop c.f0.toNat)
def newP (b : List ByteArray) (c : S94) : List UInt8 := whL ((b.take (c.f2 + c.f3).toNat).drop c.f2.toNat)
def segP (a b : List ByteArray) (n : List UInt8) (c : S94) : List UInt8 :=
  if c.f3 = 0 then l_ifndef ++ n ++ l_nl ++ oldP a c ++ l_endn ++ n ++ l_tail
  else if c.f1 = 0 then l_ifdef ++ n ++ l_nl ++ newP b c ++ l_endi ++ n ++ l_tail
  else l_ifndef ++ n ++ l_nl ++ oldP a c ++ l_els ++ n ++ l_tail ++ newP b c ++ l_endi ++ n ++ l_tail
def ifP (a b : List ByteArray) (n : List UInt8) : List S94 → Int → List UInt8
  | [], u => whL (a.drop u.toNat)
  | c :: t, u => whL ((a.take c.f0.toNat).drop u.toNat) ++ segP a b n c ++ ifP a b n t (c.f0 + c.f1)
theorem ifP_cons (a b : List ByteArray) (n : List UInt8) (c : S94) (t : List S94) (u : Int) : ifP a b n (c :: t) u = whL ((a.take c.f0.toNat).drop u.toNat) ++ segP a b n c ++ ifP a b n t (c.f0 + c.f1) := rfl
theorem szL_cut {l : List ByteArray} {m : Nat} (h : szL l ≤ m) (i j : Nat) : szL ((l.take i).drop j) ≤ m := Nat.le_trans (szL_drop _ _) (Nat.le_trans (szL_take _ _) h)
theorem len_cut2 {l : List ByteArray} {m : Nat} (h : l.length < m) (i j : Nat) : ((l.take i).drop j).length < m := by rw [List.length_drop, List.length_take]; omega
set_option maxHeartbeats 4000000 in
theorem rifdef_from (a b : List ByteArray) (nm : ByteArray) (hn : nm.size ≤ 64) (ha : szL a ≤ 2097152) (hb : szL b ≤ 2097152) (l : List S94) (hl : l.length ≤ 2097152) : ∀ (d k i : Nat) (acc : ByteArray) (u v : Int) (first : Bool), i + d = l.length → d + 4194304 < k → 0 ≤ u →
    scr (a.length : Int) (b.length : Int) first u v (l.drop i) = 0 → acc.size + (d + 1) * 16777216 ≤ 70368744177664 →
    ∃ r, redlineref17_Ifdef.l0 k l a b nm acc u (i : Int) = some (r, 0) ∧ r.data.toList = acc.data.toList ++ ifP a b nm.data.toList (l.drop i) u := by
  have la := szL_len a
  have lb := szL_len b
  intro d
  induction d with
  | zero =>
    intro k i acc u v first hi hk h0 hs hz
    obtain ⟨k, rfl⟩ : ∃ m, k = m + 1 := ⟨k - 1, by omega⟩
    rw [List.drop_of_length_le (by omega)] at hs ⊢
    have h2 := scr_le hs
    simp only [redlineref17_Ifdef.l0]
    obtain ⟨t, e1, e2, e3⟩ := whole_ex (a.drop u.toNat) (Nat.le_trans (szL_drop _ _) ha) k (by rw [List.length_drop]; omega)
    rw [if_neg (by omega), if_pos h0, if_pos h2.1, e1, Option.bind_some, if_pos (by omega)]
    exact ⟨_, rfl, by rw [ByteArray.data_append, Array.toList_append, e3]; rfl⟩
  | succ d ih =>
    intro k i acc u v first hi hk h0 hs hz
    obtain ⟨k, rfl⟩ : ∃ m, k = m + 1 := ⟨k - 1, by omega⟩
    have hlt : i < l.length := by omega
    rw [List.drop_eq_getElem_cons hlt] at hs ⊢
    obtain ⟨q0, q1, q2, q3, q4, q5, q6, q7, q8, q9, q10, q11, q12, q13⟩ := scr_first hs
    simp only [redlineref17_Ifdef.l0]
    rw [if_pos (by omega), if_pos (by omega), rd94 hlt, ifP_cons]
    generalize l[i] = c at *
    rw [wrap_id (x := c.f0 + c.f1) (by omega) (by omega), wrap_id (x := c.f2 + c.f3) (by omega) (by omega), wrap_id (x := (i : Int) + 1) (by omega) (by omega), succ_cast]
    obtain ⟨t1, e1, s1, d1⟩ := whole_ex ((a.take c.f0.toNat).drop u.toNat) (szL_cut ha _ _) k (len_cut2 (by omega) _ _)
    obtain ⟨t2, e2, s2, d2⟩ := whole_ex ((a.take (c.f0 + c.f1).toNat).drop c.f0.toNat) (szL_cut ha _ _) k (len_cut2 (by omega) _ _)
    obtain ⟨t3, e3, s3, d3⟩ := whole_ex ((b.take (c.f2 + c.f3).toNat).drop c.f2.toNat) (szL_cut hb _ _) k (len_cut2 (by omega) _ _)
    rw [if_pos h0, if_pos q0, if_pos (by omega), e1, Option.bind_some, if_pos (by omega), if_pos q1, if_pos (by omega), if_pos q10, e2, Option.bind_some, if_pos q5, if_pos (by omega), if_pos q11, e3, Option.bind_some]
    clear e1 e2 e3
    have fin : ∀ acc2 : ByteArray, acc2.size ≤ acc.size + 16777216 → acc2.data.toList = acc.data.toList ++ (whL ((a.take c.f0.toNat).drop u.toNat) ++ segP a b nm.data.toList c) →
        ∃ r, redlineref17_Ifdef.l0 k l a b nm acc2 (c.f0 + c.f1) ((i + 1 : Nat) : Int) = some (r, 0) ∧ r.data.toList = acc.data.toList ++ (whL ((a.take c.f0.toNat).drop u.toNat) ++ segP a b nm.data.toList c ++ ifP a b nm.data.toList (l.drop (i + 1)) (c.f0 + c.f1)) := by
      intro acc2 hz2 hd2
      obtain ⟨r, g1, g2⟩ := ih k (i + 1) acc2 (c.f0 + c.f1) (c.f2 + c.f3) false (by omega) (by omega) (by omega) q13 (by omega)
      exact ⟨r, g1, by rw [g2, hd2]; simp only [List.append_assoc]⟩
    by_cases c3 : c.f3 = 0
    · rw [if_pos c3, if_pos (by first | omega | (simp only [ByteArray.size_append, z_ifndef, z_ifdef, z_els, z_endi, z_endn, z_tail, z_nl]; omega)), if_pos (by first | omega | (simp only [ByteArray.size_append, z_ifndef, z_ifdef, z_els, z_endi, z_endn, z_tail, z_nl]; omega)), if_pos (by first | omega | (simp only [ByteArray.size_append, z_ifndef, z_ifdef, z_els, z_endi, z_endn, z_tail, z_nl]; omega)), if_pos (by first | omega | (simp only [ByteArray.size_append, z_ifndef, z_ifdef, z_els, z_endi, z_endn, z_tail, z_nl]; omega)), if_pos (by first | omega | (simp only [ByteArray.size_append, z_ifndef, z_ifdef, z_els, z_endi, z_endn, z_tail, z_nl]; omega)), if_pos (by first | omega | (simp only [ByteArray.size_append, z_ifndef, z_ifdef, z_els, z_endi, z_endn, z_tail, z_nl]; omega)), if_pos (by first | omega | (simp only [ByteArray.size_append, z_ifndef, z_ifdef, z_els, z_endi, z_endn, z_tail, z_nl]; omega))]
      exact fin _ (by simp only [ByteArray.size_append, z_ifndef, z_ifdef, z_els, z_endi, z_endn, z_tail, z_nl]; omega) (by unfold segP oldP; rw [if_pos c3]; simp only [ByteArray.data_append, Array.toList_append, d_ifndef, d_ifdef, d_els, d_endi, d_endn, d_tail, d_nl, d1, d2, List.append_assoc]; rfl)
    · rw [if_neg c3]
      by_cases c1 : c.f1 = 0
      · rw [if_pos c1, if_pos (by first | omega | (simp only [ByteArray.size_append, z_ifndef, z_ifdef, z_els, z_endi, z_endn, z_tail, z_nl]; omega)), if_pos (by first | omega | (simp only [ByteArray.size_append, z_ifndef, z_ifdef, z_els, z_endi, z_endn, z_tail, z_nl]; omega)), if_pos (by first | omega | (simp only [ByteArray.size_append, z_ifndef, z_ifdef, z_els, z_endi, z_endn, z_tail, z_nl]; omega)), if_pos (by first | omega | (simp only [ByteArray.size_append, z_ifndef, z_ifdef, z_els, z_endi, z_endn, z_tail, z_nl]; omega)), if_pos (by first | omega | (simp only [ByteArray.size_append, z_ifndef, z_ifdef, z_els, z_endi, z_endn, z_tail, z_nl]; omega)), if_pos (by first | omega | (simp only [ByteArray.size_append, z_ifndef, z_ifdef, z_els, z_endi, z_endn, z_tail, z_nl]; omega)), if_pos (by first | omega | (simp only [ByteArray.size_append, z_ifndef, z_ifdef, z_els, z_endi, z_endn, z_tail, z_nl]; omega))]
        exact fin _ (by simp only [ByteArray.size_append, z_ifndef, z_ifdef, z_els, z_endi, z_endn, z_tail, z_nl]; omega) (by unfold segP newP; rw [if_neg c3, if_pos c1]; simp only [ByteArray.data_append, Array.toList_append, d_ifndef, d_ifdef, d_els, d_endi, d_endn, d_tail, d_nl, d1, d3, List.append_assoc]; rfl)
      · rw [if_neg c1, if_pos (by first | omega | (simp only [ByteArray.size_append, z_ifndef, z_ifdef, z_els, z_endi, z_endn, z_tail, z_nl]; omega)), if_pos (by first | omega | (simp only [ByteArray.size_append, z_ifndef, z_ifdef, z_els, z_endi, z_endn, z_tail, z_nl]; omega)), if_pos (by first | omega | (simp only [ByteArray.size_append, z_ifndef, z_ifdef, z_els, z_endi, z_endn, z_tail, z_nl]; omega)), if_pos (by first | omega | (simp only [ByteArray.size_append, z_ifndef, z_ifdef, z_els, z_endi, z_endn, z_tail, z_nl]; omega)), if_pos (by first | omega | (simp only [ByteArray.size_append, z_ifndef, z_ifdef, z_els, z_endi, z_endn, z_tail, z_nl]; omega)), if_pos (by first | omega | (simp only [ByteArray.size_append, z_ifndef, z_ifdef, z_els, z_endi, z_endn, z_tail, z_nl]; omega)), if_pos (by first | omega | (simp only [ByteArray.size_append, z_ifndef, z_ifdef, z_els, z_endi, z_endn, z_tail, z_nl]; omega)), if_pos (by first | omega | (simp only [ByteArray.size_append, z_ifndef, z_ifdef, z_els, z_endi, z_endn, z_tail, z_nl]; omega)), if_pos (by first | omega | (simp only [ByteArray.size_append, z_ifndef, z_ifdef, z_els, z_endi, z_endn, z_tail, z_nl]; omega)), if_pos (by first | omega | (simp only [ByteArray.size_append, z_ifndef, z_ifdef, z_els, z_endi, z_endn, z_tail, z_nl]; omega)), if_pos (by first | omega | (simp only [ByteArray.size_append, z_ifndef, z_ifdef, z_els, z_endi, z_endn, z_tail, z_nl]; omega))]
        exact fin _ (by simp only [ByteArray.size_append, z_ifndef, z_ifdef, z_els, z_endi, z_endn, z_tail, z_nl]; omega) (by unfold segP oldP newP; rw [if_neg c3, if_neg c1]; simp only [ByteArray.data_append, Array.toList_append, d_ifndef, d_ifdef, d_els, d_endi, d_endn, d_tail, d_nl, d1, d2, d3, List.append_assoc]; rfl)
theorem cut_of {a : List ByteArray} {i j : Int} {f : List ByteArray → Option (List UInt8)} (h0 : 0 ≤ i) (h1 : i ≤ j) (h2 : j ≤ (a.length : Int)) : cutL a i j f = f ((a.take j.toNat).drop i.toNat) := by
  unfold cutL; rw [if_pos ⟨h0, h1, h2⟩]
theorem put_of {acc x : List UInt8} {f : List UInt8 → Option (List UInt8)} (h : acc.length + x.length ≤ 140737488355328) : put1 acc x f = f (acc ++ x) := by
  unfold put1; rw [if_pos (by rw [List.length_append]; exact h)]
def sgOf (n : List UInt8) (sg : Sg) : Prop := sg.ifdef.data.toList = l_ifdef ++ n ++ l_nl ∧ sg.ifndef.data.toList = l_ifndef ++ n ++ l_nl ∧ sg.other.data.toList = l_els ++ n ++ l_tail ∧ sg.fin.data.toList = l_endi ++ n ++ l_tail ∧ sg.finNot.data.toList = l_endn ++ n ++ l_tail
theorem of_eq (nm : ByteArray) (hn : nm.size ≤ 64) : ∃ s1 s2 s3 s4 s5, views_of.f nm = some (s1, s2, s3, s4, s5) ∧ sgOf nm.data.toList ⟨s1, s2, s3, s4, s5⟩ := by
  unfold views_of.f
  rw [if_pos (by first | omega | (simp only [ByteArray.size_append, z_ifndef, z_ifdef, z_els, z_endi, z_endn, z_tail, z_nl]; omega)), if_pos (by first | omega | (simp only [ByteArray.size_append, z_ifndef, z_ifdef, z_els, z_endi, z_endn, z_tail, z_nl]; omega)), if_pos (by first | omega | (simp only [ByteArray.size_append, z_ifndef, z_ifdef, z_els, z_endi, z_endn, z_tail, z_nl]; omega)), if_pos (by first | omega | (simp only [ByteArray.size_append, z_ifndef, z_ifdef, z_els, z_endi, z_endn, z_tail, z_nl]; omega)), if_pos (by first | omega | (simp only [ByteArray.size_append, z_ifndef, z_ifdef, z_els, z_endi, z_endn, z_tail, z_nl]; omega)), if_pos (by first | omega | (simp only [ByteArray.size_append, z_ifndef, z_ifdef, z_els, z_endi, z_endn, z_tail, z_nl]; omega)), if_pos (by first | omega | (simp only [ByteArray.size_append, z_ifndef, z_ifdef, z_els, z_endi, z_endn, z_tail, z_nl]; omega)), if_pos (by first | omega | (simp only [ByteArray.size_append, z_ifndef, z_ifdef, z_els, z_endi, z_endn, z_tail, z_nl]; omega)), if_pos (by first | omega | (simp only [ByteArray.size_append, z_ifndef, z_ifdef, z_els, z_endi, z_endn, z_tail, z_nl]; omega)), if_pos (by first | omega | (simp only [ByteArray.size_append, z_ifndef, z_ifdef, z_els, z_endi, z_endn, z_tail, z_nl]; omega))]
  refine ⟨_, _, _, _, _, rfl, ?_⟩
  unfold sgOf
  refine ⟨?_, ?_, ?_, ?_, ?_⟩ <;> (simp only [ByteArray.data_append, Array.toList_append, d_ifndef, d_ifdef, d_els, d_endi, d_endn, d_tail, d_nl, List.append_assoc]; rfl)
theorem cutS (l : List ByteArray) (hz : szL l ≤ 2097152) (i j : Nat) : wholeB ((l.take i).drop j) = whL ((l.take i).drop j) ∧ (whL ((l.take i).drop j)).length ≤ 2097152 :=
  ⟨wholeB_eq _ (szL_cut hz _ _), Nat.le_trans (whL_le _) (szL_cut hz _ _)⟩
set_option maxHeartbeats 4000000 in
theorem ifdef_from (a b : List ByteArray) (n : List UInt8) (sg : Sg) (hsg : sgOf n sg) (hn : n.length ≤ 64) (ha : szL a ≤ 2097152) (hb : szL b ≤ 2097152) : ∀ (l : List S94) (acc : List UInt8) (u v : Int) (first : Bool), 0 ≤ u →
    scr (a.length : Int) (b.length : Int) first u v l = 0 → acc.length + (l.length + 1) * 16777216 ≤ 70368744177664 → ifL a b sg l u acc = some (acc ++ ifP a b n l u)
  | [], acc, u, v, first, h0, hs, hz => by
    have h2 := scr_le hs
    unfold ifL
    have e : wholeB (a.drop u.toNat) = whL (a.drop u.toNat) := wholeB_eq _ (Nat.le_trans (szL_drop _ _) ha)
    have e2 : (whL (a.drop u.toNat)).length ≤ 2097152 := Nat.le_trans (whL_le _) (Nat.le_trans (szL_drop _ _) ha)
    rw [if_pos ⟨h0, h2.1⟩, e, put_of (by simp only [List.length_nil] at hz; omega)]
    rfl
  | c :: t, acc, u, v, first, h0, hs, hz => by
    obtain ⟨q0, q1, q2, q3, q4, q5, q6, q7, q8, q9, q10, q11, q12, q13⟩ := scr_first hs
    rw [List.length_cons] at hz
    obtain ⟨g1, g2, g3, g4, g5⟩ := hsg
    obtain ⟨e1, s1⟩ := cutS a ha c.f0.toNat u.toNat
    obtain ⟨e2, s2⟩ := cutS a ha (c.f0 + c.f1).toNat c.f0.toNat
    obtain ⟨e3, s3⟩ := cutS b hb (c.f2 + c.f3).toNat c.f2.toNat
    have e : ifStep a b sg c u acc = some (acc ++ (whL ((a.take c.f0.toNat).drop u.toNat) ++ segP a b n c)) ∧ (segP a b n c).length ≤ 8388608 := by
      have w1 : wrap64 (c.f0 + c.f1) = c.f0 + c.f1 := wrap_id (by omega) (by omega)
      have w2 : wrap64 (c.f2 + c.f3) = c.f2 + c.f3 := wrap_id (by omega) (by omega)
      unfold ifStep segP oldP newP
      rw [w1, w2, cut_of h0 q0 (by omega), e1, put_of (by omega)]
      by_cases c3 : c.f3 = 0
      · rw [if_pos c3, if_pos c3, g2, g5, put_of (by simp only [n_ifndef, n_ifdef, n_els, n_endi, n_endn, n_tail, n_nl, List.length_append]; omega), cut_of q1 (by omega) q10, e2, put_of (by simp only [n_ifndef, n_ifdef, n_els, n_endi, n_endn, n_tail, n_nl, List.length_append]; omega), put_of (by simp only [n_ifndef, n_ifdef, n_els, n_endi, n_endn, n_tail, n_nl, List.length_append]; omega)]
        exact ⟨by simp only [List.append_assoc], by simp only [n_ifndef, n_ifdef, n_els, n_endi, n_endn, n_tail, n_nl, List.length_append]; omega⟩
      · rw [if_neg c3, if_neg c3]
        by_cases c1 : c.f1 = 0
        · rw [if_pos c1, if_pos c1, g1, put_of (by simp only [n_ifndef, n_ifdef, n_els, n_endi, n_endn, n_tail, n_nl, List.length_append]; omega), Option.bind_some, cut_of q5 (by omega) q11, e3, g4, put_of (by simp only [n_ifndef, n_ifdef, n_els, n_endi, n_endn, n_tail, n_nl, List.length_append]; omega), put_of (by simp only [n_ifndef, n_ifdef, n_els, n_endi, n_endn, n_tail, n_nl, List.length_append]; omega)]
          exact ⟨by simp only [List.append_assoc], by simp only [n_ifndef, n_ifdef, n_els, n_endi, n_endn, n_tail, n_nl, List.length_append]; omega⟩
        · rw [if_neg c1, if_neg c1, g2, g3, put_of (by simp only [n_ifndef, n_ifdef, n_els, n_endi, n_endn, n_tail, n_nl, List.length_append]; omega), cut_of q1 (by omega) q10, e2, put_of (by simp only [n_ifndef, n_ifdef, n_els, n_endi, n_endn, n_tail, n_nl, List.length_append]; omega), put_of (by simp only [n_ifndef, n_ifdef, n_els, n_endi, n_endn, n_tail, n_nl, List.length_append]; omega), Option.bind_some, cut_of q5 (by omega) q11, e3, g4, put_of (by simp only [n_ifndef, n_ifdef, n_els, n_endi, n_endn, n_tail, n_nl, List.length_append]; omega), put_of (by simp only [n_ifndef, n_ifdef, n_els, n_endi, n_endn, n_tail, n_nl, List.length_append]; omega)]
          exact ⟨by simp only [List.append_assoc], by simp only [n_ifndef, n_ifdef, n_els, n_endi, n_endn, n_tail, n_nl, List.length_append]; omega⟩
    have e0 : ifL a b sg (c :: t) u acc = (ifStep a b sg c u acc).bind fun acc => ifL a b sg t (wrap64 (c.f0 + c.f1)) acc := rfl
    rw [e0, e.1, Option.bind_some, wrap_id (by omega) (by omega), ifP_cons]
    have ih := ifdef_from a b n sg ⟨g1, g2, g3, g4, g5⟩ hn ha hb t (acc ++ (whL ((a.take c.f0.toNat).drop u.toNat) ++ segP a b n c)) (c.f0 + c.f1) (c.f2 + c.f3) false (by omega) q13 (by have := e.2; simp only [List.length_append]; omega)
    rw [ih]
    simp only [List.append_assoc]
theorem ifdef_true (l : List S94) (a b : List ByteArray) (nm : ByteArray) (hl : l.length ≤ 1048576) (ha : szL a ≤ 1048576) (hb : szL b ≤ 1048576) : redlinelaw17_ViewsIfdef.f 100000000 l a b nm = some true := by
  have la := szL_len a
  have lb := szL_len b
  unfold redlinelaw17_ViewsIfdef.f views_Ifdef.f redlineref17_Ifdef.f
  rw [if_pos ⟨bareOk_of a (by omega), bareOk_of b (by omega), by omega, by omega, by omega⟩, scheck_eq l (by omega) _ _ (by omega) (by omega) _ (by omega), rscheck_eq l (by omega) _ _ (by omega) (by omega) _ (by omega), Option.bind_some, Option.bind_some]
  by_cases h0 : scr (a.length : Int) (b.length : Int) true 0 0 l = 0
  · rw [if_pos h0, if_pos h0, rname_eq nm _ (by omega), Option.bind_some]
    cases hnm : nameB nm with
    | false => rw [if_neg (by decide), if_neg (by decide), Option.bind_some, Option.bind_some, if_pos rfl]; rfl
    | true =>
      have hn := nameB_le hnm
      obtain ⟨s1, s2, s3, s4, s5, e1, e2⟩ := of_eq nm hn
      obtain ⟨r, r1, r2⟩ := rifdef_from a b nm hn (by omega) (by omega) l (by omega) l.length 100000000 0 (⟨#[]⟩ : ByteArray) 0 0 true (by omega) (by omega) (by omega) (by rw [List.drop_zero]; exact h0) (by rw [show (⟨#[]⟩ : ByteArray).size = 0 from rfl]; omega)
      rw [List.drop_zero] at r2
      rw [if_pos rfl, if_pos rfl, e1, Option.bind_some, ifdef_from a b nm.data.toList ⟨s1, s2, s3, s4, s5⟩ e2 hn (by omega) (by omega) l [] 0 0 true (by omega) h0 (by simp only [List.length_nil]; omega), Option.bind_some, Option.bind_some]
      rw [show ((0 : Nat) : Int) = 0 from rfl] at r1
      rw [r1, Option.bind_some, ofL r _ r2, if_pos rfl]
      rfl
  · rw [if_neg h0, if_neg h0]
    simp
end Go.Proofs.Ytnllemlmgbjjnaa.PA
/- The types of this seat's arguments: data of them reads as values, with the bounds of the reach. -/
namespace Go.Proofs.Ytnllemlmgbjjnaa.PA
set_option linter.unusedVariables false
open Go.RowKit Go.Proofs.YtnllemlmgbjjnaaOpen Go.Proofs.YtnllemlmgbjjnaaW.PrintWords Go.Proofs.YtnllemlmgbjjnaaW.PrintLast Go.Proofs.YtnllemlmgbjjnaaW.PrintMore
def fs94 : List Field := [{ name := "A", type := 3, offset := 0, embedded := false, tag := "", pkgPath := "", byteOffset := 0 }, { name := "AN", type := 3, offset := 1, embedded := false, tag := "", pkgPath := "", byteOffset := 8 }, { name := "B", type := 3, offset := 2, embedded := false, tag := "", pkgPath := "", byteOffset := 16 }, { name := "BN", type := 3, offset := 3, embedded := false, tag := "", pkgPath := "", byteOffset := 24 }]
end Go.Proofs.Ytnllemlmgbjjnaa.PA
