/- Texts of this proof, packed into one: PAxf25 PAL5 PAxq94 PAxf28 PAxf29 PAxf5 PAOp PAL6. -/
import Derived.Test.YtnllemlmgbjjnaaHOPAx0
import Derived.Test.YtnllemlmgbjjnaaHO3
import Derived.Test.YtnllemlmgbjjnaaHO4
import Derived.Test.YtnllemlmgbjjnaaHO1
import Derived.Test.YtnllemlmgbjjnaaHOOpen
namespace Go.Proofs.Ytnllemlmgbjjnaa.PA
open Go.RowKit Go.Proofs.YtnllemlmgbjjnaaW.PrintWords Go.Proofs.YtnllemlmgbjjnaaW.PrintLast Go.Proofs.YtnllemlmgbjjnaaW.PrintMore
attribute [local go_sem] max2_int min2_int max_two min_two max_three min_three max_four min_four   -- for this text's walks alone
set_option linter.unusedVariables false
set_option linter.unusedSimpArgs false
mutual
def redlineref11_Changes.l0 : Nat → List (S24) → List (S94) → Int → Option ((List (S94)) × Int)
  | 0, _, _, _ => none
  | k + 1, x0, x5, x6 => if x6 < (x0.length : Int) then (if 0 ≤ x6 then ((redlineref11_At.f ((rd_T24 x0 x6).f0) ((rd_T24 x0 x6).f1) ((rd_T24 x0 x6).f2) ((rd_T24 x0 x6).f3) ((rd_T24 x0 x6).f4)).bind fun bt295 => (redlineref11_Changes.l1 k x0 x5 x6 bt295.1 bt295.2 0)) else (none)) else (some (x5, 0))
def redlineref11_Changes.l1 : Nat → List (S24) → List (S94) → Int → Int → Int → Int → Option ((List (S94)) × Int)
  | 0, _, _, _, _, _, _ => none
  | k + 1, x0, x5, x6, x7, x8, x9 => if 0 ≤ x6 then (if x6 < (x0.length : Int) then (if x9 < (((rd_T24 x0 x6).f4).length : Int) then (if 0 ≤ x9 then (if ((rd_T35 ((rd_T24 x0 x6).f4) x9).f0) = 32 then (redlineref11_Changes.l1 k x0 x5 x6 (wrap64 (x7 + 1)) (wrap64 (x8 + 1)) (wrap64 (x9 + 1))) else (if (wrap64 ((x5.length : Int) - 1)) < 0 then (redlineref11_Changes.j2 k x0 x5 x6 x7 x8 x9 ((rd_T35 ((rd_T24 x0 x6).f4) x9).f0) (wrap64 ((x5.length : Int) - 1)) true) else (if 0 ≤ (wrap64 ((x5.length : Int) - 1)) then (if (wrap64 ((x5.length : Int) - 1)) < (x5.length : Int) then (if (wrap64 (((rd_T94 x5 (wrap64 ((x5.length : Int) - 1))).f0) + ((rd_T94 x5 (wrap64 ((x5.length : Int) - 1))).f1))) = x7 then (redlineref11_Changes.j2 k x0 x5 x6 x7 x8 x9 ((rd_T35 ((rd_T24 x0 x6).f4) x9).f0) (wrap64 ((x5.length : Int) - 1)) ((wrap64 (((rd_T94 x5 (wrap64 ((x5.length : Int) - 1))).f2) + ((rd_T94 x5 (wrap64 ((x5.length : Int) - 1))).f3))) != x8)) else (redlineref11_Changes.j2 k x0 x5 x6 x7 x8 x9 ((rd_T35 ((rd_T24 x0 x6).f4) x9).f0) (wrap64 ((x5.length : Int) - 1)) true)) else (none)) else (none)))) else (none)) else (redlineref11_Changes.l0 k x0 x5 (wrap64 (x6 + 1)))) else (none)) else (none)
def redlineref11_Changes.j2 : Nat → List (S24) → List (S94) → Int → Int → Int → Int → Int → Int → Bool → Option ((List (S94)) × Int)
  | 0, _, _, _, _, _, _, _, _, _ => none
  | k + 1, x0, x5, x6, x7, x8, x9, x10, x11, x90 => if x90 = true then (if x5.length < 4398046511104 then ((some (x5 ++ [(⟨x7, 0, x8, 0⟩ : S94)] : List (S94))).bind fun y304 => (if x10 = 45 then (if 0 ≤ (wrap64 (x11 + 1)) then (if (wrap64 (x11 + 1)) < (y304.length : Int) then (redlineref11_Changes.l1 k x0 (y304.set ((wrap64 (x11 + 1)) : Int).toNat (⟨(rd_T94 y304 (wrap64 (x11 + 1))).f0, wrap64 (((rd_T94 y304 (wrap64 (x11 + 1))).f1) + 1), (rd_T94 y304 (wrap64 (x11 + 1))).f2, (rd_T94 y304 (wrap64 (x11 + 1))).f3⟩ : S94)) x6 (wrap64 (x7 + 1)) x8 (wrap64 (x9 + 1))) else (none)) else (none)) else (if 0 ≤ (wrap64 (x11 + 1)) then (if (wrap64 (x11 + 1)) < (y304.length : Int) then (redlineref11_Changes.l1 k x0 (y304.set ((wrap64 (x11 + 1)) : Int).toNat (⟨(rd_T94 y304 (wrap64 (x11 + 1))).f0, (rd_T94 y304 (wrap64 (x11 + 1))).f1, (rd_T94 y304 (wrap64 (x11 + 1))).f2, wrap64 (((rd_T94 y304 (wrap64 (x11 + 1))).f3) + 1)⟩ : S94)) x6 x7 (wrap64 (x8 + 1)) (wrap64 (x9 + 1))) else (none)) else (none)))) else (none)) else (if x10 = 45 then (if 0 ≤ x11 then (if x11 < (x5.length : Int) then (redlineref11_Changes.l1 k x0 (x5.set (x11 : Int).toNat (⟨(rd_T94 x5 x11).f0, wrap64 (((rd_T94 x5 x11).f1) + 1), (rd_T94 x5 x11).f2, (rd_T94 x5 x11).f3⟩ : S94)) x6 (wrap64 (x7 + 1)) x8 (wrap64 (x9 + 1))) else (none)) else (none)) else (if 0 ≤ x11 then (if x11 < (x5.length : Int) then (redlineref11_Changes.l1 k x0 (x5.set (x11 : Int).toNat (⟨(rd_T94 x5 x11).f0, (rd_T94 x5 x11).f1, (rd_T94 x5 x11).f2, wrap64 (((rd_T94 x5 x11).f3) + 1)⟩ : S94)) x6 x7 (wrap64 (x8 + 1)) (wrap64 (x9 + 1))) else (none)) else (none)))
end
def redlineref11_Changes.f (k : Nat) (l0 : List (S24)) : Option ((List (S94)) × Int) := (redlineref11_Order.f k l0).bind fun t293 => (if t293 = 0 then (redlineref11_Changes.l0 k l0 ([] : List (S94)) 0) else (some (([] : List (S94)), t293)))
set_option maxHeartbeats 8000000 in
set_option maxRecDepth 100000 in
theorem redlineref11_Changes.calls (k : Nat) (A0 : Option Addr) (c0 : Nat) (l0 : List (S24)) (r1 : List (S94)) (r2 : Int) (w : World) (hr0 : Kd.C k24 w A0 l0.length l0) (hc0 : l0.length ≤ c0) (h : redlineref11_Changes.f k l0 = some (r1, r2)) :
    Calls Try.prog 25 #[.slice A0 l0.length c0] w fun e w' => ∃ v0_ : Value, e = .returned (.tuple #[v0_, .int .i64 r2]) ∧ Kd.R k94 94 w' w.heap.size (fun _ => True) v0_ r1 ∧ Below w.heap.size w w' := by
  have hu24 := Try.underlying24
  have hu94 := Try.underlying94
  have HR0 := Aside0.mk hr0
  have HC0 := Aside0.mk hc0
  clear hr0 hc0
  have HB := Aside0.mk (Below.refl w.heap.size w)
  have H : ((redlineref11_Order.f k l0).bind fun t293 => (if t293 = 0 then (redlineref11_Changes.l0 k l0 ([] : List (S94)) 0) else (some (([] : List (S94)), t293)))) = some (r1, r2) := h
  clear h
  replace H := Option.bind_eq_some_iff.mp H
  obtain ⟨t293, A20, H⟩ := H
  replace H : (if t293 = 0 then (redlineref11_Changes.l0 k l0 ([] : List (S94)) 0) else (some (([] : List (S94)), t293))) = some (r1, r2) := H
  have A2 := Aside0.mk A20
  clear A20
  by_cases c3 : t293 = 0
  · rw [if_pos c3] at H
    have c3b0 : (t293 == 0) = true := beq_iff_eq.mpr c3
    have c3b1 : (t293 != 0) = false := bne_eq_false_iff_eq.mpr c3
    clear c3
    have H' := Aside0.mk H
    clear H
    go_enter Try.func25, Try.ntmps25
    go_wp2_with (first | (go_at_call 27; (with_reducible refine (redlineref11_Order.calls k _ _ l0 t293 _ ?side1 ?side2 A2.out).mono ?_); (case side1 => repeat (first | exact HR0.out | (with_reducible refine Kd.C_alloc ?_ _) | (with_reducible refine Kd.C_drewN ?_ _) | (with_reducible refine Kd.C_drew ?_))); (case side2 => exact HC0.out); rintro e w4 ⟨rfl, hb⟩; have n0_ := Aside0.mk (below_step (by repeat (first | (with_reducible first | exact HB.out | apply below_alloc | apply pw_below_drewN | apply below_drew1) | exact HB.out)) hb); clear HB; have HB := n0_; clear n0_; (try clear hb); (try clear hb2); (try clear hk); (try clear hi)))
    repeat (go_quiet (first | (go_at_call 27; (with_reducible refine (redlineref11_Order.calls k _ _ l0 t293 _ ?side1 ?side2 A2.out).mono ?_); (case side1 => repeat (first | exact HR0.out | (with_reducible refine Kd.C_alloc ?_ _) | (with_reducible refine Kd.C_drewN ?_ _) | (with_reducible refine Kd.C_drew ?_))); (case side2 => exact HC0.out); rintro e w4 ⟨rfl, hb⟩; have n0_ := Aside0.mk (below_step (by repeat (first | (with_reducible first | exact HB.out | apply below_alloc | apply pw_below_drewN | apply below_drew1) | exact HB.out)) hb); clear HB; have HB := n0_; clear n0_; (try clear hb); (try clear hb2); (try clear hk); (try clear hi))); try go_wp2_with (first | (go_at_call 27; (with_reducible refine (redlineref11_Order.calls k _ _ l0 t293 _ ?side1 ?side2 A2.out).mono ?_); (case side1 => repeat (first | exact HR0.out | (with_reducible refine Kd.C_alloc ?_ _) | (with_reducible refine Kd.C_drewN ?_ _) | (with_reducible refine Kd.C_drew ?_))); (case side2 => exact HC0.out); rintro e w4 ⟨rfl, hb⟩; have n0_ := Aside0.mk (below_step (by repeat (first | (with_reducible first | exact HB.out | apply below_alloc | apply pw_below_drewN | apply below_drew1) | exact HB.out)) hb); clear HB; have HB := n0_; clear n0_; (try clear hb); (try clear hb2); (try clear hk); (try clear hi))))
    go_loopg [5, 6] k (fun kq v5 v6 w' => ∃ (x5_1 : List (S94)) (x6_1 : Int), v6 = .int .i64 x6_1 ∧ Aside0 (redlineref11_Changes.l0 kq l0 x5_1 x6_1 = some (r1, r2)) ∧ Aside0 (kq ≤ k) ∧ Aside0 (Kd.R k94 94 w' w.heap.size (fun _ => True) v5 x5_1) ∧ Aside0 (Below w.heap.size w w'))
    case atStart => exact ⟨(([] : List (S94))), (0), (by first | rfl | (simp; done) | (simp [*]; done)), H', ⟨Nat.le_refl _⟩, ⟨by first | exact Kd.R_nil _ _ _ _ _ | exact Kd.N_nil _ _ _ _ _ | exact Kd.V_nil _ _ _ _ _ | exact Kd.Q_nil _ _ _ _ _ | exact Kd.S_nil _ _ _ _ _⟩, ⟨by repeat (first | (with_reducible first | exact HB.out | apply below_alloc | apply pw_below_drewN | apply below_drew1) | exact HB.out)⟩⟩
    case round =>
      clear H'
      try clear c2
      try clear p2
      try clear c3
      try clear c3b0
      try clear c3b1
      obtain ⟨x5_1, x6_1, rfl, HA, HK1, HO_5, HB⟩ := hrel
      cases gk with
      | zero => exact absurd HA.out (by simp [redlineref11_Changes.l0])
      | succ k1 =>
        have H := HA.out
        clear HA
        simp only [redlineref11_Changes.l0] at H
        by_cases c5 : x6_1 < (l0.length : Int)
        · rw [if_pos c5] at H
          have c5b0 : decide (x6_1 < (l0.length : Int)) = true := decide_eq_true c5
          clear c5
          by_cases c6 : 0 ≤ x6_1
          · rw [if_pos c6] at H
            have c6b0 : decide (0 ≤ x6_1) = true := decide_eq_true c6
            clear c6
            replace H := Option.bind_eq_some_iff.mp H
            obtain ⟨⟨t295, t296⟩, A70, H⟩ := H
            replace H : (redlineref11_Changes.l1 k1 l0 x5_1 x6_1 t295 t296 0) = some (r1, r2) := H
            have A7 := Aside0.mk A70
            clear A70
            have H' := Aside0.mk H
            clear H
            have p294 : 0 ≤ (x6_1 : Int) := of_decide_eq_true (by first | (with_reducible assumption) | assumption)
            have q294 : x6_1 < (l0.length : Int) := of_decide_eq_true (by first | (with_reducible assumption) | assumption)
            obtain ⟨ad294, A294_4, c294_4, e294, hx294_0, hx294_1, hx294_2, hx294_3, hx294_4, hl294_4, hi294_4⟩ := at_T24 HR0.out x6_1 p294 q294
            cases e294
            replace hx294_0 := (HB.out.cell (World.block_lt_of_cell? w _ hx294_0)).trans hx294_0
            replace hx294_1 := (HB.out.cell (World.block_lt_of_cell? w _ hx294_1)).trans hx294_1
            replace hx294_2 := (HB.out.cell (World.block_lt_of_cell? w _ hx294_2)).trans hx294_2
            replace hx294_3 := (HB.out.cell (World.block_lt_of_cell? w _ hx294_3)).trans hx294_3
            replace hx294_4 := (HB.out.cell (World.block_lt_of_cell? w _ hx294_4)).trans hx294_4
            have HR294_4 := Aside0.mk hi294_4
            have HC294_4 := Aside0.mk hl294_4
            clear hi294_4 hl294_4
            replace p294 := eq_true p294
            replace q294 := eq_true q294
            go_wp2_with (first | (go_at_call 41; (with_reducible refine (redlineref11_At.calls ((rd_T24 l0 x6_1).f0) ((rd_T24 l0 x6_1).f1) ((rd_T24 l0 x6_1).f2) ((rd_T24 l0 x6_1).f3) _ _ ((rd_T24 l0 x6_1).f4) t295 t296 _ ?side1 ?side2 A7.out).mono ?_); (case side1 => repeat (first | exact (Kd.C_below HR294_4.out HB.out) | (with_reducible refine Kd.C_alloc ?_ _) | (with_reducible refine Kd.C_drewN ?_ _) | (with_reducible refine Kd.C_drew ?_))); (case side2 => exact HC294_4.out); rintro e w8 ⟨rfl, hb⟩; have n0_ := Aside0.mk (Kd.R_below (by (with_reducible repeat (first | apply Kd.R_alloc | apply Kd.R_drewN | apply Kd.R_drew)); exact HO_5.out) hb); have n1_ := Aside0.mk (below_step (by repeat (first | (with_reducible first | exact HB.out | apply below_alloc | apply pw_below_drewN | apply below_drew1) | exact HB.out)) hb); clear HO_5; clear HB; have HO_5 := n0_; have HB := n1_; clear n0_ n1_; (try clear hb); (try clear hb2); (try clear hk); (try clear hi)))
            repeat (go_quiet (first | (go_at_call 41; (with_reducible refine (redlineref11_At.calls ((rd_T24 l0 x6_1).f0) ((rd_T24 l0 x6_1).f1) ((rd_T24 l0 x6_1).f2) ((rd_T24 l0 x6_1).f3) _ _ ((rd_T24 l0 x6_1).f4) t295 t296 _ ?side1 ?side2 A7.out).mono ?_); (case side1 => repeat (first | exact (Kd.C_below HR294_4.out HB.out) | (with_reducible refine Kd.C_alloc ?_ _) | (with_reducible refine Kd.C_drewN ?_ _) | (with_reducible refine Kd.C_drew ?_))); (case side2 => exact HC294_4.out); rintro e w8 ⟨rfl, hb⟩; have n0_ := Aside0.mk (Kd.R_below (by (with_reducible repeat (first | apply Kd.R_alloc | apply Kd.R_drewN | apply Kd.R_drew)); exact HO_5.out) hb); have n1_ := Aside0.mk (below_step (by repeat (first | (with_reducible first | exact HB.out | apply below_alloc | apply pw_below_drewN | apply below_drew1) | exact HB.out)) hb); clear HO_5; clear HB; have HO_5 := n0_; have HB := n1_; clear n0_ n1_; (try clear hb); (try clear hb2); (try clear hk); (try clear hi))); try go_wp2_with (first | (go_at_call 41; (with_reducible refine (redlineref11_At.calls ((rd_T24 l0 x6_1).f0) ((rd_T24 l0 x6_1).f1) ((rd_T24 l0 x6_1).f2) ((rd_T24 l0 x6_1).f3) _ _ ((rd_T24 l0 x6_1).f4) t295 t296 _ ?side1 ?side2 A7.out).mono ?_); (case side1 => repeat (first | exact (Kd.C_below HR294_4.out HB.out) | (with_reducible refine Kd.C_alloc ?_ _) | (with_reducible refine Kd.C_drewN ?_ _) | (with_reducible refine Kd.C_drew ?_))); (case side2 => exact HC294_4.out); rintro e w8 ⟨rfl, hb⟩; have n0_ := Aside0.mk (Kd.R_below (by (with_reducible repeat (first | apply Kd.R_alloc | apply Kd.R_drewN | apply Kd.R_drew)); exact HO_5.out) hb); have n1_ := Aside0.mk (below_step (by repeat (first | (with_reducible first | exact HB.out | apply below_alloc | apply pw_below_drewN | apply below_drew1) | exact HB.out)) hb); clear HO_5; clear HB; have HO_5 := n0_; have HB := n1_; clear n0_ n1_; (try clear hb); (try clear hb2); (try clear hk); (try clear hi))))
            go_loopg [5, 7, 8, 9] k1 (fun kq v5 v7 v8 v9 w' => ∃ (x5_2 : List (S94)) (x7_2 : Int) (x8_2 : Int) (x9_2 : Int), v7 = .int .i64 x7_2 ∧ v8 = .int .i64 x8_2 ∧ v9 = .int .i64 x9_2 ∧ Aside0 (redlineref11_Changes.l1 kq l0 x5_2 x6_1 x7_2 x8_2 x9_2 = some (r1, r2)) ∧ Aside0 (kq ≤ k1) ∧ Aside0 (Kd.R k94 94 w' w.heap.size (fun _ => True) v5 x5_2) ∧ Aside0 (Below w.heap.size w w'))
            case atStart => exact ⟨(x5_1), (t295), (t296), (0), (by first | rfl | (simp; done) | (simp [*]; done)), (by first | rfl | (simp; done) | (simp [*]; done)), (by first | rfl | (simp; done) | (simp [*]; done)), H', ⟨Nat.le_refl _⟩, ⟨by (with_reducible repeat (first | apply Kd.R_alloc | apply Kd.R_drewN | apply Kd.R_drew)); exact HO_5.out⟩, ⟨by repeat (first | (with_reducible first | exact HB.out | apply below_alloc | apply pw_below_drewN | apply below_drew1) | exact HB.out)⟩⟩
            case round =>
              clear H'
              try clear c2
              try clear p2
              try clear q2
              try clear hx2
              try clear c3
              try clear c3b0
              try clear c3b1
              try clear c5
              try clear c5b0
              try clear c6
              try clear c6b0
              try clear hx294_0
              try clear hx294_1
              try clear hx294_2
              try clear hx294_3
              try clear hx294_4
              try clear p2
              try clear p294
              try clear q294
              obtain ⟨x5_2, x7_2, x8_2, x9_2, rfl, rfl, rfl, HA, HK2, HO_5, HB⟩ := hrel
              cases gk with
              | zero => exact absurd HA.out (by simp [redlineref11_Changes.l1])
              | succ k2 =>
                have H := HA.out
                clear HA
                simp only [redlineref11_Changes.l1] at H
                by_cases c9 : 0 ≤ x6_1
                · rw [if_pos c9] at H
                  have c9b0 : decide (0 ≤ x6_1) = true := decide_eq_true c9
                  clear c9
                  by_cases c10 : x6_1 < (l0.length : Int)
                  · rw [if_pos c10] at H
                    have c10b0 : decide (x6_1 < (l0.length : Int)) = true := decide_eq_true c10
                    clear c10
                    by_cases c11 : x9_2 < (((rd_T24 l0 x6_1).f4).length : Int)
                    · rw [if_pos c11] at H
                      have c11b0 : decide (x9_2 < (((rd_T24 l0 x6_1).f4).length : Int)) = true := decide_eq_true c11
                      clear c11
                      by_cases c12 : 0 ≤ x9_2
                      · rw [if_pos c12] at H
                        have c12b0 : decide (0 ≤ x9_2) = true := decide_eq_true c12
                        clear c12
                        by_cases c13 : ((rd_T35 ((rd_T24 l0 x6_1).f4) x9_2).f0) = 32
                        · rw [if_pos c13] at H
                          have c13b0 : (((rd_T35 ((rd_T24 l0 x6_1).f4) x9_2).f0) == 32) = true := beq_iff_eq.mpr c13
                          have c13b1 : (((rd_T35 ((rd_T24 l0 x6_1).f4) x9_2).f0) != 32) = false := bne_eq_false_iff_eq.mpr c13
                          clear c13
                          have H' := Aside0.mk H
                          clear H
                          have p297 : 0 ≤ (x6_1 : Int) := of_decide_eq_true (by first | (with_reducible assumption) | assumption)
                          have q297 : x6_1 < (l0.length : Int) := of_decide_eq_true (by first | (with_reducible assumption) | assumption)
                          obtain ⟨ad297, A297_4, c297_4, e297, hx297_0, hx297_1, hx297_2, hx297_3, hx297_4, hl297_4, hi297_4⟩ := at_T24 HR0.out x6_1 p297 q297
                          obtain rfl : ad294 = ad297 := (by injection e297)
                          replace hx297_0 := (HB.out.cell (World.block_lt_of_cell? w _ hx297_0)).trans hx297_0
                          replace hx297_1 := (HB.out.cell (World.block_lt_of_cell? w _ hx297_1)).trans hx297_1
                          replace hx297_2 := (HB.out.cell (World.block_lt_of_cell? w _ hx297_2)).trans hx297_2
                          replace hx297_3 := (HB.out.cell (World.block_lt_of_cell? w _ hx297_3)).trans hx297_3
                          replace hx297_4 := (HB.out.cell (World.block_lt_of_cell? w _ hx297_4)).trans hx297_4
                          have HR297_4 := Aside0.mk hi297_4
                          have HC297_4 := Aside0.mk hl297_4
                          clear hi297_4 hl297_4
                          replace p297 := eq_true p297
                          replace q297 := eq_true q297
                          have p298 : 0 ≤ (x6_1 : Int) := of_decide_eq_true (by first | (with_reducible assumption) | assumption)
                          have q298 : x6_1 < (l0.length : Int) := of_decide_eq_true (by first | (with_reducible assumption) | assumption)
                          obtain ⟨ad298, A298_4, c298_4, e298, hx298_0, hx298_1, hx298_2, hx298_3, hx298_4, hl298_4, hi298_4⟩ := at_T24 HR0.out x6_1 p298 q298
                          obtain rfl : ad294 = ad298 := (by injection e298)
                          replace hx298_0 := (HB.out.cell (World.block_lt_of_cell? w _ hx298_0)).trans hx298_0
                          replace hx298_1 := (HB.out.cell (World.block_lt_of_cell? w _ hx298_1)).trans hx298_1
                          replace hx298_2 := (HB.out.cell (World.block_lt_of_cell? w _ hx298_2)).trans hx298_2
                          replace hx298_3 := (HB.out.cell (World.block_lt_of_cell? w _ hx298_3)).trans hx298_3
                          replace hx298_4 := (HB.out.cell (World.block_lt_of_cell? w _ hx298_4)).trans hx298_4
                          have HR298_4 := Aside0.mk hi298_4
                          have HC298_4 := Aside0.mk hl298_4
                          clear hi298_4 hl298_4
                          replace p298 := eq_true p298
                          replace q298 := eq_true q298
                          have ea_ := Option.some.inj (hx297_4.symm.trans hx298_4)
                          injection ea_ with ea_ en_ ec_
                          subst ea_
                          subst ec_
                          clear en_
                          have p299 : 0 ≤ (x9_2 : Int) := of_decide_eq_true (by first | (with_reducible assumption) | assumption)
                          have q299 : x9_2 < (((rd_T24 l0 x6_1).f4).length : Int) := of_decide_eq_true (by first | (with_reducible assumption) | assumption)
                          obtain ⟨ad299, e299, hx299_0, hx299_1⟩ := at_T35 HR298_4.out x9_2 p299 q299
                          cases e299
                          replace hx299_0 := (HB.out.cell (World.block_lt_of_cell? w _ hx299_0)).trans hx299_0
                          replace hx299_1 := (HB.out.cell (World.block_lt_of_cell? w _ hx299_1)).trans hx299_1
                          replace p299 := eq_true p299
                          replace q299 := eq_true q299
                          obtain ⟨Ao14, co14, eo14⟩ := Kd.R_slice HO_5.out
                          subst eo14
                          go_wp2
                          repeat (go_quiet (fail); try go_wp2)
                          go_roundg k2
                          case measure => have := HK1.out; have := HK2.out; omega
                          case rel => exact ⟨(x5_2), (wrap64 (x7_2 + 1)), (wrap64 (x8_2 + 1)), (wrap64 (x9_2 + 1)), (by first | rfl | (simp; done) | (simp [*]; done)), (by first | rfl | (simp; done) | (simp [*]; done)), (by first | rfl | (simp; done) | (simp [*]; done)), H', ⟨by have := HK1.out; have := HK2.out; omega⟩, ⟨by (with_reducible repeat (first | apply Kd.R_alloc | apply Kd.R_drewN | apply Kd.R_drew)); exact HO_5.out⟩, ⟨by repeat (first | (with_reducible first | exact HB.out | apply below_alloc | apply pw_below_drewN | apply below_drew1) | exact HB.out)⟩⟩
                        · rw [if_neg c13] at H
                          have c13b0 : (((rd_T35 ((rd_T24 l0 x6_1).f4) x9_2).f0) == 32) = false := beq_eq_false_iff_ne.mpr c13
                          have c13b1 : (((rd_T35 ((rd_T24 l0 x6_1).f4) x9_2).f0) != 32) = true := bne_iff_ne.mpr c13
                          have HC15 := Aside0.mk H
                          clear H
                          have p297 : 0 ≤ (x6_1 : Int) := of_decide_eq_true (by first | (with_reducible assumption) | assumption)
                          have q297 : x6_1 < (l0.length : Int) := of_decide_eq_true (by first | (with_reducible assumption) | assumption)
                          obtain ⟨ad297, A297_4, c297_4, e297, hx297_0, hx297_1, hx297_2, hx297_3, hx297_4, hl297_4, hi297_4⟩ := at_T24 HR0.out x6_1 p297 q297
                          obtain rfl : ad294 = ad297 := (by injection e297)
                          replace hx297_0 := (HB.out.cell (World.block_lt_of_cell? w _ hx297_0)).trans hx297_0
                          replace hx297_1 := (HB.out.cell (World.block_lt_of_cell? w _ hx297_1)).trans hx297_1
                          replace hx297_2 := (HB.out.cell (World.block_lt_of_cell? w _ hx297_2)).trans hx297_2
                          replace hx297_3 := (HB.out.cell (World.block_lt_of_cell? w _ hx297_3)).trans hx297_3
                          replace hx297_4 := (HB.out.cell (World.block_lt_of_cell? w _ hx297_4)).trans hx297_4
                          have HR297_4 := Aside0.mk hi297_4
                          have HC297_4 := Aside0.mk hl297_4
                          clear hi297_4 hl297_4
                          replace p297 := eq_true p297
                          replace q297 := eq_true q297
                          have p298 : 0 ≤ (x6_1 : Int) := of_decide_eq_true (by first | (with_reducible assumption) | assumption)
                          have q298 : x6_1 < (l0.length : Int) := of_decide_eq_true (by first | (with_reducible assumption) | assumption)
                          obtain ⟨ad298, A298_4, c298_4, e298, hx298_0, hx298_1, hx298_2, hx298_3, hx298_4, hl298_4, hi298_4⟩ := at_T24 HR0.out x6_1 p298 q298
                          obtain rfl : ad294 = ad298 := (by injection e298)
                          replace hx298_0 := (HB.out.cell (World.block_lt_of_cell? w _ hx298_0)).trans hx298_0
                          replace hx298_1 := (HB.out.cell (World.block_lt_of_cell? w _ hx298_1)).trans hx298_1
                          replace hx298_2 := (HB.out.cell (World.block_lt_of_cell? w _ hx298_2)).trans hx298_2
                          replace hx298_3 := (HB.out.cell (World.block_lt_of_cell? w _ hx298_3)).trans hx298_3
                          replace hx298_4 := (HB.out.cell (World.block_lt_of_cell? w _ hx298_4)).trans hx298_4
                          have HR298_4 := Aside0.mk hi298_4
                          have HC298_4 := Aside0.mk hl298_4
                          clear hi298_4 hl298_4
                          replace p298 := eq_true p298
                          replace q298 := eq_true q298
                          have ea_ := Option.some.inj (hx297_4.symm.trans hx298_4)
                          injection ea_ with ea_ en_ ec_
                          subst ea_
                          subst ec_
                          clear en_
                          have p299 : 0 ≤ (x9_2 : Int) := of_decide_eq_true (by first | (with_reducible assumption) | assumption)
                          have q299 : x9_2 < (((rd_T24 l0 x6_1).f4).length : Int) := of_decide_eq_true (by first | (with_reducible assumption) | assumption)
                          obtain ⟨ad299, e299, hx299_0, hx299_1⟩ := at_T35 HR298_4.out x9_2 p299 q299
                          cases e299
                          replace hx299_0 := (HB.out.cell (World.block_lt_of_cell? w _ hx299_0)).trans hx299_0
                          replace hx299_1 := (HB.out.cell (World.block_lt_of_cell? w _ hx299_1)).trans hx299_1
                          replace p299 := eq_true p299
                          replace q299 := eq_true q299
                          obtain ⟨Ao16, co16, eo16⟩ := Kd.R_slice HO_5.out
                          subst eo16
                          go_upto_region 17 with (fail)
                          repeat (go_quiet (fail); go_upto_region 17 with (fail))
                          go_cut [90] (fun v90 wc => ∃ (kq : Nat) (x90_14 : Bool), v90 = .bool x90_14 ∧ Aside0 (redlineref11_Changes.j2 kq l0 x5_2 x6_1 x7_2 x8_2 x9_2 ((rd_T35 ((rd_T24 l0 x6_1).f4) x9_2).f0) (wrap64 ((x5_2.length : Int) - 1)) x90_14 = some (r1, r2)) ∧ Aside0 (kq ≤ k2) ∧ Aside0 (Kd.R k94 94 wc w.heap.size (fun _ => True) (.slice Ao16 x5_2.length co16) x5_2) ∧ Aside0 (Below w.heap.size w wc))
                          case first =>
                            have H := HC15.out
                            clear HC15
                            by_cases c17 : (wrap64 ((x5_2.length : Int) - 1)) < 0
                            · rw [if_pos c17] at H
                              have c17b0 : decide ((wrap64 ((x5_2.length : Int) - 1)) < 0) = true := decide_eq_true c17
                              clear c17
                              (first | rw [c17b0] | (simp only [i64_w, i32_w]; rw [c17b0]) | skip)
                              have H' := Aside0.mk H
                              clear H
                              go_wp2
                              repeat (go_quiet (fail); try go_wp2)
                              go_meet
                              case rel => exact ⟨_, (true), (by first | rfl | (simp; done) | (simp [*]; done)), H', ⟨by have := HK1.out; have := HK2.out; first | omega | exact Nat.le_refl _⟩, ⟨by (with_reducible repeat (first | apply Kd.R_alloc | apply Kd.R_drewN | apply Kd.R_drew)); exact HO_5.out⟩, ⟨by repeat (first | (with_reducible first | exact HB.out | apply below_alloc | apply pw_below_drewN | apply below_drew1) | exact HB.out)⟩⟩
                            · rw [if_neg c17] at H
                              have c17b0 : decide ((wrap64 ((x5_2.length : Int) - 1)) < 0) = false := decide_eq_false c17
                              clear c17
                              (first | rw [c17b0] | (simp only [i64_w, i32_w]; rw [c17b0]) | skip)
                              obtain ⟨ji18, hji18⟩ : ∃ j_ : Int, (wrap64 ((x5_2.length : Int) - 1)) = j_ := ⟨_, rfl⟩
                              replace H : (if 0 ≤ (ji18) then (if (ji18) < (x5_2.length : Int) then (if (wrap64 (((rd_T94 x5_2 (ji18)).f0) + ((rd_T94 x5_2 (ji18)).f1))) = x7_2 then (redlineref11_Changes.j2 k2 l0 x5_2 x6_1 x7_2 x8_2 x9_2 ((rd_T35 ((rd_T24 l0 x6_1).f4) x9_2).f0) ji18 ((wrap64 (((rd_T94 x5_2 (ji18)).f2) + ((rd_T94 x5_2 (ji18)).f3))) != x8_2)) else (redlineref11_Changes.j2 k2 l0 x5_2 x6_1 x7_2 x8_2 x9_2 ((rd_T35 ((rd_T24 l0 x6_1).f4) x9_2).f0) ji18 true)) else (none)) else (none)) = some (r1, r2) := by first | (rw [hji18] at H; exact H) | (simp only [hji18] at H ⊢; exact H)
                              (try rw [hji18] at c17b0)
                              have hji18w : (IntKind.i64.wrap ((x5_2.length : Int) - 1)) = ji18 := (i64_w _).trans hji18
                              by_cases c19 : 0 ≤ (ji18)
                              · rw [if_pos c19] at H
                                have c19b0 : decide (0 ≤ (ji18)) = true := decide_eq_true c19
                                clear c19
                                by_cases c20 : (ji18) < (x5_2.length : Int)
                                · rw [if_pos c20] at H
                                  have c20b0 : decide ((ji18) < (x5_2.length : Int)) = true := decide_eq_true c20
                                  clear c20
                                  by_cases c21 : (wrap64 (((rd_T94 x5_2 (ji18)).f0) + ((rd_T94 x5_2 (ji18)).f1))) = x7_2
                                  · rw [if_pos c21] at H
                                    have c21b0 : ((wrap64 (((rd_T94 x5_2 (ji18)).f0) + ((rd_T94 x5_2 (ji18)).f1))) == x7_2) = true := beq_iff_eq.mpr c21
                                    have c21b1 : ((wrap64 (((rd_T94 x5_2 (ji18)).f0) + ((rd_T94 x5_2 (ji18)).f1))) != x7_2) = false := bne_eq_false_iff_eq.mpr c21
                                    clear c21
                                    have H' := Aside0.mk H
                                    clear H
                                    have p300 : 0 ≤ ((ji18) : Int) := of_decide_eq_true (by first | (with_reducible assumption) | assumption)
                                    have q300 : (ji18) < (x5_2.length : Int) := of_decide_eq_true (by first | (with_reducible assumption) | assumption)
                                    obtain ⟨ad300, e300, hx300_0, hx300_1, hx300_2, hx300_3⟩ := at_T94 (Kd.R_reads' HO_5.out).2.2 (ji18) p300 q300
                                    cases e300
                                    replace p300 := eq_true p300
                                    replace q300 := eq_true q300
                                    have p301 : 0 ≤ ((ji18) : Int) := of_decide_eq_true (by first | (with_reducible assumption) | assumption)
                                    have q301 : (ji18) < (x5_2.length : Int) := of_decide_eq_true (by first | (with_reducible assumption) | assumption)
                                    obtain ⟨ad301, e301, hx301_0, hx301_1, hx301_2, hx301_3⟩ := at_T94 (Kd.R_reads' HO_5.out).2.2 (ji18) p301 q301
                                    obtain rfl : ad300 = ad301 := (by injection e301)
                                    replace p301 := eq_true p301
                                    replace q301 := eq_true q301
                                    have p302 : 0 ≤ ((ji18) : Int) := of_decide_eq_true (by first | (with_reducible assumption) | assumption)
                                    have q302 : (ji18) < (x5_2.length : Int) := of_decide_eq_true (by first | (with_reducible assumption) | assumption)
                                    obtain ⟨ad302, e302, hx302_0, hx302_1, hx302_2, hx302_3⟩ := at_T94 (Kd.R_reads' HO_5.out).2.2 (ji18) p302 q302
                                    obtain rfl : ad300 = ad302 := (by injection e302)
                                    replace p302 := eq_true p302
                                    replace q302 := eq_true q302
                                    have p303 : 0 ≤ ((ji18) : Int) := of_decide_eq_true (by first | (with_reducible assumption) | assumption)
                                    have q303 : (ji18) < (x5_2.length : Int) := of_decide_eq_true (by first | (with_reducible assumption) | assumption)
                                    obtain ⟨ad303, e303, hx303_0, hx303_1, hx303_2, hx303_3⟩ := at_T94 (Kd.R_reads' HO_5.out).2.2 (ji18) p303 q303
                                    obtain rfl : ad300 = ad303 := (by injection e303)
                                    replace p303 := eq_true p303
                                    replace q303 := eq_true q303
                                    go_wp2
                                    repeat (go_quiet (fail); try go_wp2)
                                    rw [← hji18]
                                    go_meet
                                    case rel => exact ⟨_, (((wrap64 (((rd_T94 x5_2 (ji18)).f2) + ((rd_T94 x5_2 (ji18)).f3))) != x8_2)), (by first | rfl | (simp; done) | (simp only [← hji18] <;> (first | rfl | simp)) | (simp [*]; done)), (by rw [hji18]; exact H'), ⟨by have := HK1.out; have := HK2.out; first | omega | exact Nat.le_refl _⟩, ⟨by (with_reducible repeat (first | apply Kd.R_alloc | apply Kd.R_drewN | apply Kd.R_drew)); exact HO_5.out⟩, ⟨by repeat (first | (with_reducible first | exact HB.out | apply below_alloc | apply pw_below_drewN | apply below_drew1) | exact HB.out)⟩⟩
                                  · rw [if_neg c21] at H
                                    have c21b0 : ((wrap64 (((rd_T94 x5_2 (ji18)).f0) + ((rd_T94 x5_2 (ji18)).f1))) == x7_2) = false := beq_eq_false_iff_ne.mpr c21
                                    have c21b1 : ((wrap64 (((rd_T94 x5_2 (ji18)).f0) + ((rd_T94 x5_2 (ji18)).f1))) != x7_2) = true := bne_iff_ne.mpr c21
                                    have H' := Aside0.mk H
                                    clear H
                                    have p300 : 0 ≤ ((ji18) : Int) := of_decide_eq_true (by first | (with_reducible assumption) | assumption)
                                    have q300 : (ji18) < (x5_2.length : Int) := of_decide_eq_true (by first | (with_reducible assumption) | assumption)
                                    obtain ⟨ad300, e300, hx300_0, hx300_1, hx300_2, hx300_3⟩ := at_T94 (Kd.R_reads' HO_5.out).2.2 (ji18) p300 q300
                                    cases e300
                                    replace p300 := eq_true p300
                                    replace q300 := eq_true q300
                                    have p301 : 0 ≤ ((ji18) : Int) := of_decide_eq_true (by first | (with_reducible assumption) | assumption)
                                    have q301 : (ji18) < (x5_2.length : Int) := of_decide_eq_true (by first | (with_reducible assumption) | assumption)
                                    obtain ⟨ad301, e301, hx301_0, hx301_1, hx301_2, hx301_3⟩ := at_T94 (Kd.R_reads' HO_5.out).2.2 (ji18) p301 q301
                                    obtain rfl : ad300 = ad301 := (by injection e301)
                                    replace p301 := eq_true p301
                                    replace q301 := eq_true q301
                                    go_wp2
                                    repeat (go_quiet (fail); try go_wp2)
                                    rw [← hji18]
                                    go_meet
                                    case rel => exact ⟨_, (true), (by first | rfl | (simp; done) | (simp [*]; done)), (by rw [hji18]; exact H'), ⟨by have := HK1.out; have := HK2.out; first | omega | exact Nat.le_refl _⟩, ⟨by (with_reducible repeat (first | apply Kd.R_alloc | apply Kd.R_drewN | apply Kd.R_drew)); exact HO_5.out⟩, ⟨by repeat (first | (with_reducible first | exact HB.out | apply below_alloc | apply pw_below_drewN | apply below_drew1) | exact HB.out)⟩⟩
                                · rw [if_neg c20] at H
                                  exact absurd H (by simp)
                              · rw [if_neg c19] at H
                                exact absurd H (by simp)
                          case rest =>
                            clear HC15
                            try clear c1
                            try clear c2
                            try clear p2
                            try clear q2
                            try clear hx2
                            try clear c3
                            try clear c3b0
                            try clear c3b1
                            try clear p3
                            try clear q3
                            try clear hx3
                            try clear c5
                            try clear c5b0
                            try clear c6
                            try clear c6b0
                            try clear p6
                            try clear c9
                            try clear c9b0
                            try clear c10
                            try clear c10b0
                            try clear c11
                            try clear c11b0
                            try clear c12
                            try clear c12b0
                            try clear c13
                            try clear c13b0
                            try clear c13b1
                            try clear c17
                            try clear c17b0
                            try clear c19
                            try clear c19b0
                            try clear c20
                            try clear c20b0
                            try clear c21
                            try clear c21b0
                            try clear c21b1
                            try clear hx294_0
                            try clear hx294_1
                            try clear hx294_2
                            try clear hx294_3
                            try clear hx294_4
                            try clear hx297_0
                            try clear hx297_1
                            try clear hx297_2
                            try clear hx297_3
                            try clear hx297_4
                            try clear hx298_0
                            try clear hx298_1
                            try clear hx298_2
                            try clear hx298_3
                            try clear hx298_4
                            try clear hx299_0
                            try clear hx299_1
                            try clear hx300_0
                            try clear hx300_1
                            try clear hx300_2
                            try clear hx300_3
                            try clear hx301_0
                            try clear hx301_1
                            try clear hx301_2
                            try clear hx301_3
                            try clear hx302_0
                            try clear hx302_1
                            try clear hx302_2
                            try clear hx302_3
                            try clear hx303_0
                            try clear hx303_1
                            try clear hx303_2
                            try clear hx303_3
                            try clear p2
                            try clear p294
                            try clear p297
                            try clear p298
                            try clear p299
                            try clear p300
                            try clear p301
                            try clear p302
                            try clear p303
                            try clear q2
                            try clear q294
                            try clear q297
                            try clear q298
                            try clear q299
                            try clear q300
                            try clear q301
                            try clear q302
                            try clear q303
                            obtain ⟨kq, x90_14, rfl, HA, HJ14, HO_5, HB⟩ := hcut
                            cases kq with
                            | zero => exact absurd HA.out (by simp [redlineref11_Changes.j2])
                            | succ kj14 =>
                              have H := HA.out
                              clear HA
                              simp only [redlineref11_Changes.j2] at H
                              by_cases c22 : x90_14 = true
                              · subst c22
                                have H1 : (if x5_2.length < 4398046511104 then ((some (x5_2 ++ [(⟨x7_2, 0, x8_2, 0⟩ : S94)] : List (S94))).bind fun y304 => (if ((rd_T35 ((rd_T24 l0 x6_1).f4) x9_2).f0) = 45 then (if 0 ≤ (wrap64 ((wrap64 ((x5_2.length : Int) - 1)) + 1)) then (if (wrap64 ((wrap64 ((x5_2.length : Int) - 1)) + 1)) < (y304.length : Int) then (redlineref11_Changes.l1 kj14 l0 (y304.set ((wrap64 ((wrap64 ((x5_2.length : Int) - 1)) + 1)) : Int).toNat (⟨(rd_T94 y304 (wrap64 ((wrap64 ((x5_2.length : Int) - 1)) + 1))).f0, wrap64 (((rd_T94 y304 (wrap64 ((wrap64 ((x5_2.length : Int) - 1)) + 1))).f1) + 1), (rd_T94 y304 (wrap64 ((wrap64 ((x5_2.length : Int) - 1)) + 1))).f2, (rd_T94 y304 (wrap64 ((wrap64 ((x5_2.length : Int) - 1)) + 1))).f3⟩ : S94)) x6_1 (wrap64 (x7_2 + 1)) x8_2 (wrap64 (x9_2 + 1))) else (none)) else (none)) else (if 0 ≤ (wrap64 ((wrap64 ((x5_2.length : Int) - 1)) + 1)) then (if (wrap64 ((wrap64 ((x5_2.length : Int) - 1)) + 1)) < (y304.length : Int) then (redlineref11_Changes.l1 kj14 l0 (y304.set ((wrap64 ((wrap64 ((x5_2.length : Int) - 1)) + 1)) : Int).toNat (⟨(rd_T94 y304 (wrap64 ((wrap64 ((x5_2.length : Int) - 1)) + 1))).f0, (rd_T94 y304 (wrap64 ((wrap64 ((x5_2.length : Int) - 1)) + 1))).f1, (rd_T94 y304 (wrap64 ((wrap64 ((x5_2.length : Int) - 1)) + 1))).f2, wrap64 (((rd_T94 y304 (wrap64 ((wrap64 ((x5_2.length : Int) - 1)) + 1))).f3) + 1)⟩ : S94)) x6_1 x7_2 (wrap64 (x8_2 + 1)) (wrap64 (x9_2 + 1))) else (none)) else (none)))) else (none)) = some (r1, r2) := by rw [if_pos rfl] at H; exact H
                                clear H
                                have H := H1
                                clear H1
                                by_cases c23 : x5_2.length < 4398046511104
                                · rw [if_pos c23] at H
                                  have LMc23 := Aside0.mk c23
                                  clear c23
                                  obtain ⟨y304, hy304⟩ : ∃ y_ : List (S94), y_ = (x5_2 ++ [(⟨x7_2, 0, x8_2, 0⟩ : S94)]) := ⟨_, rfl⟩
                                  replace H : (if ((rd_T35 ((rd_T24 l0 x6_1).f4) x9_2).f0) = 45 then (if 0 ≤ (wrap64 ((wrap64 ((x5_2.length : Int) - 1)) + 1)) then (if (wrap64 ((wrap64 ((x5_2.length : Int) - 1)) + 1)) < (y304.length : Int) then (redlineref11_Changes.l1 kj14 l0 (y304.set ((wrap64 ((wrap64 ((x5_2.length : Int) - 1)) + 1)) : Int).toNat (⟨(rd_T94 y304 (wrap64 ((wrap64 ((x5_2.length : Int) - 1)) + 1))).f0, wrap64 (((rd_T94 y304 (wrap64 ((wrap64 ((x5_2.length : Int) - 1)) + 1))).f1) + 1), (rd_T94 y304 (wrap64 ((wrap64 ((x5_2.length : Int) - 1)) + 1))).f2, (rd_T94 y304 (wrap64 ((wrap64 ((x5_2.length : Int) - 1)) + 1))).f3⟩ : S94)) x6_1 (wrap64 (x7_2 + 1)) x8_2 (wrap64 (x9_2 + 1))) else (none)) else (none)) else (if 0 ≤ (wrap64 ((wrap64 ((x5_2.length : Int) - 1)) + 1)) then (if (wrap64 ((wrap64 ((x5_2.length : Int) - 1)) + 1)) < (y304.length : Int) then (redlineref11_Changes.l1 kj14 l0 (y304.set ((wrap64 ((wrap64 ((x5_2.length : Int) - 1)) + 1)) : Int).toNat (⟨(rd_T94 y304 (wrap64 ((wrap64 ((x5_2.length : Int) - 1)) + 1))).f0, (rd_T94 y304 (wrap64 ((wrap64 ((x5_2.length : Int) - 1)) + 1))).f1, (rd_T94 y304 (wrap64 ((wrap64 ((x5_2.length : Int) - 1)) + 1))).f2, wrap64 (((rd_T94 y304 (wrap64 ((wrap64 ((x5_2.length : Int) - 1)) + 1))).f3) + 1)⟩ : S94)) x6_1 x7_2 (wrap64 (x8_2 + 1)) (wrap64 (x9_2 + 1))) else (none)) else (none))) = some (r1, r2) := by first | (rw [hy304]; with_reducible exact H) | (have H2_ := (Option.bind_some _ _).symm.trans H; rw [hy304]; with_reducible exact H2_) | (have H2_ := (Option.bind_some _ _).symm.trans H; with_reducible exact H2_) | with_reducible exact H | (rw [hy304]; exact H) | exact H
                                  have Ny304 := Aside0.mk hy304
                                  clear hy304
                                  by_cases c24 : ((rd_T35 ((rd_T24 l0 x6_1).f4) x9_2).f0) = 45
                                  · rw [if_pos c24] at H
                                    have c24b0 : (((rd_T35 ((rd_T24 l0 x6_1).f4) x9_2).f0) == 45) = true := beq_iff_eq.mpr c24
                                    have c24b1 : (((rd_T35 ((rd_T24 l0 x6_1).f4) x9_2).f0) != 45) = false := bne_eq_false_iff_eq.mpr c24
                                    clear c24
                                    obtain ⟨ji25, hji25⟩ : ∃ j_ : Int, (wrap64 ((wrap64 ((x5_2.length : Int) - 1)) + 1)) = j_ := ⟨_, rfl⟩
                                    replace H : (if 0 ≤ (ji25) then (if (ji25) < (y304.length : Int) then (redlineref11_Changes.l1 kj14 l0 (y304.set ((ji25) : Int).toNat (⟨(rd_T94 y304 (ji25)).f0, wrap64 (((rd_T94 y304 (ji25)).f1) + 1), (rd_T94 y304 (ji25)).f2, (rd_T94 y304 (ji25)).f3⟩ : S94)) x6_1 (wrap64 (x7_2 + 1)) x8_2 (wrap64 (x9_2 + 1))) else (none)) else (none)) = some (r1, r2) := by first | (rw [hji25] at H; exact H) | (simp only [hji25] at H ⊢; exact H)
                                    have hji25w : (IntKind.i64.wrap ((wrap64 ((x5_2.length : Int) - 1)) + 1)) = ji25 := (i64_w _).trans hji25
                                    by_cases c26 : 0 ≤ (ji25)
                                    · rw [if_pos c26] at H
                                      have c26b0 : decide (0 ≤ (ji25)) = true := decide_eq_true c26
                                      clear c26
                                      by_cases c27 : (ji25) < (y304.length : Int)
                                      · rw [if_pos c27] at H
                                        have c27b0 : decide ((ji25) < (y304.length : Int)) = true := decide_eq_true c27
                                        clear c27
                                        obtain ⟨y308, hy308⟩ : ∃ y_ : List (S94), y_ = (y304.set ((ji25) : Int).toNat (⟨(rd_T94 y304 (ji25)).f0, wrap64 (((rd_T94 y304 (ji25)).f1) + 1), (rd_T94 y304 (ji25)).f2, (rd_T94 y304 (ji25)).f3⟩ : S94)) := ⟨_, rfl⟩
                                        replace H : (redlineref11_Changes.l1 kj14 l0 y308 x6_1 (wrap64 (x7_2 + 1)) x8_2 (wrap64 (x9_2 + 1))) = some (r1, r2) := by first | (rw [hy308]; with_reducible exact H) | (have H2_ := (Option.bind_some _ _).symm.trans H; rw [hy308]; with_reducible exact H2_) | (have H2_ := (Option.bind_some _ _).symm.trans H; with_reducible exact H2_) | with_reducible exact H | (rw [hy308]; exact H) | exact H
                                        have Ny308 := Aside0.mk hy308
                                        clear hy308
                                        have H' := Aside0.mk H
                                        clear H
                                        go_wp2_with (first | ((with_reducible refine gate_builtin (b := .append) (xs := #[.tmp 91, .tmp 95]) rfl ?_); at_builtin; refine Kd.R_append k94 (w0 := w) w.heap.size rfl (.tmp 91) (.tmp 95) 37 94 (.agg #[(.int .i64 0), (.int .i64 0), (.int .i64 0), (.int .i64 0)]) 32 rfl Try.underlying37 info94 rfl (by decide) (by omega) (.slice Ao16 x5_2.length co16) x5_2 (⟨x7_2, 0, x8_2, 0⟩ : S94) [.int .i64 x7_2, .int .i64 0, .int .i64 x8_2, .int .i64 0] (fun _ => True) (fun _ => False) rfl rfl ?aP (fun _ hk => hk.elim) ?aF ?aO ?aB ?aS ?aL ?_; (case aP => exact k94_mkM _ _ _ (⟨x7_2, 0, x8_2, 0⟩ : S94)); (case aB => exact (by repeat (first | (with_reducible first | exact HB.out | apply below_alloc | apply pw_below_drewN | apply below_drew1) | exact HB.out))); (case aF => exact (fun _ _ => trivial)); (case aO => exact (by (with_reducible repeat (first | apply Kd.R_alloc | apply Kd.R_drewN | apply Kd.R_drew)); exact HO_5.out)); (case aS => exact (below_size (by repeat (first | (with_reducible first | exact HB.out | apply below_alloc | apply pw_below_drewN | apply below_drew1) | exact HB.out)))); (case aL => have := LMc23.out; omega); intro v305 w29 ho hb hg hat; rw [← Ny304.out] at ho; have n0_ := Aside0.mk (hb); have n1_ := Aside0.mk (ho); clear HB; clear HO_5; have HB := n0_; have HO306 := n1_; clear n0_ n1_; clear ho hb hg hat; obtain ⟨Ao30, co30, eo30⟩ := Kd.R_slice HO306.out; subst eo30; have p307 : 0 ≤ ((ji25) : Int) := of_decide_eq_true (by first | (with_reducible assumption) | assumption); have q307 : (ji25) < (y304.length : Int) := of_decide_eq_true (by first | (with_reducible assumption) | assumption); obtain ⟨ad307, e307, hx307_0, hx307_1, hx307_2, hx307_3⟩ := at_T94 (Kd.R_reads' HO306.out).2.2 (ji25) p307 q307; cases e307; replace p307 := eq_true p307; replace q307 := eq_true q307; have p28 : 0 ≤ ((ji25) : Int) := of_decide_eq_true (by first | (with_reducible assumption) | assumption); have q28 : ((ji25) : Int) < ((y304.length : Int) : Int) := of_decide_eq_true (by first | (with_reducible assumption) | assumption); obtain ⟨go28, co28, eo28, gb28, gl28, cl28, HG28⟩ := Kd.R_form HO306.out (by omega); (first | cases eo28 | (injection eo28 with ea_ en_ ec_; (first | subst ea_ | (injection ea_ with ea_; subst ea_)); subst ec_; clear en_)); have GB28 := Aside0.mk gb28; have GG28 := Aside0.mk HG28; clear gb28 gl28 HG28; (first | simp only [add_plain] at hx307_0 | skip); (first | simp only [add_plain] at hx307_1 | skip); (first | simp only [add_plain] at hx307_2 | skip); (first | simp only [add_plain] at hx307_3 | skip); obtain ⟨ce28, hcl28, hM28, hcc28, hfr28⟩ := Kd.R_elem HO306.out z94 ((ji25) : Int) p28 q28; obtain rfl := k94_openM hM28; have hx28_0 : w29.cell? ⟨go28, ((ji25) : Int).toNat * 4, none⟩ = some (.int .i64 ((rd_T94 y304 (ji25)).f0)) := hcc28 0 _ rfl; have hx28_1 : w29.cell? ⟨go28, ((ji25) : Int).toNat * 4 + 1, none⟩ = some (.int .i64 ((rd_T94 y304 (ji25)).f1)) := hcc28 1 _ rfl; have hx28_2 : w29.cell? ⟨go28, ((ji25) : Int).toNat * 4 + 2, none⟩ = some (.int .i64 ((rd_T94 y304 (ji25)).f2)) := hcc28 2 _ rfl; have hx28_3 : w29.cell? ⟨go28, ((ji25) : Int).toNat * 4 + 3, none⟩ = some (.int .i64 ((rd_T94 y304 (ji25)).f3)) := hcc28 3 _ rfl; have hf28_0 : w29.frozen? ⟨go28, ((ji25) : Int).toNat * 4, none⟩ = false := hfr28 0; have hf28_1 : w29.frozen? ⟨go28, ((ji25) : Int).toNat * 4 + 1, none⟩ = false := hfr28 1; have hf28_2 : w29.frozen? ⟨go28, ((ji25) : Int).toNat * 4 + 2, none⟩ = false := hfr28 2; have hf28_3 : w29.frozen? ⟨go28, ((ji25) : Int).toNat * 4 + 3, none⟩ = false := hfr28 3; clear hcl28 hcc28 hfr28 hM28; replace p28 := eq_true p28; replace q28 := eq_true q28; have HX31 := Aside0.mk (show Kd.R k94 94 w29 w.heap.size (fun _ => True) (.slice (some ⟨go28, 0, none⟩) y304.length co30) y304 from (by (with_reducible repeat (first | apply Kd.R_alloc | apply Kd.R_drewN | apply Kd.R_drew)); exact HO306.out)); obtain ⟨ce31, hcl31, hM31, hcc31, hfr31⟩ := Kd.R_elem HX31.out z94 ((ji25) : Int) (of_decide_eq_true (by first | (with_reducible assumption) | assumption)) (by have h_ : ((ji25) : Int) < ((y304.length : Int) : Int) := of_decide_eq_true (by first | (with_reducible assumption) | assumption); first | exact h_ | (have e_ := (Kd.R_reads' HO306.out).1; omega) | simpa using h_); obtain rfl := k94_openM hM31; have HP31 := Kd.R_seg HX31.out ((ji25) : Int) (of_decide_eq_true (by first | (with_reducible assumption) | assumption)) (by have h_ : ((ji25) : Int) < ((y304.length : Int) : Int) := of_decide_eq_true (by first | (with_reducible assumption) | assumption); first | exact h_ | (have e_ := (Kd.R_reads' HO306.out).1; omega) | simpa using h_) (seg := [.int .i64 (wrap64 (((rd_T94 y304 (ji25)).f1) + 1))]) (j := 1) hcl31 hcc31 (show 2 ≤ 4 from by decide) (x' := (⟨(rd_T94 y304 (ji25)).f0, wrap64 (((rd_T94 y304 (ji25)).f1) + 1), (rd_T94 y304 (ji25)).f2, (rd_T94 y304 (ji25)).f3⟩ : S94)) (k94_mkM _ _ _ (⟨(rd_T94 y304 (ji25)).f0, wrap64 (((rd_T94 y304 (ji25)).f1) + 1), (rd_T94 y304 (ji25)).f2, (rd_T94 y304 (ji25)).f3⟩ : S94) ) (fun _ hk => hk); have hx31_1 := hcc31 1 _ rfl; (try simp only [show (k94).sz = 4 from rfl, Nat.mul_one, Nat.add_zero] at hx31_1); have hf31_1 := hfr31 1; (try simp only [show (k94).sz = 4 from rfl, Nat.mul_one, Nat.add_zero] at hf31_1); clear hcl31 hcc31 hfr31 hM31) | ((with_reducible refine gate_store (t := 3) (p := 108) rfl ?_); (try (rw [drewN_self w29]; generalize hq_ : World.drewN w29 _ = w29; have n0_ := Aside0.mk (Kd.R_at hq_ HO306.out); have n1_ := Aside0.mk (below_at hq_ HB.out); clear hq_ HO306 HB; have HO306 := n0_; have HB := n1_; clear n0_ n1_; (try (have HX31 := Aside0.mk (show Kd.R k94 94 w29 w.heap.size (fun _ => True) (.slice (some ⟨go28, 0, none⟩) y304.length co30) y304 from (by (with_reducible repeat (first | apply Kd.R_alloc | apply Kd.R_drewN | apply Kd.R_drew)); exact HO306.out)))); (try (obtain ⟨ce31, hcl31, hM31, hcc31, hfr31⟩ := Kd.R_elem HX31.out z94 ((ji25) : Int) (of_decide_eq_true (by first | (with_reducible assumption) | assumption)) (by have h_ : ((ji25) : Int) < ((y304.length : Int) : Int) := of_decide_eq_true (by first | (with_reducible assumption) | assumption); first | exact h_ | (have e_ := (Kd.R_reads' HO306.out).1; omega) | simpa using h_))); (try (obtain rfl := k94_openM hM31)); (try (have HP31 := Kd.R_seg HX31.out ((ji25) : Int) (of_decide_eq_true (by first | (with_reducible assumption) | assumption)) (by have h_ : ((ji25) : Int) < ((y304.length : Int) : Int) := of_decide_eq_true (by first | (with_reducible assumption) | assumption); first | exact h_ | (have e_ := (Kd.R_reads' HO306.out).1; omega) | simpa using h_) (seg := [.int .i64 (wrap64 (((rd_T94 y304 (ji25)).f1) + 1))]) (j := 1) hcl31 hcc31 (show 2 ≤ 4 from by decide) (x' := (⟨(rd_T94 y304 (ji25)).f0, wrap64 (((rd_T94 y304 (ji25)).f1) + 1), (rd_T94 y304 (ji25)).f2, (rd_T94 y304 (ji25)).f3⟩ : S94)) (k94_mkM _ _ _ (⟨(rd_T94 y304 (ji25)).f0, wrap64 (((rd_T94 y304 (ji25)).f1) + 1), (rd_T94 y304 (ji25)).f2, (rd_T94 y304 (ji25)).f3⟩ : S94) ) (fun _ hk => hk))); (try (have hx31_1 := hcc31 1 _ rfl)); (try (try simp only [show (k94).sz = 4 from rfl, Nat.mul_one, Nat.add_zero] at hx31_1)); (try (have hf31_1 := hfr31 1)); (try (try simp only [show (k94).sz = 4 from rfl, Nat.mul_one, Nat.add_zero] at hf31_1)); (try (clear hcl31 hcc31 hfr31 hM31)))); refine store_event (t := 3) (p := 108) (v := ?vo_w32) (w1 := (w29.setCell ⟨go28, ((ji25) : Int).toNat * 4 + 1, none⟩ (.int .i64 (wrap64 (((rd_T94 y304 (ji25)).f1) + 1))))) ?hg ?ho ?hn ?hr ?_; (case ho => rfl); (case hg => rfl); (case hn => rfl); (case hr => first | (go_simp; done) | (go_simp; rfl)); intro w32 hw; have hg : w29.grownBy w32 (some go28) := (by rw [hw]; exact HP31.2); have hp_ : Kd.R k94 94 w32 w.heap.size (fun _ => True) (.slice (some ⟨go28, 0, none⟩) y304.length co30) y308 := (by rw [hw, Ny308.out]; exact HP31.1); clear HP31; have n0_ := Aside0.mk (hp_); have n1_ := Aside0.mk ((by rw [hw]; exact below_set (HB.out) GB28.out : Below w.heap.size w w32)); clear HO306; clear HB; have HO306 := n0_; have HB := n1_; clear n0_ n1_; clear hg hw hp_))
                                        repeat (go_quiet (first | ((with_reducible refine gate_builtin (b := .append) (xs := #[.tmp 91, .tmp 95]) rfl ?_); at_builtin; refine Kd.R_append k94 (w0 := w) w.heap.size rfl (.tmp 91) (.tmp 95) 37 94 (.agg #[(.int .i64 0), (.int .i64 0), (.int .i64 0), (.int .i64 0)]) 32 rfl Try.underlying37 info94 rfl (by decide) (by omega) (.slice Ao16 x5_2.length co16) x5_2 (⟨x7_2, 0, x8_2, 0⟩ : S94) [.int .i64 x7_2, .int .i64 0, .int .i64 x8_2, .int .i64 0] (fun _ => True) (fun _ => False) rfl rfl ?aP (fun _ hk => hk.elim) ?aF ?aO ?aB ?aS ?aL ?_; (case aP => exact k94_mkM _ _ _ (⟨x7_2, 0, x8_2, 0⟩ : S94)); (case aB => exact (by repeat (first | (with_reducible first | exact HB.out | apply below_alloc | apply pw_below_drewN | apply below_drew1) | exact HB.out))); (case aF => exact (fun _ _ => trivial)); (case aO => exact (by (with_reducible repeat (first | apply Kd.R_alloc | apply Kd.R_drewN | apply Kd.R_drew)); exact HO_5.out)); (case aS => exact (below_size (by repeat (first | (with_reducible first | exact HB.out | apply below_alloc | apply pw_below_drewN | apply below_drew1) | exact HB.out)))); (case aL => have := LMc23.out; omega); intro v305 w29 ho hb hg hat; rw [← Ny304.out] at ho; have n0_ := Aside0.mk (hb); have n1_ := Aside0.mk (ho); clear HB; clear HO_5; have HB := n0_; have HO306 := n1_; clear n0_ n1_; clear ho hb hg hat; obtain ⟨Ao30, co30, eo30⟩ := Kd.R_slice HO306.out; subst eo30; have p307 : 0 ≤ ((ji25) : Int) := of_decide_eq_true (by first | (with_reducible assumption) | assumption); have q307 : (ji25) < (y304.length : Int) := of_decide_eq_true (by first | (with_reducible assumption) | assumption); obtain ⟨ad307, e307, hx307_0, hx307_1, hx307_2, hx307_3⟩ := at_T94 (Kd.R_reads' HO306.out).2.2 (ji25) p307 q307; cases e307; replace p307 := eq_true p307; replace q307 := eq_true q307; have p28 : 0 ≤ ((ji25) : Int) := of_decide_eq_true (by first | (with_reducible assumption) | assumption); have q28 : ((ji25) : Int) < ((y304.length : Int) : Int) := of_decide_eq_true (by first | (with_reducible assumption) | assumption); obtain ⟨go28, co28, eo28, gb28, gl28, cl28, HG28⟩ := Kd.R_form HO306.out (by omega); (first | cases eo28 | (injection eo28 with ea_ en_ ec_; (first | subst ea_ | (injection ea_ with ea_; subst ea_)); subst ec_; clear en_)); have GB28 := Aside0.mk gb28; have GG28 := Aside0.mk HG28; clear gb28 gl28 HG28; (first | simp only [add_plain] at hx307_0 | skip); (first | simp only [add_plain] at hx307_1 | skip); (first | simp only [add_plain] at hx307_2 | skip); (first | simp only [add_plain] at hx307_3 | skip); obtain ⟨ce28, hcl28, hM28, hcc28, hfr28⟩ := Kd.R_elem HO306.out z94 ((ji25) : Int) p28 q28; obtain rfl := k94_openM hM28; have hx28_0 : w29.cell? ⟨go28, ((ji25) : Int).toNat * 4, none⟩ = some (.int .i64 ((rd_T94 y304 (ji25)).f0)) := hcc28 0 _ rfl; have hx28_1 : w29.cell? ⟨go28, ((ji25) : Int).toNat * 4 + 1, none⟩ = some (.int .i64 ((rd_T94 y304 (ji25)).f1)) := hcc28 1 _ rfl; have hx28_2 : w29.cell? ⟨go28, ((ji25) : Int).toNat * 4 + 2, none⟩ = some (.int .i64 ((rd_T94 y304 (ji25)).f2)) := hcc28 2 _ rfl; have hx28_3 : w29.cell? ⟨go28, ((ji25) : Int).toNat * 4 + 3, none⟩ = some (.int .i64 ((rd_T94 y304 (ji25)).f3)) := hcc28 3 _ rfl; have hf28_0 : w29.frozen? ⟨go28, ((ji25) : Int).toNat * 4, none⟩ = false := hfr28 0; have hf28_1 : w29.frozen? ⟨go28, ((ji25) : Int).toNat * 4 + 1, none⟩ = false := hfr28 1; have hf28_2 : w29.frozen? ⟨go28, ((ji25) : Int).toNat * 4 + 2, none⟩ = false := hfr28 2; have hf28_3 : w29.frozen? ⟨go28, ((ji25) : Int).toNat * 4 + 3, none⟩ = false := hfr28 3; clear hcl28 hcc28 hfr28 hM28; replace p28 := eq_true p28; replace q28 := eq_true q28; have HX31 := Aside0.mk (show Kd.R k94 94 w29 w.heap.size (fun _ => True) (.slice (some ⟨go28, 0, none⟩) y304.length co30) y304 from (by (with_reducible repeat (first | apply Kd.R_alloc | apply Kd.R_drewN | apply Kd.R_drew)); exact HO306.out)); obtain ⟨ce31, hcl31, hM31, hcc31, hfr31⟩ := Kd.R_elem HX31.out z94 ((ji25) : Int) (of_decide_eq_true (by first | (with_reducible assumption) | assumption)) (by have h_ : ((ji25) : Int) < ((y304.length : Int) : Int) := of_decide_eq_true (by first | (with_reducible assumption) | assumption); first | exact h_ | (have e_ := (Kd.R_reads' HO306.out).1; omega) | simpa using h_); obtain rfl := k94_openM hM31; have HP31 := Kd.R_seg HX31.out ((ji25) : Int) (of_decide_eq_true (by first | (with_reducible assumption) | assumption)) (by have h_ : ((ji25) : Int) < ((y304.length : Int) : Int) := of_decide_eq_true (by first | (with_reducible assumption) | assumption); first | exact h_ | (have e_ := (Kd.R_reads' HO306.out).1; omega) | simpa using h_) (seg := [.int .i64 (wrap64 (((rd_T94 y304 (ji25)).f1) + 1))]) (j := 1) hcl31 hcc31 (show 2 ≤ 4 from by decide) (x' := (⟨(rd_T94 y304 (ji25)).f0, wrap64 (((rd_T94 y304 (ji25)).f1) + 1), (rd_T94 y304 (ji25)).f2, (rd_T94 y304 (ji25)).f3⟩ : S94)) (k94_mkM _ _ _ (⟨(rd_T94 y304 (ji25)).f0, wrap64 (((rd_T94 y304 (ji25)).f1) + 1), (rd_T94 y304 (ji25)).f2, (rd_T94 y304 (ji25)).f3⟩ : S94) ) (fun _ hk => hk); have hx31_1 := hcc31 1 _ rfl; (try simp only [show (k94).sz = 4 from rfl, Nat.mul_one, Nat.add_zero] at hx31_1); have hf31_1 := hfr31 1; (try simp only [show (k94).sz = 4 from rfl, Nat.mul_one, Nat.add_zero] at hf31_1); clear hcl31 hcc31 hfr31 hM31) | ((with_reducible refine gate_store (t := 3) (p := 108) rfl ?_); (try (rw [drewN_self w29]; generalize hq_ : World.drewN w29 _ = w29; have n0_ := Aside0.mk (Kd.R_at hq_ HO306.out); have n1_ := Aside0.mk (below_at hq_ HB.out); clear hq_ HO306 HB; have HO306 := n0_; have HB := n1_; clear n0_ n1_; (try (have HX31 := Aside0.mk (show Kd.R k94 94 w29 w.heap.size (fun _ => True) (.slice (some ⟨go28, 0, none⟩) y304.length co30) y304 from (by (with_reducible repeat (first | apply Kd.R_alloc | apply Kd.R_drewN | apply Kd.R_drew)); exact HO306.out)))); (try (obtain ⟨ce31, hcl31, hM31, hcc31, hfr31⟩ := Kd.R_elem HX31.out z94 ((ji25) : Int) (of_decide_eq_true (by first | (with_reducible assumption) | assumption)) (by have h_ : ((ji25) : Int) < ((y304.length : Int) : Int) := of_decide_eq_true (by first | (with_reducible assumption) | assumption); first | exact h_ | (have e_ := (Kd.R_reads' HO306.out).1; omega) | simpa using h_))); (try (obtain rfl := k94_openM hM31)); (try (have HP31 := Kd.R_seg HX31.out ((ji25) : Int) (of_decide_eq_true (by first | (with_reducible assumption) | assumption)) (by have h_ : ((ji25) : Int) < ((y304.length : Int) : Int) := of_decide_eq_true (by first | (with_reducible assumption) | assumption); first | exact h_ | (have e_ := (Kd.R_reads' HO306.out).1; omega) | simpa using h_) (seg := [.int .i64 (wrap64 (((rd_T94 y304 (ji25)).f1) + 1))]) (j := 1) hcl31 hcc31 (show 2 ≤ 4 from by decide) (x' := (⟨(rd_T94 y304 (ji25)).f0, wrap64 (((rd_T94 y304 (ji25)).f1) + 1), (rd_T94 y304 (ji25)).f2, (rd_T94 y304 (ji25)).f3⟩ : S94)) (k94_mkM _ _ _ (⟨(rd_T94 y304 (ji25)).f0, wrap64 (((rd_T94 y304 (ji25)).f1) + 1), (rd_T94 y304 (ji25)).f2, (rd_T94 y304 (ji25)).f3⟩ : S94) ) (fun _ hk => hk))); (try (have hx31_1 := hcc31 1 _ rfl)); (try (try simp only [show (k94).sz = 4 from rfl, Nat.mul_one, Nat.add_zero] at hx31_1)); (try (have hf31_1 := hfr31 1)); (try (try simp only [show (k94).sz = 4 from rfl, Nat.mul_one, Nat.add_zero] at hf31_1)); (try (clear hcl31 hcc31 hfr31 hM31)))); refine store_event (t := 3) (p := 108) (v := ?vo_w32) (w1 := (w29.setCell ⟨go28, ((ji25) : Int).toNat * 4 + 1, none⟩ (.int .i64 (wrap64 (((rd_T94 y304 (ji25)).f1) + 1))))) ?hg ?ho ?hn ?hr ?_; (case ho => rfl); (case hg => rfl); (case hn => rfl); (case hr => first | (go_simp; done) | (go_simp; rfl)); intro w32 hw; have hg : w29.grownBy w32 (some go28) := (by rw [hw]; exact HP31.2); have hp_ : Kd.R k94 94 w32 w.heap.size (fun _ => True) (.slice (some ⟨go28, 0, none⟩) y304.length co30) y308 := (by rw [hw, Ny308.out]; exact HP31.1); clear HP31; have n0_ := Aside0.mk (hp_); have n1_ := Aside0.mk ((by rw [hw]; exact below_set (HB.out) GB28.out : Below w.heap.size w w32)); clear HO306; clear HB; have HO306 := n0_; have HB := n1_; clear n0_ n1_; clear hg hw hp_)); try go_wp2_with (first | ((with_reducible refine gate_builtin (b := .append) (xs := #[.tmp 91, .tmp 95]) rfl ?_); at_builtin; refine Kd.R_append k94 (w0 := w) w.heap.size rfl (.tmp 91) (.tmp 95) 37 94 (.agg #[(.int .i64 0), (.int .i64 0), (.int .i64 0), (.int .i64 0)]) 32 rfl Try.underlying37 info94 rfl (by decide) (by omega) (.slice Ao16 x5_2.length co16) x5_2 (⟨x7_2, 0, x8_2, 0⟩ : S94) [.int .i64 x7_2, .int .i64 0, .int .i64 x8_2, .int .i64 0] (fun _ => True) (fun _ => False) rfl rfl ?aP (fun _ hk => hk.elim) ?aF ?aO ?aB ?aS ?aL ?_; (case aP => exact k94_mkM _ _ _ (⟨x7_2, 0, x8_2, 0⟩ : S94)); (case aB => exact (by repeat (first | (with_reducible first | exact HB.out | apply below_alloc | apply pw_below_drewN | apply below_drew1) | exact HB.out))); (case aF => exact (fun _ _ => trivial)); (case aO => exact (by (with_reducible repeat (first | apply Kd.R_alloc | apply Kd.R_drewN | apply Kd.R_drew)); exact HO_5.out)); (case aS => exact (below_size (by repeat (first | (with_reducible first | exact HB.out | apply below_alloc | apply pw_below_drewN | apply below_drew1) | exact HB.out)))); (case aL => have := LMc23.out; omega); intro v305 w29 ho hb hg hat; rw [← Ny304.out] at ho; have n0_ := Aside0.mk (hb); have n1_ := Aside0.mk (ho); clear HB; clear HO_5; have HB := n0_; have HO306 := n1_; clear n0_ n1_; clear ho hb hg hat; obtain ⟨Ao30, co30, eo30⟩ := Kd.R_slice HO306.out; subst eo30; have p307 : 0 ≤ ((ji25) : Int) := of_decide_eq_true (by first | (with_reducible assumption) | assumption); have q307 : (ji25) < (y304.length : Int) := of_decide_eq_true (by first | (with_reducible assumption) | assumption); obtain ⟨ad307, e307, hx307_0, hx307_1, hx307_2, hx307_3⟩ := at_T94 (Kd.R_reads' HO306.out).2.2 (ji25) p307 q307; cases e307; replace p307 := eq_true p307; replace q307 := eq_true q307; have p28 : 0 ≤ ((ji25) : Int) := of_decide_eq_true (by first | (with_reducible assumption) | assumption); have q28 : ((ji25) : Int) < ((y304.length : Int) : Int) := of_decide_eq_true (by first | (with_reducible assumption) | assumption); obtain ⟨go28, co28, eo28, gb28, gl28, cl28, HG28⟩ := Kd.R_form HO306.out (by omega); (first | cases eo28 | (injection eo28 with ea_ en_ ec_; (first | subst ea_ | (injection ea_ with ea_; subst ea_)); subst ec_; clear en_)); have GB28 := Aside0.mk gb28; have GG28 := Aside0.mk HG28; clear gb28 gl28 HG28; (first | simp only [add_plain] at hx307_0 | skip); (first | simp only [add_plain] at hx307_1 | skip); (first | simp only [add_plain] at hx307_2 | skip); (first | simp only [add_plain] at hx307_3 | skip); obtain ⟨ce28, hcl28, hM28, hcc28, hfr28⟩ := Kd.R_elem HO306.out z94 ((ji25) : Int) p28 q28; obtain rfl := k94_openM hM28; have hx28_0 : w29.cell? ⟨go28, ((ji25) : Int).toNat * 4, none⟩ = some (.int .i64 ((rd_T94 y304 (ji25)).f0)) := hcc28 0 _ rfl; have hx28_1 : w29.cell? ⟨go28, ((ji25) : Int).toNat * 4 + 1, none⟩ = some (.int .i64 ((rd_T94 y304 (ji25)).f1)) := hcc28 1 _ rfl; have hx28_2 : w29.cell? ⟨go28, ((ji25) : Int).toNat * 4 + 2, none⟩ = some (.int .i64 ((rd_T94 y304 (ji25)).f2)) := hcc28 2 _ rfl; have hx28_3 : w29.cell? ⟨go28, ((ji25) : Int).toNat * 4 + 3, none⟩ = some (.int .i64 ((rd_T94 y304 (ji25)).f3)) := hcc28 3 _ rfl; have hf28_0 : w29.frozen? ⟨go28, ((ji25) : Int).toNat * 4, none⟩ = false := hfr28 0; have hf28_1 : w29.frozen? ⟨go28, ((ji25) : Int).toNat * 4 + 1, none⟩ = false := hfr28 1; have hf28_2 : w29.frozen? ⟨go28, ((ji25) : Int).toNat * 4 + 2, none⟩ = false := hfr28 2; have hf28_3 : w29.frozen? ⟨go28, ((ji25) : Int).toNat * 4 + 3, none⟩ = false := hfr28 3; clear hcl28 hcc28 hfr28 hM28; replace p28 := eq_true p28; replace q28 := eq_true q28; have HX31 := Aside0.mk (show Kd.R k94 94 w29 w.heap.size (fun _ => True) (.slice (some ⟨go28, 0, none⟩) y304.length co30) y304 from (by (with_reducible repeat (first | apply Kd.R_alloc | apply Kd.R_drewN | apply Kd.R_drew)); exact HO306.out)); obtain ⟨ce31, hcl31, hM31, hcc31, hfr31⟩ := Kd.R_elem HX31.out z94 ((ji25) : Int) (of_decide_eq_true (by first | (with_reducible assumption) | assumption)) (by have h_ : ((ji25) : Int) < ((y304.length : Int) : Int) := of_decide_eq_true (by first | (with_reducible assumption) | assumption); first | exact h_ | (have e_ := (Kd.R_reads' HO306.out).1; omega) | simpa using h_); obtain rfl := k94_openM hM31; have HP31 := Kd.R_seg HX31.out ((ji25) : Int) (of_decide_eq_true (by first | (with_reducible assumption) | assumption)) (by have h_ : ((ji25) : Int) < ((y304.length : Int) : Int) := of_decide_eq_true (by first | (with_reducible assumption) | assumption); first | exact h_ | (have e_ := (Kd.R_reads' HO306.out).1; omega) | simpa using h_) (seg := [.int .i64 (wrap64 (((rd_T94 y304 (ji25)).f1) + 1))]) (j := 1) hcl31 hcc31 (show 2 ≤ 4 from by decide) (x' := (⟨(rd_T94 y304 (ji25)).f0, wrap64 (((rd_T94 y304 (ji25)).f1) + 1), (rd_T94 y304 (ji25)).f2, (rd_T94 y304 (ji25)).f3⟩ : S94)) (k94_mkM _ _ _ (⟨(rd_T94 y304 (ji25)).f0, wrap64 (((rd_T94 y304 (ji25)).f1) + 1), (rd_T94 y304 (ji25)).f2, (rd_T94 y304 (ji25)).f3⟩ : S94) ) (fun _ hk => hk); have hx31_1 := hcc31 1 _ rfl; (try simp only [show (k94).sz = 4 from rfl, Nat.mul_one, Nat.add_zero] at hx31_1); have hf31_1 := hfr31 1; (try simp only [show (k94).sz = 4 from rfl, Nat.mul_one, Nat.add_zero] at hf31_1); clear hcl31 hcc31 hfr31 hM31) | ((with_reducible refine gate_store (t := 3) (p := 108) rfl ?_); (try (rw [drewN_self w29]; generalize hq_ : World.drewN w29 _ = w29; have n0_ := Aside0.mk (Kd.R_at hq_ HO306.out); have n1_ := Aside0.mk (below_at hq_ HB.out); clear hq_ HO306 HB; have HO306 := n0_; have HB := n1_; clear n0_ n1_; (try (have HX31 := Aside0.mk (show Kd.R k94 94 w29 w.heap.size (fun _ => True) (.slice (some ⟨go28, 0, none⟩) y304.length co30) y304 from (by (with_reducible repeat (first | apply Kd.R_alloc | apply Kd.R_drewN | apply Kd.R_drew)); exact HO306.out)))); (try (obtain ⟨ce31, hcl31, hM31, hcc31, hfr31⟩ := Kd.R_elem HX31.out z94 ((ji25) : Int) (of_decide_eq_true (by first | (with_reducible assumption) | assumption)) (by have h_ : ((ji25) : Int) < ((y304.length : Int) : Int) := of_decide_eq_true (by first | (with_reducible assumption) | assumption); first | exact h_ | (have e_ := (Kd.R_reads' HO306.out).1; omega) | simpa using h_))); (try (obtain rfl := k94_openM hM31)); (try (have HP31 := Kd.R_seg HX31.out ((ji25) : Int) (of_decide_eq_true (by first | (with_reducible assumption) | assumption)) (by have h_ : ((ji25) : Int) < ((y304.length : Int) : Int) := of_decide_eq_true (by first | (with_reducible assumption) | assumption); first | exact h_ | (have e_ := (Kd.R_reads' HO306.out).1; omega) | simpa using h_) (seg := [.int .i64 (wrap64 (((rd_T94 y304 (ji25)).f1) + 1))]) (j := 1) hcl31 hcc31 (show 2 ≤ 4 from by decide) (x' := (⟨(rd_T94 y304 (ji25)).f0, wrap64 (((rd_T94 y304 (ji25)).f1) + 1), (rd_T94 y304 (ji25)).f2, (rd_T94 y304 (ji25)).f3⟩ : S94)) (k94_mkM _ _ _ (⟨(rd_T94 y304 (ji25)).f0, wrap64 (((rd_T94 y304 (ji25)).f1) + 1), (rd_T94 y304 (ji25)).f2, (rd_T94 y304 (ji25)).f3⟩ : S94) ) (fun _ hk => hk))); (try (have hx31_1 := hcc31 1 _ rfl)); (try (try simp only [show (k94).sz = 4 from rfl, Nat.mul_one, Nat.add_zero] at hx31_1)); (try (have hf31_1 := hfr31 1)); (try (try simp only [show (k94).sz = 4 from rfl, Nat.mul_one, Nat.add_zero] at hf31_1)); (try (clear hcl31 hcc31 hfr31 hM31)))); refine store_event (t := 3) (p := 108) (v := ?vo_w32) (w1 := (w29.setCell ⟨go28, ((ji25) : Int).toNat * 4 + 1, none⟩ (.int .i64 (wrap64 (((rd_T94 y304 (ji25)).f1) + 1))))) ?hg ?ho ?hn ?hr ?_; (case ho => rfl); (case hg => rfl); (case hn => rfl); (case hr => first | (go_simp; done) | (go_simp; rfl)); intro w32 hw; have hg : w29.grownBy w32 (some go28) := (by rw [hw]; exact HP31.2); have hp_ : Kd.R k94 94 w32 w.heap.size (fun _ => True) (.slice (some ⟨go28, 0, none⟩) y304.length co30) y308 := (by rw [hw, Ny308.out]; exact HP31.1); clear HP31; have n0_ := Aside0.mk (hp_); have n1_ := Aside0.mk ((by rw [hw]; exact below_set (HB.out) GB28.out : Below w.heap.size w w32)); clear HO306; clear HB; have HO306 := n0_; have HB := n1_; clear n0_ n1_; clear hg hw hp_)))
                                        go_roundg kj14
                                        case measure => have := HK1.out; have := HK2.out; have := HJ14.out; omega
                                        case rel => exact ⟨(y308), (wrap64 (x7_2 + 1)), (x8_2), (wrap64 (x9_2 + 1)), (by first | rfl | (simp; done) | (simp [*]; done)), (by first | rfl | (simp; done) | (simp [*]; done)), (by first | rfl | (simp; done) | (simp [*]; done)), H', ⟨by have := HK1.out; have := HK2.out; have := HJ14.out; omega⟩, ⟨by (with_reducible repeat (first | apply Kd.R_alloc | apply Kd.R_drewN | apply Kd.R_drew)); exact HO306.out⟩, ⟨by repeat (first | (with_reducible first | exact HB.out | apply below_alloc | apply pw_below_drewN | apply below_drew1) | exact HB.out)⟩⟩
                                      · rw [if_neg c27] at H
                                        exact absurd H (by simp)
                                    · rw [if_neg c26] at H
                                      exact absurd H (by simp)
                                  · rw [if_neg c24] at H
                                    have c24b0 : (((rd_T35 ((rd_T24 l0 x6_1).f4) x9_2).f0) == 45) = false := beq_eq_false_iff_ne.mpr c24
                                    have c24b1 : (((rd_T35 ((rd_T24 l0 x6_1).f4) x9_2).f0) != 45) = true := bne_iff_ne.mpr c24
                                    obtain ⟨ji33, hji33⟩ : ∃ j_ : Int, (wrap64 ((wrap64 ((x5_2.length : Int) - 1)) + 1)) = j_ := ⟨_, rfl⟩
                                    replace H : (if 0 ≤ (ji33) then (if (ji33) < (y304.length : Int) then (redlineref11_Changes.l1 kj14 l0 (y304.set ((ji33) : Int).toNat (⟨(rd_T94 y304 (ji33)).f0, (rd_T94 y304 (ji33)).f1, (rd_T94 y304 (ji33)).f2, wrap64 (((rd_T94 y304 (ji33)).f3) + 1)⟩ : S94)) x6_1 x7_2 (wrap64 (x8_2 + 1)) (wrap64 (x9_2 + 1))) else (none)) else (none)) = some (r1, r2) := by first | (rw [hji33] at H; exact H) | (simp only [hji33] at H ⊢; exact H)
                                    have hji33w : (IntKind.i64.wrap ((wrap64 ((x5_2.length : Int) - 1)) + 1)) = ji33 := (i64_w _).trans hji33
                                    by_cases c34 : 0 ≤ (ji33)
                                    · rw [if_pos c34] at H
                                      have c34b0 : decide (0 ≤ (ji33)) = true := decide_eq_true c34
                                      clear c34
                                      by_cases c35 : (ji33) < (y304.length : Int)
                                      · rw [if_pos c35] at H
                                        have c35b0 : decide ((ji33) < (y304.length : Int)) = true := decide_eq_true c35
                                        clear c35
                                        obtain ⟨y310, hy310⟩ : ∃ y_ : List (S94), y_ = (y304.set ((ji33) : Int).toNat (⟨(rd_T94 y304 (ji33)).f0, (rd_T94 y304 (ji33)).f1, (rd_T94 y304 (ji33)).f2, wrap64 (((rd_T94 y304 (ji33)).f3) + 1)⟩ : S94)) := ⟨_, rfl⟩
                                        replace H : (redlineref11_Changes.l1 kj14 l0 y310 x6_1 x7_2 (wrap64 (x8_2 + 1)) (wrap64 (x9_2 + 1))) = some (r1, r2) := by first | (rw [hy310]; with_reducible exact H) | (have H2_ := (Option.bind_some _ _).symm.trans H; rw [hy310]; with_reducible exact H2_) | (have H2_ := (Option.bind_some _ _).symm.trans H; with_reducible exact H2_) | with_reducible exact H | (rw [hy310]; exact H) | exact H
                                        have Ny310 := Aside0.mk hy310
                                        clear hy310
                                        have H' := Aside0.mk H
                                        clear H
                                        go_wp2_with (first | ((with_reducible refine gate_builtin (b := .append) (xs := #[.tmp 91, .tmp 95]) rfl ?_); at_builtin; refine Kd.R_append k94 (w0 := w) w.heap.size rfl (.tmp 91) (.tmp 95) 37 94 (.agg #[(.int .i64 0), (.int .i64 0), (.int .i64 0), (.int .i64 0)]) 32 rfl Try.underlying37 info94 rfl (by decide) (by omega) (.slice Ao16 x5_2.length co16) x5_2 (⟨x7_2, 0, x8_2, 0⟩ : S94) [.int .i64 x7_2, .int .i64 0, .int .i64 x8_2, .int .i64 0] (fun _ => True) (fun _ => False) rfl rfl ?aP (fun _ hk => hk.elim) ?aF ?aO ?aB ?aS ?aL ?_; (case aP => exact k94_mkM _ _ _ (⟨x7_2, 0, x8_2, 0⟩ : S94)); (case aB => exact (by repeat (first | (with_reducible first | exact HB.out | apply below_alloc | apply pw_below_drewN | apply below_drew1) | exact HB.out))); (case aF => exact (fun _ _ => trivial)); (case aO => exact (by (with_reducible repeat (first | apply Kd.R_alloc | apply Kd.R_drewN | apply Kd.R_drew)); exact HO_5.out)); (case aS => exact (below_size (by repeat (first | (with_reducible first | exact HB.out | apply below_alloc | apply pw_below_drewN | apply below_drew1) | exact HB.out)))); (case aL => have := LMc23.out; omega); intro v305 w37 ho hb hg hat; rw [← Ny304.out] at ho; have n0_ := Aside0.mk (hb); have n1_ := Aside0.mk (ho); clear HB; clear HO_5; have HB := n0_; have HO306 := n1_; clear n0_ n1_; clear ho hb hg hat; obtain ⟨Ao38, co38, eo38⟩ := Kd.R_slice HO306.out; subst eo38; have p309 : 0 ≤ ((ji33) : Int) := of_decide_eq_true (by first | (with_reducible assumption) | assumption); have q309 : (ji33) < (y304.length : Int) := of_decide_eq_true (by first | (with_reducible assumption) | assumption); obtain ⟨ad309, e309, hx309_0, hx309_1, hx309_2, hx309_3⟩ := at_T94 (Kd.R_reads' HO306.out).2.2 (ji33) p309 q309; cases e309; replace p309 := eq_true p309; replace q309 := eq_true q309; have p36 : 0 ≤ ((ji33) : Int) := of_decide_eq_true (by first | (with_reducible assumption) | assumption); have q36 : ((ji33) : Int) < ((y304.length : Int) : Int) := of_decide_eq_true (by first | (with_reducible assumption) | assumption); obtain ⟨go36, co36, eo36, gb36, gl36, cl36, HG36⟩ := Kd.R_form HO306.out (by omega); (first | cases eo36 | (injection eo36 with ea_ en_ ec_; (first | subst ea_ | (injection ea_ with ea_; subst ea_)); subst ec_; clear en_)); have GB36 := Aside0.mk gb36; have GG36 := Aside0.mk HG36; clear gb36 gl36 HG36; (first | simp only [add_plain] at hx309_0 | skip); (first | simp only [add_plain] at hx309_1 | skip); (first | simp only [add_plain] at hx309_2 | skip); (first | simp only [add_plain] at hx309_3 | skip); obtain ⟨ce36, hcl36, hM36, hcc36, hfr36⟩ := Kd.R_elem HO306.out z94 ((ji33) : Int) p36 q36; obtain rfl := k94_openM hM36; have hx36_0 : w37.cell? ⟨go36, ((ji33) : Int).toNat * 4, none⟩ = some (.int .i64 ((rd_T94 y304 (ji33)).f0)) := hcc36 0 _ rfl; have hx36_1 : w37.cell? ⟨go36, ((ji33) : Int).toNat * 4 + 1, none⟩ = some (.int .i64 ((rd_T94 y304 (ji33)).f1)) := hcc36 1 _ rfl; have hx36_2 : w37.cell? ⟨go36, ((ji33) : Int).toNat * 4 + 2, none⟩ = some (.int .i64 ((rd_T94 y304 (ji33)).f2)) := hcc36 2 _ rfl; have hx36_3 : w37.cell? ⟨go36, ((ji33) : Int).toNat * 4 + 3, none⟩ = some (.int .i64 ((rd_T94 y304 (ji33)).f3)) := hcc36 3 _ rfl; have hf36_0 : w37.frozen? ⟨go36, ((ji33) : Int).toNat * 4, none⟩ = false := hfr36 0; have hf36_1 : w37.frozen? ⟨go36, ((ji33) : Int).toNat * 4 + 1, none⟩ = false := hfr36 1; have hf36_2 : w37.frozen? ⟨go36, ((ji33) : Int).toNat * 4 + 2, none⟩ = false := hfr36 2; have hf36_3 : w37.frozen? ⟨go36, ((ji33) : Int).toNat * 4 + 3, none⟩ = false := hfr36 3; clear hcl36 hcc36 hfr36 hM36; replace p36 := eq_true p36; replace q36 := eq_true q36; have HX39 := Aside0.mk (show Kd.R k94 94 w37 w.heap.size (fun _ => True) (.slice (some ⟨go36, 0, none⟩) y304.length co38) y304 from (by (with_reducible repeat (first | apply Kd.R_alloc | apply Kd.R_drewN | apply Kd.R_drew)); exact HO306.out)); obtain ⟨ce39, hcl39, hM39, hcc39, hfr39⟩ := Kd.R_elem HX39.out z94 ((ji33) : Int) (of_decide_eq_true (by first | (with_reducible assumption) | assumption)) (by have h_ : ((ji33) : Int) < ((y304.length : Int) : Int) := of_decide_eq_true (by first | (with_reducible assumption) | assumption); first | exact h_ | (have e_ := (Kd.R_reads' HO306.out).1; omega) | simpa using h_); obtain rfl := k94_openM hM39; have HP39 := Kd.R_seg HX39.out ((ji33) : Int) (of_decide_eq_true (by first | (with_reducible assumption) | assumption)) (by have h_ : ((ji33) : Int) < ((y304.length : Int) : Int) := of_decide_eq_true (by first | (with_reducible assumption) | assumption); first | exact h_ | (have e_ := (Kd.R_reads' HO306.out).1; omega) | simpa using h_) (seg := [.int .i64 (wrap64 (((rd_T94 y304 (ji33)).f3) + 1))]) (j := 3) hcl39 hcc39 (show 4 ≤ 4 from by decide) (x' := (⟨(rd_T94 y304 (ji33)).f0, (rd_T94 y304 (ji33)).f1, (rd_T94 y304 (ji33)).f2, wrap64 (((rd_T94 y304 (ji33)).f3) + 1)⟩ : S94)) (k94_mkM _ _ _ (⟨(rd_T94 y304 (ji33)).f0, (rd_T94 y304 (ji33)).f1, (rd_T94 y304 (ji33)).f2, wrap64 (((rd_T94 y304 (ji33)).f3) + 1)⟩ : S94) ) (fun _ hk => hk); have hx39_3 := hcc39 3 _ rfl; (try simp only [show (k94).sz = 4 from rfl, Nat.mul_one, Nat.add_zero] at hx39_3); have hf39_3 := hfr39 3; (try simp only [show (k94).sz = 4 from rfl, Nat.mul_one, Nat.add_zero] at hf39_3); clear hcl39 hcc39 hfr39 hM39) | ((with_reducible refine gate_store (t := 3) (p := 118) rfl ?_); (try (rw [drewN_self w37]; generalize hq_ : World.drewN w37 _ = w37; have n0_ := Aside0.mk (Kd.R_at hq_ HO306.out); have n1_ := Aside0.mk (below_at hq_ HB.out); clear hq_ HO306 HB; have HO306 := n0_; have HB := n1_; clear n0_ n1_; (try (have HX39 := Aside0.mk (show Kd.R k94 94 w37 w.heap.size (fun _ => True) (.slice (some ⟨go36, 0, none⟩) y304.length co38) y304 from (by (with_reducible repeat (first | apply Kd.R_alloc | apply Kd.R_drewN | apply Kd.R_drew)); exact HO306.out)))); (try (obtain ⟨ce39, hcl39, hM39, hcc39, hfr39⟩ := Kd.R_elem HX39.out z94 ((ji33) : Int) (of_decide_eq_true (by first | (with_reducible assumption) | assumption)) (by have h_ : ((ji33) : Int) < ((y304.length : Int) : Int) := of_decide_eq_true (by first | (with_reducible assumption) | assumption); first | exact h_ | (have e_ := (Kd.R_reads' HO306.out).1; omega) | simpa using h_))); (try (obtain rfl := k94_openM hM39)); (try (have HP39 := Kd.R_seg HX39.out ((ji33) : Int) (of_decide_eq_true (by first | (with_reducible assumption) | assumption)) (by have h_ : ((ji33) : Int) < ((y304.length : Int) : Int) := of_decide_eq_true (by first | (with_reducible assumption) | assumption); first | exact h_ | (have e_ := (Kd.R_reads' HO306.out).1; omega) | simpa using h_) (seg := [.int .i64 (wrap64 (((rd_T94 y304 (ji33)).f3) + 1))]) (j := 3) hcl39 hcc39 (show 4 ≤ 4 from by decide) (x' := (⟨(rd_T94 y304 (ji33)).f0, (rd_T94 y304 (ji33)).f1, (rd_T94 y304 (ji33)).f2, wrap64 (((rd_T94 y304 (ji33)).f3) + 1)⟩ : S94)) (k94_mkM _ _ _ (⟨(rd_T94 y304 (ji33)).f0, (rd_T94 y304 (ji33)).f1, (rd_T94 y304 (ji33)).f2, wrap64 (((rd_T94 y304 (ji33)).f3) + 1)⟩ : S94) ) (fun _ hk => hk))); (try (have hx39_3 := hcc39 3 _ rfl)); (try (try simp only [show (k94).sz = 4 from rfl, Nat.mul_one, Nat.add_zero] at hx39_3)); (try (have hf39_3 := hfr39 3)); (try (try simp only [show (k94).sz = 4 from rfl, Nat.mul_one, Nat.add_zero] at hf39_3)); (try (clear hcl39 hcc39 hfr39 hM39)))); refine store_event (t := 3) (p := 118) (v := ?vo_w40) (w1 := (w37.setCell ⟨go36, ((ji33) : Int).toNat * 4 + 3, none⟩ (.int .i64 (wrap64 (((rd_T94 y304 (ji33)).f3) + 1))))) ?hg ?ho ?hn ?hr ?_; (case ho => rfl); (case hg => rfl); (case hn => rfl); (case hr => first | (go_simp; done) | (go_simp; rfl)); intro w40 hw; have hg : w37.grownBy w40 (some go36) := (by rw [hw]; exact HP39.2); have hp_ : Kd.R k94 94 w40 w.heap.size (fun _ => True) (.slice (some ⟨go36, 0, none⟩) y304.length co38) y310 := (by rw [hw, Ny310.out]; exact HP39.1); clear HP39; have n0_ := Aside0.mk (hp_); have n1_ := Aside0.mk ((by rw [hw]; exact below_set (HB.out) GB36.out : Below w.heap.size w w40)); clear HO306; clear HB; have HO306 := n0_; have HB := n1_; clear n0_ n1_; clear hg hw hp_))
                                        repeat (go_quiet (first | ((with_reducible refine gate_builtin (b := .append) (xs := #[.tmp 91, .tmp 95]) rfl ?_); at_builtin; refine Kd.R_append k94 (w0 := w) w.heap.size rfl (.tmp 91) (.tmp 95) 37 94 (.agg #[(.int .i64 0), (.int .i64 0), (.int .i64 0), (.int .i64 0)]) 32 rfl Try.underlying37 info94 rfl (by decide) (by omega) (.slice Ao16 x5_2.length co16) x5_2 (⟨x7_2, 0, x8_2, 0⟩ : S94) [.int .i64 x7_2, .int .i64 0, .int .i64 x8_2, .int .i64 0] (fun _ => True) (fun _ => False) rfl rfl ?aP (fun _ hk => hk.elim) ?aF ?aO ?aB ?aS ?aL ?_; (case aP => exact k94_mkM _ _ _ (⟨x7_2, 0, x8_2, 0⟩ : S94)); (case aB => exact (by repeat (first | (with_reducible first | exact HB.out | apply below_alloc | apply pw_below_drewN | apply below_drew1) | exact HB.out))); (case aF => exact (fun _ _ => trivial)); (case aO => exact (by (with_reducible repeat (first | apply Kd.R_alloc | apply Kd.R_drewN | apply Kd.R_drew)); exact HO_5.out)); (case aS => exact (below_size (by repeat (first | (with_reducible first | exact HB.out | apply below_alloc | apply pw_below_drewN | apply below_drew1) | exact HB.out)))); (case aL => have := LMc23.out; omega); intro v305 w37 ho hb hg hat; rw [← Ny304.out] at ho; have n0_ := Aside0.mk (hb); have n1_ := Aside0.mk (ho); clear HB; clear HO_5; have HB := n0_; have HO306 := n1_; clear n0_ n1_; clear ho hb hg hat; obtain ⟨Ao38, co38, eo38⟩ := Kd.R_slice HO306.out; subst eo38; have p309 : 0 ≤ ((ji33) : Int) := of_decide_eq_true (by first | (with_reducible assumption) | assumption); have q309 : (ji33) < (y304.length : Int) := of_decide_eq_true (by first | (with_reducible assumption) | assumption); obtain ⟨ad309, e309, hx309_0, hx309_1, hx309_2, hx309_3⟩ := at_T94 (Kd.R_reads' HO306.out).2.2 (ji33) p309 q309; cases e309; replace p309 := eq_true p309; replace q309 := eq_true q309; have p36 : 0 ≤ ((ji33) : Int) := of_decide_eq_true (by first | (with_reducible assumption) | assumption); have q36 : ((ji33) : Int) < ((y304.length : Int) : Int) := of_decide_eq_true (by first | (with_reducible assumption) | assumption); obtain ⟨go36, co36, eo36, gb36, gl36, cl36, HG36⟩ := Kd.R_form HO306.out (by omega); (first | cases eo36 | (injection eo36 with ea_ en_ ec_; (first | subst ea_ | (injection ea_ with ea_; subst ea_)); subst ec_; clear en_)); have GB36 := Aside0.mk gb36; have GG36 := Aside0.mk HG36; clear gb36 gl36 HG36; (first | simp only [add_plain] at hx309_0 | skip); (first | simp only [add_plain] at hx309_1 | skip); (first | simp only [add_plain] at hx309_2 | skip); (first | simp only [add_plain] at hx309_3 | skip); obtain ⟨ce36, hcl36, hM36, hcc36, hfr36⟩ := Kd.R_elem HO306.out z94 ((ji33) : Int) p36 q36; obtain rfl := k94_openM hM36; have hx36_0 : w37.cell? ⟨go36, ((ji33) : Int).toNat * 4, none⟩ = some (.int .i64 ((rd_T94 y304 (ji33)).f0)) := hcc36 0 _ rfl; have hx36_1 : w37.cell? ⟨go36, ((ji33) : Int).toNat * 4 + 1, none⟩ = some (.int .i64 ((rd_T94 y304 (ji33)).f1)) := hcc36 1 _ rfl; have hx36_2 : w37.cell? ⟨go36, ((ji33) : Int).toNat * 4 + 2, none⟩ = some (.int .i64 ((rd_T94 y304 (ji33)).f2)) := hcc36 2 _ rfl; have hx36_3 : w37.cell? ⟨go36, ((ji33) : Int).toNat * 4 + 3, none⟩ = some (.int .i64 ((rd_T94 y304 (ji33)).f3)) := hcc36 3 _ rfl; have hf36_0 : w37.frozen? ⟨go36, ((ji33) : Int).toNat * 4, none⟩ = false := hfr36 0; have hf36_1 : w37.frozen? ⟨go36, ((ji33) : Int).toNat * 4 + 1, none⟩ = false := hfr36 1; have hf36_2 : w37.frozen? ⟨go36, ((ji33) : Int).toNat * 4 + 2, none⟩ = false := hfr36 2; have hf36_3 : w37.frozen? ⟨go36, ((ji33) : Int).toNat * 4 + 3, none⟩ = false := hfr36 3; clear hcl36 hcc36 hfr36 hM36; replace p36 := eq_true p36; replace q36 := eq_true q36; have HX39 := Aside0.mk (show Kd.R k94 94 w37 w.heap.size (fun _ => True) (.slice (some ⟨go36, 0, none⟩) y304.length co38) y304 from (by (with_reducible repeat (first | apply Kd.R_alloc | apply Kd.R_drewN | apply Kd.R_drew)); exact HO306.out)); obtain ⟨ce39, hcl39, hM39, hcc39, hfr39⟩ := Kd.R_elem HX39.out z94 ((ji33) : Int) (of_decide_eq_true (by first | (with_reducible assumption) | assumption)) (by have h_ : ((ji33) : Int) < ((y304.length : Int) : Int) := of_decide_eq_true (by first | (with_reducible assumption) | assumption); first | exact h_ | (have e_ := (Kd.R_reads' HO306.out).1; omega) | simpa using h_); obtain rfl := k94_openM hM39; have HP39 := Kd.R_seg HX39.out ((ji33) : Int) (of_decide_eq_true (by first | (with_reducible assumption) | assumption)) (by have h_ : ((ji33) : Int) < ((y304.length : Int) : Int) := of_decide_eq_true (by first | (with_reducible assumption) | assumption); first | exact h_ | (have e_ := (Kd.R_reads' HO306.out).1; omega) | simpa using h_) (seg := [.int .i64 (wrap64 (((rd_T94 y304 (ji33)).f3) + 1))]) (j := 3) hcl39 hcc39 (show 4 ≤ 4 from by decide) (x' := (⟨(rd_T94 y304 (ji33)).f0, (rd_T94 y304 (ji33)).f1, (rd_T94 y304 (ji33)).f2, wrap64 (((rd_T94 y304 (ji33)).f3) + 1)⟩ : S94)) (k94_mkM _ _ _ (⟨(rd_T94 y304 (ji33)).f0, (rd_T94 y304 (ji33)).f1, (rd_T94 y304 (ji33)).f2, wrap64 (((rd_T94 y304 (ji33)).f3) + 1)⟩ : S94) ) (fun _ hk => hk); have hx39_3 := hcc39 3 _ rfl; (try simp only [show (k94).sz = 4 from rfl, Nat.mul_one, Nat.add_zero] at hx39_3); have hf39_3 := hfr39 3; (try simp only [show (k94).sz = 4 from rfl, Nat.mul_one, Nat.add_zero] at hf39_3); clear hcl39 hcc39 hfr39 hM39) | ((with_reducible refine gate_store (t := 3) (p := 118) rfl ?_); (try (rw [drewN_self w37]; generalize hq_ : World.drewN w37 _ = w37; have n0_ := Aside0.mk (Kd.R_at hq_ HO306.out); have n1_ := Aside0.mk (below_at hq_ HB.out); clear hq_ HO306 HB; have HO306 := n0_; have HB := n1_; clear n0_ n1_; (try (have HX39 := Aside0.mk (show Kd.R k94 94 w37 w.heap.size (fun _ => True) (.slice (some ⟨go36, 0, none⟩) y304.length co38) y304 from (by (with_reducible repeat (first | apply Kd.R_alloc | apply Kd.R_drewN | apply Kd.R_drew)); exact HO306.out)))); (try (obtain ⟨ce39, hcl39, hM39, hcc39, hfr39⟩ := Kd.R_elem HX39.out z94 ((ji33) : Int) (of_decide_eq_true (by first | (with_reducible assumption) | assumption)) (by have h_ : ((ji33) : Int) < ((y304.length : Int) : Int) := of_decide_eq_true (by first | (with_reducible assumption) | assumption); first | exact h_ | (have e_ := (Kd.R_reads' HO306.out).1; omega) | simpa using h_))); (try (obtain rfl := k94_openM hM39)); (try (have HP39 := Kd.R_seg HX39.out ((ji33) : Int) (of_decide_eq_true (by first | (with_reducible assumption) | assumption)) (by have h_ : ((ji33) : Int) < ((y304.length : Int) : Int) := of_decide_eq_true (by first | (with_reducible assumption) | assumption); first | exact h_ | (have e_ := (Kd.R_reads' HO306.out).1; omega) | simpa using h_) (seg := [.int .i64 (wrap64 (((rd_T94 y304 (ji33)).f3) + 1))]) (j := 3) hcl39 hcc39 (show 4 ≤ 4 from by decide) (x' := (⟨(rd_T94 y304 (ji33)).f0, (rd_T94 y304 (ji33)).f1, (rd_T94 y304 (ji33)).f2, wrap64 (((rd_T94 y304 (ji33)).f3) + 1)⟩ : S94)) (k94_mkM _ _ _ (⟨(rd_T94 y304 (ji33)).f0, (rd_T94 y304 (ji33)).f1, (rd_T94 y304 (ji33)).f2, wrap64 (((rd_T94 y304 (ji33)).f3) + 1)⟩ : S94) ) (fun _ hk => hk))); (try (have hx39_3 := hcc39 3 _ rfl)); (try (try simp only [show (k94).sz = 4 from rfl, Nat.mul_one, Nat.add_zero] at hx39_3)); (try (have hf39_3 := hfr39 3)); (try (try simp only [show (k94).sz = 4 from rfl, Nat.mul_one, Nat.add_zero] at hf39_3)); (try (clear hcl39 hcc39 hfr39 hM39)))); refine store_event (t := 3) (p := 118) (v := ?vo_w40) (w1 := (w37.setCell ⟨go36, ((ji33) : Int).toNat * 4 + 3, none⟩ (.int .i64 (wrap64 (((rd_T94 y304 (ji33)).f3) + 1))))) ?hg ?ho ?hn ?hr ?_; (case ho => rfl); (case hg => rfl); (case hn => rfl); (case hr => first | (go_simp; done) | (go_simp; rfl)); intro w40 hw; have hg : w37.grownBy w40 (some go36) := (by rw [hw]; exact HP39.2); have hp_ : Kd.R k94 94 w40 w.heap.size (fun _ => True) (.slice (some ⟨go36, 0, none⟩) y304.length co38) y310 := (by rw [hw, Ny310.out]; exact HP39.1); clear HP39; have n0_ := Aside0.mk (hp_); have n1_ := Aside0.mk ((by rw [hw]; exact below_set (HB.out) GB36.out : Below w.heap.size w w40)); clear HO306; clear HB; have HO306 := n0_; have HB := n1_; clear n0_ n1_; clear hg hw hp_)); try go_wp2_with (first | ((with_reducible refine gate_builtin (b := .append) (xs := #[.tmp 91, .tmp 95]) rfl ?_); at_builtin; refine Kd.R_append k94 (w0 := w) w.heap.size rfl (.tmp 91) (.tmp 95) 37 94 (.agg #[(.int .i64 0), (.int .i64 0), (.int .i64 0), (.int .i64 0)]) 32 rfl Try.underlying37 info94 rfl (by decide) (by omega) (.slice Ao16 x5_2.length co16) x5_2 (⟨x7_2, 0, x8_2, 0⟩ : S94) [.int .i64 x7_2, .int .i64 0, .int .i64 x8_2, .int .i64 0] (fun _ => True) (fun _ => False) rfl rfl ?aP (fun _ hk => hk.elim) ?aF ?aO ?aB ?aS ?aL ?_; (case aP => exact k94_mkM _ _ _ (⟨x7_2, 0, x8_2, 0⟩ : S94)); (case aB => exact (by repeat (first | (with_reducible first | exact HB.out | apply below_alloc | apply pw_below_drewN | apply below_drew1) | exact HB.out))); (case aF => exact (fun _ _ => trivial)); (case aO => exact (by (with_reducible repeat (first | apply Kd.R_alloc | apply Kd.R_drewN | apply Kd.R_drew)); exact HO_5.out)); (case aS => exact (below_size (by repeat (first | (with_reducible first | exact HB.out | apply below_alloc | apply pw_below_drewN | apply below_drew1) | exact HB.out)))); (case aL => have := LMc23.out; omega); intro v305 w37 ho hb hg hat; rw [← Ny304.out] at ho; have n0_ := Aside0.mk (hb); have n1_ := Aside0.mk (ho); clear HB; clear HO_5; have HB := n0_; have HO306 := n1_; clear n0_ n1_; clear ho hb hg hat; obtain ⟨Ao38, co38, eo38⟩ := Kd.R_slice HO306.out; subst eo38; have p309 : 0 ≤ ((ji33) : Int) := of_decide_eq_true (by first | (with_reducible assumption) | assumption); have q309 : (ji33) < (y304.length : Int) := of_decide_eq_true (by first | (with_reducible assumption) | assumption); obtain ⟨ad309, e309, hx309_0, hx309_1, hx309_2, hx309_3⟩ := at_T94 (Kd.R_reads' HO306.out).2.2 (ji33) p309 q309; cases e309; replace p309 := eq_true p309; replace q309 := eq_true q309; have p36 : 0 ≤ ((ji33) : Int) := of_decide_eq_true (by first | (with_reducible assumption) | assumption); have q36 : ((ji33) : Int) < ((y304.length : Int) : Int) := of_decide_eq_true (by first | (with_reducible assumption) | assumption); obtain ⟨go36, co36, eo36, gb36, gl36, cl36, HG36⟩ := Kd.R_form HO306.out (by omega); (first | cases eo36 | (injection eo36 with ea_ en_ ec_; (first | subst ea_ | (injection ea_ with ea_; subst ea_)); subst ec_; clear en_)); have GB36 := Aside0.mk gb36; have GG36 := Aside0.mk HG36; clear gb36 gl36 HG36; (first | simp only [add_plain] at hx309_0 | skip); (first | simp only [add_plain] at hx309_1 | skip); (first | simp only [add_plain] at hx309_2 | skip); (first | simp only [add_plain] at hx309_3 | skip); obtain ⟨ce36, hcl36, hM36, hcc36, hfr36⟩ := Kd.R_elem HO306.out z94 ((ji33) : Int) p36 q36; obtain rfl := k94_openM hM36; have hx36_0 : w37.cell? ⟨go36, ((ji33) : Int).toNat * 4, none⟩ = some (.int .i64 ((rd_T94 y304 (ji33)).f0)) := hcc36 0 _ rfl; have hx36_1 : w37.cell? ⟨go36, ((ji33) : Int).toNat * 4 + 1, none⟩ = some (.int .i64 ((rd_T94 y304 (ji33)).f1)) := hcc36 1 _ rfl; have hx36_2 : w37.cell? ⟨go36, ((ji33) : Int).toNat * 4 + 2, none⟩ = some (.int .i64 ((rd_T94 y304 (ji33)).f2)) := hcc36 2 _ rfl; have hx36_3 : w37.cell? ⟨go36, ((ji33) : Int).toNat * 4 + 3, none⟩ = some (.int .i64 ((rd_T94 y304 (ji33)).f3)) := hcc36 3 _ rfl; have hf36_0 : w37.frozen? ⟨go36, ((ji33) : Int).toNat * 4, none⟩ = false := hfr36 0; have hf36_1 : w37.frozen? ⟨go36, ((ji33) : Int).toNat * 4 + 1, none⟩ = false := hfr36 1; have hf36_2 : w37.frozen? ⟨go36, ((ji33) : Int).toNat * 4 + 2, none⟩ = false := hfr36 2; have hf36_3 : w37.frozen? ⟨go36, ((ji33) : Int).toNat * 4 + 3, none⟩ = false := hfr36 3; clear hcl36 hcc36 hfr36 hM36; replace p36 := eq_true p36; replace q36 := eq_true q36; have HX39 := Aside0.mk (show Kd.R k94 94 w37 w.heap.size (fun _ => True) (.slice (some ⟨go36, 0, none⟩) y304.length co38) y304 from (by (with_reducible repeat (first | apply Kd.R_alloc | apply Kd.R_drewN | apply Kd.R_drew)); exact HO306.out)); obtain ⟨ce39, hcl39, hM39, hcc39, hfr39⟩ := Kd.R_elem HX39.out z94 ((ji33) : Int) (of_decide_eq_true (by first | (with_reducible assumption) | assumption)) (by have h_ : ((ji33) : Int) < ((y304.length : Int) : Int) := of_decide_eq_true (by first | (with_reducible assumption) | assumption); first | exact h_ | (have e_ := (Kd.R_reads' HO306.out).1; omega) | simpa using h_); obtain rfl := k94_openM hM39; have HP39 := Kd.R_seg HX39.out ((ji33) : Int) (of_decide_eq_true (by first | (with_reducible assumption) | assumption)) (by have h_ : ((ji33) : Int) < ((y304.length : Int) : Int) := of_decide_eq_true (by first | (with_reducible assumption) | assumption); first | exact h_ | (have e_ := (Kd.R_reads' HO306.out).1; omega) | simpa using h_) (seg := [.int .i64 (wrap64 (((rd_T94 y304 (ji33)).f3) + 1))]) (j := 3) hcl39 hcc39 (show 4 ≤ 4 from by decide) (x' := (⟨(rd_T94 y304 (ji33)).f0, (rd_T94 y304 (ji33)).f1, (rd_T94 y304 (ji33)).f2, wrap64 (((rd_T94 y304 (ji33)).f3) + 1)⟩ : S94)) (k94_mkM _ _ _ (⟨(rd_T94 y304 (ji33)).f0, (rd_T94 y304 (ji33)).f1, (rd_T94 y304 (ji33)).f2, wrap64 (((rd_T94 y304 (ji33)).f3) + 1)⟩ : S94) ) (fun _ hk => hk); have hx39_3 := hcc39 3 _ rfl; (try simp only [show (k94).sz = 4 from rfl, Nat.mul_one, Nat.add_zero] at hx39_3); have hf39_3 := hfr39 3; (try simp only [show (k94).sz = 4 from rfl, Nat.mul_one, Nat.add_zero] at hf39_3); clear hcl39 hcc39 hfr39 hM39) | ((with_reducible refine gate_store (t := 3) (p := 118) rfl ?_); (try (rw [drewN_self w37]; generalize hq_ : World.drewN w37 _ = w37; have n0_ := Aside0.mk (Kd.R_at hq_ HO306.out); have n1_ := Aside0.mk (below_at hq_ HB.out); clear hq_ HO306 HB; have HO306 := n0_; have HB := n1_; clear n0_ n1_; (try (have HX39 := Aside0.mk (show Kd.R k94 94 w37 w.heap.size (fun _ => True) (.slice (some ⟨go36, 0, none⟩) y304.length co38) y304 from (by (with_reducible repeat (first | apply Kd.R_alloc | apply Kd.R_drewN | apply Kd.R_drew)); exact HO306.out)))); (try (obtain ⟨ce39, hcl39, hM39, hcc39, hfr39⟩ := Kd.R_elem HX39.out z94 ((ji33) : Int) (of_decide_eq_true (by first | (with_reducible assumption) | assumption)) (by have h_ : ((ji33) : Int) < ((y304.length : Int) : Int) := of_decide_eq_true (by first | (with_reducible assumption) | assumption); first | exact h_ | (have e_ := (Kd.R_reads' HO306.out).1; omega) | simpa using h_))); (try (obtain rfl := k94_openM hM39)); (try (have HP39 := Kd.R_seg HX39.out ((ji33) : Int) (of_decide_eq_true (by first | (with_reducible assumption) | assumption)) (by have h_ : ((ji33) : Int) < ((y304.length : Int) : Int) := of_decide_eq_true (by first | (with_reducible assumption) | assumption); first | exact h_ | (have e_ := (Kd.R_reads' HO306.out).1; omega) | simpa using h_) (seg := [.int .i64 (wrap64 (((rd_T94 y304 (ji33)).f3) + 1))]) (j := 3) hcl39 hcc39 (show 4 ≤ 4 from by decide) (x' := (⟨(rd_T94 y304 (ji33)).f0, (rd_T94 y304 (ji33)).f1, (rd_T94 y304 (ji33)).f2, wrap64 (((rd_T94 y304 (ji33)).f3) + 1)⟩ : S94)) (k94_mkM _ _ _ (⟨(rd_T94 y304 (ji33)).f0, (rd_T94 y304 (ji33)).f1, (rd_T94 y304 (ji33)).f2, wrap64 (((rd_T94 y304 (ji33)).f3) + 1)⟩ : S94) ) (fun _ hk => hk))); (try (have hx39_3 := hcc39 3 _ rfl)); (try (try simp only [show (k94).sz = 4 from rfl, Nat.mul_one, Nat.add_zero] at hx39_3)); (try (have hf39_3 := hfr39 3)); (try (try simp only [show (k94).sz = 4 from rfl, Nat.mul_one, Nat.add_zero] at hf39_3)); (try (clear hcl39 hcc39 hfr39 hM39)))); refine store_event (t := 3) (p := 118) (v := ?vo_w40) (w1 := (w37.setCell ⟨go36, ((ji33) : Int).toNat * 4 + 3, none⟩ (.int .i64 (wrap64 (((rd_T94 y304 (ji33)).f3) + 1))))) ?hg ?ho ?hn ?hr ?_; (case ho => rfl); (case hg => rfl); (case hn => rfl); (case hr => first | (go_simp; done) | (go_simp; rfl)); intro w40 hw; have hg : w37.grownBy w40 (some go36) := (by rw [hw]; exact HP39.2); have hp_ : Kd.R k94 94 w40 w.heap.size (fun _ => True) (.slice (some ⟨go36, 0, none⟩) y304.length co38) y310 := (by rw [hw, Ny310.out]; exact HP39.1); clear HP39; have n0_ := Aside0.mk (hp_); have n1_ := Aside0.mk ((by rw [hw]; exact below_set (HB.out) GB36.out : Below w.heap.size w w40)); clear HO306; clear HB; have HO306 := n0_; have HB := n1_; clear n0_ n1_; clear hg hw hp_)))
                                        go_roundg kj14
                                        case measure => have := HK1.out; have := HK2.out; have := HJ14.out; omega
                                        case rel => exact ⟨(y310), (x7_2), (wrap64 (x8_2 + 1)), (wrap64 (x9_2 + 1)), (by first | rfl | (simp; done) | (simp [*]; done)), (by first | rfl | (simp; done) | (simp [*]; done)), (by first | rfl | (simp; done) | (simp [*]; done)), H', ⟨by have := HK1.out; have := HK2.out; have := HJ14.out; omega⟩, ⟨by (with_reducible repeat (first | apply Kd.R_alloc | apply Kd.R_drewN | apply Kd.R_drew)); exact HO306.out⟩, ⟨by repeat (first | (with_reducible first | exact HB.out | apply below_alloc | apply pw_below_drewN | apply below_drew1) | exact HB.out)⟩⟩
                                      · rw [if_neg c35] at H
                                        exact absurd H (by simp)
                                    · rw [if_neg c34] at H
                                      exact absurd H (by simp)
                                · rw [if_neg c23] at H
                                  exact absurd H (by simp)
                              · replace c22 := Bool.eq_false_iff.mpr c22
                                subst c22
                                have H1 : (if ((rd_T35 ((rd_T24 l0 x6_1).f4) x9_2).f0) = 45 then (if 0 ≤ (wrap64 ((x5_2.length : Int) - 1)) then (if (wrap64 ((x5_2.length : Int) - 1)) < (x5_2.length : Int) then (redlineref11_Changes.l1 kj14 l0 (x5_2.set ((wrap64 ((x5_2.length : Int) - 1)) : Int).toNat (⟨(rd_T94 x5_2 (wrap64 ((x5_2.length : Int) - 1))).f0, wrap64 (((rd_T94 x5_2 (wrap64 ((x5_2.length : Int) - 1))).f1) + 1), (rd_T94 x5_2 (wrap64 ((x5_2.length : Int) - 1))).f2, (rd_T94 x5_2 (wrap64 ((x5_2.length : Int) - 1))).f3⟩ : S94)) x6_1 (wrap64 (x7_2 + 1)) x8_2 (wrap64 (x9_2 + 1))) else (none)) else (none)) else (if 0 ≤ (wrap64 ((x5_2.length : Int) - 1)) then (if (wrap64 ((x5_2.length : Int) - 1)) < (x5_2.length : Int) then (redlineref11_Changes.l1 kj14 l0 (x5_2.set ((wrap64 ((x5_2.length : Int) - 1)) : Int).toNat (⟨(rd_T94 x5_2 (wrap64 ((x5_2.length : Int) - 1))).f0, (rd_T94 x5_2 (wrap64 ((x5_2.length : Int) - 1))).f1, (rd_T94 x5_2 (wrap64 ((x5_2.length : Int) - 1))).f2, wrap64 (((rd_T94 x5_2 (wrap64 ((x5_2.length : Int) - 1))).f3) + 1)⟩ : S94)) x6_1 x7_2 (wrap64 (x8_2 + 1)) (wrap64 (x9_2 + 1))) else (none)) else (none))) = some (r1, r2) := by rw [if_neg (show ¬ (false = true) by decide)] at H; exact H
                                clear H
                                have H := H1
                                clear H1
                                by_cases c41 : ((rd_T35 ((rd_T24 l0 x6_1).f4) x9_2).f0) = 45
                                · rw [if_pos c41] at H
                                  have c41b0 : (((rd_T35 ((rd_T24 l0 x6_1).f4) x9_2).f0) == 45) = true := beq_iff_eq.mpr c41
                                  have c41b1 : (((rd_T35 ((rd_T24 l0 x6_1).f4) x9_2).f0) != 45) = false := bne_eq_false_iff_eq.mpr c41
                                  clear c41
                                  obtain ⟨ji42, hji42⟩ : ∃ j_ : Int, (wrap64 ((x5_2.length : Int) - 1)) = j_ := ⟨_, rfl⟩
                                  replace H : (if 0 ≤ (ji42) then (if (ji42) < (x5_2.length : Int) then (redlineref11_Changes.l1 kj14 l0 (x5_2.set ((ji42) : Int).toNat (⟨(rd_T94 x5_2 (ji42)).f0, wrap64 (((rd_T94 x5_2 (ji42)).f1) + 1), (rd_T94 x5_2 (ji42)).f2, (rd_T94 x5_2 (ji42)).f3⟩ : S94)) x6_1 (wrap64 (x7_2 + 1)) x8_2 (wrap64 (x9_2 + 1))) else (none)) else (none)) = some (r1, r2) := by first | (rw [hji42] at H; exact H) | (simp only [hji42] at H ⊢; exact H)
                                  have hji42w : (IntKind.i64.wrap ((x5_2.length : Int) - 1)) = ji42 := (i64_w _).trans hji42
                                  by_cases c43 : 0 ≤ (ji42)
                                  · rw [if_pos c43] at H
                                    have c43b0 : decide (0 ≤ (ji42)) = true := decide_eq_true c43
                                    clear c43
                                    by_cases c44 : (ji42) < (x5_2.length : Int)
                                    · rw [if_pos c44] at H
                                      have c44b0 : decide ((ji42) < (x5_2.length : Int)) = true := decide_eq_true c44
                                      clear c44
                                      obtain ⟨y312, hy312⟩ : ∃ y_ : List (S94), y_ = (x5_2.set ((ji42) : Int).toNat (⟨(rd_T94 x5_2 (ji42)).f0, wrap64 (((rd_T94 x5_2 (ji42)).f1) + 1), (rd_T94 x5_2 (ji42)).f2, (rd_T94 x5_2 (ji42)).f3⟩ : S94)) := ⟨_, rfl⟩
                                      replace H : (redlineref11_Changes.l1 kj14 l0 y312 x6_1 (wrap64 (x7_2 + 1)) x8_2 (wrap64 (x9_2 + 1))) = some (r1, r2) := by first | (rw [hy312]; with_reducible exact H) | (have H2_ := (Option.bind_some _ _).symm.trans H; rw [hy312]; with_reducible exact H2_) | (have H2_ := (Option.bind_some _ _).symm.trans H; with_reducible exact H2_) | with_reducible exact H | (rw [hy312]; exact H) | exact H
                                      have Ny312 := Aside0.mk hy312
                                      clear hy312
                                      have H' := Aside0.mk H
                                      clear H
                                      have p311 : 0 ≤ ((ji42) : Int) := of_decide_eq_true (by first | (with_reducible assumption) | assumption)
                                      have q311 : (ji42) < (x5_2.length : Int) := of_decide_eq_true (by first | (with_reducible assumption) | assumption)
                                      obtain ⟨ad311, e311, hx311_0, hx311_1, hx311_2, hx311_3⟩ := at_T94 (Kd.R_reads' HO_5.out).2.2 (ji42) p311 q311
                                      cases e311
                                      replace p311 := eq_true p311
                                      replace q311 := eq_true q311
                                      have p45 : 0 ≤ ((ji42) : Int) := of_decide_eq_true (by first | (with_reducible assumption) | assumption)
                                      have q45 : ((ji42) : Int) < ((x5_2.length : Int) : Int) := of_decide_eq_true (by first | (with_reducible assumption) | assumption)
                                      obtain ⟨go45, co45, eo45, gb45, gl45, cl45, HG45⟩ := Kd.R_form HO_5.out (by omega)
                                      (first | cases eo45 | (injection eo45 with ea_ en_ ec_; (first | subst ea_ | (injection ea_ with ea_; subst ea_)); subst ec_; clear en_))
                                      have GB45 := Aside0.mk gb45
                                      have GG45 := Aside0.mk HG45
                                      clear gb45 gl45 HG45
                                      (first | simp only [add_plain] at hx311_0 | skip)
                                      (first | simp only [add_plain] at hx311_1 | skip)
                                      (first | simp only [add_plain] at hx311_2 | skip)
                                      (first | simp only [add_plain] at hx311_3 | skip)
                                      obtain ⟨ce45, hcl45, hM45, hcc45, hfr45⟩ := Kd.R_elem HO_5.out z94 ((ji42) : Int) p45 q45
                                      obtain rfl := k94_openM hM45
                                      have hx45_0 : wc.cell? ⟨go45, ((ji42) : Int).toNat * 4, none⟩ = some (.int .i64 ((rd_T94 x5_2 (ji42)).f0)) := hcc45 0 _ rfl
                                      have hx45_1 : wc.cell? ⟨go45, ((ji42) : Int).toNat * 4 + 1, none⟩ = some (.int .i64 ((rd_T94 x5_2 (ji42)).f1)) := hcc45 1 _ rfl
                                      have hx45_2 : wc.cell? ⟨go45, ((ji42) : Int).toNat * 4 + 2, none⟩ = some (.int .i64 ((rd_T94 x5_2 (ji42)).f2)) := hcc45 2 _ rfl
                                      have hx45_3 : wc.cell? ⟨go45, ((ji42) : Int).toNat * 4 + 3, none⟩ = some (.int .i64 ((rd_T94 x5_2 (ji42)).f3)) := hcc45 3 _ rfl
                                      have hf45_0 : wc.frozen? ⟨go45, ((ji42) : Int).toNat * 4, none⟩ = false := hfr45 0
                                      have hf45_1 : wc.frozen? ⟨go45, ((ji42) : Int).toNat * 4 + 1, none⟩ = false := hfr45 1
                                      have hf45_2 : wc.frozen? ⟨go45, ((ji42) : Int).toNat * 4 + 2, none⟩ = false := hfr45 2
                                      have hf45_3 : wc.frozen? ⟨go45, ((ji42) : Int).toNat * 4 + 3, none⟩ = false := hfr45 3
                                      clear hcl45 hcc45 hfr45 hM45
                                      replace p45 := eq_true p45
                                      replace q45 := eq_true q45
                                      have HX46 := Aside0.mk (show Kd.R k94 94 wc w.heap.size (fun _ => True) (.slice (some ⟨go45, 0, none⟩) x5_2.length co16) x5_2 from (by (with_reducible repeat (first | apply Kd.R_alloc | apply Kd.R_drewN | apply Kd.R_drew)); exact HO_5.out))
                                      obtain ⟨ce46, hcl46, hM46, hcc46, hfr46⟩ := Kd.R_elem HX46.out z94 ((ji42) : Int) (of_decide_eq_true (by first | (with_reducible assumption) | assumption)) (by have h_ : ((ji42) : Int) < ((x5_2.length : Int) : Int) := of_decide_eq_true (by first | (with_reducible assumption) | assumption); first | exact h_ | (have e_ := (Kd.R_reads' HO_5.out).1; omega) | simpa using h_)
                                      obtain rfl := k94_openM hM46
                                      have HP46 := Kd.R_seg HX46.out ((ji42) : Int) (of_decide_eq_true (by first | (with_reducible assumption) | assumption)) (by have h_ : ((ji42) : Int) < ((x5_2.length : Int) : Int) := of_decide_eq_true (by first | (with_reducible assumption) | assumption); first | exact h_ | (have e_ := (Kd.R_reads' HO_5.out).1; omega) | simpa using h_) (seg := [.int .i64 (wrap64 (((rd_T94 x5_2 (ji42)).f1) + 1))]) (j := 1) hcl46 hcc46 (show 2 ≤ 4 from by decide) (x' := (⟨(rd_T94 x5_2 (ji42)).f0, wrap64 (((rd_T94 x5_2 (ji42)).f1) + 1), (rd_T94 x5_2 (ji42)).f2, (rd_T94 x5_2 (ji42)).f3⟩ : S94)) (k94_mkM _ _ _ (⟨(rd_T94 x5_2 (ji42)).f0, wrap64 (((rd_T94 x5_2 (ji42)).f1) + 1), (rd_T94 x5_2 (ji42)).f2, (rd_T94 x5_2 (ji42)).f3⟩ : S94) ) (fun _ hk => hk)
                                      have hx46_1 := hcc46 1 _ rfl
                                      (try simp only [show (k94).sz = 4 from rfl, Nat.mul_one, Nat.add_zero] at hx46_1)
                                      have hf46_1 := hfr46 1
                                      (try simp only [show (k94).sz = 4 from rfl, Nat.mul_one, Nat.add_zero] at hf46_1)
                                      clear hcl46 hcc46 hfr46 hM46
                                      go_wp2_with (first | ((with_reducible refine gate_store (t := 3) (p := 108) rfl ?_); (try (rw [drewN_self wc]; generalize hq_ : World.drewN wc _ = wc; have n0_ := Aside0.mk (Kd.R_at hq_ HO_5.out); have n1_ := Aside0.mk (below_at hq_ HB.out); clear hq_ HO_5 HB; have HO_5 := n0_; have HB := n1_; clear n0_ n1_; (try (have HX46 := Aside0.mk (show Kd.R k94 94 wc w.heap.size (fun _ => True) (.slice (some ⟨go45, 0, none⟩) x5_2.length co16) x5_2 from (by (with_reducible repeat (first | apply Kd.R_alloc | apply Kd.R_drewN | apply Kd.R_drew)); exact HO_5.out)))); (try (obtain ⟨ce46, hcl46, hM46, hcc46, hfr46⟩ := Kd.R_elem HX46.out z94 ((ji42) : Int) (of_decide_eq_true (by first | (with_reducible assumption) | assumption)) (by have h_ : ((ji42) : Int) < ((x5_2.length : Int) : Int) := of_decide_eq_true (by first | (with_reducible assumption) | assumption); first | exact h_ | (have e_ := (Kd.R_reads' HO_5.out).1; omega) | simpa using h_))); (try (obtain rfl := k94_openM hM46)); (try (have HP46 := Kd.R_seg HX46.out ((ji42) : Int) (of_decide_eq_true (by first | (with_reducible assumption) | assumption)) (by have h_ : ((ji42) : Int) < ((x5_2.length : Int) : Int) := of_decide_eq_true (by first | (with_reducible assumption) | assumption); first | exact h_ | (have e_ := (Kd.R_reads' HO_5.out).1; omega) | simpa using h_) (seg := [.int .i64 (wrap64 (((rd_T94 x5_2 (ji42)).f1) + 1))]) (j := 1) hcl46 hcc46 (show 2 ≤ 4 from by decide) (x' := (⟨(rd_T94 x5_2 (ji42)).f0, wrap64 (((rd_T94 x5_2 (ji42)).f1) + 1), (rd_T94 x5_2 (ji42)).f2, (rd_T94 x5_2 (ji42)).f3⟩ : S94)) (k94_mkM _ _ _ (⟨(rd_T94 x5_2 (ji42)).f0, wrap64 (((rd_T94 x5_2 (ji42)).f1) + 1), (rd_T94 x5_2 (ji42)).f2, (rd_T94 x5_2 (ji42)).f3⟩ : S94) ) (fun _ hk => hk))); (try (have hx46_1 := hcc46 1 _ rfl)); (try (try simp only [show (k94).sz = 4 from rfl, Nat.mul_one, Nat.add_zero] at hx46_1)); (try (have hf46_1 := hfr46 1)); (try (try simp only [show (k94).sz = 4 from rfl, Nat.mul_one, Nat.add_zero] at hf46_1)); (try (clear hcl46 hcc46 hfr46 hM46)))); refine store_event (t := 3) (p := 108) (v := ?vo_w47) (w1 := (wc.setCell ⟨go45, ((ji42) : Int).toNat * 4 + 1, none⟩ (.int .i64 (wrap64 (((rd_T94 x5_2 (ji42)).f1) + 1))))) ?hg ?ho ?hn ?hr ?_; (case ho => rfl); (case hg => rfl); (case hn => rfl); (case hr => first | (go_simp; done) | (go_simp; rfl)); intro w47 hw; have hg : wc.grownBy w47 (some go45) := (by rw [hw]; exact HP46.2); have hp_ : Kd.R k94 94 w47 w.heap.size (fun _ => True) (.slice (some ⟨go45, 0, none⟩) x5_2.length co16) y312 := (by rw [hw, Ny312.out]; exact HP46.1); clear HP46; have n0_ := Aside0.mk (hp_); have n1_ := Aside0.mk ((by rw [hw]; exact below_set (HB.out) GB45.out : Below w.heap.size w w47)); clear HO_5; clear HB; have HO_5 := n0_; have HB := n1_; clear n0_ n1_; clear hg hw hp_))
                                      repeat (go_quiet (first | ((with_reducible refine gate_store (t := 3) (p := 108) rfl ?_); (try (rw [drewN_self wc]; generalize hq_ : World.drewN wc _ = wc; have n0_ := Aside0.mk (Kd.R_at hq_ HO_5.out); have n1_ := Aside0.mk (below_at hq_ HB.out); clear hq_ HO_5 HB; have HO_5 := n0_; have HB := n1_; clear n0_ n1_; (try (have HX46 := Aside0.mk (show Kd.R k94 94 wc w.heap.size (fun _ => True) (.slice (some ⟨go45, 0, none⟩) x5_2.length co16) x5_2 from (by (with_reducible repeat (first | apply Kd.R_alloc | apply Kd.R_drewN | apply Kd.R_drew)); exact HO_5.out)))); (try (obtain ⟨ce46, hcl46, hM46, hcc46, hfr46⟩ := Kd.R_elem HX46.out z94 ((ji42) : Int) (of_decide_eq_true (by first | (with_reducible assumption) | assumption)) (by have h_ : ((ji42) : Int) < ((x5_2.length : Int) : Int) := of_decide_eq_true (by first | (with_reducible assumption) | assumption); first | exact h_ | (have e_ := (Kd.R_reads' HO_5.out).1; omega) | simpa using h_))); (try (obtain rfl := k94_openM hM46)); (try (have HP46 := Kd.R_seg HX46.out ((ji42) : Int) (of_decide_eq_true (by first | (with_reducible assumption) | assumption)) (by have h_ : ((ji42) : Int) < ((x5_2.length : Int) : Int) := of_decide_eq_true (by first | (with_reducible assumption) | assumption); first | exact h_ | (have e_ := (Kd.R_reads' HO_5.out).1; omega) | simpa using h_) (seg := [.int .i64 (wrap64 (((rd_T94 x5_2 (ji42)).f1) + 1))]) (j := 1) hcl46 hcc46 (show 2 ≤ 4 from by decide) (x' := (⟨(rd_T94 x5_2 (ji42)).f0, wrap64 (((rd_T94 x5_2 (ji42)).f1) + 1), (rd_T94 x5_2 (ji42)).f2, (rd_T94 x5_2 (ji42)).f3⟩ : S94)) (k94_mkM _ _ _ (⟨(rd_T94 x5_2 (ji42)).f0, wrap64 (((rd_T94 x5_2 (ji42)).f1) + 1), (rd_T94 x5_2 (ji42)).f2, (rd_T94 x5_2 (ji42)).f3⟩ : S94) ) (fun _ hk => hk))); (try (have hx46_1 := hcc46 1 _ rfl)); (try (try simp only [show (k94).sz = 4 from rfl, Nat.mul_one, Nat.add_zero] at hx46_1)); (try (have hf46_1 := hfr46 1)); (try (try simp only [show (k94).sz = 4 from rfl, Nat.mul_one, Nat.add_zero] at hf46_1)); (try (clear hcl46 hcc46 hfr46 hM46)))); refine store_event (t := 3) (p := 108) (v := ?vo_w47) (w1 := (wc.setCell ⟨go45, ((ji42) : Int).toNat * 4 + 1, none⟩ (.int .i64 (wrap64 (((rd_T94 x5_2 (ji42)).f1) + 1))))) ?hg ?ho ?hn ?hr ?_; (case ho => rfl); (case hg => rfl); (case hn => rfl); (case hr => first | (go_simp; done) | (go_simp; rfl)); intro w47 hw; have hg : wc.grownBy w47 (some go45) := (by rw [hw]; exact HP46.2); have hp_ : Kd.R k94 94 w47 w.heap.size (fun _ => True) (.slice (some ⟨go45, 0, none⟩) x5_2.length co16) y312 := (by rw [hw, Ny312.out]; exact HP46.1); clear HP46; have n0_ := Aside0.mk (hp_); have n1_ := Aside0.mk ((by rw [hw]; exact below_set (HB.out) GB45.out : Below w.heap.size w w47)); clear HO_5; clear HB; have HO_5 := n0_; have HB := n1_; clear n0_ n1_; clear hg hw hp_)); try go_wp2_with (first | ((with_reducible refine gate_store (t := 3) (p := 108) rfl ?_); (try (rw [drewN_self wc]; generalize hq_ : World.drewN wc _ = wc; have n0_ := Aside0.mk (Kd.R_at hq_ HO_5.out); have n1_ := Aside0.mk (below_at hq_ HB.out); clear hq_ HO_5 HB; have HO_5 := n0_; have HB := n1_; clear n0_ n1_; (try (have HX46 := Aside0.mk (show Kd.R k94 94 wc w.heap.size (fun _ => True) (.slice (some ⟨go45, 0, none⟩) x5_2.length co16) x5_2 from (by (with_reducible repeat (first | apply Kd.R_alloc | apply Kd.R_drewN | apply Kd.R_drew)); exact HO_5.out)))); (try (obtain ⟨ce46, hcl46, hM46, hcc46, hfr46⟩ := Kd.R_elem HX46.out z94 ((ji42) : Int) (of_decide_eq_true (by first | (with_reducible assumption) | assumption)) (by have h_ : ((ji42) : Int) < ((x5_2.length : Int) : Int) := of_decide_eq_true (by first | (with_reducible assumption) | assumption); first | exact h_ | (have e_ := (Kd.R_reads' HO_5.out).1; omega) | simpa using h_))); (try (obtain rfl := k94_openM hM46)); (try (have HP46 := Kd.R_seg HX46.out ((ji42) : Int) (of_decide_eq_true (by first | (with_reducible assumption) | assumption)) (by have h_ : ((ji42) : Int) < ((x5_2.length : Int) : Int) := of_decide_eq_true (by first | (with_reducible assumption) | assumption); first | exact h_ | (have e_ := (Kd.R_reads' HO_5.out).1; omega) | simpa using h_) (seg := [.int .i64 (wrap64 (((rd_T94 x5_2 (ji42)).f1) + 1))]) (j := 1) hcl46 hcc46 (show 2 ≤ 4 from by decide) (x' := (⟨(rd_T94 x5_2 (ji42)).f0, wrap64 (((rd_T94 x5_2 (ji42)).f1) + 1), (rd_T94 x5_2 (ji42)).f2, (rd_T94 x5_2 (ji42)).f3⟩ : S94)) (k94_mkM _ _ _ (⟨(rd_T94 x5_2 (ji42)).f0, wrap64 (((rd_T94 x5_2 (ji42)).f1) + 1), (rd_T94 x5_2 (ji42)).f2, (rd_T94 x5_2 (ji42)).f3⟩ : S94) ) (fun _ hk => hk))); (try (have hx46_1 := hcc46 1 _ rfl)); (try (try simp only [show (k94).sz = 4 from rfl, Nat.mul_one, Nat.add_zero] at hx46_1)); (try (have hf46_1 := hfr46 1)); (try (try simp only [show (k94).sz = 4 from rfl, Nat.mul_one, Nat.add_zero] at hf46_1)); (try (clear hcl46 hcc46 hfr46 hM46)))); refine store_event (t := 3) (p := 108) (v := ?vo_w47) (w1 := (wc.setCell ⟨go45, ((ji42) : Int).toNat * 4 + 1, none⟩ (.int .i64 (wrap64 (((rd_T94 x5_2 (ji42)).f1) + 1))))) ?hg ?ho ?hn ?hr ?_; (case ho => rfl); (case hg => rfl); (case hn => rfl); (case hr => first | (go_simp; done) | (go_simp; rfl)); intro w47 hw; have hg : wc.grownBy w47 (some go45) := (by rw [hw]; exact HP46.2); have hp_ : Kd.R k94 94 w47 w.heap.size (fun _ => True) (.slice (some ⟨go45, 0, none⟩) x5_2.length co16) y312 := (by rw [hw, Ny312.out]; exact HP46.1); clear HP46; have n0_ := Aside0.mk (hp_); have n1_ := Aside0.mk ((by rw [hw]; exact below_set (HB.out) GB45.out : Below w.heap.size w w47)); clear HO_5; clear HB; have HO_5 := n0_; have HB := n1_; clear n0_ n1_; clear hg hw hp_)))
                                      go_roundg kj14
                                      case measure => have := HK1.out; have := HK2.out; have := HJ14.out; omega
                                      case rel => exact ⟨(y312), (wrap64 (x7_2 + 1)), (x8_2), (wrap64 (x9_2 + 1)), (by first | rfl | (simp; done) | (simp [*]; done)), (by first | rfl | (simp; done) | (simp [*]; done)), (by first | rfl | (simp; done) | (simp [*]; done)), H', ⟨by have := HK1.out; have := HK2.out; have := HJ14.out; omega⟩, ⟨by (with_reducible repeat (first | apply Kd.R_alloc | apply Kd.R_drewN | apply Kd.R_drew)); exact HO_5.out⟩, ⟨by repeat (first | (with_reducible first | exact HB.out | apply below_alloc | apply pw_below_drewN | apply below_drew1) | exact HB.out)⟩⟩
                                    · rw [if_neg c44] at H
                                      exact absurd H (by simp)
                                  · rw [if_neg c43] at H
                                    exact absurd H (by simp)
                                · rw [if_neg c41] at H
                                  have c41b0 : (((rd_T35 ((rd_T24 l0 x6_1).f4) x9_2).f0) == 45) = false := beq_eq_false_iff_ne.mpr c41
                                  have c41b1 : (((rd_T35 ((rd_T24 l0 x6_1).f4) x9_2).f0) != 45) = true := bne_iff_ne.mpr c41
                                  obtain ⟨ji48, hji48⟩ : ∃ j_ : Int, (wrap64 ((x5_2.length : Int) - 1)) = j_ := ⟨_, rfl⟩
                                  replace H : (if 0 ≤ (ji48) then (if (ji48) < (x5_2.length : Int) then (redlineref11_Changes.l1 kj14 l0 (x5_2.set ((ji48) : Int).toNat (⟨(rd_T94 x5_2 (ji48)).f0, (rd_T94 x5_2 (ji48)).f1, (rd_T94 x5_2 (ji48)).f2, wrap64 (((rd_T94 x5_2 (ji48)).f3) + 1)⟩ : S94)) x6_1 x7_2 (wrap64 (x8_2 + 1)) (wrap64 (x9_2 + 1))) else (none)) else (none)) = some (r1, r2) := by first | (rw [hji48] at H; exact H) | (simp only [hji48] at H ⊢; exact H)
                                  have hji48w : (IntKind.i64.wrap ((x5_2.length : Int) - 1)) = ji48 := (i64_w _).trans hji48
                                  by_cases c49 : 0 ≤ (ji48)
                                  · rw [if_pos c49] at H
                                    have c49b0 : decide (0 ≤ (ji48)) = true := decide_eq_true c49
                                    clear c49
                                    by_cases c50 : (ji48) < (x5_2.length : Int)
                                    · rw [if_pos c50] at H
                                      have c50b0 : decide ((ji48) < (x5_2.length : Int)) = true := decide_eq_true c50
                                      clear c50
                                      obtain ⟨y314, hy314⟩ : ∃ y_ : List (S94), y_ = (x5_2.set ((ji48) : Int).toNat (⟨(rd_T94 x5_2 (ji48)).f0, (rd_T94 x5_2 (ji48)).f1, (rd_T94 x5_2 (ji48)).f2, wrap64 (((rd_T94 x5_2 (ji48)).f3) + 1)⟩ : S94)) := ⟨_, rfl⟩
                                      replace H : (redlineref11_Changes.l1 kj14 l0 y314 x6_1 x7_2 (wrap64 (x8_2 + 1)) (wrap64 (x9_2 + 1))) = some (r1, r2) := by first | (rw [hy314]; with_reducible exact H) | (have H2_ := (Option.bind_some _ _).symm.trans H; rw [hy314]; with_reducible exact H2_) | (have H2_ := (Option.bind_some _ _).symm.trans H; with_reducible exact H2_) | with_reducible exact H | (rw [hy314]; exact H) | exact H
                                      have Ny314 := Aside0.mk hy314
                                      clear hy314
                                      have H' := Aside0.mk H
                                      clear H
                                      have p313 : 0 ≤ ((ji48) : Int) := of_decide_eq_true (by first | (with_reducible assumption) | assumption)
                                      have q313 : (ji48) < (x5_2.length : Int) := of_decide_eq_true (by first | (with_reducible assumption) | assumption)
                                      obtain ⟨ad313, e313, hx313_0, hx313_1, hx313_2, hx313_3⟩ := at_T94 (Kd.R_reads' HO_5.out).2.2 (ji48) p313 q313
                                      cases e313
                                      replace p313 := eq_true p313
                                      replace q313 := eq_true q313
                                      have p51 : 0 ≤ ((ji48) : Int) := of_decide_eq_true (by first | (with_reducible assumption) | assumption)
                                      have q51 : ((ji48) : Int) < ((x5_2.length : Int) : Int) := of_decide_eq_true (by first | (with_reducible assumption) | assumption)
                                      obtain ⟨go51, co51, eo51, gb51, gl51, cl51, HG51⟩ := Kd.R_form HO_5.out (by omega)
                                      (first | cases eo51 | (injection eo51 with ea_ en_ ec_; (first | subst ea_ | (injection ea_ with ea_; subst ea_)); subst ec_; clear en_))
                                      have GB51 := Aside0.mk gb51
                                      have GG51 := Aside0.mk HG51
                                      clear gb51 gl51 HG51
                                      (first | simp only [add_plain] at hx313_0 | skip)
                                      (first | simp only [add_plain] at hx313_1 | skip)
                                      (first | simp only [add_plain] at hx313_2 | skip)
                                      (first | simp only [add_plain] at hx313_3 | skip)
                                      obtain ⟨ce51, hcl51, hM51, hcc51, hfr51⟩ := Kd.R_elem HO_5.out z94 ((ji48) : Int) p51 q51
                                      obtain rfl := k94_openM hM51
                                      have hx51_0 : wc.cell? ⟨go51, ((ji48) : Int).toNat * 4, none⟩ = some (.int .i64 ((rd_T94 x5_2 (ji48)).f0)) := hcc51 0 _ rfl
                                      have hx51_1 : wc.cell? ⟨go51, ((ji48) : Int).toNat * 4 + 1, none⟩ = some (.int .i64 ((rd_T94 x5_2 (ji48)).f1)) := hcc51 1 _ rfl
                                      have hx51_2 : wc.cell? ⟨go51, ((ji48) : Int).toNat * 4 + 2, none⟩ = some (.int .i64 ((rd_T94 x5_2 (ji48)).f2)) := hcc51 2 _ rfl
                                      have hx51_3 : wc.cell? ⟨go51, ((ji48) : Int).toNat * 4 + 3, none⟩ = some (.int .i64 ((rd_T94 x5_2 (ji48)).f3)) := hcc51 3 _ rfl
                                      have hf51_0 : wc.frozen? ⟨go51, ((ji48) : Int).toNat * 4, none⟩ = false := hfr51 0
                                      have hf51_1 : wc.frozen? ⟨go51, ((ji48) : Int).toNat * 4 + 1, none⟩ = false := hfr51 1
                                      have hf51_2 : wc.frozen? ⟨go51, ((ji48) : Int).toNat * 4 + 2, none⟩ = false := hfr51 2
                                      have hf51_3 : wc.frozen? ⟨go51, ((ji48) : Int).toNat * 4 + 3, none⟩ = false := hfr51 3
                                      clear hcl51 hcc51 hfr51 hM51
                                      replace p51 := eq_true p51
                                      replace q51 := eq_true q51
                                      have HX52 := Aside0.mk (show Kd.R k94 94 wc w.heap.size (fun _ => True) (.slice (some ⟨go51, 0, none⟩) x5_2.length co16) x5_2 from (by (with_reducible repeat (first | apply Kd.R_alloc | apply Kd.R_drewN | apply Kd.R_drew)); exact HO_5.out))
                                      obtain ⟨ce52, hcl52, hM52, hcc52, hfr52⟩ := Kd.R_elem HX52.out z94 ((ji48) : Int) (of_decide_eq_true (by first | (with_reducible assumption) | assumption)) (by have h_ : ((ji48) : Int) < ((x5_2.length : Int) : Int) := of_decide_eq_true (by first | (with_reducible assumption) | assumption); first | exact h_ | (have e_ := (Kd.R_reads' HO_5.out).1; omega) | simpa using h_)
                                      obtain rfl := k94_openM hM52
                                      have HP52 := Kd.R_seg HX52.out ((ji48) : Int) (of_decide_eq_true (by first | (with_reducible assumption) | assumption)) (by have h_ : ((ji48) : Int) < ((x5_2.length : Int) : Int) := of_decide_eq_true (by first | (with_reducible assumption) | assumption); first | exact h_ | (have e_ := (Kd.R_reads' HO_5.out).1; omega) | simpa using h_) (seg := [.int .i64 (wrap64 (((rd_T94 x5_2 (ji48)).f3) + 1))]) (j := 3) hcl52 hcc52 (show 4 ≤ 4 from by decide) (x' := (⟨(rd_T94 x5_2 (ji48)).f0, (rd_T94 x5_2 (ji48)).f1, (rd_T94 x5_2 (ji48)).f2, wrap64 (((rd_T94 x5_2 (ji48)).f3) + 1)⟩ : S94)) (k94_mkM _ _ _ (⟨(rd_T94 x5_2 (ji48)).f0, (rd_T94 x5_2 (ji48)).f1, (rd_T94 x5_2 (ji48)).f2, wrap64 (((rd_T94 x5_2 (ji48)).f3) + 1)⟩ : S94) ) (fun _ hk => hk)
                                      have hx52_3 := hcc52 3 _ rfl
                                      (try simp only [show (k94).sz = 4 from rfl, Nat.mul_one, Nat.add_zero] at hx52_3)
                                      have hf52_3 := hfr52 3
                                      (try simp only [show (k94).sz = 4 from rfl, Nat.mul_one, Nat.add_zero] at hf52_3)
                                      clear hcl52 hcc52 hfr52 hM52
                                      go_wp2_with (first | ((with_reducible refine gate_store (t := 3) (p := 118) rfl ?_); (try (rw [drewN_self wc]; generalize hq_ : World.drewN wc _ = wc; have n0_ := Aside0.mk (Kd.R_at hq_ HO_5.out); have n1_ := Aside0.mk (below_at hq_ HB.out); clear hq_ HO_5 HB; have HO_5 := n0_; have HB := n1_; clear n0_ n1_; (try (have HX52 := Aside0.mk (show Kd.R k94 94 wc w.heap.size (fun _ => True) (.slice (some ⟨go51, 0, none⟩) x5_2.length co16) x5_2 from (by (with_reducible repeat (first | apply Kd.R_alloc | apply Kd.R_drewN | apply Kd.R_drew)); exact HO_5.out)))); (try (obtain ⟨ce52, hcl52, hM52, hcc52, hfr52⟩ := Kd.R_elem HX52.out z94 ((ji48) : Int) (of_decide_eq_true (by first | (with_reducible assumption) | assumption)) (by have h_ : ((ji48) : Int) < ((x5_2.length : Int) : Int) := of_decide_eq_true (by first | (with_reducible assumption) | assumption); first | exact h_ | (have e_ := (Kd.R_reads' HO_5.out).1; omega) | simpa using h_))); (try (obtain rfl := k94_openM hM52)); (try (have HP52 := Kd.R_seg HX52.out ((ji48) : Int) (of_decide_eq_true (by first | (with_reducible assumption) | assumption)) (by have h_ : ((ji48) : Int) < ((x5_2.length : Int) : Int) := of_decide_eq_true (by first | (with_reducible assumption) | assumption); first | exact h_ | (have e_ := (Kd.R_reads' HO_5.out).1; omega) | simpa using h_) (seg := [.int .i64 (wrap64 (((rd_T94 x5_2 (ji48)).f3) + 1))]) (j := 3) hcl52 hcc52 (show 4 ≤ 4 from by decide) (x' := (⟨(rd_T94 x5_2 (ji48)).f0, (rd_T94 x5_2 (ji48)).f1, (rd_T94 x5_2 (ji48)).f2, wrap64 (((rd_T94 x5_2 (ji48)).f3) + 1)⟩ : S94)) (k94_mkM _ _ _ (⟨(rd_T94 x5_2 (ji48)).f0, (rd_T94 x5_2 (ji48)).f1, (rd_T94 x5_2 (ji48)).f2, wrap64 (((rd_T94 x5_2 (ji48)).f3) + 1)⟩ : S94) ) (fun _ hk => hk))); (try (have hx52_3 := hcc52 3 _ rfl)); (try (try simp only [show (k94).sz = 4 from rfl, Nat.mul_one, Nat.add_zero] at hx52_3)); (try (have hf52_3 := hfr52 3)); (try (try simp only [show (k94).sz = 4 from rfl, Nat.mul_one, Nat.add_zero] at hf52_3)); (try (clear hcl52 hcc52 hfr52 hM52)))); refine store_event (t := 3) (p := 118) (v := ?vo_w53) (w1 := (wc.setCell ⟨go51, ((ji48) : Int).toNat * 4 + 3, none⟩ (.int .i64 (wrap64 (((rd_T94 x5_2 (ji48)).f3) + 1))))) ?hg ?ho ?hn ?hr ?_; (case ho => rfl); (case hg => rfl); (case hn => rfl); (case hr => first | (go_simp; done) | (go_simp; rfl)); intro w53 hw; have hg : wc.grownBy w53 (some go51) := (by rw [hw]; exact HP52.2); have hp_ : Kd.R k94 94 w53 w.heap.size (fun _ => True) (.slice (some ⟨go51, 0, none⟩) x5_2.length co16) y314 := (by rw [hw, Ny314.out]; exact HP52.1); clear HP52; have n0_ := Aside0.mk (hp_); have n1_ := Aside0.mk ((by rw [hw]; exact below_set (HB.out) GB51.out : Below w.heap.size w w53)); clear HO_5; clear HB; have HO_5 := n0_; have HB := n1_; clear n0_ n1_; clear hg hw hp_))
                                      repeat (go_quiet (first | ((with_reducible refine gate_store (t := 3) (p := 118) rfl ?_); (try (rw [drewN_self wc]; generalize hq_ : World.drewN wc _ = wc; have n0_ := Aside0.mk (Kd.R_at hq_ HO_5.out); have n1_ := Aside0.mk (below_at hq_ HB.out); clear hq_ HO_5 HB; have HO_5 := n0_; have HB := n1_; clear n0_ n1_; (try (have HX52 := Aside0.mk (show Kd.R k94 94 wc w.heap.size (fun _ => True) (.slice (some ⟨go51, 0, none⟩) x5_2.length co16) x5_2 from (by (with_reducible repeat (first | apply Kd.R_alloc | apply Kd.R_drewN | apply Kd.R_drew)); exact HO_5.out)))); (try (obtain ⟨ce52, hcl52, hM52, hcc52, hfr52⟩ := Kd.R_elem HX52.out z94 ((ji48) : Int) (of_decide_eq_true (by first | (with_reducible assumption) | assumption)) (by have h_ : ((ji48) : Int) < ((x5_2.length : Int) : Int) := of_decide_eq_true (by first | (with_reducible assumption) | assumption); first | exact h_ | (have e_ := (Kd.R_reads' HO_5.out).1; omega) | simpa using h_))); (try (obtain rfl := k94_openM hM52)); (try (have HP52 := Kd.R_seg HX52.out ((ji48) : Int) (of_decide_eq_true (by first | (with_reducible assumption) | assumption)) (by have h_ : ((ji48) : Int) < ((x5_2.length : Int) : Int) := of_decide_eq_true (by first | (with_reducible assumption) | assumption); first | exact h_ | (have e_ := (Kd.R_reads' HO_5.out).1; omega) | simpa using h_) (seg := [.int .i64 (wrap64 (((rd_T94 x5_2 (ji48)).f3) + 1))]) (j := 3) hcl52 hcc52 (show 4 ≤ 4 from by decide) (x' := (⟨(rd_T94 x5_2 (ji48)).f0, (rd_T94 x5_2 (ji48)).f1, (rd_T94 x5_2 (ji48)).f2, wrap64 (((rd_T94 x5_2 (ji48)).f3) + 1)⟩ : S94)) (k94_mkM _ _ _ (⟨(rd_T94 x5_2 (ji48)).f0, (rd_T94 x5_2 (ji48)).f1, (rd_T94 x5_2 (ji48)).f2, wrap64 (((rd_T94 x5_2 (ji48)).f3) + 1)⟩ : S94) ) (fun _ hk => hk))); (try (have hx52_3 := hcc52 3 _ rfl)); (try (try simp only [show (k94).sz = 4 from rfl, Nat.mul_one, Nat.add_zero] at hx52_3)); (try (have hf52_3 := hfr52 3)); (try (try simp only [show (k94).sz = 4 from rfl, Nat.mul_one, Nat.add_zero] at hf52_3)); (try (clear hcl52 hcc52 hfr52 hM52)))); refine store_event (t := 3) (p := 118) (v := ?vo_w53) (w1 := (wc.setCell ⟨go51, ((ji48) : Int).toNat * 4 + 3, none⟩ (.int .i64 (wrap64 (((rd_T94 x5_2 (ji48)).f3) + 1))))) ?hg ?ho ?hn ?hr ?_; (case ho => rfl); (case hg => rfl); (case hn => rfl); (case hr => first | (go_simp; done) | (go_simp; rfl)); intro w53 hw; have hg : wc.grownBy w53 (some go51) := (by rw [hw]; exact HP52.2); have hp_ : Kd.R k94 94 w53 w.heap.size (fun _ => True) (.slice (some ⟨go51, 0, none⟩) x5_2.length co16) y314 := (by rw [hw, Ny314.out]; exact HP52.1); clear HP52; have n0_ := Aside0.mk (hp_); have n1_ := Aside0.mk ((by rw [hw]; exact below_set (HB.out) GB51.out : Below w.heap.size w w53)); clear HO_5; clear HB; have HO_5 := n0_; have HB := n1_; clear n0_ n1_; clear hg hw hp_)); try go_wp2_with (first | ((with_reducible refine gate_store (t := 3) (p := 118) rfl ?_); (try (rw [drewN_self wc]; generalize hq_ : World.drewN wc _ = wc; have n0_ := Aside0.mk (Kd.R_at hq_ HO_5.out); have n1_ := Aside0.mk (below_at hq_ HB.out); clear hq_ HO_5 HB; have HO_5 := n0_; have HB := n1_; clear n0_ n1_; (try (have HX52 := Aside0.mk (show Kd.R k94 94 wc w.heap.size (fun _ => True) (.slice (some ⟨go51, 0, none⟩) x5_2.length co16) x5_2 from (by (with_reducible repeat (first | apply Kd.R_alloc | apply Kd.R_drewN | apply Kd.R_drew)); exact HO_5.out)))); (try (obtain ⟨ce52, hcl52, hM52, hcc52, hfr52⟩ := Kd.R_elem HX52.out z94 ((ji48) : Int) (of_decide_eq_true (by first | (with_reducible assumption) | assumption)) (by have h_ : ((ji48) : Int) < ((x5_2.length : Int) : Int) := of_decide_eq_true (by first | (with_reducible assumption) | assumption); first | exact h_ | (have e_ := (Kd.R_reads' HO_5.out).1; omega) | simpa using h_))); (try (obtain rfl := k94_openM hM52)); (try (have HP52 := Kd.R_seg HX52.out ((ji48) : Int) (of_decide_eq_true (by first | (with_reducible assumption) | assumption)) (by have h_ : ((ji48) : Int) < ((x5_2.length : Int) : Int) := of_decide_eq_true (by first | (with_reducible assumption) | assumption); first | exact h_ | (have e_ := (Kd.R_reads' HO_5.out).1; omega) | simpa using h_) (seg := [.int .i64 (wrap64 (((rd_T94 x5_2 (ji48)).f3) + 1))]) (j := 3) hcl52 hcc52 (show 4 ≤ 4 from by decide) (x' := (⟨(rd_T94 x5_2 (ji48)).f0, (rd_T94 x5_2 (ji48)).f1, (rd_T94 x5_2 (ji48)).f2, wrap64 (((rd_T94 x5_2 (ji48)).f3) + 1)⟩ : S94)) (k94_mkM _ _ _ (⟨(rd_T94 x5_2 (ji48)).f0, (rd_T94 x5_2 (ji48)).f1, (rd_T94 x5_2 (ji48)).f2, wrap64 (((rd_T94 x5_2 (ji48)).f3) + 1)⟩ : S94) ) (fun _ hk => hk))); (try (have hx52_3 := hcc52 3 _ rfl)); (try (try simp only [show (k94).sz = 4 from rfl, Nat.mul_one, Nat.add_zero] at hx52_3)); (try (have hf52_3 := hfr52 3)); (try (try simp only [show (k94).sz = 4 from rfl, Nat.mul_one, Nat.add_zero] at hf52_3)); (try (clear hcl52 hcc52 hfr52 hM52)))); refine store_event (t := 3) (p := 118) (v := ?vo_w53) (w1 := (wc.setCell ⟨go51, ((ji48) : Int).toNat * 4 + 3, none⟩ (.int .i64 (wrap64 (((rd_T94 x5_2 (ji48)).f3) + 1))))) ?hg ?ho ?hn ?hr ?_; (case ho => rfl); (case hg => rfl); (case hn => rfl); (case hr => first | (go_simp; done) | (go_simp; rfl)); intro w53 hw; have hg : wc.grownBy w53 (some go51) := (by rw [hw]; exact HP52.2); have hp_ : Kd.R k94 94 w53 w.heap.size (fun _ => True) (.slice (some ⟨go51, 0, none⟩) x5_2.length co16) y314 := (by rw [hw, Ny314.out]; exact HP52.1); clear HP52; have n0_ := Aside0.mk (hp_); have n1_ := Aside0.mk ((by rw [hw]; exact below_set (HB.out) GB51.out : Below w.heap.size w w53)); clear HO_5; clear HB; have HO_5 := n0_; have HB := n1_; clear n0_ n1_; clear hg hw hp_)))
                                      go_roundg kj14
                                      case measure => have := HK1.out; have := HK2.out; have := HJ14.out; omega
                                      case rel => exact ⟨(y314), (x7_2), (wrap64 (x8_2 + 1)), (wrap64 (x9_2 + 1)), (by first | rfl | (simp; done) | (simp [*]; done)), (by first | rfl | (simp; done) | (simp [*]; done)), (by first | rfl | (simp; done) | (simp [*]; done)), H', ⟨by have := HK1.out; have := HK2.out; have := HJ14.out; omega⟩, ⟨by (with_reducible repeat (first | apply Kd.R_alloc | apply Kd.R_drewN | apply Kd.R_drew)); exact HO_5.out⟩, ⟨by repeat (first | (with_reducible first | exact HB.out | apply below_alloc | apply pw_below_drewN | apply below_drew1) | exact HB.out)⟩⟩
                                    · rw [if_neg c50] at H
                                      exact absurd H (by simp)
                                  · rw [if_neg c49] at H
                                    exact absurd H (by simp)
                      · rw [if_neg c12] at H
                        exact absurd H (by simp)
                    · rw [if_neg c11] at H
                      have c11b0 : decide (x9_2 < (((rd_T24 l0 x6_1).f4).length : Int)) = false := decide_eq_false c11
                      clear c11
                      have H' := Aside0.mk H
                      clear H
                      have p297 : 0 ≤ (x6_1 : Int) := of_decide_eq_true (by first | (with_reducible assumption) | assumption)
                      have q297 : x6_1 < (l0.length : Int) := of_decide_eq_true (by first | (with_reducible assumption) | assumption)
                      obtain ⟨ad297, A297_4, c297_4, e297, hx297_0, hx297_1, hx297_2, hx297_3, hx297_4, hl297_4, hi297_4⟩ := at_T24 HR0.out x6_1 p297 q297
                      obtain rfl : ad294 = ad297 := (by injection e297)
                      replace hx297_0 := (HB.out.cell (World.block_lt_of_cell? w _ hx297_0)).trans hx297_0
                      replace hx297_1 := (HB.out.cell (World.block_lt_of_cell? w _ hx297_1)).trans hx297_1
                      replace hx297_2 := (HB.out.cell (World.block_lt_of_cell? w _ hx297_2)).trans hx297_2
                      replace hx297_3 := (HB.out.cell (World.block_lt_of_cell? w _ hx297_3)).trans hx297_3
                      replace hx297_4 := (HB.out.cell (World.block_lt_of_cell? w _ hx297_4)).trans hx297_4
                      have HR297_4 := Aside0.mk hi297_4
                      have HC297_4 := Aside0.mk hl297_4
                      clear hi297_4 hl297_4
                      replace p297 := eq_true p297
                      replace q297 := eq_true q297
                      go_wp2
                      repeat (go_quiet (fail); try go_wp2)
                      go_roundg k2
                      case measure => have := HK1.out; have := HK2.out; omega
                      case rel => exact ⟨(x5_2), (wrap64 (x6_1 + 1)), (by first | rfl | (simp; done) | (simp [*]; done)), H', ⟨by have := HK1.out; have := HK2.out; omega⟩, ⟨by (with_reducible repeat (first | apply Kd.R_alloc | apply Kd.R_drewN | apply Kd.R_drew)); exact HO_5.out⟩, ⟨by repeat (first | (with_reducible first | exact HB.out | apply below_alloc | apply pw_below_drewN | apply below_drew1) | exact HB.out)⟩⟩
                  · rw [if_neg c10] at H
                    exact absurd H (by simp)
                · rw [if_neg c9] at H
                  exact absurd H (by simp)
          · rw [if_neg c6] at H
            exact absurd H (by simp)
        · rw [if_neg c5] at H
          have c5b0 : decide (x6_1 < (l0.length : Int)) = false := decide_eq_false c5
          clear c5
          simp only [Option.some.injEq, Prod.mk.injEq] at H
          obtain ⟨rfl, rfl⟩ := H
          go_wp2
          repeat (go_quiet (fail); try go_wp2)
          go_ret2
          exact ⟨_, by first | rfl | (simp [errW_none, errW_some] <;> rfl) | (simp [*, errW_none, errW_some] <;> rfl), by (with_reducible repeat (first | apply Kd.R_alloc | apply Kd.R_drewN | apply Kd.R_drew)); exact HO_5.out, by repeat (first | (with_reducible first | exact HB.out | apply below_alloc | apply pw_below_drewN | apply below_drew1) | exact HB.out)⟩
  · rw [if_neg c3] at H
    have c3b0 : (t293 == 0) = false := beq_eq_false_iff_ne.mpr c3
    have c3b1 : (t293 != 0) = true := bne_iff_ne.mpr c3
    simp only [Option.some.injEq, Prod.mk.injEq] at H
    obtain ⟨rfl, rfl⟩ := H
    go_enter Try.func25, Try.ntmps25
    go_wp2_with (first | (go_at_call 27; (with_reducible refine (redlineref11_Order.calls k _ _ l0 t293 _ ?side1 ?side2 A2.out).mono ?_); (case side1 => repeat (first | exact HR0.out | (with_reducible refine Kd.C_alloc ?_ _) | (with_reducible refine Kd.C_drewN ?_ _) | (with_reducible refine Kd.C_drew ?_))); (case side2 => exact HC0.out); rintro e w54 ⟨rfl, hb⟩; have n0_ := Aside0.mk (below_step (by repeat (first | (with_reducible first | exact HB.out | apply below_alloc | apply pw_below_drewN | apply below_drew1) | exact HB.out)) hb); clear HB; have HB := n0_; clear n0_; (try clear hb); (try clear hb2); (try clear hk); (try clear hi)))
    repeat (go_quiet (first | (go_at_call 27; (with_reducible refine (redlineref11_Order.calls k _ _ l0 t293 _ ?side1 ?side2 A2.out).mono ?_); (case side1 => repeat (first | exact HR0.out | (with_reducible refine Kd.C_alloc ?_ _) | (with_reducible refine Kd.C_drewN ?_ _) | (with_reducible refine Kd.C_drew ?_))); (case side2 => exact HC0.out); rintro e w54 ⟨rfl, hb⟩; have n0_ := Aside0.mk (below_step (by repeat (first | (with_reducible first | exact HB.out | apply below_alloc | apply pw_below_drewN | apply below_drew1) | exact HB.out)) hb); clear HB; have HB := n0_; clear n0_; (try clear hb); (try clear hb2); (try clear hk); (try clear hi))); try go_wp2_with (first | (go_at_call 27; (with_reducible refine (redlineref11_Order.calls k _ _ l0 t293 _ ?side1 ?side2 A2.out).mono ?_); (case side1 => repeat (first | exact HR0.out | (with_reducible refine Kd.C_alloc ?_ _) | (with_reducible refine Kd.C_drewN ?_ _) | (with_reducible refine Kd.C_drew ?_))); (case side2 => exact HC0.out); rintro e w54 ⟨rfl, hb⟩; have n0_ := Aside0.mk (below_step (by repeat (first | (with_reducible first | exact HB.out | apply below_alloc | apply pw_below_drewN | apply below_drew1) | exact HB.out)) hb); clear HB; have HB := n0_; clear n0_; (try clear hb); (try clear hb2); (try clear hk); (try clear hi))))
    go_ret2
    exact ⟨_, by first | rfl | (simp [errW_none, errW_some] <;> rfl) | (simp [*, errW_none, errW_some] <;> rfl), by first | exact Kd.R_nil _ _ _ _ _ | exact Kd.N_nil _ _ _ _ _ | exact Kd.V_nil _ _ _ _ _ | exact Kd.Q_nil _ _ _ _ _ | exact Kd.S_nil _ _ _ _ _, by repeat (first | (with_reducible first | exact HB.out | apply below_alloc | apply pw_below_drewN | apply below_drew1) | exact HB.out)⟩
end Go.Proofs.Ytnllemlmgbjjnaa.PA
/- Plain laws on the printed functions: the two lists of changes are one. -/
namespace Go.Proofs.Ytnllemlmgbjjnaa.PA
set_option linter.unusedVariables false
set_option linter.unusedSimpArgs false
open Go.RowKit Go.Proofs.YtnllemlmgbjjnaaW.PrintWords Go.Proofs.YtnllemlmgbjjnaaW.PrintLast Go.Proofs.YtnllemlmgbjjnaaW.PrintMore
theorem rd94_last {l : List S94} {c : S94} : rd_T94 (l ++ [c]) (l.length : Int) = c := by
  unfold rd_T94
  simp
/-- The last change, of a row that has one. -/
def lastC (out : List S94) : S94 := rd_T94 out ((out.length : Int) - 1)
def adjB (out : List S94) (a b : Int) : Bool := decide (0 < out.length) && decide (wrap64 ((lastC out).f0 + (lastC out).f1) = a) && decide (wrap64 ((lastC out).f2 + (lastC out).f3) = b)
def bump (m : S35) (c : S94) : S94 := if m.f0 = 45 then ⟨c.f0, wrap64 (c.f1 + 1), c.f2, c.f3⟩ else ⟨c.f0, c.f1, c.f2, wrap64 (c.f3 + 1)⟩
def put (out : List S94) (a b : Int) (m : S35) : List S94 := if adjB out a b then out.take (out.length - 1) ++ [bump m (lastC out)] else out ++ [bump m ⟨a, 0, b, 0⟩]
def chStep (st : List S94 × Int × Int) (m : S35) : List S94 × Int × Int :=
  if m.f0 = 32 then (st.1, wrap64 (st.2.1 + 1), wrap64 (st.2.2 + 1))
  else (put st.1 st.2.1 st.2.2 m, if m.f0 = 45 then wrap64 (st.2.1 + 1) else st.2.1, if m.f0 = 45 then st.2.2 else wrap64 (st.2.2 + 1))
def chAll : List S94 → List S24 → List S94
  | out, [] => out
  | out, h :: t => chAll (h.f4.foldl chStep (out, stA h, stB h)).1 t
theorem chAll_cons (out : List S94) (h : S24) (t : List S24) : chAll out (h :: t) = chAll (h.f4.foldl chStep (out, stA h, stB h)).1 t := rfl
theorem put_len (out : List S94) (a b : Int) (m : S35) : (put out a b m).length ≤ out.length + 1 := by
  unfold put
  split
  · rw [List.length_append, List.length_take, List.length_singleton]; omega
  · rw [List.length_append, List.length_singleton]; omega
theorem put_adj {out : List S94} {a b : Int} {m : S35} (h : adjB out a b = true) : put out a b m = out.take (out.length - 1) ++ [bump m (lastC out)] := if_pos h
theorem put_new {out : List S94} {a b : Int} {m : S35} (h : adjB out a b = false) : put out a b m = out ++ [bump m ⟨a, 0, b, 0⟩] := if_neg (by rw [h]; decide)
theorem j2_eq (k : Nat) (out : List S94) (a b : Int) (l : List S24) (li i : Int) (ls : List S35) (ll j : Int) (m : S35) (hn : m.f0 ≠ 32) (ho : out.length < 4398046511104) :
    hunks_Changes.j2 (k + 1) out a b (out.length : Int) l li i ls ll j (adjB out a b) m.f0 m.f1 a 0 b 0 =
      hunks_Changes.l1 k (put out a b m) (if m.f0 = 45 then wrap64 (a + 1) else a) (if m.f0 = 45 then b else wrap64 (b + 1)) l li i ls ll (wrap64 (j + 1)) := by
  simp only [hunks_Changes.j2]
  cases h : adjB out a b with
  | true =>
    have hp : 0 < out.length := by
      unfold adjB at h
      simp only [Bool.and_eq_true, decide_eq_true_eq] at h
      exact h.1.1
    have hw : wrap64 ((out.length : Int) - 1) = (out.length : Int) - 1 := wrap_id (by omega) (by omega)
    have ht : ((out.length : Int) - 1).toNat = out.length - 1 := by omega
    rw [put_adj h, if_pos rfl, hw, if_pos (by omega), if_pos (by omega), if_pos (by omega), ht, Option.bind_some]
    have hl : (out.take (out.length - 1)).length < 4398046511104 := by rw [List.length_take]; omega
    by_cases c : m.f0 = 45
    · rw [if_pos c, if_pos hl, if_pos c, if_pos c]
      unfold bump
      rw [if_pos c]
      rfl
    · rw [if_neg c, if_pos hl, if_neg c, if_neg c]
      unfold bump
      rw [if_neg c]
      rfl
  | false =>
    rw [put_new h, if_neg (by decide)]
    by_cases c : m.f0 = 45
    · rw [if_pos c, if_pos ho, if_pos c, if_pos c]
      unfold bump
      rw [if_pos c]
    · rw [if_neg c, if_pos ho, if_neg c, if_neg c]
      unfold bump
      rw [if_neg c]
theorem l1_step (k : Nat) (out : List S94) (a b : Int) (l : List S24) (li i : Int) (ls : List S35) (j : Nat) (hj : j < ls.length) (hl : ls.length < 5864062014805) (ho : out.length < 4398046511104) :
    hunks_Changes.l1 (k + 2) out a b l li i ls (ls.length : Int) (j : Int) =
      if ls[j].f0 = 32 then hunks_Changes.l1 (k + 1) out (wrap64 (a + 1)) (wrap64 (b + 1)) l li i ls (ls.length : Int) ((j + 1 : Nat) : Int)
      else hunks_Changes.l1 k (put out a b ls[j]) (if ls[j].f0 = 45 then wrap64 (a + 1) else a) (if ls[j].f0 = 45 then b else wrap64 (b + 1)) l li i ls (ls.length : Int) ((j + 1 : Nat) : Int) := by
  rw [show k + 2 = (k + 1) + 1 from rfl]
  simp only [hunks_Changes.l1]
  rw [if_pos (by omega), if_pos (by omega), if_pos (by omega), rd35 hj, wrap_id (x := (j : Int) + 1) (by omega) (by omega), succ_cast]
  by_cases c : ls[j].f0 = 32
  · rw [if_pos c, if_pos c]
  · rw [if_neg c, if_neg c]
    have key := j2_eq k out a b l li i ls (ls.length : Int) (j : Int) ls[j] c ho
    rw [wrap_id (x := (j : Int) + 1) (by omega) (by omega), succ_cast] at key
    rw [← key]
    by_cases c1 : (out.length : Int) > 0
    · have hw : wrap64 ((out.length : Int) - 1) = (out.length : Int) - 1 := wrap_id (by omega) (by omega)
      rw [if_pos c1, hw, if_pos (by omega), if_pos (by omega)]
      show (if wrap64 ((lastC out).f0 + (lastC out).f1) = a then hunks_Changes.j2 (k + 1) out a b (out.length : Int) l li i ls (ls.length : Int) (j : Int) (wrap64 ((lastC out).f2 + (lastC out).f3) == b) ls[j].f0 ls[j].f1 a 0 b 0
        else hunks_Changes.j2 (k + 1) out a b (out.length : Int) l li i ls (ls.length : Int) (j : Int) false ls[j].f0 ls[j].f1 a 0 b 0) = _
      have hp : decide (0 < out.length) = true := decide_eq_true (by omega)
      by_cases c2 : wrap64 ((lastC out).f0 + (lastC out).f1) = a
      · have e : adjB out a b = (wrap64 ((lastC out).f2 + (lastC out).f3) == b) := by
          unfold adjB
          rw [hp, decide_eq_true c2]
          rfl
        rw [if_pos c2, e]
      · have e : adjB out a b = false := by
          unfold adjB
          rw [hp, decide_eq_false c2]
          rfl
        rw [if_neg c2, e]
    · have e : adjB out a b = false := by
        unfold adjB
        rw [decide_eq_false (by omega)]
        rfl
      rw [if_neg c1, e]
theorem l1_from (l : List S24) (i : Nat) (R : Option (List S94 × Int)) (N : Nat) (ls : List S35) (hl : ls.length < 5864062014805) (B : Nat)
    : ∀ (d k j : Nat) (out : List S94) (a b : Int), j + d = ls.length → 2 * d + N + 1 < k → out.length + d ≤ B → B < 4398046511104 →
    (∀ k' , N < k' → ((ls.drop j).foldl chStep (out, a, b)).1.length ≤ B → hunks_Changes.l0 k' ((ls.drop j).foldl chStep (out, a, b)).1 l (l.length : Int) (wrap64 ((i : Int) + 1)) = R) →
    hunks_Changes.l1 k out a b l (l.length : Int) (i : Int) ls (ls.length : Int) (j : Int) = R := by
  intro d
  induction d with
  | zero =>
    intro k j out a b hi hk hb hB hR
    obtain ⟨k, rfl⟩ : ∃ m, k = m + 1 := ⟨k - 1, by omega⟩
    rw [List.drop_of_length_le (by omega)] at hR
    simp only [hunks_Changes.l1]
    rw [if_neg (by omega)]
    exact hR k (by omega) (by show out.length ≤ B; omega)
  | succ d ih =>
    intro k j out a b hi hk hb hB hR
    obtain ⟨k, rfl⟩ : ∃ m, k = m + 2 := ⟨k - 2, by omega⟩
    have hlt : j < ls.length := by omega
    rw [l1_step k out a b l _ _ ls j hlt hl (by omega)]
    rw [List.drop_eq_getElem_cons hlt, List.foldl_cons] at hR
    by_cases c : ls[j].f0 = 32
    · rw [if_pos c]
      have e : chStep (out, a, b) ls[j] = (out, wrap64 (a + 1), wrap64 (b + 1)) := by unfold chStep; rw [if_pos c]
      rw [e] at hR
      exact ih (k + 1) (j + 1) _ _ _ (by omega) (by omega) (by omega) hB hR
    · rw [if_neg c]
      have e : chStep (out, a, b) ls[j] = (put out a b ls[j], if ls[j].f0 = 45 then wrap64 (a + 1) else a, if ls[j].f0 = 45 then b else wrap64 (b + 1)) := by unfold chStep; rw [if_neg c]
      rw [e] at hR
      have := put_len out a b ls[j]
      exact ih k (j + 1) _ _ _ (by omega) (by omega) (by omega) hB hR
theorem chStep_len (st : List S94 × Int × Int) (m : S35) : (chStep st m).1.length ≤ st.1.length + 1 := by
  unfold chStep
  split
  · exact Nat.le_succ _
  · exact put_len _ _ _ _
theorem fold_len (ls : List S35) : ∀ st : List S94 × Int × Int, (ls.foldl chStep st).1.length ≤ st.1.length + ls.length := by
  induction ls with
  | nil => intro st; exact Nat.le_refl _
  | cons m t ih => intro st; have := ih (chStep st m); have := chStep_len st m; rw [List.foldl_cons, List.length_cons]; omega
theorem l0_from (l : List S24) (hs : Small l) : ∀ (d k i : Nat) (out : List S94), i + d = l.length → 2 * T (l.drop i) + 3 * d < k → out.length + T (l.drop i) < 4398046511104 →
    hunks_Changes.l0 k out l (l.length : Int) (i : Int) = some (chAll out (l.drop i), 0) := by
  intro d
  induction d with
  | zero =>
    intro k i out hi hk hb
    obtain ⟨k, rfl⟩ : ∃ m, k = m + 1 := ⟨k - 1, by omega⟩
    simp only [hunks_Changes.l0]
    rw [if_neg (by omega), List.drop_of_length_le (by omega)]
    rfl
  | succ d ih =>
    intro k i out hi hk hb
    obtain ⟨k, rfl⟩ : ∃ m, k = m + 1 := ⟨k - 1, by omega⟩
    have hlt : i < l.length := by omega
    have hl1 := hs.1
    have hm := hs.2 l[i] (List.getElem_mem hlt)
    rw [List.drop_eq_getElem_cons hlt, T_cons] at hk hb
    simp only [hunks_Changes.l0, hunks_stands.f, Option.bind_some]
    rw [if_pos (by omega), if_pos (by omega), if_pos (by omega), rd24 hlt, List.drop_eq_getElem_cons hlt, chAll_cons]
    refine l1_from l i _ (2 * T (l.drop (i + 1)) + 3 * d) l[i].f4 hm.1 (out.length + l[i].f4.length) l[i].f4.length k 0 out _ _ (by omega) (by omega) (by omega) (by omega) ?_
    intro k' hk' hlen
    rw [List.drop_zero] at hlen ⊢
    rw [wrap_id (x := (i : Int) + 1) (by omega) (by omega), succ_cast]
    exact ih k' (i + 1) _ (by omega) (by omega) (by
      show ((l[i].f4).foldl chStep (out, stA l[i], stB l[i])).1.length + _ < _
      have := fold_len l[i].f4 (out, stA l[i], stB l[i])
      have e : (out, stA l[i], stB l[i]).1.length = out.length := rfl
      omega)
/-- What the two lists of changes are. -/
def changesV (l : List S24) : List S94 × Int := if orderV l = 0 then (chAll [] l, 0) else ([], orderV l)
theorem T_small {l : List S24} (h : orderV l = 0) : T l ≤ 8589934592 := by
  obtain ⟨h1, h2⟩ := order_zero h
  have := T_le h1 (Int.le_refl 0) (Int.le_refl 0) (by decide) (by decide) h2
  omega
theorem changes_eq (l : List S24) (hs : Small l) (k : Nat) (hk : 30000000000000 < k) : hunks_Changes.f k l = some (changesV l) := by
  have hl1 := hs.1
  unfold hunks_Changes.f changesV
  rw [order_eq l hs k (by omega), Option.bind_some]
  by_cases c : orderV l = 0
  · have := T_small c
    rw [if_pos c, if_pos c]
    exact l0_from l hs l.length k 0 [] (by omega) (by rw [List.drop_zero]; omega) (by rw [List.drop_zero]; simp; omega)
  · rw [if_neg c, if_neg c]
theorem set_last (out : List S94) (c : S94) (h : 0 < out.length) : out.set (out.length - 1) c = out.take (out.length - 1) ++ [c] := by
  rw [List.set_eq_take_append_cons_drop, if_pos (by omega), List.drop_of_length_le (by omega)]
theorem set_snoc (out : List S94) (x c : S94) : (out ++ [x]).set out.length c = out ++ [c] := by
  rw [List.set_append_right _ _ (Nat.le_refl _), Nat.sub_self]
  rfl
theorem rj2_eq (k : Nat) (out : List S94) (a b : Int) (l : List S24) (i j : Int) (m : S35) (hn : m.f0 ≠ 32) (ho : out.length < 4398046511104) :
    redlineref11_Changes.j2 (k + 1) l out i a b j m.f0 ((out.length : Int) - 1) (!adjB out a b) =
      redlineref11_Changes.l1 k l (put out a b m) i (if m.f0 = 45 then wrap64 (a + 1) else a) (if m.f0 = 45 then b else wrap64 (b + 1)) (wrap64 (j + 1)) := by
  simp only [redlineref11_Changes.j2]
  cases h : adjB out a b with
  | true =>
    have hp : 0 < out.length := by
      unfold adjB at h
      simp only [Bool.and_eq_true, decide_eq_true_eq] at h
      exact h.1.1
    have ht : ((out.length : Int) - 1).toNat = out.length - 1 := by omega
    rw [put_adj h, if_neg (by decide)]
    by_cases c : m.f0 = 45
    · rw [if_pos c, if_pos (by omega), if_pos (by omega), ht, set_last _ _ hp, if_pos c, if_pos c]
      unfold bump
      rw [if_pos c]
      rfl
    · rw [if_neg c, if_pos (by omega), if_pos (by omega), ht, set_last _ _ hp, if_neg c, if_neg c]
      unfold bump
      rw [if_neg c]
      rfl
  | false =>
    have hw : wrap64 ((out.length : Int) - 1 + 1) = (out.length : Int) := by rw [wrap_id (by omega) (by omega)]; omega
    have ht : ((out.length : Int)).toNat = out.length := by omega
    have hlt : (out.length : Int) < ((out ++ [(⟨a, 0, b, 0⟩ : S94)]).length : Int) := by rw [List.length_append, List.length_singleton]; omega
    rw [put_new h, if_pos (by rfl), if_pos ho, Option.bind_some]
    by_cases c : m.f0 = 45
    · rw [if_pos c, hw, ht, rd94_last, if_pos (by omega), if_pos hlt, set_snoc, if_pos c, if_pos c]
      unfold bump
      rw [if_pos c]
    · rw [if_neg c, hw, ht, rd94_last, if_pos (by omega), if_pos hlt, set_snoc, if_neg c, if_neg c]
      unfold bump
      rw [if_neg c]
theorem rl1_step (k : Nat) (out : List S94) (a b : Int) (l : List S24) (i : Nat) (hi : i < l.length) (hli : l.length < 2513169434916) (j : Nat) (hj : j < l[i].f4.length) (hl : l[i].f4.length < 5864062014805) (ho : out.length < 4398046511104) :
    redlineref11_Changes.l1 (k + 2) l out (i : Int) a b (j : Int) =
      if l[i].f4[j].f0 = 32 then redlineref11_Changes.l1 (k + 1) l out (i : Int) (wrap64 (a + 1)) (wrap64 (b + 1)) ((j + 1 : Nat) : Int)
      else redlineref11_Changes.l1 k l (put out a b l[i].f4[j]) (i : Int) (if l[i].f4[j].f0 = 45 then wrap64 (a + 1) else a) (if l[i].f4[j].f0 = 45 then b else wrap64 (b + 1)) ((j + 1 : Nat) : Int) := by
  rw [show k + 2 = (k + 1) + 1 from rfl]
  simp only [redlineref11_Changes.l1]
  rw [if_pos (by omega), if_pos (by omega), rd24 hi, if_pos (by omega), if_pos (by omega), rd35 hj, wrap_id (x := (j : Int) + 1) (by omega) (by omega), succ_cast]
  generalize hm : l[i].f4[j] = m
  by_cases c : m.f0 = 32
  · rw [if_pos c, if_pos c]
  · rw [if_neg c, if_neg c]
    have key := rj2_eq k out a b l (i : Int) (j : Int) m c ho
    rw [wrap_id (x := (j : Int) + 1) (by omega) (by omega), succ_cast] at key
    rw [← key]
    have hw : wrap64 ((out.length : Int) - 1) = (out.length : Int) - 1 := wrap_id (by omega) (by omega)
    rw [hw]
    by_cases c1 : (out.length : Int) - 1 < 0
    · have e : adjB out a b = false := by
        unfold adjB
        rw [decide_eq_false (by omega)]
        rfl
      rw [if_pos c1, e]
      rfl
    · rw [if_neg c1, if_pos (by omega), if_pos (by omega)]
      show (if wrap64 ((lastC out).f0 + (lastC out).f1) = a then redlineref11_Changes.j2 (k + 1) l out (i : Int) a b (j : Int) m.f0 ((out.length : Int) - 1) (wrap64 ((lastC out).f2 + (lastC out).f3) != b)
        else redlineref11_Changes.j2 (k + 1) l out (i : Int) a b (j : Int) m.f0 ((out.length : Int) - 1) true) = _
      have hp : decide (0 < out.length) = true := decide_eq_true (by omega)
      by_cases c2 : wrap64 ((lastC out).f0 + (lastC out).f1) = a
      · have e : adjB out a b = (wrap64 ((lastC out).f2 + (lastC out).f3) == b) := by
          unfold adjB
          rw [hp, decide_eq_true c2]
          rfl
        rw [if_pos c2, e]
        rfl
      · have e : adjB out a b = false := by
          unfold adjB
          rw [hp, decide_eq_false c2]
          rfl
        rw [if_neg c2, e]
        rfl
theorem rl1_from (l : List S24) (i : Nat) (hi : i < l.length) (hli : l.length < 2513169434916) (R : Option (List S94 × Int)) (N : Nat) (hl : l[i].f4.length < 5864062014805) (B : Nat)
    : ∀ (d k j : Nat) (out : List S94) (a b : Int), j + d = l[i].f4.length → 2 * d + N + 1 < k → out.length + d ≤ B → B < 4398046511104 →
    (∀ k' , N < k' → ((l[i].f4.drop j).foldl chStep (out, a, b)).1.length ≤ B → redlineref11_Changes.l0 k' l ((l[i].f4.drop j).foldl chStep (out, a, b)).1 (wrap64 ((i : Int) + 1)) = R) →
    redlineref11_Changes.l1 k l out (i : Int) a b (j : Int) = R := by
  intro d
  induction d with
  | zero =>
    intro k j out a b hj hk hb hB hR
    obtain ⟨k, rfl⟩ : ∃ m, k = m + 1 := ⟨k - 1, by omega⟩
    rw [List.drop_of_length_le (by omega)] at hR
    simp only [redlineref11_Changes.l1]
    rw [if_pos (by omega), if_pos (by omega), rd24 hi, if_neg (by omega)]
    exact hR k (by omega) (by show out.length ≤ B; omega)
  | succ d ih =>
    intro k j out a b hj hk hb hB hR
    obtain ⟨k, rfl⟩ : ∃ m, k = m + 2 := ⟨k - 2, by omega⟩
    have hlt : j < l[i].f4.length := by omega
    rw [rl1_step k out a b l i hi hli j hlt hl (by omega)]
    rw [List.drop_eq_getElem_cons hlt, List.foldl_cons] at hR
    by_cases c : l[i].f4[j].f0 = 32
    · rw [if_pos c]
      have e : chStep (out, a, b) l[i].f4[j] = (out, wrap64 (a + 1), wrap64 (b + 1)) := by unfold chStep; rw [if_pos c]
      rw [e] at hR
      exact ih (k + 1) (j + 1) _ _ _ (by omega) (by omega) (by omega) hB hR
    · rw [if_neg c]
      have e : chStep (out, a, b) l[i].f4[j] = (put out a b l[i].f4[j], if l[i].f4[j].f0 = 45 then wrap64 (a + 1) else a, if l[i].f4[j].f0 = 45 then b else wrap64 (b + 1)) := by unfold chStep; rw [if_neg c]
      rw [e] at hR
      have := put_len out a b l[i].f4[j]
      exact ih k (j + 1) _ _ _ (by omega) (by omega) (by omega) hB hR
theorem rl0_from (l : List S24) (hs : Small l) (ok : ∀ x ∈ l, okH x = 0) : ∀ (d k i : Nat) (out : List S94), i + d = l.length → 2 * T (l.drop i) + 3 * d < k → out.length + T (l.drop i) < 4398046511104 →
    redlineref11_Changes.l0 k l out (i : Int) = some (chAll out (l.drop i), 0) := by
  intro d
  induction d with
  | zero =>
    intro k i out hi hk hb
    obtain ⟨k, rfl⟩ : ∃ m, k = m + 1 := ⟨k - 1, by omega⟩
    simp only [redlineref11_Changes.l0]
    rw [if_neg (by omega), List.drop_of_length_le (by omega)]
    rfl
  | succ d ih =>
    intro k i out hi hk hb
    obtain ⟨k, rfl⟩ : ∃ m, k = m + 1 := ⟨k - 1, by omega⟩
    have hlt : i < l.length := by omega
    have hl1 := hs.1
    have hm := hs.2 l[i] (List.getElem_mem hlt)
    rw [List.drop_eq_getElem_cons hlt, T_cons] at hk hb
    simp only [redlineref11_Changes.l0]
    rw [if_pos (by omega), if_pos (by omega), rd24 hlt, at_eq _ (ok _ (List.getElem_mem hlt)), Option.bind_some, List.drop_eq_getElem_cons hlt, chAll_cons]
    refine rl1_from l i hlt hl1 _ (2 * T (l.drop (i + 1)) + 3 * d) hm.1 (out.length + l[i].f4.length) l[i].f4.length k 0 out _ _ (by omega) (by omega) (by omega) (by omega) ?_
    intro k' hk' hlen
    rw [List.drop_zero] at hlen ⊢
    rw [wrap_id (x := (i : Int) + 1) (by omega) (by omega), succ_cast]
    exact ih k' (i + 1) _ (by omega) (by omega) (by
      show ((l[i].f4).foldl chStep (out, stA l[i], stB l[i])).1.length + _ < _
      have := fold_len l[i].f4 (out, stA l[i], stB l[i])
      have e : (out, stA l[i], stB l[i]).1.length = out.length := rfl
      omega)
theorem rchanges_eq (l : List S24) (hs : Small l) (k : Nat) (hk : 190000000000000 < k) : redlineref11_Changes.f k l = some (changesV l) := by
  have hl1 := hs.1
  unfold redlineref11_Changes.f changesV
  rw [rorder_eq l hs k (by omega), Option.bind_some]
  by_cases c : orderV l = 0
  · have := T_small c
    rw [if_pos c, if_pos c]
    exact rl0_from l hs (order_zero c).1 l.length k 0 [] (by omega) (by rw [List.drop_zero]; omega) (by rw [List.drop_zero]; simp; omega)
  · rw [if_neg c, if_neg c]
theorem chAll_len : ∀ (l : List S24) (out : List S94), (chAll out l).length ≤ out.length + T l
  | [], out => by simp [chAll]
  | h :: t, out => by
    rw [chAll_cons, T_cons]
    have := chAll_len t (h.f4.foldl chStep (out, stA h, stB h)).1
    have := fold_len h.f4 (out, stA h, stB h)
    have e : (out, stA h, stB h).1.length = out.length := rfl
    omega
theorem changes_len (l : List S24) : (changesV l).1.length ≤ 8589934592 := by
  unfold changesV
  split
  · rename_i c
    have := T_small c
    have := chAll_len l []
    show (chAll [] l).length ≤ _
    have e : ([] : List S94).length = 0 := rfl
    omega
  · exact Nat.zero_le _
end Go.Proofs.Ytnllemlmgbjjnaa.PA
namespace Go.Proofs.Ytnllemlmgbjjnaa.PA
open Go.RowKit Go.Proofs.YtnllemlmgbjjnaaW.PrintWords Go.Proofs.YtnllemlmgbjjnaaW.PrintLast Go.Proofs.YtnllemlmgbjjnaaW.PrintMore
attribute [local go_sem] max2_int min2_int max_two min_two max_three min_three max_four min_four   -- for this text's walks alone
set_option linter.unusedVariables false
set_option linter.unusedSimpArgs false
theorem eqA94 (d : Nat) (w : World) (x0 y0 : Int) (x1 y1 : Int) (x2 y2 : Int) (x3 y3 : Int) :
    (Op.equalIn (d + 2) 94 (.agg #[.int .i64 x0, .int .i64 x1, .int .i64 x2, .int .i64 x3]) (.agg #[.int .i64 y0, .int .i64 y1, .int .i64 y2, .int .i64 y3])).run Try.prog w = .ok (x0 == y0 && (x1 == y1 && (x2 == y2 && (x3 == y3)))) w := by
  refine eqA_of Try.underlying94 (by kernel_rfl) ?_
  refine eqf_cons (by rfl) (by go_simp; rfl) (by go_simp; rfl) (by go_simp) ?_
  refine eqf_cons (by rfl) (by go_simp; rfl) (by go_simp; rfl) (by go_simp) ?_
  refine eqf_cons (by rfl) (by go_simp; rfl) (by go_simp; rfl) (by go_simp) ?_
  exact eqf_last (by rfl) (by go_simp; rfl) (by go_simp; rfl) (by go_simp)
end Go.Proofs.Ytnllemlmgbjjnaa.PA
namespace Go.Proofs.Ytnllemlmgbjjnaa.PA
open Go.RowKit Go.Proofs.YtnllemlmgbjjnaaW.PrintWords Go.Proofs.YtnllemlmgbjjnaaW.PrintLast Go.Proofs.YtnllemlmgbjjnaaW.PrintMore
attribute [local go_sem] max2_int min2_int max_two min_two max_three min_three max_four min_four   -- for this text's walks alone
set_option linter.unusedVariables false
set_option linter.unusedSimpArgs false
attribute [local go_sem high] eqA94
def redlineref05_Same.l0 : Nat → List (S94) → List (S94) → Int → Option (Bool)
  | 0, _, _, _ => none
  | k + 1, x0, x1, x5 => if x5 < (x0.length : Int) then (if 0 ≤ x5 then (if x5 < (x1.length : Int) then (if (!(((rd_T94 x0 x5).f0) == ((rd_T94 x1 x5).f0)) || (!(((rd_T94 x0 x5).f1) == ((rd_T94 x1 x5).f1)) || (!(((rd_T94 x0 x5).f2) == ((rd_T94 x1 x5).f2)) || (!(((rd_T94 x0 x5).f3) == ((rd_T94 x1 x5).f3)))))) = true then (some false) else (redlineref05_Same.l0 k x0 x1 (wrap64 (x5 + 1)))) else (none)) else (none)) else (some true)
def redlineref05_Same.f (k : Nat) (l0 : List (S94)) (l1 : List (S94)) : Option (Bool) := if (l0.length : Int) = (l1.length : Int) then (redlineref05_Same.l0 k l0 l1 0) else (some false)
set_option maxHeartbeats 8000000 in
set_option maxRecDepth 100000 in
theorem redlineref05_Same.calls (k : Nat) (A0 : Option Addr) (c0 : Nat) (l0 : List (S94)) (A1 : Option Addr) (c1 : Nat) (l1 : List (S94)) (r : Bool) (w : World) (hr0 : Kd.C k94 w A0 l0.length l0) (hc0 : l0.length ≤ c0) (hr1 : Kd.C k94 w A1 l1.length l1) (hc1 : l1.length ≤ c1) (h : redlineref05_Same.f k l0 l1 = some r) :
    Calls Try.prog 28 #[.slice A0 l0.length c0, .slice A1 l1.length c1] w fun e w' => e = .returned (.bool r) ∧ Drawn0 w w' := by
  have hu94 := Try.underlying94
  have HR0 := Aside0.mk hr0
  have HC0 := Aside0.mk hc0
  clear hr0 hc0
  have HR1 := Aside0.mk hr1
  have HC1 := Aside0.mk hc1
  clear hr1 hc1
  have H : (if (l0.length : Int) = (l1.length : Int) then (redlineref05_Same.l0 k l0 l1 0) else (some false)) = some r := h
  clear h
  by_cases c3 : (l0.length : Int) = (l1.length : Int)
  · rw [if_pos c3] at H
    have c3b0 : ((l0.length : Int) == (l1.length : Int)) = true := beq_iff_eq.mpr c3
    have c3b1 : ((l0.length : Int) != (l1.length : Int)) = false := bne_eq_false_iff_eq.mpr c3
    have c3b2 : (l0.length == l1.length) = true := by first | simpa using c3 | (simp at c3 ⊢; omega)
    clear c3
    have H' := Aside0.mk H
    clear H
    go_enter Try.func28, Try.ntmps28
    go_wp2
    repeat (go_quiet (fail); try go_wp2)
    go_loopg [5] k (fun kq v5 w' => ∃ (x5_1 : Int), v5 = .int .i64 x5_1 ∧ Aside0 (redlineref05_Same.l0 kq l0 l1 x5_1 = some r) ∧ Aside0 (kq ≤ k) ∧ Drawn0 w w')
    case atStart => exact ⟨(0), (by first | rfl | (simp; done) | (simp [*]; done)), H', ⟨Nat.le_refl _⟩, by repeat (first | exact Drawn0.refl _ | apply Drawn0.step)⟩
    case round =>
      clear H'
      try clear c1
      try clear c2
      try clear p2
      try clear c3
      try clear c3b0
      try clear c3b1
      try clear c3b2
      obtain ⟨x5_1, rfl, HA, HK1, ⟨m1, rfl⟩⟩ := hrel
      cases gk with
      | zero => exact absurd HA.out (by simp [redlineref05_Same.l0])
      | succ k1 =>
        have H := HA.out
        clear HA
        simp only [redlineref05_Same.l0] at H
        by_cases c4 : x5_1 < (l0.length : Int)
        · rw [if_pos c4] at H
          have c4b0 : decide (x5_1 < (l0.length : Int)) = true := decide_eq_true c4
          clear c4
          by_cases c5 : 0 ≤ x5_1
          · rw [if_pos c5] at H
            have c5b0 : decide (0 ≤ x5_1) = true := decide_eq_true c5
            clear c5
            by_cases c6 : x5_1 < (l1.length : Int)
            · rw [if_pos c6] at H
              have c6b0 : decide (x5_1 < (l1.length : Int)) = true := decide_eq_true c6
              clear c6
              by_cases c7 : (!(((rd_T94 l0 x5_1).f0) == ((rd_T94 l1 x5_1).f0)) || (!(((rd_T94 l0 x5_1).f1) == ((rd_T94 l1 x5_1).f1)) || (!(((rd_T94 l0 x5_1).f2) == ((rd_T94 l1 x5_1).f2)) || (!(((rd_T94 l0 x5_1).f3) == ((rd_T94 l1 x5_1).f3)))))) = true
              · rw [if_pos c7] at H
                have c7b0 : (!(((rd_T94 l0 x5_1).f0) == ((rd_T94 l1 x5_1).f0)) || (!(((rd_T94 l0 x5_1).f1) == ((rd_T94 l1 x5_1).f1)) || (!(((rd_T94 l0 x5_1).f2) == ((rd_T94 l1 x5_1).f2)) || (!(((rd_T94 l0 x5_1).f3) == ((rd_T94 l1 x5_1).f3)))))) = true := c7
                clear c7
                obtain rfl := Option.some.inj H
                have p315 : 0 ≤ (x5_1 : Int) := of_decide_eq_true (by first | (with_reducible assumption) | assumption)
                have q315 : x5_1 < (l0.length : Int) := of_decide_eq_true (by first | (with_reducible assumption) | assumption)
                obtain ⟨ad315, e315, hx315_0, hx315_1, hx315_2, hx315_3⟩ := at_T94 HR0.out x5_1 p315 q315
                cases e315
                replace p315 := eq_true p315
                replace q315 := eq_true q315
                have p316 : 0 ≤ (x5_1 : Int) := of_decide_eq_true (by first | (with_reducible assumption) | assumption)
                have q316 : x5_1 < (l1.length : Int) := of_decide_eq_true (by first | (with_reducible assumption) | assumption)
                obtain ⟨ad316, e316, hx316_0, hx316_1, hx316_2, hx316_3⟩ := at_T94 HR1.out x5_1 p316 q316
                cases e316
                replace p316 := eq_true p316
                replace q316 := eq_true q316
                go_wp2
                repeat (go_quiet (fail); try go_wp2)
                go_ret
                exact ⟨by first | rfl | (simp; done) | (simp [*]; done), by repeat (first | exact Drawn0.refl _ | apply Drawn0.step)⟩
              · rw [if_neg c7] at H
                have c7b0 : (!(((rd_T94 l0 x5_1).f0) == ((rd_T94 l1 x5_1).f0)) || (!(((rd_T94 l0 x5_1).f1) == ((rd_T94 l1 x5_1).f1)) || (!(((rd_T94 l0 x5_1).f2) == ((rd_T94 l1 x5_1).f2)) || (!(((rd_T94 l0 x5_1).f3) == ((rd_T94 l1 x5_1).f3)))))) = false := by simpa using c7
                clear c7
                have H' := Aside0.mk H
                clear H
                have p315 : 0 ≤ (x5_1 : Int) := of_decide_eq_true (by first | (with_reducible assumption) | assumption)
                have q315 : x5_1 < (l0.length : Int) := of_decide_eq_true (by first | (with_reducible assumption) | assumption)
                obtain ⟨ad315, e315, hx315_0, hx315_1, hx315_2, hx315_3⟩ := at_T94 HR0.out x5_1 p315 q315
                cases e315
                replace p315 := eq_true p315
                replace q315 := eq_true q315
                have p316 : 0 ≤ (x5_1 : Int) := of_decide_eq_true (by first | (with_reducible assumption) | assumption)
                have q316 : x5_1 < (l1.length : Int) := of_decide_eq_true (by first | (with_reducible assumption) | assumption)
                obtain ⟨ad316, e316, hx316_0, hx316_1, hx316_2, hx316_3⟩ := at_T94 HR1.out x5_1 p316 q316
                cases e316
                replace p316 := eq_true p316
                replace q316 := eq_true q316
                go_wp2
                repeat (go_quiet (fail); try go_wp2)
                go_roundg k1
                case measure => have := HK1.out; omega
                case rel => exact ⟨(wrap64 (x5_1 + 1)), (by first | rfl | (simp; done) | (simp [*]; done)), H', ⟨by have := HK1.out; omega⟩, by repeat (first | exact Drawn0.refl _ | apply Drawn0.step)⟩
            · rw [if_neg c6] at H
              exact absurd H (by simp)
          · rw [if_neg c5] at H
            exact absurd H (by simp)
        · rw [if_neg c4] at H
          have c4b0 : decide (x5_1 < (l0.length : Int)) = false := decide_eq_false c4
          clear c4
          obtain rfl := Option.some.inj H
          go_wp2
          repeat (go_quiet (fail); try go_wp2)
          go_ret
          exact ⟨by first | rfl | (simp; done) | (simp [*]; done), by repeat (first | exact Drawn0.refl _ | apply Drawn0.step)⟩
  · rw [if_neg c3] at H
    have c3b0 : ((l0.length : Int) == (l1.length : Int)) = false := beq_eq_false_iff_ne.mpr c3
    have c3b1 : ((l0.length : Int) != (l1.length : Int)) = true := bne_iff_ne.mpr c3
    have c3b2 : (l0.length == l1.length) = false := by first | simpa using c3 | (simp at c3 ⊢; omega)
    obtain rfl := Option.some.inj H
    go_enter Try.func28, Try.ntmps28
    go_wp2
    repeat (go_quiet (fail); try go_wp2)
    go_ret
    exact ⟨by first | rfl | (simp; done) | (simp [*]; done), by repeat (first | exact Drawn0.refl _ | apply Drawn0.step)⟩
end Go.Proofs.Ytnllemlmgbjjnaa.PA
namespace Go.Proofs.Ytnllemlmgbjjnaa.PA
open Go.RowKit Go.Proofs.YtnllemlmgbjjnaaW.PrintWords Go.Proofs.YtnllemlmgbjjnaaW.PrintLast Go.Proofs.YtnllemlmgbjjnaaW.PrintMore
attribute [local go_sem] max2_int min2_int max_two min_two max_three min_three max_four min_four   -- for this text's walks alone
set_option linter.unusedVariables false
set_option linter.unusedSimpArgs false
def redlineref11_SameHunks.l0 : Nat → List (S24) → List (S24) → Int → Option (Bool)
  | 0, _, _, _ => none
  | k + 1, x0, x1, x5 => if x5 < (x0.length : Int) then (if 0 ≤ x5 then (if x5 < (x1.length : Int) then ((redlineref11_Same.f k ((rd_T24 x0 x5).f0) ((rd_T24 x0 x5).f1) ((rd_T24 x0 x5).f2) ((rd_T24 x0 x5).f3) ((rd_T24 x0 x5).f4) ((rd_T24 x1 x5).f0) ((rd_T24 x1 x5).f1) ((rd_T24 x1 x5).f2) ((rd_T24 x1 x5).f3) ((rd_T24 x1 x5).f4)).bind fun t319 => (if t319 = true then (redlineref11_SameHunks.l0 k x0 x1 (wrap64 (x5 + 1))) else (some false))) else (none)) else (none)) else (some true)
def redlineref11_SameHunks.f (k : Nat) (l0 : List (S24)) (l1 : List (S24)) : Option (Bool) := if (l0.length : Int) = (l1.length : Int) then (redlineref11_SameHunks.l0 k l0 l1 0) else (some false)
def redlineref11_SameHunks.T6 : Bool × List (List Nat × List Nat) := (true, [([], []), ([], []), ([0, 1], [0, 1]), ([2], [2]), ([], []), ([], []), ([4, 5], [4, 5]), ([6], [6]), ([3, 7], [3, 7]), ([8], [8])])
def redlineref11_SameHunks.B6 : List Nat := [0, 0, 3, 7, 0, 0, 48, 112, 255, 511]
theorem redlineref11_SameHunks.tab6 : rtab .any (opsOf Try.f29 6) = redlineref11_SameHunks.T6 := by kernel_rfl
theorem redlineref11_SameHunks.bits6 : waitsOk redlineref11_SameHunks.T6.2 redlineref11_SameHunks.B6 = true := by kernel_rfl
set_option maxHeartbeats 8000000 in
set_option maxRecDepth 100000 in
theorem redlineref11_SameHunks.calls (k : Nat) (A0 : Option Addr) (c0 : Nat) (l0 : List (S24)) (A1 : Option Addr) (c1 : Nat) (l1 : List (S24)) (r : Bool) (w : World) (hr0 : Kd.C k24 w A0 l0.length l0) (hc0 : l0.length ≤ c0) (hr1 : Kd.C k24 w A1 l1.length l1) (hc1 : l1.length ≤ c1) (h : redlineref11_SameHunks.f k l0 l1 = some r) :
    Calls Try.prog 29 #[.slice A0 l0.length c0, .slice A1 l1.length c1] w fun e w' => e = .returned (.bool r) ∧ Below w.heap.size w w' := by
  have hu24 := Try.underlying24
  have HR0 := Aside0.mk hr0
  have HC0 := Aside0.mk hc0
  clear hr0 hc0
  have HR1 := Aside0.mk hr1
  have HC1 := Aside0.mk hc1
  clear hr1 hc1
  have HB := Aside0.mk (Below.refl w.heap.size w)
  have H : (if (l0.length : Int) = (l1.length : Int) then (redlineref11_SameHunks.l0 k l0 l1 0) else (some false)) = some r := h
  clear h
  by_cases c3 : (l0.length : Int) = (l1.length : Int)
  · rw [if_pos c3] at H
    have c3b0 : ((l0.length : Int) == (l1.length : Int)) = true := beq_iff_eq.mpr c3
    have c3b1 : ((l0.length : Int) != (l1.length : Int)) = false := bne_eq_false_iff_eq.mpr c3
    have c3b2 : (l0.length == l1.length) = true := by first | simpa using c3 | (simp at c3 ⊢; omega)
    clear c3
    have H' := Aside0.mk H
    clear H
    go_enter Try.func29, Try.ntmps29
    go_wp2
    go_loopg [5] k (fun kq v5 w' => ∃ (x5_1 : Int), v5 = .int .i64 x5_1 ∧ Aside0 (redlineref11_SameHunks.l0 kq l0 l1 x5_1 = some r) ∧ Aside0 (kq ≤ k) ∧ Aside0 (Below w.heap.size w w'))
    case atStart => exact ⟨(0), (by first | rfl | (simp; done) | (simp [*]; done)), H', ⟨Nat.le_refl _⟩, ⟨by repeat (first | (with_reducible first | exact HB.out | apply below_alloc | apply pw_below_drewN | apply below_drew1) | exact HB.out)⟩⟩
    case round =>
      clear H'
      try clear c1
      try clear c2
      try clear p2
      try clear c3
      try clear c3b0
      try clear c3b1
      try clear c3b2
      obtain ⟨x5_1, rfl, HA, HK1, HB⟩ := hrel
      cases gk with
      | zero => exact absurd HA.out (by simp [redlineref11_SameHunks.l0])
      | succ k1 =>
        have H := HA.out
        clear HA
        simp only [redlineref11_SameHunks.l0] at H
        by_cases c4 : x5_1 < (l0.length : Int)
        · rw [if_pos c4] at H
          have c4b0 : decide (x5_1 < (l0.length : Int)) = true := decide_eq_true c4
          clear c4
          by_cases c5 : 0 ≤ x5_1
          · rw [if_pos c5] at H
            have c5b0 : decide (0 ≤ x5_1) = true := decide_eq_true c5
            clear c5
            by_cases c6 : x5_1 < (l1.length : Int)
            · rw [if_pos c6] at H
              have c6b0 : decide (x5_1 < (l1.length : Int)) = true := decide_eq_true c6
              clear c6
              replace H := Option.bind_eq_some_iff.mp H
              obtain ⟨t319, A70, H⟩ := H
              replace H : (if t319 = true then (redlineref11_SameHunks.l0 k1 l0 l1 (wrap64 (x5_1 + 1))) else (some false)) = some r := H
              have A7 := Aside0.mk A70
              clear A70
              by_cases c8 : t319 = true
              · subst c8
                have H1 : (redlineref11_SameHunks.l0 k1 l0 l1 (wrap64 (x5_1 + 1))) = some r := by rw [if_pos rfl] at H; exact H
                clear H
                have H := H1
                clear H1
                have H' := Aside0.mk H
                clear H
                try go_wp2
                have n0_ := Aside0.mk (below_drew1 HB.out)
                clear HB
                have HB := n0_
                clear n0_
                have p317 : 0 ≤ (x5_1 : Int) := of_decide_eq_true (by first | (with_reducible assumption) | assumption)
                have q317 : x5_1 < (l0.length : Int) := of_decide_eq_true (by first | (with_reducible assumption) | assumption)
                obtain ⟨ad317, A317_4, c317_4, e317, hx317_0, hx317_1, hx317_2, hx317_3, hx317_4, hl317_4, hi317_4⟩ := at_T24 HR0.out x5_1 p317 q317
                have hw317_4 := hx317_4
                have hw317_3 := hx317_3
                have hw317_2 := hx317_2
                have hw317_1 := hx317_1
                have hw317_0 := hx317_0
                cases e317
                replace hx317_0 := (HB.out.cell (World.block_lt_of_cell? w _ hx317_0)).trans hx317_0
                replace hx317_1 := (HB.out.cell (World.block_lt_of_cell? w _ hx317_1)).trans hx317_1
                replace hx317_2 := (HB.out.cell (World.block_lt_of_cell? w _ hx317_2)).trans hx317_2
                replace hx317_3 := (HB.out.cell (World.block_lt_of_cell? w _ hx317_3)).trans hx317_3
                replace hx317_4 := (HB.out.cell (World.block_lt_of_cell? w _ hx317_4)).trans hx317_4
                have HR317_4 := Aside0.mk hi317_4
                have HC317_4 := Aside0.mk hl317_4
                clear hi317_4 hl317_4
                replace p317 := eq_true p317
                replace q317 := eq_true q317
                have p318 : 0 ≤ (x5_1 : Int) := of_decide_eq_true (by first | (with_reducible assumption) | assumption)
                have q318 : x5_1 < (l1.length : Int) := of_decide_eq_true (by first | (with_reducible assumption) | assumption)
                obtain ⟨ad318, A318_4, c318_4, e318, hx318_0, hx318_1, hx318_2, hx318_3, hx318_4, hl318_4, hi318_4⟩ := at_T24 HR1.out x5_1 p318 q318
                have hw318_4 := hx318_4
                have hw318_3 := hx318_3
                have hw318_2 := hx318_2
                have hw318_1 := hx318_1
                have hw318_0 := hx318_0
                cases e318
                replace hx318_0 := (HB.out.cell (World.block_lt_of_cell? w _ hx318_0)).trans hx318_0
                replace hx318_1 := (HB.out.cell (World.block_lt_of_cell? w _ hx318_1)).trans hx318_1
                replace hx318_2 := (HB.out.cell (World.block_lt_of_cell? w _ hx318_2)).trans hx318_2
                replace hx318_3 := (HB.out.cell (World.block_lt_of_cell? w _ hx318_3)).trans hx318_3
                replace hx318_4 := (HB.out.cell (World.block_lt_of_cell? w _ hx318_4)).trans hx318_4
                have HR318_4 := Aside0.mk hi318_4
                have HC318_4 := Aside0.mk hl318_4
                clear hi318_4 hl318_4
                replace p318 := eq_true p318
                replace q318 := eq_true q318
                refine start_ (n := 10) (S := fun w' => w'.cell? (ad317.add ((x5_1).toNat * 5)) = some (.int .i64 ((rd_T24 l0 x5_1).f0)) ∧ w'.cell? ⟨(ad317.add ((x5_1).toNat * 5)).block, (ad317.add ((x5_1).toNat * 5)).off + 1, none⟩ = some (.int .i64 ((rd_T24 l0 x5_1).f1)) ∧ w'.cell? ⟨(ad317.add ((x5_1).toNat * 5)).block, (ad317.add ((x5_1).toNat * 5)).off + 2, none⟩ = some (.int .i64 ((rd_T24 l0 x5_1).f2)) ∧ w'.cell? ⟨(ad317.add ((x5_1).toNat * 5)).block, (ad317.add ((x5_1).toNat * 5)).off + 3, none⟩ = some (.int .i64 ((rd_T24 l0 x5_1).f3)) ∧ w'.cell? ⟨(ad317.add ((x5_1).toNat * 5)).block, (ad317.add ((x5_1).toNat * 5)).off + 4, none⟩ = some (.slice A317_4 ((rd_T24 l0 x5_1).f4).length c317_4) ∧ w'.cell? (ad318.add ((x5_1).toNat * 5)) = some (.int .i64 ((rd_T24 l1 x5_1).f0)) ∧ w'.cell? ⟨(ad318.add ((x5_1).toNat * 5)).block, (ad318.add ((x5_1).toNat * 5)).off + 1, none⟩ = some (.int .i64 ((rd_T24 l1 x5_1).f1)) ∧ w'.cell? ⟨(ad318.add ((x5_1).toNat * 5)).block, (ad318.add ((x5_1).toNat * 5)).off + 2, none⟩ = some (.int .i64 ((rd_T24 l1 x5_1).f2)) ∧ w'.cell? ⟨(ad318.add ((x5_1).toNat * 5)).block, (ad318.add ((x5_1).toNat * 5)).off + 3, none⟩ = some (.int .i64 ((rd_T24 l1 x5_1).f3)) ∧ w'.cell? ⟨(ad318.add ((x5_1).toNat * 5)).block, (ad318.add ((x5_1).toNat * 5)).off + 4, none⟩ = some (.slice A318_4 ((rd_T24 l1 x5_1).f4).length c318_4)) (ds := []) #[false, false, false, false, false, false, false, false, false, false] (by kernel_rfl) rfl rfl ⟨((HB.out.cell (World.block_lt_of_cell? w _ hw317_0)).trans hw317_0), ((HB.out.cell (World.block_lt_of_cell? w _ hw317_1)).trans hw317_1), ((HB.out.cell (World.block_lt_of_cell? w _ hw317_2)).trans hw317_2), ((HB.out.cell (World.block_lt_of_cell? w _ hw317_3)).trans hw317_3), ((HB.out.cell (World.block_lt_of_cell? w _ hw317_4)).trans hw317_4), ((HB.out.cell (World.block_lt_of_cell? w _ hw318_0)).trans hw318_0), ((HB.out.cell (World.block_lt_of_cell? w _ hw318_1)).trans hw318_1), ((HB.out.cell (World.block_lt_of_cell? w _ hw318_2)).trans hw318_2), ((HB.out.cell (World.block_lt_of_cell? w _ hw318_3)).trans hw318_3), ((HB.out.cell (World.block_lt_of_cell? w _ hw318_4)).trans hw318_4)⟩ (fun hHeld => ?_); refine with_tabW redlineref11_SameHunks.tab6 redlineref11_SameHunks.bits6 (fun HT_ HW_ => ?_)
                generalize wr.drew = w9 at HB HR317_4 HR318_4 hx317_0 hx317_1 hx317_2 hx317_3 hx317_4 hx318_0 hx318_1 hx318_2 hx318_3 hx318_4 hHeld ⊢
                refine pure_ (i := 0) (N := some 17) (v := ?_) (a' := ?_) #[true, false, false, false, false, false, false, false, false, false] rfl rfl (any_of HT_.out (by kernel_rfl)) (fun _ _ _ h => h) (Or.inl ⟨by rfl, ?_⟩) ?_ ?_
                rotate_left
                · intro w'
                  go_simp
                  with_reducible rfl
                rotate_left
                · simp only [Act.put, List.setIfInBounds_toArray, List.set_cons_zero, List.set_cons_succ, i64_w, i32_w]
                  rfl
                refine pure_ (i := 1) (N := some 18) (v := ?_) (a' := ?_) #[true, true, false, false, false, false, false, false, false, false] rfl rfl (any_of HT_.out (by kernel_rfl)) (fun _ _ _ h => h) (Or.inl ⟨by rfl, ?_⟩) ?_ ?_
                rotate_left
                · intro w'
                  go_simp
                  with_reducible rfl
                rotate_left
                · simp only [Act.put, List.setIfInBounds_toArray, List.set_cons_zero, List.set_cons_succ, i64_w, i32_w]
                  rfl
                refine pure_ (i := 2) (N := some 19) (v := ?_) (a' := ?_) #[true, true, true, false, false, false, false, false, false, false] rfl rfl (any_of HT_.out (by kernel_rfl)) (fun _ _ _ h => h) (Or.inl ⟨by rfl, ?_⟩) ?_ ?_
                rotate_left
                · intro w'
                  go_simp
                  with_reducible rfl
                rotate_left
                · simp only [Act.put, List.setIfInBounds_toArray, List.set_cons_zero, List.set_cons_succ, i64_w, i32_w]
                  rfl
                refine pure_ (i := 4) (N := some 21) (v := ?_) (a' := ?_) #[true, true, true, false, true, false, false, false, false, false] rfl rfl (any_of HT_.out (by kernel_rfl)) (fun _ _ _ h => h) (Or.inl ⟨by rfl, ?_⟩) ?_ ?_
                rotate_left
                · intro w'
                  go_simp
                  with_reducible rfl
                rotate_left
                · simp only [Act.put, List.setIfInBounds_toArray, List.set_cons_zero, List.set_cons_succ, i64_w, i32_w]
                  rfl
                refine pure_ (i := 5) (N := some 22) (v := ?_) (a' := ?_) #[true, true, true, false, true, true, false, false, false, false] rfl rfl (any_of HT_.out (by kernel_rfl)) (fun _ _ _ h => h) (Or.inl ⟨by rfl, ?_⟩) ?_ ?_
                rotate_left
                · intro w'
                  go_simp
                  with_reducible rfl
                rotate_left
                · simp only [Act.put, List.setIfInBounds_toArray, List.set_cons_zero, List.set_cons_succ, i64_w, i32_w]
                  rfl
                refine pure_ (i := 6) (N := some 23) (v := ?_) (a' := ?_) #[true, true, true, false, true, true, true, false, false, false] rfl rfl (any_of HT_.out (by kernel_rfl)) (fun _ _ _ h => h) (Or.inl ⟨by rfl, ?_⟩) ?_ ?_
                rotate_left
                · intro w'
                  go_simp
                  with_reducible rfl
                rotate_left
                · simp only [Act.put, List.setIfInBounds_toArray, List.set_cons_zero, List.set_cons_succ, i64_w, i32_w]
                  rfl
                refine take_ (i := 3) (N := some 20) (v := ?_) (a' := ?_) #[true, true, true, true, true, true, true, false, false, false] rfl rfl (take_ofW HT_.out HW_.out (by kernel_rfl)) (fun _ _ _ h => h) (Or.inl ⟨by rfl, ?_⟩) hHeld ?_ ?_
                rotate_left
                · rintro w' ⟨s0, s1, s2, s3, s4, s5, s6, s7, s8, s9⟩
                  go_simp
                  with_reducible rfl
                rotate_left
                · simp only [Act.put, List.setIfInBounds_toArray, List.set_cons_zero, List.set_cons_succ, i64_w, i32_w]
                  rfl
                refine take_ (i := 7) (N := some 24) (v := ?_) (a' := ?_) #[true, true, true, true, true, true, true, true, false, false] rfl rfl (take_ofW HT_.out HW_.out (by kernel_rfl)) (fun _ _ _ h => h) (Or.inl ⟨by rfl, ?_⟩) hHeld ?_ ?_
                rotate_left
                · rintro w' ⟨s0, s1, s2, s3, s4, s5, s6, s7, s8, s9⟩
                  go_simp
                  with_reducible rfl
                rotate_left
                · simp only [Act.put, List.setIfInBounds_toArray, List.set_cons_zero, List.set_cons_succ, i64_w, i32_w]
                  rfl
                refine one_ (i := 8) (N := some 25) #[true, true, true, true, true, true, true, true, true, false] rfl rfl (one_of HT_.out (by kernel_rfl)) (by decide) (fun K hK => ?_)
                refine goes_ Try.func20 (by kernel_rfl) rfl #[.agg #[.int .i64 ((rd_T24 l0 x5_1).f0), .int .i64 ((rd_T24 l0 x5_1).f1), .int .i64 ((rd_T24 l0 x5_1).f2), .int .i64 ((rd_T24 l0 x5_1).f3), .slice A317_4 ((rd_T24 l0 x5_1).f4).length c317_4], .agg #[.int .i64 ((rd_T24 l1 x5_1).f0), .int .i64 ((rd_T24 l1 x5_1).f1), .int .i64 ((rd_T24 l1 x5_1).f2), .int .i64 ((rd_T24 l1 x5_1).f3), .slice A318_4 ((rd_T24 l1 x5_1).f4).length c318_4]] (by rfl) rfl rfl (by (try simp only [List.map_toArray, List.map_cons, List.map_nil]); first | done | rfl | (simp only [List.length_drop, List.length_take]; rfl)) ?_
                with_reducible refine (redlineref11_Same.calls k1 ((rd_T24 l0 x5_1).f0) ((rd_T24 l0 x5_1).f1) ((rd_T24 l0 x5_1).f2) ((rd_T24 l0 x5_1).f3) _ _ ((rd_T24 l0 x5_1).f4) ((rd_T24 l1 x5_1).f0) ((rd_T24 l1 x5_1).f1) ((rd_T24 l1 x5_1).f2) ((rd_T24 l1 x5_1).f3) _ _ ((rd_T24 l1 x5_1).f4) true _ ?side1 ?side2 ?side3 ?side4 A7.out).mono ?_
                (case side1 => repeat (first | exact (Kd.C_below HR317_4.out HB.out) | (with_reducible refine Kd.C_alloc ?_ _) | (with_reducible refine Kd.C_drewN ?_ _) | (with_reducible refine Kd.C_drew ?_)))
                (case side2 => exact HC317_4.out)
                (case side3 => repeat (first | exact (Kd.C_below HR318_4.out HB.out) | (with_reducible refine Kd.C_alloc ?_ _) | (with_reducible refine Kd.C_drewN ?_ _) | (with_reducible refine Kd.C_drew ?_)))
                (case side4 => exact HC318_4.out)
                rintro e w10 ⟨rfl, hb⟩
                refine ⟨_, rfl, ?_⟩
                have n0_ := Aside0.mk (below_step (by repeat (first | (with_reducible first | exact HB.out | apply below_alloc | apply pw_below_drewN | apply below_drew1) | exact HB.out)) hb)
                clear HB
                have HB := n0_
                clear n0_
                (try clear hb)
                (try clear hb2)
                (try clear hk)
                (try clear hi)
                refine hK.out _ _ ⟨((HB.out.cell (World.block_lt_of_cell? w _ hw317_0)).trans hw317_0), ((HB.out.cell (World.block_lt_of_cell? w _ hw317_1)).trans hw317_1), ((HB.out.cell (World.block_lt_of_cell? w _ hw317_2)).trans hw317_2), ((HB.out.cell (World.block_lt_of_cell? w _ hw317_3)).trans hw317_3), ((HB.out.cell (World.block_lt_of_cell? w _ hw317_4)).trans hw317_4), ((HB.out.cell (World.block_lt_of_cell? w _ hw318_0)).trans hw318_0), ((HB.out.cell (World.block_lt_of_cell? w _ hw318_1)).trans hw318_1), ((HB.out.cell (World.block_lt_of_cell? w _ hw318_2)).trans hw318_2), ((HB.out.cell (World.block_lt_of_cell? w _ hw318_3)).trans hw318_3), ((HB.out.cell (World.block_lt_of_cell? w _ hw318_4)).trans hw318_4)⟩ (fun hHeld => ?_)
                clear hK K
                refine norm_ (a' := ?_) ?_ ?_
                rotate_left
                · show Act.put _ (some 25) _ = _
                  simp only [Act.put, List.setIfInBounds_toArray, List.set_cons_zero, List.set_cons_succ, i64_w, i32_w]
                  rfl
                refine pure_ (i := 9) (N := some 26) (v := ?_) (a' := ?_) #[true, true, true, true, true, true, true, true, true, true] rfl rfl (any_of HT_.out (by kernel_rfl)) (fun _ _ _ h => h) (Or.inl ⟨by rfl, ?_⟩) ?_ ?_
                rotate_left
                · intro w'
                  go_simp
                  with_reducible rfl
                rotate_left
                · simp only [Act.put, List.setIfInBounds_toArray, List.set_cons_zero, List.set_cons_succ, i64_w, i32_w]
                  rfl
                refine done_ (done_of HT_.out (by kernel_rfl)) ?_
                try go_wp2
                go_roundg k1
                case measure => have := HK1.out; omega
                case rel => exact ⟨(wrap64 (x5_1 + 1)), (by first | rfl | (simp; done) | (simp [*]; done)), H', ⟨by have := HK1.out; omega⟩, ⟨by repeat (first | (with_reducible first | exact HB.out | apply below_alloc | apply pw_below_drewN | apply below_drew1) | exact HB.out)⟩⟩
              · replace c8 := Bool.eq_false_iff.mpr c8
                subst c8
                have H1 : (some false) = some r := by rw [if_neg (show ¬ (false = true) by decide)] at H; exact H
                clear H
                have H := H1
                clear H1
                obtain rfl := Option.some.inj H
                try go_wp2
                have n0_ := Aside0.mk (below_drew1 HB.out)
                clear HB
                have HB := n0_
                clear n0_
                have p317 : 0 ≤ (x5_1 : Int) := of_decide_eq_true (by first | (with_reducible assumption) | assumption)
                have q317 : x5_1 < (l0.length : Int) := of_decide_eq_true (by first | (with_reducible assumption) | assumption)
                obtain ⟨ad317, A317_4, c317_4, e317, hx317_0, hx317_1, hx317_2, hx317_3, hx317_4, hl317_4, hi317_4⟩ := at_T24 HR0.out x5_1 p317 q317
                have hw317_4 := hx317_4
                have hw317_3 := hx317_3
                have hw317_2 := hx317_2
                have hw317_1 := hx317_1
                have hw317_0 := hx317_0
                cases e317
                replace hx317_0 := (HB.out.cell (World.block_lt_of_cell? w _ hx317_0)).trans hx317_0
                replace hx317_1 := (HB.out.cell (World.block_lt_of_cell? w _ hx317_1)).trans hx317_1
                replace hx317_2 := (HB.out.cell (World.block_lt_of_cell? w _ hx317_2)).trans hx317_2
                replace hx317_3 := (HB.out.cell (World.block_lt_of_cell? w _ hx317_3)).trans hx317_3
                replace hx317_4 := (HB.out.cell (World.block_lt_of_cell? w _ hx317_4)).trans hx317_4
                have HR317_4 := Aside0.mk hi317_4
                have HC317_4 := Aside0.mk hl317_4
                clear hi317_4 hl317_4
                replace p317 := eq_true p317
                replace q317 := eq_true q317
                have p318 : 0 ≤ (x5_1 : Int) := of_decide_eq_true (by first | (with_reducible assumption) | assumption)
                have q318 : x5_1 < (l1.length : Int) := of_decide_eq_true (by first | (with_reducible assumption) | assumption)
                obtain ⟨ad318, A318_4, c318_4, e318, hx318_0, hx318_1, hx318_2, hx318_3, hx318_4, hl318_4, hi318_4⟩ := at_T24 HR1.out x5_1 p318 q318
                have hw318_4 := hx318_4
                have hw318_3 := hx318_3
                have hw318_2 := hx318_2
                have hw318_1 := hx318_1
                have hw318_0 := hx318_0
                cases e318
                replace hx318_0 := (HB.out.cell (World.block_lt_of_cell? w _ hx318_0)).trans hx318_0
                replace hx318_1 := (HB.out.cell (World.block_lt_of_cell? w _ hx318_1)).trans hx318_1
                replace hx318_2 := (HB.out.cell (World.block_lt_of_cell? w _ hx318_2)).trans hx318_2
                replace hx318_3 := (HB.out.cell (World.block_lt_of_cell? w _ hx318_3)).trans hx318_3
                replace hx318_4 := (HB.out.cell (World.block_lt_of_cell? w _ hx318_4)).trans hx318_4
                have HR318_4 := Aside0.mk hi318_4
                have HC318_4 := Aside0.mk hl318_4
                clear hi318_4 hl318_4
                replace p318 := eq_true p318
                replace q318 := eq_true q318
                refine start_ (n := 10) (S := fun w' => w'.cell? (ad317.add ((x5_1).toNat * 5)) = some (.int .i64 ((rd_T24 l0 x5_1).f0)) ∧ w'.cell? ⟨(ad317.add ((x5_1).toNat * 5)).block, (ad317.add ((x5_1).toNat * 5)).off + 1, none⟩ = some (.int .i64 ((rd_T24 l0 x5_1).f1)) ∧ w'.cell? ⟨(ad317.add ((x5_1).toNat * 5)).block, (ad317.add ((x5_1).toNat * 5)).off + 2, none⟩ = some (.int .i64 ((rd_T24 l0 x5_1).f2)) ∧ w'.cell? ⟨(ad317.add ((x5_1).toNat * 5)).block, (ad317.add ((x5_1).toNat * 5)).off + 3, none⟩ = some (.int .i64 ((rd_T24 l0 x5_1).f3)) ∧ w'.cell? ⟨(ad317.add ((x5_1).toNat * 5)).block, (ad317.add ((x5_1).toNat * 5)).off + 4, none⟩ = some (.slice A317_4 ((rd_T24 l0 x5_1).f4).length c317_4) ∧ w'.cell? (ad318.add ((x5_1).toNat * 5)) = some (.int .i64 ((rd_T24 l1 x5_1).f0)) ∧ w'.cell? ⟨(ad318.add ((x5_1).toNat * 5)).block, (ad318.add ((x5_1).toNat * 5)).off + 1, none⟩ = some (.int .i64 ((rd_T24 l1 x5_1).f1)) ∧ w'.cell? ⟨(ad318.add ((x5_1).toNat * 5)).block, (ad318.add ((x5_1).toNat * 5)).off + 2, none⟩ = some (.int .i64 ((rd_T24 l1 x5_1).f2)) ∧ w'.cell? ⟨(ad318.add ((x5_1).toNat * 5)).block, (ad318.add ((x5_1).toNat * 5)).off + 3, none⟩ = some (.int .i64 ((rd_T24 l1 x5_1).f3)) ∧ w'.cell? ⟨(ad318.add ((x5_1).toNat * 5)).block, (ad318.add ((x5_1).toNat * 5)).off + 4, none⟩ = some (.slice A318_4 ((rd_T24 l1 x5_1).f4).length c318_4)) (ds := []) #[false, false, false, false, false, false, false, false, false, false] (by kernel_rfl) rfl rfl ⟨((HB.out.cell (World.block_lt_of_cell? w _ hw317_0)).trans hw317_0), ((HB.out.cell (World.block_lt_of_cell? w _ hw317_1)).trans hw317_1), ((HB.out.cell (World.block_lt_of_cell? w _ hw317_2)).trans hw317_2), ((HB.out.cell (World.block_lt_of_cell? w _ hw317_3)).trans hw317_3), ((HB.out.cell (World.block_lt_of_cell? w _ hw317_4)).trans hw317_4), ((HB.out.cell (World.block_lt_of_cell? w _ hw318_0)).trans hw318_0), ((HB.out.cell (World.block_lt_of_cell? w _ hw318_1)).trans hw318_1), ((HB.out.cell (World.block_lt_of_cell? w _ hw318_2)).trans hw318_2), ((HB.out.cell (World.block_lt_of_cell? w _ hw318_3)).trans hw318_3), ((HB.out.cell (World.block_lt_of_cell? w _ hw318_4)).trans hw318_4)⟩ (fun hHeld => ?_); refine with_tabW redlineref11_SameHunks.tab6 redlineref11_SameHunks.bits6 (fun HT_ HW_ => ?_)
                generalize wr.drew = w11 at HB HR317_4 HR318_4 hx317_0 hx317_1 hx317_2 hx317_3 hx317_4 hx318_0 hx318_1 hx318_2 hx318_3 hx318_4 hHeld ⊢
                refine pure_ (i := 0) (N := some 17) (v := ?_) (a' := ?_) #[true, false, false, false, false, false, false, false, false, false] rfl rfl (any_of HT_.out (by kernel_rfl)) (fun _ _ _ h => h) (Or.inl ⟨by rfl, ?_⟩) ?_ ?_
                rotate_left
                · intro w'
                  go_simp
                  with_reducible rfl
                rotate_left
                · simp only [Act.put, List.setIfInBounds_toArray, List.set_cons_zero, List.set_cons_succ, i64_w, i32_w]
                  rfl
                refine pure_ (i := 1) (N := some 18) (v := ?_) (a' := ?_) #[true, true, false, false, false, false, false, false, false, false] rfl rfl (any_of HT_.out (by kernel_rfl)) (fun _ _ _ h => h) (Or.inl ⟨by rfl, ?_⟩) ?_ ?_
                rotate_left
                · intro w'
                  go_simp
                  with_reducible rfl
                rotate_left
                · simp only [Act.put, List.setIfInBounds_toArray, List.set_cons_zero, List.set_cons_succ, i64_w, i32_w]
                  rfl
                refine pure_ (i := 2) (N := some 19) (v := ?_) (a' := ?_) #[true, true, true, false, false, false, false, false, false, false] rfl rfl (any_of HT_.out (by kernel_rfl)) (fun _ _ _ h => h) (Or.inl ⟨by rfl, ?_⟩) ?_ ?_
                rotate_left
                · intro w'
                  go_simp
                  with_reducible rfl
                rotate_left
                · simp only [Act.put, List.setIfInBounds_toArray, List.set_cons_zero, List.set_cons_succ, i64_w, i32_w]
                  rfl
                refine pure_ (i := 4) (N := some 21) (v := ?_) (a' := ?_) #[true, true, true, false, true, false, false, false, false, false] rfl rfl (any_of HT_.out (by kernel_rfl)) (fun _ _ _ h => h) (Or.inl ⟨by rfl, ?_⟩) ?_ ?_
                rotate_left
                · intro w'
                  go_simp
                  with_reducible rfl
                rotate_left
                · simp only [Act.put, List.setIfInBounds_toArray, List.set_cons_zero, List.set_cons_succ, i64_w, i32_w]
                  rfl
                refine pure_ (i := 5) (N := some 22) (v := ?_) (a' := ?_) #[true, true, true, false, true, true, false, false, false, false] rfl rfl (any_of HT_.out (by kernel_rfl)) (fun _ _ _ h => h) (Or.inl ⟨by rfl, ?_⟩) ?_ ?_
                rotate_left
                · intro w'
                  go_simp
                  with_reducible rfl
                rotate_left
                · simp only [Act.put, List.setIfInBounds_toArray, List.set_cons_zero, List.set_cons_succ, i64_w, i32_w]
                  rfl
                refine pure_ (i := 6) (N := some 23) (v := ?_) (a' := ?_) #[true, true, true, false, true, true, true, false, false, false] rfl rfl (any_of HT_.out (by kernel_rfl)) (fun _ _ _ h => h) (Or.inl ⟨by rfl, ?_⟩) ?_ ?_
                rotate_left
                · intro w'
                  go_simp
                  with_reducible rfl
                rotate_left
                · simp only [Act.put, List.setIfInBounds_toArray, List.set_cons_zero, List.set_cons_succ, i64_w, i32_w]
                  rfl
                refine take_ (i := 3) (N := some 20) (v := ?_) (a' := ?_) #[true, true, true, true, true, true, true, false, false, false] rfl rfl (take_ofW HT_.out HW_.out (by kernel_rfl)) (fun _ _ _ h => h) (Or.inl ⟨by rfl, ?_⟩) hHeld ?_ ?_
                rotate_left
                · rintro w' ⟨s0, s1, s2, s3, s4, s5, s6, s7, s8, s9⟩
                  go_simp
                  with_reducible rfl
                rotate_left
                · simp only [Act.put, List.setIfInBounds_toArray, List.set_cons_zero, List.set_cons_succ, i64_w, i32_w]
                  rfl
                refine take_ (i := 7) (N := some 24) (v := ?_) (a' := ?_) #[true, true, true, true, true, true, true, true, false, false] rfl rfl (take_ofW HT_.out HW_.out (by kernel_rfl)) (fun _ _ _ h => h) (Or.inl ⟨by rfl, ?_⟩) hHeld ?_ ?_
                rotate_left
                · rintro w' ⟨s0, s1, s2, s3, s4, s5, s6, s7, s8, s9⟩
                  go_simp
                  with_reducible rfl
                rotate_left
                · simp only [Act.put, List.setIfInBounds_toArray, List.set_cons_zero, List.set_cons_succ, i64_w, i32_w]
                  rfl
                refine one_ (i := 8) (N := some 25) #[true, true, true, true, true, true, true, true, true, false] rfl rfl (one_of HT_.out (by kernel_rfl)) (by decide) (fun K hK => ?_)
                refine goes_ Try.func20 (by kernel_rfl) rfl #[.agg #[.int .i64 ((rd_T24 l0 x5_1).f0), .int .i64 ((rd_T24 l0 x5_1).f1), .int .i64 ((rd_T24 l0 x5_1).f2), .int .i64 ((rd_T24 l0 x5_1).f3), .slice A317_4 ((rd_T24 l0 x5_1).f4).length c317_4], .agg #[.int .i64 ((rd_T24 l1 x5_1).f0), .int .i64 ((rd_T24 l1 x5_1).f1), .int .i64 ((rd_T24 l1 x5_1).f2), .int .i64 ((rd_T24 l1 x5_1).f3), .slice A318_4 ((rd_T24 l1 x5_1).f4).length c318_4]] (by rfl) rfl rfl (by (try simp only [List.map_toArray, List.map_cons, List.map_nil]); first | done | rfl | (simp only [List.length_drop, List.length_take]; rfl)) ?_
                with_reducible refine (redlineref11_Same.calls k1 ((rd_T24 l0 x5_1).f0) ((rd_T24 l0 x5_1).f1) ((rd_T24 l0 x5_1).f2) ((rd_T24 l0 x5_1).f3) _ _ ((rd_T24 l0 x5_1).f4) ((rd_T24 l1 x5_1).f0) ((rd_T24 l1 x5_1).f1) ((rd_T24 l1 x5_1).f2) ((rd_T24 l1 x5_1).f3) _ _ ((rd_T24 l1 x5_1).f4) false _ ?side1 ?side2 ?side3 ?side4 A7.out).mono ?_
                (case side1 => repeat (first | exact (Kd.C_below HR317_4.out HB.out) | (with_reducible refine Kd.C_alloc ?_ _) | (with_reducible refine Kd.C_drewN ?_ _) | (with_reducible refine Kd.C_drew ?_)))
                (case side2 => exact HC317_4.out)
                (case side3 => repeat (first | exact (Kd.C_below HR318_4.out HB.out) | (with_reducible refine Kd.C_alloc ?_ _) | (with_reducible refine Kd.C_drewN ?_ _) | (with_reducible refine Kd.C_drew ?_)))
                (case side4 => exact HC318_4.out)
                rintro e w12 ⟨rfl, hb⟩
                refine ⟨_, rfl, ?_⟩
                have n0_ := Aside0.mk (below_step (by repeat (first | (with_reducible first | exact HB.out | apply below_alloc | apply pw_below_drewN | apply below_drew1) | exact HB.out)) hb)
                clear HB
                have HB := n0_
                clear n0_
                (try clear hb)
                (try clear hb2)
                (try clear hk)
                (try clear hi)
                refine hK.out _ _ ⟨((HB.out.cell (World.block_lt_of_cell? w _ hw317_0)).trans hw317_0), ((HB.out.cell (World.block_lt_of_cell? w _ hw317_1)).trans hw317_1), ((HB.out.cell (World.block_lt_of_cell? w _ hw317_2)).trans hw317_2), ((HB.out.cell (World.block_lt_of_cell? w _ hw317_3)).trans hw317_3), ((HB.out.cell (World.block_lt_of_cell? w _ hw317_4)).trans hw317_4), ((HB.out.cell (World.block_lt_of_cell? w _ hw318_0)).trans hw318_0), ((HB.out.cell (World.block_lt_of_cell? w _ hw318_1)).trans hw318_1), ((HB.out.cell (World.block_lt_of_cell? w _ hw318_2)).trans hw318_2), ((HB.out.cell (World.block_lt_of_cell? w _ hw318_3)).trans hw318_3), ((HB.out.cell (World.block_lt_of_cell? w _ hw318_4)).trans hw318_4)⟩ (fun hHeld => ?_)
                clear hK K
                refine norm_ (a' := ?_) ?_ ?_
                rotate_left
                · show Act.put _ (some 25) _ = _
                  simp only [Act.put, List.setIfInBounds_toArray, List.set_cons_zero, List.set_cons_succ, i64_w, i32_w]
                  rfl
                refine pure_ (i := 9) (N := some 26) (v := ?_) (a' := ?_) #[true, true, true, true, true, true, true, true, true, true] rfl rfl (any_of HT_.out (by kernel_rfl)) (fun _ _ _ h => h) (Or.inl ⟨by rfl, ?_⟩) ?_ ?_
                rotate_left
                · intro w'
                  go_simp
                  with_reducible rfl
                rotate_left
                · simp only [Act.put, List.setIfInBounds_toArray, List.set_cons_zero, List.set_cons_succ, i64_w, i32_w]
                  rfl
                refine done_ (done_of HT_.out (by kernel_rfl)) ?_
                try go_wp2
                go_ret
                exact ⟨by first | rfl | (simp [errW_none, errW_some] <;> rfl) | (simp [*, errW_none, errW_some] <;> rfl), by repeat (first | (with_reducible first | exact HB.out | apply below_alloc | apply pw_below_drewN | apply below_drew1) | exact HB.out)⟩
            · rw [if_neg c6] at H
              exact absurd H (by simp)
          · rw [if_neg c5] at H
            exact absurd H (by simp)
        · rw [if_neg c4] at H
          have c4b0 : decide (x5_1 < (l0.length : Int)) = false := decide_eq_false c4
          clear c4
          obtain rfl := Option.some.inj H
          go_wp2
          go_ret
          exact ⟨by first | rfl | (simp [errW_none, errW_some] <;> rfl) | (simp [*, errW_none, errW_some] <;> rfl), by repeat (first | (with_reducible first | exact HB.out | apply below_alloc | apply pw_below_drewN | apply below_drew1) | exact HB.out)⟩
  · rw [if_neg c3] at H
    have c3b0 : ((l0.length : Int) == (l1.length : Int)) = false := beq_eq_false_iff_ne.mpr c3
    have c3b1 : ((l0.length : Int) != (l1.length : Int)) = true := bne_iff_ne.mpr c3
    have c3b2 : (l0.length == l1.length) = false := by first | simpa using c3 | (simp at c3 ⊢; omega)
    obtain rfl := Option.some.inj H
    go_enter Try.func29, Try.ntmps29
    go_wp2
    go_ret
    exact ⟨by first | rfl | (simp [errW_none, errW_some] <;> rfl) | (simp [*, errW_none, errW_some] <;> rfl), by repeat (first | (with_reducible first | exact HB.out | apply below_alloc | apply pw_below_drewN | apply below_drew1) | exact HB.out)⟩
end Go.Proofs.Ytnllemlmgbjjnaa.PA
namespace Go.Proofs.Ytnllemlmgbjjnaa.PA
open Go.RowKit Go.Proofs.YtnllemlmgbjjnaaW.PrintWords Go.Proofs.YtnllemlmgbjjnaaW.PrintLast Go.Proofs.YtnllemlmgbjjnaaW.PrintMore
attribute [local go_sem] max2_int min2_int max_two min_two max_three min_three max_four min_four   -- for this text's walks alone
set_option linter.unusedVariables false
set_option linter.unusedSimpArgs false
def redlinelaw11_HunksOrder.f (k : Nat) (l0 : List (S24)) : Option (Bool) := (redlineref11_Copy.f k l0).bind fun t320 => ((hunks_Changes.f k t320).bind fun bt323 => ((redlineref11_Changes.f k l0).bind fun bt327 => ((hunks_Order.f k t320).bind fun t331 => ((redlineref11_Order.f k l0).bind fun t332 => (if t331 = t332 then (if bt323.2 = bt327.2 then ((redlineref05_Same.f k bt323.1 bt327.1).bind fun t333 => (if t333 = true then ((redlineref11_SameHunks.f k t320 l0).bind fun t334 => (some t334)) else (some false))) else (some false)) else (some false))))))
set_option maxHeartbeats 8000000 in
set_option maxRecDepth 100000 in
theorem redlinelaw11_HunksOrder.calls (k : Nat) (A0 : Option Addr) (c0 : Nat) (l0 : List (S24)) (r : Bool) (w : World) (hr0 : Kd.C k24 w A0 l0.length l0) (hc0 : l0.length ≤ c0) (h : redlinelaw11_HunksOrder.f k l0 = some r) :
    Calls Try.prog 5 #[.slice A0 l0.length c0] w fun e w' => e = .returned (.bool r) ∧ Below w.heap.size w w' := by
  have HR0 := Aside0.mk hr0
  have HC0 := Aside0.mk hc0
  clear hr0 hc0
  have HB := Aside0.mk (Below.refl w.heap.size w)
  have H : ((redlineref11_Copy.f k l0).bind fun t320 => ((hunks_Changes.f k t320).bind fun bt323 => ((redlineref11_Changes.f k l0).bind fun bt327 => ((hunks_Order.f k t320).bind fun t331 => ((redlineref11_Order.f k l0).bind fun t332 => (if t331 = t332 then (if bt323.2 = bt327.2 then ((redlineref05_Same.f k bt323.1 bt327.1).bind fun t333 => (if t333 = true then ((redlineref11_SameHunks.f k t320 l0).bind fun t334 => (some t334)) else (some false))) else (some false)) else (some false))))))) = some r := h
  clear h
  replace H := Option.bind_eq_some_iff.mp H
  obtain ⟨t320, A20, H⟩ := H
  replace H : ((hunks_Changes.f k t320).bind fun bt323 => ((redlineref11_Changes.f k l0).bind fun bt327 => ((hunks_Order.f k t320).bind fun t331 => ((redlineref11_Order.f k l0).bind fun t332 => (if t331 = t332 then (if bt323.2 = bt327.2 then ((redlineref05_Same.f k bt323.1 bt327.1).bind fun t333 => (if t333 = true then ((redlineref11_SameHunks.f k t320 l0).bind fun t334 => (some t334)) else (some false))) else (some false)) else (some false)))))) = some r := H
  have A2 := Aside0.mk A20
  clear A20
  replace H := Option.bind_eq_some_iff.mp H
  obtain ⟨⟨t323, t324⟩, A30, H⟩ := H
  replace H : ((redlineref11_Changes.f k l0).bind fun bt327 => ((hunks_Order.f k t320).bind fun t331 => ((redlineref11_Order.f k l0).bind fun t332 => (if t331 = t332 then (if t324 = bt327.2 then ((redlineref05_Same.f k t323 bt327.1).bind fun t333 => (if t333 = true then ((redlineref11_SameHunks.f k t320 l0).bind fun t334 => (some t334)) else (some false))) else (some false)) else (some false))))) = some r := H
  have A3 := Aside0.mk A30
  clear A30
  replace H := Option.bind_eq_some_iff.mp H
  obtain ⟨⟨t327, t328⟩, A40, H⟩ := H
  replace H : ((hunks_Order.f k t320).bind fun t331 => ((redlineref11_Order.f k l0).bind fun t332 => (if t331 = t332 then (if t324 = t328 then ((redlineref05_Same.f k t323 t327).bind fun t333 => (if t333 = true then ((redlineref11_SameHunks.f k t320 l0).bind fun t334 => (some t334)) else (some false))) else (some false)) else (some false)))) = some r := H
  have A4 := Aside0.mk A40
  clear A40
  replace H := Option.bind_eq_some_iff.mp H
  obtain ⟨t331, A50, H⟩ := H
  replace H : ((redlineref11_Order.f k l0).bind fun t332 => (if t331 = t332 then (if t324 = t328 then ((redlineref05_Same.f k t323 t327).bind fun t333 => (if t333 = true then ((redlineref11_SameHunks.f k t320 l0).bind fun t334 => (some t334)) else (some false))) else (some false)) else (some false))) = some r := H
  have A5 := Aside0.mk A50
  clear A50
  replace H := Option.bind_eq_some_iff.mp H
  obtain ⟨t332, A60, H⟩ := H
  replace H : (if t331 = t332 then (if t324 = t328 then ((redlineref05_Same.f k t323 t327).bind fun t333 => (if t333 = true then ((redlineref11_SameHunks.f k t320 l0).bind fun t334 => (some t334)) else (some false))) else (some false)) else (some false)) = some r := H
  have A6 := Aside0.mk A60
  clear A60
  by_cases c7 : t331 = t332
  · rw [if_pos c7] at H
    have c7b0 : (t331 == t332) = true := beq_iff_eq.mpr c7
    have c7b1 : (t331 != t332) = false := bne_eq_false_iff_eq.mpr c7
    clear c7
    by_cases c8 : t324 = t328
    · rw [if_pos c8] at H
      have c8b0 : (t324 == t328) = true := beq_iff_eq.mpr c8
      have c8b1 : (t324 != t328) = false := bne_eq_false_iff_eq.mpr c8
      clear c8
      replace H := Option.bind_eq_some_iff.mp H
      obtain ⟨t333, A90, H⟩ := H
      replace H : (if t333 = true then ((redlineref11_SameHunks.f k t320 l0).bind fun t334 => (some t334)) else (some false)) = some r := H
      have A9 := Aside0.mk A90
      clear A90
      by_cases c10 : t333 = true
      · subst c10
        have H1 : ((redlineref11_SameHunks.f k t320 l0).bind fun t334 => (some t334)) = some r := by rw [if_pos rfl] at H; exact H
        clear H
        have H := H1
        clear H1
        replace H := Option.bind_eq_some_iff.mp H
        obtain ⟨t334, A110, H⟩ := H
        replace H : (some t334) = some r := H
        have A11 := Aside0.mk A110
        clear A110
        obtain rfl := Option.some.inj H
        go_enter Try.func5, Try.ntmps5
        go_wp2_with (first | ((with_reducible refine gate_callee (f := 11) rfl ?_); refine goesL_ (some 9) rfl rfl Try.func11 (by kernel_rfl) rfl #[.slice A0 l0.length c0] rfl (by (try simp only [List.map_toArray, List.map_cons, List.map_nil]); first | done | rfl | (simp only [List.length_drop, List.length_take]; rfl)) ?_; (with_reducible refine (redlineref11_Copy.calls k _ _ l0 t320 _ ?side1 ?side2 A2.out).mono ?_); (case side1 => repeat (first | exact HR0.out | (with_reducible refine Kd.C_alloc ?_ _) | (with_reducible refine Kd.C_drewN ?_ _) | (with_reducible refine Kd.C_drew ?_))); (case side2 => exact HC0.out); rintro e w12 ⟨v321, rfl, ho0, hb⟩; refine ⟨_, rfl, ?_⟩; have n0_ := Aside0.mk (Kd.S_lower ho0 (below_size (by repeat (first | (with_reducible first | exact HB.out | apply below_alloc | apply pw_below_drewN | apply below_drew1) | exact HB.out)))); have n1_ := Aside0.mk (below_step (by repeat (first | (with_reducible first | exact HB.out | apply below_alloc | apply pw_below_drewN | apply below_drew1) | exact HB.out)) hb); clear HB; have HO322 := n0_; have HB := n1_; clear n0_ n1_; (try clear hb); (try clear hb2); (try clear hk); (try clear hi); (try clear ho0); obtain ⟨Ao13, co13, eo13⟩ := Kd.S_slice HO322.out; subst eo13) | ((with_reducible refine gate_callee (f := 24) rfl ?_); refine goesL_ (some 12) rfl rfl Try.func24 (by kernel_rfl) rfl #[.slice Ao13 t320.length co13] rfl (by (try simp only [List.map_toArray, List.map_cons, List.map_nil]); first | done | rfl | (simp only [List.length_drop, List.length_take]; rfl)) ?_; (with_reducible refine (hunks_Changes.calls k _ _ t320 t323 t324 _ ?side1 ?side2 A3.out).mono ?_); (case side1 => repeat (first | exact (Kd.S_reads' HO322.out).2.2 | (with_reducible refine Kd.C_alloc ?_ _) | (with_reducible refine Kd.C_drewN ?_ _) | (with_reducible refine Kd.C_drew ?_))); (case side2 => exact (Kd.S_reads' HO322.out).2.1); rintro e w14 ⟨v325, rfl, ho0, hb⟩; refine ⟨_, rfl, ?_⟩; have n0_ := Aside0.mk (Kd.S_below (by (with_reducible repeat (first | apply Kd.S_alloc | apply Kd.S_drewN | apply Kd.S_drew)); exact HO322.out) hb); have n1_ := Aside0.mk (Kd.R_lower ho0 (below_size (by repeat (first | (with_reducible first | exact HB.out | apply below_alloc | apply pw_below_drewN | apply below_drew1) | exact HB.out)))); have n2_ := Aside0.mk (below_step (by repeat (first | (with_reducible first | exact HB.out | apply below_alloc | apply pw_below_drewN | apply below_drew1) | exact HB.out)) hb); clear HO322; clear HB; have HO322 := n0_; have HO326 := n1_; have HB := n2_; clear n0_ n1_ n2_; (try clear hb); (try clear hb2); (try clear hk); (try clear hi); (try clear ho0)) | ((with_reducible refine gate_callee (f := 25) rfl ?_); refine goesL_ (some 17) rfl rfl Try.func25 (by kernel_rfl) rfl #[.slice A0 l0.length c0] rfl (by (try simp only [List.map_toArray, List.map_cons, List.map_nil]); first | done | rfl | (simp only [List.length_drop, List.length_take]; rfl)) ?_; (with_reducible refine (redlineref11_Changes.calls k _ _ l0 t327 t328 _ ?side1 ?side2 A4.out).mono ?_); (case side1 => repeat (first | exact (Kd.C_below HR0.out HB.out) | (with_reducible refine Kd.C_alloc ?_ _) | (with_reducible refine Kd.C_drewN ?_ _) | (with_reducible refine Kd.C_drew ?_))); (case side2 => exact HC0.out); rintro e w15 ⟨v329, rfl, ho0, hb⟩; refine ⟨_, rfl, ?_⟩; have n0_ := Aside0.mk (Kd.S_below (by (with_reducible repeat (first | apply Kd.S_alloc | apply Kd.S_drewN | apply Kd.S_drew)); exact HO322.out) hb); have n1_ := Aside0.mk (Kd.R_elder' (by (with_reducible repeat (first | apply Kd.R_alloc | apply Kd.R_drewN | apply Kd.R_drew)); exact HO326.out) (Kd.R_base ho0) hb); have n2_ := Aside0.mk (Kd.R_lower (Kd.R_new' ho0 (Kd.R_lt (by (with_reducible repeat (first | apply Kd.R_alloc | apply Kd.R_drewN | apply Kd.R_drew)); exact HO326.out))) (below_size (by repeat (first | (with_reducible first | exact HB.out | apply below_alloc | apply pw_below_drewN | apply below_drew1) | exact HB.out)))); have n3_ := Aside0.mk (below_step (by repeat (first | (with_reducible first | exact HB.out | apply below_alloc | apply pw_below_drewN | apply below_drew1) | exact HB.out)) hb); clear HO322; clear HO326; clear HB; have HO322 := n0_; have HO326 := n1_; have HO330 := n2_; have HB := n3_; clear n0_ n1_ n2_ n3_; (try clear hb); (try clear hb2); (try clear hk); (try clear hi); (try clear ho0)) | ((with_reducible refine gate_callee (f := 26) rfl ?_); refine goesL_ (some 21) rfl rfl Try.func26 (by kernel_rfl) rfl #[.slice Ao13 t320.length co13] rfl (by (try simp only [List.map_toArray, List.map_cons, List.map_nil]); first | done | rfl | (simp only [List.length_drop, List.length_take]; rfl)) ?_; (with_reducible refine (hunks_Order.calls k _ _ t320 t331 _ ?side1 ?side2 A5.out).mono ?_); (case side1 => repeat (first | exact (Kd.S_reads' HO322.out).2.2 | (with_reducible refine Kd.C_alloc ?_ _) | (with_reducible refine Kd.C_drewN ?_ _) | (with_reducible refine Kd.C_drew ?_))); (case side2 => exact (Kd.S_reads' HO322.out).2.1); rintro e w16 ⟨rfl, hb⟩; refine ⟨_, rfl, ?_⟩; have n0_ := Aside0.mk (Kd.S_below (by (with_reducible repeat (first | apply Kd.S_alloc | apply Kd.S_drewN | apply Kd.S_drew)); exact HO322.out) hb); have n1_ := Aside0.mk (Kd.R_below (by (with_reducible repeat (first | apply Kd.R_alloc | apply Kd.R_drewN | apply Kd.R_drew)); exact HO326.out) hb); have n2_ := Aside0.mk (Kd.R_below (by (with_reducible repeat (first | apply Kd.R_alloc | apply Kd.R_drewN | apply Kd.R_drew)); exact HO330.out) hb); have n3_ := Aside0.mk (below_step (by repeat (first | (with_reducible first | exact HB.out | apply below_alloc | apply pw_below_drewN | apply below_drew1) | exact HB.out)) hb); clear HO322; clear HO326; clear HO330; clear HB; have HO322 := n0_; have HO326 := n1_; have HO330 := n2_; have HB := n3_; clear n0_ n1_ n2_ n3_; (try clear hb); (try clear hb2); (try clear hk); (try clear hi)) | ((with_reducible refine gate_callee (f := 27) rfl ?_); refine goesL_ (some 23) rfl rfl Try.func27 (by kernel_rfl) rfl #[.slice A0 l0.length c0] rfl (by (try simp only [List.map_toArray, List.map_cons, List.map_nil]); first | done | rfl | (simp only [List.length_drop, List.length_take]; rfl)) ?_; (with_reducible refine (redlineref11_Order.calls k _ _ l0 t332 _ ?side1 ?side2 A6.out).mono ?_); (case side1 => repeat (first | exact (Kd.C_below HR0.out HB.out) | (with_reducible refine Kd.C_alloc ?_ _) | (with_reducible refine Kd.C_drewN ?_ _) | (with_reducible refine Kd.C_drew ?_))); (case side2 => exact HC0.out); rintro e w17 ⟨rfl, hb⟩; refine ⟨_, rfl, ?_⟩; have n0_ := Aside0.mk (Kd.S_below (by (with_reducible repeat (first | apply Kd.S_alloc | apply Kd.S_drewN | apply Kd.S_drew)); exact HO322.out) hb); have n1_ := Aside0.mk (Kd.R_below (by (with_reducible repeat (first | apply Kd.R_alloc | apply Kd.R_drewN | apply Kd.R_drew)); exact HO326.out) hb); have n2_ := Aside0.mk (Kd.R_below (by (with_reducible repeat (first | apply Kd.R_alloc | apply Kd.R_drewN | apply Kd.R_drew)); exact HO330.out) hb); have n3_ := Aside0.mk (below_step (by repeat (first | (with_reducible first | exact HB.out | apply below_alloc | apply pw_below_drewN | apply below_drew1) | exact HB.out)) hb); clear HO322; clear HO326; clear HO330; clear HB; have HO322 := n0_; have HO326 := n1_; have HO330 := n2_; have HB := n3_; clear n0_ n1_ n2_ n3_; (try clear hb); (try clear hb2); (try clear hk); (try clear hi); obtain ⟨Ao18, co18, eo18⟩ := Kd.R_slice HO326.out; subst eo18; obtain ⟨Ao19, co19, eo19⟩ := Kd.R_slice HO330.out; subst eo19) | (go_at_call 28; (with_reducible refine (redlineref05_Same.calls k _ _ t323 _ _ t327 true _ ?side1 ?side2 ?side3 ?side4 A9.out).mono ?_); (case side1 => repeat (first | exact (Kd.R_reads' HO326.out).2.2 | (with_reducible refine Kd.C_alloc ?_ _) | (with_reducible refine Kd.C_drewN ?_ _) | (with_reducible refine Kd.C_drew ?_))); (case side2 => exact (Kd.R_reads' HO326.out).2.1); (case side3 => repeat (first | exact (Kd.R_reads' HO330.out).2.2 | (with_reducible refine Kd.C_alloc ?_ _) | (with_reducible refine Kd.C_drewN ?_ _) | (with_reducible refine Kd.C_drew ?_))); (case side4 => exact (Kd.R_reads' HO330.out).2.1); rintro e w' ⟨rfl, ⟨nd, rfl⟩⟩) | (go_at_call 29; (with_reducible refine (redlineref11_SameHunks.calls k _ _ t320 _ _ l0 t334 _ ?side1 ?side2 ?side3 ?side4 A11.out).mono ?_); (case side1 => repeat (first | exact (Kd.S_reads' HO322.out).2.2 | (with_reducible refine Kd.C_alloc ?_ _) | (with_reducible refine Kd.C_drewN ?_ _) | (with_reducible refine Kd.C_drew ?_))); (case side2 => exact (Kd.S_reads' HO322.out).2.1); (case side3 => repeat (first | exact (Kd.C_below HR0.out (by repeat (first | (with_reducible first | exact HB.out | apply below_alloc | apply pw_below_drewN | apply below_drew1) | exact HB.out))) | (with_reducible refine Kd.C_alloc ?_ _) | (with_reducible refine Kd.C_drewN ?_ _) | (with_reducible refine Kd.C_drew ?_))); (case side4 => exact HC0.out); rintro e w20 ⟨rfl, hb⟩; have n0_ := Aside0.mk (Kd.S_below (by (with_reducible repeat (first | apply Kd.S_alloc | apply Kd.S_drewN | apply Kd.S_drew)); exact HO322.out) hb); have n1_ := Aside0.mk (Kd.R_below (by (with_reducible repeat (first | apply Kd.R_alloc | apply Kd.R_drewN | apply Kd.R_drew)); exact HO326.out) hb); have n2_ := Aside0.mk (Kd.R_below (by (with_reducible repeat (first | apply Kd.R_alloc | apply Kd.R_drewN | apply Kd.R_drew)); exact HO330.out) hb); have n3_ := Aside0.mk (below_step (by repeat (first | (with_reducible first | exact HB.out | apply below_alloc | apply pw_below_drewN | apply below_drew1) | exact HB.out)) hb); clear HO322; clear HO326; clear HO330; clear HB; have HO322 := n0_; have HO326 := n1_; have HO330 := n2_; have HB := n3_; clear n0_ n1_ n2_ n3_; (try clear hb); (try clear hb2); (try clear hk); (try clear hi)))
        go_ret
        exact ⟨by first | rfl | (simp [errW_none, errW_some] <;> rfl) | (simp [*, errW_none, errW_some] <;> rfl), by repeat (first | (with_reducible first | exact HB.out | apply below_alloc | apply pw_below_drewN | apply below_drew1) | exact HB.out)⟩
      · replace c10 := Bool.eq_false_iff.mpr c10
        subst c10
        have H1 : (some false) = some r := by rw [if_neg (show ¬ (false = true) by decide)] at H; exact H
        clear H
        have H := H1
        clear H1
        obtain rfl := Option.some.inj H
        go_enter Try.func5, Try.ntmps5
        go_wp2_with (first | ((with_reducible refine gate_callee (f := 11) rfl ?_); refine goesL_ (some 9) rfl rfl Try.func11 (by kernel_rfl) rfl #[.slice A0 l0.length c0] rfl (by (try simp only [List.map_toArray, List.map_cons, List.map_nil]); first | done | rfl | (simp only [List.length_drop, List.length_take]; rfl)) ?_; (with_reducible refine (redlineref11_Copy.calls k _ _ l0 t320 _ ?side1 ?side2 A2.out).mono ?_); (case side1 => repeat (first | exact HR0.out | (with_reducible refine Kd.C_alloc ?_ _) | (with_reducible refine Kd.C_drewN ?_ _) | (with_reducible refine Kd.C_drew ?_))); (case side2 => exact HC0.out); rintro e w21 ⟨v321, rfl, ho0, hb⟩; refine ⟨_, rfl, ?_⟩; have n0_ := Aside0.mk (Kd.S_lower ho0 (below_size (by repeat (first | (with_reducible first | exact HB.out | apply below_alloc | apply pw_below_drewN | apply below_drew1) | exact HB.out)))); have n1_ := Aside0.mk (below_step (by repeat (first | (with_reducible first | exact HB.out | apply below_alloc | apply pw_below_drewN | apply below_drew1) | exact HB.out)) hb); clear HB; have HO322 := n0_; have HB := n1_; clear n0_ n1_; (try clear hb); (try clear hb2); (try clear hk); (try clear hi); (try clear ho0); obtain ⟨Ao22, co22, eo22⟩ := Kd.S_slice HO322.out; subst eo22) | ((with_reducible refine gate_callee (f := 24) rfl ?_); refine goesL_ (some 12) rfl rfl Try.func24 (by kernel_rfl) rfl #[.slice Ao22 t320.length co22] rfl (by (try simp only [List.map_toArray, List.map_cons, List.map_nil]); first | done | rfl | (simp only [List.length_drop, List.length_take]; rfl)) ?_; (with_reducible refine (hunks_Changes.calls k _ _ t320 t323 t324 _ ?side1 ?side2 A3.out).mono ?_); (case side1 => repeat (first | exact (Kd.S_reads' HO322.out).2.2 | (with_reducible refine Kd.C_alloc ?_ _) | (with_reducible refine Kd.C_drewN ?_ _) | (with_reducible refine Kd.C_drew ?_))); (case side2 => exact (Kd.S_reads' HO322.out).2.1); rintro e w23 ⟨v325, rfl, ho0, hb⟩; refine ⟨_, rfl, ?_⟩; have n0_ := Aside0.mk (Kd.S_below (by (with_reducible repeat (first | apply Kd.S_alloc | apply Kd.S_drewN | apply Kd.S_drew)); exact HO322.out) hb); have n1_ := Aside0.mk (Kd.R_lower ho0 (below_size (by repeat (first | (with_reducible first | exact HB.out | apply below_alloc | apply pw_below_drewN | apply below_drew1) | exact HB.out)))); have n2_ := Aside0.mk (below_step (by repeat (first | (with_reducible first | exact HB.out | apply below_alloc | apply pw_below_drewN | apply below_drew1) | exact HB.out)) hb); clear HO322; clear HB; have HO322 := n0_; have HO326 := n1_; have HB := n2_; clear n0_ n1_ n2_; (try clear hb); (try clear hb2); (try clear hk); (try clear hi); (try clear ho0)) | ((with_reducible refine gate_callee (f := 25) rfl ?_); refine goesL_ (some 17) rfl rfl Try.func25 (by kernel_rfl) rfl #[.slice A0 l0.length c0] rfl (by (try simp only [List.map_toArray, List.map_cons, List.map_nil]); first | done | rfl | (simp only [List.length_drop, List.length_take]; rfl)) ?_; (with_reducible refine (redlineref11_Changes.calls k _ _ l0 t327 t328 _ ?side1 ?side2 A4.out).mono ?_); (case side1 => repeat (first | exact (Kd.C_below HR0.out HB.out) | (with_reducible refine Kd.C_alloc ?_ _) | (with_reducible refine Kd.C_drewN ?_ _) | (with_reducible refine Kd.C_drew ?_))); (case side2 => exact HC0.out); rintro e w24 ⟨v329, rfl, ho0, hb⟩; refine ⟨_, rfl, ?_⟩; have n0_ := Aside0.mk (Kd.S_below (by (with_reducible repeat (first | apply Kd.S_alloc | apply Kd.S_drewN | apply Kd.S_drew)); exact HO322.out) hb); have n1_ := Aside0.mk (Kd.R_elder' (by (with_reducible repeat (first | apply Kd.R_alloc | apply Kd.R_drewN | apply Kd.R_drew)); exact HO326.out) (Kd.R_base ho0) hb); have n2_ := Aside0.mk (Kd.R_lower (Kd.R_new' ho0 (Kd.R_lt (by (with_reducible repeat (first | apply Kd.R_alloc | apply Kd.R_drewN | apply Kd.R_drew)); exact HO326.out))) (below_size (by repeat (first | (with_reducible first | exact HB.out | apply below_alloc | apply pw_below_drewN | apply below_drew1) | exact HB.out)))); have n3_ := Aside0.mk (below_step (by repeat (first | (with_reducible first | exact HB.out | apply below_alloc | apply pw_below_drewN | apply below_drew1) | exact HB.out)) hb); clear HO322; clear HO326; clear HB; have HO322 := n0_; have HO326 := n1_; have HO330 := n2_; have HB := n3_; clear n0_ n1_ n2_ n3_; (try clear hb); (try clear hb2); (try clear hk); (try clear hi); (try clear ho0)) | ((with_reducible refine gate_callee (f := 26) rfl ?_); refine goesL_ (some 21) rfl rfl Try.func26 (by kernel_rfl) rfl #[.slice Ao22 t320.length co22] rfl (by (try simp only [List.map_toArray, List.map_cons, List.map_nil]); first | done | rfl | (simp only [List.length_drop, List.length_take]; rfl)) ?_; (with_reducible refine (hunks_Order.calls k _ _ t320 t331 _ ?side1 ?side2 A5.out).mono ?_); (case side1 => repeat (first | exact (Kd.S_reads' HO322.out).2.2 | (with_reducible refine Kd.C_alloc ?_ _) | (with_reducible refine Kd.C_drewN ?_ _) | (with_reducible refine Kd.C_drew ?_))); (case side2 => exact (Kd.S_reads' HO322.out).2.1); rintro e w25 ⟨rfl, hb⟩; refine ⟨_, rfl, ?_⟩; have n0_ := Aside0.mk (Kd.S_below (by (with_reducible repeat (first | apply Kd.S_alloc | apply Kd.S_drewN | apply Kd.S_drew)); exact HO322.out) hb); have n1_ := Aside0.mk (Kd.R_below (by (with_reducible repeat (first | apply Kd.R_alloc | apply Kd.R_drewN | apply Kd.R_drew)); exact HO326.out) hb); have n2_ := Aside0.mk (Kd.R_below (by (with_reducible repeat (first | apply Kd.R_alloc | apply Kd.R_drewN | apply Kd.R_drew)); exact HO330.out) hb); have n3_ := Aside0.mk (below_step (by repeat (first | (with_reducible first | exact HB.out | apply below_alloc | apply pw_below_drewN | apply below_drew1) | exact HB.out)) hb); clear HO322; clear HO326; clear HO330; clear HB; have HO322 := n0_; have HO326 := n1_; have HO330 := n2_; have HB := n3_; clear n0_ n1_ n2_ n3_; (try clear hb); (try clear hb2); (try clear hk); (try clear hi)) | ((with_reducible refine gate_callee (f := 27) rfl ?_); refine goesL_ (some 23) rfl rfl Try.func27 (by kernel_rfl) rfl #[.slice A0 l0.length c0] rfl (by (try simp only [List.map_toArray, List.map_cons, List.map_nil]); first | done | rfl | (simp only [List.length_drop, List.length_take]; rfl)) ?_; (with_reducible refine (redlineref11_Order.calls k _ _ l0 t332 _ ?side1 ?side2 A6.out).mono ?_); (case side1 => repeat (first | exact (Kd.C_below HR0.out HB.out) | (with_reducible refine Kd.C_alloc ?_ _) | (with_reducible refine Kd.C_drewN ?_ _) | (with_reducible refine Kd.C_drew ?_))); (case side2 => exact HC0.out); rintro e w26 ⟨rfl, hb⟩; refine ⟨_, rfl, ?_⟩; have n0_ := Aside0.mk (Kd.S_below (by (with_reducible repeat (first | apply Kd.S_alloc | apply Kd.S_drewN | apply Kd.S_drew)); exact HO322.out) hb); have n1_ := Aside0.mk (Kd.R_below (by (with_reducible repeat (first | apply Kd.R_alloc | apply Kd.R_drewN | apply Kd.R_drew)); exact HO326.out) hb); have n2_ := Aside0.mk (Kd.R_below (by (with_reducible repeat (first | apply Kd.R_alloc | apply Kd.R_drewN | apply Kd.R_drew)); exact HO330.out) hb); have n3_ := Aside0.mk (below_step (by repeat (first | (with_reducible first | exact HB.out | apply below_alloc | apply pw_below_drewN | apply below_drew1) | exact HB.out)) hb); clear HO322; clear HO326; clear HO330; clear HB; have HO322 := n0_; have HO326 := n1_; have HO330 := n2_; have HB := n3_; clear n0_ n1_ n2_ n3_; (try clear hb); (try clear hb2); (try clear hk); (try clear hi); obtain ⟨Ao27, co27, eo27⟩ := Kd.R_slice HO326.out; subst eo27; obtain ⟨Ao28, co28, eo28⟩ := Kd.R_slice HO330.out; subst eo28) | (go_at_call 28; (with_reducible refine (redlineref05_Same.calls k _ _ t323 _ _ t327 false _ ?side1 ?side2 ?side3 ?side4 A9.out).mono ?_); (case side1 => repeat (first | exact (Kd.R_reads' HO326.out).2.2 | (with_reducible refine Kd.C_alloc ?_ _) | (with_reducible refine Kd.C_drewN ?_ _) | (with_reducible refine Kd.C_drew ?_))); (case side2 => exact (Kd.R_reads' HO326.out).2.1); (case side3 => repeat (first | exact (Kd.R_reads' HO330.out).2.2 | (with_reducible refine Kd.C_alloc ?_ _) | (with_reducible refine Kd.C_drewN ?_ _) | (with_reducible refine Kd.C_drew ?_))); (case side4 => exact (Kd.R_reads' HO330.out).2.1); rintro e w' ⟨rfl, ⟨nd, rfl⟩⟩))
        go_ret
        exact ⟨by first | rfl | (simp [errW_none, errW_some] <;> rfl) | (simp [*, errW_none, errW_some] <;> rfl), by repeat (first | (with_reducible first | exact HB.out | apply below_alloc | apply pw_below_drewN | apply below_drew1) | exact HB.out)⟩
    · rw [if_neg c8] at H
      have c8b0 : (t324 == t328) = false := beq_eq_false_iff_ne.mpr c8
      have c8b1 : (t324 != t328) = true := bne_iff_ne.mpr c8
      obtain rfl := Option.some.inj H
      go_enter Try.func5, Try.ntmps5
      go_wp2_with (first | ((with_reducible refine gate_callee (f := 11) rfl ?_); refine goesL_ (some 9) rfl rfl Try.func11 (by kernel_rfl) rfl #[.slice A0 l0.length c0] rfl (by (try simp only [List.map_toArray, List.map_cons, List.map_nil]); first | done | rfl | (simp only [List.length_drop, List.length_take]; rfl)) ?_; (with_reducible refine (redlineref11_Copy.calls k _ _ l0 t320 _ ?side1 ?side2 A2.out).mono ?_); (case side1 => repeat (first | exact HR0.out | (with_reducible refine Kd.C_alloc ?_ _) | (with_reducible refine Kd.C_drewN ?_ _) | (with_reducible refine Kd.C_drew ?_))); (case side2 => exact HC0.out); rintro e w29 ⟨v321, rfl, ho0, hb⟩; refine ⟨_, rfl, ?_⟩; have n0_ := Aside0.mk (Kd.S_lower ho0 (below_size (by repeat (first | (with_reducible first | exact HB.out | apply below_alloc | apply pw_below_drewN | apply below_drew1) | exact HB.out)))); have n1_ := Aside0.mk (below_step (by repeat (first | (with_reducible first | exact HB.out | apply below_alloc | apply pw_below_drewN | apply below_drew1) | exact HB.out)) hb); clear HB; have HO322 := n0_; have HB := n1_; clear n0_ n1_; (try clear hb); (try clear hb2); (try clear hk); (try clear hi); (try clear ho0); obtain ⟨Ao30, co30, eo30⟩ := Kd.S_slice HO322.out; subst eo30) | ((with_reducible refine gate_callee (f := 24) rfl ?_); refine goesL_ (some 12) rfl rfl Try.func24 (by kernel_rfl) rfl #[.slice Ao30 t320.length co30] rfl (by (try simp only [List.map_toArray, List.map_cons, List.map_nil]); first | done | rfl | (simp only [List.length_drop, List.length_take]; rfl)) ?_; (with_reducible refine (hunks_Changes.calls k _ _ t320 t323 t324 _ ?side1 ?side2 A3.out).mono ?_); (case side1 => repeat (first | exact (Kd.S_reads' HO322.out).2.2 | (with_reducible refine Kd.C_alloc ?_ _) | (with_reducible refine Kd.C_drewN ?_ _) | (with_reducible refine Kd.C_drew ?_))); (case side2 => exact (Kd.S_reads' HO322.out).2.1); rintro e w31 ⟨v325, rfl, ho0, hb⟩; refine ⟨_, rfl, ?_⟩; have n0_ := Aside0.mk (Kd.S_below (by (with_reducible repeat (first | apply Kd.S_alloc | apply Kd.S_drewN | apply Kd.S_drew)); exact HO322.out) hb); have n1_ := Aside0.mk (Kd.R_lower ho0 (below_size (by repeat (first | (with_reducible first | exact HB.out | apply below_alloc | apply pw_below_drewN | apply below_drew1) | exact HB.out)))); have n2_ := Aside0.mk (below_step (by repeat (first | (with_reducible first | exact HB.out | apply below_alloc | apply pw_below_drewN | apply below_drew1) | exact HB.out)) hb); clear HO322; clear HB; have HO322 := n0_; have HO326 := n1_; have HB := n2_; clear n0_ n1_ n2_; (try clear hb); (try clear hb2); (try clear hk); (try clear hi); (try clear ho0)) | ((with_reducible refine gate_callee (f := 25) rfl ?_); refine goesL_ (some 17) rfl rfl Try.func25 (by kernel_rfl) rfl #[.slice A0 l0.length c0] rfl (by (try simp only [List.map_toArray, List.map_cons, List.map_nil]); first | done | rfl | (simp only [List.length_drop, List.length_take]; rfl)) ?_; (with_reducible refine (redlineref11_Changes.calls k _ _ l0 t327 t328 _ ?side1 ?side2 A4.out).mono ?_); (case side1 => repeat (first | exact (Kd.C_below HR0.out HB.out) | (with_reducible refine Kd.C_alloc ?_ _) | (with_reducible refine Kd.C_drewN ?_ _) | (with_reducible refine Kd.C_drew ?_))); (case side2 => exact HC0.out); rintro e w32 ⟨v329, rfl, ho0, hb⟩; refine ⟨_, rfl, ?_⟩; have n0_ := Aside0.mk (Kd.S_below (by (with_reducible repeat (first | apply Kd.S_alloc | apply Kd.S_drewN | apply Kd.S_drew)); exact HO322.out) hb); have n1_ := Aside0.mk (Kd.R_elder' (by (with_reducible repeat (first | apply Kd.R_alloc | apply Kd.R_drewN | apply Kd.R_drew)); exact HO326.out) (Kd.R_base ho0) hb); have n2_ := Aside0.mk (Kd.R_lower (Kd.R_new' ho0 (Kd.R_lt (by (with_reducible repeat (first | apply Kd.R_alloc | apply Kd.R_drewN | apply Kd.R_drew)); exact HO326.out))) (below_size (by repeat (first | (with_reducible first | exact HB.out | apply below_alloc | apply pw_below_drewN | apply below_drew1) | exact HB.out)))); have n3_ := Aside0.mk (below_step (by repeat (first | (with_reducible first | exact HB.out | apply below_alloc | apply pw_below_drewN | apply below_drew1) | exact HB.out)) hb); clear HO322; clear HO326; clear HB; have HO322 := n0_; have HO326 := n1_; have HO330 := n2_; have HB := n3_; clear n0_ n1_ n2_ n3_; (try clear hb); (try clear hb2); (try clear hk); (try clear hi); (try clear ho0)) | ((with_reducible refine gate_callee (f := 26) rfl ?_); refine goesL_ (some 21) rfl rfl Try.func26 (by kernel_rfl) rfl #[.slice Ao30 t320.length co30] rfl (by (try simp only [List.map_toArray, List.map_cons, List.map_nil]); first | done | rfl | (simp only [List.length_drop, List.length_take]; rfl)) ?_; (with_reducible refine (hunks_Order.calls k _ _ t320 t331 _ ?side1 ?side2 A5.out).mono ?_); (case side1 => repeat (first | exact (Kd.S_reads' HO322.out).2.2 | (with_reducible refine Kd.C_alloc ?_ _) | (with_reducible refine Kd.C_drewN ?_ _) | (with_reducible refine Kd.C_drew ?_))); (case side2 => exact (Kd.S_reads' HO322.out).2.1); rintro e w33 ⟨rfl, hb⟩; refine ⟨_, rfl, ?_⟩; have n0_ := Aside0.mk (Kd.S_below (by (with_reducible repeat (first | apply Kd.S_alloc | apply Kd.S_drewN | apply Kd.S_drew)); exact HO322.out) hb); have n1_ := Aside0.mk (Kd.R_below (by (with_reducible repeat (first | apply Kd.R_alloc | apply Kd.R_drewN | apply Kd.R_drew)); exact HO326.out) hb); have n2_ := Aside0.mk (Kd.R_below (by (with_reducible repeat (first | apply Kd.R_alloc | apply Kd.R_drewN | apply Kd.R_drew)); exact HO330.out) hb); have n3_ := Aside0.mk (below_step (by repeat (first | (with_reducible first | exact HB.out | apply below_alloc | apply pw_below_drewN | apply below_drew1) | exact HB.out)) hb); clear HO322; clear HO326; clear HO330; clear HB; have HO322 := n0_; have HO326 := n1_; have HO330 := n2_; have HB := n3_; clear n0_ n1_ n2_ n3_; (try clear hb); (try clear hb2); (try clear hk); (try clear hi)) | ((with_reducible refine gate_callee (f := 27) rfl ?_); refine goesL_ (some 23) rfl rfl Try.func27 (by kernel_rfl) rfl #[.slice A0 l0.length c0] rfl (by (try simp only [List.map_toArray, List.map_cons, List.map_nil]); first | done | rfl | (simp only [List.length_drop, List.length_take]; rfl)) ?_; (with_reducible refine (redlineref11_Order.calls k _ _ l0 t332 _ ?side1 ?side2 A6.out).mono ?_); (case side1 => repeat (first | exact (Kd.C_below HR0.out HB.out) | (with_reducible refine Kd.C_alloc ?_ _) | (with_reducible refine Kd.C_drewN ?_ _) | (with_reducible refine Kd.C_drew ?_))); (case side2 => exact HC0.out); rintro e w34 ⟨rfl, hb⟩; refine ⟨_, rfl, ?_⟩; have n0_ := Aside0.mk (Kd.S_below (by (with_reducible repeat (first | apply Kd.S_alloc | apply Kd.S_drewN | apply Kd.S_drew)); exact HO322.out) hb); have n1_ := Aside0.mk (Kd.R_below (by (with_reducible repeat (first | apply Kd.R_alloc | apply Kd.R_drewN | apply Kd.R_drew)); exact HO326.out) hb); have n2_ := Aside0.mk (Kd.R_below (by (with_reducible repeat (first | apply Kd.R_alloc | apply Kd.R_drewN | apply Kd.R_drew)); exact HO330.out) hb); have n3_ := Aside0.mk (below_step (by repeat (first | (with_reducible first | exact HB.out | apply below_alloc | apply pw_below_drewN | apply below_drew1) | exact HB.out)) hb); clear HO322; clear HO326; clear HO330; clear HB; have HO322 := n0_; have HO326 := n1_; have HO330 := n2_; have HB := n3_; clear n0_ n1_ n2_ n3_; (try clear hb); (try clear hb2); (try clear hk); (try clear hi)))
      go_ret
      exact ⟨by first | rfl | (simp [errW_none, errW_some] <;> rfl) | (simp [*, errW_none, errW_some] <;> rfl), by repeat (first | (with_reducible first | exact HB.out | apply below_alloc | apply pw_below_drewN | apply below_drew1) | exact HB.out)⟩
  · rw [if_neg c7] at H
    have c7b0 : (t331 == t332) = false := beq_eq_false_iff_ne.mpr c7
    have c7b1 : (t331 != t332) = true := bne_iff_ne.mpr c7
    obtain rfl := Option.some.inj H
    go_enter Try.func5, Try.ntmps5
    go_wp2_with (first | ((with_reducible refine gate_callee (f := 11) rfl ?_); refine goesL_ (some 9) rfl rfl Try.func11 (by kernel_rfl) rfl #[.slice A0 l0.length c0] rfl (by (try simp only [List.map_toArray, List.map_cons, List.map_nil]); first | done | rfl | (simp only [List.length_drop, List.length_take]; rfl)) ?_; (with_reducible refine (redlineref11_Copy.calls k _ _ l0 t320 _ ?side1 ?side2 A2.out).mono ?_); (case side1 => repeat (first | exact HR0.out | (with_reducible refine Kd.C_alloc ?_ _) | (with_reducible refine Kd.C_drewN ?_ _) | (with_reducible refine Kd.C_drew ?_))); (case side2 => exact HC0.out); rintro e w35 ⟨v321, rfl, ho0, hb⟩; refine ⟨_, rfl, ?_⟩; have n0_ := Aside0.mk (Kd.S_lower ho0 (below_size (by repeat (first | (with_reducible first | exact HB.out | apply below_alloc | apply pw_below_drewN | apply below_drew1) | exact HB.out)))); have n1_ := Aside0.mk (below_step (by repeat (first | (with_reducible first | exact HB.out | apply below_alloc | apply pw_below_drewN | apply below_drew1) | exact HB.out)) hb); clear HB; have HO322 := n0_; have HB := n1_; clear n0_ n1_; (try clear hb); (try clear hb2); (try clear hk); (try clear hi); (try clear ho0); obtain ⟨Ao36, co36, eo36⟩ := Kd.S_slice HO322.out; subst eo36) | ((with_reducible refine gate_callee (f := 24) rfl ?_); refine goesL_ (some 12) rfl rfl Try.func24 (by kernel_rfl) rfl #[.slice Ao36 t320.length co36] rfl (by (try simp only [List.map_toArray, List.map_cons, List.map_nil]); first | done | rfl | (simp only [List.length_drop, List.length_take]; rfl)) ?_; (with_reducible refine (hunks_Changes.calls k _ _ t320 t323 t324 _ ?side1 ?side2 A3.out).mono ?_); (case side1 => repeat (first | exact (Kd.S_reads' HO322.out).2.2 | (with_reducible refine Kd.C_alloc ?_ _) | (with_reducible refine Kd.C_drewN ?_ _) | (with_reducible refine Kd.C_drew ?_))); (case side2 => exact (Kd.S_reads' HO322.out).2.1); rintro e w37 ⟨v325, rfl, ho0, hb⟩; refine ⟨_, rfl, ?_⟩; have n0_ := Aside0.mk (Kd.S_below (by (with_reducible repeat (first | apply Kd.S_alloc | apply Kd.S_drewN | apply Kd.S_drew)); exact HO322.out) hb); have n1_ := Aside0.mk (Kd.R_lower ho0 (below_size (by repeat (first | (with_reducible first | exact HB.out | apply below_alloc | apply pw_below_drewN | apply below_drew1) | exact HB.out)))); have n2_ := Aside0.mk (below_step (by repeat (first | (with_reducible first | exact HB.out | apply below_alloc | apply pw_below_drewN | apply below_drew1) | exact HB.out)) hb); clear HO322; clear HB; have HO322 := n0_; have HO326 := n1_; have HB := n2_; clear n0_ n1_ n2_; (try clear hb); (try clear hb2); (try clear hk); (try clear hi); (try clear ho0)) | ((with_reducible refine gate_callee (f := 25) rfl ?_); refine goesL_ (some 17) rfl rfl Try.func25 (by kernel_rfl) rfl #[.slice A0 l0.length c0] rfl (by (try simp only [List.map_toArray, List.map_cons, List.map_nil]); first | done | rfl | (simp only [List.length_drop, List.length_take]; rfl)) ?_; (with_reducible refine (redlineref11_Changes.calls k _ _ l0 t327 t328 _ ?side1 ?side2 A4.out).mono ?_); (case side1 => repeat (first | exact (Kd.C_below HR0.out HB.out) | (with_reducible refine Kd.C_alloc ?_ _) | (with_reducible refine Kd.C_drewN ?_ _) | (with_reducible refine Kd.C_drew ?_))); (case side2 => exact HC0.out); rintro e w38 ⟨v329, rfl, ho0, hb⟩; refine ⟨_, rfl, ?_⟩; have n0_ := Aside0.mk (Kd.S_below (by (with_reducible repeat (first | apply Kd.S_alloc | apply Kd.S_drewN | apply Kd.S_drew)); exact HO322.out) hb); have n1_ := Aside0.mk (Kd.R_elder' (by (with_reducible repeat (first | apply Kd.R_alloc | apply Kd.R_drewN | apply Kd.R_drew)); exact HO326.out) (Kd.R_base ho0) hb); have n2_ := Aside0.mk (Kd.R_lower (Kd.R_new' ho0 (Kd.R_lt (by (with_reducible repeat (first | apply Kd.R_alloc | apply Kd.R_drewN | apply Kd.R_drew)); exact HO326.out))) (below_size (by repeat (first | (with_reducible first | exact HB.out | apply below_alloc | apply pw_below_drewN | apply below_drew1) | exact HB.out)))); have n3_ := Aside0.mk (below_step (by repeat (first | (with_reducible first | exact HB.out | apply below_alloc | apply pw_below_drewN | apply below_drew1) | exact HB.out)) hb); clear HO322; clear HO326; clear HB; have HO322 := n0_; have HO326 := n1_; have HO330 := n2_; have HB := n3_; clear n0_ n1_ n2_ n3_; (try clear hb); (try clear hb2); (try clear hk); (try clear hi); (try clear ho0)) | ((with_reducible refine gate_callee (f := 26) rfl ?_); refine goesL_ (some 21) rfl rfl Try.func26 (by kernel_rfl) rfl #[.slice Ao36 t320.length co36] rfl (by (try simp only [List.map_toArray, List.map_cons, List.map_nil]); first | done | rfl | (simp only [List.length_drop, List.length_take]; rfl)) ?_; (with_reducible refine (hunks_Order.calls k _ _ t320 t331 _ ?side1 ?side2 A5.out).mono ?_); (case side1 => repeat (first | exact (Kd.S_reads' HO322.out).2.2 | (with_reducible refine Kd.C_alloc ?_ _) | (with_reducible refine Kd.C_drewN ?_ _) | (with_reducible refine Kd.C_drew ?_))); (case side2 => exact (Kd.S_reads' HO322.out).2.1); rintro e w39 ⟨rfl, hb⟩; refine ⟨_, rfl, ?_⟩; have n0_ := Aside0.mk (Kd.S_below (by (with_reducible repeat (first | apply Kd.S_alloc | apply Kd.S_drewN | apply Kd.S_drew)); exact HO322.out) hb); have n1_ := Aside0.mk (Kd.R_below (by (with_reducible repeat (first | apply Kd.R_alloc | apply Kd.R_drewN | apply Kd.R_drew)); exact HO326.out) hb); have n2_ := Aside0.mk (Kd.R_below (by (with_reducible repeat (first | apply Kd.R_alloc | apply Kd.R_drewN | apply Kd.R_drew)); exact HO330.out) hb); have n3_ := Aside0.mk (below_step (by repeat (first | (with_reducible first | exact HB.out | apply below_alloc | apply pw_below_drewN | apply below_drew1) | exact HB.out)) hb); clear HO322; clear HO326; clear HO330; clear HB; have HO322 := n0_; have HO326 := n1_; have HO330 := n2_; have HB := n3_; clear n0_ n1_ n2_ n3_; (try clear hb); (try clear hb2); (try clear hk); (try clear hi)) | ((with_reducible refine gate_callee (f := 27) rfl ?_); refine goesL_ (some 23) rfl rfl Try.func27 (by kernel_rfl) rfl #[.slice A0 l0.length c0] rfl (by (try simp only [List.map_toArray, List.map_cons, List.map_nil]); first | done | rfl | (simp only [List.length_drop, List.length_take]; rfl)) ?_; (with_reducible refine (redlineref11_Order.calls k _ _ l0 t332 _ ?side1 ?side2 A6.out).mono ?_); (case side1 => repeat (first | exact (Kd.C_below HR0.out HB.out) | (with_reducible refine Kd.C_alloc ?_ _) | (with_reducible refine Kd.C_drewN ?_ _) | (with_reducible refine Kd.C_drew ?_))); (case side2 => exact HC0.out); rintro e w40 ⟨rfl, hb⟩; refine ⟨_, rfl, ?_⟩; have n0_ := Aside0.mk (Kd.S_below (by (with_reducible repeat (first | apply Kd.S_alloc | apply Kd.S_drewN | apply Kd.S_drew)); exact HO322.out) hb); have n1_ := Aside0.mk (Kd.R_below (by (with_reducible repeat (first | apply Kd.R_alloc | apply Kd.R_drewN | apply Kd.R_drew)); exact HO326.out) hb); have n2_ := Aside0.mk (Kd.R_below (by (with_reducible repeat (first | apply Kd.R_alloc | apply Kd.R_drewN | apply Kd.R_drew)); exact HO330.out) hb); have n3_ := Aside0.mk (below_step (by repeat (first | (with_reducible first | exact HB.out | apply below_alloc | apply pw_below_drewN | apply below_drew1) | exact HB.out)) hb); clear HO322; clear HO326; clear HO330; clear HB; have HO322 := n0_; have HO326 := n1_; have HO330 := n2_; have HB := n3_; clear n0_ n1_ n2_ n3_; (try clear hb); (try clear hb2); (try clear hk); (try clear hi)))
    go_ret
    exact ⟨by first | rfl | (simp [errW_none, errW_some] <;> rfl) | (simp [*, errW_none, errW_some] <;> rfl), by repeat (first | (with_reducible first | exact HB.out | apply below_alloc | apply pw_below_drewN | apply below_drew1) | exact HB.out)⟩
end Go.Proofs.Ytnllemlmgbjjnaa.PA
/- The types of this seat's arguments: data of them reads as values, with the bounds of the reach. -/
namespace Go.Proofs.Ytnllemlmgbjjnaa.PA
set_option linter.unusedVariables false
open Go.RowKit Go.Proofs.YtnllemlmgbjjnaaOpen Go.Proofs.YtnllemlmgbjjnaaW.PrintWords Go.Proofs.YtnllemlmgbjjnaaW.PrintLast Go.Proofs.YtnllemlmgbjjnaaW.PrintMore
/-- What the reach says of one line. -/
def Ok35 (m : S35) : Prop := (Lit.int .u8 m.f0).wf = true ∧ m.f1.size ≤ 140737488351232
def Ok24 (x : S24) : Prop := (Lit.int .i64 x.f0).wf = true ∧ (Lit.int .i64 x.f1).wf = true ∧ (Lit.int .i64 x.f2).wf = true ∧ (Lit.int .i64 x.f3).wf = true ∧ x.f4.length * 24 ≤ 140737488351232 ∧ ∀ m ∈ x.f4, Ok35 m
def fs35 : List Field := [{ name := "Sign", type := 5, offset := 0, embedded := false, tag := "", pkgPath := "", byteOffset := 0 }, { name := "Text", type := 9, offset := 1, embedded := false, tag := "", pkgPath := "", byteOffset := 8 }]
def fs24 : List Field := [{ name := "A", type := 3, offset := 0, embedded := false, tag := "", pkgPath := "", byteOffset := 0 }, { name := "AN", type := 3, offset := 1, embedded := false, tag := "", pkgPath := "", byteOffset := 8 }, { name := "B", type := 3, offset := 2, embedded := false, tag := "", pkgPath := "", byteOffset := 16 }, { name := "BN", type := 3, offset := 3, embedded := false, tag := "", pkgPath := "", byteOffset := 24 }, { name := "Lines", type := 22, offset := 4, embedded := false, tag := "", pkgPath := "", byteOffset := 32 }]
theorem opens5 : Opens Try.prog 5 (Kd.int .u8) (fun n => (Lit.int .u8 n).wf = true) := opens_int Try.underlying5 (by kernel_rfl)
theorem opens3 : Opens Try.prog 3 (Kd.int .i64) (fun n => (Lit.int .i64 n).wf = true) := opens_int Try.underlying3 (by kernel_rfl)
theorem opens9 : Opens Try.prog 9 Kd.string (fun s => s.size ≤ 140737488351232) := opens_string Try.underlying9 (by kernel_rfl)
theorem opensF35 : OpensFs Try.prog fs35 0 (Kd.pair (Kd.int .u8) Kd.string) (fun b : Int × ByteArray => (Lit.int .u8 b.1).wf = true ∧ b.2.size ≤ 140737488351232) :=
  opens_cons (f := { name := "Sign", type := 5, offset := 0, embedded := false, tag := "", pkgPath := "", byteOffset := 0 }) (fs := [{ name := "Text", type := 9, offset := 1, embedded := false, tag := "", pkgPath := "", byteOffset := 8 }]) rfl opens5 (opens_last (f := { name := "Text", type := 9, offset := 1, embedded := false, tag := "", pkgPath := "", byteOffset := 8 }) rfl opens9)
theorem opens35 : Opens Try.prog 35 k35 Ok35 :=
  opens_struct (l := fs35) (G := fun b : Int × ByteArray => (Lit.int .u8 b.1).wf = true ∧ b.2.size ≤ 140737488351232) (f := fun x : S35 => (x.f0, x.f1)) (g := fun b => ⟨b.1, b.2⟩) (fun _ => rfl) Try.underlying35 rfl (by kernel_rfl) opensF35
theorem opens22 : Opens Try.prog 22 (Kd.slice 35 k35) (fun l => l.length * 24 ≤ 140737488351232 ∧ ∀ m ∈ l, Ok35 m) := opens_slice Try.underlying22 (by kernel_rfl) (by kernel_rfl) opens35
theorem opensF24 : OpensFs Try.prog fs24 0 (Kd.pair (Kd.int .i64) (Kd.pair (Kd.int .i64) (Kd.pair (Kd.int .i64) (Kd.pair (Kd.int .i64) (Kd.slice 35 k35))))) (fun b : Int × Int × Int × Int × List S35 => (Lit.int .i64 b.1).wf = true ∧ (Lit.int .i64 b.2.1).wf = true ∧ (Lit.int .i64 b.2.2.1).wf = true ∧ (Lit.int .i64 b.2.2.2.1).wf = true ∧ (b.2.2.2.2.length * 24 ≤ 140737488351232 ∧ ∀ m ∈ b.2.2.2.2, Ok35 m)) :=
  opens_cons (f := { name := "A", type := 3, offset := 0, embedded := false, tag := "", pkgPath := "", byteOffset := 0 }) (fs := [{ name := "AN", type := 3, offset := 1, embedded := false, tag := "", pkgPath := "", byteOffset := 8 }, { name := "B", type := 3, offset := 2, embedded := false, tag := "", pkgPath := "", byteOffset := 16 }, { name := "BN", type := 3, offset := 3, embedded := false, tag := "", pkgPath := "", byteOffset := 24 }, { name := "Lines", type := 22, offset := 4, embedded := false, tag := "", pkgPath := "", byteOffset := 32 }]) rfl opens3 (opens_cons (f := { name := "AN", type := 3, offset := 1, embedded := false, tag := "", pkgPath := "", byteOffset := 8 }) (fs := [{ name := "B", type := 3, offset := 2, embedded := false, tag := "", pkgPath := "", byteOffset := 16 }, { name := "BN", type := 3, offset := 3, embedded := false, tag := "", pkgPath := "", byteOffset := 24 }, { name := "Lines", type := 22, offset := 4, embedded := false, tag := "", pkgPath := "", byteOffset := 32 }]) rfl opens3 (opens_cons (f := { name := "B", type := 3, offset := 2, embedded := false, tag := "", pkgPath := "", byteOffset := 16 }) (fs := [{ name := "BN", type := 3, offset := 3, embedded := false, tag := "", pkgPath := "", byteOffset := 24 }, { name := "Lines", type := 22, offset := 4, embedded := false, tag := "", pkgPath := "", byteOffset := 32 }]) rfl opens3 (opens_cons (f := { name := "BN", type := 3, offset := 3, embedded := false, tag := "", pkgPath := "", byteOffset := 24 }) (fs := [{ name := "Lines", type := 22, offset := 4, embedded := false, tag := "", pkgPath := "", byteOffset := 32 }]) rfl opens3 (opens_last (f := { name := "Lines", type := 22, offset := 4, embedded := false, tag := "", pkgPath := "", byteOffset := 32 }) rfl opens22))))
theorem opens24 : Opens Try.prog 24 k24 Ok24 :=
  opens_struct (l := fs24) (G := fun b : Int × Int × Int × Int × List S35 => (Lit.int .i64 b.1).wf = true ∧ (Lit.int .i64 b.2.1).wf = true ∧ (Lit.int .i64 b.2.2.1).wf = true ∧ (Lit.int .i64 b.2.2.2.1).wf = true ∧ (b.2.2.2.2.length * 24 ≤ 140737488351232 ∧ ∀ m ∈ b.2.2.2.2, Ok35 m)) (f := fun x : S24 => (x.f0, x.f1, x.f2, x.f3, x.f4)) (g := fun b => ⟨b.1, b.2.1, b.2.2.1, b.2.2.2.1, b.2.2.2.2⟩) (fun _ => rfl) Try.underlying24 rfl (by kernel_rfl) opensF24
theorem opens25 : Opens Try.prog 25 (Kd.slice 24 k24) (fun l => l.length * 56 ≤ 140737488351232 ∧ ∀ m ∈ l, Ok24 m) := opens_slice Try.underlying25 (by kernel_rfl) (by kernel_rfl) opens24
end Go.Proofs.Ytnllemlmgbjjnaa.PA
/- HunksOrder: what the printed law answers is true. -/
namespace Go.Proofs.Ytnllemlmgbjjnaa.PA
set_option linter.unusedVariables false
set_option linter.unusedSimpArgs false
open Go.RowKit Go.Proofs.YtnllemlmgbjjnaaW.PrintWords Go.Proofs.YtnllemlmgbjjnaaW.PrintLast Go.Proofs.YtnllemlmgbjjnaaW.PrintMore
theorem same94_from (l : List S94) (hl : l.length < 9223372036854775807) : ∀ (d k i : Nat), i + d = l.length → d < k →
    redlineref05_Same.l0 k l l (i : Int) = some true := by
  intro d
  induction d with
  | zero =>
    intro k i hi hk
    obtain ⟨k, rfl⟩ : ∃ m, k = m + 1 := ⟨k - 1, by omega⟩
    simp only [redlineref05_Same.l0]
    rw [if_neg (by omega)]
  | succ d ih =>
    intro k i hi hk
    obtain ⟨k, rfl⟩ : ∃ m, k = m + 1 := ⟨k - 1, by omega⟩
    simp only [redlineref05_Same.l0]
    rw [if_pos (by omega), if_pos (by omega), if_pos (by omega), if_neg (by simp), wrap_id (by omega) (by omega), succ_cast]
    exact ih k (i + 1) (by omega) (by omega)
theorem same94_eq (l : List S94) (hl : l.length < 9223372036854775807) (k : Nat) (hk : l.length < k) : redlineref05_Same.f k l l = some true := by
  unfold redlineref05_Same.f
  rw [if_pos (by rfl)]
  exact same94_from l hl l.length k 0 (by omega) hk
theorem sameH_from (l : List S24) (hs : Small l) : ∀ (d k i : Nat), i + d = l.length → d + 5864062014810 < k →
    redlineref11_SameHunks.l0 k l l (i : Int) = some true := by
  intro d
  induction d with
  | zero =>
    intro k i hi hk
    obtain ⟨k, rfl⟩ : ∃ m, k = m + 1 := ⟨k - 1, by omega⟩
    simp only [redlineref11_SameHunks.l0]
    rw [if_neg (by omega)]
  | succ d ih =>
    intro k i hi hk
    obtain ⟨k, rfl⟩ : ∃ m, k = m + 1 := ⟨k - 1, by omega⟩
    have hlt : i < l.length := by omega
    have h1 := hs.1
    have hm := (hs.2 l[i] (List.getElem_mem hlt)).1
    simp only [redlineref11_SameHunks.l0]
    rw [if_pos (by omega), if_pos (by omega), if_pos (by omega), rd24 hlt, same_eq _ _ _ _ _ (by omega) k (by omega), Option.bind_some, if_pos rfl, wrap_id (by omega) (by omega), succ_cast]
    exact ih k (i + 1) (by omega) (by omega)
theorem sameH_eq (l : List S24) (hs : Small l) (k : Nat) (hk : 10000000000000 < k) : redlineref11_SameHunks.f k l l = some true := by
  have h1 := hs.1
  unfold redlineref11_SameHunks.f
  rw [if_pos (by rfl)]
  exact sameH_from l hs l.length k 0 (by omega) (by omega)
theorem small_of (l : List S24) (h : l.length * 56 ≤ 140737488351232 ∧ ∀ x ∈ l, Ok24 x) : Small l := by
  refine ⟨by omega, fun x hx => ?_⟩
  obtain ⟨_, _, _, _, h1, h2⟩ := h.2 x hx
  exact ⟨by omega, fun m hm => (h2 m hm).2⟩
theorem order_true (l : List S24) (hs : Small l) : redlinelaw11_HunksOrder.f 200000000000000 l = some true := by
  have h1 := hs.1
  have h2 := changes_len l
  unfold redlinelaw11_HunksOrder.f
  rw [copy_eq l hs.1 (fun h hh => (hs.2 h hh).1) _ (by omega), Option.bind_some, changes_eq l hs _ (by omega), Option.bind_some, rchanges_eq l hs _ (by omega), Option.bind_some, order_eq l hs _ (by omega), Option.bind_some,
    rorder_eq l hs _ (by omega), Option.bind_some, if_pos rfl, if_pos rfl, same94_eq _ (by omega) _ (by omega), Option.bind_some, if_pos rfl, sameH_eq l hs _ (by omega), Option.bind_some]
theorem order_all (l : List S24) (A : Option Addr) (c0 : Nat) (w : World) (hr : Kd.C k24 w A l.length l) (hc : l.length ≤ c0) (ok : l.length * 56 ≤ 140737488351232 ∧ ∀ x ∈ l, Ok24 x) :
    Calls Try.prog 5 #[.slice A l.length c0] w fun e w' => e = .returned (.bool true) ∧ Below w.heap.size w w' :=
  redlinelaw11_HunksOrder.calls 200000000000000 A c0 l true w hr hc (order_true l (small_of l ok))
end Go.Proofs.Ytnllemlmgbjjnaa.PA
