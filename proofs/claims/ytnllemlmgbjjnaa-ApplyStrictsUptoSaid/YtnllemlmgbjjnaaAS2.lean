/- Texts of this proof, packed into one: PAxf21 PAE3 PAL1 PAxf44 PAE0 PAE1 PAE2 PAxf14. -/
import Derived.Test.YtnllemlmgbjjnaaASPAx0
import Derived.Lib.Hide
import Derived.Test.YtnllemlmgbjjnaaAS1
import Derived.Test.YtnllemlmgbjjnaaASShelf
import Derived.RangeFuncNested
import Derived.RangeFuncBox
import Derived.RangeFuncBound
import Derived.RangeFuncCalls
import Derived.RangeFuncLeaves
import Derived.Shelf.Abstract
import Derived.Shelf.RegionOpen
import Derived.WalkKit
import Derived.OwnWalkIn
import Derived.TacticsInMore
import Derived.LoopNIn
import Derived.LoopIn
import Derived.Sort.CutIn
import Derived.BigGuardPartIn
import Derived.Test.YtnllemlmgbjjnaaASQuietR
namespace Go.Proofs.Ytnllemlmgbjjnaa.PA
open Go.RowKit Go.Proofs.YtnllemlmgbjjnaaW.PrintWords Go.Proofs.YtnllemlmgbjjnaaW.PrintLast Go.Proofs.YtnllemlmgbjjnaaW.PrintMore
attribute [local go_sem] max2_int min2_int max_two min_two max_three min_three max_four min_four   -- for this text's walks alone
set_option linter.unusedVariables false
set_option linter.unusedSimpArgs false
def redlineref11_Invert.l0 : Nat → List (S35) → Int → Int → Int → Int → Int → List (S35) → Int → Int → Int → Int → List (S35) → Option (Int × Int × Int × Int × (List (S35)))
  | 0, _, _, _, _, _, _, _, _, _, _, _, _ => none
  | k + 1, x4, x5, x196000, x196001, x196002, x196003, x196004, x198000, x198001, x198002, x198003, x198004 => if x5 < (x196004.length : Int) then (if 0 ≤ x5 then (if ((rd_T35 x196004 x5).f0) = 43 then ((some (([(⟨45, (rd_T35 x196004 x5).f1⟩ : S35)] : List (S35)) : List (S35))).bind fun y203 => (if x198004.length + y203.length < 5864062014805 then (redlineref11_Invert.l0 k x4 (wrap64 (x5 + 1)) x196000 x196001 x196002 x196003 x196004 x198000 x198001 x198002 x198003 (x198004 ++ y203)) else (none))) else (if ((rd_T35 x196004 x5).f0) = 45 then ((some (([(⟨43, (rd_T35 x196004 x5).f1⟩ : S35)] : List (S35)) : List (S35))).bind fun y209 => (if x4.length + y209.length < 5864062014805 then (redlineref11_Invert.l0 k (x4 ++ y209) (wrap64 (x5 + 1)) x196000 x196001 x196002 x196003 x196004 x198000 x198001 x198002 x198003 x198004) else (none))) else (if x198004.length + x4.length < 5864062014805 then ((some (x198004 ++ x4 : List (S35))).bind fun y215 => ((some (([(⟨(rd_T35 x196004 x5).f0, (rd_T35 x196004 x5).f1⟩ : S35)] : List (S35)) : List (S35))).bind fun y218 => (if y215.length + y218.length < 5864062014805 then (redlineref11_Invert.l0 k ([] : List (S35)) (wrap64 (x5 + 1)) x196000 x196001 x196002 x196003 x196004 x198000 x198001 x198002 x198003 (y215 ++ y218)) else (none)))) else (none)))) else (none)) else (if x198004.length + x4.length < 5864062014805 then (some (x198000, x198001, x198002, x198003, (x198004 ++ x4))) else (none))
def redlineref11_Invert.f (k : Nat) (a0_0 : Int) (a0_1 : Int) (a0_2 : Int) (a0_3 : Int) (l0_4 : List (S35)) : Option (Int × Int × Int × Int × (List (S35))) := redlineref11_Invert.l0 k ([] : List (S35)) 0 a0_0 a0_1 a0_2 a0_3 l0_4 a0_2 a0_3 a0_0 a0_1 ([] : List (S35))
def redlineref11_Invert.T8 : Bool × List (List Nat × List Nat) := (true, [([], []), ([0], [0]), ([], []), ([1, 2], [1, 2]), ([], []), ([4], [4]), ([3, 5, 3], [3, 5]), ([0, 1, 2, 3, 4, 5, 6], []), ([7, 6, 6, 0, 1, 2, 3, 4, 5, 6], [6, 7])])
def redlineref11_Invert.B8 : List Nat := [0, 1, 0, 7, 0, 16, 63, 127, 255]
theorem redlineref11_Invert.tab8 : rtab .any (opsOf Try.f21 8) = redlineref11_Invert.T8 := by kernel_rfl
theorem redlineref11_Invert.bits8 : waitsOk redlineref11_Invert.T8.2 redlineref11_Invert.B8 = true := by kernel_rfl
set_option maxHeartbeats 8000000 in
set_option maxRecDepth 100000 in
theorem redlineref11_Invert.calls (k : Nat) (a0_0 : Int) (a0_1 : Int) (a0_2 : Int) (a0_3 : Int) (A0_4 : Option Addr) (c0_4 : Nat) (l0_4 : List (S35)) (r1 : Int) (r2 : Int) (r3 : Int) (r4 : Int) (r5 : List (S35)) (w : World) (hr0_4 : Kd.C k35 w A0_4 l0_4.length l0_4) (hc0_4 : l0_4.length ≤ c0_4) (h : redlineref11_Invert.f k a0_0 a0_1 a0_2 a0_3 l0_4 = some (r1, r2, r3, r4, r5)) :
    Calls Try.prog 21 #[.agg #[.int .i64 a0_0, .int .i64 a0_1, .int .i64 a0_2, .int .i64 a0_3, .slice A0_4 l0_4.length c0_4]] w fun e w' => ∃ v4_ : Value, e = .returned (.agg #[.int .i64 r1, .int .i64 r2, .int .i64 r3, .int .i64 r4, v4_]) ∧ Kd.R k35 35 w' w.heap.size (fun _ => True) v4_ r5 ∧ Below w.heap.size w w' := by
  have hu24 := Try.underlying24
  have hu35 := Try.underlying35
  have HR0_4 := Aside0.mk hr0_4
  have HC0_4 := Aside0.mk hc0_4
  clear hr0_4 hc0_4
  have HB := Aside0.mk (Below.refl w.heap.size w)
  have H : (redlineref11_Invert.l0 k ([] : List (S35)) 0 a0_0 a0_1 a0_2 a0_3 l0_4 a0_2 a0_3 a0_0 a0_1 ([] : List (S35))) = some (r1, r2, r3, r4, r5) := h
  clear h
  have H' := Aside0.mk H
  clear H
  go_enter Try.func21, Try.ntmps21
  go_wp2_with (first | ((with_reducible refine gate_dst (N := 1) rfl ?_); refine box_event ?hg (N := 1) ?hd (cs := #[.int .i64 a0_0, .int .i64 a0_1, .int .i64 a0_2, .int .i64 a0_3, .slice A0_4 l0_4.length c0_4]) (t := 24) ?hr ?_; (case hd => rfl); (case hg => rfl); (case hr => first | (go_simp; done) | (go_simp; rfl)); intro gb195 hg w2 hbox hb; have n0_ := Aside0.mk (below_step (by repeat (first | (with_reducible first | exact HB.out | apply below_alloc | apply pw_below_drewN | apply below_drew1) | exact HB.out)) hb); have n1_ := Aside0.mk (hbox); have n2_ := Aside0.mk ((by rw [hg]; exact (below_size (by repeat (first | (with_reducible first | exact HB.out | apply below_alloc | apply pw_below_drewN | apply below_drew1) | exact HB.out))) : w.heap.size ≤ gb195)); have n3_ := Aside0.mk ((by rw [hg]; exact (below_size (by repeat (first | (with_reducible first | exact HB.out | apply below_alloc | apply pw_below_drewN | apply below_drew1) | exact HB.out))) : w.heap.size ≤ gb195)); clear HB; have HB := n0_; have BK195 := n1_; have GW195 := n2_; have GE195 := n3_; clear n0_ n1_ n2_ n3_; clear hb hbox hg) | ((with_reducible refine gate_dst (N := 2) rfl ?_); refine box_event ?hg (N := 2) ?hd (cs := #[.int .i64 0, .int .i64 0, .int .i64 0, .int .i64 0, .slice none 0 0]) (t := 24) ?hr ?_; (case hd => rfl); (case hg => rfl); (case hr => first | (go_simp; done) | (go_simp; rfl)); intro gb196 hg w3 hbox hb; have n0_ := Aside0.mk (blk_below (g := gb195) (o := .cells #[.int .i64 a0_0, .int .i64 a0_1, .int .i64 a0_2, .int .i64 a0_3, .slice A0_4 l0_4.length c0_4] 24 (0, 0)) (by (with_reducible repeat (first | refine blk_drewN ?_ _ | refine blk_drew ?_ | refine blk_alloc ?_ _)); exact BK195.out) hb); have n1_ := Aside0.mk (below_step (by repeat (first | (with_reducible first | exact HB.out | apply below_alloc | apply pw_below_drewN | apply below_drew1 | refine below_set ?_ GE195.out) | exact HB.out)) hb); have n2_ := Aside0.mk (hbox); have n3_ := Aside0.mk ((by rw [hg]; exact (below_size (by repeat (first | (with_reducible first | exact HB.out | apply below_alloc | apply pw_below_drewN | apply below_drew1 | refine below_set ?_ GE195.out) | exact HB.out))) : w.heap.size ≤ gb196)); have n4_ := Aside0.mk ((by rw [hg]; exact (below_size (by repeat (first | (with_reducible first | exact HB.out | apply below_alloc | apply pw_below_drewN | apply below_drew1 | refine below_set ?_ GE195.out) | exact HB.out))) : w.heap.size ≤ gb196)); have n5_ := Aside0.mk ((by rw [hg]; exact Nat.ne_of_lt (blk_lt (g := gb195) (o := .cells #[.int .i64 a0_0, .int .i64 a0_1, .int .i64 a0_2, .int .i64 a0_3, .slice A0_4 l0_4.length c0_4] 24 (0, 0)) (by (with_reducible repeat (first | refine blk_drewN ?_ _ | refine blk_drew ?_ | refine blk_alloc ?_ _)); exact BK195.out)) : gb195 ≠ gb196)); have n6_ := Aside0.mk ((by rw [hg]; exact Nat.ne_of_gt (blk_lt (g := gb195) (o := .cells #[.int .i64 a0_0, .int .i64 a0_1, .int .i64 a0_2, .int .i64 a0_3, .slice A0_4 l0_4.length c0_4] 24 (0, 0)) (by (with_reducible repeat (first | refine blk_drewN ?_ _ | refine blk_drew ?_ | refine blk_alloc ?_ _)); exact BK195.out)) : gb196 ≠ gb195)); clear BK195; clear HB; have BK195 := n0_; have HB := n1_; have BK196 := n2_; have GW196 := n3_; have GE196 := n4_; have NB195_196 := n5_; have NB196_195 := n6_; clear n0_ n1_ n2_ n3_ n4_ n5_ n6_; clear hb hbox hg; have hnb4 := NB195_196.out; have hnc4 := NB196_195.out; have hcz5_0 : w3.cell? ⟨gb195, 0, none⟩ = some (.int .i64 a0_0) := (blk_cell BK195.out 0).trans rfl; have hcz5_1 : w3.cell? ⟨gb195, 1, none⟩ = some (.int .i64 a0_1) := (blk_cell BK195.out 1).trans rfl; have hcz5_2 : w3.cell? ⟨gb195, 2, none⟩ = some (.int .i64 a0_2) := (blk_cell BK195.out 2).trans rfl; have hcz5_3 : w3.cell? ⟨gb195, 3, none⟩ = some (.int .i64 a0_3) := (blk_cell BK195.out 3).trans rfl; have hcz5_4 : w3.cell? ⟨gb195, 4, none⟩ = some (.slice A0_4 l0_4.length c0_4) := (blk_cell BK195.out 4).trans rfl; have hfz5_0 := blk_frozen BK195.out 0; have hfz5_1 := blk_frozen BK195.out 1; have hfz5_2 := blk_frozen BK195.out 2; have hfz5_3 := blk_frozen BK195.out 3; have hfz5_4 := blk_frozen BK195.out 4) | ((with_reducible refine gate_dst (N := 3) rfl ?_); refine box_event ?hg (N := 3) ?hd (cs := #[.int .i64 0, .int .i64 0, .int .i64 0, .int .i64 0, .slice none 0 0]) (t := 24) ?hr ?_; (case hd => rfl); (case hg => rfl); (case hr => first | (go_simp; done) | (go_simp; rfl)); intro gb197 hg w6 hbox hb; have n0_ := Aside0.mk (blk_below (g := gb195) (o := .cells #[.int .i64 a0_0, .int .i64 a0_1, .int .i64 a0_2, .int .i64 a0_3, .slice A0_4 l0_4.length c0_4] 24 (0, 0)) (by (with_reducible repeat (first | refine blk_drewN ?_ _ | refine blk_drew ?_ | refine blk_alloc ?_ _)); exact BK195.out) hb); have n1_ := Aside0.mk (blk_below (g := gb196) (o := .cells #[.int .i64 0, .int .i64 0, .int .i64 0, .int .i64 0, .slice none 0 0] 24 (0, 0)) (by (with_reducible repeat (first | refine blk_drewN ?_ _ | refine blk_drew ?_ | refine blk_alloc ?_ _)); exact BK196.out) hb); have n2_ := Aside0.mk (below_step (by repeat (first | (with_reducible first | exact HB.out | apply below_alloc | apply pw_below_drewN | apply below_drew1 | refine below_set ?_ GE195.out | refine below_set ?_ GE196.out) | exact HB.out)) hb); have n3_ := Aside0.mk (hbox); have n4_ := Aside0.mk ((by rw [hg]; exact (below_size (by repeat (first | (with_reducible first | exact HB.out | apply below_alloc | apply pw_below_drewN | apply below_drew1 | refine below_set ?_ GE195.out | refine below_set ?_ GE196.out) | exact HB.out))) : w.heap.size ≤ gb197)); have n5_ := Aside0.mk ((by rw [hg]; exact (below_size (by repeat (first | (with_reducible first | exact HB.out | apply below_alloc | apply pw_below_drewN | apply below_drew1 | refine below_set ?_ GE195.out | refine below_set ?_ GE196.out) | exact HB.out))) : w.heap.size ≤ gb197)); have n6_ := Aside0.mk ((by rw [hg]; exact Nat.ne_of_lt (blk_lt (g := gb195) (o := .cells #[.int .i64 a0_0, .int .i64 a0_1, .int .i64 a0_2, .int .i64 a0_3, .slice A0_4 l0_4.length c0_4] 24 (0, 0)) (by (with_reducible repeat (first | refine blk_drewN ?_ _ | refine blk_drew ?_ | refine blk_alloc ?_ _)); exact BK195.out)) : gb195 ≠ gb197)); have n7_ := Aside0.mk ((by rw [hg]; exact Nat.ne_of_gt (blk_lt (g := gb195) (o := .cells #[.int .i64 a0_0, .int .i64 a0_1, .int .i64 a0_2, .int .i64 a0_3, .slice A0_4 l0_4.length c0_4] 24 (0, 0)) (by (with_reducible repeat (first | refine blk_drewN ?_ _ | refine blk_drew ?_ | refine blk_alloc ?_ _)); exact BK195.out)) : gb197 ≠ gb195)); have n8_ := Aside0.mk ((by rw [hg]; exact Nat.ne_of_lt (blk_lt (g := gb196) (o := .cells #[.int .i64 0, .int .i64 0, .int .i64 0, .int .i64 0, .slice none 0 0] 24 (0, 0)) (by (with_reducible repeat (first | refine blk_drewN ?_ _ | refine blk_drew ?_ | refine blk_alloc ?_ _)); exact BK196.out)) : gb196 ≠ gb197)); have n9_ := Aside0.mk ((by rw [hg]; exact Nat.ne_of_gt (blk_lt (g := gb196) (o := .cells #[.int .i64 0, .int .i64 0, .int .i64 0, .int .i64 0, .slice none 0 0] 24 (0, 0)) (by (with_reducible repeat (first | refine blk_drewN ?_ _ | refine blk_drew ?_ | refine blk_alloc ?_ _)); exact BK196.out)) : gb197 ≠ gb196)); clear BK195; clear BK196; clear HB; have BK195 := n0_; have BK196 := n1_; have HB := n2_; have BK197 := n3_; have GW197 := n4_; have GE197 := n5_; have NB195_197 := n6_; have NB197_195 := n7_; have NB196_197 := n8_; have NB197_196 := n9_; clear n0_ n1_ n2_ n3_ n4_ n5_ n6_ n7_ n8_ n9_; clear hb hbox hg; have hnb7 := NB197_195.out; have hnc7 := NB195_197.out; have hnb8 := NB197_196.out; have hnc8 := NB196_197.out; have hcz9_0 : w6.cell? ⟨gb197, 0, none⟩ = some (.int .i64 0) := (blk_cell BK197.out 0).trans rfl; have hcz9_1 : w6.cell? ⟨gb197, 1, none⟩ = some (.int .i64 0) := (blk_cell BK197.out 1).trans rfl; have hcz9_2 : w6.cell? ⟨gb197, 2, none⟩ = some (.int .i64 0) := (blk_cell BK197.out 2).trans rfl; have hcz9_3 : w6.cell? ⟨gb197, 3, none⟩ = some (.int .i64 0) := (blk_cell BK197.out 3).trans rfl; have hcz9_4 : w6.cell? ⟨gb197, 4, none⟩ = some (.slice none 0 0) := (blk_cell BK197.out 4).trans rfl; have hfz9_0 := blk_frozen BK197.out 0; have hfz9_1 := blk_frozen BK197.out 1; have hfz9_2 := blk_frozen BK197.out 2; have hfz9_3 := blk_frozen BK197.out 3; have hfz9_4 := blk_frozen BK197.out 4))
  go_loopg [4, 5] k (fun kq v4 v5 w' => ∃ (x4_1 : List (S35)) (x5_1 : Int) (x198004_1 : List (S35)) (u198004 : Value), v5 = .int .i64 x5_1 ∧ Aside0 (redlineref11_Invert.l0 kq x4_1 x5_1 a0_0 a0_1 a0_2 a0_3 l0_4 a0_2 a0_3 a0_0 a0_1 x198004_1 = some (r1, r2, r3, r4, r5)) ∧ Aside0 (kq ≤ k) ∧ Aside0 (Kd.R k35 35 w' w.heap.size (fun k_ => some k_ ≠ (u198004 : Value).ownBlock) v4 x4_1) ∧ Aside0 (Kd.R k35 35 w' w.heap.size (fun k_ => some k_ ≠ (v4 : Value).ownBlock) u198004 x198004_1) ∧ Aside0 (w'.heap[gb195]? = some (.cells #[.int .i64 a0_0, .int .i64 a0_1, .int .i64 a0_2, .int .i64 a0_3, (.slice A0_4 l0_4.length c0_4)] 24 (0, 0))) ∧ Aside0 (w'.heap[gb196]? = some (.cells #[.int .i64 0, .int .i64 0, .int .i64 0, .int .i64 0, (.slice none 0 0)] 24 (0, 0))) ∧ Aside0 (w'.heap[gb197]? = some (.cells #[.int .i64 a0_2, .int .i64 a0_3, .int .i64 a0_0, .int .i64 a0_1, u198004] 24 (0, 0))) ∧ Aside0 (Below w.heap.size w w'))
  case atStart => exact ⟨(([] : List (S35))), (0), (([] : List (S35))), (.slice none 0 0), (by first | rfl | (simp; done) | (simp [*]; done)), H', ⟨Nat.le_refl _⟩, ⟨by first | exact Kd.R_nil _ _ _ _ _ | exact Kd.N_nil _ _ _ _ _ | exact Kd.V_nil _ _ _ _ _ | exact Kd.Q_nil _ _ _ _ _ | exact Kd.S_nil _ _ _ _ _⟩, ⟨by first | exact Kd.R_nil _ _ _ _ _ | exact Kd.N_nil _ _ _ _ _ | exact Kd.V_nil _ _ _ _ _ | exact Kd.Q_nil _ _ _ _ _ | exact Kd.S_nil _ _ _ _ _⟩, ⟨by (with_reducible repeat (first | refine blk_drewN ?_ _ | refine blk_drew ?_ | refine blk_alloc ?_ _)); refine blk_far ?_ NB195_197.out _; (with_reducible repeat (first | refine blk_drewN ?_ _ | refine blk_drew ?_ | refine blk_alloc ?_ _)); refine blk_far ?_ NB195_197.out _; (with_reducible repeat (first | refine blk_drewN ?_ _ | refine blk_drew ?_ | refine blk_alloc ?_ _)); refine blk_far ?_ NB195_197.out _; (with_reducible repeat (first | refine blk_drewN ?_ _ | refine blk_drew ?_ | refine blk_alloc ?_ _)); refine blk_far ?_ NB195_197.out _; (with_reducible repeat (first | refine blk_drewN ?_ _ | refine blk_drew ?_ | refine blk_alloc ?_ _)); refine blk_far ?_ NB195_197.out _; (with_reducible repeat (first | refine blk_drewN ?_ _ | refine blk_drew ?_ | refine blk_alloc ?_ _)); exact BK195.out⟩, ⟨by (with_reducible repeat (first | refine blk_drewN ?_ _ | refine blk_drew ?_ | refine blk_alloc ?_ _)); refine blk_far ?_ NB196_197.out _; (with_reducible repeat (first | refine blk_drewN ?_ _ | refine blk_drew ?_ | refine blk_alloc ?_ _)); refine blk_far ?_ NB196_197.out _; (with_reducible repeat (first | refine blk_drewN ?_ _ | refine blk_drew ?_ | refine blk_alloc ?_ _)); refine blk_far ?_ NB196_197.out _; (with_reducible repeat (first | refine blk_drewN ?_ _ | refine blk_drew ?_ | refine blk_alloc ?_ _)); refine blk_far ?_ NB196_197.out _; (with_reducible repeat (first | refine blk_drewN ?_ _ | refine blk_drew ?_ | refine blk_alloc ?_ _)); refine blk_far ?_ NB196_197.out _; (with_reducible repeat (first | refine blk_drewN ?_ _ | refine blk_drew ?_ | refine blk_alloc ?_ _)); exact BK196.out⟩, ⟨by (with_reducible repeat (first | refine blk_drewN ?_ _ | refine blk_drew ?_ | refine blk_alloc ?_ _)); refine blk_put (cs := #[.int .i64 a0_2, .int .i64 a0_3, .int .i64 a0_0, .int .i64 a0_1, .slice none 0 0]) ?_ 4 _ rfl; (with_reducible repeat (first | refine blk_drewN ?_ _ | refine blk_drew ?_ | refine blk_alloc ?_ _)); refine blk_put (cs := #[.int .i64 a0_2, .int .i64 a0_3, .int .i64 a0_0, .int .i64 0, .slice none 0 0]) ?_ 3 _ rfl; (with_reducible repeat (first | refine blk_drewN ?_ _ | refine blk_drew ?_ | refine blk_alloc ?_ _)); refine blk_put (cs := #[.int .i64 a0_2, .int .i64 a0_3, .int .i64 0, .int .i64 0, .slice none 0 0]) ?_ 2 _ rfl; (with_reducible repeat (first | refine blk_drewN ?_ _ | refine blk_drew ?_ | refine blk_alloc ?_ _)); refine blk_put (cs := #[.int .i64 a0_2, .int .i64 0, .int .i64 0, .int .i64 0, .slice none 0 0]) ?_ 1 _ rfl; (with_reducible repeat (first | refine blk_drewN ?_ _ | refine blk_drew ?_ | refine blk_alloc ?_ _)); refine blk_put (cs := #[.int .i64 0, .int .i64 0, .int .i64 0, .int .i64 0, .slice none 0 0]) ?_ 0 _ rfl; (with_reducible repeat (first | refine blk_drewN ?_ _ | refine blk_drew ?_ | refine blk_alloc ?_ _)); exact BK197.out⟩, ⟨by repeat (first | (with_reducible first | exact HB.out | apply below_alloc | apply pw_below_drewN | apply below_drew1 | refine below_set ?_ GE195.out | refine below_set ?_ GE196.out | refine below_set ?_ GE197.out) | exact HB.out)⟩⟩
  case round =>
    clear H'
    try clear c2
    try clear p2
    try clear c4
    try clear c7
    try clear c8
    try clear hcz5_0
    try clear hcz5_1
    try clear hcz5_2
    try clear hcz5_3
    try clear hcz5_4
    try clear hcz9_0
    try clear hcz9_1
    try clear hcz9_2
    try clear hcz9_3
    try clear hcz9_4
    try clear hfz5_0
    try clear hfz5_1
    try clear hfz5_2
    try clear hfz5_3
    try clear hfz5_4
    try clear hfz9_0
    try clear hfz9_1
    try clear hfz9_2
    try clear hfz9_3
    try clear hfz9_4
    obtain ⟨x4_1, x5_1, x198004_1, u198004, rfl, HA, HK1, HO_4, HO_198004, BK195, BK196, BK197, HB⟩ := hrel
    cases gk with
    | zero => exact absurd HA.out (by simp [redlineref11_Invert.l0])
    | succ k1 =>
      have H := HA.out
      clear HA
      simp only [redlineref11_Invert.l0] at H
      by_cases c10 : x5_1 < (l0_4.length : Int)
      · rw [if_pos c10] at H
        have c10b0 : decide (x5_1 < (l0_4.length : Int)) = true := decide_eq_true c10
        clear c10
        by_cases c11 : 0 ≤ x5_1
        · rw [if_pos c11] at H
          have c11b0 : decide (0 ≤ x5_1) = true := decide_eq_true c11
          clear c11
          by_cases c12 : ((rd_T35 l0_4 x5_1).f0) = 43
          · rw [if_pos c12] at H
            have c12b0 : (((rd_T35 l0_4 x5_1).f0) == 43) = true := beq_iff_eq.mpr c12
            have c12b1 : (((rd_T35 l0_4 x5_1).f0) != 43) = false := bne_eq_false_iff_eq.mpr c12
            clear c12
            obtain ⟨y203, hy203⟩ : ∃ y_ : List (S35), y_ = (([(⟨45, (rd_T35 l0_4 x5_1).f1⟩ : S35)] : List (S35))) := ⟨_, rfl⟩
            replace H : (if x198004_1.length + y203.length < 5864062014805 then (redlineref11_Invert.l0 k1 x4_1 (wrap64 (x5_1 + 1)) a0_0 a0_1 a0_2 a0_3 l0_4 a0_2 a0_3 a0_0 a0_1 (x198004_1 ++ y203)) else (none)) = some (r1, r2, r3, r4, r5) := by first | (rw [hy203]; with_reducible exact H) | (have H2_ := (Option.bind_some _ _).symm.trans H; rw [hy203]; with_reducible exact H2_) | (have H2_ := (Option.bind_some _ _).symm.trans H; with_reducible exact H2_) | with_reducible exact H | (rw [hy203]; exact H) | exact H
            have Ny203 := Aside0.mk hy203
            clear hy203
            by_cases c13 : x198004_1.length + y203.length < 5864062014805
            · rw [if_pos c13] at H
              have LMc13 := Aside0.mk c13
              clear c13
              obtain ⟨y206, hy206⟩ : ∃ y_ : List (S35), y_ = (x198004_1 ++ y203) := ⟨_, rfl⟩
              replace H : (redlineref11_Invert.l0 k1 x4_1 (wrap64 (x5_1 + 1)) a0_0 a0_1 a0_2 a0_3 l0_4 a0_2 a0_3 a0_0 a0_1 y206) = some (r1, r2, r3, r4, r5) := by first | (rw [hy206]; with_reducible exact H) | (have H2_ := (Option.bind_some _ _).symm.trans H; rw [hy206]; with_reducible exact H2_) | (have H2_ := (Option.bind_some _ _).symm.trans H; with_reducible exact H2_) | with_reducible exact H | (rw [hy206]; exact H) | exact H
              have Ny206 := Aside0.mk hy206
              clear hy206
              have H' := Aside0.mk H
              clear H
              have hnb14 := NB195_196.out
              have hnc14 := NB196_195.out
              have hnb15 := NB195_197.out
              have hnc15 := NB197_195.out
              have hcz16_0 : wr.cell? ⟨gb195, 0, none⟩ = some (.int .i64 a0_0) := (blk_cell BK195.out 0).trans rfl
              have hcz16_1 : wr.cell? ⟨gb195, 1, none⟩ = some (.int .i64 a0_1) := (blk_cell BK195.out 1).trans rfl
              have hcz16_2 : wr.cell? ⟨gb195, 2, none⟩ = some (.int .i64 a0_2) := (blk_cell BK195.out 2).trans rfl
              have hcz16_3 : wr.cell? ⟨gb195, 3, none⟩ = some (.int .i64 a0_3) := (blk_cell BK195.out 3).trans rfl
              have hcz16_4 : wr.cell? ⟨gb195, 4, none⟩ = some (.slice A0_4 l0_4.length c0_4) := (blk_cell BK195.out 4).trans rfl
              have hfz16_0 := blk_frozen BK195.out 0
              have hfz16_1 := blk_frozen BK195.out 1
              have hfz16_2 := blk_frozen BK195.out 2
              have hfz16_3 := blk_frozen BK195.out 3
              have hfz16_4 := blk_frozen BK195.out 4
              have p201 : 0 ≤ (x5_1 : Int) := of_decide_eq_true (by first | (with_reducible assumption) | assumption)
              have q201 : x5_1 < (l0_4.length : Int) := of_decide_eq_true (by first | (with_reducible assumption) | assumption)
              obtain ⟨ad201, e201, hx201_0, hx201_1⟩ := at_T35 HR0_4.out x5_1 p201 q201
              cases e201
              replace hx201_0 := (HB.out.cell (World.block_lt_of_cell? w _ hx201_0)).trans hx201_0
              replace hx201_1 := (HB.out.cell (World.block_lt_of_cell? w _ hx201_1)).trans hx201_1
              replace p201 := eq_true p201
              replace q201 := eq_true q201
              go_wp2_with (first | ((with_reducible refine gate_dst (N := 6) rfl ?_); refine box_event ?hg (N := 6) ?hd (cs := #[.int .u8 0, .string (⟨#[]⟩ : ByteArray)]) (t := 35) ?hr ?_; (case hd => rfl); (case hg => rfl); (case hr => first | (go_simp; done) | (go_simp; rfl)); intro gb202 hg w17 hbox hb; have n0_ := Aside0.mk (Kd.R_below (Kd.R_elderB (by (with_reducible repeat (first | apply Kd.R_alloc | apply Kd.R_drewN | apply Kd.R_drew)); exact HO_4.out) gb202 (Nat.le_of_eq hg.symm)) hb); have n1_ := Aside0.mk (Kd.R_below (Kd.R_elderB (by (with_reducible repeat (first | apply Kd.R_alloc | apply Kd.R_drewN | apply Kd.R_drew)); exact HO_198004.out) gb202 (Nat.le_of_eq hg.symm)) hb); have n2_ := Aside0.mk (blk_below (g := gb195) (o := .cells #[.int .i64 a0_0, .int .i64 a0_1, .int .i64 a0_2, .int .i64 a0_3, .slice (some ad201) l0_4.length c0_4] 24 (0, 0)) (by (with_reducible repeat (first | refine blk_drewN ?_ _ | refine blk_drew ?_ | refine blk_alloc ?_ _)); exact BK195.out) hb); have n3_ := Aside0.mk (blk_below (g := gb196) (o := .cells #[.int .i64 0, .int .i64 0, .int .i64 0, .int .i64 0, .slice none 0 0] 24 (0, 0)) (by (with_reducible repeat (first | refine blk_drewN ?_ _ | refine blk_drew ?_ | refine blk_alloc ?_ _)); exact BK196.out) hb); have n4_ := Aside0.mk (blk_below (g := gb197) (o := .cells #[.int .i64 a0_2, .int .i64 a0_3, .int .i64 a0_0, .int .i64 a0_1, u198004] 24 (0, 0)) (by (with_reducible repeat (first | refine blk_drewN ?_ _ | refine blk_drew ?_ | refine blk_alloc ?_ _)); exact BK197.out) hb); have n5_ := Aside0.mk (below_step (by repeat (first | (with_reducible first | exact HB.out | apply below_alloc | apply pw_below_drewN | apply below_drew1 | refine below_set ?_ GE195.out | refine below_set ?_ GE196.out | refine below_set ?_ GE197.out) | exact HB.out)) hb); have n6_ := Aside0.mk (hbox); have n7_ := Aside0.mk ((by rw [hg]; exact (below_size (by repeat (first | (with_reducible first | exact HB.out | apply below_alloc | apply pw_below_drewN | apply below_drew1 | refine below_set ?_ GE195.out | refine below_set ?_ GE196.out | refine below_set ?_ GE197.out) | exact HB.out))) : w.heap.size ≤ gb202)); have n8_ := Aside0.mk ((by rw [hg]; exact (below_size (by repeat (first | (with_reducible first | exact HB.out | apply below_alloc | apply pw_below_drewN | apply below_drew1 | refine below_set ?_ GE195.out | refine below_set ?_ GE196.out | refine below_set ?_ GE197.out) | exact HB.out))) : w.heap.size ≤ gb202)); have n9_ := Aside0.mk ((by rw [hg]; exact Nat.ne_of_lt (blk_lt (g := gb195) (o := .cells #[.int .i64 a0_0, .int .i64 a0_1, .int .i64 a0_2, .int .i64 a0_3, .slice (some ad201) l0_4.length c0_4] 24 (0, 0)) (by (with_reducible repeat (first | refine blk_drewN ?_ _ | refine blk_drew ?_ | refine blk_alloc ?_ _)); exact BK195.out)) : gb195 ≠ gb202)); have n10_ := Aside0.mk ((by rw [hg]; exact Nat.ne_of_gt (blk_lt (g := gb195) (o := .cells #[.int .i64 a0_0, .int .i64 a0_1, .int .i64 a0_2, .int .i64 a0_3, .slice (some ad201) l0_4.length c0_4] 24 (0, 0)) (by (with_reducible repeat (first | refine blk_drewN ?_ _ | refine blk_drew ?_ | refine blk_alloc ?_ _)); exact BK195.out)) : gb202 ≠ gb195)); have n11_ := Aside0.mk ((by rw [hg]; exact Nat.ne_of_lt (blk_lt (g := gb196) (o := .cells #[.int .i64 0, .int .i64 0, .int .i64 0, .int .i64 0, .slice none 0 0] 24 (0, 0)) (by (with_reducible repeat (first | refine blk_drewN ?_ _ | refine blk_drew ?_ | refine blk_alloc ?_ _)); exact BK196.out)) : gb196 ≠ gb202)); have n12_ := Aside0.mk ((by rw [hg]; exact Nat.ne_of_gt (blk_lt (g := gb196) (o := .cells #[.int .i64 0, .int .i64 0, .int .i64 0, .int .i64 0, .slice none 0 0] 24 (0, 0)) (by (with_reducible repeat (first | refine blk_drewN ?_ _ | refine blk_drew ?_ | refine blk_alloc ?_ _)); exact BK196.out)) : gb202 ≠ gb196)); have n13_ := Aside0.mk ((by rw [hg]; exact Nat.ne_of_lt (blk_lt (g := gb197) (o := .cells #[.int .i64 a0_2, .int .i64 a0_3, .int .i64 a0_0, .int .i64 a0_1, u198004] 24 (0, 0)) (by (with_reducible repeat (first | refine blk_drewN ?_ _ | refine blk_drew ?_ | refine blk_alloc ?_ _)); exact BK197.out)) : gb197 ≠ gb202)); have n14_ := Aside0.mk ((by rw [hg]; exact Nat.ne_of_gt (blk_lt (g := gb197) (o := .cells #[.int .i64 a0_2, .int .i64 a0_3, .int .i64 a0_0, .int .i64 a0_1, u198004] 24 (0, 0)) (by (with_reducible repeat (first | refine blk_drewN ?_ _ | refine blk_drew ?_ | refine blk_alloc ?_ _)); exact BK197.out)) : gb202 ≠ gb197)); clear HO_4; clear HO_198004; clear BK195; clear BK196; clear BK197; clear HB; have HO_4 := n0_; have HO_198004 := n1_; have BK195 := n2_; have BK196 := n3_; have BK197 := n4_; have HB := n5_; have BK202 := n6_; have GW202 := n7_; have GE202 := n8_; have NB195_202 := n9_; have NB202_195 := n10_; have NB196_202 := n11_; have NB202_196 := n12_; have NB197_202 := n13_; have NB202_197 := n14_; clear n0_ n1_ n2_ n3_ n4_ n5_ n6_ n7_ n8_ n9_ n10_ n11_ n12_ n13_ n14_; clear hb hbox hg; have hnb18 := NB202_195.out; have hnc18 := NB195_202.out; have hnb19 := NB202_196.out; have hnc19 := NB196_202.out; have hnb20 := NB202_197.out; have hnc20 := NB197_202.out; have hcz21_0 : w17.cell? ⟨gb202, 0, none⟩ = some (.int .u8 0) := (blk_cell BK202.out 0).trans rfl; have hcz21_1 : w17.cell? ⟨gb202, 1, none⟩ = some (.string (⟨#[]⟩ : ByteArray)) := (blk_cell BK202.out 1).trans rfl; have hfz21_0 := blk_frozen BK202.out 0; have hfz21_1 := blk_frozen BK202.out 1; have hnb22 := NB197_196.out; have hnc22 := NB196_197.out; have hcz23_0 : w17.cell? ⟨gb197, 0, none⟩ = some (.int .i64 a0_2) := (blk_cell BK197.out 0).trans rfl; have hcz23_1 : w17.cell? ⟨gb197, 1, none⟩ = some (.int .i64 a0_3) := (blk_cell BK197.out 1).trans rfl; have hcz23_2 : w17.cell? ⟨gb197, 2, none⟩ = some (.int .i64 a0_0) := (blk_cell BK197.out 2).trans rfl; have hcz23_3 : w17.cell? ⟨gb197, 3, none⟩ = some (.int .i64 a0_1) := (blk_cell BK197.out 3).trans rfl; have hcz23_4 : w17.cell? ⟨gb197, 4, none⟩ = some (u198004) := (blk_cell BK197.out 4).trans rfl; have hfz23_0 := blk_frozen BK197.out 0; have hfz23_1 := blk_frozen BK197.out 1; have hfz23_2 := blk_frozen BK197.out 2; have hfz23_3 := blk_frozen BK197.out 3; have hfz23_4 := blk_frozen BK197.out 4) | ((with_reducible refine gate_dst (N := 45) rfl ?_); refine Kd.R_lit k35 _ 35 ?hg (N := 45) ?hd (xs := ([(⟨45, (rd_T35 l0_4 x5_1).f1⟩ : S35)] : List (S35))) (inner := [.int .u8 45, .string ((rd_T35 l0_4 x5_1).f1)]) (ok := fun _ => True) (okp := fun _ => True) ?hr ?hp (fun _ hk => hk) trivial (Below.refl _ _) (Nat.le_refl _) (by simp) ?_; (case hd => rfl); (case hg => rfl); (case hr => first | (go_simp; done) | (go_simp; rfl)); (case hp => exact (Reps.c2 (show Kd.M k35 _ _ _ (⟨45, (rd_T35 l0_4 x5_1).f1⟩ : S35) [.int .u8 45, .string ((rd_T35 l0_4 x5_1).f1)] from (k35_mkM _ _ _ (⟨45, (rd_T35 l0_4 x5_1).f1⟩ : S35) )) (Reps.none _ _))); intro v204 w24 ho25 hb hg_ hnew_; clear hg_ hnew_; (first | rw [← Ny203.out] at ho25 | (simp only [Int.reduceToNat] at ho25; rw [← Ny203.out] at ho25)); have n0_ := Aside0.mk (Kd.R_elder' (by (with_reducible repeat (first | apply Kd.R_alloc | apply Kd.R_drewN | apply Kd.R_drew)); exact (Kd.R_mono (Kd.R_far (p := ⟨gb202, 1, none⟩) (Kd.R_far (p := ⟨gb202, 0, none⟩) (Kd.R_mono HO_4.out (fun k_ hk => (⟨hk, hk.2⟩ : _ ∧ k_ ≠ gb202))) (fun _ hk => hk.2) (.int .u8 ((rd_T35 l0_4 x5_1).f0))) (fun _ hk => hk.2) (.string ((rd_T35 l0_4 x5_1).f1))) (fun _ h_ => h_.1))) (Kd.R_base ho25) hb); have n1_ := Aside0.mk (Kd.R_elder' (by (with_reducible repeat (first | apply Kd.R_alloc | apply Kd.R_drewN | apply Kd.R_drew)); exact (Kd.R_mono (Kd.R_far (p := ⟨gb202, 1, none⟩) (Kd.R_far (p := ⟨gb202, 0, none⟩) (Kd.R_mono HO_198004.out (fun k_ hk => (⟨hk, hk.2⟩ : _ ∧ k_ ≠ gb202))) (fun _ hk => hk.2) (.int .u8 ((rd_T35 l0_4 x5_1).f0))) (fun _ hk => hk.2) (.string ((rd_T35 l0_4 x5_1).f1))) (fun _ h_ => h_.1))) (Kd.R_base ho25) hb); have n2_ := Aside0.mk (Kd.R_lower (Kd.R_newB (Kd.R_new' (Kd.R_new' ho25 (Kd.R_lt (by (with_reducible repeat (first | apply Kd.R_alloc | apply Kd.R_drewN | apply Kd.R_drew)); exact (Kd.R_mono (Kd.R_far (p := ⟨gb202, 1, none⟩) (Kd.R_far (p := ⟨gb202, 0, none⟩) (Kd.R_mono HO_4.out (fun k_ hk => (⟨hk, hk.2⟩ : _ ∧ k_ ≠ gb202))) (fun _ hk => hk.2) (.int .u8 ((rd_T35 l0_4 x5_1).f0))) (fun _ hk => hk.2) (.string ((rd_T35 l0_4 x5_1).f1))) (fun _ h_ => h_.1))))) (Kd.R_lt (by (with_reducible repeat (first | apply Kd.R_alloc | apply Kd.R_drewN | apply Kd.R_drew)); exact (Kd.R_mono (Kd.R_far (p := ⟨gb202, 1, none⟩) (Kd.R_far (p := ⟨gb202, 0, none⟩) (Kd.R_mono HO_198004.out (fun k_ hk => (⟨hk, hk.2⟩ : _ ∧ k_ ≠ gb202))) (fun _ hk => hk.2) (.int .u8 ((rd_T35 l0_4 x5_1).f0))) (fun _ hk => hk.2) (.string ((rd_T35 l0_4 x5_1).f1))) (fun _ h_ => h_.1))))) (g := gb202) (o := .cells #[.int .u8 ((rd_T35 l0_4 x5_1).f0), .string ((rd_T35 l0_4 x5_1).f1)] 35 (0, 0)) (by (with_reducible repeat (first | refine blk_drewN ?_ _ | refine blk_drew ?_ | refine blk_alloc ?_ _)); refine blk_put (cs := #[.int .u8 ((rd_T35 l0_4 x5_1).f0), .string (⟨#[]⟩ : ByteArray)]) ?_ 1 _ rfl; (with_reducible repeat (first | refine blk_drewN ?_ _ | refine blk_drew ?_ | refine blk_alloc ?_ _)); refine blk_put (cs := #[.int .u8 0, .string (⟨#[]⟩ : ByteArray)]) ?_ 0 _ rfl; (with_reducible repeat (first | refine blk_drewN ?_ _ | refine blk_drew ?_ | refine blk_alloc ?_ _)); exact BK202.out)) (below_size (by repeat (first | (with_reducible first | exact HB.out | apply below_alloc | apply pw_below_drewN | apply below_drew1 | refine below_set ?_ GE195.out | refine below_set ?_ GE196.out | refine below_set ?_ GE197.out | refine below_set ?_ GE202.out) | exact HB.out)))); have n3_ := Aside0.mk (blk_below (g := gb195) (o := .cells #[.int .i64 a0_0, .int .i64 a0_1, .int .i64 a0_2, .int .i64 a0_3, .slice (some ad201) l0_4.length c0_4] 24 (0, 0)) (by (with_reducible repeat (first | refine blk_drewN ?_ _ | refine blk_drew ?_ | refine blk_alloc ?_ _)); refine blk_far ?_ NB195_202.out _; (with_reducible repeat (first | refine blk_drewN ?_ _ | refine blk_drew ?_ | refine blk_alloc ?_ _)); refine blk_far ?_ NB195_202.out _; (with_reducible repeat (first | refine blk_drewN ?_ _ | refine blk_drew ?_ | refine blk_alloc ?_ _)); exact BK195.out) hb); have n4_ := Aside0.mk (blk_below (g := gb196) (o := .cells #[.int .i64 0, .int .i64 0, .int .i64 0, .int .i64 0, .slice none 0 0] 24 (0, 0)) (by (with_reducible repeat (first | refine blk_drewN ?_ _ | refine blk_drew ?_ | refine blk_alloc ?_ _)); refine blk_far ?_ NB196_202.out _; (with_reducible repeat (first | refine blk_drewN ?_ _ | refine blk_drew ?_ | refine blk_alloc ?_ _)); refine blk_far ?_ NB196_202.out _; (with_reducible repeat (first | refine blk_drewN ?_ _ | refine blk_drew ?_ | refine blk_alloc ?_ _)); exact BK196.out) hb); have n5_ := Aside0.mk (blk_below (g := gb197) (o := .cells #[.int .i64 a0_2, .int .i64 a0_3, .int .i64 a0_0, .int .i64 a0_1, u198004] 24 (0, 0)) (by (with_reducible repeat (first | refine blk_drewN ?_ _ | refine blk_drew ?_ | refine blk_alloc ?_ _)); refine blk_far ?_ NB197_202.out _; (with_reducible repeat (first | refine blk_drewN ?_ _ | refine blk_drew ?_ | refine blk_alloc ?_ _)); refine blk_far ?_ NB197_202.out _; (with_reducible repeat (first | refine blk_drewN ?_ _ | refine blk_drew ?_ | refine blk_alloc ?_ _)); exact BK197.out) hb); have n6_ := Aside0.mk (blk_below (g := gb202) (o := .cells #[.int .u8 ((rd_T35 l0_4 x5_1).f0), .string ((rd_T35 l0_4 x5_1).f1)] 35 (0, 0)) (by (with_reducible repeat (first | refine blk_drewN ?_ _ | refine blk_drew ?_ | refine blk_alloc ?_ _)); refine blk_put (cs := #[.int .u8 ((rd_T35 l0_4 x5_1).f0), .string (⟨#[]⟩ : ByteArray)]) ?_ 1 _ rfl; (with_reducible repeat (first | refine blk_drewN ?_ _ | refine blk_drew ?_ | refine blk_alloc ?_ _)); refine blk_put (cs := #[.int .u8 0, .string (⟨#[]⟩ : ByteArray)]) ?_ 0 _ rfl; (with_reducible repeat (first | refine blk_drewN ?_ _ | refine blk_drew ?_ | refine blk_alloc ?_ _)); exact BK202.out) hb); have n7_ := Aside0.mk (below_step (by repeat (first | (with_reducible first | exact HB.out | apply below_alloc | apply pw_below_drewN | apply below_drew1 | refine below_set ?_ GE195.out | refine below_set ?_ GE196.out | refine below_set ?_ GE197.out | refine below_set ?_ GE202.out) | exact HB.out)) hb); clear HO_4; clear HO_198004; clear BK195; clear BK196; clear BK197; clear BK202; clear HB; have HO_4 := n0_; have HO_198004 := n1_; have HO205 := n2_; have BK195 := n3_; have BK196 := n4_; have BK197 := n5_; have BK202 := n6_; have HB := n7_; clear n0_ n1_ n2_ n3_ n4_ n5_ n6_ n7_; clear hb ho25; obtain ⟨Ao27, co27, eo27⟩ := Kd.R_slice HO205.out; subst eo27) | ((with_reducible refine gate_builtin (b := .append) (xs := #[.tmp 41, .tmp 45]) rfl ?_); at_builtin; refine Kd.R_append_rows k35 (w0 := w) w.heap.size rfl (.tmp 41) (.tmp 45) 22 35 (.agg #[(.int .u8 0), (.string ⟨#[]⟩)]) 24 rfl Try.underlying22 info35 rfl (by decide) (by omega) u198004 x198004_1 y203 _ _ _ (fun k_ => some k_ ≠ (u4 : Value).ownBlock ∧ some k_ ≠ (.slice Ao27 y203.length co27 : Value).ownBlock ∧ k_ ≠ gb202) (fun _ => False) rfl rfl ?aO ?aR (fun _ _ h => h) (fun _ h => h.elim) ?aF ?aB ?aS ?aL ?_; (case aR => repeat (first | exact (Kd.R_reads' HO205.out).2.2 | (with_reducible refine Kd.C_alloc ?_ _) | (with_reducible refine Kd.C_drewN ?_ _) | (with_reducible refine Kd.C_drew ?_))); (case aB => exact (by repeat (first | (with_reducible first | exact HB.out | apply below_alloc | apply pw_below_drewN | apply below_drew1 | refine below_set ?_ GE195.out | refine below_set ?_ GE196.out | refine below_set ?_ GE197.out | refine below_set ?_ GE202.out) | exact HB.out))); (case aF => exact (fun k_ hk => ⟨Kd.fresh' (Kd.R_lt (by (with_reducible repeat (first | apply Kd.R_alloc | apply Kd.R_drewN | apply Kd.R_drew)); exact HO_4.out)) k_ hk, Kd.fresh' (Kd.R_lt (by (with_reducible repeat (first | apply Kd.R_alloc | apply Kd.R_drewN | apply Kd.R_drew)); exact HO205.out)) k_ hk, Kd.freshB (g := gb202) (o := .cells #[.int .u8 ((rd_T35 l0_4 x5_1).f0), .string ((rd_T35 l0_4 x5_1).f1)] 35 (0, 0)) (by (with_reducible repeat (first | refine blk_drewN ?_ _ | refine blk_drew ?_ | refine blk_alloc ?_ _)); exact BK202.out) k_ hk⟩)); (case aO => exact (by (with_reducible repeat (first | apply Kd.R_alloc | apply Kd.R_drewN | apply Kd.R_drew)); exact Kd.R_mono HO_198004.out (fun _ hk => ⟨hk.1.1, ⟨hk.2, hk.1.2⟩⟩))); (case aS => exact (below_size (by repeat (first | (with_reducible first | exact HB.out | apply below_alloc | apply pw_below_drewN | apply below_drew1 | refine below_set ?_ GE195.out | refine below_set ?_ GE196.out | refine below_set ?_ GE197.out | refine below_set ?_ GE202.out) | exact HB.out)))); (case aL => have := LMc13.out; omega); intro v207 w26 ho hb hg hat; rw [← Ny206.out] at ho; have n0_ := Aside0.mk (Kd.R_after (ok := (fun k_ => some k_ ≠ (.slice Ao27 y203.length co27 : Value).ownBlock ∧ k_ ≠ gb202)) (by (with_reducible repeat (first | apply Kd.R_alloc | apply Kd.R_drewN | apply Kd.R_drew)); exact Kd.R_mono HO_4.out (fun _ hk => ⟨⟨hk.2, hk.1.2⟩, hk.1.1⟩)) hg hat); have n1_ := Aside0.mk (blk_grown (g := gb195) (o := .cells #[.int .i64 a0_0, .int .i64 a0_1, .int .i64 a0_2, .int .i64 a0_3, .slice (some ad201) l0_4.length c0_4] 24 (0, 0)) (by (with_reducible repeat (first | refine blk_drewN ?_ _ | refine blk_drew ?_ | refine blk_alloc ?_ _)); exact BK195.out) hg (Kd.R_ne HO_198004.out BK195.out (by decide))); have n2_ := Aside0.mk (blk_grown (g := gb196) (o := .cells #[.int .i64 0, .int .i64 0, .int .i64 0, .int .i64 0, .slice none 0 0] 24 (0, 0)) (by (with_reducible repeat (first | refine blk_drewN ?_ _ | refine blk_drew ?_ | refine blk_alloc ?_ _)); exact BK196.out) hg (Kd.R_ne HO_198004.out BK196.out (by decide))); have n3_ := Aside0.mk (blk_grown (g := gb197) (o := .cells #[.int .i64 a0_2, .int .i64 a0_3, .int .i64 a0_0, .int .i64 a0_1, u198004] 24 (0, 0)) (by (with_reducible repeat (first | refine blk_drewN ?_ _ | refine blk_drew ?_ | refine blk_alloc ?_ _)); exact BK197.out) hg (Kd.R_ne HO_198004.out BK197.out (by decide))); have n4_ := Aside0.mk (blk_grown (g := gb202) (o := .cells #[.int .u8 ((rd_T35 l0_4 x5_1).f0), .string ((rd_T35 l0_4 x5_1).f1)] 35 (0, 0)) (by (with_reducible repeat (first | refine blk_drewN ?_ _ | refine blk_drew ?_ | refine blk_alloc ?_ _)); exact BK202.out) hg (Kd.R_away HO_198004.out (fun _ hk => hk.1.2))); have n5_ := Aside0.mk (Kd.R_after (ok := (fun k_ => some k_ ≠ (u4 : Value).ownBlock ∧ k_ ≠ gb202)) (by (with_reducible repeat (first | apply Kd.R_alloc | apply Kd.R_drewN | apply Kd.R_drew)); exact Kd.R_mono HO205.out (fun _ hk => ⟨⟨hk.1.1.2, hk.2⟩, hk.1.2⟩)) hg hat); have n6_ := Aside0.mk (hb); have n7_ := Aside0.mk (ho); clear HO_4; clear BK195; clear BK196; clear BK197; clear BK202; clear HO205; clear HB; clear HO_198004; have HO_4 := n0_; have BK195 := n1_; have BK196 := n2_; have BK197 := n3_; have BK202 := n4_; have HO205 := n5_; have HB := n6_; have HO208 := n7_; clear n0_ n1_ n2_ n3_ n4_ n5_ n6_ n7_; clear ho hb hg hat; obtain ⟨Ao28, co28, eo28⟩ := Kd.R_slice HO208.out; subst eo28; have hcz29_0 : w26.cell? ⟨gb197, 0, none⟩ = some (.int .i64 a0_2) := (blk_cell BK197.out 0).trans rfl; have hcz29_1 : w26.cell? ⟨gb197, 1, none⟩ = some (.int .i64 a0_3) := (blk_cell BK197.out 1).trans rfl; have hcz29_2 : w26.cell? ⟨gb197, 2, none⟩ = some (.int .i64 a0_0) := (blk_cell BK197.out 2).trans rfl; have hcz29_3 : w26.cell? ⟨gb197, 3, none⟩ = some (.int .i64 a0_1) := (blk_cell BK197.out 3).trans rfl; have hcz29_4 : w26.cell? ⟨gb197, 4, none⟩ = some (u198004) := (blk_cell BK197.out 4).trans rfl; have hfz29_0 := blk_frozen BK197.out 0; have hfz29_1 := blk_frozen BK197.out 1; have hfz29_2 := blk_frozen BK197.out 2; have hfz29_3 := blk_frozen BK197.out 3; have hfz29_4 := blk_frozen BK197.out 4))
              go_roundg k1
              case measure => have := HK1.out; omega
              case rel => exact ⟨(x4_1), (wrap64 (x5_1 + 1)), (y206), (.slice Ao28 y206.length co28), (by first | rfl | (simp; done) | (simp [*]; done)), H', ⟨by have := HK1.out; omega⟩, ⟨by (with_reducible repeat (first | apply Kd.R_alloc | apply Kd.R_drewN | apply Kd.R_drew)); exact Kd.R_mono (Kd.R_far (p := ⟨gb197, 4, none⟩) (Kd.R_types HO_4.out BK197.out (by decide)) (fun _ hk => hk.2) (.slice Ao28 y206.length co28)) (fun _ hk => hk.1.2)⟩, ⟨by (with_reducible repeat (first | apply Kd.R_alloc | apply Kd.R_drewN | apply Kd.R_drew)); exact Kd.R_mono (Kd.R_far (p := ⟨gb197, 4, none⟩) (Kd.R_types HO208.out BK197.out (by decide)) (fun _ hk => hk.2) (.slice Ao28 y206.length co28)) (fun _ hk => hk.1.1)⟩, ⟨by (with_reducible repeat (first | refine blk_drewN ?_ _ | refine blk_drew ?_ | refine blk_alloc ?_ _)); refine blk_far ?_ NB195_197.out _; (with_reducible repeat (first | refine blk_drewN ?_ _ | refine blk_drew ?_ | refine blk_alloc ?_ _)); exact BK195.out⟩, ⟨by (with_reducible repeat (first | refine blk_drewN ?_ _ | refine blk_drew ?_ | refine blk_alloc ?_ _)); refine blk_far ?_ NB196_197.out _; (with_reducible repeat (first | refine blk_drewN ?_ _ | refine blk_drew ?_ | refine blk_alloc ?_ _)); exact BK196.out⟩, ⟨by (with_reducible repeat (first | refine blk_drewN ?_ _ | refine blk_drew ?_ | refine blk_alloc ?_ _)); refine blk_put (cs := #[.int .i64 a0_2, .int .i64 a0_3, .int .i64 a0_0, .int .i64 a0_1, u198004]) ?_ 4 _ rfl; (with_reducible repeat (first | refine blk_drewN ?_ _ | refine blk_drew ?_ | refine blk_alloc ?_ _)); exact BK197.out⟩, ⟨by repeat (first | (with_reducible first | exact HB.out | apply below_alloc | apply pw_below_drewN | apply below_drew1 | refine below_set ?_ GE195.out | refine below_set ?_ GE196.out | refine below_set ?_ GE197.out | refine below_set ?_ GE202.out) | exact HB.out)⟩⟩
            · rw [if_neg c13] at H
              exact absurd H (by simp)
          · rw [if_neg c12] at H
            have c12b0 : (((rd_T35 l0_4 x5_1).f0) == 43) = false := beq_eq_false_iff_ne.mpr c12
            have c12b1 : (((rd_T35 l0_4 x5_1).f0) != 43) = true := bne_iff_ne.mpr c12
            by_cases c30 : ((rd_T35 l0_4 x5_1).f0) = 45
            · rw [if_pos c30] at H
              have c30b0 : (((rd_T35 l0_4 x5_1).f0) == 45) = true := beq_iff_eq.mpr c30
              have c30b1 : (((rd_T35 l0_4 x5_1).f0) != 45) = false := bne_eq_false_iff_eq.mpr c30
              clear c30
              obtain ⟨y209, hy209⟩ : ∃ y_ : List (S35), y_ = (([(⟨43, (rd_T35 l0_4 x5_1).f1⟩ : S35)] : List (S35))) := ⟨_, rfl⟩
              replace H : (if x4_1.length + y209.length < 5864062014805 then (redlineref11_Invert.l0 k1 (x4_1 ++ y209) (wrap64 (x5_1 + 1)) a0_0 a0_1 a0_2 a0_3 l0_4 a0_2 a0_3 a0_0 a0_1 x198004_1) else (none)) = some (r1, r2, r3, r4, r5) := by first | (rw [hy209]; with_reducible exact H) | (have H2_ := (Option.bind_some _ _).symm.trans H; rw [hy209]; with_reducible exact H2_) | (have H2_ := (Option.bind_some _ _).symm.trans H; with_reducible exact H2_) | with_reducible exact H | (rw [hy209]; exact H) | exact H
              have Ny209 := Aside0.mk hy209
              clear hy209
              by_cases c31 : x4_1.length + y209.length < 5864062014805
              · rw [if_pos c31] at H
                have LMc31 := Aside0.mk c31
                clear c31
                obtain ⟨y212, hy212⟩ : ∃ y_ : List (S35), y_ = (x4_1 ++ y209) := ⟨_, rfl⟩
                replace H : (redlineref11_Invert.l0 k1 y212 (wrap64 (x5_1 + 1)) a0_0 a0_1 a0_2 a0_3 l0_4 a0_2 a0_3 a0_0 a0_1 x198004_1) = some (r1, r2, r3, r4, r5) := by first | (rw [hy212]; with_reducible exact H) | (have H2_ := (Option.bind_some _ _).symm.trans H; rw [hy212]; with_reducible exact H2_) | (have H2_ := (Option.bind_some _ _).symm.trans H; with_reducible exact H2_) | with_reducible exact H | (rw [hy212]; exact H) | exact H
                have Ny212 := Aside0.mk hy212
                clear hy212
                have H' := Aside0.mk H
                clear H
                have hnb32 := NB195_196.out
                have hnc32 := NB196_195.out
                have hnb33 := NB195_197.out
                have hnc33 := NB197_195.out
                have hcz34_0 : wr.cell? ⟨gb195, 0, none⟩ = some (.int .i64 a0_0) := (blk_cell BK195.out 0).trans rfl
                have hcz34_1 : wr.cell? ⟨gb195, 1, none⟩ = some (.int .i64 a0_1) := (blk_cell BK195.out 1).trans rfl
                have hcz34_2 : wr.cell? ⟨gb195, 2, none⟩ = some (.int .i64 a0_2) := (blk_cell BK195.out 2).trans rfl
                have hcz34_3 : wr.cell? ⟨gb195, 3, none⟩ = some (.int .i64 a0_3) := (blk_cell BK195.out 3).trans rfl
                have hcz34_4 : wr.cell? ⟨gb195, 4, none⟩ = some (.slice A0_4 l0_4.length c0_4) := (blk_cell BK195.out 4).trans rfl
                have hfz34_0 := blk_frozen BK195.out 0
                have hfz34_1 := blk_frozen BK195.out 1
                have hfz34_2 := blk_frozen BK195.out 2
                have hfz34_3 := blk_frozen BK195.out 3
                have hfz34_4 := blk_frozen BK195.out 4
                have p201 : 0 ≤ (x5_1 : Int) := of_decide_eq_true (by first | (with_reducible assumption) | assumption)
                have q201 : x5_1 < (l0_4.length : Int) := of_decide_eq_true (by first | (with_reducible assumption) | assumption)
                obtain ⟨ad201, e201, hx201_0, hx201_1⟩ := at_T35 HR0_4.out x5_1 p201 q201
                cases e201
                replace hx201_0 := (HB.out.cell (World.block_lt_of_cell? w _ hx201_0)).trans hx201_0
                replace hx201_1 := (HB.out.cell (World.block_lt_of_cell? w _ hx201_1)).trans hx201_1
                replace p201 := eq_true p201
                replace q201 := eq_true q201
                go_wp2_with (first | ((with_reducible refine gate_dst (N := 6) rfl ?_); refine box_event ?hg (N := 6) ?hd (cs := #[.int .u8 0, .string (⟨#[]⟩ : ByteArray)]) (t := 35) ?hr ?_; (case hd => rfl); (case hg => rfl); (case hr => first | (go_simp; done) | (go_simp; rfl)); intro gb202 hg w35 hbox hb; have n0_ := Aside0.mk (Kd.R_below (Kd.R_elderB (by (with_reducible repeat (first | apply Kd.R_alloc | apply Kd.R_drewN | apply Kd.R_drew)); exact HO_4.out) gb202 (Nat.le_of_eq hg.symm)) hb); have n1_ := Aside0.mk (Kd.R_below (Kd.R_elderB (by (with_reducible repeat (first | apply Kd.R_alloc | apply Kd.R_drewN | apply Kd.R_drew)); exact HO_198004.out) gb202 (Nat.le_of_eq hg.symm)) hb); have n2_ := Aside0.mk (blk_below (g := gb195) (o := .cells #[.int .i64 a0_0, .int .i64 a0_1, .int .i64 a0_2, .int .i64 a0_3, .slice (some ad201) l0_4.length c0_4] 24 (0, 0)) (by (with_reducible repeat (first | refine blk_drewN ?_ _ | refine blk_drew ?_ | refine blk_alloc ?_ _)); exact BK195.out) hb); have n3_ := Aside0.mk (blk_below (g := gb196) (o := .cells #[.int .i64 0, .int .i64 0, .int .i64 0, .int .i64 0, .slice none 0 0] 24 (0, 0)) (by (with_reducible repeat (first | refine blk_drewN ?_ _ | refine blk_drew ?_ | refine blk_alloc ?_ _)); exact BK196.out) hb); have n4_ := Aside0.mk (blk_below (g := gb197) (o := .cells #[.int .i64 a0_2, .int .i64 a0_3, .int .i64 a0_0, .int .i64 a0_1, u198004] 24 (0, 0)) (by (with_reducible repeat (first | refine blk_drewN ?_ _ | refine blk_drew ?_ | refine blk_alloc ?_ _)); exact BK197.out) hb); have n5_ := Aside0.mk (below_step (by repeat (first | (with_reducible first | exact HB.out | apply below_alloc | apply pw_below_drewN | apply below_drew1 | refine below_set ?_ GE195.out | refine below_set ?_ GE196.out | refine below_set ?_ GE197.out) | exact HB.out)) hb); have n6_ := Aside0.mk (hbox); have n7_ := Aside0.mk ((by rw [hg]; exact (below_size (by repeat (first | (with_reducible first | exact HB.out | apply below_alloc | apply pw_below_drewN | apply below_drew1 | refine below_set ?_ GE195.out | refine below_set ?_ GE196.out | refine below_set ?_ GE197.out) | exact HB.out))) : w.heap.size ≤ gb202)); have n8_ := Aside0.mk ((by rw [hg]; exact (below_size (by repeat (first | (with_reducible first | exact HB.out | apply below_alloc | apply pw_below_drewN | apply below_drew1 | refine below_set ?_ GE195.out | refine below_set ?_ GE196.out | refine below_set ?_ GE197.out) | exact HB.out))) : w.heap.size ≤ gb202)); have n9_ := Aside0.mk ((by rw [hg]; exact Nat.ne_of_lt (blk_lt (g := gb195) (o := .cells #[.int .i64 a0_0, .int .i64 a0_1, .int .i64 a0_2, .int .i64 a0_3, .slice (some ad201) l0_4.length c0_4] 24 (0, 0)) (by (with_reducible repeat (first | refine blk_drewN ?_ _ | refine blk_drew ?_ | refine blk_alloc ?_ _)); exact BK195.out)) : gb195 ≠ gb202)); have n10_ := Aside0.mk ((by rw [hg]; exact Nat.ne_of_gt (blk_lt (g := gb195) (o := .cells #[.int .i64 a0_0, .int .i64 a0_1, .int .i64 a0_2, .int .i64 a0_3, .slice (some ad201) l0_4.length c0_4] 24 (0, 0)) (by (with_reducible repeat (first | refine blk_drewN ?_ _ | refine blk_drew ?_ | refine blk_alloc ?_ _)); exact BK195.out)) : gb202 ≠ gb195)); have n11_ := Aside0.mk ((by rw [hg]; exact Nat.ne_of_lt (blk_lt (g := gb196) (o := .cells #[.int .i64 0, .int .i64 0, .int .i64 0, .int .i64 0, .slice none 0 0] 24 (0, 0)) (by (with_reducible repeat (first | refine blk_drewN ?_ _ | refine blk_drew ?_ | refine blk_alloc ?_ _)); exact BK196.out)) : gb196 ≠ gb202)); have n12_ := Aside0.mk ((by rw [hg]; exact Nat.ne_of_gt (blk_lt (g := gb196) (o := .cells #[.int .i64 0, .int .i64 0, .int .i64 0, .int .i64 0, .slice none 0 0] 24 (0, 0)) (by (with_reducible repeat (first | refine blk_drewN ?_ _ | refine blk_drew ?_ | refine blk_alloc ?_ _)); exact BK196.out)) : gb202 ≠ gb196)); have n13_ := Aside0.mk ((by rw [hg]; exact Nat.ne_of_lt (blk_lt (g := gb197) (o := .cells #[.int .i64 a0_2, .int .i64 a0_3, .int .i64 a0_0, .int .i64 a0_1, u198004] 24 (0, 0)) (by (with_reducible repeat (first | refine blk_drewN ?_ _ | refine blk_drew ?_ | refine blk_alloc ?_ _)); exact BK197.out)) : gb197 ≠ gb202)); have n14_ := Aside0.mk ((by rw [hg]; exact Nat.ne_of_gt (blk_lt (g := gb197) (o := .cells #[.int .i64 a0_2, .int .i64 a0_3, .int .i64 a0_0, .int .i64 a0_1, u198004] 24 (0, 0)) (by (with_reducible repeat (first | refine blk_drewN ?_ _ | refine blk_drew ?_ | refine blk_alloc ?_ _)); exact BK197.out)) : gb202 ≠ gb197)); clear HO_4; clear HO_198004; clear BK195; clear BK196; clear BK197; clear HB; have HO_4 := n0_; have HO_198004 := n1_; have BK195 := n2_; have BK196 := n3_; have BK197 := n4_; have HB := n5_; have BK202 := n6_; have GW202 := n7_; have GE202 := n8_; have NB195_202 := n9_; have NB202_195 := n10_; have NB196_202 := n11_; have NB202_196 := n12_; have NB197_202 := n13_; have NB202_197 := n14_; clear n0_ n1_ n2_ n3_ n4_ n5_ n6_ n7_ n8_ n9_ n10_ n11_ n12_ n13_ n14_; clear hb hbox hg; have hnb36 := NB202_195.out; have hnc36 := NB195_202.out; have hnb37 := NB202_196.out; have hnc37 := NB196_202.out; have hnb38 := NB202_197.out; have hnc38 := NB197_202.out; have hcz39_0 : w35.cell? ⟨gb202, 0, none⟩ = some (.int .u8 0) := (blk_cell BK202.out 0).trans rfl; have hcz39_1 : w35.cell? ⟨gb202, 1, none⟩ = some (.string (⟨#[]⟩ : ByteArray)) := (blk_cell BK202.out 1).trans rfl; have hfz39_0 := blk_frozen BK202.out 0; have hfz39_1 := blk_frozen BK202.out 1) | ((with_reducible refine gate_dst (N := 54) rfl ?_); refine Kd.R_lit k35 _ 35 ?hg (N := 54) ?hd (xs := ([(⟨43, (rd_T35 l0_4 x5_1).f1⟩ : S35)] : List (S35))) (inner := [.int .u8 43, .string ((rd_T35 l0_4 x5_1).f1)]) (ok := fun _ => True) (okp := fun _ => True) ?hr ?hp (fun _ hk => hk) trivial (Below.refl _ _) (Nat.le_refl _) (by simp) ?_; (case hd => rfl); (case hg => rfl); (case hr => first | (go_simp; done) | (go_simp; rfl)); (case hp => exact (Reps.c2 (show Kd.M k35 _ _ _ (⟨43, (rd_T35 l0_4 x5_1).f1⟩ : S35) [.int .u8 43, .string ((rd_T35 l0_4 x5_1).f1)] from (k35_mkM _ _ _ (⟨43, (rd_T35 l0_4 x5_1).f1⟩ : S35) )) (Reps.none _ _))); intro v210 w40 ho41 hb hg_ hnew_; clear hg_ hnew_; (first | rw [← Ny209.out] at ho41 | (simp only [Int.reduceToNat] at ho41; rw [← Ny209.out] at ho41)); have n0_ := Aside0.mk (Kd.R_elder' (by (with_reducible repeat (first | apply Kd.R_alloc | apply Kd.R_drewN | apply Kd.R_drew)); exact (Kd.R_mono (Kd.R_far (p := ⟨gb202, 1, none⟩) (Kd.R_far (p := ⟨gb202, 0, none⟩) (Kd.R_mono HO_4.out (fun k_ hk => (⟨hk, hk.2⟩ : _ ∧ k_ ≠ gb202))) (fun _ hk => hk.2) (.int .u8 ((rd_T35 l0_4 x5_1).f0))) (fun _ hk => hk.2) (.string ((rd_T35 l0_4 x5_1).f1))) (fun _ h_ => h_.1))) (Kd.R_base ho41) hb); have n1_ := Aside0.mk (Kd.R_elder' (by (with_reducible repeat (first | apply Kd.R_alloc | apply Kd.R_drewN | apply Kd.R_drew)); exact (Kd.R_mono (Kd.R_far (p := ⟨gb202, 1, none⟩) (Kd.R_far (p := ⟨gb202, 0, none⟩) (Kd.R_mono HO_198004.out (fun k_ hk => (⟨hk, hk.2⟩ : _ ∧ k_ ≠ gb202))) (fun _ hk => hk.2) (.int .u8 ((rd_T35 l0_4 x5_1).f0))) (fun _ hk => hk.2) (.string ((rd_T35 l0_4 x5_1).f1))) (fun _ h_ => h_.1))) (Kd.R_base ho41) hb); have n2_ := Aside0.mk (Kd.R_lower (Kd.R_newB (Kd.R_new' (Kd.R_new' ho41 (Kd.R_lt (by (with_reducible repeat (first | apply Kd.R_alloc | apply Kd.R_drewN | apply Kd.R_drew)); exact (Kd.R_mono (Kd.R_far (p := ⟨gb202, 1, none⟩) (Kd.R_far (p := ⟨gb202, 0, none⟩) (Kd.R_mono HO_4.out (fun k_ hk => (⟨hk, hk.2⟩ : _ ∧ k_ ≠ gb202))) (fun _ hk => hk.2) (.int .u8 ((rd_T35 l0_4 x5_1).f0))) (fun _ hk => hk.2) (.string ((rd_T35 l0_4 x5_1).f1))) (fun _ h_ => h_.1))))) (Kd.R_lt (by (with_reducible repeat (first | apply Kd.R_alloc | apply Kd.R_drewN | apply Kd.R_drew)); exact (Kd.R_mono (Kd.R_far (p := ⟨gb202, 1, none⟩) (Kd.R_far (p := ⟨gb202, 0, none⟩) (Kd.R_mono HO_198004.out (fun k_ hk => (⟨hk, hk.2⟩ : _ ∧ k_ ≠ gb202))) (fun _ hk => hk.2) (.int .u8 ((rd_T35 l0_4 x5_1).f0))) (fun _ hk => hk.2) (.string ((rd_T35 l0_4 x5_1).f1))) (fun _ h_ => h_.1))))) (g := gb202) (o := .cells #[.int .u8 ((rd_T35 l0_4 x5_1).f0), .string ((rd_T35 l0_4 x5_1).f1)] 35 (0, 0)) (by (with_reducible repeat (first | refine blk_drewN ?_ _ | refine blk_drew ?_ | refine blk_alloc ?_ _)); refine blk_put (cs := #[.int .u8 ((rd_T35 l0_4 x5_1).f0), .string (⟨#[]⟩ : ByteArray)]) ?_ 1 _ rfl; (with_reducible repeat (first | refine blk_drewN ?_ _ | refine blk_drew ?_ | refine blk_alloc ?_ _)); refine blk_put (cs := #[.int .u8 0, .string (⟨#[]⟩ : ByteArray)]) ?_ 0 _ rfl; (with_reducible repeat (first | refine blk_drewN ?_ _ | refine blk_drew ?_ | refine blk_alloc ?_ _)); exact BK202.out)) (below_size (by repeat (first | (with_reducible first | exact HB.out | apply below_alloc | apply pw_below_drewN | apply below_drew1 | refine below_set ?_ GE195.out | refine below_set ?_ GE196.out | refine below_set ?_ GE197.out | refine below_set ?_ GE202.out) | exact HB.out)))); have n3_ := Aside0.mk (blk_below (g := gb195) (o := .cells #[.int .i64 a0_0, .int .i64 a0_1, .int .i64 a0_2, .int .i64 a0_3, .slice (some ad201) l0_4.length c0_4] 24 (0, 0)) (by (with_reducible repeat (first | refine blk_drewN ?_ _ | refine blk_drew ?_ | refine blk_alloc ?_ _)); refine blk_far ?_ NB195_202.out _; (with_reducible repeat (first | refine blk_drewN ?_ _ | refine blk_drew ?_ | refine blk_alloc ?_ _)); refine blk_far ?_ NB195_202.out _; (with_reducible repeat (first | refine blk_drewN ?_ _ | refine blk_drew ?_ | refine blk_alloc ?_ _)); exact BK195.out) hb); have n4_ := Aside0.mk (blk_below (g := gb196) (o := .cells #[.int .i64 0, .int .i64 0, .int .i64 0, .int .i64 0, .slice none 0 0] 24 (0, 0)) (by (with_reducible repeat (first | refine blk_drewN ?_ _ | refine blk_drew ?_ | refine blk_alloc ?_ _)); refine blk_far ?_ NB196_202.out _; (with_reducible repeat (first | refine blk_drewN ?_ _ | refine blk_drew ?_ | refine blk_alloc ?_ _)); refine blk_far ?_ NB196_202.out _; (with_reducible repeat (first | refine blk_drewN ?_ _ | refine blk_drew ?_ | refine blk_alloc ?_ _)); exact BK196.out) hb); have n5_ := Aside0.mk (blk_below (g := gb197) (o := .cells #[.int .i64 a0_2, .int .i64 a0_3, .int .i64 a0_0, .int .i64 a0_1, u198004] 24 (0, 0)) (by (with_reducible repeat (first | refine blk_drewN ?_ _ | refine blk_drew ?_ | refine blk_alloc ?_ _)); refine blk_far ?_ NB197_202.out _; (with_reducible repeat (first | refine blk_drewN ?_ _ | refine blk_drew ?_ | refine blk_alloc ?_ _)); refine blk_far ?_ NB197_202.out _; (with_reducible repeat (first | refine blk_drewN ?_ _ | refine blk_drew ?_ | refine blk_alloc ?_ _)); exact BK197.out) hb); have n6_ := Aside0.mk (blk_below (g := gb202) (o := .cells #[.int .u8 ((rd_T35 l0_4 x5_1).f0), .string ((rd_T35 l0_4 x5_1).f1)] 35 (0, 0)) (by (with_reducible repeat (first | refine blk_drewN ?_ _ | refine blk_drew ?_ | refine blk_alloc ?_ _)); refine blk_put (cs := #[.int .u8 ((rd_T35 l0_4 x5_1).f0), .string (⟨#[]⟩ : ByteArray)]) ?_ 1 _ rfl; (with_reducible repeat (first | refine blk_drewN ?_ _ | refine blk_drew ?_ | refine blk_alloc ?_ _)); refine blk_put (cs := #[.int .u8 0, .string (⟨#[]⟩ : ByteArray)]) ?_ 0 _ rfl; (with_reducible repeat (first | refine blk_drewN ?_ _ | refine blk_drew ?_ | refine blk_alloc ?_ _)); exact BK202.out) hb); have n7_ := Aside0.mk (below_step (by repeat (first | (with_reducible first | exact HB.out | apply below_alloc | apply pw_below_drewN | apply below_drew1 | refine below_set ?_ GE195.out | refine below_set ?_ GE196.out | refine below_set ?_ GE197.out | refine below_set ?_ GE202.out) | exact HB.out)) hb); clear HO_4; clear HO_198004; clear BK195; clear BK196; clear BK197; clear BK202; clear HB; have HO_4 := n0_; have HO_198004 := n1_; have HO211 := n2_; have BK195 := n3_; have BK196 := n4_; have BK197 := n5_; have BK202 := n6_; have HB := n7_; clear n0_ n1_ n2_ n3_ n4_ n5_ n6_ n7_; clear hb ho41; obtain ⟨Ao43, co43, eo43⟩ := Kd.R_slice HO211.out; subst eo43) | ((with_reducible refine gate_builtin (b := .append) (xs := #[.tmp 50, .tmp 54]) rfl ?_); at_builtin; refine Kd.R_append_rows k35 (w0 := w) w.heap.size rfl (.tmp 50) (.tmp 54) 22 35 (.agg #[(.int .u8 0), (.string ⟨#[]⟩)]) 24 rfl Try.underlying22 info35 rfl (by decide) (by omega) u4 x4_1 y209 _ _ _ (fun k_ => some k_ ≠ (u198004 : Value).ownBlock ∧ some k_ ≠ (.slice Ao43 y209.length co43 : Value).ownBlock ∧ k_ ≠ gb202) (fun _ => False) rfl rfl ?aO ?aR (fun _ _ h => h) (fun _ h => h.elim) ?aF ?aB ?aS ?aL ?_; (case aR => repeat (first | exact (Kd.R_reads' HO211.out).2.2 | (with_reducible refine Kd.C_alloc ?_ _) | (with_reducible refine Kd.C_drewN ?_ _) | (with_reducible refine Kd.C_drew ?_))); (case aB => exact (by repeat (first | (with_reducible first | exact HB.out | apply below_alloc | apply pw_below_drewN | apply below_drew1 | refine below_set ?_ GE195.out | refine below_set ?_ GE196.out | refine below_set ?_ GE197.out | refine below_set ?_ GE202.out) | exact HB.out))); (case aF => exact (fun k_ hk => ⟨Kd.fresh' (Kd.R_lt (by (with_reducible repeat (first | apply Kd.R_alloc | apply Kd.R_drewN | apply Kd.R_drew)); exact HO_198004.out)) k_ hk, Kd.fresh' (Kd.R_lt (by (with_reducible repeat (first | apply Kd.R_alloc | apply Kd.R_drewN | apply Kd.R_drew)); exact HO211.out)) k_ hk, Kd.freshB (g := gb202) (o := .cells #[.int .u8 ((rd_T35 l0_4 x5_1).f0), .string ((rd_T35 l0_4 x5_1).f1)] 35 (0, 0)) (by (with_reducible repeat (first | refine blk_drewN ?_ _ | refine blk_drew ?_ | refine blk_alloc ?_ _)); exact BK202.out) k_ hk⟩)); (case aO => exact (by (with_reducible repeat (first | apply Kd.R_alloc | apply Kd.R_drewN | apply Kd.R_drew)); exact Kd.R_mono HO_4.out (fun _ hk => ⟨hk.1.1, ⟨hk.2, hk.1.2⟩⟩))); (case aS => exact (below_size (by repeat (first | (with_reducible first | exact HB.out | apply below_alloc | apply pw_below_drewN | apply below_drew1 | refine below_set ?_ GE195.out | refine below_set ?_ GE196.out | refine below_set ?_ GE197.out | refine below_set ?_ GE202.out) | exact HB.out)))); (case aL => have := LMc31.out; omega); intro v213 w42 ho hb hg hat; rw [← Ny212.out] at ho; have n0_ := Aside0.mk (Kd.R_after (ok := (fun k_ => some k_ ≠ (.slice Ao43 y209.length co43 : Value).ownBlock ∧ k_ ≠ gb202)) (by (with_reducible repeat (first | apply Kd.R_alloc | apply Kd.R_drewN | apply Kd.R_drew)); exact Kd.R_mono HO_198004.out (fun _ hk => ⟨⟨hk.2, hk.1.2⟩, hk.1.1⟩)) hg hat); have n1_ := Aside0.mk (blk_grown (g := gb195) (o := .cells #[.int .i64 a0_0, .int .i64 a0_1, .int .i64 a0_2, .int .i64 a0_3, .slice (some ad201) l0_4.length c0_4] 24 (0, 0)) (by (with_reducible repeat (first | refine blk_drewN ?_ _ | refine blk_drew ?_ | refine blk_alloc ?_ _)); exact BK195.out) hg (Kd.R_ne HO_4.out BK195.out (by decide))); have n2_ := Aside0.mk (blk_grown (g := gb196) (o := .cells #[.int .i64 0, .int .i64 0, .int .i64 0, .int .i64 0, .slice none 0 0] 24 (0, 0)) (by (with_reducible repeat (first | refine blk_drewN ?_ _ | refine blk_drew ?_ | refine blk_alloc ?_ _)); exact BK196.out) hg (Kd.R_ne HO_4.out BK196.out (by decide))); have n3_ := Aside0.mk (blk_grown (g := gb197) (o := .cells #[.int .i64 a0_2, .int .i64 a0_3, .int .i64 a0_0, .int .i64 a0_1, u198004] 24 (0, 0)) (by (with_reducible repeat (first | refine blk_drewN ?_ _ | refine blk_drew ?_ | refine blk_alloc ?_ _)); exact BK197.out) hg (Kd.R_ne HO_4.out BK197.out (by decide))); have n4_ := Aside0.mk (blk_grown (g := gb202) (o := .cells #[.int .u8 ((rd_T35 l0_4 x5_1).f0), .string ((rd_T35 l0_4 x5_1).f1)] 35 (0, 0)) (by (with_reducible repeat (first | refine blk_drewN ?_ _ | refine blk_drew ?_ | refine blk_alloc ?_ _)); exact BK202.out) hg (Kd.R_away HO_4.out (fun _ hk => hk.1.2))); have n5_ := Aside0.mk (Kd.R_after (ok := (fun k_ => some k_ ≠ (u198004 : Value).ownBlock ∧ k_ ≠ gb202)) (by (with_reducible repeat (first | apply Kd.R_alloc | apply Kd.R_drewN | apply Kd.R_drew)); exact Kd.R_mono HO211.out (fun _ hk => ⟨⟨hk.1.2, hk.2⟩, hk.1.1.2⟩)) hg hat); have n6_ := Aside0.mk (hb); have n7_ := Aside0.mk (ho); clear HO_198004; clear BK195; clear BK196; clear BK197; clear BK202; clear HO211; clear HB; clear HO_4; have HO_198004 := n0_; have BK195 := n1_; have BK196 := n2_; have BK197 := n3_; have BK202 := n4_; have HO211 := n5_; have HB := n6_; have HO214 := n7_; clear n0_ n1_ n2_ n3_ n4_ n5_ n6_ n7_; clear ho hb hg hat))
                go_roundg k1
                case measure => have := HK1.out; omega
                case rel => exact ⟨(y212), (wrap64 (x5_1 + 1)), (x198004_1), (u198004), (by first | rfl | (simp; done) | (simp [*]; done)), H', ⟨by have := HK1.out; omega⟩, ⟨by (with_reducible repeat (first | apply Kd.R_alloc | apply Kd.R_drewN | apply Kd.R_drew)); exact Kd.R_mono HO214.out (fun _ hk => hk.1)⟩, ⟨by (with_reducible repeat (first | apply Kd.R_alloc | apply Kd.R_drewN | apply Kd.R_drew)); exact Kd.R_mono HO_198004.out (fun _ hk => hk.2)⟩, ⟨by (with_reducible repeat (first | refine blk_drewN ?_ _ | refine blk_drew ?_ | refine blk_alloc ?_ _)); exact BK195.out⟩, ⟨by (with_reducible repeat (first | refine blk_drewN ?_ _ | refine blk_drew ?_ | refine blk_alloc ?_ _)); exact BK196.out⟩, ⟨by (with_reducible repeat (first | refine blk_drewN ?_ _ | refine blk_drew ?_ | refine blk_alloc ?_ _)); exact BK197.out⟩, ⟨by repeat (first | (with_reducible first | exact HB.out | apply below_alloc | apply pw_below_drewN | apply below_drew1 | refine below_set ?_ GE195.out | refine below_set ?_ GE196.out | refine below_set ?_ GE197.out | refine below_set ?_ GE202.out) | exact HB.out)⟩⟩
              · rw [if_neg c31] at H
                exact absurd H (by simp)
            · rw [if_neg c30] at H
              have c30b0 : (((rd_T35 l0_4 x5_1).f0) == 45) = false := beq_eq_false_iff_ne.mpr c30
              have c30b1 : (((rd_T35 l0_4 x5_1).f0) != 45) = true := bne_iff_ne.mpr c30
              by_cases c44 : x198004_1.length + x4_1.length < 5864062014805
              · rw [if_pos c44] at H
                have LMc44 := Aside0.mk c44
                clear c44
                obtain ⟨y215, hy215⟩ : ∃ y_ : List (S35), y_ = (x198004_1 ++ x4_1) := ⟨_, rfl⟩
                replace H : ((some (([(⟨(rd_T35 l0_4 x5_1).f0, (rd_T35 l0_4 x5_1).f1⟩ : S35)] : List (S35)) : List (S35))).bind fun y218 => (if y215.length + y218.length < 5864062014805 then (redlineref11_Invert.l0 k1 ([] : List (S35)) (wrap64 (x5_1 + 1)) a0_0 a0_1 a0_2 a0_3 l0_4 a0_2 a0_3 a0_0 a0_1 (y215 ++ y218)) else (none))) = some (r1, r2, r3, r4, r5) := by first | (rw [hy215]; with_reducible exact H) | (have H2_ := (Option.bind_some _ _).symm.trans H; rw [hy215]; with_reducible exact H2_) | (have H2_ := (Option.bind_some _ _).symm.trans H; with_reducible exact H2_) | with_reducible exact H | (rw [hy215]; exact H) | exact H
                have Ny215 := Aside0.mk hy215
                clear hy215
                obtain ⟨y218, hy218⟩ : ∃ y_ : List (S35), y_ = (([(⟨(rd_T35 l0_4 x5_1).f0, (rd_T35 l0_4 x5_1).f1⟩ : S35)] : List (S35))) := ⟨_, rfl⟩
                replace H : (if y215.length + y218.length < 5864062014805 then (redlineref11_Invert.l0 k1 ([] : List (S35)) (wrap64 (x5_1 + 1)) a0_0 a0_1 a0_2 a0_3 l0_4 a0_2 a0_3 a0_0 a0_1 (y215 ++ y218)) else (none)) = some (r1, r2, r3, r4, r5) := by first | (rw [hy218]; with_reducible exact H) | (have H2_ := (Option.bind_some _ _).symm.trans H; rw [hy218]; with_reducible exact H2_) | (have H2_ := (Option.bind_some _ _).symm.trans H; with_reducible exact H2_) | with_reducible exact H | (rw [hy218]; exact H) | exact H
                have Ny218 := Aside0.mk hy218
                clear hy218
                by_cases c45 : y215.length + y218.length < 5864062014805
                · rw [if_pos c45] at H
                  have LMc45 := Aside0.mk c45
                  clear c45
                  obtain ⟨y221, hy221⟩ : ∃ y_ : List (S35), y_ = (y215 ++ y218) := ⟨_, rfl⟩
                  replace H : (redlineref11_Invert.l0 k1 ([] : List (S35)) (wrap64 (x5_1 + 1)) a0_0 a0_1 a0_2 a0_3 l0_4 a0_2 a0_3 a0_0 a0_1 y221) = some (r1, r2, r3, r4, r5) := by first | (rw [hy221]; with_reducible exact H) | (have H2_ := (Option.bind_some _ _).symm.trans H; rw [hy221]; with_reducible exact H2_) | (have H2_ := (Option.bind_some _ _).symm.trans H; with_reducible exact H2_) | with_reducible exact H | (rw [hy221]; exact H) | exact H
                  have Ny221 := Aside0.mk hy221
                  clear hy221
                  have H' := Aside0.mk H
                  clear H
                  have hnb46 := NB195_196.out
                  have hnc46 := NB196_195.out
                  have hnb47 := NB195_197.out
                  have hnc47 := NB197_195.out
                  have hcz48_0 : wr.cell? ⟨gb195, 0, none⟩ = some (.int .i64 a0_0) := (blk_cell BK195.out 0).trans rfl
                  have hcz48_1 : wr.cell? ⟨gb195, 1, none⟩ = some (.int .i64 a0_1) := (blk_cell BK195.out 1).trans rfl
                  have hcz48_2 : wr.cell? ⟨gb195, 2, none⟩ = some (.int .i64 a0_2) := (blk_cell BK195.out 2).trans rfl
                  have hcz48_3 : wr.cell? ⟨gb195, 3, none⟩ = some (.int .i64 a0_3) := (blk_cell BK195.out 3).trans rfl
                  have hcz48_4 : wr.cell? ⟨gb195, 4, none⟩ = some (.slice A0_4 l0_4.length c0_4) := (blk_cell BK195.out 4).trans rfl
                  have hfz48_0 := blk_frozen BK195.out 0
                  have hfz48_1 := blk_frozen BK195.out 1
                  have hfz48_2 := blk_frozen BK195.out 2
                  have hfz48_3 := blk_frozen BK195.out 3
                  have hfz48_4 := blk_frozen BK195.out 4
                  have p201 : 0 ≤ (x5_1 : Int) := of_decide_eq_true (by first | (with_reducible assumption) | assumption)
                  have q201 : x5_1 < (l0_4.length : Int) := of_decide_eq_true (by first | (with_reducible assumption) | assumption)
                  obtain ⟨ad201, e201, hx201_0, hx201_1⟩ := at_T35 HR0_4.out x5_1 p201 q201
                  cases e201
                  replace hx201_0 := (HB.out.cell (World.block_lt_of_cell? w _ hx201_0)).trans hx201_0
                  replace hx201_1 := (HB.out.cell (World.block_lt_of_cell? w _ hx201_1)).trans hx201_1
                  replace p201 := eq_true p201
                  replace q201 := eq_true q201
                  try go_wp2_with (first | ((with_reducible refine gate_dst (N := 6) rfl ?_); refine box_event ?hg (N := 6) ?hd (cs := #[.int .u8 0, .string (⟨#[]⟩ : ByteArray)]) (t := 35) ?hr ?_; (case hd => rfl); (case hg => rfl); (case hr => first | (go_simp; done) | (go_simp; rfl)); intro gb202 hg w49 hbox hb; have n0_ := Aside0.mk (Kd.R_below (Kd.R_elderB (by (with_reducible repeat (first | apply Kd.R_alloc | apply Kd.R_drewN | apply Kd.R_drew)); exact HO_4.out) gb202 (Nat.le_of_eq hg.symm)) hb); have n1_ := Aside0.mk (Kd.R_below (Kd.R_elderB (by (with_reducible repeat (first | apply Kd.R_alloc | apply Kd.R_drewN | apply Kd.R_drew)); exact HO_198004.out) gb202 (Nat.le_of_eq hg.symm)) hb); have n2_ := Aside0.mk (blk_below (g := gb195) (o := .cells #[.int .i64 a0_0, .int .i64 a0_1, .int .i64 a0_2, .int .i64 a0_3, .slice (some ad201) l0_4.length c0_4] 24 (0, 0)) (by (with_reducible repeat (first | refine blk_drewN ?_ _ | refine blk_drew ?_ | refine blk_alloc ?_ _)); exact BK195.out) hb); have n3_ := Aside0.mk (blk_below (g := gb196) (o := .cells #[.int .i64 0, .int .i64 0, .int .i64 0, .int .i64 0, .slice none 0 0] 24 (0, 0)) (by (with_reducible repeat (first | refine blk_drewN ?_ _ | refine blk_drew ?_ | refine blk_alloc ?_ _)); exact BK196.out) hb); have n4_ := Aside0.mk (blk_below (g := gb197) (o := .cells #[.int .i64 a0_2, .int .i64 a0_3, .int .i64 a0_0, .int .i64 a0_1, u198004] 24 (0, 0)) (by (with_reducible repeat (first | refine blk_drewN ?_ _ | refine blk_drew ?_ | refine blk_alloc ?_ _)); exact BK197.out) hb); have n5_ := Aside0.mk (below_step (by repeat (first | (with_reducible first | exact HB.out | apply below_alloc | apply pw_below_drewN | apply below_drew1 | refine below_set ?_ GE195.out | refine below_set ?_ GE196.out | refine below_set ?_ GE197.out) | exact HB.out)) hb); have n6_ := Aside0.mk (hbox); have n7_ := Aside0.mk ((by rw [hg]; exact (below_size (by repeat (first | (with_reducible first | exact HB.out | apply below_alloc | apply pw_below_drewN | apply below_drew1 | refine below_set ?_ GE195.out | refine below_set ?_ GE196.out | refine below_set ?_ GE197.out) | exact HB.out))) : w.heap.size ≤ gb202)); have n8_ := Aside0.mk ((by rw [hg]; exact (below_size (by repeat (first | (with_reducible first | exact HB.out | apply below_alloc | apply pw_below_drewN | apply below_drew1 | refine below_set ?_ GE195.out | refine below_set ?_ GE196.out | refine below_set ?_ GE197.out) | exact HB.out))) : w.heap.size ≤ gb202)); have n9_ := Aside0.mk ((by rw [hg]; exact Nat.ne_of_lt (blk_lt (g := gb195) (o := .cells #[.int .i64 a0_0, .int .i64 a0_1, .int .i64 a0_2, .int .i64 a0_3, .slice (some ad201) l0_4.length c0_4] 24 (0, 0)) (by (with_reducible repeat (first | refine blk_drewN ?_ _ | refine blk_drew ?_ | refine blk_alloc ?_ _)); exact BK195.out)) : gb195 ≠ gb202)); have n10_ := Aside0.mk ((by rw [hg]; exact Nat.ne_of_gt (blk_lt (g := gb195) (o := .cells #[.int .i64 a0_0, .int .i64 a0_1, .int .i64 a0_2, .int .i64 a0_3, .slice (some ad201) l0_4.length c0_4] 24 (0, 0)) (by (with_reducible repeat (first | refine blk_drewN ?_ _ | refine blk_drew ?_ | refine blk_alloc ?_ _)); exact BK195.out)) : gb202 ≠ gb195)); have n11_ := Aside0.mk ((by rw [hg]; exact Nat.ne_of_lt (blk_lt (g := gb196) (o := .cells #[.int .i64 0, .int .i64 0, .int .i64 0, .int .i64 0, .slice none 0 0] 24 (0, 0)) (by (with_reducible repeat (first | refine blk_drewN ?_ _ | refine blk_drew ?_ | refine blk_alloc ?_ _)); exact BK196.out)) : gb196 ≠ gb202)); have n12_ := Aside0.mk ((by rw [hg]; exact Nat.ne_of_gt (blk_lt (g := gb196) (o := .cells #[.int .i64 0, .int .i64 0, .int .i64 0, .int .i64 0, .slice none 0 0] 24 (0, 0)) (by (with_reducible repeat (first | refine blk_drewN ?_ _ | refine blk_drew ?_ | refine blk_alloc ?_ _)); exact BK196.out)) : gb202 ≠ gb196)); have n13_ := Aside0.mk ((by rw [hg]; exact Nat.ne_of_lt (blk_lt (g := gb197) (o := .cells #[.int .i64 a0_2, .int .i64 a0_3, .int .i64 a0_0, .int .i64 a0_1, u198004] 24 (0, 0)) (by (with_reducible repeat (first | refine blk_drewN ?_ _ | refine blk_drew ?_ | refine blk_alloc ?_ _)); exact BK197.out)) : gb197 ≠ gb202)); have n14_ := Aside0.mk ((by rw [hg]; exact Nat.ne_of_gt (blk_lt (g := gb197) (o := .cells #[.int .i64 a0_2, .int .i64 a0_3, .int .i64 a0_0, .int .i64 a0_1, u198004] 24 (0, 0)) (by (with_reducible repeat (first | refine blk_drewN ?_ _ | refine blk_drew ?_ | refine blk_alloc ?_ _)); exact BK197.out)) : gb202 ≠ gb197)); clear HO_4; clear HO_198004; clear BK195; clear BK196; clear BK197; clear HB; have HO_4 := n0_; have HO_198004 := n1_; have BK195 := n2_; have BK196 := n3_; have BK197 := n4_; have HB := n5_; have BK202 := n6_; have GW202 := n7_; have GE202 := n8_; have NB195_202 := n9_; have NB202_195 := n10_; have NB196_202 := n11_; have NB202_196 := n12_; have NB197_202 := n13_; have NB202_197 := n14_; clear n0_ n1_ n2_ n3_ n4_ n5_ n6_ n7_ n8_ n9_ n10_ n11_ n12_ n13_ n14_; clear hb hbox hg; have hnb50 := NB202_195.out; have hnc50 := NB195_202.out; have hnb51 := NB202_196.out; have hnc51 := NB196_202.out; have hnb52 := NB202_197.out; have hnc52 := NB197_202.out; have hcz53_0 : w49.cell? ⟨gb202, 0, none⟩ = some (.int .u8 0) := (blk_cell BK202.out 0).trans rfl; have hcz53_1 : w49.cell? ⟨gb202, 1, none⟩ = some (.string (⟨#[]⟩ : ByteArray)) := (blk_cell BK202.out 1).trans rfl; have hfz53_0 := blk_frozen BK202.out 0; have hfz53_1 := blk_frozen BK202.out 1; obtain ⟨Ao54, co54, eo54⟩ := Kd.R_slice HO_198004.out; subst eo54; obtain ⟨Ao55, co55, eo55⟩ := Kd.R_slice HO_4.out; subst eo55))
                  have n0_ : Aside0 (Kd.R k35 35 ((w49.setCell ⟨gb202, 0, none⟩ (.int .u8 ((rd_T35 l0_4 x5_1).f0))).setCell ⟨gb202, 1, none⟩ (.string ((rd_T35 l0_4 x5_1).f1))) w.heap.size (fun k_ => some k_ ≠ (.slice Ao54 x198004_1.length co54 : Value).ownBlock ∧ k_ ≠ gb202) (.slice Ao55 x4_1.length co55) x4_1) := ⟨by (with_reducible repeat (first | apply Kd.R_alloc | apply Kd.R_drewN | apply Kd.R_drew)); exact Kd.R_mono (Kd.R_far (p := ⟨gb202, 1, none⟩) (Kd.R_far (p := ⟨gb202, 0, none⟩) (Kd.R_mono HO_4.out (fun k_ hk => (⟨hk, hk.2⟩ : _ ∧ k_ ≠ gb202))) (fun _ hk => hk.2) (.int .u8 ((rd_T35 l0_4 x5_1).f0))) (fun _ hk => hk.2) (.string ((rd_T35 l0_4 x5_1).f1))) (fun _ hk => ⟨hk.1.1, hk.1.2⟩)⟩
                  have n1_ : Aside0 (Kd.R k35 35 ((w49.setCell ⟨gb202, 0, none⟩ (.int .u8 ((rd_T35 l0_4 x5_1).f0))).setCell ⟨gb202, 1, none⟩ (.string ((rd_T35 l0_4 x5_1).f1))) w.heap.size (fun k_ => some k_ ≠ (.slice Ao55 x4_1.length co55 : Value).ownBlock ∧ k_ ≠ gb202) (.slice Ao54 x198004_1.length co54) x198004_1) := ⟨by (with_reducible repeat (first | apply Kd.R_alloc | apply Kd.R_drewN | apply Kd.R_drew)); exact Kd.R_mono (Kd.R_far (p := ⟨gb202, 1, none⟩) (Kd.R_far (p := ⟨gb202, 0, none⟩) (Kd.R_mono HO_198004.out (fun k_ hk => (⟨hk, hk.2⟩ : _ ∧ k_ ≠ gb202))) (fun _ hk => hk.2) (.int .u8 ((rd_T35 l0_4 x5_1).f0))) (fun _ hk => hk.2) (.string ((rd_T35 l0_4 x5_1).f1))) (fun _ hk => ⟨hk.1.1, hk.1.2⟩)⟩
                  have n2_ : Aside0 (((w49.setCell ⟨gb202, 0, none⟩ (.int .u8 ((rd_T35 l0_4 x5_1).f0))).setCell ⟨gb202, 1, none⟩ (.string ((rd_T35 l0_4 x5_1).f1))).heap[gb195]? = some (.cells #[.int .i64 a0_0, .int .i64 a0_1, .int .i64 a0_2, .int .i64 a0_3, .slice (some ad201) l0_4.length c0_4] 24 (0, 0))) := ⟨by (with_reducible repeat (first | refine blk_drewN ?_ _ | refine blk_drew ?_ | refine blk_alloc ?_ _)); refine blk_far ?_ NB195_202.out _; (with_reducible repeat (first | refine blk_drewN ?_ _ | refine blk_drew ?_ | refine blk_alloc ?_ _)); refine blk_far ?_ NB195_202.out _; (with_reducible repeat (first | refine blk_drewN ?_ _ | refine blk_drew ?_ | refine blk_alloc ?_ _)); exact BK195.out⟩
                  have n3_ : Aside0 (((w49.setCell ⟨gb202, 0, none⟩ (.int .u8 ((rd_T35 l0_4 x5_1).f0))).setCell ⟨gb202, 1, none⟩ (.string ((rd_T35 l0_4 x5_1).f1))).heap[gb196]? = some (.cells #[.int .i64 0, .int .i64 0, .int .i64 0, .int .i64 0, .slice none 0 0] 24 (0, 0))) := ⟨by (with_reducible repeat (first | refine blk_drewN ?_ _ | refine blk_drew ?_ | refine blk_alloc ?_ _)); refine blk_far ?_ NB196_202.out _; (with_reducible repeat (first | refine blk_drewN ?_ _ | refine blk_drew ?_ | refine blk_alloc ?_ _)); refine blk_far ?_ NB196_202.out _; (with_reducible repeat (first | refine blk_drewN ?_ _ | refine blk_drew ?_ | refine blk_alloc ?_ _)); exact BK196.out⟩
                  have n4_ : Aside0 (((w49.setCell ⟨gb202, 0, none⟩ (.int .u8 ((rd_T35 l0_4 x5_1).f0))).setCell ⟨gb202, 1, none⟩ (.string ((rd_T35 l0_4 x5_1).f1))).heap[gb197]? = some (.cells #[.int .i64 a0_2, .int .i64 a0_3, .int .i64 a0_0, .int .i64 a0_1, .slice Ao54 x198004_1.length co54] 24 (0, 0))) := ⟨by (with_reducible repeat (first | refine blk_drewN ?_ _ | refine blk_drew ?_ | refine blk_alloc ?_ _)); refine blk_far ?_ NB197_202.out _; (with_reducible repeat (first | refine blk_drewN ?_ _ | refine blk_drew ?_ | refine blk_alloc ?_ _)); refine blk_far ?_ NB197_202.out _; (with_reducible repeat (first | refine blk_drewN ?_ _ | refine blk_drew ?_ | refine blk_alloc ?_ _)); exact BK197.out⟩
                  have n5_ : Aside0 (((w49.setCell ⟨gb202, 0, none⟩ (.int .u8 ((rd_T35 l0_4 x5_1).f0))).setCell ⟨gb202, 1, none⟩ (.string ((rd_T35 l0_4 x5_1).f1))).heap[gb202]? = some (.cells #[.int .u8 ((rd_T35 l0_4 x5_1).f0), .string ((rd_T35 l0_4 x5_1).f1)] 35 (0, 0))) := ⟨by (with_reducible repeat (first | refine blk_drewN ?_ _ | refine blk_drew ?_ | refine blk_alloc ?_ _)); refine blk_put (cs := #[.int .u8 ((rd_T35 l0_4 x5_1).f0), .string (⟨#[]⟩ : ByteArray)]) ?_ 1 _ rfl; (with_reducible repeat (first | refine blk_drewN ?_ _ | refine blk_drew ?_ | refine blk_alloc ?_ _)); refine blk_put (cs := #[.int .u8 0, .string (⟨#[]⟩ : ByteArray)]) ?_ 0 _ rfl; (with_reducible repeat (first | refine blk_drewN ?_ _ | refine blk_drew ?_ | refine blk_alloc ?_ _)); exact BK202.out⟩
                  have n6_ : Aside0 (Below w.heap.size w ((w49.setCell ⟨gb202, 0, none⟩ (.int .u8 ((rd_T35 l0_4 x5_1).f0))).setCell ⟨gb202, 1, none⟩ (.string ((rd_T35 l0_4 x5_1).f1)))) := ⟨by repeat (first | (with_reducible first | exact HB.out | apply below_alloc | apply pw_below_drewN | apply below_drew1 | refine below_set ?_ GE195.out | refine below_set ?_ GE196.out | refine below_set ?_ GE197.out | refine below_set ?_ GE202.out) | exact HB.out)⟩
                  (try clear HO_4)
                  (try clear HO_198004)
                  (try clear BK195)
                  (try clear BK196)
                  (try clear BK197)
                  (try clear BK202)
                  (try clear HB)
                  generalize ((w49.setCell ⟨gb202, 0, none⟩ (.int .u8 ((rd_T35 l0_4 x5_1).f0))).setCell ⟨gb202, 1, none⟩ (.string ((rd_T35 l0_4 x5_1).f1))) = w56 at n0_ n1_ n2_ n3_ n4_ n5_ n6_ ⊢
                  have HO_4 := n0_
                  have HO_198004 := n1_
                  have BK195 := n2_
                  have BK196 := n3_
                  have BK197 := n4_
                  have BK202 := n5_
                  have HB := n6_
                  clear n0_ n1_ n2_ n3_ n4_ n5_ n6_
                  have n0_ := Aside0.mk (Kd.R_drew HO_4.out)
                  have n1_ := Aside0.mk (Kd.R_drew HO_198004.out)
                  have n2_ := Aside0.mk (blk_drew BK195.out)
                  have n3_ := Aside0.mk (blk_drew BK196.out)
                  have n4_ := Aside0.mk (blk_drew BK197.out)
                  have n5_ := Aside0.mk (blk_drew BK202.out)
                  have n6_ := Aside0.mk (below_drew1 HB.out)
                  clear HO_4
                  clear HO_198004
                  clear BK195
                  clear BK196
                  clear BK197
                  clear BK202
                  clear HB
                  have HO_4 := n0_
                  have HO_198004 := n1_
                  have BK195 := n2_
                  have BK196 := n3_
                  have BK197 := n4_
                  have BK202 := n5_
                  have HB := n6_
                  clear n0_ n1_ n2_ n3_ n4_ n5_ n6_
                  refine start_ (n := 9) (S := fun w' => w'.cell? ⟨gb197, 0, none⟩ = some (.int .i64 a0_2) ∧ w'.cell? ⟨gb197, 1, none⟩ = some (.int .i64 a0_3) ∧ w'.cell? ⟨gb197, 2, none⟩ = some (.int .i64 a0_0) ∧ w'.cell? ⟨gb197, 3, none⟩ = some (.int .i64 a0_1) ∧ w'.cell? ⟨gb197, 4, none⟩ = some (.slice Ao54 x198004_1.length co54) ∧ w'.cell? ⟨gb202, 0, none⟩ = some (.int .u8 ((rd_T35 l0_4 x5_1).f0)) ∧ w'.cell? ⟨gb202, 1, none⟩ = some (.string ((rd_T35 l0_4 x5_1).f1))) (ds := [8]) #[false, false, false, false, false, false, false, false, false] (by kernel_rfl) rfl rfl ⟨(blk_cell BK197.out 0).trans rfl, (blk_cell BK197.out 1).trans rfl, (blk_cell BK197.out 2).trans rfl, (blk_cell BK197.out 3).trans rfl, (blk_cell BK197.out 4).trans rfl, (blk_cell BK202.out 0).trans rfl, (blk_cell BK202.out 1).trans rfl⟩ (fun hHeld => ?_); refine with_tabW redlineref11_Invert.tab8 redlineref11_Invert.bits8 (fun HT_ HW_ => ?_)
                  generalize w56.drew = w57 at HO_4 HO_198004 BK195 BK196 BK197 BK202 HB hHeld ⊢
                  refine pure_ (i := 0) (N := some 30) (v := ?_) (a' := ?_) #[true, false, false, false, false, false, false, false, false] rfl rfl (any_of HT_.out (by kernel_rfl)) (fun _ _ _ h => h) (Or.inl ⟨by rfl, ?_⟩) ?_ ?_
                  rotate_left
                  · intro w'
                    go_simp
                    with_reducible rfl
                  rotate_left
                  · simp only [Act.put, List.setIfInBounds_toArray, List.set_cons_zero, List.set_cons_succ, i64_w, i32_w]
                    rfl
                  refine pure_ (i := 2) (N := some 32) (v := ?_) (a' := ?_) #[true, false, true, false, false, false, false, false, false] rfl rfl (any_of HT_.out (by kernel_rfl)) (fun _ _ _ h => h) (Or.inl ⟨by rfl, ?_⟩) ?_ ?_
                  rotate_left
                  · intro w'
                    go_simp
                    with_reducible rfl
                  rotate_left
                  · simp only [Act.put, List.setIfInBounds_toArray, List.set_cons_zero, List.set_cons_succ, i64_w, i32_w]
                    rfl
                  refine take_ (i := 1) (N := some 31) (v := ?_) (a' := ?_) #[true, true, true, false, false, false, false, false, false] rfl rfl (take_ofW HT_.out HW_.out (by kernel_rfl)) (fun _ _ _ h => h) (Or.inl ⟨by rfl, ?_⟩) hHeld ?_ ?_
                  rotate_left
                  · rintro w' ⟨s0, s1, s2, s3, s4, s5, s6⟩
                    go_simp
                    with_reducible rfl
                  rotate_left
                  · simp only [Act.put, List.setIfInBounds_toArray, List.set_cons_zero, List.set_cons_succ, i64_w, i32_w]
                    rfl
                  refine take_ (i := 4) (N := some 34) (v := ?_) (a' := ?_) #[true, true, true, false, true, false, false, false, false] rfl rfl (take_ofW HT_.out HW_.out (by kernel_rfl)) (fun _ _ _ h => h) (Or.inl ⟨by rfl, ?_⟩) hHeld ?_ ?_
                  rotate_left
                  · rintro w' ⟨s0, s1, s2, s3, s4, s5, s6⟩
                    go_simp
                    with_reducible rfl
                  rotate_left
                  · simp only [Act.put, List.setIfInBounds_toArray, List.set_cons_zero, List.set_cons_succ, i64_w, i32_w]
                    rfl
                  refine join_ (σ := Value × Value) 3 #[true, true, true, true, true, true, false, false, false] (fun s_ => [(33, s_.1), (35, s_.2)]) (fun s_ w' => (w'.cell? ⟨gb197, 0, none⟩ = some (.int .i64 a0_2) ∧ w'.cell? ⟨gb197, 1, none⟩ = some (.int .i64 a0_3) ∧ w'.cell? ⟨gb197, 2, none⟩ = some (.int .i64 a0_0) ∧ w'.cell? ⟨gb197, 3, none⟩ = some (.int .i64 a0_1) ∧ w'.cell? ⟨gb197, 4, none⟩ = some (.slice Ao54 x198004_1.length co54) ∧ w'.cell? ⟨gb202, 0, none⟩ = some (.int .u8 ((rd_T35 l0_4 x5_1).f0)) ∧ w'.cell? ⟨gb202, 1, none⟩ = some (.string ((rd_T35 l0_4 x5_1).f1))) ∧ (Kd.R k35 35 w' w.heap.size (fun k_ => some k_ ≠ (s_.2 : Value).ownBlock ∧ some k_ ≠ (.slice Ao55 x4_1.length co55 : Value).ownBlock ∧ k_ ≠ gb202) s_.1 y215) ∧ (Kd.R k35 35 w' w.heap.size (fun k_ => some k_ ≠ (s_.1 : Value).ownBlock ∧ some k_ ≠ (.slice Ao55 x4_1.length co55 : Value).ownBlock ∧ k_ ≠ gb202) s_.2 y218) ∧ (Kd.R k35 35 w' w.heap.size (fun k_ => some k_ ≠ (s_.1 : Value).ownBlock ∧ some k_ ≠ (s_.2 : Value).ownBlock ∧ k_ ≠ gb202) (.slice Ao55 x4_1.length co55) x4_1) ∧ (w'.heap[gb195]? = some (.cells #[.int .i64 a0_0, .int .i64 a0_1, .int .i64 a0_2, .int .i64 a0_3, .slice (some ad201) l0_4.length c0_4] 24 (0, 0))) ∧ (w'.heap[gb196]? = some (.cells #[.int .i64 0, .int .i64 0, .int .i64 0, .int .i64 0, .slice none 0 0] 24 (0, 0))) ∧ (w'.heap[gb197]? = some (.cells #[.int .i64 a0_2, .int .i64 a0_3, .int .i64 a0_0, .int .i64 a0_1, .slice Ao54 x198004_1.length co54] 24 (0, 0))) ∧ (w'.heap[gb202]? = some (.cells #[.int .u8 ((rd_T35 l0_4 x5_1).f0), .string ((rd_T35 l0_4 x5_1).f1)] 35 (0, 0))) ∧ (Below w.heap.size w w')) ?_ ?_
                  rotate_left
                  · intro hCont
                    refine two_ (i := 3) (j := 5) (Ni := some 33) (Nj := some 35) #[true, true, true, true, true, false, false, false, false] #[true, true, true, false, true, true, false, false, false] rfl rfl rfl rfl (two_of HT_.out (by kernel_rfl)) (by decide) (by decide) (fun K hK => ?_) (fun K hK => ?_)
                    · skip
                      refine Kd.R_append_rows_step k35 (w0 := w) w.heap.size (by rfl) (.tmp 31) (.tmp 32) 22 35 (.agg #[(.int .u8 0), (.string ⟨#[]⟩)]) 24 rfl Try.underlying22 info35 rfl (by decide) (by omega) (.slice Ao54 x198004_1.length co54) x198004_1 x4_1 _ _ _ (fun k_ => some k_ ≠ (.slice Ao55 x4_1.length co55 : Value).ownBlock ∧ k_ ≠ gb202) (fun _ => False) rfl rfl ?aO ?aR (fun _ _ h => h) (fun _ h => h.elim) ?aF ?aB ?aS ?aL ?_
                      (case aR => repeat (first | exact (Kd.R_reads' HO_4.out).2.2 | (with_reducible refine Kd.C_alloc ?_ _) | (with_reducible refine Kd.C_drewN ?_ _) | (with_reducible refine Kd.C_drew ?_)))
                      (case aB => exact (by repeat (first | (with_reducible first | exact HB.out | apply below_alloc | apply pw_below_drewN | apply below_drew1 | refine below_set ?_ GE195.out | refine below_set ?_ GE196.out | refine below_set ?_ GE197.out | refine below_set ?_ GE202.out) | exact HB.out)))
                      (case aF => exact (fun k_ hk => ⟨Kd.fresh' (Kd.R_lt (by (with_reducible repeat (first | apply Kd.R_alloc | apply Kd.R_drewN | apply Kd.R_drew)); exact HO_4.out)) k_ hk, Kd.freshB (g := gb202) (o := .cells #[.int .u8 ((rd_T35 l0_4 x5_1).f0), .string ((rd_T35 l0_4 x5_1).f1)] 35 (0, 0)) (by (with_reducible repeat (first | refine blk_drewN ?_ _ | refine blk_drew ?_ | refine blk_alloc ?_ _)); exact BK202.out) k_ hk⟩))
                      (case aO => exact (by (with_reducible repeat (first | apply Kd.R_alloc | apply Kd.R_drewN | apply Kd.R_drew)); exact HO_198004.out))
                      (case aS => exact (below_size (by repeat (first | (with_reducible first | exact HB.out | apply below_alloc | apply pw_below_drewN | apply below_drew1 | refine below_set ?_ GE195.out | refine below_set ?_ GE196.out | refine below_set ?_ GE197.out | refine below_set ?_ GE202.out) | exact HB.out))))
                      (case aL => have := LMc44.out; omega)
                      intro v216 w58 ho hb hg hat
                      rw [← Ny215.out] at ho
                      have n0_ := Aside0.mk (Kd.R_after (ok := (fun k_ => k_ ≠ gb202)) (by (with_reducible repeat (first | apply Kd.R_alloc | apply Kd.R_drewN | apply Kd.R_drew)); exact Kd.R_mono HO_4.out (fun _ hk => ⟨hk.2, hk.1⟩)) hg hat)
                      have n1_ := Aside0.mk (blk_grown (g := gb195) (o := .cells #[.int .i64 a0_0, .int .i64 a0_1, .int .i64 a0_2, .int .i64 a0_3, .slice (some ad201) l0_4.length c0_4] 24 (0, 0)) (by (with_reducible repeat (first | refine blk_drewN ?_ _ | refine blk_drew ?_ | refine blk_alloc ?_ _)); exact BK195.out) hg (Kd.R_ne HO_198004.out BK195.out (by decide)))
                      have n2_ := Aside0.mk (blk_grown (g := gb196) (o := .cells #[.int .i64 0, .int .i64 0, .int .i64 0, .int .i64 0, .slice none 0 0] 24 (0, 0)) (by (with_reducible repeat (first | refine blk_drewN ?_ _ | refine blk_drew ?_ | refine blk_alloc ?_ _)); exact BK196.out) hg (Kd.R_ne HO_198004.out BK196.out (by decide)))
                      have n3_ := Aside0.mk (blk_grown (g := gb197) (o := .cells #[.int .i64 a0_2, .int .i64 a0_3, .int .i64 a0_0, .int .i64 a0_1, .slice Ao54 x198004_1.length co54] 24 (0, 0)) (by (with_reducible repeat (first | refine blk_drewN ?_ _ | refine blk_drew ?_ | refine blk_alloc ?_ _)); exact BK197.out) hg (Kd.R_ne HO_198004.out BK197.out (by decide)))
                      have n4_ := Aside0.mk (blk_grown (g := gb202) (o := .cells #[.int .u8 ((rd_T35 l0_4 x5_1).f0), .string ((rd_T35 l0_4 x5_1).f1)] 35 (0, 0)) (by (with_reducible repeat (first | refine blk_drewN ?_ _ | refine blk_drew ?_ | refine blk_alloc ?_ _)); exact BK202.out) hg (Kd.R_away HO_198004.out (fun _ hk => hk.2)))
                      have n5_ := Aside0.mk (hb)
                      have n6_ := Aside0.mk (ho)
                      clear HO_4
                      clear BK195
                      clear BK196
                      clear BK197
                      clear BK202
                      clear HB
                      clear HO_198004
                      have HO_4 := n0_
                      have BK195 := n1_
                      have BK196 := n2_
                      have BK197 := n3_
                      have BK202 := n4_
                      have HB := n5_
                      have HO217 := n6_
                      clear n0_ n1_ n2_ n3_ n4_ n5_ n6_
                      clear ho hb hg hat
                      refine hK.out _ _ ⟨(blk_cell BK197.out 0).trans rfl, (blk_cell BK197.out 1).trans rfl, (blk_cell BK197.out 2).trans rfl, (blk_cell BK197.out 3).trans rfl, (blk_cell BK197.out 4).trans rfl, (blk_cell BK202.out 0).trans rfl, (blk_cell BK202.out 1).trans rfl⟩ (fun hHeld => ?_)
                      clear hK K
                      refine norm_ (a' := ?_) ?_ ?_
                      rotate_left
                      · show Act.put _ (some 33) _ = _
                        simp only [Act.put, List.setIfInBounds_toArray, List.set_cons_zero, List.set_cons_succ, i64_w, i32_w]
                        rfl
                      refine one_ (i := 5) (N := some 35) #[true, true, true, true, true, true, false, false, false] rfl rfl (one_of HT_.out (by kernel_rfl)) (by decide) (fun K hK => ?_)
                      refine Kd.R_lit_step k35 _ 35 ?hg (N := 35) ?hd (xs := ([(⟨(rd_T35 l0_4 x5_1).f0, (rd_T35 l0_4 x5_1).f1⟩ : S35)] : List (S35))) (inner := [.int .u8 ((rd_T35 l0_4 x5_1).f0), .string ((rd_T35 l0_4 x5_1).f1)]) (ok := fun _ => True) (okp := fun _ => True) ?hr ?hp (fun _ hk => hk) trivial (Below.refl _ _) (Nat.le_refl _) (by simp) ?_; (case hd => rfl); (case hg => rfl); (case hr => first | (go_simp; done) | (go_simp; rfl)); (case hp => exact (Reps.c2 (show Kd.M k35 _ _ _ (⟨(rd_T35 l0_4 x5_1).f0, (rd_T35 l0_4 x5_1).f1⟩ : S35) [.int .u8 ((rd_T35 l0_4 x5_1).f0), .string ((rd_T35 l0_4 x5_1).f1)] from (k35_mkM _ _ _ (⟨(rd_T35 l0_4 x5_1).f0, (rd_T35 l0_4 x5_1).f1⟩ : S35) )) (Reps.none _ _)))
                      intro v219 w59 ho60 hb hg_ hnew_
                      clear hg_ hnew_
                      (first | rw [← Ny218.out] at ho60 | (simp only [Int.reduceToNat] at ho60; rw [← Ny218.out] at ho60))
                      have n0_ := Aside0.mk (Kd.R_elder' (by (with_reducible repeat (first | apply Kd.R_alloc | apply Kd.R_drewN | apply Kd.R_drew)); exact HO_4.out) (Kd.R_base ho60) hb)
                      have n1_ := Aside0.mk (Kd.R_elder' (by (with_reducible repeat (first | apply Kd.R_alloc | apply Kd.R_drewN | apply Kd.R_drew)); exact HO217.out) (Kd.R_base ho60) hb)
                      have n2_ := Aside0.mk (Kd.R_lower (Kd.R_newB (Kd.R_new' (Kd.R_new' ho60 (Kd.R_lt (by (with_reducible repeat (first | apply Kd.R_alloc | apply Kd.R_drewN | apply Kd.R_drew)); exact HO_4.out))) (Kd.R_lt (by (with_reducible repeat (first | apply Kd.R_alloc | apply Kd.R_drewN | apply Kd.R_drew)); exact HO217.out))) (g := gb202) (o := .cells #[.int .u8 ((rd_T35 l0_4 x5_1).f0), .string ((rd_T35 l0_4 x5_1).f1)] 35 (0, 0)) (by (with_reducible repeat (first | refine blk_drewN ?_ _ | refine blk_drew ?_ | refine blk_alloc ?_ _)); exact BK202.out)) (below_size (by repeat (first | (with_reducible first | exact HB.out | apply below_alloc | apply pw_below_drewN | apply below_drew1 | refine below_set ?_ GE195.out | refine below_set ?_ GE196.out | refine below_set ?_ GE197.out | refine below_set ?_ GE202.out) | exact HB.out))))
                      have n3_ := Aside0.mk (blk_below (g := gb195) (o := .cells #[.int .i64 a0_0, .int .i64 a0_1, .int .i64 a0_2, .int .i64 a0_3, .slice (some ad201) l0_4.length c0_4] 24 (0, 0)) (by (with_reducible repeat (first | refine blk_drewN ?_ _ | refine blk_drew ?_ | refine blk_alloc ?_ _)); exact BK195.out) hb)
                      have n4_ := Aside0.mk (blk_below (g := gb196) (o := .cells #[.int .i64 0, .int .i64 0, .int .i64 0, .int .i64 0, .slice none 0 0] 24 (0, 0)) (by (with_reducible repeat (first | refine blk_drewN ?_ _ | refine blk_drew ?_ | refine blk_alloc ?_ _)); exact BK196.out) hb)
                      have n5_ := Aside0.mk (blk_below (g := gb197) (o := .cells #[.int .i64 a0_2, .int .i64 a0_3, .int .i64 a0_0, .int .i64 a0_1, .slice Ao54 x198004_1.length co54] 24 (0, 0)) (by (with_reducible repeat (first | refine blk_drewN ?_ _ | refine blk_drew ?_ | refine blk_alloc ?_ _)); exact BK197.out) hb)
                      have n6_ := Aside0.mk (blk_below (g := gb202) (o := .cells #[.int .u8 ((rd_T35 l0_4 x5_1).f0), .string ((rd_T35 l0_4 x5_1).f1)] 35 (0, 0)) (by (with_reducible repeat (first | refine blk_drewN ?_ _ | refine blk_drew ?_ | refine blk_alloc ?_ _)); exact BK202.out) hb)
                      have n7_ := Aside0.mk (below_step (by repeat (first | (with_reducible first | exact HB.out | apply below_alloc | apply pw_below_drewN | apply below_drew1 | refine below_set ?_ GE195.out | refine below_set ?_ GE196.out | refine below_set ?_ GE197.out | refine below_set ?_ GE202.out) | exact HB.out)) hb)
                      clear HO_4
                      clear HO217
                      clear BK195
                      clear BK196
                      clear BK197
                      clear BK202
                      clear HB
                      have HO_4 := n0_
                      have HO217 := n1_
                      have HO220 := n2_
                      have BK195 := n3_
                      have BK196 := n4_
                      have BK197 := n5_
                      have BK202 := n6_
                      have HB := n7_
                      clear n0_ n1_ n2_ n3_ n4_ n5_ n6_ n7_
                      clear hb ho60
                      refine hK.out _ _ ⟨(blk_cell BK197.out 0).trans rfl, (blk_cell BK197.out 1).trans rfl, (blk_cell BK197.out 2).trans rfl, (blk_cell BK197.out 3).trans rfl, (blk_cell BK197.out 4).trans rfl, (blk_cell BK202.out 0).trans rfl, (blk_cell BK202.out 1).trans rfl⟩ (fun hHeld => ?_)
                      clear hK K
                      refine norm_ (a' := ?_) ?_ ?_
                      rotate_left
                      · show Act.put _ (some 35) _ = _
                        simp only [Act.put, List.setIfInBounds_toArray, List.set_cons_zero, List.set_cons_succ, i64_w, i32_w]
                        rfl
                      exact norm_ (by simp only [putAll, Act.put, List.setIfInBounds_toArray, List.set_cons_zero, List.set_cons_succ]) (hCont (v216, v219) _ ⟨hHeld, (by (with_reducible repeat (first | apply Kd.R_alloc | apply Kd.R_drewN | apply Kd.R_drew)); exact Kd.R_mono HO217.out (fun _ hk => ⟨hk.2, ⟨hk.1.1, hk.1.2⟩⟩)), (by (with_reducible repeat (first | apply Kd.R_alloc | apply Kd.R_drewN | apply Kd.R_drew)); exact Kd.R_mono HO220.out (fun _ hk => ⟨hk.1.2, ⟨hk.1.1.2, hk.2⟩⟩)), (by (with_reducible repeat (first | apply Kd.R_alloc | apply Kd.R_drewN | apply Kd.R_drew)); exact Kd.R_mono HO_4.out (fun _ hk => ⟨hk.1.2, ⟨hk.2, hk.1.1⟩⟩)), (by (with_reducible repeat (first | refine blk_drewN ?_ _ | refine blk_drew ?_ | refine blk_alloc ?_ _)); exact BK195.out), (by (with_reducible repeat (first | refine blk_drewN ?_ _ | refine blk_drew ?_ | refine blk_alloc ?_ _)); exact BK196.out), (by (with_reducible repeat (first | refine blk_drewN ?_ _ | refine blk_drew ?_ | refine blk_alloc ?_ _)); exact BK197.out), (by (with_reducible repeat (first | refine blk_drewN ?_ _ | refine blk_drew ?_ | refine blk_alloc ?_ _)); exact BK202.out), (by repeat (first | (with_reducible first | exact HB.out | apply below_alloc | apply pw_below_drewN | apply below_drew1 | refine below_set ?_ GE195.out | refine below_set ?_ GE196.out | refine below_set ?_ GE197.out | refine below_set ?_ GE202.out) | exact HB.out))⟩)
                    · skip
                      refine Kd.R_lit_step k35 _ 35 ?hg (N := 35) ?hd (xs := ([(⟨(rd_T35 l0_4 x5_1).f0, (rd_T35 l0_4 x5_1).f1⟩ : S35)] : List (S35))) (inner := [.int .u8 ((rd_T35 l0_4 x5_1).f0), .string ((rd_T35 l0_4 x5_1).f1)]) (ok := fun _ => True) (okp := fun _ => True) ?hr ?hp (fun _ hk => hk) trivial (Below.refl _ _) (Nat.le_refl _) (by simp) ?_; (case hd => rfl); (case hg => rfl); (case hr => first | (go_simp; done) | (go_simp; rfl)); (case hp => exact (Reps.c2 (show Kd.M k35 _ _ _ (⟨(rd_T35 l0_4 x5_1).f0, (rd_T35 l0_4 x5_1).f1⟩ : S35) [.int .u8 ((rd_T35 l0_4 x5_1).f0), .string ((rd_T35 l0_4 x5_1).f1)] from (k35_mkM _ _ _ (⟨(rd_T35 l0_4 x5_1).f0, (rd_T35 l0_4 x5_1).f1⟩ : S35) )) (Reps.none _ _)))
                      intro v219 w58 ho59 hb hg_ hnew_
                      clear hg_ hnew_
                      (first | rw [← Ny218.out] at ho59 | (simp only [Int.reduceToNat] at ho59; rw [← Ny218.out] at ho59))
                      have n0_ := Aside0.mk (Kd.R_elder' (by (with_reducible repeat (first | apply Kd.R_alloc | apply Kd.R_drewN | apply Kd.R_drew)); exact HO_4.out) (Kd.R_base ho59) hb)
                      have n1_ := Aside0.mk (Kd.R_elder' (by (with_reducible repeat (first | apply Kd.R_alloc | apply Kd.R_drewN | apply Kd.R_drew)); exact HO_198004.out) (Kd.R_base ho59) hb)
                      have n2_ := Aside0.mk (Kd.R_lower (Kd.R_newB (Kd.R_new' (Kd.R_new' ho59 (Kd.R_lt (by (with_reducible repeat (first | apply Kd.R_alloc | apply Kd.R_drewN | apply Kd.R_drew)); exact HO_4.out))) (Kd.R_lt (by (with_reducible repeat (first | apply Kd.R_alloc | apply Kd.R_drewN | apply Kd.R_drew)); exact HO_198004.out))) (g := gb202) (o := .cells #[.int .u8 ((rd_T35 l0_4 x5_1).f0), .string ((rd_T35 l0_4 x5_1).f1)] 35 (0, 0)) (by (with_reducible repeat (first | refine blk_drewN ?_ _ | refine blk_drew ?_ | refine blk_alloc ?_ _)); exact BK202.out)) (below_size (by repeat (first | (with_reducible first | exact HB.out | apply below_alloc | apply pw_below_drewN | apply below_drew1 | refine below_set ?_ GE195.out | refine below_set ?_ GE196.out | refine below_set ?_ GE197.out | refine below_set ?_ GE202.out) | exact HB.out))))
                      have n3_ := Aside0.mk (blk_below (g := gb195) (o := .cells #[.int .i64 a0_0, .int .i64 a0_1, .int .i64 a0_2, .int .i64 a0_3, .slice (some ad201) l0_4.length c0_4] 24 (0, 0)) (by (with_reducible repeat (first | refine blk_drewN ?_ _ | refine blk_drew ?_ | refine blk_alloc ?_ _)); exact BK195.out) hb)
                      have n4_ := Aside0.mk (blk_below (g := gb196) (o := .cells #[.int .i64 0, .int .i64 0, .int .i64 0, .int .i64 0, .slice none 0 0] 24 (0, 0)) (by (with_reducible repeat (first | refine blk_drewN ?_ _ | refine blk_drew ?_ | refine blk_alloc ?_ _)); exact BK196.out) hb)
                      have n5_ := Aside0.mk (blk_below (g := gb197) (o := .cells #[.int .i64 a0_2, .int .i64 a0_3, .int .i64 a0_0, .int .i64 a0_1, .slice Ao54 x198004_1.length co54] 24 (0, 0)) (by (with_reducible repeat (first | refine blk_drewN ?_ _ | refine blk_drew ?_ | refine blk_alloc ?_ _)); exact BK197.out) hb)
                      have n6_ := Aside0.mk (blk_below (g := gb202) (o := .cells #[.int .u8 ((rd_T35 l0_4 x5_1).f0), .string ((rd_T35 l0_4 x5_1).f1)] 35 (0, 0)) (by (with_reducible repeat (first | refine blk_drewN ?_ _ | refine blk_drew ?_ | refine blk_alloc ?_ _)); exact BK202.out) hb)
                      have n7_ := Aside0.mk (below_step (by repeat (first | (with_reducible first | exact HB.out | apply below_alloc | apply pw_below_drewN | apply below_drew1 | refine below_set ?_ GE195.out | refine below_set ?_ GE196.out | refine below_set ?_ GE197.out | refine below_set ?_ GE202.out) | exact HB.out)) hb)
                      clear HO_4
                      clear HO_198004
                      clear BK195
                      clear BK196
                      clear BK197
                      clear BK202
                      clear HB
                      have HO_4 := n0_
                      have HO_198004 := n1_
                      have HO220 := n2_
                      have BK195 := n3_
                      have BK196 := n4_
                      have BK197 := n5_
                      have BK202 := n6_
                      have HB := n7_
                      clear n0_ n1_ n2_ n3_ n4_ n5_ n6_ n7_
                      clear hb ho59
                      refine hK.out _ _ ⟨(blk_cell BK197.out 0).trans rfl, (blk_cell BK197.out 1).trans rfl, (blk_cell BK197.out 2).trans rfl, (blk_cell BK197.out 3).trans rfl, (blk_cell BK197.out 4).trans rfl, (blk_cell BK202.out 0).trans rfl, (blk_cell BK202.out 1).trans rfl⟩ (fun hHeld => ?_)
                      clear hK K
                      refine norm_ (a' := ?_) ?_ ?_
                      rotate_left
                      · show Act.put _ (some 35) _ = _
                        simp only [Act.put, List.setIfInBounds_toArray, List.set_cons_zero, List.set_cons_succ, i64_w, i32_w]
                        rfl
                      refine one_ (i := 3) (N := some 33) #[true, true, true, true, true, true, false, false, false] rfl rfl (one_of HT_.out (by kernel_rfl)) (by decide) (fun K hK => ?_)
                      refine Kd.R_append_rows_step k35 (w0 := w) w.heap.size (by rfl) (.tmp 31) (.tmp 32) 22 35 (.agg #[(.int .u8 0), (.string ⟨#[]⟩)]) 24 rfl Try.underlying22 info35 rfl (by decide) (by omega) (.slice Ao54 x198004_1.length co54) x198004_1 x4_1 _ _ _ (fun k_ => some k_ ≠ (.slice Ao55 x4_1.length co55 : Value).ownBlock ∧ some k_ ≠ (v219 : Value).ownBlock ∧ k_ ≠ gb202) (fun _ => False) rfl rfl ?aO ?aR (fun _ _ h => h) (fun _ h => h.elim) ?aF ?aB ?aS ?aL ?_
                      (case aR => repeat (first | exact (Kd.R_reads' HO_4.out).2.2 | (with_reducible refine Kd.C_alloc ?_ _) | (with_reducible refine Kd.C_drewN ?_ _) | (with_reducible refine Kd.C_drew ?_)))
                      (case aB => exact (by repeat (first | (with_reducible first | exact HB.out | apply below_alloc | apply pw_below_drewN | apply below_drew1 | refine below_set ?_ GE195.out | refine below_set ?_ GE196.out | refine below_set ?_ GE197.out | refine below_set ?_ GE202.out) | exact HB.out)))
                      (case aF => exact (fun k_ hk => ⟨Kd.fresh' (Kd.R_lt (by (with_reducible repeat (first | apply Kd.R_alloc | apply Kd.R_drewN | apply Kd.R_drew)); exact HO_4.out)) k_ hk, Kd.fresh' (Kd.R_lt (by (with_reducible repeat (first | apply Kd.R_alloc | apply Kd.R_drewN | apply Kd.R_drew)); exact HO220.out)) k_ hk, Kd.freshB (g := gb202) (o := .cells #[.int .u8 ((rd_T35 l0_4 x5_1).f0), .string ((rd_T35 l0_4 x5_1).f1)] 35 (0, 0)) (by (with_reducible repeat (first | refine blk_drewN ?_ _ | refine blk_drew ?_ | refine blk_alloc ?_ _)); exact BK202.out) k_ hk⟩))
                      (case aO => exact (by (with_reducible repeat (first | apply Kd.R_alloc | apply Kd.R_drewN | apply Kd.R_drew)); exact Kd.R_mono HO_198004.out (fun _ hk => ⟨hk.1.1, ⟨hk.2, hk.1.2⟩⟩)))
                      (case aS => exact (below_size (by repeat (first | (with_reducible first | exact HB.out | apply below_alloc | apply pw_below_drewN | apply below_drew1 | refine below_set ?_ GE195.out | refine below_set ?_ GE196.out | refine below_set ?_ GE197.out | refine below_set ?_ GE202.out) | exact HB.out))))
                      (case aL => have := LMc44.out; omega)
                      intro v216 w60 ho hb hg hat
                      rw [← Ny215.out] at ho
                      have n0_ := Aside0.mk (Kd.R_after (ok := (fun k_ => some k_ ≠ (v219 : Value).ownBlock ∧ k_ ≠ gb202)) (by (with_reducible repeat (first | apply Kd.R_alloc | apply Kd.R_drewN | apply Kd.R_drew)); exact Kd.R_mono HO_4.out (fun _ hk => ⟨⟨hk.2, hk.1.2⟩, hk.1.1⟩)) hg hat)
                      have n1_ := Aside0.mk (blk_grown (g := gb195) (o := .cells #[.int .i64 a0_0, .int .i64 a0_1, .int .i64 a0_2, .int .i64 a0_3, .slice (some ad201) l0_4.length c0_4] 24 (0, 0)) (by (with_reducible repeat (first | refine blk_drewN ?_ _ | refine blk_drew ?_ | refine blk_alloc ?_ _)); exact BK195.out) hg (Kd.R_ne HO_198004.out BK195.out (by decide)))
                      have n2_ := Aside0.mk (blk_grown (g := gb196) (o := .cells #[.int .i64 0, .int .i64 0, .int .i64 0, .int .i64 0, .slice none 0 0] 24 (0, 0)) (by (with_reducible repeat (first | refine blk_drewN ?_ _ | refine blk_drew ?_ | refine blk_alloc ?_ _)); exact BK196.out) hg (Kd.R_ne HO_198004.out BK196.out (by decide)))
                      have n3_ := Aside0.mk (blk_grown (g := gb197) (o := .cells #[.int .i64 a0_2, .int .i64 a0_3, .int .i64 a0_0, .int .i64 a0_1, .slice Ao54 x198004_1.length co54] 24 (0, 0)) (by (with_reducible repeat (first | refine blk_drewN ?_ _ | refine blk_drew ?_ | refine blk_alloc ?_ _)); exact BK197.out) hg (Kd.R_ne HO_198004.out BK197.out (by decide)))
                      have n4_ := Aside0.mk (blk_grown (g := gb202) (o := .cells #[.int .u8 ((rd_T35 l0_4 x5_1).f0), .string ((rd_T35 l0_4 x5_1).f1)] 35 (0, 0)) (by (with_reducible repeat (first | refine blk_drewN ?_ _ | refine blk_drew ?_ | refine blk_alloc ?_ _)); exact BK202.out) hg (Kd.R_away HO_198004.out (fun _ hk => hk.1.2)))
                      have n5_ := Aside0.mk (Kd.R_after (ok := (fun k_ => some k_ ≠ (.slice Ao55 x4_1.length co55 : Value).ownBlock ∧ k_ ≠ gb202)) (by (with_reducible repeat (first | apply Kd.R_alloc | apply Kd.R_drewN | apply Kd.R_drew)); exact Kd.R_mono HO220.out (fun _ hk => ⟨⟨hk.1.1.2, hk.2⟩, hk.1.2⟩)) hg hat)
                      have n6_ := Aside0.mk (hb)
                      have n7_ := Aside0.mk (ho)
                      clear HO_4
                      clear BK195
                      clear BK196
                      clear BK197
                      clear BK202
                      clear HO220
                      clear HB
                      clear HO_198004
                      have HO_4 := n0_
                      have BK195 := n1_
                      have BK196 := n2_
                      have BK197 := n3_
                      have BK202 := n4_
                      have HO220 := n5_
                      have HB := n6_
                      have HO217 := n7_
                      clear n0_ n1_ n2_ n3_ n4_ n5_ n6_ n7_
                      clear ho hb hg hat
                      refine hK.out _ _ ⟨(blk_cell BK197.out 0).trans rfl, (blk_cell BK197.out 1).trans rfl, (blk_cell BK197.out 2).trans rfl, (blk_cell BK197.out 3).trans rfl, (blk_cell BK197.out 4).trans rfl, (blk_cell BK202.out 0).trans rfl, (blk_cell BK202.out 1).trans rfl⟩ (fun hHeld => ?_)
                      clear hK K
                      refine norm_ (a' := ?_) ?_ ?_
                      rotate_left
                      · show Act.put _ (some 33) _ = _
                        simp only [Act.put, List.setIfInBounds_toArray, List.set_cons_zero, List.set_cons_succ, i64_w, i32_w]
                        rfl
                      exact norm_ (by simp only [putAll, Act.put, List.setIfInBounds_toArray, List.set_cons_zero, List.set_cons_succ]) (hCont (v216, v219) _ ⟨hHeld, (by (with_reducible repeat (first | apply Kd.R_alloc | apply Kd.R_drewN | apply Kd.R_drew)); exact Kd.R_mono HO217.out (fun _ hk => ⟨hk.2.1, ⟨hk.1, hk.2.2⟩⟩)), (by (with_reducible repeat (first | apply Kd.R_alloc | apply Kd.R_drewN | apply Kd.R_drew)); exact Kd.R_mono HO220.out (fun _ hk => ⟨hk.2, ⟨hk.1.1, hk.1.2⟩⟩)), (by (with_reducible repeat (first | apply Kd.R_alloc | apply Kd.R_drewN | apply Kd.R_drew)); exact Kd.R_mono HO_4.out (fun _ hk => ⟨hk.2, ⟨hk.1.1, hk.1.2⟩⟩)), (by (with_reducible repeat (first | refine blk_drewN ?_ _ | refine blk_drew ?_ | refine blk_alloc ?_ _)); exact BK195.out), (by (with_reducible repeat (first | refine blk_drewN ?_ _ | refine blk_drew ?_ | refine blk_alloc ?_ _)); exact BK196.out), (by (with_reducible repeat (first | refine blk_drewN ?_ _ | refine blk_drew ?_ | refine blk_alloc ?_ _)); exact BK197.out), (by (with_reducible repeat (first | refine blk_drewN ?_ _ | refine blk_drew ?_ | refine blk_alloc ?_ _)); exact BK202.out), (by repeat (first | (with_reducible first | exact HB.out | apply below_alloc | apply pw_below_drewN | apply below_drew1 | refine below_set ?_ GE195.out | refine below_set ?_ GE196.out | refine below_set ?_ GE197.out | refine below_set ?_ GE202.out) | exact HB.out))⟩)
                  rintro ⟨v216, v219⟩ w61 ⟨hS_, h0_, h1_, h2_, h3_, h4_, h5_, h6_, h7_⟩
                  have n0_ : Aside0 (Kd.R k35 35 w61 w.heap.size (fun k_ => some k_ ≠ (v219 : Value).ownBlock ∧ some k_ ≠ (.slice Ao55 x4_1.length co55 : Value).ownBlock ∧ k_ ≠ gb202) v216 y215) := ⟨h0_⟩
                  have n1_ : Aside0 (Kd.R k35 35 w61 w.heap.size (fun k_ => some k_ ≠ (v216 : Value).ownBlock ∧ some k_ ≠ (.slice Ao55 x4_1.length co55 : Value).ownBlock ∧ k_ ≠ gb202) v219 y218) := ⟨h1_⟩
                  have n2_ : Aside0 (Kd.R k35 35 w61 w.heap.size (fun k_ => some k_ ≠ (v216 : Value).ownBlock ∧ some k_ ≠ (v219 : Value).ownBlock ∧ k_ ≠ gb202) (.slice Ao55 x4_1.length co55) x4_1) := ⟨h2_⟩
                  have n3_ : Aside0 (w61.heap[gb195]? = some (.cells #[.int .i64 a0_0, .int .i64 a0_1, .int .i64 a0_2, .int .i64 a0_3, .slice (some ad201) l0_4.length c0_4] 24 (0, 0))) := ⟨h3_⟩
                  have n4_ : Aside0 (w61.heap[gb196]? = some (.cells #[.int .i64 0, .int .i64 0, .int .i64 0, .int .i64 0, .slice none 0 0] 24 (0, 0))) := ⟨h4_⟩
                  have n5_ : Aside0 (w61.heap[gb197]? = some (.cells #[.int .i64 a0_2, .int .i64 a0_3, .int .i64 a0_0, .int .i64 a0_1, .slice Ao54 x198004_1.length co54] 24 (0, 0))) := ⟨h5_⟩
                  have n6_ : Aside0 (w61.heap[gb202]? = some (.cells #[.int .u8 ((rd_T35 l0_4 x5_1).f0), .string ((rd_T35 l0_4 x5_1).f1)] 35 (0, 0))) := ⟨h6_⟩
                  have n7_ : Aside0 (Below w.heap.size w w61) := ⟨h7_⟩
                  clear HO_4
                  clear HO_198004
                  clear BK195
                  clear BK196
                  clear BK197
                  clear BK202
                  clear HB
                  clear h0_ h1_ h2_ h3_ h4_ h5_ h6_ h7_
                  have HO217 := n0_
                  have HO220 := n1_
                  have HO_4 := n2_
                  have BK195 := n3_
                  have BK196 := n4_
                  have BK197 := n5_
                  have BK202 := n6_
                  have HB := n7_
                  clear n0_ n1_ n2_ n3_ n4_ n5_ n6_ n7_
                  have hHeld : w61.cell? ⟨gb197, 0, none⟩ = some (.int .i64 a0_2) ∧ w61.cell? ⟨gb197, 1, none⟩ = some (.int .i64 a0_3) ∧ w61.cell? ⟨gb197, 2, none⟩ = some (.int .i64 a0_0) ∧ w61.cell? ⟨gb197, 3, none⟩ = some (.int .i64 a0_1) ∧ w61.cell? ⟨gb197, 4, none⟩ = some (.slice Ao54 x198004_1.length co54) ∧ w61.cell? ⟨gb202, 0, none⟩ = some (.int .u8 ((rd_T35 l0_4 x5_1).f0)) ∧ w61.cell? ⟨gb202, 1, none⟩ = some (.string ((rd_T35 l0_4 x5_1).f1)) := hS_
                  obtain ⟨Ao63, co63, eo63⟩ := Kd.R_slice HO220.out
                  (first | subst eo63 | (injection eo63 with f1_ f2_ f3_; have f4_ := f1_.symm; have f5_ := f3_.symm; clear f1_ f2_ f3_; subst f4_; subst f5_))
                  refine norm_ (a' := ?_) ?_ ?_
                  rotate_left
                  · simp only [putAll, Act.put, List.setIfInBounds_toArray, List.set_cons_zero, List.set_cons_succ]
                    rfl
                  refine one_ (i := 6) (N := some 36) #[true, true, true, true, true, true, true, false, false] rfl rfl (one_of HT_.out (by kernel_rfl)) (by decide) (fun K hK => ?_)
                  refine Kd.R_append_rows_step k35 (w0 := w) w.heap.size (by rfl) (.tmp 33) (.tmp 35) 22 35 (.agg #[(.int .u8 0), (.string ⟨#[]⟩)]) 24 rfl Try.underlying22 info35 rfl (by decide) (by omega) v216 y215 y218 _ _ _ (fun k_ => some k_ ≠ (.slice Ao55 x4_1.length co55 : Value).ownBlock ∧ some k_ ≠ (.slice Ao63 y218.length co63 : Value).ownBlock ∧ k_ ≠ gb202) (fun _ => False) rfl rfl ?aO ?aR (fun _ _ h => h) (fun _ h => h.elim) ?aF ?aB ?aS ?aL ?_
                  (case aR => repeat (first | exact (Kd.R_reads' HO220.out).2.2 | (with_reducible refine Kd.C_alloc ?_ _) | (with_reducible refine Kd.C_drewN ?_ _) | (with_reducible refine Kd.C_drew ?_)))
                  (case aB => exact (by repeat (first | (with_reducible first | exact HB.out | apply below_alloc | apply pw_below_drewN | apply below_drew1 | refine below_set ?_ GE195.out | refine below_set ?_ GE196.out | refine below_set ?_ GE197.out | refine below_set ?_ GE202.out) | exact HB.out)))
                  (case aF => exact (fun k_ hk => ⟨Kd.fresh' (Kd.R_lt (by (with_reducible repeat (first | apply Kd.R_alloc | apply Kd.R_drewN | apply Kd.R_drew)); exact HO_4.out)) k_ hk, Kd.fresh' (Kd.R_lt (by (with_reducible repeat (first | apply Kd.R_alloc | apply Kd.R_drewN | apply Kd.R_drew)); exact HO220.out)) k_ hk, Kd.freshB (g := gb202) (o := .cells #[.int .u8 ((rd_T35 l0_4 x5_1).f0), .string ((rd_T35 l0_4 x5_1).f1)] 35 (0, 0)) (by (with_reducible repeat (first | refine blk_drewN ?_ _ | refine blk_drew ?_ | refine blk_alloc ?_ _)); exact BK202.out) k_ hk⟩))
                  (case aO => exact (by (with_reducible repeat (first | apply Kd.R_alloc | apply Kd.R_drewN | apply Kd.R_drew)); exact Kd.R_mono HO217.out (fun _ hk => ⟨hk.2.1, ⟨hk.1, hk.2.2⟩⟩)))
                  (case aS => exact (below_size (by repeat (first | (with_reducible first | exact HB.out | apply below_alloc | apply pw_below_drewN | apply below_drew1 | refine below_set ?_ GE195.out | refine below_set ?_ GE196.out | refine below_set ?_ GE197.out | refine below_set ?_ GE202.out) | exact HB.out))))
                  (case aL => have := LMc45.out; omega)
                  intro v222 w62 ho hb hg hat
                  rw [← Ny221.out] at ho
                  have n0_ := Aside0.mk (Kd.R_after (ok := (fun k_ => some k_ ≠ (.slice Ao63 y218.length co63 : Value).ownBlock ∧ k_ ≠ gb202)) (by (with_reducible repeat (first | apply Kd.R_alloc | apply Kd.R_drewN | apply Kd.R_drew)); exact Kd.R_mono HO_4.out (fun _ hk => ⟨⟨hk.2.1, hk.2.2⟩, hk.1⟩)) hg hat)
                  have n1_ := Aside0.mk (blk_grown (g := gb195) (o := .cells #[.int .i64 a0_0, .int .i64 a0_1, .int .i64 a0_2, .int .i64 a0_3, .slice (some ad201) l0_4.length c0_4] 24 (0, 0)) (by (with_reducible repeat (first | refine blk_drewN ?_ _ | refine blk_drew ?_ | refine blk_alloc ?_ _)); exact BK195.out) hg (Kd.R_ne HO217.out BK195.out (by decide)))
                  have n2_ := Aside0.mk (blk_grown (g := gb196) (o := .cells #[.int .i64 0, .int .i64 0, .int .i64 0, .int .i64 0, .slice none 0 0] 24 (0, 0)) (by (with_reducible repeat (first | refine blk_drewN ?_ _ | refine blk_drew ?_ | refine blk_alloc ?_ _)); exact BK196.out) hg (Kd.R_ne HO217.out BK196.out (by decide)))
                  have n3_ := Aside0.mk (blk_grown (g := gb197) (o := .cells #[.int .i64 a0_2, .int .i64 a0_3, .int .i64 a0_0, .int .i64 a0_1, .slice Ao54 x198004_1.length co54] 24 (0, 0)) (by (with_reducible repeat (first | refine blk_drewN ?_ _ | refine blk_drew ?_ | refine blk_alloc ?_ _)); exact BK197.out) hg (Kd.R_ne HO217.out BK197.out (by decide)))
                  have n4_ := Aside0.mk (blk_grown (g := gb202) (o := .cells #[.int .u8 ((rd_T35 l0_4 x5_1).f0), .string ((rd_T35 l0_4 x5_1).f1)] 35 (0, 0)) (by (with_reducible repeat (first | refine blk_drewN ?_ _ | refine blk_drew ?_ | refine blk_alloc ?_ _)); exact BK202.out) hg (Kd.R_away HO217.out (fun _ hk => hk.2.2)))
                  have n5_ := Aside0.mk (Kd.R_after (ok := (fun k_ => some k_ ≠ (.slice Ao55 x4_1.length co55 : Value).ownBlock ∧ k_ ≠ gb202)) (by (with_reducible repeat (first | apply Kd.R_alloc | apply Kd.R_drewN | apply Kd.R_drew)); exact Kd.R_mono HO220.out (fun _ hk => ⟨⟨hk.2.1, hk.2.2⟩, hk.1⟩)) hg hat)
                  have n6_ := Aside0.mk (hb)
                  have n7_ := Aside0.mk (ho)
                  clear HO_4
                  clear BK195
                  clear BK196
                  clear BK197
                  clear BK202
                  clear HO220
                  clear HB
                  clear HO217
                  have HO_4 := n0_
                  have BK195 := n1_
                  have BK196 := n2_
                  have BK197 := n3_
                  have BK202 := n4_
                  have HO220 := n5_
                  have HB := n6_
                  have HO223 := n7_
                  clear n0_ n1_ n2_ n3_ n4_ n5_ n6_ n7_
                  clear ho hb hg hat
                  obtain ⟨Ao64, co64, eo64⟩ := Kd.R_slice HO223.out
                  (first | subst eo64 | (injection eo64 with f1_ f2_ f3_; have f4_ := f1_.symm; have f5_ := f3_.symm; clear f1_ f2_ f3_; subst f4_; subst f5_))
                  refine hK.out _ _ ⟨(blk_cell BK197.out 0).trans rfl, (blk_cell BK197.out 1).trans rfl, (blk_cell BK197.out 2).trans rfl, (blk_cell BK197.out 3).trans rfl, (blk_cell BK197.out 4).trans rfl, (blk_cell BK202.out 0).trans rfl, (blk_cell BK202.out 1).trans rfl⟩ (fun hHeld => ?_)
                  clear hK K
                  refine norm_ (a' := ?_) ?_ ?_
                  rotate_left
                  · show Act.put _ (some 36) _ = _
                    simp only [Act.put, List.setIfInBounds_toArray, List.set_cons_zero, List.set_cons_succ, i64_w, i32_w]
                    rfl
                  refine pure_ (i := 7) (N := some 37) (v := ?_) (a' := ?_) #[true, true, true, true, true, true, true, true, false] rfl rfl (any_of HT_.out (by kernel_rfl)) (fun _ _ _ h => h) (Or.inl ⟨by rfl, ?_⟩) ?_ ?_
                  rotate_left
                  · intro w'
                    go_simp
                    with_reducible rfl
                  rotate_left
                  · simp only [Act.put, List.setIfInBounds_toArray, List.set_cons_zero, List.set_cons_succ, i64_w, i32_w]
                    rfl
                  refine last_ (i := 8) (N := none) #[true, true, true, true, true, true, true, true, true] rfl rfl (one_of HT_.out (by kernel_rfl)) (by decide) (fun K hK => ?_)
                  have hs65 : w62.cell? ⟨gb197, 4, none⟩ = some (.slice Ao54 x198004_1.length co54) := (blk_cell BK197.out 4).trans rfl
                  have hfs65 := blk_frozen BK197.out 4
                  have hns65_0 := NB195_197.out
                  have hns65_1 := NB196_197.out
                  have hns65_3 := NB202_197.out
                  have hms65_0 := NB197_195.out
                  have hms65_1 := NB197_196.out
                  have hms65_3 := NB197_202.out
                  refine skip_ (w1 := ?_) (by rfl) rfl ?_ ?_
                  rotate_left
                  · go_simp
                    rfl
                  refine hK.out _ _ ?_
                  clear hK K
                  refine done_ (done_of HT_.out (by kernel_rfl)) ?_
                  try go_wp2
                  go_roundg k1
                  case measure => have := HK1.out; omega
                  case rel => exact ⟨(([] : List (S35))), (wrap64 (x5_1 + 1)), (y221), (.slice Ao64 y221.length co64), (by first | rfl | (simp; done) | (simp [*]; done)), H', ⟨by have := HK1.out; omega⟩, ⟨by first | exact Kd.R_nil _ _ _ _ _ | exact Kd.N_nil _ _ _ _ _ | exact Kd.V_nil _ _ _ _ _ | exact Kd.Q_nil _ _ _ _ _ | exact Kd.S_nil _ _ _ _ _⟩, ⟨by (with_reducible repeat (first | apply Kd.R_alloc | apply Kd.R_drewN | apply Kd.R_drew)); exact Kd.R_mono (Kd.R_far (p := ⟨gb197, 4, none⟩) (Kd.R_types HO223.out BK197.out (by decide)) (fun _ hk => hk.2) (.slice Ao64 y221.length co64)) (fun _ hk => (by simp [Value.ownBlock]))⟩, ⟨by (with_reducible repeat (first | refine blk_drewN ?_ _ | refine blk_drew ?_ | refine blk_alloc ?_ _)); refine blk_far ?_ NB195_197.out _; (with_reducible repeat (first | refine blk_drewN ?_ _ | refine blk_drew ?_ | refine blk_alloc ?_ _)); exact BK195.out⟩, ⟨by (with_reducible repeat (first | refine blk_drewN ?_ _ | refine blk_drew ?_ | refine blk_alloc ?_ _)); refine blk_far ?_ NB196_197.out _; (with_reducible repeat (first | refine blk_drewN ?_ _ | refine blk_drew ?_ | refine blk_alloc ?_ _)); exact BK196.out⟩, ⟨by (with_reducible repeat (first | refine blk_drewN ?_ _ | refine blk_drew ?_ | refine blk_alloc ?_ _)); refine blk_put (cs := #[.int .i64 a0_2, .int .i64 a0_3, .int .i64 a0_0, .int .i64 a0_1, .slice Ao54 x198004_1.length co54]) ?_ 4 _ rfl; (with_reducible repeat (first | refine blk_drewN ?_ _ | refine blk_drew ?_ | refine blk_alloc ?_ _)); exact BK197.out⟩, ⟨by repeat (first | (with_reducible first | exact HB.out | apply below_alloc | apply pw_below_drewN | apply below_drew1 | refine below_set ?_ GE195.out | refine below_set ?_ GE196.out | refine below_set ?_ GE197.out | refine below_set ?_ GE202.out) | exact HB.out)⟩⟩
                · rw [if_neg c45] at H
                  exact absurd H (by simp)
              · rw [if_neg c44] at H
                exact absurd H (by simp)
        · rw [if_neg c11] at H
          exact absurd H (by simp)
      · rw [if_neg c10] at H
        have c10b0 : decide (x5_1 < (l0_4.length : Int)) = false := decide_eq_false c10
        clear c10
        by_cases c66 : x198004_1.length + x4_1.length < 5864062014805
        · rw [if_pos c66] at H
          have LMc66 := Aside0.mk c66
          clear c66
          obtain ⟨y198, hy198⟩ : ∃ y_ : List (S35), y_ = (x198004_1 ++ x4_1) := ⟨_, rfl⟩
          replace H : (some (a0_2, a0_3, a0_0, a0_1, y198)) = some (r1, r2, r3, r4, r5) := by first | (rw [hy198]; with_reducible exact H) | (have H2_ := (Option.bind_some _ _).symm.trans H; rw [hy198]; with_reducible exact H2_) | (have H2_ := (Option.bind_some _ _).symm.trans H; with_reducible exact H2_) | with_reducible exact H | (rw [hy198]; exact H) | exact H
          have Ny198 := Aside0.mk hy198
          clear hy198
          simp only [Option.some.injEq, Prod.mk.injEq] at H
          obtain ⟨rfl, rfl, rfl, rfl, rfl⟩ := H
          have hnb67 := NB195_196.out
          have hnc67 := NB196_195.out
          have hnb68 := NB195_197.out
          have hnc68 := NB197_195.out
          have hcz69_0 : wr.cell? ⟨gb195, 0, none⟩ = some (.int .i64 a0_0) := (blk_cell BK195.out 0).trans rfl
          have hcz69_1 : wr.cell? ⟨gb195, 1, none⟩ = some (.int .i64 a0_1) := (blk_cell BK195.out 1).trans rfl
          have hcz69_2 : wr.cell? ⟨gb195, 2, none⟩ = some (.int .i64 a0_2) := (blk_cell BK195.out 2).trans rfl
          have hcz69_3 : wr.cell? ⟨gb195, 3, none⟩ = some (.int .i64 a0_3) := (blk_cell BK195.out 3).trans rfl
          have hcz69_4 : wr.cell? ⟨gb195, 4, none⟩ = some (.slice A0_4 l0_4.length c0_4) := (blk_cell BK195.out 4).trans rfl
          have hfz69_0 := blk_frozen BK195.out 0
          have hfz69_1 := blk_frozen BK195.out 1
          have hfz69_2 := blk_frozen BK195.out 2
          have hfz69_3 := blk_frozen BK195.out 3
          have hfz69_4 := blk_frozen BK195.out 4
          have hnb70 := NB197_196.out
          have hnc70 := NB196_197.out
          have hcz71_0 : wr.cell? ⟨gb197, 0, none⟩ = some (.int .i64 a0_2) := (blk_cell BK197.out 0).trans rfl
          have hcz71_1 : wr.cell? ⟨gb197, 1, none⟩ = some (.int .i64 a0_3) := (blk_cell BK197.out 1).trans rfl
          have hcz71_2 : wr.cell? ⟨gb197, 2, none⟩ = some (.int .i64 a0_0) := (blk_cell BK197.out 2).trans rfl
          have hcz71_3 : wr.cell? ⟨gb197, 3, none⟩ = some (.int .i64 a0_1) := (blk_cell BK197.out 3).trans rfl
          have hcz71_4 : wr.cell? ⟨gb197, 4, none⟩ = some (u198004) := (blk_cell BK197.out 4).trans rfl
          have hfz71_0 := blk_frozen BK197.out 0
          have hfz71_1 := blk_frozen BK197.out 1
          have hfz71_2 := blk_frozen BK197.out 2
          have hfz71_3 := blk_frozen BK197.out 3
          have hfz71_4 := blk_frozen BK197.out 4
          obtain ⟨Ao73, co73, eo73⟩ := Kd.R_slice HO_4.out
          subst eo73
          go_wp2_with (first | ((with_reducible refine gate_builtin (b := .append) (xs := #[.tmp 57, .tmp 58]) rfl ?_); at_builtin; refine Kd.R_append_rows k35 (w0 := w) w.heap.size rfl (.tmp 57) (.tmp 58) 22 35 (.agg #[(.int .u8 0), (.string ⟨#[]⟩)]) 24 rfl Try.underlying22 info35 rfl (by decide) (by omega) u198004 x198004_1 x4_1 _ _ _ (fun k_ => some k_ ≠ (.slice Ao73 x4_1.length co73 : Value).ownBlock) (fun _ => False) rfl rfl ?aO ?aR (fun _ _ h => h) (fun _ h => h.elim) ?aF ?aB ?aS ?aL ?_; (case aR => repeat (first | exact (Kd.R_reads' HO_4.out).2.2 | (with_reducible refine Kd.C_alloc ?_ _) | (with_reducible refine Kd.C_drewN ?_ _) | (with_reducible refine Kd.C_drew ?_))); (case aB => exact (by repeat (first | (with_reducible first | exact HB.out | apply below_alloc | apply pw_below_drewN | apply below_drew1 | refine below_set ?_ GE195.out | refine below_set ?_ GE196.out | refine below_set ?_ GE197.out) | exact HB.out))); (case aF => exact (fun k_ hk => Kd.fresh' (Kd.R_lt (by (with_reducible repeat (first | apply Kd.R_alloc | apply Kd.R_drewN | apply Kd.R_drew)); exact HO_4.out)) k_ hk)); (case aO => exact (by (with_reducible repeat (first | apply Kd.R_alloc | apply Kd.R_drewN | apply Kd.R_drew)); exact HO_198004.out)); (case aS => exact (below_size (by repeat (first | (with_reducible first | exact HB.out | apply below_alloc | apply pw_below_drewN | apply below_drew1 | refine below_set ?_ GE195.out | refine below_set ?_ GE196.out | refine below_set ?_ GE197.out) | exact HB.out)))); (case aL => have := LMc66.out; omega); intro v199 w72 ho hb hg hat; rw [← Ny198.out] at ho; have n0_ := Aside0.mk (Kd.R_after (ok := (fun _ => True)) (by (with_reducible repeat (first | apply Kd.R_alloc | apply Kd.R_drewN | apply Kd.R_drew)); exact Kd.R_mono HO_4.out (fun _ hk => ⟨trivial, hk⟩)) hg hat); have n1_ := Aside0.mk (blk_grown (g := gb195) (o := .cells #[.int .i64 a0_0, .int .i64 a0_1, .int .i64 a0_2, .int .i64 a0_3, .slice A0_4 l0_4.length c0_4] 24 (0, 0)) (by (with_reducible repeat (first | refine blk_drewN ?_ _ | refine blk_drew ?_ | refine blk_alloc ?_ _)); exact BK195.out) hg (Kd.R_ne HO_198004.out BK195.out (by decide))); have n2_ := Aside0.mk (blk_grown (g := gb196) (o := .cells #[.int .i64 0, .int .i64 0, .int .i64 0, .int .i64 0, .slice none 0 0] 24 (0, 0)) (by (with_reducible repeat (first | refine blk_drewN ?_ _ | refine blk_drew ?_ | refine blk_alloc ?_ _)); exact BK196.out) hg (Kd.R_ne HO_198004.out BK196.out (by decide))); have n3_ := Aside0.mk (blk_grown (g := gb197) (o := .cells #[.int .i64 a0_2, .int .i64 a0_3, .int .i64 a0_0, .int .i64 a0_1, u198004] 24 (0, 0)) (by (with_reducible repeat (first | refine blk_drewN ?_ _ | refine blk_drew ?_ | refine blk_alloc ?_ _)); exact BK197.out) hg (Kd.R_ne HO_198004.out BK197.out (by decide))); have n4_ := Aside0.mk (hb); have n5_ := Aside0.mk (ho); clear HO_4; clear BK195; clear BK196; clear BK197; clear HB; clear HO_198004; have HO_4 := n0_; have BK195 := n1_; have BK196 := n2_; have BK197 := n3_; have HB := n4_; have HO200 := n5_; clear n0_ n1_ n2_ n3_ n4_ n5_; clear ho hb hg hat; obtain ⟨Ao74, co74, eo74⟩ := Kd.R_slice HO200.out; subst eo74; have hcz75_0 : w72.cell? ⟨gb197, 0, none⟩ = some (.int .i64 a0_2) := (blk_cell BK197.out 0).trans rfl; have hcz75_1 : w72.cell? ⟨gb197, 1, none⟩ = some (.int .i64 a0_3) := (blk_cell BK197.out 1).trans rfl; have hcz75_2 : w72.cell? ⟨gb197, 2, none⟩ = some (.int .i64 a0_0) := (blk_cell BK197.out 2).trans rfl; have hcz75_3 : w72.cell? ⟨gb197, 3, none⟩ = some (.int .i64 a0_1) := (blk_cell BK197.out 3).trans rfl; have hcz75_4 : w72.cell? ⟨gb197, 4, none⟩ = some (u198004) := (blk_cell BK197.out 4).trans rfl; have hfz75_0 := blk_frozen BK197.out 0; have hfz75_1 := blk_frozen BK197.out 1; have hfz75_2 := blk_frozen BK197.out 2; have hfz75_3 := blk_frozen BK197.out 3; have hfz75_4 := blk_frozen BK197.out 4; have hcz76_0 : w72.cell? ⟨gb196, 0, none⟩ = some (.int .i64 0) := (blk_cell BK196.out 0).trans rfl; have hcz76_1 : w72.cell? ⟨gb196, 1, none⟩ = some (.int .i64 0) := (blk_cell BK196.out 1).trans rfl; have hcz76_2 : w72.cell? ⟨gb196, 2, none⟩ = some (.int .i64 0) := (blk_cell BK196.out 2).trans rfl; have hcz76_3 : w72.cell? ⟨gb196, 3, none⟩ = some (.int .i64 0) := (blk_cell BK196.out 3).trans rfl; have hcz76_4 : w72.cell? ⟨gb196, 4, none⟩ = some (.slice none 0 0) := (blk_cell BK196.out 4).trans rfl; have hfz76_0 := blk_frozen BK196.out 0; have hfz76_1 := blk_frozen BK196.out 1; have hfz76_2 := blk_frozen BK196.out 2; have hfz76_3 := blk_frozen BK196.out 3; have hfz76_4 := blk_frozen BK196.out 4))
          refine bodyPost_ret (results_cell_row rfl _ _ gb196 24 #[.int .i64 a0_2, .int .i64 a0_3, .int .i64 a0_0, .int .i64 a0_1, .slice Ao74 y198.length co74] (0, 0) _ rfl (by (with_reducible repeat (first | refine blk_drewN ?_ _ | refine blk_drew ?_ | refine blk_alloc ?_ _)); refine blk_put (cs := #[.int .i64 a0_2, .int .i64 a0_3, .int .i64 a0_0, .int .i64 a0_1, .slice none 0 0]) ?_ 4 _ rfl; (with_reducible repeat (first | refine blk_drewN ?_ _ | refine blk_drew ?_ | refine blk_alloc ?_ _)); refine blk_put (cs := #[.int .i64 a0_2, .int .i64 a0_3, .int .i64 a0_0, .int .i64 0, .slice none 0 0]) ?_ 3 _ rfl; (with_reducible repeat (first | refine blk_drewN ?_ _ | refine blk_drew ?_ | refine blk_alloc ?_ _)); refine blk_put (cs := #[.int .i64 a0_2, .int .i64 a0_3, .int .i64 0, .int .i64 0, .slice none 0 0]) ?_ 2 _ rfl; (with_reducible repeat (first | refine blk_drewN ?_ _ | refine blk_drew ?_ | refine blk_alloc ?_ _)); refine blk_put (cs := #[.int .i64 a0_2, .int .i64 0, .int .i64 0, .int .i64 0, .slice none 0 0]) ?_ 1 _ rfl; (with_reducible repeat (first | refine blk_drewN ?_ _ | refine blk_drew ?_ | refine blk_alloc ?_ _)); refine blk_put (cs := #[.int .i64 0, .int .i64 0, .int .i64 0, .int .i64 0, .slice none 0 0]) ?_ 0 _ rfl; (with_reducible repeat (first | refine blk_drewN ?_ _ | refine blk_drew ?_ | refine blk_alloc ?_ _)); refine blk_far ?_ NB196_197.out _; (with_reducible repeat (first | refine blk_drewN ?_ _ | refine blk_drew ?_ | refine blk_alloc ?_ _)); exact BK196.out) Try.underlying24 rfl (by kernel_rfl)) rfl ?_
          exact ⟨_, by first | rfl | (simp [errW_none, errW_some] <;> rfl) | (simp [*, errW_none, errW_some] <;> rfl), by (with_reducible repeat (first | apply Kd.R_alloc | apply Kd.R_drewN | apply Kd.R_drew)); exact Kd.R_mono (Kd.R_far (p := ⟨gb196, 4, none⟩) (Kd.R_far (p := ⟨gb196, 3, none⟩) (Kd.R_far (p := ⟨gb196, 2, none⟩) (Kd.R_far (p := ⟨gb196, 1, none⟩) (Kd.R_far (p := ⟨gb196, 0, none⟩) (Kd.R_far (p := ⟨gb197, 4, none⟩) (Kd.R_types (Kd.R_types HO200.out BK197.out (by decide)) BK196.out (by decide)) (fun _ hk => hk.1.2) (.slice Ao74 y198.length co74)) (fun _ hk => hk.2) (.int .i64 a0_2)) (fun _ hk => hk.2) (.int .i64 a0_3)) (fun _ hk => hk.2) (.int .i64 a0_0)) (fun _ hk => hk.2) (.int .i64 a0_1)) (fun _ hk => hk.2) (.slice Ao74 y198.length co74)) (fun _ hk => trivial), by repeat (first | (with_reducible first | exact HB.out | apply below_alloc | apply pw_below_drewN | apply below_drew1 | refine below_set ?_ GE195.out | refine below_set ?_ GE196.out | refine below_set ?_ GE197.out) | exact HB.out)⟩
        · rw [if_neg c66] at H
          exact absurd H (by simp)
end Go.Proofs.Ytnllemlmgbjjnaa.PA
namespace Go.Proofs.Ytnllemlmgbjjnaa.PA
set_option linter.unusedVariables false
set_option linter.unusedSimpArgs false
open Go.RowKit Go.Proofs.YtnllemlmgbjjnaaW.PrintWords Go.Proofs.YtnllemlmgbjjnaaW.PrintLast Go.Proofs.YtnllemlmgbjjnaaW.PrintMore
theorem R_lt {α : Type} {d : Kd α} {e base : Nat} {w : World} {ok : Nat → Prop} {v : Value} {xs : List α} (h : d.R e w base ok v xs) {k : Nat} (hk : v.ownBlock = some k) : k < w.heap.size := by
  obtain ⟨_, inner, ho, _⟩ := h
  exact own_lt ho k hk
/-- The state: 'out' lies in block g3 with its lines v, 'added' in block g4 with its lines u. -/
structure InvSt (w0 W : World) (g3 g4 : Nat) (i0 i1 i2 i3 : Int) (v u : Value) (xs ys : List S35) : Prop where
  b3 : W.heap[g3]? = some (.cells #[.int .i64 i0, .int .i64 i1, .int .i64 i2, .int .i64 i3, v] 24 (0, 0))
  b4 : W.heap[g4]? = some (.cells #[u] 22 (0, 0))
  rv : Kd.R k35 35 W w0.heap.size (fun _ => True) v xs
  ru : Kd.R k35 35 W w0.heap.size (fun _ => True) u ys
  ne : ∀ k, v.ownBlock = some k → u.ownBlock ≠ some k
  bel : Below w0.heap.size w0 W
  g3ge : w0.heap.size ≤ g3
  g4ge : w0.heap.size ≤ g4
theorem InvSt.g34 {w0 W : World} {g3 g4 : Nat} {i0 i1 i2 i3 : Int} {v u : Value} {xs ys : List S35} (h : InvSt w0 W g3 g4 i0 i1 i2 i3 v u xs ys) : g3 ≠ g4 := blk_ne h.b3 h.b4 (by decide)
/-- Another step that leaves what lay. -/
theorem InvSt.below {w0 W W1 : World} {g3 g4 : Nat} {i0 i1 i2 i3 : Int} {v u : Value} {xs ys : List S35} (h : InvSt w0 W g3 g4 i0 i1 i2 i3 v u xs ys) (hb : Below W.heap.size W W1) : InvSt w0 W1 g3 g4 i0 i1 i2 i3 v u xs ys :=
  ⟨blk_below h.b3 hb, blk_below h.b4 hb, Kd.R_below h.rv hb, Kd.R_below h.ru hb, h.ne, h.bel.trans (hb.mono h.bel.size), h.g3ge, h.g4ge⟩
/-- Lines were put behind out's lines, and the new row is stored. -/
theorem InvSt.put {w0 W w1 : World} {g3 g4 : Nat} {i0 i1 i2 i3 : Int} {v u v1 : Value} {xs ys zs : List S35} (h : InvSt w0 W g3 g4 i0 i1 i2 i3 v u xs ys)
    (hR : Kd.R k35 35 w1 w0.heap.size (fun _ => True) v1 zs) (hB : Below w0.heap.size w0 w1) (hg : W.grownBy w1 v.ownBlock) (ho : v1.ownBlock = v.ownBlock ∨ ∃ b, v1.ownBlock = some b ∧ W.heap.size ≤ b) :
    InvSt w0 (w1.setCell ⟨g3, 4, none⟩ v1) g3 g4 i0 i1 i2 i3 v1 u zs ys := by
  have b3 := blk_grown h.b3 hg (Kd.R_ne h.rv h.b3 (by decide))
  have b4 := blk_grown h.b4 hg (Kd.R_ne h.rv h.b4 (by decide))
  have ru := Kd.R_grown2 h.ru (by rfl) hg (fun k hk e => h.ne k hk e.symm)
  refine ⟨blk_put b3 4 v1 rfl, blk_far b4 h.g34.symm v1, Kd.R_set hR b3 (by decide) 4 v1, Kd.R_mono (Kd.R_set ru b3 (by decide) 4 v1) (fun _ _ => trivial), fun k hk => ?_, hB.setCell (p := ⟨g3, 4, none⟩) h.g3ge v1, h.g3ge, h.g4ge⟩
  rcases ho with ho | ⟨b, ho, hb⟩
  · exact h.ne k (ho ▸ hk)
  · intro e
    have := R_lt h.ru e
    rw [ho] at hk
    injection hk with hk
    omega
/-- Lines were put behind the added ones. -/
theorem InvSt.putA {w0 W w1 : World} {g3 g4 : Nat} {i0 i1 i2 i3 : Int} {v u u1 : Value} {xs ys zs : List S35} (h : InvSt w0 W g3 g4 i0 i1 i2 i3 v u xs ys)
    (hR : Kd.R k35 35 w1 w0.heap.size (fun _ => True) u1 zs) (hB : Below w0.heap.size w0 w1) (hg : W.grownBy w1 u.ownBlock) (ho : u1.ownBlock = u.ownBlock ∨ ∃ b, u1.ownBlock = some b ∧ W.heap.size ≤ b) :
    InvSt w0 (w1.setCell ⟨g4, 0, none⟩ u1) g3 g4 i0 i1 i2 i3 v u1 xs zs := by
  have b3 := blk_grown h.b3 hg (Kd.R_ne h.ru h.b3 (by decide))
  have b4 := blk_grown h.b4 hg (Kd.R_ne h.ru h.b4 (by decide))
  have rv := Kd.R_grown2 h.rv (by rfl) hg (fun k hk e => h.ne k e.symm hk)
  refine ⟨blk_far b3 h.g34 u1, blk_put b4 0 u1 rfl, Kd.R_mono (Kd.R_set rv b4 (by decide) 0 u1) (fun _ _ => trivial), Kd.R_set hR b4 (by decide) 0 u1, fun k hk => ?_, hB.setCell (p := ⟨g4, 0, none⟩) h.g4ge u1, h.g3ge, h.g4ge⟩
  rcases ho with ho | ⟨b, ho, hb⟩
  · rw [ho]; exact h.ne k hk
  · intro e
    have := R_lt h.rv hk
    rw [ho] at e
    injection e with e
    omega
/-- The added ones are none. -/
theorem InvSt.clear {w0 W : World} {g3 g4 : Nat} {i0 i1 i2 i3 : Int} {v u : Value} {xs ys : List S35} (h : InvSt w0 W g3 g4 i0 i1 i2 i3 v u xs ys) : InvSt w0 (W.setCell ⟨g4, 0, none⟩ (.slice none 0 0)) g3 g4 i0 i1 i2 i3 v (.slice none 0 0) xs [] :=
  ⟨blk_far h.b3 h.g34 _, blk_put h.b4 0 _ rfl, Kd.R_mono (Kd.R_set h.rv h.b4 (by decide) 0 _) (fun _ _ => trivial), Kd.R_nil _ _ _ _ _, fun k _ => by simp [Value.ownBlock], h.bel.setCell (p := ⟨g4, 0, none⟩) h.g4ge _, h.g3ge, h.g4ge⟩
/-- What a call keeps beside: each block but for the row's and two. -/
def KeepV (W W' : World) (v : Value) (g3 g4 : Nat) : Prop := ∀ (g : Nat) (cs : Array Value) (t : TypeId), W.heap[g]? = some (.cells cs t (0, 0)) → some g ≠ v.ownBlock → g ≠ g3 → g ≠ g4 → W'.heap[g]? = some (.cells cs t (0, 0))
def FlushPost (w0 W : World) (g3 g4 : Nat) (i0 i1 i2 i3 : Int) (v : Value) (xs ys : List S35) (e : Ending) (W' : World) : Prop :=
  e = .returned (.tuple #[]) ∧ KeepV W W' v g3 g4 ∧ ∃ v1, InvSt w0 W' g3 g4 i0 i1 i2 i3 v1 (.slice none 0 0) (xs ++ ys) []
theorem K_M {W : World} {base : Nat} {okp : Nat → Prop} {x : S35} {cs : List Value} (h : k35.K W x cs) : k35.M W base okp x cs := by
  rw [k35_open h]; exact k35_mkM _ _ _ _
set_option maxRecDepth 100000 in
set_option maxHeartbeats 2000000 in
theorem flush_calls (w0 W : World) (g3 g4 : Nat) (i0 i1 i2 i3 : Int) (v u : Value) (xs ys : List S35) (h : InvSt w0 W g3 g4 i0 i1 i2 i3 v u xs ys) (hl : xs.length + ys.length < 5864062014805) :
    Calls Try.prog 50 #[.pointer (some ⟨g3, 0, none⟩), .pointer (some ⟨g4, 0, none⟩)] W (FlushPost w0 W g3 g4 i0 i1 i2 i3 v xs ys) := by
  obtain ⟨A, c, hu, hc, hrd⟩ := Kd.R_reads h.ru
  subst hu
  have hu22 := Try.underlying22
  have c3 : W.cell? ⟨g3, 4, none⟩ = some v := (blk_cell h.b3 4).trans rfl
  have c4 : W.cell? ⟨g4, 0, none⟩ = some (.slice A ys.length c) := (blk_cell h.b4 0).trans rfl
  have f3 := blk_frozen h.b3 4
  have f4 := blk_frozen h.b4 0
  have HS := Aside0.mk h
  clear h
  go_enter Try.func50, Try.ntmps50
  go_wp2_with (at_builtin; refine Kd.R_append_rows k35 (w0 := w0) w0.heap.size rfl (.tmp 3) (.tmp 4) 22 35 (.agg #[(.int .u8 0), (.string ⟨#[]⟩)]) 24 rfl Try.underlying22 info35 rfl (by decide) (by omega) v xs ys A ys.length c (fun _ => True) (fun _ => False) rfl rfl HS.out.rv hrd (fun _ _ hk => K_M hk) (fun _ hk => hk.elim) (fun _ _ => trivial) HS.out.bel HS.out.bel.size (by omega) ?_; intro v1 w1 hR1 hB1 hg1 ho1; obtain ⟨A1, c1, hv1, hc1, _⟩ := Kd.R_reads hR1; subst hv1; have HR1 := Aside0.mk hR1; have HB1 := Aside0.mk hB1; have HG1 := Aside0.mk hg1; have HO1 := Aside0.mk ho1; clear hR1 hB1 hg1 ho1 hc1; have d3 := blk_cell (blk_grown HS.out.b3 HG1.out (Kd.R_ne HS.out.rv HS.out.b3 (by decide))) 4; have d4 := blk_cell (blk_grown HS.out.b4 HG1.out (Kd.R_ne HS.out.rv HS.out.b4 (by decide))) 0; have e3 := blk_frozen (blk_grown HS.out.b3 HG1.out (Kd.R_ne HS.out.rv HS.out.b3 (by decide))) 4; have e4 := blk_frozen (blk_grown HS.out.b4 HG1.out (Kd.R_ne HS.out.rv HS.out.b4 (by decide))) 0)
  go_end0
  have hst := (HS.out.put HR1.out HB1.out HG1.out HO1.out).clear
  rw [List.length_append] at hst
  refine ⟨rfl, fun g cs t hg ht n3 n4 => ?_, _, hst⟩
  exact blk_far (blk_far (blk_grown hg HG1.out ht) n3 _) n4 _
def invStep (st : List S35 × List S35) (m : S35) : List S35 × List S35 :=
  if m.f0 = 43 then (st.1 ++ [⟨45, m.f1⟩], st.2) else if m.f0 = 45 then (st.1, st.2 ++ [⟨43, m.f1⟩]) else (st.1 ++ st.2 ++ [m], [])
def invFold (l : List S35) : List S35 × List S35 := l.foldl invStep ([], [])
/-- The lines of the hunk that goes back. -/
def invL (l : List S35) : List S35 := (invFold l).1 ++ (invFold l).2
theorem invFold_snoc (l : List S35) (m : S35) : invFold (l ++ [m]) = invStep (invFold l) m := by simp [invFold]
theorem invStep_len (st : List S35 × List S35) (m : S35) : (invStep st m).1.length + (invStep st m).2.length = st.1.length + st.2.length + 1 := by
  unfold invStep
  split
  · simp; omega
  · split
    · simp; omega
    · simp; omega
theorem invFold_len_from (l : List S35) : ∀ st : List S35 × List S35, (l.foldl invStep st).1.length + (l.foldl invStep st).2.length = st.1.length + st.2.length + l.length := by
  induction l with
  | nil => intro st; simp
  | cons m l ih => intro st; rw [List.foldl_cons, ih, invStep_len, List.length_cons]; omega
theorem invFold_len (l : List S35) : (invFold l).1.length + (invFold l).2.length = l.length := by
  have := invFold_len_from l ([], [])
  simpa [invFold] using this
theorem take_rd (l : List S35) (i : Int) (h0 : 0 ≤ i) (h1 : i < l.length) : l.take (i + 1).toNat = l.take i.toNat ++ [rd_T35 l i] := by
  have e : (i + 1).toNat = i.toNat + 1 := by omega
  have hl : i.toNat < l.length := by omega
  rw [e, List.take_succ_eq_append_getElem hl]
  unfold rd_T35
  rw [List.getD_eq_getElem?_getD, List.getElem?_eq_getElem hl]
  rfl
theorem blkB {W wL : World} {o : Obj} {g : Nat} {cs : Array Value} {t : TypeId} (hb : Below (W.alloc o).heap.size (W.alloc o) wL) (h : W.heap[g]? = some (.cells cs t (0, 0))) : wL.heap[g]? = some (.cells cs t (0, 0)) := blk_below (blk_alloc h o) hb
structure InvLoop (w wr : World) (g1 g2 g3 g4 : Nat) (a b c d : Int) (A : Option Addr) (c0 : Nat) (l : List S35) (i : Int) (v u : Value) : Prop where
  st : InvSt w wr g3 g4 c d a b v u (invFold (l.take i.toNat)).1 (invFold (l.take i.toNat)).2
  b1 : wr.heap[g1]? = some (.cells #[.int .i64 a, .int .i64 b, .int .i64 c, .int .i64 d, .slice A l.length c0] 24 (0, 0))
  b2 : wr.heap[g2]? = some (.cells #[.int .i64 0, .int .i64 0, .int .i64 0, .int .i64 0, .slice none 0 0] 24 (0, 0))
  n13 : g1 ≠ g3
  n23 : g2 ≠ g3
  n12 : g2 ≠ g1
  ge1 : w.heap.size ≤ g1
  ge2 : w.heap.size ≤ g2
def hunks_Invert.f (a0_0 : Int) (a0_1 : Int) (a0_2 : Int) (a0_3 : Int) (l0_4 : List S35) : Option (Int × Int × Int × Int × List S35) :=
  if l0_4.length < 5864062014805 then some (a0_2, a0_3, a0_0, a0_1, invL l0_4) else none
set_option maxRecDepth 100000 in
set_option maxHeartbeats 8000000 in
theorem hunks_Invert.calls (a0_0 : Int) (a0_1 : Int) (a0_2 : Int) (a0_3 : Int) (A0_4 : Option Addr) (c0_4 : Nat) (l0_4 : List S35) (r1 : Int) (r2 : Int) (r3 : Int) (r4 : Int) (r5 : List S35) (w : World) (hr0_4 : Kd.C k35 w A0_4 l0_4.length l0_4) (hc0_4 : l0_4.length ≤ c0_4) (h : hunks_Invert.f a0_0 a0_1 a0_2 a0_3 l0_4 = some (r1, r2, r3, r4, r5)) :
    Calls Try.prog 19 #[.agg #[.int .i64 a0_0, .int .i64 a0_1, .int .i64 a0_2, .int .i64 a0_3, .slice A0_4 l0_4.length c0_4]] w fun e w' => ∃ v4_ : Value, e = .returned (.agg #[.int .i64 r1, .int .i64 r2, .int .i64 r3, .int .i64 r4, v4_]) ∧ Kd.R k35 35 w' w.heap.size (fun _ => True) v4_ r5 ∧ Below w.heap.size w w' := by
  unfold hunks_Invert.f at h
  by_cases hlen : l0_4.length < 5864062014805
  case neg => rw [if_neg hlen] at h; exact absurd h (by simp)
  rw [if_pos hlen] at h
  simp only [Option.some.injEq, Prod.mk.injEq] at h
  obtain ⟨rfl, rfl, rfl, rfl, hres⟩ := h
  have HRES := Lib.hid hres
  clear hres
  have hlen' : (l0_4.length : Int) < 5864062014805 := by omega
  go_enter Try.func19, Try.ntmps19
  go_wp2
  have hst0 : InvSt w ((((w.alloc (.cells #[.int .i64 a0_0, .int .i64 a0_1, .int .i64 a0_2, .int .i64 a0_3, .slice A0_4 l0_4.length c0_4] 24)).alloc (.cells #[.int .i64 0, .int .i64 0, .int .i64 0, .int .i64 0, .slice none 0 0] 24)).alloc (.cells #[.int .i64 a0_2, .int .i64 a0_3, .int .i64 a0_0, .int .i64 a0_1, .slice none 0 0] 24)).alloc (.cells #[.slice none 0 0] 22)) (w.heap.size + 1 + 1) (w.heap.size + 1 + 1 + 1) a0_2 a0_3 a0_0 a0_1 (.slice none 0 0) (.slice none 0 0) [] [] := by
    refine ⟨?_, ?_, Kd.R_nil _ _ _ _ _, Kd.R_nil _ _ _ _ _, fun k hk => by simp [Value.ownBlock] at hk, ?_, by omega, by omega⟩
    · refine blk_alloc ?_ _
      have := blk_new ((w.alloc (.cells #[.int .i64 a0_0, .int .i64 a0_1, .int .i64 a0_2, .int .i64 a0_3, .slice A0_4 l0_4.length c0_4] 24)).alloc (.cells #[.int .i64 0, .int .i64 0, .int .i64 0, .int .i64 0, .slice none 0 0] 24)) (.cells #[.int .i64 a0_2, .int .i64 a0_3, .int .i64 a0_0, .int .i64 a0_1, .slice none 0 0] 24)
      simpa only [World.size_alloc] using this
    · have := blk_new (((w.alloc (.cells #[.int .i64 a0_0, .int .i64 a0_1, .int .i64 a0_2, .int .i64 a0_3, .slice A0_4 l0_4.length c0_4] 24)).alloc (.cells #[.int .i64 0, .int .i64 0, .int .i64 0, .int .i64 0, .slice none 0 0] 24)).alloc (.cells #[.int .i64 a0_2, .int .i64 a0_3, .int .i64 a0_0, .int .i64 a0_1, .slice none 0 0] 24)) (.cells #[.slice none 0 0] 22)
      simpa only [World.size_alloc] using this
    · exact ((((Below.refl _ w).alloc (Nat.le_refl _) _).alloc (by simp) _).alloc (by simp; omega) _).alloc (by simp; omega) _
  have b10 : (((((w.alloc (.cells #[.int .i64 a0_0, .int .i64 a0_1, .int .i64 a0_2, .int .i64 a0_3, .slice A0_4 l0_4.length c0_4] 24)).alloc (.cells #[.int .i64 0, .int .i64 0, .int .i64 0, .int .i64 0, .slice none 0 0] 24)).alloc (.cells #[.int .i64 a0_2, .int .i64 a0_3, .int .i64 a0_0, .int .i64 a0_1, .slice none 0 0] 24)).alloc (.cells #[.slice none 0 0] 22))).heap[w.heap.size]? = some (.cells #[.int .i64 a0_0, .int .i64 a0_1, .int .i64 a0_2, .int .i64 a0_3, .slice A0_4 l0_4.length c0_4] 24 (0, 0)) := blk_alloc (blk_alloc (blk_alloc (blk_new w _) _) _) _
  have b20 : (((((w.alloc (.cells #[.int .i64 a0_0, .int .i64 a0_1, .int .i64 a0_2, .int .i64 a0_3, .slice A0_4 l0_4.length c0_4] 24)).alloc (.cells #[.int .i64 0, .int .i64 0, .int .i64 0, .int .i64 0, .slice none 0 0] 24)).alloc (.cells #[.int .i64 a0_2, .int .i64 a0_3, .int .i64 a0_0, .int .i64 a0_1, .slice none 0 0] 24)).alloc (.cells #[.slice none 0 0] 22))).heap[w.heap.size + 1]? = some (.cells #[.int .i64 0, .int .i64 0, .int .i64 0, .int .i64 0, .slice none 0 0] 24 (0, 0)) := by
    refine blk_alloc (blk_alloc ?_ _) _
    have := blk_new (w.alloc (.cells #[.int .i64 a0_0, .int .i64 a0_1, .int .i64 a0_2, .int .i64 a0_3, .slice A0_4 l0_4.length c0_4] 24)) (.cells #[.int .i64 0, .int .i64 0, .int .i64 0, .int .i64 0, .slice none 0 0] 24)
    simpa only [World.size_alloc] using this
  generalize ((((w.alloc (.cells #[.int .i64 a0_0, .int .i64 a0_1, .int .i64 a0_2, .int .i64 a0_3, .slice A0_4 l0_4.length c0_4] 24)).alloc (.cells #[.int .i64 0, .int .i64 0, .int .i64 0, .int .i64 0, .slice none 0 0] 24)).alloc (.cells #[.int .i64 a0_2, .int .i64 a0_3, .int .i64 a0_0, .int .i64 a0_1, .slice none 0 0] 24)).alloc (.cells #[.slice none 0 0] 22)) = W0 at hst0 b10 b20 ⊢
  have n23 : w.heap.size + 1 ≠ w.heap.size + 1 + 1 := by omega
  have n13 : w.heap.size ≠ w.heap.size + 1 + 1 := by omega
  have n12 : w.heap.size + 1 ≠ w.heap.size := by omega
  have ge2 : w.heap.size ≤ w.heap.size + 1 := by omega
  generalize w.heap.size + 1 + 1 + 1 = g4 at hst0 ⊢
  generalize w.heap.size + 1 + 1 = g3 at hst0 n13 n23 ⊢
  generalize w.heap.size + 1 = g2 at b20 n23 n12 ge2 ⊢
  obtain ⟨g1, hg1⟩ : ∃ g1, w.heap.size = g1 := ⟨_, rfl⟩
  rw [hg1] at b10 n13 n12
  have HG1 := Lib.hid hg1
  have HI0 := Aside0.mk (show InvLoop w W0 g1 g2 g3 g4 a0_0 a0_1 a0_2 a0_3 A0_4 c0_4 l0_4 0 (.slice none 0 0) (.slice none 0 0) from ⟨hst0, b10, b20, n13, n23, n12, by rw [hg1]; exact Nat.le_refl _, ge2⟩)
  clear hst0 b10 b20 n13 n23 n12 ge2
  rw [hg1]
  clear hg1
  go_loopw [21] (fun v21 wr => ∃ i : Int, 0 ≤ i ∧ i ≤ l0_4.length ∧ v21 = .int .i64 i ∧ Aside0 (∃ v u, InvLoop w wr g1 g2 g3 g4 a0_0 a0_1 a0_2 a0_3 A0_4 c0_4 l0_4 i v u)) (fun v21 _ => l0_4.length - (intOf v21).toNat)
  case atStart => exact ⟨0, by omega, by omega, rfl, ⟨_, _, HI0.out⟩⟩
  case round =>
    clear HI0
    obtain ⟨i, h0, h1, rfl, ⟨v, u, hil⟩⟩ := hrel
    by_cases hlt : i < l0_4.length
    · have HLN : Aside0 ((invFold (l0_4.take i.toNat)).1.length + (invFold (l0_4.take i.toNat)).2.length = i.toNat ∧ i.toNat < l0_4.length) := ⟨by rw [invFold_len, List.length_take]; omega, by omega⟩
      have hstep : invFold (l0_4.take (i + 1).toNat) = invStep (invFold (l0_4.take i.toNat)) (rd_T35 l0_4 i) := by rw [take_rd l0_4 i h0 hlt, invFold_snoc]
      obtain ⟨ad, e, hx0, hx1⟩ := at_T35 hr0_4 i h0 hlt
      subst e
      replace hx0 := (hil.st.bel.cell (World.block_lt_of_cell? w _ hx0)).trans hx0
      replace hx1 := (hil.st.bel.cell (World.block_lt_of_cell? w _ hx1)).trans hx1
      have HIL := Aside0.mk hil
      have HSm := Aside0.mk (hil.st.below (below_alloc (Below.refl _ _) (.cells #[.int .u8 (rd_T35 l0_4 i).f0, .string (rd_T35 l0_4 i).f1] 35)))
      have HST := Lib.hid hstep
      have m3 : (wr.alloc (.cells #[.int .u8 (rd_T35 l0_4 i).f0, .string (rd_T35 l0_4 i).f1] 35)).cell? ⟨g3, 4, none⟩ = some v := (blk_cell HSm.out.b3 4).trans rfl
      have m4 : (wr.alloc (.cells #[.int .u8 (rd_T35 l0_4 i).f0, .string (rd_T35 l0_4 i).f1] 35)).cell? ⟨g4, 0, none⟩ = some u := (blk_cell HSm.out.b4 0).trans rfl
      have n3 := blk_frozen HSm.out.b3 4
      have n4 := blk_frozen HSm.out.b4 0
      have q3 : wr.cell? ⟨g3, 4, none⟩ = some v := (blk_cell hil.st.b3 4).trans rfl
      have q4 : wr.cell? ⟨g4, 0, none⟩ = some u := (blk_cell hil.st.b4 0).trans rfl
      have z3 : g3 < wr.heap.size := blk_lt hil.st.b3
      have z4 : g4 < wr.heap.size := blk_lt hil.st.b4
      clear hil hstep m3 m4 n3 n4
      by_cases e43 : (rd_T35 l0_4 i).f0 = 43
      · have b43 : ((rd_T35 l0_4 i).f0 == 43) = true := beq_iff_eq.2 e43
        have HE := Lib.hid e43
        clear e43
        go_wp2_with (first | ((with_reducible refine gate_dst (N := 42) rfl ?_); refine Kd.R_lit k35 _ 35 ?hg (N := 42) ?hd (xs := [(⟨45, (rd_T35 l0_4 i).f1⟩ : S35)]) (inner := [.int .u8 45, .string (rd_T35 l0_4 i).f1]) (ok := fun _ => True) (okp := fun _ => True) ?hr ?hp (fun _ hk => hk) trivial (Below.refl _ _) (Nat.le_refl _) (by simp) ?_; (case hd => rfl); (case hg => rfl); (case hr => first | (go_simp; done) | (go_simp; rfl)); (case hp => exact (Reps.c2 (show Kd.M k35 _ _ _ (⟨45, (rd_T35 l0_4 i).f1⟩ : S35) [.int .u8 45, .string (rd_T35 l0_4 i).f1] from (k35_mkM _ _ _ (⟨45, (rd_T35 l0_4 i).f1⟩ : S35))) (Reps.none _ _))); intro vL wL hRL hbL hgL hnL; clear hgL hnL; obtain ⟨AL, cL, hvL, hcL, hrdL⟩ := Kd.R_reads hRL; subst hvL; have HSL := Aside0.mk (HSm.out.below hbL); have HRD := Aside0.mk hrdL; have HBL := Aside0.mk hbL; clear hRL hbL hcL hrdL; have k3 : wL.cell? ⟨g3, 4, none⟩ = some v := (blk_cell HSL.out.b3 4).trans rfl; have k4 : wL.cell? ⟨g4, 0, none⟩ = some u := (blk_cell HSL.out.b4 0).trans rfl; have j3 := blk_frozen HSL.out.b3 4; have j4 := blk_frozen HSL.out.b4 0) | (at_builtin; refine Kd.R_append_rows k35 (w0 := w) w.heap.size rfl (.tmp 38) (.tmp 42) 22 35 (.agg #[(.int .u8 0), (.string ⟨#[]⟩)]) 24 rfl Try.underlying22 info35 rfl (by decide) (by omega) v (invFold (l0_4.take i.toNat)).1 _ _ _ _ (fun _ => True) (fun _ => False) rfl rfl HSL.out.rv HRD.out (fun _ _ hk => K_M hk) (fun _ hk => hk.elim) (fun _ _ => trivial) HSL.out.bel HSL.out.bel.size (by rw [List.length_singleton]; have := HLN.out; omega) ?_; intro v1 w1 hR1 hB1 hg1 ho1; obtain ⟨A1, c1, hv1, hc1, _⟩ := Kd.R_reads hR1; subst hv1; have HP := Aside0.mk (HSL.out.put hR1 hB1 hg1 ho1); have HG := Aside0.mk hg1; have d3 : w1.cell? ⟨g3, 4, none⟩ = some v := (blk_cell (blk_grown HSL.out.b3 hg1 (Kd.R_ne HSL.out.rv HSL.out.b3 (by decide))) 4).trans rfl; have d4 : w1.cell? ⟨g4, 0, none⟩ = some u := (blk_cell (blk_grown HSL.out.b4 hg1 (Kd.R_ne HSL.out.rv HSL.out.b4 (by decide))) 0).trans rfl; have e3 := blk_frozen (blk_grown HSL.out.b3 hg1 (Kd.R_ne HSL.out.rv HSL.out.b3 (by decide))) 4; have e4 := blk_frozen (blk_grown HSL.out.b4 hg1 (Kd.R_ne HSL.out.rv HSL.out.b4 (by decide))) 0; clear hR1 hB1 hg1 ho1 hc1))
        refine ⟨⟨i + 1, by omega, by omega, rfl, ⟨.slice A1 ((invFold (l0_4.take i.toNat)).1.length + 1) c1, u, ⟨?_, ?_, ?_, HIL.out.n13, HIL.out.n23, HIL.out.n12, HIL.out.ge1, HIL.out.ge2⟩⟩⟩, by simp [intOf]; omega⟩
        · rw [HST.out]
          unfold invStep
          rw [if_pos HE.out]
          have hp := HP.out
          rw [List.length_append, List.length_singleton] at hp
          first | exact hp | (rw [List.length_append] at hp; exact hp)
        · exact blk_far (blk_grown (blkB HBL.out HIL.out.b1) HG.out (Kd.R_ne HSL.out.rv (blkB HBL.out HIL.out.b1) (by decide))) HIL.out.n13 _
        · exact blk_far (blk_grown (blkB HBL.out HIL.out.b2) HG.out (Kd.R_ne HSL.out.rv (blkB HBL.out HIL.out.b2) (by decide))) HIL.out.n23 _
      · have c43 : ((rd_T35 l0_4 i).f0 == 43) = false := beq_eq_false_iff_ne.2 e43
        have HE := Lib.hid e43
        clear e43
        by_cases e45 : (rd_T35 l0_4 i).f0 = 45
        · have b45 : ((rd_T35 l0_4 i).f0 == 45) = true := beq_iff_eq.2 e45
          have HE2 := Lib.hid e45
          clear e45
          go_wp2_with (first | ((with_reducible refine gate_dst (N := 51) rfl ?_); refine Kd.R_lit k35 _ 35 ?hg (N := 51) ?hd (xs := [(⟨43, (rd_T35 l0_4 i).f1⟩ : S35)]) (inner := [.int .u8 43, .string (rd_T35 l0_4 i).f1]) (ok := fun _ => True) (okp := fun _ => True) ?hr ?hp (fun _ hk => hk) trivial (Below.refl _ _) (Nat.le_refl _) (by simp) ?_; (case hd => rfl); (case hg => rfl); (case hr => first | (go_simp; done) | (go_simp; rfl)); (case hp => exact (Reps.c2 (show Kd.M k35 _ _ _ (⟨43, (rd_T35 l0_4 i).f1⟩ : S35) [.int .u8 43, .string (rd_T35 l0_4 i).f1] from (k35_mkM _ _ _ (⟨43, (rd_T35 l0_4 i).f1⟩ : S35))) (Reps.none _ _))); intro vL wL hRL hbL hgL hnL; clear hgL hnL; obtain ⟨AL, cL, hvL, hcL, hrdL⟩ := Kd.R_reads hRL; subst hvL; have HSL := Aside0.mk (HSm.out.below hbL); have HRD := Aside0.mk hrdL; have HBL := Aside0.mk hbL; clear hRL hbL hcL hrdL; have k3 : wL.cell? ⟨g3, 4, none⟩ = some v := (blk_cell HSL.out.b3 4).trans rfl; have k4 : wL.cell? ⟨g4, 0, none⟩ = some u := (blk_cell HSL.out.b4 0).trans rfl; have j3 := blk_frozen HSL.out.b3 4; have j4 := blk_frozen HSL.out.b4 0) | (at_builtin; refine Kd.R_append_rows k35 (w0 := w) w.heap.size rfl (.tmp 47) (.tmp 51) 22 35 (.agg #[(.int .u8 0), (.string ⟨#[]⟩)]) 24 rfl Try.underlying22 info35 rfl (by decide) (by omega) u (invFold (l0_4.take i.toNat)).2 _ _ _ _ (fun _ => True) (fun _ => False) rfl rfl HSL.out.ru HRD.out (fun _ _ hk => K_M hk) (fun _ hk => hk.elim) (fun _ _ => trivial) HSL.out.bel HSL.out.bel.size (by rw [List.length_singleton]; have := HLN.out; first | omega | (rw [List.length_append]; omega)) ?_; intro v1 w1 hR1 hB1 hg1 ho1; obtain ⟨A1, c1, hv1, hc1, _⟩ := Kd.R_reads hR1; subst hv1; have HP := Aside0.mk (HSL.out.putA hR1 hB1 hg1 ho1); have HG := Aside0.mk hg1; have d3 : w1.cell? ⟨g3, 4, none⟩ = some v := (blk_cell (blk_grown HSL.out.b3 hg1 (Kd.R_ne HSL.out.ru HSL.out.b3 (by decide))) 4).trans rfl; have d4 : w1.cell? ⟨g4, 0, none⟩ = some u := (blk_cell (blk_grown HSL.out.b4 hg1 (Kd.R_ne HSL.out.ru HSL.out.b4 (by decide))) 0).trans rfl; have e3 := blk_frozen (blk_grown HSL.out.b3 hg1 (Kd.R_ne HSL.out.ru HSL.out.b3 (by decide))) 4; have e4 := blk_frozen (blk_grown HSL.out.b4 hg1 (Kd.R_ne HSL.out.ru HSL.out.b4 (by decide))) 0; clear hR1 hB1 hg1 ho1 hc1))
          refine ⟨⟨i + 1, by omega, by omega, rfl, ⟨v, .slice A1 ((invFold (l0_4.take i.toNat)).2.length + 1) c1, ⟨?_, ?_, ?_, HIL.out.n13, HIL.out.n23, HIL.out.n12, HIL.out.ge1, HIL.out.ge2⟩⟩⟩, by simp [intOf]; omega⟩
          · rw [HST.out]
            unfold invStep
            rw [if_neg (by rw [HE2.out]; decide), if_pos HE2.out]
            have hp := HP.out
            rw [List.length_append, List.length_singleton] at hp
            exact hp
          · exact blk_far (blk_grown (blkB HBL.out HIL.out.b1) HG.out (Kd.R_ne HSL.out.ru (blkB HBL.out HIL.out.b1) (by decide))) (blk_ne HIL.out.b1 HIL.out.st.b4 (by decide)) _
          · exact blk_far (blk_grown (blkB HBL.out HIL.out.b2) HG.out (Kd.R_ne HSL.out.ru (blkB HBL.out HIL.out.b2) (by decide))) (blk_ne HIL.out.b2 HIL.out.st.b4 (by decide)) _
        · have c45 : ((rd_T35 l0_4 i).f0 == 45) = false := beq_eq_false_iff_ne.2 e45
          have HE2 := Lib.hid e45
          clear e45
          go_wp2_with (first | (go_at_call 50; refine (flush_calls w _ g3 g4 a0_2 a0_3 a0_0 a0_1 v u _ _ HSm.out (by have := HLN.out; omega)).mono ?_; rintro e wF ⟨rfl, hkv, v1, hst1⟩; have HSF := Aside0.mk hst1; have HKV := Aside0.mk hkv; clear hst1 hkv; have bm := HKV.out wr.heap.size _ _ (blk_new wr (.cells #[.int .u8 (rd_T35 l0_4 i).f0, .string (rd_T35 l0_4 i).f1] 35)) (fun e => absurd (R_lt HIL.out.st.rv e.symm) (Nat.lt_irrefl _)) (by omega) (by omega); have cm0 : wF.cell? ⟨wr.heap.size, 0, none⟩ = some (.int .u8 (rd_T35 l0_4 i).f0) := (blk_cell bm 0).trans rfl; have cm1 : wF.cell? ⟨wr.heap.size, 1, none⟩ = some (.string (rd_T35 l0_4 i).f1) := (blk_cell bm 1).trans rfl; have HBM := Aside0.mk bm; clear bm; have cF3 : wF.cell? ⟨g3, 4, none⟩ = some v1 := (blk_cell HSF.out.b3 4).trans rfl; have B1F := Aside0.mk (HKV.out g1 _ _ (blk_alloc HIL.out.b1 (.cells #[.int .u8 (rd_T35 l0_4 i).f0, .string (rd_T35 l0_4 i).f1] 35)) (Kd.R_ne HIL.out.st.rv HIL.out.b1 (by decide)) HIL.out.n13 (blk_ne HIL.out.b1 HIL.out.st.b4 (by decide))); have B2F := Aside0.mk (HKV.out g2 _ _ (blk_alloc HIL.out.b2 (.cells #[.int .u8 (rd_T35 l0_4 i).f0, .string (rd_T35 l0_4 i).f1] 35)) (Kd.R_ne HIL.out.st.rv HIL.out.b2 (by decide)) HIL.out.n23 (blk_ne HIL.out.b2 HIL.out.st.b4 (by decide)))) | ((with_reducible refine gate_dst (N := 32) rfl ?_); refine Kd.R_lit k35 _ 35 ?hg (N := 32) ?hd (xs := [rd_T35 l0_4 i]) (inner := [.int .u8 (rd_T35 l0_4 i).f0, .string (rd_T35 l0_4 i).f1]) (ok := fun _ => True) (okp := fun _ => True) ?hr ?hp (fun _ hk => hk) trivial (Below.refl _ _) (Nat.le_refl _) (by simp) ?_; (case hd => rfl); (case hg => rfl); (case hr => first | (go_simp; done) | (go_simp; rfl)); (case hp => exact (Reps.c2 (show Kd.M k35 _ _ _ (rd_T35 l0_4 i) [.int .u8 (rd_T35 l0_4 i).f0, .string (rd_T35 l0_4 i).f1] from (k35_mkM _ _ _ (rd_T35 l0_4 i))) (Reps.none _ _))); intro vL wL hRL hbL hgL hnL; clear hgL hnL; obtain ⟨AL, cL, hvL, hcL, hrdL⟩ := Kd.R_reads hRL; subst hvL; have HSL := Aside0.mk (HSF.out.below hbL); have HRD := Aside0.mk hrdL; have HBL := Aside0.mk hbL; clear hRL hbL hcL hrdL; have k3 : wL.cell? ⟨g3, 4, none⟩ = some v1 := (blk_cell HSL.out.b3 4).trans rfl; have j3 := blk_frozen HSL.out.b3 4) | (at_builtin; refine Kd.R_append_rows k35 (w0 := w) w.heap.size rfl (.tmp 30) (.tmp 32) 22 35 (.agg #[(.int .u8 0), (.string ⟨#[]⟩)]) 24 rfl Try.underlying22 info35 rfl (by decide) (by omega) v1 ((invFold (l0_4.take i.toNat)).1 ++ (invFold (l0_4.take i.toNat)).2) _ _ _ _ (fun _ => True) (fun _ => False) rfl rfl HSL.out.rv HRD.out (fun _ _ hk => K_M hk) (fun _ hk => hk.elim) (fun _ _ => trivial) HSL.out.bel HSL.out.bel.size (by rw [List.length_singleton, List.length_append]; have := HLN.out; omega) ?_; intro v2 w2 hR1 hB1 hg1 ho1; obtain ⟨A1, c1, hv1, hc1, _⟩ := Kd.R_reads hR1; subst hv1; have HP := Aside0.mk (HSL.out.put hR1 hB1 hg1 ho1); have HG := Aside0.mk hg1; have d3 : w2.cell? ⟨g3, 4, none⟩ = some v1 := (blk_cell (blk_grown HSL.out.b3 hg1 (Kd.R_ne HSL.out.rv HSL.out.b3 (by decide))) 4).trans rfl; have e3 := blk_frozen (blk_grown HSL.out.b3 hg1 (Kd.R_ne HSL.out.rv HSL.out.b3 (by decide))) 4; clear hR1 hB1 hg1 ho1 hc1))
          refine ⟨⟨i + 1, by omega, by omega, rfl, ⟨.slice A1 ((invFold (l0_4.take i.toNat)).1.length + ((invFold (l0_4.take i.toNat)).2.length + 1)) c1, .slice none 0 0, ⟨?_, ?_, ?_, HIL.out.n13, HIL.out.n23, HIL.out.n12, HIL.out.ge1, HIL.out.ge2⟩⟩⟩, by simp [intOf]; omega⟩
          · rw [HST.out]
            unfold invStep
            rw [if_neg HE.out, if_neg HE2.out]
            have hp := HP.out
            simp only [List.length_append, List.length_singleton] at hp
            exact hp
          · exact blk_far (blk_grown (blk_below B1F.out HBL.out) HG.out (Kd.R_ne HSL.out.rv (blk_below B1F.out HBL.out) (by decide))) HIL.out.n13 _
          · exact blk_far (blk_grown (blk_below B2F.out HBL.out) HG.out (Kd.R_ne HSL.out.rv (blk_below B2F.out HBL.out) (by decide))) HIL.out.n23 _
    · obtain rfl : i = l0_4.length := by omega
      have htk : l0_4.take (l0_4.length : Int).toNat = l0_4 := by rw [Int.toNat_natCast]; exact List.take_length
      have HLN : Aside0 ((invFold (l0_4.take (l0_4.length : Int).toNat)).1.length + (invFold (l0_4.take (l0_4.length : Int).toNat)).2.length = l0_4.length) := ⟨by rw [htk, invFold_len]⟩
      have HTK := Lib.hid htk
      have HIL := Aside0.mk hil
      clear hil htk
      go_wp2_with (first | (go_at_call 50; refine (flush_calls w _ g3 g4 a0_2 a0_3 a0_0 a0_1 v u _ _ HIL.out.st (by have := HLN.out; omega)).mono ?_; rintro e wF ⟨rfl, hkv, v1, hst1⟩; have HSF := Aside0.mk hst1; have HKV := Aside0.mk hkv; obtain ⟨Av, cv, hv1, _, _⟩ := Kd.R_reads hst1.rv; subst hv1; clear hst1 hkv; have cF0 := blk_cell HSF.out.b3 0; have cF1 := blk_cell HSF.out.b3 1; have cF2 := blk_cell HSF.out.b3 2; have cF3 := blk_cell HSF.out.b3 3; have cF4 := blk_cell HSF.out.b3 4; have B2F := Aside0.mk (HKV.out g2 _ _ HIL.out.b2 (Kd.R_ne HIL.out.st.rv HIL.out.b2 (by decide)) HIL.out.n23 (blk_ne HIL.out.b2 HIL.out.st.b4 (by decide))); have c20 := blk_cell B2F.out 0; have c21 := blk_cell B2F.out 1; have c22 := blk_cell B2F.out 2; have c23 := blk_cell B2F.out 3; have c24 := blk_cell B2F.out 4; have f20 := blk_frozen B2F.out 0; have f21 := blk_frozen B2F.out 1; have f22 := blk_frozen B2F.out 2; have f23 := blk_frozen B2F.out 3; have f24 := blk_frozen B2F.out 4))
      have rv := HSF.out.rv
      rw [List.length_append, HTK.out] at rv
      have rv' : Kd.R k35 35 wF w.heap.size (fun _ => True) (.slice Av ((invFold l0_4).1.length + (invFold l0_4).2.length) cv) r5 := by rw [← HRES.out]; exact rv
      refine bodyPost_ret (results_cell_row rfl _ _ g2 24 #[.int .i64 a0_2, .int .i64 a0_3, .int .i64 a0_0, .int .i64 a0_1, .slice Av ((invFold l0_4).1.length + (invFold l0_4).2.length) cv] (0, 0) _ rfl
        (blk_put (cs := #[.int .i64 a0_2, .int .i64 a0_3, .int .i64 a0_0, .int .i64 a0_1, .slice none 0 0]) (blk_put (cs := #[.int .i64 a0_2, .int .i64 a0_3, .int .i64 a0_0, .int .i64 0, .slice none 0 0]) (blk_put (cs := #[.int .i64 a0_2, .int .i64 a0_3, .int .i64 0, .int .i64 0, .slice none 0 0]) (blk_put (cs := #[.int .i64 a0_2, .int .i64 0, .int .i64 0, .int .i64 0, .slice none 0 0]) (blk_put (cs := #[.int .i64 0, .int .i64 0, .int .i64 0, .int .i64 0, .slice none 0 0]) B2F.out 0 _ rfl) 1 _ rfl) 2 _ rfl) 3 _ rfl) 4 _ rfl)
        Try.underlying24 rfl (by kernel_rfl)) rfl ?_
      exact ⟨_, rfl, Kd.R_mono (Kd.R_far (p := ⟨g2, 4, none⟩) (Kd.R_far (p := ⟨g2, 3, none⟩) (Kd.R_far (p := ⟨g2, 2, none⟩) (Kd.R_far (p := ⟨g2, 1, none⟩) (Kd.R_far (p := ⟨g2, 0, none⟩) (Kd.R_types rv' B2F.out (by decide)) (fun _ hk => hk.2) _) (fun _ hk => hk.2) _) (fun _ hk => hk.2) _) (fun _ hk => hk.2) _) (fun _ hk => hk.2) _) (fun _ _ => trivial),
        ((((HSF.out.bel.setCell (p := ⟨g2, 0, none⟩) HIL.out.ge2 _).setCell (p := ⟨g2, 1, none⟩) HIL.out.ge2 _).setCell (p := ⟨g2, 2, none⟩) HIL.out.ge2 _).setCell (p := ⟨g2, 3, none⟩) HIL.out.ge2 _).setCell (p := ⟨g2, 4, none⟩) HIL.out.ge2 _⟩
end Go.Proofs.Ytnllemlmgbjjnaa.PA
/- Plain laws on the printed functions: copies, equal lines, a hunk turned round, and which lines the reference picks. -/
namespace Go.Proofs.Ytnllemlmgbjjnaa.PA
set_option linter.unusedVariables false
set_option linter.unusedSimpArgs false
open Go.RowKit Go.Proofs.YtnllemlmgbjjnaaW.PrintWords Go.Proofs.YtnllemlmgbjjnaaW.PrintLast Go.Proofs.YtnllemlmgbjjnaaW.PrintMore
theorem rd24 {l : List S24} {i : Nat} (h : i < l.length) : rd_T24 l (i : Int) = l[i] := by
  unfold rd_T24
  rw [Int.toNat_natCast, List.getD_eq_getElem?_getD, List.getElem?_eq_getElem h]
  rfl
theorem rdo {l : List ByteArray} {i : Nat} (h : i < l.length) : rdOf ByteArray.empty l (i : Int) = l[i] := by
  unfold rdOf
  rw [Int.toNat_natCast, List.getD_eq_getElem?_getD, List.getElem?_eq_getElem h]
  rfl
theorem copy_from (l : List S24) (hl : l.length < 2513169434916) (he : ∀ h ∈ l, h.f4.length < 5864062014805) : ∀ (d k i : Nat), i + d = l.length → d < k →
    redlineref11_Copy.l0 k l (l.take i) (i : Int) = some l := by
  intro d
  induction d with
  | zero =>
    intro k i hi hk
    obtain ⟨k, rfl⟩ : ∃ m, k = m + 1 := ⟨k - 1, by omega⟩
    simp only [redlineref11_Copy.l0]
    rw [if_neg (by omega), List.take_of_length_le (by omega)]
  | succ d ih =>
    intro k i hi hk
    obtain ⟨k, rfl⟩ : ∃ m, k = m + 1 := ⟨k - 1, by omega⟩
    have hlt : i < l.length := by omega
    simp only [redlineref11_Copy.l0, Option.bind_some]
    have h4 := he l[i] (List.getElem_mem hlt)
    rw [if_pos (by omega), if_pos (by omega), rd24 hlt, if_pos (by simpa using h4), if_pos (by rw [List.length_take]; omega), wrap_id (by omega) (by omega), succ_cast]
    have e : l.take i ++ [(⟨l[i].f0, l[i].f1, l[i].f2, l[i].f3, [] ++ l[i].f4⟩ : S24)] = l.take (i + 1) := by
      rw [List.take_succ_eq_append_getElem hlt]; rfl
    rw [e]
    exact ih k (i + 1) (by omega) (by omega)
theorem copy_eq (l : List S24) (hl : l.length < 2513169434916) (he : ∀ h ∈ l, h.f4.length < 5864062014805) (k : Nat) (hk : l.length < k) : redlineref11_Copy.f k l = some l := by
  unfold redlineref11_Copy.f
  exact copy_from l hl he l.length k 0 (by omega) hk
theorem sames_from (l : List ByteArray) (hl : l.length < 9223372036854775807) : ∀ (d k i : Nat), i + d = l.length → d < k →
    redlineref01_SameStrings.l0 k l l (i : Int) = some true := by
  intro d
  induction d with
  | zero =>
    intro k i hi hk
    obtain ⟨k, rfl⟩ : ∃ m, k = m + 1 := ⟨k - 1, by omega⟩
    simp only [redlineref01_SameStrings.l0]
    rw [if_neg (by omega)]
  | succ d ih =>
    intro k i hi hk
    obtain ⟨k, rfl⟩ : ∃ m, k = m + 1 := ⟨k - 1, by omega⟩
    simp only [redlineref01_SameStrings.l0]
    rw [if_pos (by omega), if_pos (by omega), if_pos (by omega), if_pos trivial, wrap_id (by omega) (by omega), succ_cast]
    exact ih k (i + 1) (by omega) (by omega)
theorem sames_eq (l : List ByteArray) (hl : l.length < 9223372036854775807) (k : Nat) (hk : l.length < k) : redlineref01_SameStrings.f k l l = some true := by
  unfold redlineref01_SameStrings.f
  rw [if_pos (by rfl)]
  exact sames_from l hl l.length k 0 (by omega) hk
theorem same_from (a b c d' : Int) (l : List S35) (hl : l.length < 9223372036854775807) : ∀ (d k i : Nat), i + d = l.length → d < k →
    redlineref11_Same.l0 k (i : Int) a b c d' l a b c d' l = some true := by
  intro d
  induction d with
  | zero =>
    intro k i hi hk
    obtain ⟨k, rfl⟩ : ∃ m, k = m + 1 := ⟨k - 1, by omega⟩
    simp only [redlineref11_Same.l0]
    rw [if_neg (by omega)]
  | succ d ih =>
    intro k i hi hk
    obtain ⟨k, rfl⟩ : ∃ m, k = m + 1 := ⟨k - 1, by omega⟩
    simp only [redlineref11_Same.l0]
    rw [if_pos (by omega), if_pos (by omega), if_pos (by omega), if_neg (by simp), wrap_id (by omega) (by omega), succ_cast]
    exact ih k (i + 1) (by omega) (by omega)
theorem same_eq (a b c d : Int) (l : List S35) (hl : l.length < 9223372036854775807) (k : Nat) (hk : l.length + 1 < k) : redlineref11_Same.f k a b c d l a b c d l = some true := by
  obtain ⟨k, rfl⟩ : ∃ m, k = m + 1 := ⟨k - 1, by omega⟩
  unfold redlineref11_Same.f
  rw [if_pos rfl, if_pos rfl, if_pos rfl, if_pos rfl]
  simp only [redlineref11_Same.j0, bne_self_eq_false, Bool.false_eq_true, if_false]
  exact same_from a b c d l hl l.length k 0 (by omega) (by omega)
theorem inv_from (a b c d' : Int) (l : List S35) (hl : l.length < 5864062014805) : ∀ (d k i : Nat), i + d = l.length → d < k →
    redlineref11_Invert.l0 k (invFold (l.take i)).2 (i : Int) a b c d' l c d' a b (invFold (l.take i)).1 = some (c, d', a, b, invL l) := by
  intro d
  induction d with
  | zero =>
    intro k i hi hk
    obtain ⟨k, rfl⟩ : ∃ m, k = m + 1 := ⟨k - 1, by omega⟩
    have hlen := invFold_len l
    simp only [redlineref11_Invert.l0]
    rw [if_neg (by omega), List.take_of_length_le (by omega), if_pos (by omega)]
    rfl
  | succ d ih =>
    intro k i hi hk
    obtain ⟨k, rfl⟩ : ∃ m, k = m + 1 := ⟨k - 1, by omega⟩
    have hlt : i < l.length := by omega
    have hlen := invFold_len (l.take i)
    rw [List.length_take] at hlen
    have ih' := ih k (i + 1) (by omega) (by omega)
    rw [List.take_succ_eq_append_getElem hlt, invFold_snoc] at ih'
    simp only [redlineref11_Invert.l0, Option.bind_some]
    rw [if_pos (by omega), if_pos (by omega), rd35 hlt, wrap_id (by omega) (by omega), succ_cast]
    generalize invFold (l.take i) = st at hlen ih' ⊢
    by_cases e1 : l[i].f0 = 43
    · rw [if_pos e1, if_pos (by rw [List.length_singleton]; omega)]
      simp only [invStep, e1, if_true] at ih'
      exact ih'
    · by_cases e2 : l[i].f0 = 45
      · rw [if_neg e1, if_pos e2, if_pos (by rw [List.length_singleton]; omega)]
        simp only [invStep, e1, e2, if_true, if_false] at ih'
        simpa using ih'
      · rw [if_neg e1, if_neg e2, if_pos (by omega), if_pos (by rw [List.length_append, List.length_singleton]; omega)]
        simp only [invStep, if_neg e1, if_neg e2] at ih'
        exact ih'
theorem rinv_eq (a b c d : Int) (l : List S35) (hl : l.length < 5864062014805) (k : Nat) (hk : l.length < k) : redlineref11_Invert.f k a b c d l = some (c, d, a, b, invL l) := by
  unfold redlineref11_Invert.f
  exact inv_from a b c d l hl l.length k 0 (by omega) hk
theorem invL_len (l : List S35) : (invL l).length = l.length := by
  have := invFold_len l
  unfold invL
  rw [List.length_append]
  exact this
/-- The lines that have not one sign. -/
def rpickL (nt : Int) (l : List S35) : List ByteArray := (l.filter fun m => m.f0 != nt && (m.f0 == 32 || m.f0 == 45 || m.f0 == 43)).map (·.f1)
theorem rpick_from (a b c d' : Int) (l : List S35) (nt : Int) (hl : l.length < 5864062014805) : ∀ (d k i : Nat) (acc : List ByteArray), i + d = l.length → d < k → acc.length ≤ i →
    redlineref11_pick.l0 k nt acc (i : Int) a b c d' l = some (acc ++ rpickL nt (l.drop i)) := by
  intro d
  induction d with
  | zero =>
    intro k i acc hi hk ha
    obtain ⟨k, rfl⟩ : ∃ m, k = m + 1 := ⟨k - 1, by omega⟩
    simp only [redlineref11_pick.l0]
    rw [if_neg (by omega), List.drop_of_length_le (by omega)]
    simp [rpickL]
  | succ d ih =>
    intro k i acc hi hk ha
    obtain ⟨k, rfl⟩ : ∃ m, k = m + 1 := ⟨k - 1, by omega⟩
    have hlt : i < l.length := by omega
    have ih1 := ih k (i + 1) acc (by omega) (by omega) (by omega)
    have ih2 := ih k (i + 1) (acc ++ [l[i].f1]) (by omega) (by omega) (by rw [List.length_append, List.length_singleton]; omega)
    simp only [redlineref11_pick.l0]
    rw [if_pos (by omega), if_pos (by omega), rd35 hlt, wrap_id (by omega) (by omega), succ_cast, List.drop_eq_getElem_cons hlt, ih1, ih2]
    generalize l.drop (i + 1) = t
    generalize l[i] = m
    rw [if_pos (show acc.length < 8796093022208 by omega)]
    by_cases e1 : m.f0 = nt
    · rw [if_pos e1]; simp [rpickL, List.filter_cons, e1]
    · rw [if_neg e1]
      by_cases e2 : m.f0 = 32
      · rw [if_pos e2]; have hn : ¬ ((32 : Int) = nt) := fun h => e1 (e2.trans h)
        simp [rpickL, List.filter_cons, e1, e2, hn]
      · rw [if_neg e2]
        by_cases e3 : m.f0 = 45
        · rw [if_pos e3]; have hn : ¬ ((45 : Int) = nt) := fun h => e1 (e3.trans h)
          simp [rpickL, List.filter_cons, e1, e2, e3, hn]
        · rw [if_neg e3]
          by_cases e4 : m.f0 = 43
          · rw [if_pos e4]; have hn : ¬ ((43 : Int) = nt) := fun h => e1 (e4.trans h)
            simp [rpickL, List.filter_cons, e1, e2, e3, e4, hn]
          · rw [if_neg e4]; simp [rpickL, List.filter_cons, e1, e2, e3, e4]
theorem rpick_eq (a b c d : Int) (l : List S35) (nt : Int) (hl : l.length < 5864062014805) (k : Nat) (hk : l.length < k) : redlineref11_pick.f k a b c d l nt = some (rpickL nt l) := by
  unfold redlineref11_pick.f
  have := rpick_from a b c d l nt hl l.length k 0 [] (by omega) hk (by simp)
  simpa using this
theorem rpick_old (l : List S35) : rpickL 43 l = pickL 45 l := by
  unfold rpickL pickL
  congr 1
  refine List.filter_congr fun m _ => ?_
  rw [Bool.eq_iff_iff]
  simp
  omega
theorem rpick_new (l : List S35) : rpickL 45 l = pickL 43 l := by
  unfold rpickL pickL
  congr 1
  refine List.filter_congr fun m _ => ?_
  rw [Bool.eq_iff_iff]
  simp
  omega
theorem rold_eq (a b c d : Int) (l : List S35) (hl : l.length < 5864062014805) (k : Nat) (hk : l.length < k) : redlineref11_Old.f k a b c d l = some (pickL 45 l) := by
  unfold redlineref11_Old.f
  rw [rpick_eq a b c d l 43 hl k hk, rpick_old]
  rfl
theorem rnew_eq (a b c d : Int) (l : List S35) (hl : l.length < 5864062014805) (k : Nat) (hk : l.length < k) : redlineref11_New.f k a b c d l = some (pickL 43 l) := by
  unfold redlineref11_New.f
  rw [rpick_eq a b c d l 45 hl k hk, rpick_new]
  rfl
end Go.Proofs.Ytnllemlmgbjjnaa.PA
namespace Go.Proofs.Ytnllemlmgbjjnaa.PA
open Go.RowKit Go.Proofs.YtnllemlmgbjjnaaW.PrintWords Go.Proofs.YtnllemlmgbjjnaaW.PrintLast Go.Proofs.YtnllemlmgbjjnaaW.PrintMore
attribute [local go_sem] max2_int min2_int max_two min_two max_three min_three max_four min_four   -- for this text's walks alone
set_option linter.unusedVariables false
set_option linter.unusedSimpArgs false
def hunks_number.f (a0 : Int) : Option (Bool) := if a0 ≥ 0 then (some (decide (a0 ≤ 2147483647))) else (some false)
set_option maxHeartbeats 8000000 in
set_option maxRecDepth 100000 in
theorem hunks_number.calls (a0 : Int) (r : Bool) (w : World) (h : hunks_number.f a0 = some r) :
    Calls Try.prog 44 #[.int .i64 a0] w fun e w' => e = .returned (.bool r) ∧ Drawn0 w w' := by
  have H : (if a0 ≥ 0 then (some (decide (a0 ≤ 2147483647))) else (some false)) = some r := h
  clear h
  by_cases c2 : a0 ≥ 0
  · rw [if_pos c2] at H
    have c2b0 : decide (0 ≤ a0) = true := decide_eq_true c2
    clear c2
    obtain rfl := Option.some.inj H
    go_enter Try.func44, Try.ntmps44
    go_wp2
    go_ret
    exact ⟨by first | rfl | (simp; done) | (simp [*]; done), by repeat (first | exact Drawn0.refl _ | apply Drawn0.step)⟩
  · rw [if_neg c2] at H
    have c2b0 : decide (0 ≤ a0) = false := decide_eq_false c2
    clear c2
    obtain rfl := Option.some.inj H
    go_enter Try.func44, Try.ntmps44
    go_wp2
    go_ret
    exact ⟨by first | rfl | (simp; done) | (simp [*]; done), by repeat (first | exact Drawn0.refl _ | apply Drawn0.step)⟩
end Go.Proofs.Ytnllemlmgbjjnaa.PA
namespace Go.Proofs.Ytnllemlmgbjjnaa.PA
open Go.RowKit Go.Proofs.YtnllemlmgbjjnaaW.PrintWords Go.Proofs.YtnllemlmgbjjnaaW.PrintLast Go.Proofs.YtnllemlmgbjjnaaW.PrintMore
/-- The place of the first sub in s, told for a sub of one byte. -/
def strings_Index.f (a0 : ByteArray) (a1 : ByteArray) : Option Int :=
  if a1.size = 1 then some (Lib.indexByte a0.data.toList (a1.data.getD 0 0)) else none
theorem strings_Index.calls (a0 a1 : ByteArray) (r : Int) (w : World) (h : strings_Index.f a0 a1 = some r) :
    Calls Try.prog 78 #[.string a0, .string a1] w fun e w' => e = .returned (.int .i64 r) ∧ Drawn0 w w' := by
  unfold strings_Index.f at h
  by_cases h1 : a1.size = 1
  · rw [if_pos h1] at h
    obtain rfl := Option.some.inj h
    obtain ⟨c, rfl⟩ : ∃ c : UInt8, a1 = ⟨#[c]⟩ := by
      obtain ⟨⟨l⟩⟩ := a1
      match l, h1 with
      | [c], _ => exact ⟨c, rfl⟩
    exact (Try.strings_Index_one a0 c w).mono fun e w' ⟨he, hw⟩ => ⟨he, ⟨⟨0, hw⟩⟩⟩
  · rw [if_neg h1] at h
    exact absurd h (by simp)
end Go.Proofs.Ytnllemlmgbjjnaa.PA
namespace Go.Proofs.Ytnllemlmgbjjnaa.PA
set_option linter.unusedVariables false
set_option linter.unusedSimpArgs false
open Go.RowKit Go.Shelf Go.Proofs.YtnllemlmgbjjnaaW.PrintWords Go.Proofs.YtnllemlmgbjjnaaW.PrintLast Go.Proofs.YtnllemlmgbjjnaaW.PrintMore
attribute [local go_sem] Oper.semAt_some
/-- What has come of a list that is gone through from its end on, when the place i is next. -/
def down (zs : List S35) (i : Int) : List (Int × S35) := (List.range ((zs.length : Int) - 1 - i).toNat).map fun (j : Nat) => ((zs.length : Int) - 1 - j, rd_T35 zs ((zs.length : Int) - 1 - j))
theorem down_start (zs : List S35) : down zs ((zs.length : Int) - 1) = [] := by simp [down]
theorem down_step (zs : List S35) (i : Int) (h1 : i < zs.length) : down zs (i - 1) = down zs i ++ [(i, rd_T35 zs i)] := by
  have e : ((zs.length : Int) - 1 - (i - 1)).toNat = ((zs.length : Int) - 1 - i).toNat + 1 := by omega
  have e2 : (zs.length : Int) - 1 - (((zs.length : Int) - 1 - i).toNat : Int) = i := by omega
  unfold down
  rw [e, List.range_succ, List.map_append, List.map_cons, List.map_nil, e2]
theorem down_length (zs : List S35) (i : Int) : (down zs i).length = ((zs.length : Int) - 1 - i).toNat := by simp [down]
theorem down_prefix (zs : List S35) (i : Int) (h0 : -1 ≤ i) : down zs i <+: down zs (-1) := by
  unfold down
  obtain ⟨k, hk⟩ : ∃ k, ((zs.length : Int) - 1 - (-1)).toNat = ((zs.length : Int) - 1 - i).toNat + k := ⟨((zs.length : Int) - 1 - (-1)).toNat - ((zs.length : Int) - 1 - i).toNat, by omega⟩
  rw [hk, List.range_add, List.map_append]
  exact List.prefix_append _ _
theorem down_all (zs : List S35) : (down zs (-1)).map (·.2) = zs.reverse := by
  apply List.ext_getElem
  · simp [down]
  · intro i h1 h2
    have hi : i < zs.length := by simpa using h2
    have e : ((zs.length : Int) - 1 - (i : Int)).toNat = zs.length - 1 - i := by omega
    simp only [down, List.getElem_map, List.getElem_range, List.getElem_reverse, rd_T35, e]
    simp [List.getD, show zs.length - 1 - i < zs.length from by omega]
/-- What a round keeps: whatever lay below n₀, and the block Bs. -/
def KpB (n₀ Bs : Nat) (W W' : World) : Prop := Below n₀ W W' ∧ W'.heap[Bs]? = W.heap[Bs]?
theorem KpB.trans {n₀ Bs : Nat} {A B C : World} (h : KpB n₀ Bs A B) (k : KpB n₀ Bs B C) : KpB n₀ Bs A C := ⟨h.1.trans k.1, k.2.trans h.2⟩
theorem KpB.refl (n₀ Bs : Nat) (A : World) : KpB n₀ Bs A A := ⟨Below.refl _ _, rfl⟩
theorem KpB.put {n₀ Bs : Nat} {w : World} (hn : n₀ ≤ w.heap.size) (hB : Bs < w.heap.size) (W : World) (l : Nat) (o o' : Obj) (hl : w.heap.size ≤ l) (h : W.heap[l]? = some o) (h1 : o.isCells = false) (h2 : o.isWalk = false) : KpB n₀ Bs W (W.putObj l o') :=
  ⟨belowK_b hn W l o o' hl h h1 h2, (grownBy_putObj' W l o').block Bs (by have := (Array.getElem?_eq_some_iff.1 h).1; omega) (by intro e; injection e with e; omega)⟩
set_option maxRecDepth 100000 in
set_option maxHeartbeats 2000000 in
theorem backward1_in (F : Fence) (n : Nat) (h7 : F.fn 107) (hro : F.round = none) (hn : 1 ≤ n) (l Bs n₀ cap : Nat) (A : Option Addr) (zs : List S35) (hreach : zs.length < 5864062014805) (J Jx : List (Int × S35) → World → Prop)
    (hY : ∀ pre x W, J pre W → pre.length < zs.length → YieldAt F (n - 1) Try.prog l #[.int .i64 x.1, .agg #[.int .u8 x.2.f0, .string x.2.f1]] W fun e W' =>
      (e = .returned (.bool true) ∧ J (pre ++ [x]) W' ∧ KpB n₀ Bs W W') ∨ (e = .returned (.bool false) ∧ Jx (pre ++ [x]) W'))
    (w0 : World) (hn₀ : n₀ = w0.heap.size) (hc : Kd.C k35 w0 A zs.length zs)
    (W : World) (hb0 : Below n₀ w0 W) (hBs : Boxed W Bs 22 (.slice A zs.length cap)) (h0 : J [] W) :
    CallsIn F n Try.prog 107 #[.func (.yield l) #[] #[], .pointer (some ⟨Bs, 0, none⟩)] W fun e W' => (∃ v, e = .returned v) ∧
      ((∃ ys, ys = down zs (-1) ∧ J ys W') ∨ (∃ pre, pre <+: down zs (-1) ∧ Jx pre W')) := by
  refine callsIn_of_wp Try.func107 rfl h7 ?_ hro
  simp only [Try.ntmps107, List.size_toArray, List.length_cons, List.length_nil, Nat.reduceAdd, Nat.reduceSub, Array.replicate_succ, Array.replicate_zero, List.push_toArray, List.append_toArray, List.nil_append, List.cons_append]
  have hcs := hBs.cell
  have hreach' : (zs.length : Int) < 5864062014805 := by omega
  gi_wp2
  gi_loopw [3] (fun v wr => ∃ i : Int, -1 ≤ i ∧ i < zs.length ∧ v = .int .i64 i ∧ J (down zs i) wr ∧ KpB n₀ Bs W wr)
    (fun v _ => (intOf v + 1).toNat)
  case atStart => exact ⟨(zs.length : Int) - 1, by omega, by omega, rfl, by rw [down_start]; exact h0, KpB.refl _ _ _⟩
  case round =>
    obtain ⟨i, hi1, hi2, rfl, hJs, hnx⟩ := hrel
    have hbx : Boxed wr Bs 22 (.slice A zs.length cap) := hnx.2.trans hBs
    have hcx := hbx.cell
    by_cases hlt : 0 ≤ i
    · obtain ⟨ad, e, hx0, hx1⟩ := at_T35 hc i hlt hi2
      subst e
      have hbw := hb0.trans hnx.1
      replace hx0 := (hbw.cell (by rw [hn₀]; exact World.block_lt_of_cell? w0 _ hx0)).trans hx0
      replace hx1 := (hbw.cell (by rw [hn₀]; exact World.block_lt_of_cell? w0 _ hx1)).trans hx1
      obtain ⟨fn, tmps, assign, body, hy, hR⟩ := hY _ (i, rd_T35 zs i) wr hJs (by rw [down_length]; omega)
      have HI := Lib.hid hn₀
      clear hn₀
      gi_wp2
      refine hR.mono ?_
      rintro e W3 (⟨rfl, hJ3, hk3⟩ | ⟨rfl, hJx3⟩)
      · gi_wp2
        go_roundw
        case rel => exact ⟨i - 1, by omega, by omega, by simp, by rw [down_step zs i hi2]; exact hJ3, hnx.trans hk3⟩
        case measure => simp [intOf]; omega
      · gi_wp2
        refine bodyPost_ret (results_none rfl _ _ _) rfl ?_
        exact ⟨⟨_, rfl⟩, .inr ⟨_, by rw [← down_step zs i hi2]; exact down_prefix _ _ (by omega), hJx3⟩⟩
    · obtain rfl : i = -1 := by omega
      gi_wp2
      go_end0

      exact ⟨⟨_, rfl⟩, .inl hJs⟩
set_option maxHeartbeats 1000000 in
theorem backward_in (F : Fence) (n : Nat) (h5 : F.fn 79) (hro : F.round = none) (a : Option Addr) (len cap : Nat) (w : World) :
    CallsIn F n Try.prog 79 #[.slice a len cap] w fun e w' => e = .returned (.func (.func 107) #[] #[.pointer (some ⟨w.heap.size, 0, none⟩)]) ∧ w' = w.alloc (.cells #[.slice a len cap] 22) := by
  refine callsIn_of_wp Try.func79 rfl h5 ?_ hro
  simp only [Try.ntmps79, List.size_toArray, List.length_cons, List.length_nil, Nat.reduceAdd, Nat.reduceSub, Array.replicate_succ, Array.replicate_zero, List.push_toArray, List.append_toArray, List.nil_append, List.cons_append]
  gi_wp2
  go_ret
  exact ⟨rfl, rfl⟩
theorem backward_stops (F : Fence) (n : Nat) (h7 : F.fn 107) (hro : F.round = none) (hn : 1 ≤ n) (Bs cap : Nat) (A : Option Addr) (zs : List S35) (hreach : zs.length < 5864062014805) (w0 w : World) (hb : Below w0.heap.size w0 w) (hBs : Boxed w Bs 22 (.slice A zs.length cap)) (hc : Kd.C k35 w0 A zs.length zs) :
    SeqStopsK F n Try.prog 107 #[.pointer (some ⟨Bs, 0, none⟩)] (fun x : Int × S35 => #[Value.int .i64 x.1, .agg #[.int .u8 x.2.f0, .string x.2.f1]]) (KpB w0.heap.size Bs) (fun ys => ys = down zs (-1)) (fun pre => pre <+: down zs (-1)) zs.length w := fun l J Jx W hW _ _ hY h0 =>
  backward1_in F n h7 hro hn l Bs w0.heap.size cap A zs hreach J Jx hY w0 rfl hc W (hb.trans (hW.mono hb.size)) ((hW.block Bs hBs.lt).trans hBs) h0
/-- The place of the line feed in a text, or -1. -/
def lfAt (s : ByteArray) : Int := Lib.indexByte s.data.toList 10
theorem lf_calls (s : ByteArray) (w : World) :
    Calls Try.prog 80 #[.string s, .int .u8 10] w fun e w' => e = .returned (.int .i64 (lfAt s)) ∧ w = w' := (Try.strings_IndexByte s 10 w).mono fun _ _ ⟨he, hw⟩ => ⟨he, hw.symm⟩
def isOldB (c : Int) : Bool := c == 32 || c == 45
def isNewB (c : Int) : Bool := c == 32 || c == 43
def badB (m : S35) : Bool := (!isOldB m.f0 && !isNewB m.f0) || m.f1.toList.isEmpty || (decide (0 ≤ lfAt m.f1) && decide (lfAt m.f1 < wrap64 ((m.f1.size : Int) - 1)))
/-- One line more, seen from the end on: is there an old line behind, a new one? none: a line that is wrong. -/
def fstep (st : Option (Bool × Bool)) (m : S35) : Option (Bool × Bool) :=
  match st with
  | none => none
  | some (o, f) => if badB m then none else if decide (lfAt m.f1 < 0) && ((isOldB m.f0 && o) || (isNewB m.f0 && f)) then none else some (o || isOldB m.f0, f || isNewB m.f0)
def fieldsB (l : List S35) : Bool := (l.reverse.foldl fstep (some (false, false))).isSome
def fds (pre : List (Int × S35)) : Option (Bool × Bool) := (pre.map (·.2)).foldl fstep (some (false, false))
theorem fds_snoc (pre : List (Int × S35)) (x : Int × S35) : fds (pre ++ [x]) = fstep (fds pre) x.2 := by simp [fds]
theorem foldl_none (l : List S35) : l.foldl fstep none = none := by
  induction l with
  | nil => rfl
  | cons a l ih => exact ih
theorem fds_prefix {pre l : List (Int × S35)} (h : pre <+: l) (hn : fds pre = none) : fds l = none := by
  obtain ⟨r, rfl⟩ := h
  unfold fds at *
  rw [List.map_append, List.foldl_append, hn, foldl_none]
theorem fds_down (zs : List S35) : (fds (down zs (-1))).isSome = fieldsB zs := by unfold fds fieldsB; rw [down_all]
def blk2 (W : World) (B : Nat) (m : S35) : Prop := W.heap[B]? = some (.cells #[.int .u8 m.f0, .string m.f1] 35 (0, 0))
theorem blk2_own (B : Nat) (m : S35) : Own (fun (_ : Unit) W => blk2 W B m) := fun s X Y row hs hg hrow => by
  refine (hg.block B (Array.getElem?_eq_some_iff.1 hs).1 ?_).trans hs
  intro e
  obtain ⟨o, h1, h2⟩ := hrow B e.symm
  rw [show X.heap[B]? = _ from hs] at h1
  injection h1 with h1
  rw [← h1] at h2
  cases h2
theorem fstep_bad {o f : Bool} {m : S35} (h : badB m = true) : fstep (some (o, f)) m = none := by simp [fstep, h]
theorem fstep_stop {o f : Bool} {m : S35} (h : badB m = false) (h2 : (decide (lfAt m.f1 < 0) && ((isOldB m.f0 && o) || (isNewB m.f0 && f))) = true) : fstep (some (o, f)) m = none := by simp only [fstep, h]; simp [h2]
theorem fstep_go {o f : Bool} {m : S35} (h : badB m = false) (h2 : (decide (lfAt m.f1 < 0) && ((isOldB m.f0 && o) || (isNewB m.f0 && f))) = false) : fstep (some (o, f)) m = some (o || isOldB m.f0, f || isNewB m.f0) := by simp only [fstep, h]; simp [h2]
def hunks_fields.f (_ _ _ _ : Int) (l0_4 : List S35) : Option Bool := if l0_4.length < 5864062014805 then some (fieldsB l0_4) else none
set_option maxRecDepth 100000 in
set_option maxHeartbeats 8000000 in
theorem hunks_fields.calls (a0_0 : Int) (a0_1 : Int) (a0_2 : Int) (a0_3 : Int) (A0_4 : Option Addr) (c0_4 : Nat) (l0_4 : List S35) (r : Bool) (w : World) (hr0_4 : Kd.C k35 w A0_4 l0_4.length l0_4) (_hc0_4 : l0_4.length ≤ c0_4) (h : hunks_fields.f a0_0 a0_1 a0_2 a0_3 l0_4 = some r) :
    Calls Try.prog 45 #[.agg #[.int .i64 a0_0, .int .i64 a0_1, .int .i64 a0_2, .int .i64 a0_3, .slice A0_4 l0_4.length c0_4]] w fun e w' => e = .returned (.bool r) ∧ Below w.heap.size w w' := by
  unfold hunks_fields.f at h
  by_cases hlen : l0_4.length < 5864062014805
  case neg => rw [if_neg hlen] at h; exact absurd h (by simp)
  rw [if_pos hlen] at h
  have hres := Option.some.inj h
  clear h
  refine (callsIn_wide (n := 6)).1 ?_
  refine callsIn_of_wp_marks Try.func45 rfl trivial ?_ rfl
  simp only [Try.ntmps45, List.size_toArray, List.length_cons, List.length_nil, Nat.reduceAdd, Nat.reduceSub, Array.replicate_succ, Array.replicate_zero, List.push_toArray, List.append_toArray, List.nil_append, List.cons_append]
  have HRES := Lib.hid hres
  clear hres
  gi_wp2_with (refine ⟨trivial, ?_⟩; gi_at_call 79; refine (backward_in Fence.wide _ trivial rfl _ _ _ _).mono ?_; rintro e w' ⟨rfl, rfl⟩)
  have bR := (((Boxed.new (w.alloc (.cells #[.int .i64 a0_0, .int .i64 a0_1, .int .i64 a0_2, .int .i64 a0_3, .slice A0_4 l0_4.length c0_4] 24)) 4 (.bool false)).alloc (.cells #[.bool false] 4)).alloc (.cells #[.bool false] 4)).alloc (.cells #[.slice A0_4 l0_4.length c0_4] 22)
  have bO := ((Boxed.new ((w.alloc (.cells #[.int .i64 a0_0, .int .i64 a0_1, .int .i64 a0_2, .int .i64 a0_3, .slice A0_4 l0_4.length c0_4] 24)).alloc (.cells #[.bool false] 4)) 4 (.bool false)).alloc (.cells #[.bool false] 4)).alloc (.cells #[.slice A0_4 l0_4.length c0_4] 22)
  have bF := (Boxed.new (((w.alloc (.cells #[.int .i64 a0_0, .int .i64 a0_1, .int .i64 a0_2, .int .i64 a0_3, .slice A0_4 l0_4.length c0_4] 24)).alloc (.cells #[.bool false] 4)).alloc (.cells #[.bool false] 4)) 4 (.bool false)).alloc (.cells #[.slice A0_4 l0_4.length c0_4] 22)
  have bS := Boxed.new ((((w.alloc (.cells #[.int .i64 a0_0, .int .i64 a0_1, .int .i64 a0_2, .int .i64 a0_3, .slice A0_4 l0_4.length c0_4] 24)).alloc (.cells #[.bool false] 4)).alloc (.cells #[.bool false] 4)).alloc (.cells #[.bool false] 4)) 22 (.slice A0_4 l0_4.length c0_4)
  have hB0 : Below w.heap.size w (((((w.alloc (.cells #[.int .i64 a0_0, .int .i64 a0_1, .int .i64 a0_2, .int .i64 a0_3, .slice A0_4 l0_4.length c0_4] 24)).alloc (.cells #[.bool false] 4)).alloc (.cells #[.bool false] 4)).alloc (.cells #[.bool false] 4)).alloc (.cells #[.slice A0_4 l0_4.length c0_4] 22)) :=
    (((((Below.refl _ w).alloc (Nat.le_refl _) _).alloc (by simp) _).alloc (by simp; omega) _).alloc (by simp; omega) _).alloc (by simp; omega) _
  have hsz : (((((w.alloc (.cells #[.int .i64 a0_0, .int .i64 a0_1, .int .i64 a0_2, .int .i64 a0_3, .slice A0_4 l0_4.length c0_4] 24)).alloc (.cells #[.bool false] 4)).alloc (.cells #[.bool false] 4)).alloc (.cells #[.bool false] 4)).alloc (.cells #[.slice A0_4 l0_4.length c0_4] 22)).heap.size = w.heap.size + 5 := by simp
  simp only [World.size_alloc] at bR bO bF bS
  generalize hW0 : (((((w.alloc (.cells #[.int .i64 a0_0, .int .i64 a0_1, .int .i64 a0_2, .int .i64 a0_3, .slice A0_4 l0_4.length c0_4] 24)).alloc (.cells #[.bool false] 4)).alloc (.cells #[.bool false] 4)).alloc (.cells #[.bool false] 4)).alloc (.cells #[.slice A0_4 l0_4.length c0_4] 22)) = W0 at bR bO bF bS hB0 hsz ⊢
  clear hW0
  refine wpIn_rangeFunc_ownH rfl (by omega) (gf := 107) (lb := #[.pointer (some ⟨w.heap.size + 1 + 1 + 1 + 1, 0, none⟩)]) rfl trivial (enters_of Try.func107 (by kernel_rfl) rfl)
    (backward_stops Fence.wide _ trivial rfl (by omega) (w.heap.size + 1 + 1 + 1 + 1) c0_4 A0_4 l0_4 hlen w W0 hB0 bS hr0_4) KpB.trans (KpB.put (by omega) (by omega)) (Below.refl _ _) (fun _ => rfl)
    (fun pre W => (∃ o f : Bool, fds pre = some (o, f) ∧ Boxed W (w.heap.size + 1) 4 (.bool false) ∧ Boxed W (w.heap.size + 1 + 1) 4 (.bool o) ∧ Boxed W (w.heap.size + 1 + 1 + 1) 4 (.bool f) ∧ Boxed W (w.heap.size + 1 + 1 + 1 + 1) 22 (.slice A0_4 l0_4.length c0_4)) ∧ Below w.heap.size w W)
    (fun c pre W => ((c = .ret ∧ fds pre = none) ∧ Boxed W (w.heap.size + 1) 4 (.bool false)) ∧ Below w.heap.size w W)
    (OwnFrom.and (Own.from (fun s X Y row hs hg hr => by obtain ⟨o, f, h1, h2, h3, h4, h5⟩ := hs; exact ⟨o, f, h1, boxed_own _ _ (fun (_ : Unit) => Value.bool false) () X Y row h2 hg hr, boxed_own _ _ (fun (_ : Unit) => Value.bool o) () X Y row h3 hg hr, boxed_own _ _ (fun (_ : Unit) => Value.bool f) () X Y row h4 hg hr, boxed_own _ _ (fun (_ : Unit) => Value.slice A0_4 l0_4.length c0_4) () X Y row h5 hg hr⟩) _) (ownFrom_below (Nat.le_refl _) (by omega)))
    (fun c => OwnFrom.and (OwnFrom.and (ownFrom_pure _ _) (Own.from (boxed_own _ _ _) _)) (ownFrom_below (Nat.le_refl _) (by omega)))
    ⟨⟨false, false, rfl, bR, bO, bF, bS⟩, hB0⟩
    (fun x a' W => ∃ Bx, w.heap.size + 1 + 1 + 1 + 1 < Bx ∧ blk2 W Bx x.2 ∧ a' = { tmps := #[.agg #[.int .i64 a0_0, .int .i64 a0_1, .int .i64 a0_2, .int .i64 a0_3, .slice A0_4 l0_4.length c0_4], .pointer (some ⟨w.heap.size, 0, none⟩), .pointer (some ⟨w.heap.size + 1, 0, none⟩), .pointer (some ⟨w.heap.size + 1 + 1, 0, none⟩), .pointer (some ⟨w.heap.size + 1 + 1 + 1, 0, none⟩), undef, .pointer (some ⟨Bx, 0, none⟩), undef, undef, undef, .pointer (some ⟨w.heap.size, 4, none⟩), .slice A0_4 l0_4.length c0_4, .func (.func 107) #[] #[.pointer (some ⟨w.heap.size + 1 + 1 + 1 + 1, 0, none⟩)], .int .i64 x.1, .agg #[.int .u8 x.2.f0, .string x.2.f1], undef, undef, undef, undef, undef, undef, undef, undef, undef, undef, undef, undef, undef, undef, undef, undef, undef, undef, undef, undef, undef, undef, undef, undef, undef, undef, undef, undef, undef, undef, undef, undef, undef, undef, undef, undef, undef, undef, undef, undef, undef, undef, undef, undef, undef, undef, undef, undef, undef, undef, undef, undef, undef, undef, undef, undef, undef, undef, undef, undef, undef, undef, undef, undef], defers := [] })
    (fun x a' _ X Y row hs hg hr => by obtain ⟨Bx, h1, h2, h3⟩ := hs; exact ⟨Bx, h1, blk2_own Bx x.2 () X Y row h2 hg (fun r e => (hr r e).2), h3⟩)
    ?assign ?body ?done ?stop
  case assign =>
    rintro l pre x W K ⟨⟨o, f, h1, bR1, bO1, bF1, bS1⟩, hB1⟩ hK
    gi_wp2
    exact hK _ _ ((KeepsOthers.alloc _ _).from _) ⟨(Below.refl _ W).alloc hB1.size _, (bS1.alloc _).trans bS1.symm⟩ ⟨⟨o, f, h1, bR1.alloc _, bO1.alloc _, bF1.alloc _, bS1.alloc _⟩, hB1.alloc hB1.size _⟩ ⟨W.heap.size, bS1.lt, World.alloc_heap_new W _, rfl⟩
  case body =>
    rintro l pre x a' W hl ⟨rr, hrr⟩ ⟨⟨o, f, h1, bR1, bO1, bF1, bS1⟩, hB1⟩ ⟨Bx, hBx, bX, rfl⟩ hlt
    have hmx : Try.prog.follows .mixedOrders = true := by kernel_rfl
    have cx0 : W.cell? ⟨Bx, 0, none⟩ = some (.int .u8 x.2.f0) := (blk_cell bX 0).trans rfl
    have cx1 : W.cell? ⟨Bx, 1, none⟩ = some (.string x.2.f1) := (blk_cell bX 1).trans rfl
    have cO := bO1.cell
    have cF := bF1.cell
    gi_upto_region 5 with (refine ⟨trivial, ?_⟩; gi_at_call 80; refine (CallsIn.inRound l (callsIn_wide.2 (lf_calls _ _))).mono ?_; rintro e w' ⟨rfl, rfl⟩)

    gi_cut [8, 9] from 15 (fun s8 s9 wx => s8 = .bool (isOldB x.2.f0) ∧ s9 = .bool (isNewB x.2.f0) ∧ ∃ nq, wx = W.drewN nq)
    case first =>
      have hcase : ((x.2.f0 == 32) = true ∧ isOldB x.2.f0 = true ∧ isNewB x.2.f0 = true ∧ (x.2.f0 == 45) = false ∧ (x.2.f0 == 43) = false) ∨
          ((x.2.f0 == 32) = false ∧ isOldB x.2.f0 = true ∧ isNewB x.2.f0 = false ∧ (x.2.f0 == 45) = true ∧ (x.2.f0 == 43) = false) ∨
          ((x.2.f0 == 32) = false ∧ isOldB x.2.f0 = false ∧ isNewB x.2.f0 = true ∧ (x.2.f0 == 45) = false ∧ (x.2.f0 == 43) = true) ∨
          ((x.2.f0 == 32) = false ∧ isOldB x.2.f0 = false ∧ isNewB x.2.f0 = false ∧ (x.2.f0 == 45) = false ∧ (x.2.f0 == 43) = false) := by
        unfold isOldB isNewB
        by_cases e1 : x.2.f0 = 32
        · simp [e1]
        · by_cases e2 : x.2.f0 = 45
          · simp [e2]
          · by_cases e3 : x.2.f0 = 43
            · simp [e3]
            · simp [e1, e2, e3]
      rcases hcase with ⟨b1, hO, hN, b2, b3⟩ | ⟨b1, hO, hN, b2, b3⟩ | ⟨b1, hO, hN, b2, b3⟩ | ⟨b1, hO, hN, b2, b3⟩
      all_goals
        have HO := Lib.hid hO
        have HN := Lib.hid hN
        clear hO hN
        refine wpInR_region_quiet_lit (by kernel_rfl) hmx (by kernel_rfl) ?_
        repeat (gi_big_quiet_step (fail))
        refine wpQuietIn_nil ?_
        intro _ hw'
        obtain ⟨nq, hw''⟩ := hw'
        subst hw''
        gi_wp2
        gi_meet
        case rel => exact ⟨by rw [HO.out], by rw [HN.out], nq, rfl⟩
    case rest =>
      obtain ⟨rfl, rfl, nq, rfl⟩ := hcut
      generalize hbo : isOldB x.2.f0 = bo
      generalize hbn : isNewB x.2.f0 = bn
      have HBO := Lib.hid hbo
      have HBN := Lib.hid hbn
      clear hbo hbn
      have hdr : (W.drewN nq).heap = W.heap := rfl
      generalize hW2 : W.drewN nq = W2 at hdr ⊢
      have hK2 : KeepsFrom W0.heap.size W W2 := ⟨by rw [hdr]; exact Nat.le_refl _, fun k o _ hk _ => by rw [hdr]; exact hk⟩
      have hP2 : Below w.heap.size W W2 := by rw [← hW2]; exact ⟨rfl, rfl, rfl, Nat.le_refl _, fun _ _ => rfl⟩
      replace cx1 : W2.cell? ⟨Bx, 1, none⟩ = some (.string x.2.f1) := by rw [← cx1]; simp [World.cell?, hdr]
      have bO2 : Boxed W2 (w.heap.size + 1 + 1) 4 (.bool o) := by unfold Boxed; rw [hdr]; exact bO1
      have bF2 : Boxed W2 (w.heap.size + 1 + 1 + 1) 4 (.bool f) := by unfold Boxed; rw [hdr]; exact bF1
      have bR2 : Boxed W2 (w.heap.size + 1) 4 (.bool false) := by unfold Boxed; rw [hdr]; exact bR1
      have bS2 : Boxed W2 (w.heap.size + 1 + 1 + 1 + 1) 22 (.slice A0_4 l0_4.length c0_4) := by unfold Boxed; rw [hdr]; exact bS1
      have hB2 := hB1.trans hP2
      have HS1 := Lib.hid bS1
      clear hW2 hdr cO cF cx0 bO1 bF1 bR1 bS1 hrr bX hmx
      have cR := bR2.cell
      have cO := bO2.cell
      have cF := bF2.cell
      have fR := bR2.frozen
      have fO := bO2.frozen
      have fF := bF2.frozen

      gi_upto_region 6 with (fail)
      gi_cut [56] from 15 (fun s56 wx => s56 = .bool ((!bo && !bn) || x.2.f1.toList.isEmpty || (decide (0 ≤ lfAt x.2.f1) && decide (lfAt x.2.f1 < wrap64 ((x.2.f1.size : Int) - 1)))) ∧ W2 = wx)
      case first =>
        by_cases he : x.2.f1.toList = []
        · have he2 : x.2.f1.toList.isEmpty = true := by simp [he]
          have he3 : (!x.2.f1.toList.isEmpty) = false := by simp [he]
          cases bo <;> cases bn
          all_goals gi_wp2_with fail
          all_goals first | (exact absurd (‹some undef = some (Value.bool _)›) (by simp [undef])) | (gi_meet; exact ⟨by simp [he], rfl⟩)
        · have he2 : x.2.f1.toList.isEmpty = false := by simpa using he
          have he3 : (!x.2.f1.toList.isEmpty) = true := by simpa using he
          by_cases hp : 0 ≤ lfAt x.2.f1
          · have hp2 : decide (0 ≤ lfAt x.2.f1) = true := decide_eq_true hp
            by_cases hq : lfAt x.2.f1 < wrap64 ((x.2.f1.size : Int) - 1)
            · have hq2 : decide (lfAt x.2.f1 < wrap64 ((x.2.f1.size : Int) - 1)) = true := decide_eq_true hq
              clear hp hq he
              cases bo <;> cases bn
              all_goals gi_wp2_with fail
              all_goals first | (exact absurd (‹some undef = some (Value.bool _)›) (by simp [undef])) | (gi_meet; exact ⟨by simp [he2, hp2, hq2], rfl⟩)
            · have hq2 : decide (lfAt x.2.f1 < wrap64 ((x.2.f1.size : Int) - 1)) = false := decide_eq_false hq
              clear hp hq he
              cases bo <;> cases bn
              all_goals gi_wp2_with fail
              all_goals first | (exact absurd (‹some undef = some (Value.bool _)›) (by simp [undef])) | (gi_meet; exact ⟨by simp [he2, hp2, hq2], rfl⟩)
          · have hp2 : decide (0 ≤ lfAt x.2.f1) = false := decide_eq_false hp
            clear hp he
            cases bo <;> cases bn
            all_goals gi_wp2_with fail
            all_goals first | (exact absurd (‹some undef = some (Value.bool _)›) (by simp [undef])) | (gi_meet; exact ⟨by simp [he2, hp2], rfl⟩)
      case rest =>
        obtain ⟨rfl, rfl⟩ := hcut
        have hbb : badB x.2 = ((!bo && !bn) || x.2.f1.toList.isEmpty || (decide (0 ≤ lfAt x.2.f1) && decide (lfAt x.2.f1 < wrap64 ((x.2.f1.size : Int) - 1)))) := by unfold badB; rw [HBO.out, HBN.out]
        cases hbad : ((!bo && !bn) || x.2.f1.toList.isEmpty || (decide (0 ≤ lfAt x.2.f1) && decide (lfAt x.2.f1 < wrap64 ((x.2.f1.size : Int) - 1))))
        · rw [hbad] at hbb
          have HBB := Lib.hid hbb
          clear hbb hbad
          gi_upto_region 8 with fail
          gi_cut [70] from 57 (fun s70 wx => s70 = .bool (decide (lfAt x.2.f1 < 0) && ((bo && o) || (bn && f))) ∧ W2 = wx)
          case first =>
            by_cases hp : lfAt x.2.f1 < 0
            · have hp2 : decide (lfAt x.2.f1 < 0) = true := decide_eq_true hp
              clear hp
              cases bo <;> cases bn <;> cases o <;> cases f
              all_goals gi_wp2_with fail
              all_goals first | (exact absurd (‹some undef = some (Value.bool _)›) (by simp [undef])) | (gi_meet; exact ⟨by simp [hp2], rfl⟩)
            · have hp2 : decide (lfAt x.2.f1 < 0) = false := decide_eq_false hp
              clear hp
              gi_wp2_with fail
              all_goals first | (exact absurd (‹some undef = some (Value.bool _)›) (by simp [undef])) | (gi_meet; exact ⟨by simp [hp2], rfl⟩)
          case rest =>
            obtain ⟨rfl, rfl⟩ := hcut
            have hst : ((decide (lfAt x.2.f1 < 0) && ((isOldB x.2.f0 && o) || (isNewB x.2.f0 && f)))) = (decide (lfAt x.2.f1 < 0) && ((bo && o) || (bn && f))) := by rw [HBO.out, HBN.out]
            cases hsb : (decide (lfAt x.2.f1 < 0) && ((bo && o) || (bn && f)))
            · rw [hsb] at hst
              have HST := Lib.hid hst
              clear hst hsb
              cases o <;> cases f
              all_goals
                gi_wp2
                exact ⟨hK2.trans (((KeepsOthers.setCell _ _ _).trans (KeepsOthers.setCell _ _ _)).from _),
                  ⟨(hP2.setCell (p := ⟨w.heap.size + 1 + 1, 0, none⟩) (by simp; omega) _).setCell (p := ⟨w.heap.size + 1 + 1 + 1, 0, none⟩) (by simp; omega) _, (((bS2.other (by omega) _).other (by omega) _).trans HS1.out.symm)⟩,
                  ⟨⟨_, _, by rw [fds_snoc, h1, fstep_go HBB.out HST.out, HBO.out, HBN.out]; simp, (bR2.other (by omega) _).other (by omega) _, (bO2.set _).other (by omega) _, (bF2.other (by omega) _).set _, (bS2.other (by omega) _).other (by omega) _⟩,
                    (hB2.setCell (p := ⟨w.heap.size + 1 + 1, 0, none⟩) (by simp; omega) _).setCell (p := ⟨w.heap.size + 1 + 1 + 1, 0, none⟩) (by simp; omega) _⟩⟩
            · rw [hsb] at hst
              have HST := Lib.hid hst
              clear hst hsb
              gi_wp2
              exact ⟨hK2.trans ((KeepsOthers.setCell _ _ _).from _), ⟨⟨rfl, by rw [fds_snoc, h1, fstep_stop HBB.out HST.out]⟩, bR2.set _⟩, hB2.setCell (p := ⟨w.heap.size + 1, 0, none⟩) (by simp) _⟩
        · rw [hbad] at hbb
          have HBB := Lib.hid hbb
          clear hbb hbad
          gi_wp2
          exact ⟨hK2.trans ((KeepsOthers.setCell _ _ _).from _), ⟨⟨rfl, by rw [fds_snoc, h1, fstep_bad HBB.out]⟩, bR2.set _⟩, hB2.setCell (p := ⟨w.heap.size + 1, 0, none⟩) (by simp) _⟩
  case done =>
    rintro D ys W hD rfl ⟨⟨o, f, h1, bR1, bO1, bF1, bS1⟩, hB1⟩ hK
    have cR := bR1.cell
    have fR := bR1.frozen
    gi_wp2
    have hK' := (KeepsOthers.setCell W ⟨w.heap.size + 1, 0, none⟩ (.bool true)).same D _ hK rfl
    refine ⟨by simp, .inl ⟨_, _, rfl, run_takeDeferred hK', ?_⟩⟩
    have hc5 := Go.cell_kept (bR1.set (.bool true)).cell (grownBy_putObj' _ D (.deferred none)) (fun r e => by cases e; exact ⟨_, hK', rfl⟩)
    refine ⟨.bool true, by simp [results, Try.f45, go_sem, hc5], by rw [← HRES.out, ← fds_down, h1]; rfl, (hB1.setCell (p := ⟨w.heap.size + 1, 0, none⟩) (by simp) _).trans (belowK_b (w := w) (Nat.le_refl _) _ D _ _ (by omega) hK' rfl rfl)⟩
  case stop =>
    rintro D c pre W hD hpre ⟨⟨⟨rfl, hno⟩, bR1⟩, hB1⟩ hK
    gi_wp2
    refine ⟨by simp, .inl ⟨_, _, rfl, run_takeDeferred hK, ?_⟩⟩
    have hc5 := Go.cell_kept bR1.cell (grownBy_putObj' _ D (.deferred none)) (fun r e => by cases e; exact ⟨_, hK, rfl⟩)
    refine ⟨.bool false, by simp [results, Try.f45, go_sem, hc5], by rw [← HRES.out, ← fds_down, fds_prefix hpre hno]; rfl, hB1.trans (belowK_b (w := w) (Nat.le_refl _) W D _ _ (by omega) hK rfl rfl)⟩
end Go.Proofs.Ytnllemlmgbjjnaa.PA
namespace Go.Proofs.Ytnllemlmgbjjnaa.PA
set_option linter.unusedVariables false
set_option linter.unusedSimpArgs false
open Go.RowKit Go.Shelf Go.Proofs.YtnllemlmgbjjnaaW.PrintWords Go.Proofs.YtnllemlmgbjjnaaW.PrintLast Go.Proofs.YtnllemlmgbjjnaaW.PrintMore
def chgB (l : List S35) : Bool := l.any fun m => m.f0 != 32
theorem check1_calls (x0 : Int) (x1 : ByteArray) (w : World) :
    Calls Try.prog 43 #[.agg #[.int .u8 x0, .string x1]] w fun e w' => e = .returned (.bool (x0 != 32)) ∧ Below w.heap.size w w' := by
  go_enter Try.func43, Try.ntmps43
  go_wp2
  go_ret
  exact ⟨rfl, (Below.refl _ _).alloc (Nat.le_refl _) _⟩
def IdxSpec (l : List S35) (w : World) (e : Ending) (w' : World) : Prop := ∃ i : Int, e = .returned (.int .i64 i) ∧ decide (0 ≤ i) = chgB l ∧ Below w.heap.size w w'
theorem chg_yes {l : List S35} {i : Int} (h0 : 0 ≤ i) (h1 : i < l.length) (h : ((rd_T35 l i).f0 != 32) = true) : chgB l = true := by
  unfold chgB
  rw [List.any_eq_true]
  refine ⟨rd_T35 l i, ?_, h⟩
  unfold rd_T35
  rw [List.getD_eq_getElem?_getD, List.getElem?_eq_getElem (by omega)]
  exact List.getElem_mem _
theorem chg_no {l : List S35} (h : ∀ j : Int, 0 ≤ j → j < l.length → ((rd_T35 l j).f0 != 32) = false) : chgB l = false := by
  unfold chgB
  rw [List.any_eq_false]
  intro m hm
  obtain ⟨k, hk, rfl⟩ := List.getElem_of_mem hm
  have := h k (by omega) (by omega)
  unfold rd_T35 at this
  rw [List.getD_eq_getElem?_getD, List.getElem?_eq_getElem (by omega)] at this
  simpa using this
set_option maxRecDepth 100000 in
set_option maxHeartbeats 2000000 in
theorem indexFunc_calls (A : Option Addr) (c : Nat) (l : List S35) (w : World) (hr : Kd.C k35 w A l.length l) (hlen : l.length < 5864062014805) :
    Calls Try.prog 81 #[.slice A l.length c, .func (.func 43) #[] #[]] w (IdxSpec l w) := by
  have hlen' : (l.length : Int) < 5864062014805 := by omega
  go_enter Try.func81, Try.ntmps81
  go_wp2
  go_loopw [5, 8] (fun _ v8 wr => ∃ i : Int, 0 ≤ i ∧ i ≤ l.length ∧ v8 = .int .i64 i ∧ Aside0 (Below w.heap.size w wr) ∧ Aside0 (∀ j : Int, 0 ≤ j → j < i → ((rd_T35 l j).f0 != 32) = false)) (fun _ v8 _ => l.length - (intOf v8).toNat)
  case atStart => exact ⟨0, by omega, by omega, rfl, ⟨Below.refl _ _⟩, ⟨fun j h1 h2 => by omega⟩⟩
  case round =>
    obtain ⟨i, h0, h1, rfl, HB, HA⟩ := hrel
    by_cases hlt : i < l.length
    · obtain ⟨ad, e, hx0, hx1⟩ := at_T35 hr i h0 hlt
      subst e
      replace hx0 := (HB.out.cell (World.block_lt_of_cell? w _ hx0)).trans hx0
      replace hx1 := (HB.out.cell (World.block_lt_of_cell? w _ hx1)).trans hx1
      have hcall := check1_calls (rd_T35 l i).f0 (rd_T35 l i).f1 wr
      cases hq : ((rd_T35 l i).f0 != 32)
      · rw [hq] at hcall
        have HQ := Lib.hid hq
        clear hq
        go_wp2_with (go_at_call 43; refine hcall.mono ?_; rintro e w' ⟨rfl, hb'⟩)
        go_roundw
        case rel =>
          refine ⟨i + 1, by omega, by omega, by simp, ⟨HB.out.trans (hb'.mono HB.out.size)⟩, ⟨fun j hj1 hj2 => ?_⟩⟩
          by_cases e : j = i
          · rw [e]; exact HQ.out
          · exact HA.out j hj1 (by omega)
        case measure => simp [intOf]; omega
      · rw [hq] at hcall
        have HQ := Lib.hid hq
        clear hq
        go_wp2_with (go_at_call 43; refine hcall.mono ?_; rintro e w' ⟨rfl, hb'⟩)
        go_ret
        exact ⟨i, rfl, by rw [chg_yes h0 hlt HQ.out]; simpa using h0, HB.out.trans (hb'.mono HB.out.size)⟩
    · obtain rfl : i = l.length := by omega
      go_wp2
      go_ret
      exact ⟨-1, rfl, by rw [chg_no HA.out]; rfl, HB.out⟩
set_option maxHeartbeats 1000000 in
theorem containsFunc_calls (A : Option Addr) (c : Nat) (l : List S35) (w : World) (hr : Kd.C k35 w A l.length l) (hlen : l.length < 5864062014805) :
    Calls Try.prog 46 #[.slice A l.length c, .func (.func 43) #[] #[]] w fun e w' => e = .returned (.bool (chgB l)) ∧ Below w.heap.size w w' := by
  have hcall := indexFunc_calls A c l w hr hlen
  go_enter Try.func46, Try.ntmps46
  go_wp2_with (go_at_call 81; refine hcall.mono ?_; rintro e w' ⟨i, rfl, hi, hb⟩)
  go_ret
  exact ⟨rfl, hb⟩
/-- slices.ContainsFunc, told at the closure of hunks.Check alone. -/
def slices_ContainsFunc_Mark.f (l0 : List S35) (a1 : Value) : Option Bool :=
  match a1 with
  | .func (.func 43) t b => if t.size = 0 ∧ b.size = 0 ∧ l0.length < 5864062014805 then some (chgB l0) else none
  | _ => none
theorem slices_ContainsFunc_Mark.calls (A0 : Option Addr) (c0 : Nat) (l0 : List S35) (a1 : Value) (r : Bool) (w : World) (hr0 : Kd.C k35 w A0 l0.length l0) (_hc0 : l0.length ≤ c0) (h : slices_ContainsFunc_Mark.f l0 a1 = some r) :
    Calls Try.prog 46 #[.slice A0 l0.length c0, a1] w fun e w' => e = .returned (.bool r) ∧ Below w.heap.size w w' := by
  unfold slices_ContainsFunc_Mark.f at h
  split at h
  · rename_i t b
    by_cases hc : t.size = 0 ∧ b.size = 0 ∧ l0.length < 5864062014805
    · rw [if_pos hc] at h
      obtain rfl := Option.some.inj h
      obtain rfl := Array.eq_empty_of_size_eq_zero hc.1
      obtain rfl := Array.eq_empty_of_size_eq_zero hc.2.1
      exact containsFunc_calls A0 c0 l0 w hr0 hc.2.2
    · rw [if_neg hc] at h
      exact absurd h (by simp)
  · exact absurd h (by simp)
end Go.Proofs.Ytnllemlmgbjjnaa.PA
namespace Go.Proofs.Ytnllemlmgbjjnaa.PA
open Go.RowKit Go.Proofs.YtnllemlmgbjjnaaW.PrintWords Go.Proofs.YtnllemlmgbjjnaaW.PrintLast Go.Proofs.YtnllemlmgbjjnaaW.PrintMore
attribute [local go_sem] max2_int min2_int max_two min_two max_three min_three max_four min_four   -- for this text's walks alone
set_option linter.unusedVariables false
set_option linter.unusedSimpArgs false
mutual
def hunks_Check.j0 : Nat → Value → Bool → Int → Int → Int → Int → List (S35) → Option (Int)
  | 0, _, _, _, _, _, _, _ => none
  | k + 1, x3, x4, x131000, x131001, x131002, x131003, x131004 => if x4 = true then (some 2) else ((hunks_fields.f x131000 x131001 x131002 x131003 x131004).bind fun t135 => (if t135 = true then ((hunks_Old.f k x131000 x131001 x131002 x131003 x131004).bind fun t136 => (if x131001 = (t136.length : Int) then ((hunks_New.f k x131000 x131001 x131002 x131003 x131004).bind fun t139 => (hunks_Check.j1 k x3 (x131003 != (t139.length : Int)) x131000 x131001 x131002 x131003 x131004)) else (hunks_Check.j1 k x3 true x131000 x131001 x131002 x131003 x131004))) else (some 6)))
def hunks_Check.j1 : Nat → Value → Bool → Int → Int → Int → Int → List (S35) → Option (Int)
  | 0, _, _, _, _, _, _, _ => none
  | k + 1, x3, x47, x131000, x131001, x131002, x131003, x131004 => if x47 = true then (some 120) else ((slices_ContainsFunc_Mark.f x131004 x3).bind fun t142 => (if t142 = true then (some 0) else (some 50)))
end
def hunks_Check.f (k : Nat) (a0_0 : Int) (a0_1 : Int) (a0_2 : Int) (a0_3 : Int) (l0_4 : List (S35)) : Option (Int) := (hunks_number.f a0_0).bind fun t131 => (if t131 = true then ((hunks_number.f a0_1).bind fun t132 => (if t132 = true then ((hunks_number.f a0_2).bind fun t133 => (if t133 = true then ((hunks_number.f a0_3).bind fun t134 => (if t134 = true then (if a0_0 < (mn 1 a0_1) then (hunks_Check.j0 k (.func (.func 43) #[] #[] : Value) true a0_0 a0_1 a0_2 a0_3 l0_4) else (hunks_Check.j0 k (.func (.func 43) #[] #[] : Value) (decide (a0_2 < (mn 1 a0_3))) a0_0 a0_1 a0_2 a0_3 l0_4)) else (hunks_Check.j0 k (.func (.func 43) #[] #[] : Value) true a0_0 a0_1 a0_2 a0_3 l0_4))) else (hunks_Check.j0 k (.func (.func 43) #[] #[] : Value) true a0_0 a0_1 a0_2 a0_3 l0_4))) else (hunks_Check.j0 k (.func (.func 43) #[] #[] : Value) true a0_0 a0_1 a0_2 a0_3 l0_4))) else (hunks_Check.j0 k (.func (.func 43) #[] #[] : Value) true a0_0 a0_1 a0_2 a0_3 l0_4))
def hunks_Check.T6 : Bool × List (List Nat × List Nat) := (true, [([], []), ([0], [0]), ([], []), ([2], [2]), ([3], [3]), ([1, 4], [1, 4]), ([5, 3], [5]), ([6], [6]), ([7, 6], [6, 7]), ([6], [6]), ([9, 6, 6], [6, 9]), ([10, 6], [6, 10]), ([8, 11, 6], [6, 8, 11]), ([6, 12], [6, 12]), ([13, 10], [13])])
def hunks_Check.B6 : List Nat := [0, 1, 0, 4, 12, 31, 63, 127, 255, 127, 639, 1663, 4095, 8191, 16383]
theorem hunks_Check.tab6 : rtab .any (opsOf Try.f14 6) = hunks_Check.T6 := by kernel_rfl
theorem hunks_Check.bits6 : waitsOk hunks_Check.T6.2 hunks_Check.B6 = true := by kernel_rfl
set_option maxHeartbeats 8000000 in
set_option maxRecDepth 100000 in
theorem hunks_Check.calls (k : Nat) (a0_0 : Int) (a0_1 : Int) (a0_2 : Int) (a0_3 : Int) (A0_4 : Option Addr) (c0_4 : Nat) (l0_4 : List (S35)) (r : Int) (w : World) (hr0_4 : Kd.C k35 w A0_4 l0_4.length l0_4) (hc0_4 : l0_4.length ≤ c0_4) (h : hunks_Check.f k a0_0 a0_1 a0_2 a0_3 l0_4 = some r) :
    Calls Try.prog 14 #[.agg #[.int .i64 a0_0, .int .i64 a0_1, .int .i64 a0_2, .int .i64 a0_3, .slice A0_4 l0_4.length c0_4]] w fun e w' => e = .returned (.int .i64 r) ∧ Below w.heap.size w w' := by
  have hu24 := Try.underlying24
  have HR0_4 := Aside0.mk hr0_4
  have HC0_4 := Aside0.mk hc0_4
  clear hr0_4 hc0_4
  have HB := Aside0.mk (Below.refl w.heap.size w)
  have H : ((hunks_number.f a0_0).bind fun t131 => (if t131 = true then ((hunks_number.f a0_1).bind fun t132 => (if t132 = true then ((hunks_number.f a0_2).bind fun t133 => (if t133 = true then ((hunks_number.f a0_3).bind fun t134 => (if t134 = true then (if a0_0 < (mn 1 a0_1) then (hunks_Check.j0 k (.func (.func 43) #[] #[] : Value) true a0_0 a0_1 a0_2 a0_3 l0_4) else (hunks_Check.j0 k (.func (.func 43) #[] #[] : Value) (decide (a0_2 < (mn 1 a0_3))) a0_0 a0_1 a0_2 a0_3 l0_4)) else (hunks_Check.j0 k (.func (.func 43) #[] #[] : Value) true a0_0 a0_1 a0_2 a0_3 l0_4))) else (hunks_Check.j0 k (.func (.func 43) #[] #[] : Value) true a0_0 a0_1 a0_2 a0_3 l0_4))) else (hunks_Check.j0 k (.func (.func 43) #[] #[] : Value) true a0_0 a0_1 a0_2 a0_3 l0_4))) else (hunks_Check.j0 k (.func (.func 43) #[] #[] : Value) true a0_0 a0_1 a0_2 a0_3 l0_4))) = some r := h
  clear h
  have HC2 := Aside0.mk H
  clear H
  go_enter Try.func14, Try.ntmps14
  go_upto_region 2 with (first | ((with_reducible refine gate_dst (N := 1) rfl ?_); (try (refine gate_guard (by rfl) ?_; dsimp only)); refine box_event ?hg (N := 1) ?hd (cs := #[.int .i64 a0_0, .int .i64 a0_1, .int .i64 a0_2, .int .i64 a0_3, .slice A0_4 l0_4.length c0_4]) (t := 24) ?hr ?_; (case hd => rfl); (case hg => rfl); (case hr => first | (go_simp; done) | (go_simp; rfl)); intro gb130 hg w3 hbox hb; have n0_ := Aside0.mk (below_step (by repeat (first | (with_reducible first | exact HB.out | apply below_alloc | apply pw_below_drewN | apply below_drew1) | exact HB.out)) hb); have n1_ := Aside0.mk (hbox); have n2_ := Aside0.mk ((by rw [hg]; exact (below_size (by repeat (first | (with_reducible first | exact HB.out | apply below_alloc | apply pw_below_drewN | apply below_drew1) | exact HB.out))) : w.heap.size ≤ gb130)); have n3_ := Aside0.mk ((by rw [hg]; exact (below_size (by repeat (first | (with_reducible first | exact HB.out | apply below_alloc | apply pw_below_drewN | apply below_drew1) | exact HB.out))) : w.heap.size ≤ gb130)); clear HB; have HB := n0_; have BK130 := n1_; have GW130 := n2_; have GE130 := n3_; clear n0_ n1_ n2_ n3_; clear hb hbox hg))
  (try simp only [Act.put, List.setIfInBounds_toArray, List.set_cons_zero, List.set_cons_succ])
  go_cut [4] (fun v4 wc => ∃ (kq : Nat) (x4_1 : Bool), v4 = .bool x4_1 ∧ Aside0 (hunks_Check.j0 kq (.func (.func 43) #[] #[] : Value) x4_1 a0_0 a0_1 a0_2 a0_3 l0_4 = some r) ∧ Aside0 (kq ≤ k) ∧ Aside0 (wc.heap[gb130]? = some (.cells #[.int .i64 a0_0, .int .i64 a0_1, .int .i64 a0_2, .int .i64 a0_3, (.slice A0_4 l0_4.length c0_4)] 24 (0, 0))) ∧ Aside0 (Below w.heap.size w wc))
  case first =>
    have H := HC2.out
    clear HC2
    replace H := Option.bind_eq_some_iff.mp H
    obtain ⟨t131, A40, H⟩ := H
    replace H : (if t131 = true then ((hunks_number.f a0_1).bind fun t132 => (if t132 = true then ((hunks_number.f a0_2).bind fun t133 => (if t133 = true then ((hunks_number.f a0_3).bind fun t134 => (if t134 = true then (if a0_0 < (mn 1 a0_1) then (hunks_Check.j0 k (.func (.func 43) #[] #[] : Value) true a0_0 a0_1 a0_2 a0_3 l0_4) else (hunks_Check.j0 k (.func (.func 43) #[] #[] : Value) (decide (a0_2 < (mn 1 a0_3))) a0_0 a0_1 a0_2 a0_3 l0_4)) else (hunks_Check.j0 k (.func (.func 43) #[] #[] : Value) true a0_0 a0_1 a0_2 a0_3 l0_4))) else (hunks_Check.j0 k (.func (.func 43) #[] #[] : Value) true a0_0 a0_1 a0_2 a0_3 l0_4))) else (hunks_Check.j0 k (.func (.func 43) #[] #[] : Value) true a0_0 a0_1 a0_2 a0_3 l0_4))) else (hunks_Check.j0 k (.func (.func 43) #[] #[] : Value) true a0_0 a0_1 a0_2 a0_3 l0_4)) = some r := H
    have A4 := Aside0.mk A40
    clear A40
    by_cases c5 : t131 = true
    · subst c5
      have H1 : ((hunks_number.f a0_1).bind fun t132 => (if t132 = true then ((hunks_number.f a0_2).bind fun t133 => (if t133 = true then ((hunks_number.f a0_3).bind fun t134 => (if t134 = true then (if a0_0 < (mn 1 a0_1) then (hunks_Check.j0 k (.func (.func 43) #[] #[] : Value) true a0_0 a0_1 a0_2 a0_3 l0_4) else (hunks_Check.j0 k (.func (.func 43) #[] #[] : Value) (decide (a0_2 < (mn 1 a0_3))) a0_0 a0_1 a0_2 a0_3 l0_4)) else (hunks_Check.j0 k (.func (.func 43) #[] #[] : Value) true a0_0 a0_1 a0_2 a0_3 l0_4))) else (hunks_Check.j0 k (.func (.func 43) #[] #[] : Value) true a0_0 a0_1 a0_2 a0_3 l0_4))) else (hunks_Check.j0 k (.func (.func 43) #[] #[] : Value) true a0_0 a0_1 a0_2 a0_3 l0_4))) = some r := by rw [if_pos rfl] at H; exact H
      clear H
      have H := H1
      clear H1
      replace H := Option.bind_eq_some_iff.mp H
      obtain ⟨t132, A60, H⟩ := H
      replace H : (if t132 = true then ((hunks_number.f a0_2).bind fun t133 => (if t133 = true then ((hunks_number.f a0_3).bind fun t134 => (if t134 = true then (if a0_0 < (mn 1 a0_1) then (hunks_Check.j0 k (.func (.func 43) #[] #[] : Value) true a0_0 a0_1 a0_2 a0_3 l0_4) else (hunks_Check.j0 k (.func (.func 43) #[] #[] : Value) (decide (a0_2 < (mn 1 a0_3))) a0_0 a0_1 a0_2 a0_3 l0_4)) else (hunks_Check.j0 k (.func (.func 43) #[] #[] : Value) true a0_0 a0_1 a0_2 a0_3 l0_4))) else (hunks_Check.j0 k (.func (.func 43) #[] #[] : Value) true a0_0 a0_1 a0_2 a0_3 l0_4))) else (hunks_Check.j0 k (.func (.func 43) #[] #[] : Value) true a0_0 a0_1 a0_2 a0_3 l0_4)) = some r := H
      have A6 := Aside0.mk A60
      clear A60
      by_cases c7 : t132 = true
      · subst c7
        have H1 : ((hunks_number.f a0_2).bind fun t133 => (if t133 = true then ((hunks_number.f a0_3).bind fun t134 => (if t134 = true then (if a0_0 < (mn 1 a0_1) then (hunks_Check.j0 k (.func (.func 43) #[] #[] : Value) true a0_0 a0_1 a0_2 a0_3 l0_4) else (hunks_Check.j0 k (.func (.func 43) #[] #[] : Value) (decide (a0_2 < (mn 1 a0_3))) a0_0 a0_1 a0_2 a0_3 l0_4)) else (hunks_Check.j0 k (.func (.func 43) #[] #[] : Value) true a0_0 a0_1 a0_2 a0_3 l0_4))) else (hunks_Check.j0 k (.func (.func 43) #[] #[] : Value) true a0_0 a0_1 a0_2 a0_3 l0_4))) = some r := by rw [if_pos rfl] at H; exact H
        clear H
        have H := H1
        clear H1
        replace H := Option.bind_eq_some_iff.mp H
        obtain ⟨t133, A80, H⟩ := H
        replace H : (if t133 = true then ((hunks_number.f a0_3).bind fun t134 => (if t134 = true then (if a0_0 < (mn 1 a0_1) then (hunks_Check.j0 k (.func (.func 43) #[] #[] : Value) true a0_0 a0_1 a0_2 a0_3 l0_4) else (hunks_Check.j0 k (.func (.func 43) #[] #[] : Value) (decide (a0_2 < (mn 1 a0_3))) a0_0 a0_1 a0_2 a0_3 l0_4)) else (hunks_Check.j0 k (.func (.func 43) #[] #[] : Value) true a0_0 a0_1 a0_2 a0_3 l0_4))) else (hunks_Check.j0 k (.func (.func 43) #[] #[] : Value) true a0_0 a0_1 a0_2 a0_3 l0_4)) = some r := H
        have A8 := Aside0.mk A80
        clear A80
        by_cases c9 : t133 = true
        · subst c9
          have H1 : ((hunks_number.f a0_3).bind fun t134 => (if t134 = true then (if a0_0 < (mn 1 a0_1) then (hunks_Check.j0 k (.func (.func 43) #[] #[] : Value) true a0_0 a0_1 a0_2 a0_3 l0_4) else (hunks_Check.j0 k (.func (.func 43) #[] #[] : Value) (decide (a0_2 < (mn 1 a0_3))) a0_0 a0_1 a0_2 a0_3 l0_4)) else (hunks_Check.j0 k (.func (.func 43) #[] #[] : Value) true a0_0 a0_1 a0_2 a0_3 l0_4))) = some r := by rw [if_pos rfl] at H; exact H
          clear H
          have H := H1
          clear H1
          replace H := Option.bind_eq_some_iff.mp H
          obtain ⟨t134, A100, H⟩ := H
          replace H : (if t134 = true then (if a0_0 < (mn 1 a0_1) then (hunks_Check.j0 k (.func (.func 43) #[] #[] : Value) true a0_0 a0_1 a0_2 a0_3 l0_4) else (hunks_Check.j0 k (.func (.func 43) #[] #[] : Value) (decide (a0_2 < (mn 1 a0_3))) a0_0 a0_1 a0_2 a0_3 l0_4)) else (hunks_Check.j0 k (.func (.func 43) #[] #[] : Value) true a0_0 a0_1 a0_2 a0_3 l0_4)) = some r := H
          have A10 := Aside0.mk A100
          clear A100
          by_cases c11 : t134 = true
          · subst c11
            have H1 : (if a0_0 < (mn 1 a0_1) then (hunks_Check.j0 k (.func (.func 43) #[] #[] : Value) true a0_0 a0_1 a0_2 a0_3 l0_4) else (hunks_Check.j0 k (.func (.func 43) #[] #[] : Value) (decide (a0_2 < (mn 1 a0_3))) a0_0 a0_1 a0_2 a0_3 l0_4)) = some r := by rw [if_pos rfl] at H; exact H
            clear H
            have H := H1
            clear H1
            obtain ⟨ji12, hji12⟩ : ∃ j_ : Int, (mn 1 a0_1) = j_ := ⟨_, rfl⟩
            replace H : (if a0_0 < (ji12) then (hunks_Check.j0 k (.func (.func 43) #[] #[] : Value) true a0_0 a0_1 a0_2 a0_3 l0_4) else (hunks_Check.j0 k (.func (.func 43) #[] #[] : Value) (decide (a0_2 < (mn 1 a0_3))) a0_0 a0_1 a0_2 a0_3 l0_4)) = some r := by first | (rw [hji12] at H; exact H) | (simp only [hji12] at H ⊢; exact H)
            (try rw [hji12] at A4)
            (try rw [hji12] at A6)
            (try rw [hji12] at A8)
            (try rw [hji12] at A10)
            (try (have hji12h : ji12 ≤ 1 := by (rw [← hji12]; unfold mn; (repeat' split) <;> omega)))
            (try (have hji12g : ji12 ≤ 64 := by omega))
            have hji12_ : (if a0_1 < 1 then a0_1 else 1) = ji12 := hji12
            by_cases c13 : a0_0 < (ji12)
            · rw [if_pos c13] at H
              have c13b0 : decide (a0_0 < (ji12)) = true := decide_eq_true c13
              clear c13
              (first | rw [c13b0] | (simp only [i64_w, i32_w]; rw [c13b0]) | skip)
              have H' := Aside0.mk H
              clear H
              have hcz14_0 : w3.cell? ⟨gb130, 0, none⟩ = some (.int .i64 a0_0) := (blk_cell BK130.out 0).trans rfl
              have hcz14_1 : w3.cell? ⟨gb130, 1, none⟩ = some (.int .i64 a0_1) := (blk_cell BK130.out 1).trans rfl
              have hcz14_2 : w3.cell? ⟨gb130, 2, none⟩ = some (.int .i64 a0_2) := (blk_cell BK130.out 2).trans rfl
              have hcz14_3 : w3.cell? ⟨gb130, 3, none⟩ = some (.int .i64 a0_3) := (blk_cell BK130.out 3).trans rfl
              have hcz14_4 : w3.cell? ⟨gb130, 4, none⟩ = some (.slice A0_4 l0_4.length c0_4) := (blk_cell BK130.out 4).trans rfl
              have hfz14_0 := blk_frozen BK130.out 0
              have hfz14_1 := blk_frozen BK130.out 1
              have hfz14_2 := blk_frozen BK130.out 2
              have hfz14_3 := blk_frozen BK130.out 3
              have hfz14_4 := blk_frozen BK130.out 4
              go_wp2_with (first | ((with_reducible refine gate_callee (f := 44) rfl ?_); refine goesL_ (some 7) rfl rfl Try.func44 (by kernel_rfl) rfl #[.int .i64 a0_0] rfl (by (try simp only [List.map_toArray, List.map_cons, List.map_nil]); first | done | rfl | (simp only [List.length_drop, List.length_take]; rfl)) ?_; (with_reducible refine (hunks_number.calls a0_0 true _ A4.out).mono ?_); rintro e w' ⟨rfl, ⟨nd, rfl⟩⟩; refine ⟨_, rfl, ?_⟩) | (go_at_call 44; (with_reducible refine (hunks_number.calls a0_1 true _ A6.out).mono ?_); rintro e w' ⟨rfl, ⟨nd, rfl⟩⟩) | (go_at_call 44; (with_reducible refine (hunks_number.calls a0_2 true _ A8.out).mono ?_); rintro e w' ⟨rfl, ⟨nd, rfl⟩⟩) | (go_at_call 44; (with_reducible refine (hunks_number.calls a0_3 true _ A10.out).mono ?_); rintro e w' ⟨rfl, ⟨nd, rfl⟩⟩))
              go_meet
              case rel => exact ⟨_, (true), (by first | rfl | (simp; done) | (simp [*]; done)), H', ⟨by first | omega | exact Nat.le_refl _⟩, ⟨by (with_reducible repeat (first | refine blk_drewN ?_ _ | refine blk_drew ?_ | refine blk_alloc ?_ _)); exact BK130.out⟩, ⟨by repeat (first | (with_reducible first | exact HB.out | apply below_alloc | apply pw_below_drewN | apply below_drew1 | refine below_set ?_ GE130.out) | exact HB.out)⟩⟩
            · rw [if_neg c13] at H
              have c13b0 : decide (a0_0 < (ji12)) = false := decide_eq_false c13
              clear c13
              (first | rw [c13b0] | (simp only [i64_w, i32_w]; rw [c13b0]) | skip)
              obtain ⟨ji15, hji15⟩ : ∃ j_ : Int, (mn 1 a0_3) = j_ := ⟨_, rfl⟩
              replace H : (hunks_Check.j0 k (.func (.func 43) #[] #[] : Value) (decide (a0_2 < (ji15))) a0_0 a0_1 a0_2 a0_3 l0_4) = some r := by first | (rw [hji15] at H; exact H) | (simp only [hji15] at H ⊢; exact H)
              (try rw [hji15] at A4)
              (try rw [hji15] at A6)
              (try rw [hji15] at A8)
              (try rw [hji15] at A10)
              (try (have hji15h : ji15 ≤ 1 := by (rw [← hji15]; unfold mn; (repeat' split) <;> omega)))
              (try (have hji15g : ji15 ≤ 64 := by omega))
              have hji15_ : (if a0_3 < 1 then a0_3 else 1) = ji15 := hji15
              have H' := Aside0.mk H
              clear H
              have hcz16_0 : w3.cell? ⟨gb130, 0, none⟩ = some (.int .i64 a0_0) := (blk_cell BK130.out 0).trans rfl
              have hcz16_1 : w3.cell? ⟨gb130, 1, none⟩ = some (.int .i64 a0_1) := (blk_cell BK130.out 1).trans rfl
              have hcz16_2 : w3.cell? ⟨gb130, 2, none⟩ = some (.int .i64 a0_2) := (blk_cell BK130.out 2).trans rfl
              have hcz16_3 : w3.cell? ⟨gb130, 3, none⟩ = some (.int .i64 a0_3) := (blk_cell BK130.out 3).trans rfl
              have hcz16_4 : w3.cell? ⟨gb130, 4, none⟩ = some (.slice A0_4 l0_4.length c0_4) := (blk_cell BK130.out 4).trans rfl
              have hfz16_0 := blk_frozen BK130.out 0
              have hfz16_1 := blk_frozen BK130.out 1
              have hfz16_2 := blk_frozen BK130.out 2
              have hfz16_3 := blk_frozen BK130.out 3
              have hfz16_4 := blk_frozen BK130.out 4
              go_wp2_with (first | ((with_reducible refine gate_callee (f := 44) rfl ?_); refine goesL_ (some 7) rfl rfl Try.func44 (by kernel_rfl) rfl #[.int .i64 a0_0] rfl (by (try simp only [List.map_toArray, List.map_cons, List.map_nil]); first | done | rfl | (simp only [List.length_drop, List.length_take]; rfl)) ?_; (with_reducible refine (hunks_number.calls a0_0 true _ A4.out).mono ?_); rintro e w' ⟨rfl, ⟨nd, rfl⟩⟩; refine ⟨_, rfl, ?_⟩) | (go_at_call 44; (with_reducible refine (hunks_number.calls a0_1 true _ A6.out).mono ?_); rintro e w' ⟨rfl, ⟨nd, rfl⟩⟩) | (go_at_call 44; (with_reducible refine (hunks_number.calls a0_2 true _ A8.out).mono ?_); rintro e w' ⟨rfl, ⟨nd, rfl⟩⟩) | (go_at_call 44; (with_reducible refine (hunks_number.calls a0_3 true _ A10.out).mono ?_); rintro e w' ⟨rfl, ⟨nd, rfl⟩⟩))
              go_meet
              case rel => exact ⟨_, (decide (a0_2 < (ji15))), (by first | rfl | (simp; done) | (simp only [← hji15] <;> (first | rfl | simp)) | (simp [*]; done)), H', ⟨by first | omega | exact Nat.le_refl _⟩, ⟨by (with_reducible repeat (first | refine blk_drewN ?_ _ | refine blk_drew ?_ | refine blk_alloc ?_ _)); exact BK130.out⟩, ⟨by repeat (first | (with_reducible first | exact HB.out | apply below_alloc | apply pw_below_drewN | apply below_drew1 | refine below_set ?_ GE130.out) | exact HB.out)⟩⟩
          · replace c11 := Bool.eq_false_iff.mpr c11
            subst c11
            have H1 : (hunks_Check.j0 k (.func (.func 43) #[] #[] : Value) true a0_0 a0_1 a0_2 a0_3 l0_4) = some r := by rw [if_neg (show ¬ (false = true) by decide)] at H; exact H
            clear H
            have H := H1
            clear H1
            have H' := Aside0.mk H
            clear H
            have hcz17_0 : w3.cell? ⟨gb130, 0, none⟩ = some (.int .i64 a0_0) := (blk_cell BK130.out 0).trans rfl
            have hcz17_1 : w3.cell? ⟨gb130, 1, none⟩ = some (.int .i64 a0_1) := (blk_cell BK130.out 1).trans rfl
            have hcz17_2 : w3.cell? ⟨gb130, 2, none⟩ = some (.int .i64 a0_2) := (blk_cell BK130.out 2).trans rfl
            have hcz17_3 : w3.cell? ⟨gb130, 3, none⟩ = some (.int .i64 a0_3) := (blk_cell BK130.out 3).trans rfl
            have hcz17_4 : w3.cell? ⟨gb130, 4, none⟩ = some (.slice A0_4 l0_4.length c0_4) := (blk_cell BK130.out 4).trans rfl
            have hfz17_0 := blk_frozen BK130.out 0
            have hfz17_1 := blk_frozen BK130.out 1
            have hfz17_2 := blk_frozen BK130.out 2
            have hfz17_3 := blk_frozen BK130.out 3
            have hfz17_4 := blk_frozen BK130.out 4
            go_wp2_with (first | ((with_reducible refine gate_callee (f := 44) rfl ?_); refine goesL_ (some 7) rfl rfl Try.func44 (by kernel_rfl) rfl #[.int .i64 a0_0] rfl (by (try simp only [List.map_toArray, List.map_cons, List.map_nil]); first | done | rfl | (simp only [List.length_drop, List.length_take]; rfl)) ?_; (with_reducible refine (hunks_number.calls a0_0 true _ A4.out).mono ?_); rintro e w' ⟨rfl, ⟨nd, rfl⟩⟩; refine ⟨_, rfl, ?_⟩) | (go_at_call 44; (with_reducible refine (hunks_number.calls a0_1 true _ A6.out).mono ?_); rintro e w' ⟨rfl, ⟨nd, rfl⟩⟩) | (go_at_call 44; (with_reducible refine (hunks_number.calls a0_2 true _ A8.out).mono ?_); rintro e w' ⟨rfl, ⟨nd, rfl⟩⟩) | (go_at_call 44; (with_reducible refine (hunks_number.calls a0_3 false _ A10.out).mono ?_); rintro e w' ⟨rfl, ⟨nd, rfl⟩⟩))
            go_meet
            case rel => exact ⟨_, (true), (by first | rfl | (simp; done) | (simp [*]; done)), H', ⟨by first | omega | exact Nat.le_refl _⟩, ⟨by (with_reducible repeat (first | refine blk_drewN ?_ _ | refine blk_drew ?_ | refine blk_alloc ?_ _)); exact BK130.out⟩, ⟨by repeat (first | (with_reducible first | exact HB.out | apply below_alloc | apply pw_below_drewN | apply below_drew1 | refine below_set ?_ GE130.out) | exact HB.out)⟩⟩
        · replace c9 := Bool.eq_false_iff.mpr c9
          subst c9
          have H1 : (hunks_Check.j0 k (.func (.func 43) #[] #[] : Value) true a0_0 a0_1 a0_2 a0_3 l0_4) = some r := by rw [if_neg (show ¬ (false = true) by decide)] at H; exact H
          clear H
          have H := H1
          clear H1
          have H' := Aside0.mk H
          clear H
          have hcz18_0 : w3.cell? ⟨gb130, 0, none⟩ = some (.int .i64 a0_0) := (blk_cell BK130.out 0).trans rfl
          have hcz18_1 : w3.cell? ⟨gb130, 1, none⟩ = some (.int .i64 a0_1) := (blk_cell BK130.out 1).trans rfl
          have hcz18_2 : w3.cell? ⟨gb130, 2, none⟩ = some (.int .i64 a0_2) := (blk_cell BK130.out 2).trans rfl
          have hcz18_3 : w3.cell? ⟨gb130, 3, none⟩ = some (.int .i64 a0_3) := (blk_cell BK130.out 3).trans rfl
          have hcz18_4 : w3.cell? ⟨gb130, 4, none⟩ = some (.slice A0_4 l0_4.length c0_4) := (blk_cell BK130.out 4).trans rfl
          have hfz18_0 := blk_frozen BK130.out 0
          have hfz18_1 := blk_frozen BK130.out 1
          have hfz18_2 := blk_frozen BK130.out 2
          have hfz18_3 := blk_frozen BK130.out 3
          have hfz18_4 := blk_frozen BK130.out 4
          go_wp2_with (first | ((with_reducible refine gate_callee (f := 44) rfl ?_); refine goesL_ (some 7) rfl rfl Try.func44 (by kernel_rfl) rfl #[.int .i64 a0_0] rfl (by (try simp only [List.map_toArray, List.map_cons, List.map_nil]); first | done | rfl | (simp only [List.length_drop, List.length_take]; rfl)) ?_; (with_reducible refine (hunks_number.calls a0_0 true _ A4.out).mono ?_); rintro e w' ⟨rfl, ⟨nd, rfl⟩⟩; refine ⟨_, rfl, ?_⟩) | (go_at_call 44; (with_reducible refine (hunks_number.calls a0_1 true _ A6.out).mono ?_); rintro e w' ⟨rfl, ⟨nd, rfl⟩⟩) | (go_at_call 44; (with_reducible refine (hunks_number.calls a0_2 false _ A8.out).mono ?_); rintro e w' ⟨rfl, ⟨nd, rfl⟩⟩))
          go_meet
          case rel => exact ⟨_, (true), (by first | rfl | (simp; done) | (simp [*]; done)), H', ⟨by first | omega | exact Nat.le_refl _⟩, ⟨by (with_reducible repeat (first | refine blk_drewN ?_ _ | refine blk_drew ?_ | refine blk_alloc ?_ _)); exact BK130.out⟩, ⟨by repeat (first | (with_reducible first | exact HB.out | apply below_alloc | apply pw_below_drewN | apply below_drew1 | refine below_set ?_ GE130.out) | exact HB.out)⟩⟩
      · replace c7 := Bool.eq_false_iff.mpr c7
        subst c7
        have H1 : (hunks_Check.j0 k (.func (.func 43) #[] #[] : Value) true a0_0 a0_1 a0_2 a0_3 l0_4) = some r := by rw [if_neg (show ¬ (false = true) by decide)] at H; exact H
        clear H
        have H := H1
        clear H1
        have H' := Aside0.mk H
        clear H
        have hcz19_0 : w3.cell? ⟨gb130, 0, none⟩ = some (.int .i64 a0_0) := (blk_cell BK130.out 0).trans rfl
        have hcz19_1 : w3.cell? ⟨gb130, 1, none⟩ = some (.int .i64 a0_1) := (blk_cell BK130.out 1).trans rfl
        have hcz19_2 : w3.cell? ⟨gb130, 2, none⟩ = some (.int .i64 a0_2) := (blk_cell BK130.out 2).trans rfl
        have hcz19_3 : w3.cell? ⟨gb130, 3, none⟩ = some (.int .i64 a0_3) := (blk_cell BK130.out 3).trans rfl
        have hcz19_4 : w3.cell? ⟨gb130, 4, none⟩ = some (.slice A0_4 l0_4.length c0_4) := (blk_cell BK130.out 4).trans rfl
        have hfz19_0 := blk_frozen BK130.out 0
        have hfz19_1 := blk_frozen BK130.out 1
        have hfz19_2 := blk_frozen BK130.out 2
        have hfz19_3 := blk_frozen BK130.out 3
        have hfz19_4 := blk_frozen BK130.out 4
        go_wp2_with (first | ((with_reducible refine gate_callee (f := 44) rfl ?_); refine goesL_ (some 7) rfl rfl Try.func44 (by kernel_rfl) rfl #[.int .i64 a0_0] rfl (by (try simp only [List.map_toArray, List.map_cons, List.map_nil]); first | done | rfl | (simp only [List.length_drop, List.length_take]; rfl)) ?_; (with_reducible refine (hunks_number.calls a0_0 true _ A4.out).mono ?_); rintro e w' ⟨rfl, ⟨nd, rfl⟩⟩; refine ⟨_, rfl, ?_⟩) | (go_at_call 44; (with_reducible refine (hunks_number.calls a0_1 false _ A6.out).mono ?_); rintro e w' ⟨rfl, ⟨nd, rfl⟩⟩))
        go_meet
        case rel => exact ⟨_, (true), (by first | rfl | (simp; done) | (simp [*]; done)), H', ⟨by first | omega | exact Nat.le_refl _⟩, ⟨by (with_reducible repeat (first | refine blk_drewN ?_ _ | refine blk_drew ?_ | refine blk_alloc ?_ _)); exact BK130.out⟩, ⟨by repeat (first | (with_reducible first | exact HB.out | apply below_alloc | apply pw_below_drewN | apply below_drew1 | refine below_set ?_ GE130.out) | exact HB.out)⟩⟩
    · replace c5 := Bool.eq_false_iff.mpr c5
      subst c5
      have H1 : (hunks_Check.j0 k (.func (.func 43) #[] #[] : Value) true a0_0 a0_1 a0_2 a0_3 l0_4) = some r := by rw [if_neg (show ¬ (false = true) by decide)] at H; exact H
      clear H
      have H := H1
      clear H1
      have H' := Aside0.mk H
      clear H
      have hcz20_0 : w3.cell? ⟨gb130, 0, none⟩ = some (.int .i64 a0_0) := (blk_cell BK130.out 0).trans rfl
      have hcz20_1 : w3.cell? ⟨gb130, 1, none⟩ = some (.int .i64 a0_1) := (blk_cell BK130.out 1).trans rfl
      have hcz20_2 : w3.cell? ⟨gb130, 2, none⟩ = some (.int .i64 a0_2) := (blk_cell BK130.out 2).trans rfl
      have hcz20_3 : w3.cell? ⟨gb130, 3, none⟩ = some (.int .i64 a0_3) := (blk_cell BK130.out 3).trans rfl
      have hcz20_4 : w3.cell? ⟨gb130, 4, none⟩ = some (.slice A0_4 l0_4.length c0_4) := (blk_cell BK130.out 4).trans rfl
      have hfz20_0 := blk_frozen BK130.out 0
      have hfz20_1 := blk_frozen BK130.out 1
      have hfz20_2 := blk_frozen BK130.out 2
      have hfz20_3 := blk_frozen BK130.out 3
      have hfz20_4 := blk_frozen BK130.out 4
      go_wp2_with (first | ((with_reducible refine gate_callee (f := 44) rfl ?_); refine goesL_ (some 7) rfl rfl Try.func44 (by kernel_rfl) rfl #[.int .i64 a0_0] rfl (by (try simp only [List.map_toArray, List.map_cons, List.map_nil]); first | done | rfl | (simp only [List.length_drop, List.length_take]; rfl)) ?_; (with_reducible refine (hunks_number.calls a0_0 false _ A4.out).mono ?_); rintro e w' ⟨rfl, ⟨nd, rfl⟩⟩; refine ⟨_, rfl, ?_⟩))
      go_meet
      case rel => exact ⟨_, (true), (by first | rfl | (simp; done) | (simp [*]; done)), H', ⟨by first | omega | exact Nat.le_refl _⟩, ⟨by (with_reducible repeat (first | refine blk_drewN ?_ _ | refine blk_drew ?_ | refine blk_alloc ?_ _)); exact BK130.out⟩, ⟨by repeat (first | (with_reducible first | exact HB.out | apply below_alloc | apply pw_below_drewN | apply below_drew1 | refine below_set ?_ GE130.out) | exact HB.out)⟩⟩
  case rest =>
    clear HC2
    try clear c1
    try clear p2
    try clear c4
    try clear c5
    try clear c7
    try clear c9
    try clear c11
    try clear c13
    try clear c13b0
    try clear c14
    try clear hcz14_0
    try clear hcz14_1
    try clear hcz14_2
    try clear hcz14_3
    try clear hcz14_4
    try clear hcz16_0
    try clear hcz16_1
    try clear hcz16_2
    try clear hcz16_3
    try clear hcz16_4
    try clear hcz17_0
    try clear hcz17_1
    try clear hcz17_2
    try clear hcz17_3
    try clear hcz17_4
    try clear hcz18_0
    try clear hcz18_1
    try clear hcz18_2
    try clear hcz18_3
    try clear hcz18_4
    try clear hcz19_0
    try clear hcz19_1
    try clear hcz19_2
    try clear hcz19_3
    try clear hcz19_4
    try clear hcz20_0
    try clear hcz20_1
    try clear hcz20_2
    try clear hcz20_3
    try clear hcz20_4
    try clear hfz14_0
    try clear hfz14_1
    try clear hfz14_2
    try clear hfz14_3
    try clear hfz14_4
    try clear hfz16_0
    try clear hfz16_1
    try clear hfz16_2
    try clear hfz16_3
    try clear hfz16_4
    try clear hfz17_0
    try clear hfz17_1
    try clear hfz17_2
    try clear hfz17_3
    try clear hfz17_4
    try clear hfz18_0
    try clear hfz18_1
    try clear hfz18_2
    try clear hfz18_3
    try clear hfz18_4
    try clear hfz19_0
    try clear hfz19_1
    try clear hfz19_2
    try clear hfz19_3
    try clear hfz19_4
    try clear hfz20_0
    try clear hfz20_1
    try clear hfz20_2
    try clear hfz20_3
    try clear hfz20_4
    obtain ⟨kq, x4_1, rfl, HA, HJ1, BK130, HB⟩ := hcut
    cases kq with
    | zero => exact absurd HA.out (by simp [hunks_Check.j0])
    | succ kj1 =>
      have H := HA.out
      clear HA
      simp only [hunks_Check.j0] at H
      by_cases c21 : x4_1 = true
      · subst c21
        have H1 : (some 2) = some r := by rw [if_pos rfl] at H; exact H
        clear H
        have H := H1
        clear H1
        obtain rfl := Option.some.inj H
        go_wp2
        go_ret
        exact ⟨by first | rfl | (simp [errW_none, errW_some] <;> rfl) | (simp [*, errW_none, errW_some] <;> rfl), by repeat (first | (with_reducible first | exact HB.out | apply below_alloc | apply pw_below_drewN | apply below_drew1 | refine below_set ?_ GE130.out) | exact HB.out)⟩
      · replace c21 := Bool.eq_false_iff.mpr c21
        subst c21
        have H1 : ((hunks_fields.f a0_0 a0_1 a0_2 a0_3 l0_4).bind fun t135 => (if t135 = true then ((hunks_Old.f kj1 a0_0 a0_1 a0_2 a0_3 l0_4).bind fun t136 => (if a0_1 = (t136.length : Int) then ((hunks_New.f kj1 a0_0 a0_1 a0_2 a0_3 l0_4).bind fun t139 => (hunks_Check.j1 kj1 (.func (.func 43) #[] #[] : Value) (a0_3 != (t139.length : Int)) a0_0 a0_1 a0_2 a0_3 l0_4)) else (hunks_Check.j1 kj1 (.func (.func 43) #[] #[] : Value) true a0_0 a0_1 a0_2 a0_3 l0_4))) else (some 6))) = some r := by rw [if_neg (show ¬ (false = true) by decide)] at H; exact H
        clear H
        have H := H1
        clear H1
        replace H := Option.bind_eq_some_iff.mp H
        obtain ⟨t135, A220, H⟩ := H
        replace H : (if t135 = true then ((hunks_Old.f kj1 a0_0 a0_1 a0_2 a0_3 l0_4).bind fun t136 => (if a0_1 = (t136.length : Int) then ((hunks_New.f kj1 a0_0 a0_1 a0_2 a0_3 l0_4).bind fun t139 => (hunks_Check.j1 kj1 (.func (.func 43) #[] #[] : Value) (a0_3 != (t139.length : Int)) a0_0 a0_1 a0_2 a0_3 l0_4)) else (hunks_Check.j1 kj1 (.func (.func 43) #[] #[] : Value) true a0_0 a0_1 a0_2 a0_3 l0_4))) else (some 6)) = some r := H
        have A22 := Aside0.mk A220
        clear A220
        by_cases c23 : t135 = true
        · subst c23
          have H1 : ((hunks_Old.f kj1 a0_0 a0_1 a0_2 a0_3 l0_4).bind fun t136 => (if a0_1 = (t136.length : Int) then ((hunks_New.f kj1 a0_0 a0_1 a0_2 a0_3 l0_4).bind fun t139 => (hunks_Check.j1 kj1 (.func (.func 43) #[] #[] : Value) (a0_3 != (t139.length : Int)) a0_0 a0_1 a0_2 a0_3 l0_4)) else (hunks_Check.j1 kj1 (.func (.func 43) #[] #[] : Value) true a0_0 a0_1 a0_2 a0_3 l0_4))) = some r := by rw [if_pos rfl] at H; exact H
          clear H
          have H := H1
          clear H1
          have HC24 := Aside0.mk H
          clear H
          have hcz25_0 : wc.cell? ⟨gb130, 0, none⟩ = some (.int .i64 a0_0) := (blk_cell BK130.out 0).trans rfl
          have hcz25_1 : wc.cell? ⟨gb130, 1, none⟩ = some (.int .i64 a0_1) := (blk_cell BK130.out 1).trans rfl
          have hcz25_2 : wc.cell? ⟨gb130, 2, none⟩ = some (.int .i64 a0_2) := (blk_cell BK130.out 2).trans rfl
          have hcz25_3 : wc.cell? ⟨gb130, 3, none⟩ = some (.int .i64 a0_3) := (blk_cell BK130.out 3).trans rfl
          have hcz25_4 : wc.cell? ⟨gb130, 4, none⟩ = some (.slice A0_4 l0_4.length c0_4) := (blk_cell BK130.out 4).trans rfl
          have hfz25_0 := blk_frozen BK130.out 0
          have hfz25_1 := blk_frozen BK130.out 1
          have hfz25_2 := blk_frozen BK130.out 2
          have hfz25_3 := blk_frozen BK130.out 3
          have hfz25_4 := blk_frozen BK130.out 4
          go_upto_region 6 with (first | ((with_reducible refine gate_callee (f := 45) rfl ?_); refine goesL_ (some 45) rfl rfl Try.func45 (by kernel_rfl) rfl #[.agg #[.int .i64 a0_0, .int .i64 a0_1, .int .i64 a0_2, .int .i64 a0_3, .slice A0_4 l0_4.length c0_4]] rfl (by (try simp only [List.map_toArray, List.map_cons, List.map_nil]); first | done | rfl | (simp only [List.length_drop, List.length_take]; rfl)) ?_; (with_reducible refine (hunks_fields.calls a0_0 a0_1 a0_2 a0_3 _ _ l0_4 true _ ?side1 ?side2 A22.out).mono ?_); (case side1 => repeat (first | exact (Kd.C_below HR0_4.out HB.out) | (with_reducible refine Kd.C_alloc ?_ _) | (with_reducible refine Kd.C_drewN ?_ _) | (with_reducible refine Kd.C_drew ?_))); (case side2 => exact HC0_4.out); rintro e w26 ⟨rfl, hb⟩; refine ⟨_, rfl, ?_⟩; have n0_ := Aside0.mk (blk_below (g := gb130) (o := .cells #[.int .i64 a0_0, .int .i64 a0_1, .int .i64 a0_2, .int .i64 a0_3, .slice A0_4 l0_4.length c0_4] 24 (0, 0)) (by (with_reducible repeat (first | refine blk_drewN ?_ _ | refine blk_drew ?_ | refine blk_alloc ?_ _)); exact BK130.out) hb); have n1_ := Aside0.mk (below_step (by repeat (first | (with_reducible first | exact HB.out | apply below_alloc | apply pw_below_drewN | apply below_drew1 | refine below_set ?_ GE130.out) | exact HB.out)) hb); clear BK130; clear HB; have BK130 := n0_; have HB := n1_; clear n0_ n1_; (try clear hb); (try clear hb2); (try clear hk); (try clear hi)))
          (try simp only [Act.put, List.setIfInBounds_toArray, List.set_cons_zero, List.set_cons_succ])
          go_cut [47] (fun v47 wc => ∃ (kq : Nat) (x47_23 : Bool), v47 = .bool x47_23 ∧ Aside0 (hunks_Check.j1 kq (.func (.func 43) #[] #[] : Value) x47_23 a0_0 a0_1 a0_2 a0_3 l0_4 = some r) ∧ Aside0 (kq ≤ kj1) ∧ Aside0 (wc.heap[gb130]? = some (.cells #[.int .i64 a0_0, .int .i64 a0_1, .int .i64 a0_2, .int .i64 a0_3, (.slice A0_4 l0_4.length c0_4)] 24 (0, 0))) ∧ Aside0 (Below w.heap.size w wc))
          case first =>
            have H := HC24.out
            clear HC24
            replace H := Option.bind_eq_some_iff.mp H
            obtain ⟨t136, A270, H⟩ := H
            replace H : (if a0_1 = (t136.length : Int) then ((hunks_New.f kj1 a0_0 a0_1 a0_2 a0_3 l0_4).bind fun t139 => (hunks_Check.j1 kj1 (.func (.func 43) #[] #[] : Value) (a0_3 != (t139.length : Int)) a0_0 a0_1 a0_2 a0_3 l0_4)) else (hunks_Check.j1 kj1 (.func (.func 43) #[] #[] : Value) true a0_0 a0_1 a0_2 a0_3 l0_4)) = some r := H
            have A27 := Aside0.mk A270
            clear A270
            by_cases c28 : a0_1 = (t136.length : Int)
            · rw [if_pos c28] at H
              have c28b0 : (a0_1 == (t136.length : Int)) = true := beq_iff_eq.mpr c28
              have c28b1 : (a0_1 != (t136.length : Int)) = false := bne_eq_false_iff_eq.mpr c28
              clear c28
              (first | rw [c28b0] | (simp only [i64_w, i32_w]; rw [c28b0]) | skip)
              replace H := Option.bind_eq_some_iff.mp H
              obtain ⟨t139, A290, H⟩ := H
              replace H : (hunks_Check.j1 kj1 (.func (.func 43) #[] #[] : Value) (a0_3 != (t139.length : Int)) a0_0 a0_1 a0_2 a0_3 l0_4) = some r := H
              have A29 := Aside0.mk A290
              clear A290
              have H' := Aside0.mk H
              clear H
              try go_wp2
              have n0_ := Aside0.mk (blk_drew BK130.out)
              have n1_ := Aside0.mk (below_drew1 HB.out)
              clear BK130
              clear HB
              have BK130 := n0_
              have HB := n1_
              clear n0_ n1_
              refine start_ (n := 15) (S := fun w' => w'.cell? ⟨gb130, 0, none⟩ = some (.int .i64 a0_0) ∧ w'.cell? ⟨gb130, 1, none⟩ = some (.int .i64 a0_1) ∧ w'.cell? ⟨gb130, 2, none⟩ = some (.int .i64 a0_2) ∧ w'.cell? ⟨gb130, 3, none⟩ = some (.int .i64 a0_3) ∧ w'.cell? ⟨gb130, 4, none⟩ = some (.slice A0_4 l0_4.length c0_4)) (ds := []) #[false, false, false, false, false, false, false, false, false, false, false, false, false, false, false] (by kernel_rfl) rfl rfl ⟨(blk_cell BK130.out 0).trans rfl, (blk_cell BK130.out 1).trans rfl, (blk_cell BK130.out 2).trans rfl, (blk_cell BK130.out 3).trans rfl, (blk_cell BK130.out 4).trans rfl⟩ (fun hHeld => ?_); refine with_tabW hunks_Check.tab6 hunks_Check.bits6 (fun HT_ HW_ => ?_)
              generalize w26.drew = w30 at BK130 HB hHeld ⊢
              refine pure_ (i := 0) (N := some 48) (v := ?_) (a' := ?_) #[true, false, false, false, false, false, false, false, false, false, false, false, false, false, false] rfl rfl (any_of HT_.out (by kernel_rfl)) (fun _ _ _ h => h) (Or.inl ⟨by rfl, ?_⟩) ?_ ?_
              rotate_left
              · intro w'
                go_simp
                with_reducible rfl
              rotate_left
              · simp only [Act.put, List.setIfInBounds_toArray, List.set_cons_zero, List.set_cons_succ, i64_w, i32_w]
                rfl
              refine take_ (i := 1) (N := some 49) (v := ?_) (a' := ?_) #[true, true, false, false, false, false, false, false, false, false, false, false, false, false, false] rfl rfl (take_ofW HT_.out HW_.out (by kernel_rfl)) (fun _ _ _ h => h) (Or.inl ⟨by rfl, ?_⟩) hHeld ?_ ?_
              rotate_left
              · rintro w' ⟨s0, s1, s2, s3, s4⟩
                go_simp
                with_reducible rfl
              rotate_left
              · simp only [Act.put, List.setIfInBounds_toArray, List.set_cons_zero, List.set_cons_succ, i64_w, i32_w]
                rfl
              refine take_ (i := 2) (N := some 50) (v := ?_) (a' := ?_) #[true, true, true, false, false, false, false, false, false, false, false, false, false, false, false] rfl rfl (take_ofW HT_.out HW_.out (by kernel_rfl)) (fun _ _ _ h => h) (Or.inl ⟨by rfl, ?_⟩) hHeld ?_ ?_
              rotate_left
              · rintro w' ⟨s0, s1, s2, s3, s4⟩
                go_simp
                with_reducible rfl
              rotate_left
              · simp only [Act.put, List.setIfInBounds_toArray, List.set_cons_zero, List.set_cons_succ, i64_w, i32_w]
                rfl
              refine one_ (i := 3) (N := some 51) #[true, true, true, true, false, false, false, false, false, false, false, false, false, false, false] rfl rfl (one_of HT_.out (by kernel_rfl)) (by decide) (fun K hK => ?_)
              refine goes_ Try.func12 (by kernel_rfl) rfl #[.agg #[.int .i64 a0_0, .int .i64 a0_1, .int .i64 a0_2, .int .i64 a0_3, .slice A0_4 l0_4.length c0_4]] (by rfl) rfl rfl (by (try simp only [List.map_toArray, List.map_cons, List.map_nil]); first | done | rfl | (simp only [List.length_drop, List.length_take]; rfl)) ?_
              with_reducible refine (hunks_Old.calls kj1 a0_0 a0_1 a0_2 a0_3 _ _ l0_4 t136 _ ?side1 ?side2 A27.out).mono ?_
              (case side1 => repeat (first | exact (Kd.C_below HR0_4.out HB.out) | (with_reducible refine Kd.C_alloc ?_ _) | (with_reducible refine Kd.C_drewN ?_ _) | (with_reducible refine Kd.C_drew ?_)))
              (case side2 => exact HC0_4.out)
              rintro e w31 ⟨v137, rfl, ho0, hb⟩
              refine ⟨_, rfl, ?_⟩
              have n0_ := Aside0.mk (Kd.R_lower ho0 (below_size (by repeat (first | (with_reducible first | exact HB.out | apply below_alloc | apply pw_below_drewN | apply below_drew1 | refine below_set ?_ GE130.out) | exact HB.out))))
              have n1_ := Aside0.mk (blk_below (g := gb130) (o := .cells #[.int .i64 a0_0, .int .i64 a0_1, .int .i64 a0_2, .int .i64 a0_3, .slice A0_4 l0_4.length c0_4] 24 (0, 0)) (by (with_reducible repeat (first | refine blk_drewN ?_ _ | refine blk_drew ?_ | refine blk_alloc ?_ _)); exact BK130.out) hb)
              have n2_ := Aside0.mk (below_step (by repeat (first | (with_reducible first | exact HB.out | apply below_alloc | apply pw_below_drewN | apply below_drew1 | refine below_set ?_ GE130.out) | exact HB.out)) hb)
              clear BK130
              clear HB
              have HO138 := n0_
              have BK130 := n1_
              have HB := n2_
              clear n0_ n1_ n2_
              (try clear hb)
              (try clear hb2)
              (try clear hk)
              (try clear hi)
              (try clear ho0)
              obtain ⟨Ao32, co32, eo32⟩ := Kd.R_slice HO138.out
              (first | subst eo32 | (injection eo32 with f1_ f2_ f3_; have f4_ := f1_.symm; have f5_ := f3_.symm; clear f1_ f2_ f3_; subst f4_; subst f5_))
              refine hK.out _ _ ⟨(blk_cell BK130.out 0).trans rfl, (blk_cell BK130.out 1).trans rfl, (blk_cell BK130.out 2).trans rfl, (blk_cell BK130.out 3).trans rfl, (blk_cell BK130.out 4).trans rfl⟩ (fun hHeld => ?_)
              clear hK K
              refine norm_ (a' := ?_) ?_ ?_
              rotate_left
              · show Act.put _ (some 51) _ = _
                simp only [Act.put, List.setIfInBounds_toArray, List.set_cons_zero, List.set_cons_succ, i64_w, i32_w]
                rfl
              refine pure_ (i := 4) (N := some 52) (v := ?_) (a' := ?_) #[true, true, true, true, true, false, false, false, false, false, false, false, false, false, false] rfl rfl (any_of HT_.out (by kernel_rfl)) (fun _ _ _ h => h) (Or.inl ⟨by rfl, ?_⟩) ?_ ?_
              rotate_left
              · intro w'
                go_simp
                with_reducible rfl
              rotate_left
              · simp only [Act.put, List.setIfInBounds_toArray, List.set_cons_zero, List.set_cons_succ, i64_w, i32_w]
                rfl
              refine pure_ (i := 5) (N := some 53) (v := ?_) (a' := ?_) #[true, true, true, true, true, true, false, false, false, false, false, false, false, false, false] rfl rfl (any_of HT_.out (by kernel_rfl)) (fun _ _ _ h => h) (Or.inl ⟨by rfl, ?_⟩) ?_ ?_
              rotate_left
              · intro w'
                go_simp
                with_reducible rfl
              rotate_left
              · simp only [Act.put, List.setIfInBounds_toArray, List.set_cons_zero, List.set_cons_succ, i64_w, i32_w]
                rfl
              refine pure_ (i := 6) (N := some 54) (v := ?_) (a' := ?_) #[true, true, true, true, true, true, true, false, false, false, false, false, false, false, false] rfl rfl (any_of HT_.out (by kernel_rfl)) (fun _ _ _ h => h) (Or.inl ⟨by rfl, ?_⟩) ?_ ?_
              rotate_left
              · intro w'
                go_simp
                with_reducible rfl
              rotate_left
              · simp only [Act.put, List.setIfInBounds_toArray, List.set_cons_zero, List.set_cons_succ, i64_w, i32_w]
                rfl
              refine pure_ (i := 7) (N := some 55) (v := ?_) (a' := ?_) #[true, true, true, true, true, true, true, true, false, false, false, false, false, false, false] rfl rfl (any_of HT_.out (by kernel_rfl)) (fun _ _ _ h => h) (Or.inl ⟨by rfl, ?_⟩) ?_ ?_
              rotate_left
              · intro w'
                go_simp
                with_reducible rfl
              rotate_left
              · simp only [Act.put, List.setIfInBounds_toArray, List.set_cons_zero, List.set_cons_succ, i64_w, i32_w]
                rfl
              refine take_ (i := 8) (N := some 56) (v := ?_) (a' := ?_) #[true, true, true, true, true, true, true, true, true, false, false, false, false, false, false] rfl rfl (take_ofW HT_.out HW_.out (by kernel_rfl)) (fun _ _ _ h => h) (Or.inl ⟨by rfl, ?_⟩) hHeld ?_ ?_
              rotate_left
              · rintro w' ⟨s0, s1, s2, s3, s4⟩
                go_simp
                with_reducible rfl
              rotate_left
              · simp only [Act.put, List.setIfInBounds_toArray, List.set_cons_zero, List.set_cons_succ, i64_w, i32_w]
                rfl
              refine take_ (i := 9) (N := some 57) (v := ?_) (a' := ?_) #[true, true, true, true, true, true, true, true, true, true, false, false, false, false, false] rfl rfl (take_ofW HT_.out HW_.out (by kernel_rfl)) (fun _ _ _ h => h) (Or.inl ⟨by rfl, ?_⟩) hHeld ?_ ?_
              rotate_left
              · rintro w' ⟨s0, s1, s2, s3, s4⟩
                go_simp
                with_reducible rfl
              rotate_left
              · simp only [Act.put, List.setIfInBounds_toArray, List.set_cons_zero, List.set_cons_succ, i64_w, i32_w]
                rfl
              refine one_ (i := 10) (N := some 58) #[true, true, true, true, true, true, true, true, true, true, true, false, false, false, false] rfl rfl (one_of HT_.out (by kernel_rfl)) (by decide) (fun K hK => ?_)
              refine goes_ Try.func13 (by kernel_rfl) rfl #[.agg #[.int .i64 a0_0, .int .i64 a0_1, .int .i64 a0_2, .int .i64 a0_3, .slice A0_4 l0_4.length c0_4]] (by rfl) rfl rfl (by (try simp only [List.map_toArray, List.map_cons, List.map_nil]); first | done | rfl | (simp only [List.length_drop, List.length_take]; rfl)) ?_
              with_reducible refine (hunks_New.calls kj1 a0_0 a0_1 a0_2 a0_3 _ _ l0_4 t139 _ ?side1 ?side2 A29.out).mono ?_
              (case side1 => repeat (first | exact (Kd.C_below HR0_4.out HB.out) | (with_reducible refine Kd.C_alloc ?_ _) | (with_reducible refine Kd.C_drewN ?_ _) | (with_reducible refine Kd.C_drew ?_)))
              (case side2 => exact HC0_4.out)
              rintro e w33 ⟨v140, rfl, ho0, hb⟩
              refine ⟨_, rfl, ?_⟩
              have n0_ := Aside0.mk (Kd.R_elder' (by (with_reducible repeat (first | apply Kd.R_alloc | apply Kd.R_drewN | apply Kd.R_drew)); exact HO138.out) (Kd.R_base ho0) hb)
              have n1_ := Aside0.mk (Kd.R_lower (Kd.R_new' ho0 (Kd.R_lt (by (with_reducible repeat (first | apply Kd.R_alloc | apply Kd.R_drewN | apply Kd.R_drew)); exact HO138.out))) (below_size (by repeat (first | (with_reducible first | exact HB.out | apply below_alloc | apply pw_below_drewN | apply below_drew1 | refine below_set ?_ GE130.out) | exact HB.out))))
              have n2_ := Aside0.mk (blk_below (g := gb130) (o := .cells #[.int .i64 a0_0, .int .i64 a0_1, .int .i64 a0_2, .int .i64 a0_3, .slice A0_4 l0_4.length c0_4] 24 (0, 0)) (by (with_reducible repeat (first | refine blk_drewN ?_ _ | refine blk_drew ?_ | refine blk_alloc ?_ _)); exact BK130.out) hb)
              have n3_ := Aside0.mk (below_step (by repeat (first | (with_reducible first | exact HB.out | apply below_alloc | apply pw_below_drewN | apply below_drew1 | refine below_set ?_ GE130.out) | exact HB.out)) hb)
              clear HO138
              clear BK130
              clear HB
              have HO138 := n0_
              have HO141 := n1_
              have BK130 := n2_
              have HB := n3_
              clear n0_ n1_ n2_ n3_
              (try clear hb)
              (try clear hb2)
              (try clear hk)
              (try clear hi)
              (try clear ho0)
              obtain ⟨Ao34, co34, eo34⟩ := Kd.R_slice HO141.out
              (first | subst eo34 | (injection eo34 with f1_ f2_ f3_; have f4_ := f1_.symm; have f5_ := f3_.symm; clear f1_ f2_ f3_; subst f4_; subst f5_))
              refine hK.out _ _ ⟨(blk_cell BK130.out 0).trans rfl, (blk_cell BK130.out 1).trans rfl, (blk_cell BK130.out 2).trans rfl, (blk_cell BK130.out 3).trans rfl, (blk_cell BK130.out 4).trans rfl⟩ (fun hHeld => ?_)
              clear hK K
              refine norm_ (a' := ?_) ?_ ?_
              rotate_left
              · show Act.put _ (some 58) _ = _
                simp only [Act.put, List.setIfInBounds_toArray, List.set_cons_zero, List.set_cons_succ, i64_w, i32_w]
                rfl
              refine pure_ (i := 11) (N := some 59) (v := ?_) (a' := ?_) #[true, true, true, true, true, true, true, true, true, true, true, true, false, false, false] rfl rfl (any_of HT_.out (by kernel_rfl)) (fun _ _ _ h => h) (Or.inl ⟨by rfl, ?_⟩) ?_ ?_
              rotate_left
              · intro w'
                go_simp
                with_reducible rfl
              rotate_left
              · simp only [Act.put, List.setIfInBounds_toArray, List.set_cons_zero, List.set_cons_succ, i64_w, i32_w]
                rfl
              refine pure_ (i := 12) (N := some 60) (v := ?_) (a' := ?_) #[true, true, true, true, true, true, true, true, true, true, true, true, true, false, false] rfl rfl (any_of HT_.out (by kernel_rfl)) (fun _ _ _ h => h) (Or.inl ⟨by rfl, ?_⟩) ?_ ?_
              rotate_left
              · intro w'
                go_simp
                with_reducible rfl
              rotate_left
              · simp only [Act.put, List.setIfInBounds_toArray, List.set_cons_zero, List.set_cons_succ, i64_w, i32_w]
                rfl
              refine pure_ (i := 13) (N := some 61) (v := ?_) (a' := ?_) #[true, true, true, true, true, true, true, true, true, true, true, true, true, true, false] rfl rfl (any_of HT_.out (by kernel_rfl)) (fun _ _ _ h => h) (Or.inl ⟨by rfl, ?_⟩) ?_ ?_
              rotate_left
              · intro w'
                go_simp
                with_reducible rfl
              rotate_left
              · simp only [Act.put, List.setIfInBounds_toArray, List.set_cons_zero, List.set_cons_succ, i64_w, i32_w]
                rfl
              refine pure_ (i := 14) (N := some 47) (v := ?_) (a' := ?_) #[true, true, true, true, true, true, true, true, true, true, true, true, true, true, true] rfl rfl (any_of HT_.out (by kernel_rfl)) (fun _ _ _ h => h) (Or.inl ⟨by rfl, ?_⟩) ?_ ?_
              rotate_left
              · intro w'
                go_simp
                with_reducible rfl
              rotate_left
              · simp only [Act.put, List.setIfInBounds_toArray, List.set_cons_zero, List.set_cons_succ, i64_w, i32_w]
                rfl
              refine done_ (done_of HT_.out (by kernel_rfl)) ?_
              try go_wp2
              go_meet
              case rel => exact ⟨_, ((a0_3 != (t139.length : Int))), (by first | rfl | (simp; done) | (simp [*]; done)), H', ⟨by have := HJ1.out; first | omega | exact Nat.le_refl _⟩, ⟨by (with_reducible repeat (first | refine blk_drewN ?_ _ | refine blk_drew ?_ | refine blk_alloc ?_ _)); exact BK130.out⟩, ⟨by repeat (first | (with_reducible first | exact HB.out | apply below_alloc | apply pw_below_drewN | apply below_drew1 | refine below_set ?_ GE130.out) | exact HB.out)⟩⟩
            · rw [if_neg c28] at H
              have c28b0 : (a0_1 == (t136.length : Int)) = false := beq_eq_false_iff_ne.mpr c28
              have c28b1 : (a0_1 != (t136.length : Int)) = true := bne_iff_ne.mpr c28
              (first | rw [c28b0] | (simp only [i64_w, i32_w]; rw [c28b0]) | skip)
              have H' := Aside0.mk H
              clear H
              try go_wp2
              have n0_ := Aside0.mk (blk_drew BK130.out)
              have n1_ := Aside0.mk (below_drew1 HB.out)
              clear BK130
              clear HB
              have BK130 := n0_
              have HB := n1_
              clear n0_ n1_
              refine start_ (n := 15) (S := fun w' => w'.cell? ⟨gb130, 0, none⟩ = some (.int .i64 a0_0) ∧ w'.cell? ⟨gb130, 1, none⟩ = some (.int .i64 a0_1) ∧ w'.cell? ⟨gb130, 2, none⟩ = some (.int .i64 a0_2) ∧ w'.cell? ⟨gb130, 3, none⟩ = some (.int .i64 a0_3) ∧ w'.cell? ⟨gb130, 4, none⟩ = some (.slice A0_4 l0_4.length c0_4)) (ds := []) #[false, false, false, false, false, false, false, false, false, false, false, false, false, false, false] (by kernel_rfl) rfl rfl ⟨(blk_cell BK130.out 0).trans rfl, (blk_cell BK130.out 1).trans rfl, (blk_cell BK130.out 2).trans rfl, (blk_cell BK130.out 3).trans rfl, (blk_cell BK130.out 4).trans rfl⟩ (fun hHeld => ?_); refine with_tabW hunks_Check.tab6 hunks_Check.bits6 (fun HT_ HW_ => ?_)
              generalize w26.drew = w35 at BK130 HB hHeld ⊢
              refine pure_ (i := 0) (N := some 48) (v := ?_) (a' := ?_) #[true, false, false, false, false, false, false, false, false, false, false, false, false, false, false] rfl rfl (any_of HT_.out (by kernel_rfl)) (fun _ _ _ h => h) (Or.inl ⟨by rfl, ?_⟩) ?_ ?_
              rotate_left
              · intro w'
                go_simp
                with_reducible rfl
              rotate_left
              · simp only [Act.put, List.setIfInBounds_toArray, List.set_cons_zero, List.set_cons_succ, i64_w, i32_w]
                rfl
              refine take_ (i := 1) (N := some 49) (v := ?_) (a' := ?_) #[true, true, false, false, false, false, false, false, false, false, false, false, false, false, false] rfl rfl (take_ofW HT_.out HW_.out (by kernel_rfl)) (fun _ _ _ h => h) (Or.inl ⟨by rfl, ?_⟩) hHeld ?_ ?_
              rotate_left
              · rintro w' ⟨s0, s1, s2, s3, s4⟩
                go_simp
                with_reducible rfl
              rotate_left
              · simp only [Act.put, List.setIfInBounds_toArray, List.set_cons_zero, List.set_cons_succ, i64_w, i32_w]
                rfl
              refine take_ (i := 2) (N := some 50) (v := ?_) (a' := ?_) #[true, true, true, false, false, false, false, false, false, false, false, false, false, false, false] rfl rfl (take_ofW HT_.out HW_.out (by kernel_rfl)) (fun _ _ _ h => h) (Or.inl ⟨by rfl, ?_⟩) hHeld ?_ ?_
              rotate_left
              · rintro w' ⟨s0, s1, s2, s3, s4⟩
                go_simp
                with_reducible rfl
              rotate_left
              · simp only [Act.put, List.setIfInBounds_toArray, List.set_cons_zero, List.set_cons_succ, i64_w, i32_w]
                rfl
              refine one_ (i := 3) (N := some 51) #[true, true, true, true, false, false, false, false, false, false, false, false, false, false, false] rfl rfl (one_of HT_.out (by kernel_rfl)) (by decide) (fun K hK => ?_)
              refine goes_ Try.func12 (by kernel_rfl) rfl #[.agg #[.int .i64 a0_0, .int .i64 a0_1, .int .i64 a0_2, .int .i64 a0_3, .slice A0_4 l0_4.length c0_4]] (by rfl) rfl rfl (by (try simp only [List.map_toArray, List.map_cons, List.map_nil]); first | done | rfl | (simp only [List.length_drop, List.length_take]; rfl)) ?_
              with_reducible refine (hunks_Old.calls kj1 a0_0 a0_1 a0_2 a0_3 _ _ l0_4 t136 _ ?side1 ?side2 A27.out).mono ?_
              (case side1 => repeat (first | exact (Kd.C_below HR0_4.out HB.out) | (with_reducible refine Kd.C_alloc ?_ _) | (with_reducible refine Kd.C_drewN ?_ _) | (with_reducible refine Kd.C_drew ?_)))
              (case side2 => exact HC0_4.out)
              rintro e w36 ⟨v137, rfl, ho0, hb⟩
              refine ⟨_, rfl, ?_⟩
              have n0_ := Aside0.mk (Kd.R_lower ho0 (below_size (by repeat (first | (with_reducible first | exact HB.out | apply below_alloc | apply pw_below_drewN | apply below_drew1 | refine below_set ?_ GE130.out) | exact HB.out))))
              have n1_ := Aside0.mk (blk_below (g := gb130) (o := .cells #[.int .i64 a0_0, .int .i64 a0_1, .int .i64 a0_2, .int .i64 a0_3, .slice A0_4 l0_4.length c0_4] 24 (0, 0)) (by (with_reducible repeat (first | refine blk_drewN ?_ _ | refine blk_drew ?_ | refine blk_alloc ?_ _)); exact BK130.out) hb)
              have n2_ := Aside0.mk (below_step (by repeat (first | (with_reducible first | exact HB.out | apply below_alloc | apply pw_below_drewN | apply below_drew1 | refine below_set ?_ GE130.out) | exact HB.out)) hb)
              clear BK130
              clear HB
              have HO138 := n0_
              have BK130 := n1_
              have HB := n2_
              clear n0_ n1_ n2_
              (try clear hb)
              (try clear hb2)
              (try clear hk)
              (try clear hi)
              (try clear ho0)
              obtain ⟨Ao37, co37, eo37⟩ := Kd.R_slice HO138.out
              (first | subst eo37 | (injection eo37 with f1_ f2_ f3_; have f4_ := f1_.symm; have f5_ := f3_.symm; clear f1_ f2_ f3_; subst f4_; subst f5_))
              refine hK.out _ _ ⟨(blk_cell BK130.out 0).trans rfl, (blk_cell BK130.out 1).trans rfl, (blk_cell BK130.out 2).trans rfl, (blk_cell BK130.out 3).trans rfl, (blk_cell BK130.out 4).trans rfl⟩ (fun hHeld => ?_)
              clear hK K
              refine norm_ (a' := ?_) ?_ ?_
              rotate_left
              · show Act.put _ (some 51) _ = _
                simp only [Act.put, List.setIfInBounds_toArray, List.set_cons_zero, List.set_cons_succ, i64_w, i32_w]
                rfl
              refine pure_ (i := 4) (N := some 52) (v := ?_) (a' := ?_) #[true, true, true, true, true, false, false, false, false, false, false, false, false, false, false] rfl rfl (any_of HT_.out (by kernel_rfl)) (fun _ _ _ h => h) (Or.inl ⟨by rfl, ?_⟩) ?_ ?_
              rotate_left
              · intro w'
                go_simp
                with_reducible rfl
              rotate_left
              · simp only [Act.put, List.setIfInBounds_toArray, List.set_cons_zero, List.set_cons_succ, i64_w, i32_w]
                rfl
              refine pure_ (i := 5) (N := some 53) (v := ?_) (a' := ?_) #[true, true, true, true, true, true, false, false, false, false, false, false, false, false, false] rfl rfl (any_of HT_.out (by kernel_rfl)) (fun _ _ _ h => h) (Or.inl ⟨by rfl, ?_⟩) ?_ ?_
              rotate_left
              · intro w'
                go_simp
                with_reducible rfl
              rotate_left
              · simp only [Act.put, List.setIfInBounds_toArray, List.set_cons_zero, List.set_cons_succ, i64_w, i32_w]
                rfl
              refine pure_ (i := 6) (N := some 54) (v := ?_) (a' := ?_) #[true, true, true, true, true, true, true, false, false, false, false, false, false, false, false] rfl rfl (any_of HT_.out (by kernel_rfl)) (fun _ _ _ h => h) (Or.inl ⟨by rfl, ?_⟩) ?_ ?_
              rotate_left
              · intro w'
                go_simp
                with_reducible rfl
              rotate_left
              · simp only [Act.put, List.setIfInBounds_toArray, List.set_cons_zero, List.set_cons_succ, i64_w, i32_w]
                rfl
              refine pure_ (i := 7) (N := some 55) (v := undef) (a' := ?_) #[true, true, true, true, true, true, true, true, false, false, false, false, false, false, false] rfl rfl (any_of HT_.out (by kernel_rfl)) (fun _ _ _ h => h) (Or.inr ⟨by rfl, rfl⟩) ?_ ?_
              rotate_left
              · simp only [Act.put, List.setIfInBounds_toArray, List.set_cons_zero, List.set_cons_succ, i64_w, i32_w]
                rfl
              refine pure_ (i := 8) (N := some 56) (v := undef) (a' := ?_) #[true, true, true, true, true, true, true, true, true, false, false, false, false, false, false] rfl rfl (any_of HT_.out (by kernel_rfl)) (fun _ _ _ h => h) (Or.inr ⟨by rfl, rfl⟩) ?_ ?_
              rotate_left
              · simp only [Act.put, List.setIfInBounds_toArray, List.set_cons_zero, List.set_cons_succ, i64_w, i32_w]
                rfl
              refine pure_ (i := 9) (N := some 57) (v := undef) (a' := ?_) #[true, true, true, true, true, true, true, true, true, true, false, false, false, false, false] rfl rfl (any_of HT_.out (by kernel_rfl)) (fun _ _ _ h => h) (Or.inr ⟨by rfl, rfl⟩) ?_ ?_
              rotate_left
              · simp only [Act.put, List.setIfInBounds_toArray, List.set_cons_zero, List.set_cons_succ, i64_w, i32_w]
                rfl
              refine pure_ (i := 10) (N := some 58) (v := undef) (a' := ?_) #[true, true, true, true, true, true, true, true, true, true, true, false, false, false, false] rfl rfl (any_of HT_.out (by kernel_rfl)) (fun _ _ _ h => h) (Or.inr ⟨by rfl, rfl⟩) ?_ ?_
              rotate_left
              · simp only [Act.put, List.setIfInBounds_toArray, List.set_cons_zero, List.set_cons_succ, i64_w, i32_w]
                rfl
              refine pure_ (i := 11) (N := some 59) (v := undef) (a' := ?_) #[true, true, true, true, true, true, true, true, true, true, true, true, false, false, false] rfl rfl (any_of HT_.out (by kernel_rfl)) (fun _ _ _ h => h) (Or.inr ⟨by rfl, rfl⟩) ?_ ?_
              rotate_left
              · simp only [Act.put, List.setIfInBounds_toArray, List.set_cons_zero, List.set_cons_succ, i64_w, i32_w]
                rfl
              refine pure_ (i := 12) (N := some 60) (v := undef) (a' := ?_) #[true, true, true, true, true, true, true, true, true, true, true, true, true, false, false] rfl rfl (any_of HT_.out (by kernel_rfl)) (fun _ _ _ h => h) (Or.inr ⟨by rfl, rfl⟩) ?_ ?_
              rotate_left
              · simp only [Act.put, List.setIfInBounds_toArray, List.set_cons_zero, List.set_cons_succ, i64_w, i32_w]
                rfl
              refine pure_ (i := 13) (N := some 61) (v := ?_) (a' := ?_) #[true, true, true, true, true, true, true, true, true, true, true, true, true, true, false] rfl rfl (any_of HT_.out (by kernel_rfl)) (fun _ _ _ h => h) (Or.inl ⟨by rfl, ?_⟩) ?_ ?_
              rotate_left
              · intro w'
                go_simp
                with_reducible rfl
              rotate_left
              · simp only [Act.put, List.setIfInBounds_toArray, List.set_cons_zero, List.set_cons_succ, i64_w, i32_w]
                rfl
              refine pure_ (i := 14) (N := some 47) (v := ?_) (a' := ?_) #[true, true, true, true, true, true, true, true, true, true, true, true, true, true, true] rfl rfl (any_of HT_.out (by kernel_rfl)) (fun _ _ _ h => h) (Or.inl ⟨by rfl, ?_⟩) ?_ ?_
              rotate_left
              · intro w'
                go_simp
                with_reducible rfl
              rotate_left
              · simp only [Act.put, List.setIfInBounds_toArray, List.set_cons_zero, List.set_cons_succ, i64_w, i32_w]
                rfl
              refine done_ (done_of HT_.out (by kernel_rfl)) ?_
              try go_wp2
              go_meet
              case rel => exact ⟨_, (true), (by first | rfl | (simp; done) | (simp [*]; done)), H', ⟨by have := HJ1.out; first | omega | exact Nat.le_refl _⟩, ⟨by (with_reducible repeat (first | refine blk_drewN ?_ _ | refine blk_drew ?_ | refine blk_alloc ?_ _)); exact BK130.out⟩, ⟨by repeat (first | (with_reducible first | exact HB.out | apply below_alloc | apply pw_below_drewN | apply below_drew1 | refine below_set ?_ GE130.out) | exact HB.out)⟩⟩
          case rest =>
            clear HC24
            try clear c1
            try clear c2
            try clear p2
            try clear c4
            try clear c5
            try clear c7
            try clear c9
            try clear c11
            try clear c12
            try clear c13
            try clear c13b0
            try clear c14
            try clear c21
            try clear c23
            try clear c28
            try clear c28b0
            try clear c28b1
            try clear hcz14_0
            try clear hcz14_1
            try clear hcz14_2
            try clear hcz14_3
            try clear hcz14_4
            try clear hcz16_0
            try clear hcz16_1
            try clear hcz16_2
            try clear hcz16_3
            try clear hcz16_4
            try clear hcz17_0
            try clear hcz17_1
            try clear hcz17_2
            try clear hcz17_3
            try clear hcz17_4
            try clear hcz18_0
            try clear hcz18_1
            try clear hcz18_2
            try clear hcz18_3
            try clear hcz18_4
            try clear hcz19_0
            try clear hcz19_1
            try clear hcz19_2
            try clear hcz19_3
            try clear hcz19_4
            try clear hcz20_0
            try clear hcz20_1
            try clear hcz20_2
            try clear hcz20_3
            try clear hcz20_4
            try clear hcz25_0
            try clear hcz25_1
            try clear hcz25_2
            try clear hcz25_3
            try clear hcz25_4
            try clear hfz14_0
            try clear hfz14_1
            try clear hfz14_2
            try clear hfz14_3
            try clear hfz14_4
            try clear hfz16_0
            try clear hfz16_1
            try clear hfz16_2
            try clear hfz16_3
            try clear hfz16_4
            try clear hfz17_0
            try clear hfz17_1
            try clear hfz17_2
            try clear hfz17_3
            try clear hfz17_4
            try clear hfz18_0
            try clear hfz18_1
            try clear hfz18_2
            try clear hfz18_3
            try clear hfz18_4
            try clear hfz19_0
            try clear hfz19_1
            try clear hfz19_2
            try clear hfz19_3
            try clear hfz19_4
            try clear hfz20_0
            try clear hfz20_1
            try clear hfz20_2
            try clear hfz20_3
            try clear hfz20_4
            try clear hfz25_0
            try clear hfz25_1
            try clear hfz25_2
            try clear hfz25_3
            try clear hfz25_4
            try clear p2
            obtain ⟨kq, x47_23, rfl, HA, HJ23, BK130, HB⟩ := hcut
            cases kq with
            | zero => exact absurd HA.out (by simp [hunks_Check.j1])
            | succ kj23 =>
              have H := HA.out
              clear HA
              simp only [hunks_Check.j1] at H
              by_cases c38 : x47_23 = true
              · subst c38
                have H1 : (some 120) = some r := by rw [if_pos rfl] at H; exact H
                clear H
                have H := H1
                clear H1
                obtain rfl := Option.some.inj H
                go_wp2
                go_ret
                exact ⟨by first | rfl | (simp [errW_none, errW_some] <;> rfl) | (simp [*, errW_none, errW_some] <;> rfl), by repeat (first | (with_reducible first | exact HB.out | apply below_alloc | apply pw_below_drewN | apply below_drew1 | refine below_set ?_ GE130.out) | exact HB.out)⟩
              · replace c38 := Bool.eq_false_iff.mpr c38
                subst c38
                have H1 : ((slices_ContainsFunc_Mark.f l0_4 (.func (.func 43) #[] #[] : Value)).bind fun t142 => (if t142 = true then (some 0) else (some 50))) = some r := by rw [if_neg (show ¬ (false = true) by decide)] at H; exact H
                clear H
                have H := H1
                clear H1
                replace H := Option.bind_eq_some_iff.mp H
                obtain ⟨t142, A390, H⟩ := H
                replace H : (if t142 = true then (some 0) else (some 50)) = some r := H
                have A39 := Aside0.mk A390
                clear A390
                by_cases c40 : t142 = true
                · subst c40
                  have H1 : (some 0) = some r := by rw [if_pos rfl] at H; exact H
                  clear H
                  have H := H1
                  clear H1
                  obtain rfl := Option.some.inj H
                  have hcz41_0 : wc.cell? ⟨gb130, 0, none⟩ = some (.int .i64 a0_0) := (blk_cell BK130.out 0).trans rfl
                  have hcz41_1 : wc.cell? ⟨gb130, 1, none⟩ = some (.int .i64 a0_1) := (blk_cell BK130.out 1).trans rfl
                  have hcz41_2 : wc.cell? ⟨gb130, 2, none⟩ = some (.int .i64 a0_2) := (blk_cell BK130.out 2).trans rfl
                  have hcz41_3 : wc.cell? ⟨gb130, 3, none⟩ = some (.int .i64 a0_3) := (blk_cell BK130.out 3).trans rfl
                  have hcz41_4 : wc.cell? ⟨gb130, 4, none⟩ = some (.slice A0_4 l0_4.length c0_4) := (blk_cell BK130.out 4).trans rfl
                  have hfz41_0 := blk_frozen BK130.out 0
                  have hfz41_1 := blk_frozen BK130.out 1
                  have hfz41_2 := blk_frozen BK130.out 2
                  have hfz41_3 := blk_frozen BK130.out 3
                  have hfz41_4 := blk_frozen BK130.out 4
                  go_wp2_with (first | ((with_reducible refine gate_callee (f := 46) rfl ?_); refine goesL_ (some 66) rfl rfl Try.func46 (by kernel_rfl) rfl #[.slice A0_4 l0_4.length c0_4, (.func (.func 43) #[] #[] : Value)] rfl (by (try simp only [List.map_toArray, List.map_cons, List.map_nil]); first | done | rfl | (simp only [List.length_drop, List.length_take]; rfl)) ?_; (with_reducible refine (slices_ContainsFunc_Mark.calls _ _ l0_4 (.func (.func 43) #[] #[] : Value) true _ ?side1 ?side2 A39.out).mono ?_); (case side1 => repeat (first | exact (Kd.C_below HR0_4.out HB.out) | (with_reducible refine Kd.C_alloc ?_ _) | (with_reducible refine Kd.C_drewN ?_ _) | (with_reducible refine Kd.C_drew ?_))); (case side2 => exact HC0_4.out); rintro e w42 ⟨rfl, hb⟩; refine ⟨_, rfl, ?_⟩; have n0_ := Aside0.mk (blk_below (g := gb130) (o := .cells #[.int .i64 a0_0, .int .i64 a0_1, .int .i64 a0_2, .int .i64 a0_3, .slice A0_4 l0_4.length c0_4] 24 (0, 0)) (by (with_reducible repeat (first | refine blk_drewN ?_ _ | refine blk_drew ?_ | refine blk_alloc ?_ _)); exact BK130.out) hb); have n1_ := Aside0.mk (below_step (by repeat (first | (with_reducible first | exact HB.out | apply below_alloc | apply pw_below_drewN | apply below_drew1 | refine below_set ?_ GE130.out) | exact HB.out)) hb); clear BK130; clear HB; have BK130 := n0_; have HB := n1_; clear n0_ n1_; (try clear hb); (try clear hb2); (try clear hk); (try clear hi)))
                  go_ret
                  exact ⟨by first | rfl | (simp [errW_none, errW_some] <;> rfl) | (simp [*, errW_none, errW_some] <;> rfl), by repeat (first | (with_reducible first | exact HB.out | apply below_alloc | apply pw_below_drewN | apply below_drew1 | refine below_set ?_ GE130.out) | exact HB.out)⟩
                · replace c40 := Bool.eq_false_iff.mpr c40
                  subst c40
                  have H1 : (some 50) = some r := by rw [if_neg (show ¬ (false = true) by decide)] at H; exact H
                  clear H
                  have H := H1
                  clear H1
                  obtain rfl := Option.some.inj H
                  have hcz43_0 : wc.cell? ⟨gb130, 0, none⟩ = some (.int .i64 a0_0) := (blk_cell BK130.out 0).trans rfl
                  have hcz43_1 : wc.cell? ⟨gb130, 1, none⟩ = some (.int .i64 a0_1) := (blk_cell BK130.out 1).trans rfl
                  have hcz43_2 : wc.cell? ⟨gb130, 2, none⟩ = some (.int .i64 a0_2) := (blk_cell BK130.out 2).trans rfl
                  have hcz43_3 : wc.cell? ⟨gb130, 3, none⟩ = some (.int .i64 a0_3) := (blk_cell BK130.out 3).trans rfl
                  have hcz43_4 : wc.cell? ⟨gb130, 4, none⟩ = some (.slice A0_4 l0_4.length c0_4) := (blk_cell BK130.out 4).trans rfl
                  have hfz43_0 := blk_frozen BK130.out 0
                  have hfz43_1 := blk_frozen BK130.out 1
                  have hfz43_2 := blk_frozen BK130.out 2
                  have hfz43_3 := blk_frozen BK130.out 3
                  have hfz43_4 := blk_frozen BK130.out 4
                  go_wp2_with (first | ((with_reducible refine gate_callee (f := 46) rfl ?_); refine goesL_ (some 66) rfl rfl Try.func46 (by kernel_rfl) rfl #[.slice A0_4 l0_4.length c0_4, (.func (.func 43) #[] #[] : Value)] rfl (by (try simp only [List.map_toArray, List.map_cons, List.map_nil]); first | done | rfl | (simp only [List.length_drop, List.length_take]; rfl)) ?_; (with_reducible refine (slices_ContainsFunc_Mark.calls _ _ l0_4 (.func (.func 43) #[] #[] : Value) false _ ?side1 ?side2 A39.out).mono ?_); (case side1 => repeat (first | exact (Kd.C_below HR0_4.out HB.out) | (with_reducible refine Kd.C_alloc ?_ _) | (with_reducible refine Kd.C_drewN ?_ _) | (with_reducible refine Kd.C_drew ?_))); (case side2 => exact HC0_4.out); rintro e w44 ⟨rfl, hb⟩; refine ⟨_, rfl, ?_⟩; have n0_ := Aside0.mk (blk_below (g := gb130) (o := .cells #[.int .i64 a0_0, .int .i64 a0_1, .int .i64 a0_2, .int .i64 a0_3, .slice A0_4 l0_4.length c0_4] 24 (0, 0)) (by (with_reducible repeat (first | refine blk_drewN ?_ _ | refine blk_drew ?_ | refine blk_alloc ?_ _)); exact BK130.out) hb); have n1_ := Aside0.mk (below_step (by repeat (first | (with_reducible first | exact HB.out | apply below_alloc | apply pw_below_drewN | apply below_drew1 | refine below_set ?_ GE130.out) | exact HB.out)) hb); clear BK130; clear HB; have BK130 := n0_; have HB := n1_; clear n0_ n1_; (try clear hb); (try clear hb2); (try clear hk); (try clear hi)))
                  go_ret
                  exact ⟨by first | rfl | (simp [errW_none, errW_some] <;> rfl) | (simp [*, errW_none, errW_some] <;> rfl), by repeat (first | (with_reducible first | exact HB.out | apply below_alloc | apply pw_below_drewN | apply below_drew1 | refine below_set ?_ GE130.out) | exact HB.out)⟩
        · replace c23 := Bool.eq_false_iff.mpr c23
          subst c23
          have H1 : (some 6) = some r := by rw [if_neg (show ¬ (false = true) by decide)] at H; exact H
          clear H
          have H := H1
          clear H1
          obtain rfl := Option.some.inj H
          have hcz45_0 : wc.cell? ⟨gb130, 0, none⟩ = some (.int .i64 a0_0) := (blk_cell BK130.out 0).trans rfl
          have hcz45_1 : wc.cell? ⟨gb130, 1, none⟩ = some (.int .i64 a0_1) := (blk_cell BK130.out 1).trans rfl
          have hcz45_2 : wc.cell? ⟨gb130, 2, none⟩ = some (.int .i64 a0_2) := (blk_cell BK130.out 2).trans rfl
          have hcz45_3 : wc.cell? ⟨gb130, 3, none⟩ = some (.int .i64 a0_3) := (blk_cell BK130.out 3).trans rfl
          have hcz45_4 : wc.cell? ⟨gb130, 4, none⟩ = some (.slice A0_4 l0_4.length c0_4) := (blk_cell BK130.out 4).trans rfl
          have hfz45_0 := blk_frozen BK130.out 0
          have hfz45_1 := blk_frozen BK130.out 1
          have hfz45_2 := blk_frozen BK130.out 2
          have hfz45_3 := blk_frozen BK130.out 3
          have hfz45_4 := blk_frozen BK130.out 4
          go_wp2_with (first | ((with_reducible refine gate_callee (f := 45) rfl ?_); refine goesL_ (some 45) rfl rfl Try.func45 (by kernel_rfl) rfl #[.agg #[.int .i64 a0_0, .int .i64 a0_1, .int .i64 a0_2, .int .i64 a0_3, .slice A0_4 l0_4.length c0_4]] rfl (by (try simp only [List.map_toArray, List.map_cons, List.map_nil]); first | done | rfl | (simp only [List.length_drop, List.length_take]; rfl)) ?_; (with_reducible refine (hunks_fields.calls a0_0 a0_1 a0_2 a0_3 _ _ l0_4 false _ ?side1 ?side2 A22.out).mono ?_); (case side1 => repeat (first | exact (Kd.C_below HR0_4.out HB.out) | (with_reducible refine Kd.C_alloc ?_ _) | (with_reducible refine Kd.C_drewN ?_ _) | (with_reducible refine Kd.C_drew ?_))); (case side2 => exact HC0_4.out); rintro e w46 ⟨rfl, hb⟩; refine ⟨_, rfl, ?_⟩; have n0_ := Aside0.mk (blk_below (g := gb130) (o := .cells #[.int .i64 a0_0, .int .i64 a0_1, .int .i64 a0_2, .int .i64 a0_3, .slice A0_4 l0_4.length c0_4] 24 (0, 0)) (by (with_reducible repeat (first | refine blk_drewN ?_ _ | refine blk_drew ?_ | refine blk_alloc ?_ _)); exact BK130.out) hb); have n1_ := Aside0.mk (below_step (by repeat (first | (with_reducible first | exact HB.out | apply below_alloc | apply pw_below_drewN | apply below_drew1 | refine below_set ?_ GE130.out) | exact HB.out)) hb); clear BK130; clear HB; have BK130 := n0_; have HB := n1_; clear n0_ n1_; (try clear hb); (try clear hb2); (try clear hk); (try clear hi)))
          go_ret
          exact ⟨by first | rfl | (simp [errW_none, errW_some] <;> rfl) | (simp [*, errW_none, errW_some] <;> rfl), by repeat (first | (with_reducible first | exact HB.out | apply below_alloc | apply pw_below_drewN | apply below_drew1 | refine below_set ?_ GE130.out) | exact HB.out)⟩
end Go.Proofs.Ytnllemlmgbjjnaa.PA
