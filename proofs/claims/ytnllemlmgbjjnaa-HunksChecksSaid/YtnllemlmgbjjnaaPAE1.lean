import Derived.Test.YtnllemlmgbjjnaaPAx0
import Derived.Test.YtnllemlmgbjjnaaPAE0
import Derived.RangeFuncNested
import Derived.RangeFuncBox
import Derived.RangeFuncBound
import Derived.RangeFuncCalls
import Derived.RangeFuncLeaves
import Derived.Shelf.Abstract
import Derived.Shelf.RegionOpen
import Derived.WalkKit
import Derived.OwnWalkIn
import Derived.TacticsInMore
import Derived.LoopNIn
import Derived.LoopIn
import Derived.Sort.CutIn
import Derived.Lib.Hide
import Derived.BigGuardPartIn
import Derived.Test.YtnllemlmgbjjnaaQuietR
namespace Go.Proofs.Ytnllemlmgbjjnaa.PA
set_option linter.unusedVariables false
set_option linter.unusedSimpArgs false
open Go.RowKit Go.Shelf Go.Proofs.YtnllemlmgbjjnaaW.PrintWords Go.Proofs.YtnllemlmgbjjnaaW.PrintLast Go.Proofs.YtnllemlmgbjjnaaW.PrintMore

attribute [local go_sem] Oper.semAt_some

/-- What has come of a list that is gone through from its end on, when the place i is next. -/
def down (zs : List S35) (i : Int) : List (Int × S35) := (List.range ((zs.length : Int) - 1 - i).toNat).map fun (j : Nat) => ((zs.length : Int) - 1 - j, rd_T35 zs ((zs.length : Int) - 1 - j))
theorem down_start (zs : List S35) : down zs ((zs.length : Int) - 1) = [] := by simp [down]
theorem down_step (zs : List S35) (i : Int) (h1 : i < zs.length) : down zs (i - 1) = down zs i ++ [(i, rd_T35 zs i)] := by
  have e : ((zs.length : Int) - 1 - (i - 1)).toNat = ((zs.length : Int) - 1 - i).toNat + 1 := by omega
  have e2 : (zs.length : Int) - 1 - (((zs.length : Int) - 1 - i).toNat : Int) = i := by omega
  unfold down
  rw [e, List.range_succ, List.map_append, List.map_cons, List.map_nil, e2]
theorem down_length (zs : List S35) (i : Int) : (down zs i).length = ((zs.length : Int) - 1 - i).toNat := by simp [down]
theorem down_prefix (zs : List S35) (i : Int) (h0 : -1 ≤ i) : down zs i <+: down zs (-1) := by
  unfold down
  obtain ⟨k, hk⟩ : ∃ k, ((zs.length : Int) - 1 - (-1)).toNat = ((zs.length : Int) - 1 - i).toNat + k := ⟨((zs.length : Int) - 1 - (-1)).toNat - ((zs.length : Int) - 1 - i).toNat, by omega⟩
  rw [hk, List.range_add, List.map_append]
  exact List.prefix_append _ _
theorem down_all (zs : List S35) : (down zs (-1)).map (·.2) = zs.reverse := by
  apply List.ext_getElem
  · simp [down]
  · intro i h1 h2
    have hi : i < zs.length := by simpa using h2
    have e : ((zs.length : Int) - 1 - (i : Int)).toNat = zs.length - 1 - i := by omega
    simp only [down, List.getElem_map, List.getElem_range, List.getElem_reverse, rd_T35, e]
    simp [List.getD, show zs.length - 1 - i < zs.length from by omega]

/-- What a round keeps: whatever lay below n₀, and the block Bs. -/
def KpB (n₀ Bs : Nat) (W W' : World) : Prop := Below n₀ W W' ∧ W'.heap[Bs]? = W.heap[Bs]?
theorem KpB.trans {n₀ Bs : Nat} {A B C : World} (h : KpB n₀ Bs A B) (k : KpB n₀ Bs B C) : KpB n₀ Bs A C := ⟨h.1.trans k.1, k.2.trans h.2⟩
theorem KpB.refl (n₀ Bs : Nat) (A : World) : KpB n₀ Bs A A := ⟨Below.refl _ _, rfl⟩
theorem KpB.put {n₀ Bs : Nat} {w : World} (hn : n₀ ≤ w.heap.size) (hB : Bs < w.heap.size) (W : World) (l : Nat) (o o' : Obj) (hl : w.heap.size ≤ l) (h : W.heap[l]? = some o) (h1 : o.isCells = false) (h2 : o.isWalk = false) : KpB n₀ Bs W (W.putObj l o') :=
  ⟨belowK_b hn W l o o' hl h h1 h2, (grownBy_putObj' W l o').block Bs (by have := (Array.getElem?_eq_some_iff.1 h).1; omega) (by intro e; injection e with e; omega)⟩

set_option maxRecDepth 100000 in
set_option maxHeartbeats 2000000 in
theorem backward1_in (F : Fence) (n : Nat) (h7 : F.fn 107) (hro : F.round = none) (hn : 1 ≤ n) (l Bs n₀ cap : Nat) (A : Option Addr) (zs : List S35) (hreach : zs.length < 5864062014805) (J Jx : List (Int × S35) → World → Prop)
    (hY : ∀ pre x W, J pre W → pre.length < zs.length → YieldAt F (n - 1) Try.prog l #[.int .i64 x.1, .agg #[.int .u8 x.2.f0, .string x.2.f1]] W fun e W' =>
      (e = .returned (.bool true) ∧ J (pre ++ [x]) W' ∧ KpB n₀ Bs W W') ∨ (e = .returned (.bool false) ∧ Jx (pre ++ [x]) W'))
    (w0 : World) (hn₀ : n₀ = w0.heap.size) (hc : Kd.C k35 w0 A zs.length zs)
    (W : World) (hb0 : Below n₀ w0 W) (hBs : Boxed W Bs 22 (.slice A zs.length cap)) (h0 : J [] W) :
    CallsIn F n Try.prog 107 #[.func (.yield l) #[] #[], .pointer (some ⟨Bs, 0, none⟩)] W fun e W' => (∃ v, e = .returned v) ∧
      ((∃ ys, ys = down zs (-1) ∧ J ys W') ∨ (∃ pre, pre <+: down zs (-1) ∧ Jx pre W')) := by
  refine callsIn_of_wp Try.func107 rfl h7 ?_ hro
  simp only [Try.ntmps107, List.size_toArray, List.length_cons, List.length_nil, Nat.reduceAdd, Nat.reduceSub, Array.replicate_succ, Array.replicate_zero, List.push_toArray, List.append_toArray, List.nil_append, List.cons_append]
  have hcs := hBs.cell
  have hreach' : (zs.length : Int) < 5864062014805 := by omega
  gi_wp2
  gi_loopw [3] (fun v wr => ∃ i : Int, -1 ≤ i ∧ i < zs.length ∧ v = .int .i64 i ∧ J (down zs i) wr ∧ KpB n₀ Bs W wr)
    (fun v _ => (intOf v + 1).toNat)
  case atStart => exact ⟨(zs.length : Int) - 1, by omega, by omega, rfl, by rw [down_start]; exact h0, KpB.refl _ _ _⟩
  case round =>
    obtain ⟨i, hi1, hi2, rfl, hJs, hnx⟩ := hrel
    have hbx : Boxed wr Bs 22 (.slice A zs.length cap) := hnx.2.trans hBs
    have hcx := hbx.cell
    by_cases hlt : 0 ≤ i
    · obtain ⟨ad, e, hx0, hx1⟩ := at_T35 hc i hlt hi2
      subst e
      have hbw := hb0.trans hnx.1
      replace hx0 := (hbw.cell (by rw [hn₀]; exact World.block_lt_of_cell? w0 _ hx0)).trans hx0
      replace hx1 := (hbw.cell (by rw [hn₀]; exact World.block_lt_of_cell? w0 _ hx1)).trans hx1
      obtain ⟨fn, tmps, assign, body, hy, hR⟩ := hY _ (i, rd_T35 zs i) wr hJs (by rw [down_length]; omega)
      have HI := Lib.hid hn₀
      clear hn₀
      gi_wp2
      refine hR.mono ?_
      rintro e W3 (⟨rfl, hJ3, hk3⟩ | ⟨rfl, hJx3⟩)
      · gi_wp2
        go_roundw
        case rel => exact ⟨i - 1, by omega, by omega, by simp, by rw [down_step zs i hi2]; exact hJ3, hnx.trans hk3⟩
        case measure => simp [intOf]; omega
      · gi_wp2
        refine bodyPost_ret (results_none rfl _ _ _) rfl ?_
        exact ⟨⟨_, rfl⟩, .inr ⟨_, by rw [← down_step zs i hi2]; exact down_prefix _ _ (by omega), hJx3⟩⟩
    · obtain rfl : i = -1 := by omega
      gi_wp2
      go_end0

      exact ⟨⟨_, rfl⟩, .inl hJs⟩

set_option maxHeartbeats 1000000 in
theorem backward_in (F : Fence) (n : Nat) (h5 : F.fn 79) (hro : F.round = none) (a : Option Addr) (len cap : Nat) (w : World) :
    CallsIn F n Try.prog 79 #[.slice a len cap] w fun e w' => e = .returned (.func (.func 107) #[] #[.pointer (some ⟨w.heap.size, 0, none⟩)]) ∧ w' = w.alloc (.cells #[.slice a len cap] 22) := by
  refine callsIn_of_wp Try.func79 rfl h5 ?_ hro
  simp only [Try.ntmps79, List.size_toArray, List.length_cons, List.length_nil, Nat.reduceAdd, Nat.reduceSub, Array.replicate_succ, Array.replicate_zero, List.push_toArray, List.append_toArray, List.nil_append, List.cons_append]
  gi_wp2
  go_ret
  exact ⟨rfl, rfl⟩

theorem backward_stops (F : Fence) (n : Nat) (h7 : F.fn 107) (hro : F.round = none) (hn : 1 ≤ n) (Bs cap : Nat) (A : Option Addr) (zs : List S35) (hreach : zs.length < 5864062014805) (w0 w : World) (hb : Below w0.heap.size w0 w) (hBs : Boxed w Bs 22 (.slice A zs.length cap)) (hc : Kd.C k35 w0 A zs.length zs) :
    SeqStopsK F n Try.prog 107 #[.pointer (some ⟨Bs, 0, none⟩)] (fun x : Int × S35 => #[Value.int .i64 x.1, .agg #[.int .u8 x.2.f0, .string x.2.f1]]) (KpB w0.heap.size Bs) (fun ys => ys = down zs (-1)) (fun pre => pre <+: down zs (-1)) zs.length w := fun l J Jx W hW _ _ hY h0 =>
  backward1_in F n h7 hro hn l Bs w0.heap.size cap A zs hreach J Jx hY w0 rfl hc W (hb.trans (hW.mono hb.size)) ((hW.block Bs hBs.lt).trans hBs) h0

/-! ### hunks.fields -/
/-- The place of the line feed in a text, or -1. -/
def lfAt (s : ByteArray) : Int := Lib.indexByte s.data.toList 10
theorem lf_calls (s : ByteArray) (w : World) :
    Calls Try.prog 80 #[.string s, .int .u8 10] w fun e w' => e = .returned (.int .i64 (lfAt s)) ∧ w = w' := (Try.strings_IndexByte s 10 w).mono fun _ _ ⟨he, hw⟩ => ⟨he, hw.symm⟩
def isOldB (c : Int) : Bool := c == 32 || c == 45
def isNewB (c : Int) : Bool := c == 32 || c == 43
def badB (m : S35) : Bool := (!isOldB m.f0 && !isNewB m.f0) || m.f1.toList.isEmpty || (decide (0 ≤ lfAt m.f1) && decide (lfAt m.f1 < wrap64 ((m.f1.size : Int) - 1)))
/-- One line more, seen from the end on: is there an old line behind, a new one? none: a line that is wrong. -/
def fstep (st : Option (Bool × Bool)) (m : S35) : Option (Bool × Bool) :=
  match st with
  | none => none
  | some (o, f) => if badB m then none else if decide (lfAt m.f1 < 0) && ((isOldB m.f0 && o) || (isNewB m.f0 && f)) then none else some (o || isOldB m.f0, f || isNewB m.f0)
def fieldsB (l : List S35) : Bool := (l.reverse.foldl fstep (some (false, false))).isSome
def fds (pre : List (Int × S35)) : Option (Bool × Bool) := (pre.map (·.2)).foldl fstep (some (false, false))
theorem fds_snoc (pre : List (Int × S35)) (x : Int × S35) : fds (pre ++ [x]) = fstep (fds pre) x.2 := by simp [fds]
theorem foldl_none (l : List S35) : l.foldl fstep none = none := by
  induction l with
  | nil => rfl
  | cons a l ih => exact ih
theorem fds_prefix {pre l : List (Int × S35)} (h : pre <+: l) (hn : fds pre = none) : fds l = none := by
  obtain ⟨r, rfl⟩ := h
  unfold fds at *
  rw [List.map_append, List.foldl_append, hn, foldl_none]
theorem fds_down (zs : List S35) : (fds (down zs (-1))).isSome = fieldsB zs := by unfold fds fieldsB; rw [down_all]
def blk2 (W : World) (B : Nat) (m : S35) : Prop := W.heap[B]? = some (.cells #[.int .u8 m.f0, .string m.f1] 35 (0, 0))
theorem blk2_own (B : Nat) (m : S35) : Own (fun (_ : Unit) W => blk2 W B m) := fun s X Y row hs hg hrow => by
  refine (hg.block B (Array.getElem?_eq_some_iff.1 hs).1 ?_).trans hs
  intro e
  obtain ⟨o, h1, h2⟩ := hrow B e.symm
  rw [show X.heap[B]? = _ from hs] at h1
  injection h1 with h1
  rw [← h1] at h2
  cases h2
theorem fstep_bad {o f : Bool} {m : S35} (h : badB m = true) : fstep (some (o, f)) m = none := by simp [fstep, h]
theorem fstep_stop {o f : Bool} {m : S35} (h : badB m = false) (h2 : (decide (lfAt m.f1 < 0) && ((isOldB m.f0 && o) || (isNewB m.f0 && f))) = true) : fstep (some (o, f)) m = none := by simp only [fstep, h]; simp [h2]
theorem fstep_go {o f : Bool} {m : S35} (h : badB m = false) (h2 : (decide (lfAt m.f1 < 0) && ((isOldB m.f0 && o) || (isNewB m.f0 && f))) = false) : fstep (some (o, f)) m = some (o || isOldB m.f0, f || isNewB m.f0) := by simp only [fstep, h]; simp [h2]

def hunks_fields.f (_ _ _ _ : Int) (l0_4 : List S35) : Option Bool := if l0_4.length < 5864062014805 then some (fieldsB l0_4) else none

set_option maxRecDepth 100000 in
set_option maxHeartbeats 8000000 in
theorem hunks_fields.calls (a0_0 : Int) (a0_1 : Int) (a0_2 : Int) (a0_3 : Int) (A0_4 : Option Addr) (c0_4 : Nat) (l0_4 : List S35) (r : Bool) (w : World) (hr0_4 : Kd.C k35 w A0_4 l0_4.length l0_4) (_hc0_4 : l0_4.length ≤ c0_4) (h : hunks_fields.f a0_0 a0_1 a0_2 a0_3 l0_4 = some r) :
    Calls Try.prog 45 #[.agg #[.int .i64 a0_0, .int .i64 a0_1, .int .i64 a0_2, .int .i64 a0_3, .slice A0_4 l0_4.length c0_4]] w fun e w' => e = .returned (.bool r) ∧ Below w.heap.size w w' := by
  unfold hunks_fields.f at h
  by_cases hlen : l0_4.length < 5864062014805
  case neg => rw [if_neg hlen] at h; exact absurd h (by simp)
  rw [if_pos hlen] at h
  have hres := Option.some.inj h
  clear h
  refine (callsIn_wide (n := 6)).1 ?_
  refine callsIn_of_wp_marks Try.func45 rfl trivial ?_ rfl
  simp only [Try.ntmps45, List.size_toArray, List.length_cons, List.length_nil, Nat.reduceAdd, Nat.reduceSub, Array.replicate_succ, Array.replicate_zero, List.push_toArray, List.append_toArray, List.nil_append, List.cons_append]
  have HRES := Lib.hid hres
  clear hres
  gi_wp2_with (refine ⟨trivial, ?_⟩; gi_at_call 79; refine (backward_in Fence.wide _ trivial rfl _ _ _ _).mono ?_; rintro e w' ⟨rfl, rfl⟩)
  have bR := (((Boxed.new (w.alloc (.cells #[.int .i64 a0_0, .int .i64 a0_1, .int .i64 a0_2, .int .i64 a0_3, .slice A0_4 l0_4.length c0_4] 24)) 4 (.bool false)).alloc (.cells #[.bool false] 4)).alloc (.cells #[.bool false] 4)).alloc (.cells #[.slice A0_4 l0_4.length c0_4] 22)
  have bO := ((Boxed.new ((w.alloc (.cells #[.int .i64 a0_0, .int .i64 a0_1, .int .i64 a0_2, .int .i64 a0_3, .slice A0_4 l0_4.length c0_4] 24)).alloc (.cells #[.bool false] 4)) 4 (.bool false)).alloc (.cells #[.bool false] 4)).alloc (.cells #[.slice A0_4 l0_4.length c0_4] 22)
  have bF := (Boxed.new (((w.alloc (.cells #[.int .i64 a0_0, .int .i64 a0_1, .int .i64 a0_2, .int .i64 a0_3, .slice A0_4 l0_4.length c0_4] 24)).alloc (.cells #[.bool false] 4)).alloc (.cells #[.bool false] 4)) 4 (.bool false)).alloc (.cells #[.slice A0_4 l0_4.length c0_4] 22)
  have bS := Boxed.new ((((w.alloc (.cells #[.int .i64 a0_0, .int .i64 a0_1, .int .i64 a0_2, .int .i64 a0_3, .slice A0_4 l0_4.length c0_4] 24)).alloc (.cells #[.bool false] 4)).alloc (.cells #[.bool false] 4)).alloc (.cells #[.bool false] 4)) 22 (.slice A0_4 l0_4.length c0_4)
  have hB0 : Below w.heap.size w (((((w.alloc (.cells #[.int .i64 a0_0, .int .i64 a0_1, .int .i64 a0_2, .int .i64 a0_3, .slice A0_4 l0_4.length c0_4] 24)).alloc (.cells #[.bool false] 4)).alloc (.cells #[.bool false] 4)).alloc (.cells #[.bool false] 4)).alloc (.cells #[.slice A0_4 l0_4.length c0_4] 22)) :=
    (((((Below.refl _ w).alloc (Nat.le_refl _) _).alloc (by simp) _).alloc (by simp; omega) _).alloc (by simp; omega) _).alloc (by simp; omega) _
  have hsz : (((((w.alloc (.cells #[.int .i64 a0_0, .int .i64 a0_1, .int .i64 a0_2, .int .i64 a0_3, .slice A0_4 l0_4.length c0_4] 24)).alloc (.cells #[.bool false] 4)).alloc (.cells #[.bool false] 4)).alloc (.cells #[.bool false] 4)).alloc (.cells #[.slice A0_4 l0_4.length c0_4] 22)).heap.size = w.heap.size + 5 := by simp
  simp only [World.size_alloc] at bR bO bF bS
  generalize hW0 : (((((w.alloc (.cells #[.int .i64 a0_0, .int .i64 a0_1, .int .i64 a0_2, .int .i64 a0_3, .slice A0_4 l0_4.length c0_4] 24)).alloc (.cells #[.bool false] 4)).alloc (.cells #[.bool false] 4)).alloc (.cells #[.bool false] 4)).alloc (.cells #[.slice A0_4 l0_4.length c0_4] 22)) = W0 at bR bO bF bS hB0 hsz ⊢
  clear hW0
  refine wpIn_rangeFunc_ownH rfl (by omega) (gf := 107) (lb := #[.pointer (some ⟨w.heap.size + 1 + 1 + 1 + 1, 0, none⟩)]) rfl trivial (enters_of Try.func107 (by kernel_rfl) rfl)
    (backward_stops Fence.wide _ trivial rfl (by omega) (w.heap.size + 1 + 1 + 1 + 1) c0_4 A0_4 l0_4 hlen w W0 hB0 bS hr0_4) KpB.trans (KpB.put (by omega) (by omega)) (Below.refl _ _) (fun _ => rfl)
    (fun pre W => (∃ o f : Bool, fds pre = some (o, f) ∧ Boxed W (w.heap.size + 1) 4 (.bool false) ∧ Boxed W (w.heap.size + 1 + 1) 4 (.bool o) ∧ Boxed W (w.heap.size + 1 + 1 + 1) 4 (.bool f) ∧ Boxed W (w.heap.size + 1 + 1 + 1 + 1) 22 (.slice A0_4 l0_4.length c0_4)) ∧ Below w.heap.size w W)
    (fun c pre W => ((c = .ret ∧ fds pre = none) ∧ Boxed W (w.heap.size + 1) 4 (.bool false)) ∧ Below w.heap.size w W)
    (OwnFrom.and (Own.from (fun s X Y row hs hg hr => by obtain ⟨o, f, h1, h2, h3, h4, h5⟩ := hs; exact ⟨o, f, h1, boxed_own _ _ (fun (_ : Unit) => Value.bool false) () X Y row h2 hg hr, boxed_own _ _ (fun (_ : Unit) => Value.bool o) () X Y row h3 hg hr, boxed_own _ _ (fun (_ : Unit) => Value.bool f) () X Y row h4 hg hr, boxed_own _ _ (fun (_ : Unit) => Value.slice A0_4 l0_4.length c0_4) () X Y row h5 hg hr⟩) _) (ownFrom_below (Nat.le_refl _) (by omega)))
    (fun c => OwnFrom.and (OwnFrom.and (ownFrom_pure _ _) (Own.from (boxed_own _ _ _) _)) (ownFrom_below (Nat.le_refl _) (by omega)))
    ⟨⟨false, false, rfl, bR, bO, bF, bS⟩, hB0⟩
    (fun x a' W => ∃ Bx, w.heap.size + 1 + 1 + 1 + 1 < Bx ∧ blk2 W Bx x.2 ∧ a' = { tmps := #[.agg #[.int .i64 a0_0, .int .i64 a0_1, .int .i64 a0_2, .int .i64 a0_3, .slice A0_4 l0_4.length c0_4], .pointer (some ⟨w.heap.size, 0, none⟩), .pointer (some ⟨w.heap.size + 1, 0, none⟩), .pointer (some ⟨w.heap.size + 1 + 1, 0, none⟩), .pointer (some ⟨w.heap.size + 1 + 1 + 1, 0, none⟩), undef, .pointer (some ⟨Bx, 0, none⟩), undef, undef, undef, .pointer (some ⟨w.heap.size, 4, none⟩), .slice A0_4 l0_4.length c0_4, .func (.func 107) #[] #[.pointer (some ⟨w.heap.size + 1 + 1 + 1 + 1, 0, none⟩)], .int .i64 x.1, .agg #[.int .u8 x.2.f0, .string x.2.f1], undef, undef, undef, undef, undef, undef, undef, undef, undef, undef, undef, undef, undef, undef, undef, undef, undef, undef, undef, undef, undef, undef, undef, undef, undef, undef, undef, undef, undef, undef, undef, undef, undef, undef, undef, undef, undef, undef, undef, undef, undef, undef, undef, undef, undef, undef, undef, undef, undef, undef, undef, undef, undef, undef, undef, undef, undef, undef, undef, undef, undef, undef, undef, undef], defers := [] })
    (fun x a' _ X Y row hs hg hr => by obtain ⟨Bx, h1, h2, h3⟩ := hs; exact ⟨Bx, h1, blk2_own Bx x.2 () X Y row h2 hg (fun r e => (hr r e).2), h3⟩)
    ?assign ?body ?done ?stop
  case assign =>
    rintro l pre x W K ⟨⟨o, f, h1, bR1, bO1, bF1, bS1⟩, hB1⟩ hK
    gi_wp2
    exact hK _ _ ((KeepsOthers.alloc _ _).from _) ⟨(Below.refl _ W).alloc hB1.size _, (bS1.alloc _).trans bS1.symm⟩ ⟨⟨o, f, h1, bR1.alloc _, bO1.alloc _, bF1.alloc _, bS1.alloc _⟩, hB1.alloc hB1.size _⟩ ⟨W.heap.size, bS1.lt, World.alloc_heap_new W _, rfl⟩
  case body =>
    rintro l pre x a' W hl ⟨rr, hrr⟩ ⟨⟨o, f, h1, bR1, bO1, bF1, bS1⟩, hB1⟩ ⟨Bx, hBx, bX, rfl⟩ hlt
    have hmx : Try.prog.follows .mixedOrders = true := by kernel_rfl
    have cx0 : W.cell? ⟨Bx, 0, none⟩ = some (.int .u8 x.2.f0) := (blk_cell bX 0).trans rfl
    have cx1 : W.cell? ⟨Bx, 1, none⟩ = some (.string x.2.f1) := (blk_cell bX 1).trans rfl
    have cO := bO1.cell
    have cF := bF1.cell
    gi_upto_region 5 with (refine ⟨trivial, ?_⟩; gi_at_call 80; refine (CallsIn.inRound l (callsIn_wide.2 (lf_calls _ _))).mono ?_; rintro e w' ⟨rfl, rfl⟩)

    gi_cut [8, 9] from 15 (fun s8 s9 wx => s8 = .bool (isOldB x.2.f0) ∧ s9 = .bool (isNewB x.2.f0) ∧ ∃ nq, wx = W.drewN nq)
    case first =>
      have hcase : ((x.2.f0 == 32) = true ∧ isOldB x.2.f0 = true ∧ isNewB x.2.f0 = true ∧ (x.2.f0 == 45) = false ∧ (x.2.f0 == 43) = false) ∨
          ((x.2.f0 == 32) = false ∧ isOldB x.2.f0 = true ∧ isNewB x.2.f0 = false ∧ (x.2.f0 == 45) = true ∧ (x.2.f0 == 43) = false) ∨
          ((x.2.f0 == 32) = false ∧ isOldB x.2.f0 = false ∧ isNewB x.2.f0 = true ∧ (x.2.f0 == 45) = false ∧ (x.2.f0 == 43) = true) ∨
          ((x.2.f0 == 32) = false ∧ isOldB x.2.f0 = false ∧ isNewB x.2.f0 = false ∧ (x.2.f0 == 45) = false ∧ (x.2.f0 == 43) = false) := by
        unfold isOldB isNewB
        by_cases e1 : x.2.f0 = 32
        · simp [e1]
        · by_cases e2 : x.2.f0 = 45
          · simp [e2]
          · by_cases e3 : x.2.f0 = 43
            · simp [e3]
            · simp [e1, e2, e3]
      rcases hcase with ⟨b1, hO, hN, b2, b3⟩ | ⟨b1, hO, hN, b2, b3⟩ | ⟨b1, hO, hN, b2, b3⟩ | ⟨b1, hO, hN, b2, b3⟩
      all_goals
        have HO := Lib.hid hO
        have HN := Lib.hid hN
        clear hO hN
        refine wpInR_region_quiet_lit (by kernel_rfl) hmx (by kernel_rfl) ?_
        repeat (gi_big_quiet_step (fail))
        refine wpQuietIn_nil ?_
        intro _ hw'
        obtain ⟨nq, hw''⟩ := hw'
        subst hw''
        gi_wp2
        gi_meet
        case rel => exact ⟨by rw [HO.out], by rw [HN.out], nq, rfl⟩
    case rest =>
      obtain ⟨rfl, rfl, nq, rfl⟩ := hcut
      generalize hbo : isOldB x.2.f0 = bo
      generalize hbn : isNewB x.2.f0 = bn
      have HBO := Lib.hid hbo
      have HBN := Lib.hid hbn
      clear hbo hbn
      have hdr : (W.drewN nq).heap = W.heap := rfl
      generalize hW2 : W.drewN nq = W2 at hdr ⊢
      have hK2 : KeepsFrom W0.heap.size W W2 := ⟨by rw [hdr]; exact Nat.le_refl _, fun k o _ hk _ => by rw [hdr]; exact hk⟩
      have hP2 : Below w.heap.size W W2 := by rw [← hW2]; exact ⟨rfl, rfl, rfl, Nat.le_refl _, fun _ _ => rfl⟩
      replace cx1 : W2.cell? ⟨Bx, 1, none⟩ = some (.string x.2.f1) := by rw [← cx1]; simp [World.cell?, hdr]
      have bO2 : Boxed W2 (w.heap.size + 1 + 1) 4 (.bool o) := by unfold Boxed; rw [hdr]; exact bO1
      have bF2 : Boxed W2 (w.heap.size + 1 + 1 + 1) 4 (.bool f) := by unfold Boxed; rw [hdr]; exact bF1
      have bR2 : Boxed W2 (w.heap.size + 1) 4 (.bool false) := by unfold Boxed; rw [hdr]; exact bR1
      have bS2 : Boxed W2 (w.heap.size + 1 + 1 + 1 + 1) 22 (.slice A0_4 l0_4.length c0_4) := by unfold Boxed; rw [hdr]; exact bS1
      have hB2 := hB1.trans hP2
      have HS1 := Lib.hid bS1
      clear hW2 hdr cO cF cx0 bO1 bF1 bR1 bS1 hrr bX hmx
      have cR := bR2.cell
      have cO := bO2.cell
      have cF := bF2.cell
      have fR := bR2.frozen
      have fO := bO2.frozen
      have fF := bF2.frozen

      gi_upto_region 6 with (fail)
      gi_cut [56] from 15 (fun s56 wx => s56 = .bool ((!bo && !bn) || x.2.f1.toList.isEmpty || (decide (0 ≤ lfAt x.2.f1) && decide (lfAt x.2.f1 < wrap64 ((x.2.f1.size : Int) - 1)))) ∧ W2 = wx)
      case first =>
        by_cases he : x.2.f1.toList = []
        · have he2 : x.2.f1.toList.isEmpty = true := by simp [he]
          have he3 : (!x.2.f1.toList.isEmpty) = false := by simp [he]
          cases bo <;> cases bn
          all_goals gi_wp2_with fail
          all_goals first | (exact absurd (‹some undef = some (Value.bool _)›) (by simp [undef])) | (gi_meet; exact ⟨by simp [he], rfl⟩)
        · have he2 : x.2.f1.toList.isEmpty = false := by simpa using he
          have he3 : (!x.2.f1.toList.isEmpty) = true := by simpa using he
          by_cases hp : 0 ≤ lfAt x.2.f1
          · have hp2 : decide (0 ≤ lfAt x.2.f1) = true := decide_eq_true hp
            by_cases hq : lfAt x.2.f1 < wrap64 ((x.2.f1.size : Int) - 1)
            · have hq2 : decide (lfAt x.2.f1 < wrap64 ((x.2.f1.size : Int) - 1)) = true := decide_eq_true hq
              clear hp hq he
              cases bo <;> cases bn
              all_goals gi_wp2_with fail
              all_goals first | (exact absurd (‹some undef = some (Value.bool _)›) (by simp [undef])) | (gi_meet; exact ⟨by simp [he2, hp2, hq2], rfl⟩)
            · have hq2 : decide (lfAt x.2.f1 < wrap64 ((x.2.f1.size : Int) - 1)) = false := decide_eq_false hq
              clear hp hq he
              cases bo <;> cases bn
              all_goals gi_wp2_with fail
              all_goals first | (exact absurd (‹some undef = some (Value.bool _)›) (by simp [undef])) | (gi_meet; exact ⟨by simp [he2, hp2, hq2], rfl⟩)
          · have hp2 : decide (0 ≤ lfAt x.2.f1) = false := decide_eq_false hp
            clear hp he
            cases bo <;> cases bn
            all_goals gi_wp2_with fail
            all_goals first | (exact absurd (‹some undef = some (Value.bool _)›) (by simp [undef])) | (gi_meet; exact ⟨by simp [he2, hp2], rfl⟩)
      case rest =>
        obtain ⟨rfl, rfl⟩ := hcut
        have hbb : badB x.2 = ((!bo && !bn) || x.2.f1.toList.isEmpty || (decide (0 ≤ lfAt x.2.f1) && decide (lfAt x.2.f1 < wrap64 ((x.2.f1.size : Int) - 1)))) := by unfold badB; rw [HBO.out, HBN.out]
        cases hbad : ((!bo && !bn) || x.2.f1.toList.isEmpty || (decide (0 ≤ lfAt x.2.f1) && decide (lfAt x.2.f1 < wrap64 ((x.2.f1.size : Int) - 1))))
        · rw [hbad] at hbb
          have HBB := Lib.hid hbb
          clear hbb hbad
          gi_upto_region 8 with fail
          gi_cut [70] from 57 (fun s70 wx => s70 = .bool (decide (lfAt x.2.f1 < 0) && ((bo && o) || (bn && f))) ∧ W2 = wx)
          case first =>
            by_cases hp : lfAt x.2.f1 < 0
            · have hp2 : decide (lfAt x.2.f1 < 0) = true := decide_eq_true hp
              clear hp
              cases bo <;> cases bn <;> cases o <;> cases f
              all_goals gi_wp2_with fail
              all_goals first | (exact absurd (‹some undef = some (Value.bool _)›) (by simp [undef])) | (gi_meet; exact ⟨by simp [hp2], rfl⟩)
            · have hp2 : decide (lfAt x.2.f1 < 0) = false := decide_eq_false hp
              clear hp
              gi_wp2_with fail
              all_goals first | (exact absurd (‹some undef = some (Value.bool _)›) (by simp [undef])) | (gi_meet; exact ⟨by simp [hp2], rfl⟩)
          case rest =>
            obtain ⟨rfl, rfl⟩ := hcut
            have hst : ((decide (lfAt x.2.f1 < 0) && ((isOldB x.2.f0 && o) || (isNewB x.2.f0 && f)))) = (decide (lfAt x.2.f1 < 0) && ((bo && o) || (bn && f))) := by rw [HBO.out, HBN.out]
            cases hsb : (decide (lfAt x.2.f1 < 0) && ((bo && o) || (bn && f)))
            · rw [hsb] at hst
              have HST := Lib.hid hst
              clear hst hsb
              cases o <;> cases f
              all_goals
                gi_wp2
                exact ⟨hK2.trans (((KeepsOthers.setCell _ _ _).trans (KeepsOthers.setCell _ _ _)).from _),
                  ⟨(hP2.setCell (p := ⟨w.heap.size + 1 + 1, 0, none⟩) (by simp; omega) _).setCell (p := ⟨w.heap.size + 1 + 1 + 1, 0, none⟩) (by simp; omega) _, (((bS2.other (by omega) _).other (by omega) _).trans HS1.out.symm)⟩,
                  ⟨⟨_, _, by rw [fds_snoc, h1, fstep_go HBB.out HST.out, HBO.out, HBN.out]; simp, (bR2.other (by omega) _).other (by omega) _, (bO2.set _).other (by omega) _, (bF2.other (by omega) _).set _, (bS2.other (by omega) _).other (by omega) _⟩,
                    (hB2.setCell (p := ⟨w.heap.size + 1 + 1, 0, none⟩) (by simp; omega) _).setCell (p := ⟨w.heap.size + 1 + 1 + 1, 0, none⟩) (by simp; omega) _⟩⟩
            · rw [hsb] at hst
              have HST := Lib.hid hst
              clear hst hsb
              gi_wp2
              exact ⟨hK2.trans ((KeepsOthers.setCell _ _ _).from _), ⟨⟨rfl, by rw [fds_snoc, h1, fstep_stop HBB.out HST.out]⟩, bR2.set _⟩, hB2.setCell (p := ⟨w.heap.size + 1, 0, none⟩) (by simp) _⟩
        · rw [hbad] at hbb
          have HBB := Lib.hid hbb
          clear hbb hbad
          gi_wp2
          exact ⟨hK2.trans ((KeepsOthers.setCell _ _ _).from _), ⟨⟨rfl, by rw [fds_snoc, h1, fstep_bad HBB.out]⟩, bR2.set _⟩, hB2.setCell (p := ⟨w.heap.size + 1, 0, none⟩) (by simp) _⟩
  case done =>
    rintro D ys W hD rfl ⟨⟨o, f, h1, bR1, bO1, bF1, bS1⟩, hB1⟩ hK
    have cR := bR1.cell
    have fR := bR1.frozen
    gi_wp2
    have hK' := (KeepsOthers.setCell W ⟨w.heap.size + 1, 0, none⟩ (.bool true)).same D _ hK rfl
    refine ⟨by simp, .inl ⟨_, _, rfl, run_takeDeferred hK', ?_⟩⟩
    have hc5 := Go.cell_kept (bR1.set (.bool true)).cell (grownBy_putObj' _ D (.deferred none)) (fun r e => by cases e; exact ⟨_, hK', rfl⟩)
    refine ⟨.bool true, by simp [results, Try.f45, go_sem, hc5], by rw [← HRES.out, ← fds_down, h1]; rfl, (hB1.setCell (p := ⟨w.heap.size + 1, 0, none⟩) (by simp) _).trans (belowK_b (w := w) (Nat.le_refl _) _ D _ _ (by omega) hK' rfl rfl)⟩
  case stop =>
    rintro D c pre W hD hpre ⟨⟨⟨rfl, hno⟩, bR1⟩, hB1⟩ hK
    gi_wp2
    refine ⟨by simp, .inl ⟨_, _, rfl, run_takeDeferred hK, ?_⟩⟩
    have hc5 := Go.cell_kept bR1.cell (grownBy_putObj' _ D (.deferred none)) (fun r e => by cases e; exact ⟨_, hK, rfl⟩)
    refine ⟨.bool false, by simp [results, Try.f45, go_sem, hc5], by rw [← HRES.out, ← fds_down, fds_prefix hpre hno]; rfl, hB1.trans (belowK_b (w := w) (Nat.le_refl _) W D _ _ (by omega) hK rfl rfl)⟩

end Go.Proofs.Ytnllemlmgbjjnaa.PA
