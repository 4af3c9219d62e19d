import Derived.Test.YtnllemlmgbjjnaaPAE1

namespace Go.Proofs.Ytnllemlmgbjjnaa.PA
set_option linter.unusedVariables false
set_option linter.unusedSimpArgs false
open Go.RowKit Go.Shelf Go.Proofs.YtnllemlmgbjjnaaW.PrintWords Go.Proofs.YtnllemlmgbjjnaaW.PrintLast Go.Proofs.YtnllemlmgbjjnaaW.PrintMore

/-! ### slices.ContainsFunc at hunks.Check's closure: is there a line with another sign than Same? -/
def chgB (l : List S35) : Bool := l.any fun m => m.f0 != 32
theorem check1_calls (x0 : Int) (x1 : ByteArray) (w : World) :
    Calls Try.prog 43 #[.agg #[.int .u8 x0, .string x1]] w fun e w' => e = .returned (.bool (x0 != 32)) ∧ Below w.heap.size w w' := by
  go_enter Try.func43, Try.ntmps43
  go_wp2
  go_ret
  exact ⟨rfl, (Below.refl _ _).alloc (Nat.le_refl _) _⟩

def IdxSpec (l : List S35) (w : World) (e : Ending) (w' : World) : Prop := ∃ i : Int, e = .returned (.int .i64 i) ∧ decide (0 ≤ i) = chgB l ∧ Below w.heap.size w w'
theorem chg_yes {l : List S35} {i : Int} (h0 : 0 ≤ i) (h1 : i < l.length) (h : ((rd_T35 l i).f0 != 32) = true) : chgB l = true := by
  unfold chgB
  rw [List.any_eq_true]
  refine ⟨rd_T35 l i, ?_, h⟩
  unfold rd_T35
  rw [List.getD_eq_getElem?_getD, List.getElem?_eq_getElem (by omega)]
  exact List.getElem_mem _
theorem chg_no {l : List S35} (h : ∀ j : Int, 0 ≤ j → j < l.length → ((rd_T35 l j).f0 != 32) = false) : chgB l = false := by
  unfold chgB
  rw [List.any_eq_false]
  intro m hm
  obtain ⟨k, hk, rfl⟩ := List.getElem_of_mem hm
  have := h k (by omega) (by omega)
  unfold rd_T35 at this
  rw [List.getD_eq_getElem?_getD, List.getElem?_eq_getElem (by omega)] at this
  simpa using this

set_option maxRecDepth 100000 in
set_option maxHeartbeats 2000000 in
theorem indexFunc_calls (A : Option Addr) (c : Nat) (l : List S35) (w : World) (hr : Kd.C k35 w A l.length l) (hlen : l.length < 5864062014805) :
    Calls Try.prog 81 #[.slice A l.length c, .func (.func 43) #[] #[]] w (IdxSpec l w) := by
  have hlen' : (l.length : Int) < 5864062014805 := by omega
  go_enter Try.func81, Try.ntmps81
  go_wp2
  go_loopw [5, 8] (fun _ v8 wr => ∃ i : Int, 0 ≤ i ∧ i ≤ l.length ∧ v8 = .int .i64 i ∧ Aside0 (Below w.heap.size w wr) ∧ Aside0 (∀ j : Int, 0 ≤ j → j < i → ((rd_T35 l j).f0 != 32) = false)) (fun _ v8 _ => l.length - (intOf v8).toNat)
  case atStart => exact ⟨0, by omega, by omega, rfl, ⟨Below.refl _ _⟩, ⟨fun j h1 h2 => by omega⟩⟩
  case round =>
    obtain ⟨i, h0, h1, rfl, HB, HA⟩ := hrel
    by_cases hlt : i < l.length
    · obtain ⟨ad, e, hx0, hx1⟩ := at_T35 hr i h0 hlt
      subst e
      replace hx0 := (HB.out.cell (World.block_lt_of_cell? w _ hx0)).trans hx0
      replace hx1 := (HB.out.cell (World.block_lt_of_cell? w _ hx1)).trans hx1
      have hcall := check1_calls (rd_T35 l i).f0 (rd_T35 l i).f1 wr
      cases hq : ((rd_T35 l i).f0 != 32)
      · rw [hq] at hcall
        have HQ := Lib.hid hq
        clear hq
        go_wp2_with (go_at_call 43; refine hcall.mono ?_; rintro e w' ⟨rfl, hb'⟩)
        go_roundw
        case rel =>
          refine ⟨i + 1, by omega, by omega, by simp, ⟨HB.out.trans (hb'.mono HB.out.size)⟩, ⟨fun j hj1 hj2 => ?_⟩⟩
          by_cases e : j = i
          · rw [e]; exact HQ.out
          · exact HA.out j hj1 (by omega)
        case measure => simp [intOf]; omega
      · rw [hq] at hcall
        have HQ := Lib.hid hq
        clear hq
        go_wp2_with (go_at_call 43; refine hcall.mono ?_; rintro e w' ⟨rfl, hb'⟩)
        go_ret
        exact ⟨i, rfl, by rw [chg_yes h0 hlt HQ.out]; simpa using h0, HB.out.trans (hb'.mono HB.out.size)⟩
    · obtain rfl : i = l.length := by omega
      go_wp2
      go_ret
      exact ⟨-1, rfl, by rw [chg_no HA.out]; rfl, HB.out⟩

set_option maxHeartbeats 1000000 in
theorem containsFunc_calls (A : Option Addr) (c : Nat) (l : List S35) (w : World) (hr : Kd.C k35 w A l.length l) (hlen : l.length < 5864062014805) :
    Calls Try.prog 46 #[.slice A l.length c, .func (.func 43) #[] #[]] w fun e w' => e = .returned (.bool (chgB l)) ∧ Below w.heap.size w w' := by
  have hcall := indexFunc_calls A c l w hr hlen
  go_enter Try.func46, Try.ntmps46
  go_wp2_with (go_at_call 81; refine hcall.mono ?_; rintro e w' ⟨i, rfl, hi, hb⟩)
  go_ret
  exact ⟨rfl, hb⟩

/-- slices.ContainsFunc, told at the closure of hunks.Check alone. -/
def slices_ContainsFunc_Mark.f (l0 : List S35) (a1 : Value) : Option Bool :=
  match a1 with
  | .func (.func 43) t b => if t.size = 0 ∧ b.size = 0 ∧ l0.length < 5864062014805 then some (chgB l0) else none
  | _ => none
theorem slices_ContainsFunc_Mark.calls (A0 : Option Addr) (c0 : Nat) (l0 : List S35) (a1 : Value) (r : Bool) (w : World) (hr0 : Kd.C k35 w A0 l0.length l0) (_hc0 : l0.length ≤ c0) (h : slices_ContainsFunc_Mark.f l0 a1 = some r) :
    Calls Try.prog 46 #[.slice A0 l0.length c0, a1] w fun e w' => e = .returned (.bool r) ∧ Below w.heap.size w w' := by
  unfold slices_ContainsFunc_Mark.f at h
  split at h
  · rename_i t b
    by_cases hc : t.size = 0 ∧ b.size = 0 ∧ l0.length < 5864062014805
    · rw [if_pos hc] at h
      obtain rfl := Option.some.inj h
      obtain rfl := Array.eq_empty_of_size_eq_zero hc.1
      obtain rfl := Array.eq_empty_of_size_eq_zero hc.2.1
      exact containsFunc_calls A0 c0 l0 w hr0 hc.2.2
    · rw [if_neg hc] at h
      exact absurd h (by simp)
  · exact absurd h (by simp)

end Go.Proofs.Ytnllemlmgbjjnaa.PA
