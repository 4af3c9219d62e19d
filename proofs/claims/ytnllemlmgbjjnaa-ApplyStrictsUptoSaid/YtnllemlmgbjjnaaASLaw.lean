/- The row of ApplyStricts, where what it reads is of bulk at most 1048576. -/
import Derived.Test.YtnllemlmgbjjnaaRows
import Derived.Test.YtnllemlmgbjjnaaAS6
import Derived.WalkKit
import Derived.ProofKit
import Derived.OpenShut
import Derived.ShutString
import Derived.ChangeOld
import Derived.Below
import Derived.JoinedCond
namespace Go.Proofs.Ytnllemlmgbjjnaa.applyStricts
open Go.ChangeShapes Go.WideShapes Go.ChangeAt Go.RowKit Go.Proofs.YtnllemlmgbjjnaaOpen
set_option linter.unusedVariables false
theorem own : ownKnob Try.prog.godebug = none := by kernel_rfl
theorem laidOut : laidOutB Try.prog = true := by kernel_rfl
set_option maxRecDepth 100000 in
theorem lifted (os : Os) (started : os.Started) (H : Type) (enc : TypeId × Value → H) (F0 : Stop.Interp) :
    ReturnsInHanded {} Try.checked os 7 .any ((Rows.OpenSpec.upto Rows.applyStrictsSpec).pre6 enc Try.prog Try.f7 Rows.applyStrictsUptoRow.domain false) (((Rows.OpenSpec.upto Rows.applyStrictsSpec).at F0).post enc Try.prog Try.f7 false true false false) := by
  refine returnsInHanded_of_cond (C := Try.checked) (s := Rows.OpenSpec.upto Rows.applyStrictsSpec) (k := Rows.uptoSmall) rfl own started (by kernel_rfl) Try.func7
    (OpenSpec.witness (enc := enc) (C := Try.checked) (s := Rows.OpenSpec.upto Rows.applyStrictsSpec) (k := Rows.uptoSmall) rfl false ⟨#[], #[.slice none 0 0, .slice none 0 0], []⟩ 8 (by kernel_rfl) (by kernel_rfl) (by kernel_rfl)
      (x := ([.nil, .nil], [], [])) (by kernel_rfl) (by kernel_rfl) (by kernel_rfl)) ?_
  intro W base args ds gs before hval0 hW hcnd hk0 _
  have hval : ∀ (j : Nat) t v, Try.f7.params[j]? = some t → args[j]? = some v → Value.okWide Try.prog W .any base t v := hval0
  have hk : decide (Rows.uptoBulkAll (ds ++ gs) ≤ 1048576) = true := hk0
  have hW' := hW
  obtain ⟨p, q, hA0, hV, rfl, hfz, hnd⟩ := hW
  have hA : DataW.TrodAll enc Try.prog W 0 (fun _ => true) true Try.f7.params.toList args.toList ds p := hA0
  rw [Try.params7] at hA hval
  obtain ⟨v0, vs0, d0, ds0, p0, q0, hargs, rfl, rfl, h0, r0⟩ := trodAll_cons hA
  obtain ⟨v1, vs1, d1, ds1, p1, q1, rfl, rfl, rfl, h1, r1⟩ := trodAll_cons r0
  obtain ⟨rfl, rfl, rfl⟩ := trodAll_nil r1
  obtain rfl : args = #[v0, v1] := by cases args; simp_all
  obtain ⟨rfl, rfl⟩ := trodVars_none hV
  have hb : Rows.uptoBulk d0 + (Rows.uptoBulk d1 + 0) ≤ 1048576 := of_decide_eq_true hk
  have k0 := h0
  have k1 := h1
  have lt0 : ∀ x ∈ p0, x.block < W.heap.size := by obtain ⟨m, hm⟩ := k0; exact DataW.trod_lt m _ _ _ hm
  have lt1 : ∀ x ∈ p1, x.block < W.heap.size := by obtain ⟨m, hm⟩ := k1; exact DataW.trod_lt m _ _ _ hm
  obtain ⟨l, hK0, hm0, _⟩ := PA.opensB25.arg h0
  obtain ⟨a, hK1, hm1, _⟩ := PA.opensB27.arg h1
  obtain ⟨A', len', cap', rfl⟩ := okWide_slice Try.underlying25 (hval 0 25 v0 rfl rfl)
  obtain ⟨B', blen', bcap', rfl⟩ := okWide_slice Try.underlying27 (hval 1 27 v1 rfl rfl)
  obtain ⟨A, c0, hv, hc, hC⟩ := hK0
  have hv2 : Value.slice A' len' cap' = Value.slice A l.length c0 := by simpa [Value.cells] using hv
  obtain ⟨rfl, rfl, rfl⟩ : A' = A ∧ len' = l.length ∧ cap' = c0 := by injection hv2 with h1 h2 h3; exact ⟨h1, h2, h3⟩
  obtain ⟨B, c1, hw, hc1, hC1⟩ := hK1
  have hw2 : Value.slice B' blen' bcap' = Value.slice B a.length c1 := by simpa [Value.cells] using hw
  obtain ⟨rfl, rfl, rfl⟩ : B' = B ∧ blen' = a.length ∧ bcap' = c1 := by injection hw2 with h1 h2 h3; exact ⟨h1, h2, h3⟩
  obtain ⟨s1, s2⟩ := PA.hunks_small (show PA.m25 l ≤ 1048576 by omega)
  obtain ⟨s3, s4⟩ := PA.text_small (show PA.m27 a ≤ 1048576 by omega)
  have htrue := PA.stricts_true l a ⟨by omega, fun x hx => ⟨by have := (s2 x hx).1; omega, fun m hm => by have := (s2 x hx).2 m hm; omega⟩⟩ (by omega) (fun s hs => by have := s4 s hs; omega)
  clear hA0 hval0
  refine (PA.redlinelaw19_ApplyStricts.calls 100000000000000000000000000000 _ _ l _ _ a true W hC hc hC1 hc1 htrue).mono fun e W' ⟨he, bel⟩ => ?_
  subst he
  exact ⟨_, rfl, _, _, _, [], _, [], hW', trodAll_mk1 (shut_bool Try.underlying4 _), (trodAll_cons_mk (Below.trod laidOut (by kernel_rfl) (of_decide_eq_true (by kernel_rfl)) k0 bel lt0) (trodAll_cons_mk (Below.trod laidOut (by kernel_rfl) (of_decide_eq_true (by kernel_rfl)) k1 bel lt1) trodAll_mk0)), rfl, bel.frame _, fun h => by cases h⟩
theorem over : Rows.applyStrictsUptoRow.holds Try.pinned (Rows.OpenSpec.upto Rows.applyStrictsSpec) :=
  OpenClaim.holds_of_cond 7 Try.f7 rfl rfl rfl rfl rfl rfl rfl ⟨rfl, rfl, rfl, rfl, rfl⟩ rfl rfl rfl rfl rfl (by kernel_rfl) Try.func7 (by kernel_rfl)
    (of_decide_eq_true (by kernel_rfl)) (by unfold Func.isWrapper; first | (rw [if_pos (by decide +kernel)]; kernel_rfl) | (rw [if_neg (by decide +kernel)]; exact ⟨rfl, rfl⟩))
    (fun os started H enc _ F0 => lifted os started H enc F0)
theorem proved : Rows.ApplyStrictsUptoSaid := over
#print axioms proved
end Go.Proofs.Ytnllemlmgbjjnaa.applyStricts
namespace Go.Proofs.Ytnllemlmgbjjnaa
/-- The row, under a short name, for the claim. -/
theorem applyStricts_holds : Rows.ApplyStrictsUptoSaid := applyStricts.proved
end Go.Proofs.Ytnllemlmgbjjnaa
