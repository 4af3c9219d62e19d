/- The row of ViewsIfdef, where what it reads is of bulk at most 1048576. -/
import Derived.Test.YtnllemlmgbjjnaaRows
import Derived.Test.YtnllemlmgbjjnaaVI2
import Derived.Test.YtnllemlmgbjjnaaVI3
import Derived.WalkKit
import Derived.ProofKit
import Derived.OpenShut
import Derived.ShutString
import Derived.ChangeOld
import Derived.Below
import Derived.JoinedCond
namespace Go.Proofs.Ytnllemlmgbjjnaa.viewsIfdef
open Go.ChangeShapes Go.WideShapes Go.ChangeAt Go.RowKit Go.Proofs.YtnllemlmgbjjnaaOpen
set_option linter.unusedVariables false
theorem own : ownKnob Try.prog.godebug = none := by kernel_rfl
theorem laidOut : laidOutB Try.prog = true := by kernel_rfl
set_option maxRecDepth 100000 in
theorem lifted (os : Os) (started : os.Started) (H : Type) (enc : TypeId × Value → H) (F0 : Stop.Interp) :
    ReturnsInHanded {} Try.checked os 4 .any ((Rows.OpenSpec.upto Rows.viewsIfdefSpec).pre6 enc Try.prog Try.f4 Rows.viewsIfdefUptoRow.domain false) (((Rows.OpenSpec.upto Rows.viewsIfdefSpec).at F0).post enc Try.prog Try.f4 false true false false) := by
  refine returnsInHanded_of_cond (C := Try.checked) (s := Rows.OpenSpec.upto Rows.viewsIfdefSpec) (k := Rows.uptoSmall) rfl own started (by kernel_rfl) Try.func4
    (OpenSpec.witness (enc := enc) (C := Try.checked) (s := Rows.OpenSpec.upto Rows.viewsIfdefSpec) (k := Rows.uptoSmall) rfl false ⟨#[], #[.slice none 0 0, .slice none 0 0, .slice none 0 0, .string ⟨#[]⟩], []⟩ 8 (by kernel_rfl) (by kernel_rfl) (by kernel_rfl)
      (x := ([.nil, .nil, .nil, .lit (.string [])], [], [])) (by kernel_rfl) (by kernel_rfl) (by kernel_rfl)) ?_
  intro W base args ds gs before hval0 hW hcnd hk0 _
  have hval : ∀ (j : Nat) t v, Try.f4.params[j]? = some t → args[j]? = some v → Value.okWide Try.prog W .any base t v := hval0
  have hk : decide (Rows.uptoBulkAll (ds ++ gs) ≤ 1048576) = true := hk0
  have hW' := hW
  obtain ⟨p, q, hA0, hV, rfl, hfz, hnd⟩ := hW
  have hA : DataW.TrodAll enc Try.prog W 0 (fun _ => true) true Try.f4.params.toList args.toList ds p := hA0
  rw [Try.params4] at hA hval
  obtain ⟨v0, vs0, d0, ds0, p0, q0, hargs, rfl, rfl, h0, r0⟩ := trodAll_cons hA
  obtain ⟨v1, vs1, d1, ds1, p1, q1, rfl, rfl, rfl, h1, r1⟩ := trodAll_cons r0
  obtain ⟨v2, vs2, d2, ds2, p2, q2, rfl, rfl, rfl, h2, r2⟩ := trodAll_cons r1
  obtain ⟨v3, vs3, d3, ds3, p3, q3, rfl, rfl, rfl, h3, r3⟩ := trodAll_cons r2
  obtain ⟨rfl, rfl, rfl⟩ := trodAll_nil r3
  obtain rfl : args = #[v0, v1, v2, v3] := by cases args; simp_all
  obtain ⟨rfl, rfl⟩ := trodVars_none hV
  have hb : Rows.uptoBulk d0 + (Rows.uptoBulk d1 + (Rows.uptoBulk d2 + (Rows.uptoBulk d3 + 0))) ≤ 1048576 := of_decide_eq_true hk
  have k0 := h0
  have lt0 : ∀ x ∈ p0, x.block < W.heap.size := by obtain ⟨m, hm⟩ := k0; exact DataW.trod_lt m _ _ _ hm
  have k1 := h1
  have lt1 : ∀ x ∈ p1, x.block < W.heap.size := by obtain ⟨m, hm⟩ := k1; exact DataW.trod_lt m _ _ _ hm
  have k2 := h2
  have lt2 : ∀ x ∈ p2, x.block < W.heap.size := by obtain ⟨m, hm⟩ := k2; exact DataW.trod_lt m _ _ _ hm
  have k3 := h3
  have lt3 : ∀ x ∈ p3, x.block < W.heap.size := by obtain ⟨m, hm⟩ := k3; exact DataW.trod_lt m _ _ _ hm
  obtain ⟨x0, hK0, hm0, hG0⟩ := PA.opensB37.arg h0
  obtain ⟨A0', len0', cap0', rfl⟩ := okWide_slice Try.underlying37 (hval 0 37 v0 rfl rfl)
  obtain ⟨A0, c0, hv0, hc0, hC0⟩ := hK0
  have hv0' : Value.slice A0' len0' cap0' = Value.slice A0 x0.length c0 := by simpa [Value.cells] using hv0
  obtain ⟨rfl, rfl, rfl⟩ : A0' = A0 ∧ len0' = x0.length ∧ cap0' = c0 := by injection hv0' with e1 e2 e3; exact ⟨e1, e2, e3⟩
  obtain ⟨x1, hK1, hm1, hG1⟩ := PA.opensB27.arg h1
  obtain ⟨A1', len1', cap1', rfl⟩ := okWide_slice Try.underlying27 (hval 1 27 v1 rfl rfl)
  obtain ⟨A1, c1, hv1, hc1, hC1⟩ := hK1
  have hv1' : Value.slice A1' len1' cap1' = Value.slice A1 x1.length c1 := by simpa [Value.cells] using hv1
  obtain ⟨rfl, rfl, rfl⟩ : A1' = A1 ∧ len1' = x1.length ∧ cap1' = c1 := by injection hv1' with e1 e2 e3; exact ⟨e1, e2, e3⟩
  obtain ⟨x2, hK2, hm2, hG2⟩ := PA.opensB27.arg h2
  obtain ⟨A2', len2', cap2', rfl⟩ := okWide_slice Try.underlying27 (hval 2 27 v2 rfl rfl)
  obtain ⟨A2, c2, hv2, hc2, hC2⟩ := hK2
  have hv2' : Value.slice A2' len2' cap2' = Value.slice A2 x2.length c2 := by simpa [Value.cells] using hv2
  obtain ⟨rfl, rfl, rfl⟩ : A2' = A2 ∧ len2' = x2.length ∧ cap2' = c2 := by injection hv2' with e1 e2 e3; exact ⟨e1, e2, e3⟩
  obtain ⟨x3, hK3, hm3, hG3⟩ := PA.opensB9.arg h3
  obtain ⟨s3', rfl⟩ := okWide_string Try.underlying9 (hval 3 9 v3 rfl rfl)
  have hv3' : Value.string s3' = Value.string x3 := by simpa [Value.cells] using (show (Value.string s3').cells.toList = [Value.string x3] from hK3)
  obtain rfl : x3 = s3' := by injection hv3' with e1; exact e1.symm
  have s0 := PA.changes_small (show PA.m37 x0 ≤ 1048576 by omega)
  have s1 : PA.szL x1 ≤ 1048576 := by have : PA.m27 x1 = PA.szL x1 + 1 := rfl; omega
  have s2 : PA.szL x2 ≤ 1048576 := by have : PA.m27 x2 = PA.szL x2 + 1 := rfl; omega
  have htrue := PA.ifdef_true x0 x1 x2 x3 s0 s1 s2
  clear hA0 hval0
  refine (PA.redlinelaw17_ViewsIfdef.calls 100000000 _ _ x0 _ _ x1 _ _ x2 x3 true W hC0 hc0 hC1 hc1 hC2 hc2 htrue).mono fun e W' ⟨he, bel⟩ => ?_
  subst he
  exact ⟨_, rfl, _, _, _, [], _, [], hW', trodAll_mk1 (shut_bool Try.underlying4 _), (trodAll_cons_mk (Below.trod laidOut (by kernel_rfl) (of_decide_eq_true (by kernel_rfl)) k0 bel lt0) (trodAll_cons_mk (Below.trod laidOut (by kernel_rfl) (of_decide_eq_true (by kernel_rfl)) k1 bel lt1) (trodAll_cons_mk (Below.trod laidOut (by kernel_rfl) (of_decide_eq_true (by kernel_rfl)) k2 bel lt2) (trodAll_cons_mk (Below.trod laidOut (by kernel_rfl) (of_decide_eq_true (by kernel_rfl)) k3 bel lt3) trodAll_mk0)))), rfl, bel.frame _, fun h => by cases h⟩
theorem over : Rows.viewsIfdefUptoRow.holds Try.pinned (Rows.OpenSpec.upto Rows.viewsIfdefSpec) :=
  OpenClaim.holds_of_cond 4 Try.f4 rfl rfl rfl rfl rfl rfl rfl ⟨rfl, rfl, rfl, rfl, rfl⟩ rfl rfl rfl rfl rfl (by kernel_rfl) Try.func4 (by kernel_rfl)
    (of_decide_eq_true (by kernel_rfl)) (by unfold Func.isWrapper; first | (rw [if_pos (by decide +kernel)]; kernel_rfl) | (rw [if_neg (by decide +kernel)]; exact ⟨rfl, rfl⟩))
    (fun os started H enc _ F0 => lifted os started H enc F0)
theorem proved : Rows.ViewsIfdefUptoSaid := over
#print axioms proved
end Go.Proofs.Ytnllemlmgbjjnaa.viewsIfdef
namespace Go.Proofs.Ytnllemlmgbjjnaa
/-- The row, under a short name, for the claim. -/
theorem viewsIfdef_holds : Rows.ViewsIfdefUptoSaid := viewsIfdef.proved
end Go.Proofs.Ytnllemlmgbjjnaa
