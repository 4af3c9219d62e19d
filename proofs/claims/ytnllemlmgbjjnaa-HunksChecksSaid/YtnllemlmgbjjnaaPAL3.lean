/- HunksChecks: the walk, with what its callees answer put in. -/
import Derived.Test.YtnllemlmgbjjnaaPAC1
import Derived.Test.YtnllemlmgbjjnaaPAL2
import Derived.Test.YtnllemlmgbjjnaaPAOp
namespace Go.Proofs.Ytnllemlmgbjjnaa.PA
set_option linter.unusedVariables false
open Go.RowKit Go.Proofs.YtnllemlmgbjjnaaW.PrintWords Go.Proofs.YtnllemlmgbjjnaaW.PrintLast Go.Proofs.YtnllemlmgbjjnaaW.PrintMore
theorem checks_all (x : S24) (A : Option Addr) (c0 : Nat) (w : World) (hr : Kd.C k35 w A x.f4.length x.f4) (hc : x.f4.length ≤ c0) (ok : Ok24 x) :
    Calls Try.prog 3 #[.agg #[.int .i64 x.f0, .int .i64 x.f1, .int .i64 x.f2, .int .i64 x.f3, .slice A x.f4.length c0]] w fun e w' => e = .returned (.bool true) ∧ Below w.heap.size w w' := by
  obtain ⟨a, b, c, d, l⟩ := x
  obtain ⟨wa, wb, wc, wd, hl, hs⟩ := ok
  have hl : l.length * 24 ≤ 140737488351232 := hl
  have hs : ∀ m ∈ l, m.f1.size ≤ 140737488351232 := fun m hm => (hs m hm).2
  have h1 : l.length < 5864062014805 := by omega
  have h2 := pickL_le 45 l
  have h3 := pickL_le 43 l
  have h4 := invL_len l
  exact checks_walk 200000000000000 a b c d A c0 l w hr hc (pickL 45 l) (pickL 43 l) (checkV a b c d l) (invL l)
    (copy_eq [⟨a, b, c, d, l⟩] (by simp) (fun h hh => by obtain rfl : h = _ := List.mem_singleton.1 hh; exact h1) _ (by simp))
    (old_eq a b c d l h1 _ (by omega)) (new_eq a b c d l h1 _ (by omega)) (check_eq a b c d l h1 _ (by omega)) (rcheck_eq a b c d l h1 hs _ (by omega))
    (rold_eq a b c d l h1 _ (by omega)) (rnew_eq a b c d l h1 _ (by omega)) (sames_eq _ (by omega) _ (by omega)) (sames_eq _ (by omega) _ (by omega))
    (inv_eq a b c d l h1) (rinv_eq a b c d l h1 _ (by omega)) (same_eq c d a b (invL l) (by omega) _ (by omega)) (same_eq a b c d l (by omega) _ (by omega))
end Go.Proofs.Ytnllemlmgbjjnaa.PA
