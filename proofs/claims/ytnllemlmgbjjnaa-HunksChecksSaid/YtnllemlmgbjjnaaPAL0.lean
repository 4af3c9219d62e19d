/- Plain laws on the printed functions of package hunks: what the lines with one of two signs are. -/
import Derived.Test.YtnllemlmgbjjnaaPAxf42
import Derived.Test.YtnllemlmgbjjnaaPAxf12
import Derived.Test.YtnllemlmgbjjnaaPAxf13
namespace Go.Proofs.Ytnllemlmgbjjnaa.PA
set_option linter.unusedVariables false
set_option linter.unusedSimpArgs false
open Go.RowKit Go.Proofs.YtnllemlmgbjjnaaW.PrintWords Go.Proofs.YtnllemlmgbjjnaaW.PrintLast Go.Proofs.YtnllemlmgbjjnaaW.PrintMore

theorem wrap_id {x : Int} (h1 : -9223372036854775808 ≤ x) (h2 : x ≤ 9223372036854775807) : wrap64 x = x := by
  unfold wrap64
  omega
theorem rd35 {l : List S35} {i : Nat} (h : i < l.length) : rd_T35 l (i : Int) = l[i] := by
  unfold rd_T35
  rw [Int.toNat_natCast, List.getD_eq_getElem?_getD, List.getElem?_eq_getElem h]
  rfl
theorem succ_cast (i : Nat) : ((i : Int) + 1) = ((i + 1 : Nat) : Int) := by omega

/-- The lines with a sign, or with Same. -/
def pickL (sign : Int) (l : List S35) : List ByteArray := (l.filter fun m => m.f0 == sign || m.f0 == 32).map (·.f1)
theorem pickL_le (sign : Int) (l : List S35) : (pickL sign l).length ≤ l.length := by
  unfold pickL; rw [List.length_map]; exact List.length_filter_le _ _
theorem pick_from (l : List S35) (sign : Int) (hl : l.length < 5864062014805) : ∀ (d k i : Nat) (acc : List ByteArray), i + d = l.length → d < k → acc.length ≤ i →
    hunks_pick.l0 k sign acc l (l.length : Int) (i : Int) = some (acc ++ pickL sign (l.drop i)) := by
  intro d
  induction d with
  | zero =>
    intro k i acc hi hk ha
    obtain ⟨k, rfl⟩ : ∃ m, k = m + 1 := ⟨k - 1, by omega⟩
    simp only [hunks_pick.l0]
    rw [if_neg (by omega), List.drop_of_length_le (by omega)]
    simp [pickL]
  | succ d ih =>
    intro k i acc hi hk ha
    obtain ⟨k, rfl⟩ : ∃ m, k = m + 1 := ⟨k - 1, by omega⟩
    have hlt : i < l.length := by omega
    simp only [hunks_pick.l0]
    rw [if_pos (by omega), if_pos (by omega), if_pos (by omega), rd35 hlt, wrap_id (by omega) (by omega), succ_cast, List.drop_eq_getElem_cons hlt]
    by_cases e1 : l[i].f0 = sign
    · rw [if_pos e1, if_pos (by omega), ih k (i + 1) _ (by omega) (by omega) (by rw [List.length_append, List.length_singleton]; omega)]
      generalize l.drop (i + 1) = t
      simp [pickL, List.filter_cons, e1]
    · rw [if_neg e1]
      by_cases e2 : l[i].f0 = 32
      · rw [if_pos e2, if_pos (by omega), ih k (i + 1) _ (by omega) (by omega) (by rw [List.length_append, List.length_singleton]; omega)]
        generalize l.drop (i + 1) = t
        simp [pickL, List.filter_cons, e2]
      · rw [if_neg e2, ih k (i + 1) _ (by omega) (by omega) (by omega)]
        generalize l.drop (i + 1) = t
        simp [pickL, List.filter_cons, e1, e2]
theorem pick_eq (a b c d : Int) (l : List S35) (sign : Int) (hl : l.length < 5864062014805) (k : Nat) (hk : l.length < k) : hunks_pick.f k a b c d l sign = some (pickL sign l) := by
  unfold hunks_pick.f
  have := pick_from l sign hl l.length k 0 [] (by omega) hk (by simp)
  simpa using this
theorem old_eq (a b c d : Int) (l : List S35) (hl : l.length < 5864062014805) (k : Nat) (hk : l.length < k) : hunks_Old.f k a b c d l = some (pickL 45 l) := by
  unfold hunks_Old.f; rw [pick_eq a b c d l 45 hl k hk]; rfl
theorem new_eq (a b c d : Int) (l : List S35) (hl : l.length < 5864062014805) (k : Nat) (hk : l.length < k) : hunks_New.f k a b c d l = some (pickL 43 l) := by
  unfold hunks_New.f; rw [pick_eq a b c d l 43 hl k hk]; rfl
end Go.Proofs.Ytnllemlmgbjjnaa.PA
