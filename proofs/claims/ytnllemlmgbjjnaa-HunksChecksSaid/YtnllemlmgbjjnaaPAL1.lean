/- Plain laws on the printed functions: copies, equal lines, a hunk turned round, and which lines the reference picks. -/
import Derived.Test.YtnllemlmgbjjnaaPAL0
import Derived.Test.YtnllemlmgbjjnaaPAxf11
import Derived.Test.YtnllemlmgbjjnaaPAxf16
import Derived.Test.YtnllemlmgbjjnaaPAxf17
import Derived.Test.YtnllemlmgbjjnaaPAxf18
import Derived.Test.YtnllemlmgbjjnaaPAxf20
import Derived.Test.YtnllemlmgbjjnaaPAxf21
import Derived.Test.YtnllemlmgbjjnaaPAE3
namespace Go.Proofs.Ytnllemlmgbjjnaa.PA
set_option linter.unusedVariables false
set_option linter.unusedSimpArgs false
open Go.RowKit Go.Proofs.YtnllemlmgbjjnaaW.PrintWords Go.Proofs.YtnllemlmgbjjnaaW.PrintLast Go.Proofs.YtnllemlmgbjjnaaW.PrintMore

theorem rd24 {l : List S24} {i : Nat} (h : i < l.length) : rd_T24 l (i : Int) = l[i] := by
  unfold rd_T24
  rw [Int.toNat_natCast, List.getD_eq_getElem?_getD, List.getElem?_eq_getElem h]
  rfl
theorem rdo {l : List ByteArray} {i : Nat} (h : i < l.length) : rdOf ByteArray.empty l (i : Int) = l[i] := by
  unfold rdOf
  rw [Int.toNat_natCast, List.getD_eq_getElem?_getD, List.getElem?_eq_getElem h]
  rfl

/-! ### Copy -/
theorem copy_from (l : List S24) (hl : l.length < 2513169434916) (he : ∀ h ∈ l, h.f4.length < 5864062014805) : ∀ (d k i : Nat), i + d = l.length → d < k →
    redlineref11_Copy.l0 k l (l.take i) (i : Int) = some l := by
  intro d
  induction d with
  | zero =>
    intro k i hi hk
    obtain ⟨k, rfl⟩ : ∃ m, k = m + 1 := ⟨k - 1, by omega⟩
    simp only [redlineref11_Copy.l0]
    rw [if_neg (by omega), List.take_of_length_le (by omega)]
  | succ d ih =>
    intro k i hi hk
    obtain ⟨k, rfl⟩ : ∃ m, k = m + 1 := ⟨k - 1, by omega⟩
    have hlt : i < l.length := by omega
    simp only [redlineref11_Copy.l0, Option.bind_some]
    have h4 := he l[i] (List.getElem_mem hlt)
    rw [if_pos (by omega), if_pos (by omega), rd24 hlt, if_pos (by simpa using h4), if_pos (by rw [List.length_take]; omega), wrap_id (by omega) (by omega), succ_cast]
    have e : l.take i ++ [(⟨l[i].f0, l[i].f1, l[i].f2, l[i].f3, [] ++ l[i].f4⟩ : S24)] = l.take (i + 1) := by
      rw [List.take_succ_eq_append_getElem hlt]; rfl
    rw [e]
    exact ih k (i + 1) (by omega) (by omega)
theorem copy_eq (l : List S24) (hl : l.length < 2513169434916) (he : ∀ h ∈ l, h.f4.length < 5864062014805) (k : Nat) (hk : l.length < k) : redlineref11_Copy.f k l = some l := by
  unfold redlineref11_Copy.f
  exact copy_from l hl he l.length k 0 (by omega) hk

/-! ### SameStrings -/
theorem sames_from (l : List ByteArray) (hl : l.length < 9223372036854775807) : ∀ (d k i : Nat), i + d = l.length → d < k →
    redlineref01_SameStrings.l0 k l l (i : Int) = some true := by
  intro d
  induction d with
  | zero =>
    intro k i hi hk
    obtain ⟨k, rfl⟩ : ∃ m, k = m + 1 := ⟨k - 1, by omega⟩
    simp only [redlineref01_SameStrings.l0]
    rw [if_neg (by omega)]
  | succ d ih =>
    intro k i hi hk
    obtain ⟨k, rfl⟩ : ∃ m, k = m + 1 := ⟨k - 1, by omega⟩
    simp only [redlineref01_SameStrings.l0]
    rw [if_pos (by omega), if_pos (by omega), if_pos (by omega), if_pos trivial, wrap_id (by omega) (by omega), succ_cast]
    exact ih k (i + 1) (by omega) (by omega)
theorem sames_eq (l : List ByteArray) (hl : l.length < 9223372036854775807) (k : Nat) (hk : l.length < k) : redlineref01_SameStrings.f k l l = some true := by
  unfold redlineref01_SameStrings.f
  rw [if_pos (by rfl)]
  exact sames_from l hl l.length k 0 (by omega) hk

/-! ### Same -/
theorem same_from (a b c d' : Int) (l : List S35) (hl : l.length < 9223372036854775807) : ∀ (d k i : Nat), i + d = l.length → d < k →
    redlineref11_Same.l0 k (i : Int) a b c d' l a b c d' l = some true := by
  intro d
  induction d with
  | zero =>
    intro k i hi hk
    obtain ⟨k, rfl⟩ : ∃ m, k = m + 1 := ⟨k - 1, by omega⟩
    simp only [redlineref11_Same.l0]
    rw [if_neg (by omega)]
  | succ d ih =>
    intro k i hi hk
    obtain ⟨k, rfl⟩ : ∃ m, k = m + 1 := ⟨k - 1, by omega⟩
    simp only [redlineref11_Same.l0]
    rw [if_pos (by omega), if_pos (by omega), if_pos (by omega), if_neg (by simp), wrap_id (by omega) (by omega), succ_cast]
    exact ih k (i + 1) (by omega) (by omega)
theorem same_eq (a b c d : Int) (l : List S35) (hl : l.length < 9223372036854775807) (k : Nat) (hk : l.length + 1 < k) : redlineref11_Same.f k a b c d l a b c d l = some true := by
  obtain ⟨k, rfl⟩ : ∃ m, k = m + 1 := ⟨k - 1, by omega⟩
  unfold redlineref11_Same.f
  rw [if_pos rfl, if_pos rfl, if_pos rfl, if_pos rfl]
  simp only [redlineref11_Same.j0, bne_self_eq_false, Bool.false_eq_true, if_false]
  exact same_from a b c d l hl l.length k 0 (by omega) (by omega)

/-! ### Invert -/
theorem inv_from (a b c d' : Int) (l : List S35) (hl : l.length < 5864062014805) : ∀ (d k i : Nat), i + d = l.length → d < k →
    redlineref11_Invert.l0 k (invFold (l.take i)).2 (i : Int) a b c d' l c d' a b (invFold (l.take i)).1 = some (c, d', a, b, invL l) := by
  intro d
  induction d with
  | zero =>
    intro k i hi hk
    obtain ⟨k, rfl⟩ : ∃ m, k = m + 1 := ⟨k - 1, by omega⟩
    have hlen := invFold_len l
    simp only [redlineref11_Invert.l0]
    rw [if_neg (by omega), List.take_of_length_le (by omega), if_pos (by omega)]
    rfl
  | succ d ih =>
    intro k i hi hk
    obtain ⟨k, rfl⟩ : ∃ m, k = m + 1 := ⟨k - 1, by omega⟩
    have hlt : i < l.length := by omega
    have hlen := invFold_len (l.take i)
    rw [List.length_take] at hlen
    have ih' := ih k (i + 1) (by omega) (by omega)
    rw [List.take_succ_eq_append_getElem hlt, invFold_snoc] at ih'
    simp only [redlineref11_Invert.l0, Option.bind_some]
    rw [if_pos (by omega), if_pos (by omega), rd35 hlt, wrap_id (by omega) (by omega), succ_cast]
    generalize invFold (l.take i) = st at hlen ih' ⊢
    by_cases e1 : l[i].f0 = 43
    · rw [if_pos e1, if_pos (by rw [List.length_singleton]; omega)]
      simp only [invStep, e1, if_true] at ih'
      exact ih'
    · by_cases e2 : l[i].f0 = 45
      · rw [if_neg e1, if_pos e2, if_pos (by rw [List.length_singleton]; omega)]
        simp only [invStep, e1, e2, if_true, if_false] at ih'
        simpa using ih'
      · rw [if_neg e1, if_neg e2, if_pos (by omega), if_pos (by rw [List.length_append, List.length_singleton]; omega)]
        simp only [invStep, if_neg e1, if_neg e2] at ih'
        exact ih'
theorem rinv_eq (a b c d : Int) (l : List S35) (hl : l.length < 5864062014805) (k : Nat) (hk : l.length < k) : redlineref11_Invert.f k a b c d l = some (c, d, a, b, invL l) := by
  unfold redlineref11_Invert.f
  exact inv_from a b c d l hl l.length k 0 (by omega) hk
theorem inv_eq (a b c d : Int) (l : List S35) (hl : l.length < 5864062014805) : hunks_Invert.f a b c d l = some (c, d, a, b, invL l) := by
  unfold hunks_Invert.f
  rw [if_pos hl]
theorem invL_len (l : List S35) : (invL l).length = l.length := by
  have := invFold_len l
  unfold invL
  rw [List.length_append]
  exact this

/-! ### the reference's pick -/
/-- The lines that have not one sign. -/
def rpickL (nt : Int) (l : List S35) : List ByteArray := (l.filter fun m => m.f0 != nt && (m.f0 == 32 || m.f0 == 45 || m.f0 == 43)).map (·.f1)
theorem rpick_from (a b c d' : Int) (l : List S35) (nt : Int) (hl : l.length < 5864062014805) : ∀ (d k i : Nat) (acc : List ByteArray), i + d = l.length → d < k → acc.length ≤ i →
    redlineref11_pick.l0 k nt acc (i : Int) a b c d' l = some (acc ++ rpickL nt (l.drop i)) := by
  intro d
  induction d with
  | zero =>
    intro k i acc hi hk ha
    obtain ⟨k, rfl⟩ : ∃ m, k = m + 1 := ⟨k - 1, by omega⟩
    simp only [redlineref11_pick.l0]
    rw [if_neg (by omega), List.drop_of_length_le (by omega)]
    simp [rpickL]
  | succ d ih =>
    intro k i acc hi hk ha
    obtain ⟨k, rfl⟩ : ∃ m, k = m + 1 := ⟨k - 1, by omega⟩
    have hlt : i < l.length := by omega
    have ih1 := ih k (i + 1) acc (by omega) (by omega) (by omega)
    have ih2 := ih k (i + 1) (acc ++ [l[i].f1]) (by omega) (by omega) (by rw [List.length_append, List.length_singleton]; omega)
    simp only [redlineref11_pick.l0]
    rw [if_pos (by omega), if_pos (by omega), rd35 hlt, wrap_id (by omega) (by omega), succ_cast, List.drop_eq_getElem_cons hlt, ih1, ih2]
    generalize l.drop (i + 1) = t
    generalize l[i] = m
    rw [if_pos (show acc.length < 8796093022208 by omega)]
    by_cases e1 : m.f0 = nt
    · rw [if_pos e1]; simp [rpickL, List.filter_cons, e1]
    · rw [if_neg e1]
      by_cases e2 : m.f0 = 32
      · rw [if_pos e2]; have hn : ¬ ((32 : Int) = nt) := fun h => e1 (e2.trans h)
        simp [rpickL, List.filter_cons, e1, e2, hn]
      · rw [if_neg e2]
        by_cases e3 : m.f0 = 45
        · rw [if_pos e3]; have hn : ¬ ((45 : Int) = nt) := fun h => e1 (e3.trans h)
          simp [rpickL, List.filter_cons, e1, e2, e3, hn]
        · rw [if_neg e3]
          by_cases e4 : m.f0 = 43
          · rw [if_pos e4]; have hn : ¬ ((43 : Int) = nt) := fun h => e1 (e4.trans h)
            simp [rpickL, List.filter_cons, e1, e2, e3, e4, hn]
          · rw [if_neg e4]; simp [rpickL, List.filter_cons, e1, e2, e3, e4]
theorem rpick_eq (a b c d : Int) (l : List S35) (nt : Int) (hl : l.length < 5864062014805) (k : Nat) (hk : l.length < k) : redlineref11_pick.f k a b c d l nt = some (rpickL nt l) := by
  unfold redlineref11_pick.f
  have := rpick_from a b c d l nt hl l.length k 0 [] (by omega) hk (by simp)
  simpa using this
theorem rpick_old (l : List S35) : rpickL 43 l = pickL 45 l := by
  unfold rpickL pickL
  congr 1
  refine List.filter_congr fun m _ => ?_
  rw [Bool.eq_iff_iff]
  simp
  omega
theorem rpick_new (l : List S35) : rpickL 45 l = pickL 43 l := by
  unfold rpickL pickL
  congr 1
  refine List.filter_congr fun m _ => ?_
  rw [Bool.eq_iff_iff]
  simp
  omega
theorem rold_eq (a b c d : Int) (l : List S35) (hl : l.length < 5864062014805) (k : Nat) (hk : l.length < k) : redlineref11_Old.f k a b c d l = some (pickL 45 l) := by
  unfold redlineref11_Old.f
  rw [rpick_eq a b c d l 43 hl k hk, rpick_old]
  rfl
theorem rnew_eq (a b c d : Int) (l : List S35) (hl : l.length < 5864062014805) (k : Nat) (hk : l.length < k) : redlineref11_New.f k a b c d l = some (pickL 43 l) := by
  unfold redlineref11_New.f
  rw [rpick_eq a b c d l 45 hl k hk, rpick_new]
  rfl
end Go.Proofs.Ytnllemlmgbjjnaa.PA
