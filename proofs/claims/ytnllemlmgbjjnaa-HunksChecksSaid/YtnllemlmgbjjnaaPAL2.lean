/- Plain laws on the printed functions: the two checks of a hunk answer alike. -/
import Derived.Test.YtnllemlmgbjjnaaPAL1
import Derived.Test.YtnllemlmgbjjnaaPAxf14
import Derived.Test.YtnllemlmgbjjnaaPAxf15
namespace Go.Proofs.Ytnllemlmgbjjnaa.PA
set_option linter.unusedVariables false
set_option linter.unusedSimpArgs false
open Go.RowKit Go.Proofs.YtnllemlmgbjjnaaW.PrintWords Go.Proofs.YtnllemlmgbjjnaaW.PrintLast Go.Proofs.YtnllemlmgbjjnaaW.PrintMore

/-! ### the first line feed -/
theorem ib_at (c : UInt8) : ∀ (l : List UInt8) (i : Nat) (h : i < l.length), l[i] = c → (∀ (j : Nat) (hj : j < l.length), j < i → l[j] ≠ c) → Lib.indexByte l c = i
  | [], i, h, _, _ => absurd h (Nat.not_lt_zero _)
  | b :: l, 0, h, e, _ => by
    have e' : b = c := e
    simp [Lib.indexByte, e']
  | b :: l, i + 1, h, e, hn => by
    have hb0 : b ≠ c := hn 0 (by simp) (by omega)
    have hb : (b == c) = false := by simpa using hb0
    have ih := ib_at c l i (by simpa using h) (by simpa using e) (fun j hj hji => (hn (j + 1) (by simpa using hj) (by omega) : l[j] ≠ c))
    simp only [Lib.indexByte, hb, ih, Bool.false_eq_true, if_false]
    have hi : ((i : Int) == -1) = false := by rw [beq_eq_false_iff_ne]; omega
    rw [hi]
    rfl
theorem ib_none (c : UInt8) : ∀ (l : List UInt8), (∀ (j : Nat) (hj : j < l.length), l[j] ≠ c) → Lib.indexByte l c = -1
  | [], _ => rfl
  | b :: l, hn => by
    have hb0 : b ≠ c := hn 0 (by simp)
    have hb : (b == c) = false := by simpa using hb0
    have ih := ib_none c l (fun j hj => (hn (j + 1) (by simpa using hj) : l[j] ≠ c))
    simp [Lib.indexByte, hb, ih]
theorem bt_list {s : ByteArray} {i : Nat} (h : i < s.size) : bt s (i : Int) = ((s.data.toList[i]'h).toNat : Int) := by
  unfold bt
  rw [dif_pos (by simpa using h)]
  rfl
theorem lf_at {s : ByteArray} {i : Nat} (h : i < s.size) (e : bt s (i : Int) = 10) (hn : ∀ j : Nat, j < i → bt s (j : Int) ≠ 10) : lfAt s = i := by
  unfold lfAt
  refine ib_at 10 _ i h ?_ (fun j hj hji he => hn j hji ?_)
  · rw [bt_list h] at e
    exact UInt8.toNat_inj.1 (by simpa using (by omega : (s.data.toList[i]'h).toNat = 10))
  · rw [bt_list (by simpa using hj), he]; rfl
theorem lf_none {s : ByteArray} (hn : ∀ j : Nat, j < s.size → bt s (j : Int) ≠ 10) : lfAt s = -1 := by
  unfold lfAt
  refine ib_none 10 _ (fun j hj he => hn j hj ?_)
  rw [bt_list hj, he]; rfl

/-- What the reference says of one line: is it a line, does it end in a line feed. -/
def lineB (s : ByteArray) : Bool × Bool := if s.size = 0 then (false, false) else if 0 ≤ lfAt s ∧ lfAt s < (s.size : Int) - 1 then (false, false) else (true, decide (0 ≤ lfAt s))
theorem line_from (s : ByteArray) (h0 : s.size ≠ 0) (hs : s.size ≤ 140737488351232) : ∀ (d k i : Nat), i + d + 1 = s.size → d < k → (∀ j : Nat, j < i → bt s (j : Int) ≠ 10) →
    redlineref11_line.l0 k s (i : Int) = some (lineB s) := by
  intro d
  induction d with
  | zero =>
    intro k i hi hk hn
    obtain ⟨k, rfl⟩ : ∃ m, k = m + 1 := ⟨k - 1, by omega⟩
    have hw : wrap64 ((s.size : Int) - 1) = (i : Int) := by rw [wrap_id (by omega) (by omega)]; omega
    simp only [redlineref11_line.l0]
    rw [hw, if_neg (by omega), if_pos (by omega), if_pos (by omega)]
    unfold lineB
    rw [if_neg h0]
    by_cases e : bt s (i : Int) = 10
    · rw [lf_at (by omega) e hn, if_neg (by omega)]
      simp [e]
    · rw [lf_none (fun j hj => by by_cases hji : j = i; (subst hji; exact e); exact hn j (by omega)), if_neg (by omega)]
      simp [e]
  | succ d ih =>
    intro k i hi hk hn
    obtain ⟨k, rfl⟩ : ∃ m, k = m + 1 := ⟨k - 1, by omega⟩
    have hw : wrap64 ((s.size : Int) - 1) = (s.size : Int) - 1 := wrap_id (by omega) (by omega)
    simp only [redlineref11_line.l0]
    rw [hw, if_pos (by omega), if_pos (by omega), if_pos (by omega)]
    by_cases e : bt s (i : Int) = 10
    · rw [if_pos e]
      unfold lineB
      rw [if_neg h0, lf_at (by omega) e hn, if_pos (by omega)]
    · rw [if_neg e, wrap_id (by omega) (by omega), succ_cast]
      exact ih k (i + 1) (by omega) (by omega) (fun j hj => by by_cases hji : j = i; (subst hji; exact e); exact hn j (by omega))
theorem line_eq (s : ByteArray) (hs : s.size ≤ 140737488351232) (k : Nat) (hk : s.size < k) : redlineref11_line.f k s = some (lineB s) := by
  unfold redlineref11_line.f
  by_cases h : s.size = 0
  · rw [if_pos (by omega)]
    unfold lineB
    rw [if_pos h]
  · rw [if_neg (by omega)]
    exact line_from s h hs (s.size - 1) k 0 (by omega) (by omega) (fun j hj => absurd hj (Nat.not_lt_zero _))

/-! ### no line of one side behind -/
theorem last_from (a b c d' : Int) (l : List S35) (g : Int) (hl : l.length < 5864062014805) : ∀ (d k i : Nat), i + d = l.length → d < k →
    redlineref11_last.l0 k g (i : Int) a b c d' l = some (!((l.drop i).any fun m => m.f0 == 32 || m.f0 == g)) := by
  intro d
  induction d with
  | zero =>
    intro k i hi hk
    obtain ⟨k, rfl⟩ : ∃ m, k = m + 1 := ⟨k - 1, by omega⟩
    simp only [redlineref11_last.l0]
    rw [if_neg (by omega), List.drop_of_length_le (by omega)]
    rfl
  | succ d ih =>
    intro k i hi hk
    obtain ⟨k, rfl⟩ : ∃ m, k = m + 1 := ⟨k - 1, by omega⟩
    have hlt : i < l.length := by omega
    have ih1 := ih k (i + 1) (by omega) (by omega)
    simp only [redlineref11_last.l0]
    rw [if_pos (by omega), if_pos (by omega), rd35 hlt, wrap_id (by omega) (by omega), succ_cast, List.drop_eq_getElem_cons hlt, ih1]
    generalize l.drop (i + 1) = t
    generalize l[i] = m
    by_cases e1 : m.f0 = g
    · rw [if_pos e1]; simp [e1]
    · rw [if_neg e1]
      by_cases e2 : m.f0 = 32
      · rw [if_pos e2]; simp [e2]
      · rw [if_neg e2]; simp [e1, e2]
theorem last_eq (a b c d : Int) (l : List S35) (i : Nat) (g : Int) (hl : l.length < 5864062014805) (hi : i < l.length) (k : Nat) (hk : l.length < k) :
    redlineref11_last.f k a b c d l (i : Int) g = some (!((l.drop (i + 1)).any fun m => m.f0 == 32 || m.f0 == g)) := by
  unfold redlineref11_last.f
  rw [wrap_id (by omega) (by omega), succ_cast]
  exact last_from a b c d l g hl (l.length - (i + 1)) k (i + 1) (by omega) (by omega)

/-! ### the fields -/
def goodB (m : S35) (t : List S35) : Bool := !badB m && !(decide (lfAt m.f1 < 0) && ((isOldB m.f0 && t.any (fun x => isOldB x.f0)) || (isNewB m.f0 && t.any (fun x => isNewB x.f0))))
def goodL : List S35 → Bool
  | [] => true
  | m :: t => goodB m t && goodL t
theorem fold_good (l : List S35) : l.reverse.foldl fstep (some (false, false)) = if goodL l then some (l.any (fun x => isOldB x.f0), l.any (fun x => isNewB x.f0)) else none := by
  rw [List.foldl_reverse]
  induction l with
  | nil => rfl
  | cons m t ih =>
    rw [List.foldr_cons, ih, show goodL (m :: t) = (goodB m t && goodL t) from rfl]
    cases hg : goodL t with
    | false => simp [fstep]
    | true =>
      simp only [if_true, fstep, Bool.and_true, List.any_cons, goodB]
      cases badB m with
      | true => simp
      | false =>
        simp only [Bool.false_eq_true, if_false, Bool.not_false, Bool.true_and]
        generalize t.any (fun x => isOldB x.f0) = o
        generalize t.any (fun x => isNewB x.f0) = n
        cases hx : (decide (lfAt m.f1 < 0) && (isOldB m.f0 && o || isNewB m.f0 && n)) with
        | true => simp
        | false => simp [Bool.or_comm]
theorem fieldsB_good (l : List S35) : fieldsB l = goodL l := by
  unfold fieldsB
  rw [fold_good]
  cases goodL l <;> rfl
theorem bad_line (m : S35) (hs : m.f1.size ≤ 140737488351232) : badB m = (!(isOldB m.f0 || isNewB m.f0) || !(lineB m.f1).1) := by
  unfold badB lineB
  rw [wrap_id (by omega) (by omega)]
  have he : m.f1.toList.isEmpty = decide (m.f1.size = 0) := by
    rw [Bool.eq_iff_iff, List.isEmpty_iff_length_eq_zero, decide_eq_true_iff]
    rw [show m.f1.toList.length = m.f1.size by rw [Lib.toList_data]; rfl]
  rw [he]
  by_cases h0 : m.f1.size = 0
  · simp [h0]
  · by_cases h1 : 0 ≤ lfAt m.f1 ∧ lfAt m.f1 < (m.f1.size : Int) - 1
    · simp [h0, h1]
    · rw [if_neg h0, if_neg h1]
      simp only [h0, decide_false, Bool.or_false, Bool.not_true, Bool.not_or]
      have : (decide (0 ≤ lfAt m.f1) && decide (lfAt m.f1 < (m.f1.size : Int) - 1)) = false := by
        rw [Bool.eq_false_iff]; intro h; simp at h; exact h1 h
      rw [this, Bool.or_false]
theorem end_line (m : S35) (h : (lineB m.f1).1 = true) : decide (lfAt m.f1 < 0) = !(lineB m.f1).2 := by
  unfold lineB at h ⊢
  by_cases h0 : m.f1.size = 0
  · rw [if_pos h0] at h; cases h
  · rw [if_neg h0] at h ⊢
    by_cases h1 : 0 ≤ lfAt m.f1 ∧ lfAt m.f1 < (m.f1.size : Int) - 1
    · rw [if_pos h1] at h; cases h
    · rw [if_neg h1]
      show decide (lfAt m.f1 < 0) = !decide (0 ≤ lfAt m.f1)
      rw [← decide_not]
      exact decide_eq_decide.2 (by omega)
theorem fields_from (a b c d' : Int) (l : List S35) (hl : l.length < 5864062014805) (hs : ∀ m ∈ l, m.f1.size ≤ 140737488351232) : ∀ (d k i : Nat), i + d = l.length → 2 * d + 150000000000000 < k →
    redlineref11_fields.l0 k (i : Int) a b c d' l = some (goodL (l.drop i)) := by
  intro d
  induction d with
  | zero =>
    intro k i hi hk
    obtain ⟨k, rfl⟩ : ∃ m, k = m + 1 := ⟨k - 1, by omega⟩
    simp only [redlineref11_fields.l0]
    rw [if_neg (by omega), List.drop_of_length_le (by omega)]
    rfl
  | succ d ih =>
    intro k i hi hk
    obtain ⟨k, rfl⟩ : ∃ m, k = m + 1 + 1 := ⟨k - 2, by omega⟩
    have hlt : i < l.length := by omega
    have hsm := hs l[i] (List.getElem_mem hlt)
    have ih1 := ih k (i + 1) (by omega) (by omega)
    have L1 := last_eq a b c d' l i 43 hl hlt k (by omega)
    have L2 := last_eq a b c d' l i 45 hl hlt k (by omega)
    have L3 := line_eq l[i].f1 hsm (k + 1) (by omega)
    simp only [redlineref11_fields.l0]
    rw [if_pos (by omega), if_pos (by omega), rd35 hlt, L3, List.drop_eq_getElem_cons hlt, goodL, goodB, bad_line _ hsm]
    have hO : (fun m : S35 => m.f0 == 32 || m.f0 == 45) = fun x => isOldB x.f0 := rfl
    have hN : (fun m : S35 => m.f0 == 32 || m.f0 == 43) = fun x => isNewB x.f0 := rfl
    rw [hO] at L2
    rw [hN] at L1
    generalize l.drop (i + 1) = t at ih1 L1 L2 ⊢
    generalize l[i] = m at ih1 L1 L2 L3 hsm ⊢
    have hwi : wrap64 ((i : Int) + 1) = ((i + 1 : Nat) : Int) := by rw [wrap_id (by omega) (by omega), succ_cast]
    simp only [Option.bind_some, redlineref11_fields.j1, hwi, ih1, L1, L2]
    cases hb1 : (lineB m.f1).1 with
    | false => simp
    | true =>
      rw [end_line m hb1]
      simp only [if_true]
      generalize (lineB m.f1).2 = e2
      generalize t.any (fun x => isOldB x.f0) = o
      generalize t.any (fun x => isNewB x.f0) = n
      generalize goodL t = g
      by_cases h1 : m.f0 = 32
      · have a1 : isOldB m.f0 = true := by rw [h1]; rfl
        have a2 : isNewB m.f0 = true := by rw [h1]; rfl
        rw [a1, a2]
        simp only [h1]
        cases e2 <;> cases o <;> cases n <;> cases g <;> simp
      · by_cases h2 : m.f0 = 45
        · have a1 : isOldB m.f0 = true := by rw [h2]; rfl
          have a2 : isNewB m.f0 = false := by rw [h2]; rfl
          rw [a1, a2]
          simp only [h2]
          cases e2 <;> cases o <;> cases n <;> cases g <;> simp
        · by_cases h3 : m.f0 = 43
          · have a1 : isOldB m.f0 = false := by rw [h3]; rfl
            have a2 : isNewB m.f0 = true := by rw [h3]; rfl
            rw [a1, a2]
            simp only [h3]
            cases e2 <;> cases o <;> cases n <;> cases g <;> simp
          · have a1 : isOldB m.f0 = false := by simp [isOldB, h1, h2]
            have a2 : isNewB m.f0 = false := by simp [isNewB, h1, h3]
            have a3 : (m.f0 != 43) = true := by simp [h3]
            rw [a1, a2]
            simp [h1, h2, h3]
theorem rfields_eq (a b c d : Int) (l : List S35) (hl : l.length < 5864062014805) (hs : ∀ m ∈ l, m.f1.size ≤ 140737488351232) (k : Nat) (hk : 170000000000000 < k) : redlineref11_fields.f k a b c d l = some (fieldsB l) := by
  unfold redlineref11_fields.f
  rw [fieldsB_good]
  exact fields_from a b c d l hl hs l.length k 0 (by omega) (by omega)
theorem fields_eq (a b c d : Int) (l : List S35) (hl : l.length < 5864062014805) : hunks_fields.f a b c d l = some (fieldsB l) := by
  unfold hunks_fields.f
  rw [if_pos hl]

/-! ### the checks -/
theorem chg_from (a b c d' : Int) (l : List S35) (hl : l.length < 5864062014805) : ∀ (d k i : Nat), i + d = l.length → d < k →
    redlineref11_Check.l0 k (i : Int) a b c d' l = some (if chgB (l.drop i) then 0 else 50) := by
  intro d
  induction d with
  | zero =>
    intro k i hi hk
    obtain ⟨k, rfl⟩ : ∃ m, k = m + 1 := ⟨k - 1, by omega⟩
    simp only [redlineref11_Check.l0]
    rw [if_neg (by omega), List.drop_of_length_le (by omega)]
    rfl
  | succ d ih =>
    intro k i hi hk
    obtain ⟨k, rfl⟩ : ∃ m, k = m + 1 := ⟨k - 1, by omega⟩
    have hlt : i < l.length := by omega
    have ih1 := ih k (i + 1) (by omega) (by omega)
    simp only [redlineref11_Check.l0]
    rw [if_pos (by omega), if_pos (by omega), rd35 hlt, wrap_id (by omega) (by omega), succ_cast, List.drop_eq_getElem_cons hlt, ih1]
    generalize l.drop (i + 1) = t
    generalize l[i] = m
    by_cases e : m.f0 = 32
    · rw [if_pos e]; simp [chgB, e]
    · rw [if_neg e]; simp [chgB, e]

/-- What a check of a hunk answers. -/
def checkT (bad : Bool) (b d : Int) (l : List S35) : Int :=
  if bad then 2 else if fieldsB l then (if b = ((pickL 45 l).length : Int) ∧ d = ((pickL 43 l).length : Int) then (if chgB l then 0 else 50) else 120) else 6
def numB (a : Int) : Bool := decide (0 ≤ a) && decide (a ≤ 2147483647)
def checkV (a b c d : Int) (l : List S35) : Int :=
  checkT (!(numB a && numB b && numB c && numB d) || (a == 0 && decide (0 < b)) || (c == 0 && decide (0 < d))) b d l
theorem number_eq (a : Int) : hunks_number.f a = some (numB a) := by
  unfold hunks_number.f numB
  by_cases h : 0 ≤ a
  · rw [if_pos h]; simp [h]
  · rw [if_neg h]; simp [h]
theorem rnumber_eq (a : Int) : redlineref11_number.f a = some (numB a) := by
  unfold redlineref11_number.f numB
  by_cases h : 0 ≤ a
  · rw [if_pos h]; simp [h]
  · rw [if_neg h]; simp [h]
theorem cj0_eq (bad : Bool) (a b c d : Int) (l : List S35) (hl : l.length < 5864062014805) (k : Nat) (hk : l.length + 2 < k) :
    hunks_Check.j0 k (.func (.func 43) #[] #[]) bad a b c d l = some (checkT bad b d l) := by
  obtain ⟨k, rfl⟩ : ∃ m, k = m + 1 + 1 := ⟨k - 2, by omega⟩
  unfold checkT
  cases bad with
  | true => simp [hunks_Check.j0]
  | false =>
    have hc : slices_ContainsFunc_Mark.f l (.func (.func 43) #[] #[]) = some (chgB l) := by
      unfold slices_ContainsFunc_Mark.f
      simp [hl]
    simp only [hunks_Check.j0, hunks_Check.j1, fields_eq a b c d l hl, old_eq a b c d l hl _ (show l.length < k + 1 by omega), new_eq a b c d l hl _ (show l.length < k + 1 by omega), Option.bind_some, hc, Bool.false_eq_true, if_false]
    cases fieldsB l with
    | false => simp
    | true =>
      by_cases h1 : b = ((pickL 45 l).length : Int)
      · by_cases h2 : d = ((pickL 43 l).length : Int)
        · have h3 : (d != ((pickL 43 l).length : Int)) = false := by simp [h2]
          rw [h3, if_pos rfl, if_pos h1, if_pos (show (true = true) from rfl), if_pos (And.intro h1 h2)]
          cases chgB l <;> simp
        · have h3 : (d != ((pickL 43 l).length : Int)) = true := by simp [h2]
          have h4 : ¬ (b = ((pickL 45 l).length : Int) ∧ d = ((pickL 43 l).length : Int)) := fun h => h2 h.2
          rw [h3, if_pos rfl, if_pos h1, if_pos (show (true = true) from rfl), if_pos (show (true = true) from rfl), if_neg h4]
      · have h4 : ¬ (b = ((pickL 45 l).length : Int) ∧ d = ((pickL 43 l).length : Int)) := fun h => h1 h.1
        rw [if_pos (show (true = true) from rfl), if_neg h1, if_pos trivial, if_pos (show (true = true) from rfl), if_neg h4]
theorem rcj0_eq (bad : Bool) (a b c d : Int) (l : List S35) (hl : l.length < 5864062014805) (hs : ∀ m ∈ l, m.f1.size ≤ 140737488351232) (k : Nat) (hk : 170000000000003 < k) :
    redlineref11_Check.j0 k bad a b c d l = some (checkT bad b d l) := by
  obtain ⟨k, rfl⟩ : ∃ m, k = m + 1 + 1 := ⟨k - 2, by omega⟩
  unfold checkT
  cases bad with
  | true => simp [redlineref11_Check.j0]
  | false =>
    have hc : redlineref11_Check.l0 k 0 a b c d l = some (if chgB l then 0 else 50) := by
      have := chg_from a b c d l hl l.length k 0 (by omega) (by omega)
      simpa using this
    simp only [redlineref11_Check.j0, redlineref11_Check.j1, rfields_eq a b c d l hl hs _ (show 170000000000000 < k + 1 by omega), rold_eq a b c d l hl _ (show l.length < k + 1 by omega), rnew_eq a b c d l hl _ (show l.length < k + 1 by omega), Option.bind_some, hc, Bool.false_eq_true, if_false]
    cases fieldsB l with
    | false => simp
    | true =>
      by_cases h1 : b = ((pickL 45 l).length : Int)
      · by_cases h2 : d = ((pickL 43 l).length : Int)
        · have h3 : (d != ((pickL 43 l).length : Int)) = false := by simp [h2]
          rw [h3, if_pos rfl, if_pos h1, if_pos (show (true = true) from rfl), if_pos (And.intro h1 h2)]
          cases chgB l <;> simp
        · have h3 : (d != ((pickL 43 l).length : Int)) = true := by simp [h2]
          have h4 : ¬ (b = ((pickL 45 l).length : Int) ∧ d = ((pickL 43 l).length : Int)) := fun h => h2 h.2
          rw [h3, if_pos rfl, if_pos h1, if_pos (show (true = true) from rfl), if_pos (show (true = true) from rfl), if_neg h4]
      · have h4 : ¬ (b = ((pickL 45 l).length : Int) ∧ d = ((pickL 43 l).length : Int)) := fun h => h1 h.1
        rw [if_pos (show (true = true) from rfl), if_neg h1, if_pos trivial, if_pos (show (true = true) from rfl), if_neg h4]
theorem check_eq (a b c d : Int) (l : List S35) (hl : l.length < 5864062014805) (k : Nat) (hk : l.length + 2 < k) : hunks_Check.f k a b c d l = some (checkV a b c d l) := by
  unfold hunks_Check.f checkV
  simp only [number_eq, Option.bind_some, cj0_eq _ a b c d l hl k hk]
  cases h1 : numB a with
  | false => simp
  | true =>
  cases h2 : numB b with
  | false => simp
  | true =>
  cases h3 : numB c with
  | false => simp
  | true =>
  cases h4 : numB d with
  | false => simp
  | true =>
    have ea : 0 ≤ a := by simp [numB] at h1; exact h1.1
    have eb : 0 ≤ b := by simp [numB] at h2; exact h2.1
    have ec : 0 ≤ c := by simp [numB] at h3; exact h3.1
    have ed : 0 ≤ d := by simp [numB] at h4; exact h4.1
    simp only [if_true, Bool.and_true, Bool.not_true, Bool.false_or]
    have q : ∀ x y : Int, 0 ≤ x → 0 ≤ y → ((x == 0 && decide (0 < y)) = decide (x < mn 1 y)) := by
      intro x y hx hy
      rw [Bool.eq_iff_iff]
      unfold mn
      simp
      split <;> omega
    rw [q a b ea eb, q c d ec ed]
    by_cases e : a < mn 1 b
    · rw [if_pos e]; simp [e]
    · rw [if_neg e]; simp [e]
theorem rcheck_eq (a b c d : Int) (l : List S35) (hl : l.length < 5864062014805) (hs : ∀ m ∈ l, m.f1.size ≤ 140737488351232) (k : Nat) (hk : 170000000000003 < k) : redlineref11_Check.f k a b c d l = some (checkV a b c d l) := by
  unfold redlineref11_Check.f checkV
  simp only [rnumber_eq, Option.bind_some, rcj0_eq _ a b c d l hl hs k hk]
  cases h1 : numB a with
  | false => simp
  | true =>
  cases h2 : numB b with
  | false => simp
  | true =>
  cases h3 : numB c with
  | false => simp
  | true =>
  cases h4 : numB d with
  | false => simp
  | true =>
    simp only [if_true, Bool.and_true, Bool.not_true, Bool.false_or]
    by_cases e1 : a = 0
    · rw [if_pos e1]
      by_cases e2 : b > 0
      · rw [if_pos e2]; simp [e1, show (0 : Int) < b from e2]
      · rw [if_neg e2]
        by_cases e3 : c = 0
        · rw [if_pos e3]; simp [e1, e3, show ¬ (0 : Int) < b from e2]
        · have e4 : (c == 0) = false := beq_eq_false_iff_ne.2 e3
          rw [if_neg e3, e4]; simp [e1, show ¬ (0 : Int) < b from e2]
    · have e5 : (a == 0) = false := beq_eq_false_iff_ne.2 e1
      rw [if_neg e1, e5]
      by_cases e3 : c = 0
      · rw [if_pos e3]; simp [e3]
      · have e4 : (c == 0) = false := beq_eq_false_iff_ne.2 e3
        rw [if_neg e3, e4]; simp
end Go.Proofs.Ytnllemlmgbjjnaa.PA
