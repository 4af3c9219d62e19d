/- Texts of this proof, packed into one: Open. -/
import Derived.SizedLaws
import Derived.ChangeSlices
import Derived.Deep.Slices
import Derived.Test.YtnllemlmgbjjnaaVIWMore
/- Laws: an argument that the row reads as data reads as a value of a kind (Kd), with the bounds that the reach gives: kind by kind. -/
namespace Go.Proofs.YtnllemlmgbjjnaaOpen
open Go.ChangeShapes Go.WideShapes Go.RowKit Go.Proofs.YtnllemlmgbjjnaaW.PrintWords
/-- Data of type t read as a value of kind d, of which G holds. -/
def Opens (P : Program) (t : TypeId) {α : Type} (d : Kd α) (G : α → Prop) : Prop :=
  P.cellsOf t = d.sz ∧ ∀ {H : Type} (enc : TypeId × Value → H) (W : World) (fuel : Nat) (cs : List Value) (x : DataW H × List MemPlace),
    DataW.trod enc P W 0 (fun _ => true) true fuel t cs = some x → (∀ n ∈ x.1.weights P t, n ≤ reachBytes) → ∃ a, d.K W a cs ∧ G a
variable {P : Program}
theorem choose_list {α : Type} {R : Nat → α → Prop} {m : Nat} (h : ∀ i, i < m → ∃ a, R i a) : ∃ l : List α, l.length = m ∧ ∀ i a, l[i]? = some a → R i a := by
  induction m with
  | zero => exact ⟨[], rfl, fun i a h => by simp at h⟩
  | succ m ih =>
    obtain ⟨l, hl, hR⟩ := ih (fun i hi => h i (by omega))
    obtain ⟨a, ha⟩ := h m (by omega)
    refine ⟨l ++ [a], by simp [hl], fun i b hb => ?_⟩
    rcases Nat.lt_trichotomy i m with hi | hi | hi
    · rw [List.getElem?_append_left (by omega)] at hb
      exact hR i b hb
    · subst hi
      rw [List.getElem?_append_right (by omega), hl, Nat.sub_self] at hb
      obtain rfl : a = b := by simpa using hb
      exact ha
    · rw [List.getElem?_eq_none (by simp [hl]; omega)] at hb
      cases hb
/-- An argument, as a row's proof holds it. -/
theorem Opens.arg {t : TypeId} {α : Type} {d : Kd α} {G : α → Prop} (ho : Opens P t d G) {H : Type} {enc : TypeId × Value → H} {W : World} {v : Value} {x : DataW H} {p : List MemPlace} {ts : List TypeId} {ds : List (DataW H)} {j : Nat}
    (hsz : (DataW.weightsEach P ts ds).all (· ≤ reachBytes) = true) (ht : ts[j]? = some t) (hd : ds[j]? = some x) (h : DataW.Trod enc P W 0 (fun _ => true) true t v x p) : ∃ a, d.K W a v.cells.toList ∧ G a := by
  obtain ⟨fuel, hf⟩ := h
  exact ho.2 enc W fuel _ _ hf (fun n hn => by simpa using List.all_eq_true.1 hsz n (DataW.weights_mem_each ht hd n hn))
end Go.Proofs.YtnllemlmgbjjnaaOpen
