/- Texts of this proof, packed into one: Open. -/
import Derived.SizedLaws
import Derived.ChangeSlices
import Derived.Deep.Slices
import Derived.Test.YtnllemlmgbjjnaaHOWMore
/- Laws: an argument that the row reads as data reads as a value of a kind (Kd), with the bounds that the reach gives: kind by kind. -/
namespace Go.Proofs.YtnllemlmgbjjnaaOpen
open Go.ChangeShapes Go.WideShapes Go.RowKit Go.Proofs.YtnllemlmgbjjnaaW.PrintWords
/-- Data of type t read as a value of kind d, of which G holds. -/
def Opens (P : Program) (t : TypeId) {α : Type} (d : Kd α) (G : α → Prop) : Prop :=
  P.cellsOf t = d.sz ∧ ∀ {H : Type} (enc : TypeId × Value → H) (W : World) (fuel : Nat) (cs : List Value) (x : DataW H × List MemPlace),
    DataW.trod enc P W 0 (fun _ => true) true fuel t cs = some x → (∀ n ∈ x.1.weights P t, n ≤ reachBytes) → ∃ a, d.K W a cs ∧ G a
variable {P : Program}
theorem opens_int {t : TypeId} {k : IntKind} (ht : P.underlying t = some (.int k)) (hc : P.cellsOf t = 1) : Opens P t (Kd.int k) (fun n => (Lit.int k n).wf = true) :=
  ⟨hc, fun enc W fuel cs x h _ => by
    obtain ⟨n, rfl, _, hw⟩ := DataW.trod_int ht h
    exact ⟨n, rfl, hw⟩⟩
theorem opens_string {t : TypeId} (ht : P.underlying t = some .string) (hc : P.cellsOf t = 1) : Opens P t Kd.string (fun s => s.size ≤ 140737488351232) :=
  ⟨hc, fun enc W fuel cs x h hw => by
    obtain ⟨s, rfl, rfl, _⟩ := DataW.trod_string ht h
    refine ⟨s, rfl, ?_⟩
    have := hw s.data.toList.length (by simp [DataW.weights])
    simpa [reachBytes] using this⟩
theorem mem_weightsAll {H : Type} {e : TypeId} {y : DataW H} : ∀ {l : List (DataW H)}, y ∈ l → ∀ n ∈ y.weights P e, n ∈ DataW.weightsAll P e l
  | a :: l, hy, n, hn => by
    simp only [DataW.weightsAll, List.mem_append]
    rcases List.mem_cons.1 hy with rfl | hy
    · exact .inl hn
    · exact .inr (mem_weightsAll hy n hn)
theorem choose_list {α : Type} {R : Nat → α → Prop} {m : Nat} (h : ∀ i, i < m → ∃ a, R i a) : ∃ l : List α, l.length = m ∧ ∀ i a, l[i]? = some a → R i a := by
  induction m with
  | zero => exact ⟨[], rfl, fun i a h => by simp at h⟩
  | succ m ih =>
    obtain ⟨l, hl, hR⟩ := ih (fun i hi => h i (by omega))
    obtain ⟨a, ha⟩ := h m (by omega)
    refine ⟨l ++ [a], by simp [hl], fun i b hb => ?_⟩
    rcases Nat.lt_trichotomy i m with hi | hi | hi
    · rw [List.getElem?_append_left (by omega)] at hb
      exact hR i b hb
    · subst hi
      rw [List.getElem?_append_right (by omega), hl, Nat.sub_self] at hb
      obtain rfl : a = b := by simpa using hb
      exact ha
    · rw [List.getElem?_eq_none (by simp [hl]; omega)] at hb
      cases hb
theorem opens_slice {t e : TypeId} {α : Type} {d : Kd α} {G : α → Prop} {B : Nat} (ht : P.underlying t = some (.slice e)) (hc : P.cellsOf t = 1) (hB : P.bytesOf e = B) (he : Opens P e d G) :
    Opens P t (Kd.slice e d) (fun l => l.length * B ≤ 140737488351232 ∧ ∀ a ∈ l, G a) :=
  ⟨hc, fun enc W fuel cs x h hw => by
    rcases Go.Deep.open_slice ht h with ⟨rfl, rfl⟩ | ⟨a, len, cap, m, n, D, Pl, rfl, _, hl, hm, hmm, rfl, hi⟩
    · exact ⟨[], ⟨none, 0, rfl, Nat.le_refl _, rfl, by simp, fun h0 => absurd h0 (Nat.lt_irrefl _)⟩, by simp, fun a ha => by simp at ha⟩
    · have hmc : m = cap := by simpa using hmm
      subst hmc
      have hw0 := hw ((((List.range len).map D).length + ((List.range (m - len)).map fun j => D (len + j)).length) * P.bytesOf e) (by simp [DataW.weights, ht])
      have hlen : len * B ≤ 140737488351232 := by
        rw [hB] at hw0
        simp only [List.length_map, List.length_range] at hw0
        have e1 : len + (m - len) = m := by omega
        rw [e1] at hw0
        exact Nat.le_trans (Nat.mul_le_mul_right _ hl) hw0
      obtain ⟨l, hll, hlr⟩ := choose_list (α := α) (R := fun i a' => (∃ cs', W.cells? 0 (a.add (i * P.cellsOf e)) (P.cellsOf e) = some cs' ∧ d.K W a' cs') ∧ G a') (m := len) (fun i hil => by
        obtain ⟨cs', hc', ht'⟩ := hi i (by omega)
        obtain ⟨b, hb, hg⟩ := he.2 enc W n cs' (D i, Pl i) ht' (fun q hq => hw q (by
          simp only [DataW.weights, ht, List.mem_cons, List.mem_append]
          exact .inr (.inl (mem_weightsAll (List.mem_map.2 ⟨i, List.mem_range.2 hil, rfl⟩) q hq))))
        exact ⟨b, ⟨cs', hc', hb⟩, hg⟩)
      subst hll
      refine ⟨l, ⟨some a, m, rfl, hl, rfl, ?_, fun _ => ⟨a, rfl, fun j p hj => ?_⟩⟩, hlen, fun p hp => ?_⟩
      · unfold maxLen at hm; omega
      · obtain ⟨⟨cs', hc', hk⟩, _⟩ := hlr j p hj
        obtain ⟨_, hcl, hat⟩ := World.cells?_some hc'
        refine ⟨cs', d.K_len hk, hk, fun q u hq => ?_⟩
        have hq' := (List.getElem?_eq_some_iff.1 hq).1
        have := hat q (by omega)
        rw [he.1] at this
        rw [← Go.Deep.add_add, this]
        exact hq
      · obtain ⟨j, hj, rfl⟩ := List.getElem_of_mem hp
        exact (hlr j _ (List.getElem?_eq_getElem hj)).2⟩
/-- The fields of a struct from one on, in line. -/
def OpensFs (P : Program) (fs : List Field) (off : Nat) {β : Type} (d : Kd β) (G : β → Prop) : Prop :=
  ∀ {H : Type} (enc : TypeId × Value → H) (W : World) (n : Nat) (cs : List Value), cs.length = off + d.sz →
    (∀ f ∈ fs, ∃ y, DataW.trod enc P W 0 (fun _ => true) true n f.type ((cs.drop f.offset).take (P.cellsOf f.type)) = some y ∧ ∀ q ∈ y.1.weights P f.type, q ≤ reachBytes) → ∃ b, d.K W b (cs.drop off) ∧ G b
theorem opens_last {f : Field} {off : Nat} {α : Type} {d : Kd α} {G : α → Prop} (ho : f.offset = off) (h : Opens P f.type d G) : OpensFs P [f] off d G := fun enc W n cs hl hf => by
  obtain ⟨y, hy, hw⟩ := hf f (by simp)
  rw [ho, h.1, List.take_of_length_le (by rw [List.length_drop]; omega)] at hy
  exact h.2 enc W n _ y hy hw
theorem opens_cons {f : Field} {fs : List Field} {off : Nat} {α β : Type} {d : Kd α} {G : α → Prop} {d2 : Kd β} {G2 : β → Prop} (ho : f.offset = off) (h : Opens P f.type d G) (h2 : OpensFs P fs (off + d.sz) d2 G2) :
    OpensFs P (f :: fs) off (Kd.pair d d2) (fun x => G x.1 ∧ G2 x.2) := fun enc W n cs hl hf => by
  obtain ⟨y, hy, hw⟩ := hf f (by simp)
  rw [ho, h.1] at hy
  obtain ⟨a, ha, hg⟩ := h.2 enc W n _ y hy hw
  have hl' : cs.length = off + d.sz + d2.sz := by rw [hl]; show off + (d.sz + d2.sz) = _; omega
  obtain ⟨b, hb, hg2⟩ := h2 enc W n cs hl' (fun g hg => hf g (List.mem_cons_of_mem _ hg))
  refine ⟨(a, b), ⟨_, _, ?_, ha, hb⟩, hg, hg2⟩
  rw [← List.drop_drop, List.take_append_drop]
theorem opens_struct {t : TypeId} {fs : Array Field} {l : List Field} {α β : Type} {d : Kd β} {G : β → Prop} {f : α → β} {g : β → α} (hgf : ∀ b, f (g b) = b) (ht : P.underlying t = some (.struct fs)) (hfl : fs = l.toArray) (hc : P.cellsOf t = d.sz) (h : OpensFs P l 0 d G) :
    Opens P t (Kd.iso d f) (fun x => G (f x)) :=
  ⟨hc, fun enc W fuel cs x hx hw => by
    subst hfl
    obtain ⟨xs, n, _, rfl, hl, hlx, hf⟩ := DataW.trod_struct ht hx
    obtain ⟨b, hb, hg⟩ := h enc W n cs (by rw [hl, hc]; omega) (fun f' hf' => by
      obtain ⟨i, hi, rfl⟩ := List.getElem_of_mem hf'
      have h1 := hf i l[i] (by simp [hi])
      have hix : i < xs.length := by rw [hlx]; simpa using hi
      rw [List.getElem?_eq_getElem hix] at h1
      refine ⟨_, h1, fun q hq => hw q ?_⟩
      simp only [DataW.weights, ht]
      exact DataW.weights_mem_each (j := i) (by simp [hi]) (by simp [hix]) q hq)
    exact ⟨g b, by show d.K W (f (g b)) cs; rw [hgf]; simpa using hb, by show G (f (g b)); rw [hgf]; exact hg⟩⟩
/-- An argument, as a row's proof holds it. -/
theorem Opens.arg {t : TypeId} {α : Type} {d : Kd α} {G : α → Prop} (ho : Opens P t d G) {H : Type} {enc : TypeId × Value → H} {W : World} {v : Value} {x : DataW H} {p : List MemPlace} {ts : List TypeId} {ds : List (DataW H)} {j : Nat}
    (hsz : (DataW.weightsEach P ts ds).all (· ≤ reachBytes) = true) (ht : ts[j]? = some t) (hd : ds[j]? = some x) (h : DataW.Trod enc P W 0 (fun _ => true) true t v x p) : ∃ a, d.K W a v.cells.toList ∧ G a := by
  obtain ⟨fuel, hf⟩ := h
  exact ho.2 enc W fuel _ _ hf (fun n hn => by simpa using List.all_eq_true.1 hsz n (DataW.weights_mem_each ht hd n hn))
end Go.Proofs.YtnllemlmgbjjnaaOpen
