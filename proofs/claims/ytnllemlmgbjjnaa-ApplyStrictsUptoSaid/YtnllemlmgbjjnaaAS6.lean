/- Texts of this proof, packed into one: PALa PAOpB PAOpC. -/
import Derived.Test.YtnllemlmgbjjnaaAS5
import Derived.Test.YtnllemlmgbjjnaaAS4
import Derived.Test.YtnllemlmgbjjnaaRows
/- ApplyStricts: what the printed law answers is true, where the text is not too long. -/
namespace Go.Proofs.Ytnllemlmgbjjnaa.PA
set_option linter.unusedVariables false
set_option linter.unusedSimpArgs false
open Go.RowKit Go.Proofs.YtnllemlmgbjjnaaW.PrintWords Go.Proofs.YtnllemlmgbjjnaaW.PrintLast Go.Proofs.YtnllemlmgbjjnaaW.PrintMore
theorem strictL_len (a : List ByteArray) (M : Nat) : ∀ (l : List S24) (out : List ByteArray) (u v : Int) (o : List ByteArray), (∀ x ∈ l, okH x = 0) → 0 ≤ u → u ≤ (a.length : Int) → ordB u v l = true →
    (out.length : Int) + ((a.length : Int) - u) + (T l : Int) ≤ (M : Int) → strictL a out u l = some o → o.length ≤ M
  | [], out, u, v, o, ok, h0, h1, ho, hb, hr => by
    have hT : T [] = 0 := rfl
    have hr : some (out ++ a.drop u.toNat) = some o := hr
    obtain rfl := Option.some.inj hr
    rw [List.length_append, List.length_drop]
    omega
  | h :: t, out, u, v, o, ok, h0, h1, ho, hb, hr => by
    obtain ⟨q1, q2, q3, v', q4⟩ := first_ok (ok h (List.mem_cons_self ..)) ho
    have p2 := pickL_le 43 h.f4
    rw [T_cons] at hb
    rw [strictL_cons] at hr
    cases hst : standsB a (stA h) (pickL 45 h.f4) with
    | false => rw [hst] at hr; cases hr
    | true =>
      rw [hst, if_pos rfl] at hr
      obtain ⟨r1, r2⟩ := stands_of hst
      exact strictL_len a M t _ _ v' o (fun x hx => ok x (List.mem_cons_of_mem _ hx)) (by omega) r2 q4 (by rw [List.length_append, List.length_append, List.length_drop, List.length_take]; omega) hr
theorem strictV_len (l : List S24) (a : List ByteArray) (ha : a.length < 8787000000000) : (strictV l a).1.length < 8796093022208 := by
  unfold strictV
  split
  · split
    · rename_i c
      have hT := T_small c
      obtain ⟨h1, h2⟩ := order_zero c
      cases hr : strictL a [] 0 l with
      | none => exact (by decide : (0 : Nat) < 8796093022208)
      | some o =>
        have := strictL_len a (a.length + T l) l [] 0 0 o h1 (by omega) (by omega) h2 (by simp) hr
        unfold finS
        simp only
        split
        · show o.length < _; omega
        · exact (by decide : (0 : Nat) < 8796093022208)
    · exact (by decide : (0 : Nat) < 8796093022208)
  · exact (by decide : (0 : Nat) < 8796093022208)
theorem invFold_mem (l : List S35) : ∀ (st : List S35 × List S35) (P : ByteArray → Prop), (∀ m ∈ st.1, P m.f1) → (∀ m ∈ st.2, P m.f1) → (∀ m ∈ l, P m.f1) → (∀ m ∈ (l.foldl invStep st).1, P m.f1) ∧ (∀ m ∈ (l.foldl invStep st).2, P m.f1) := by
  induction l with
  | nil => intro st P h1 h2 _; exact ⟨h1, h2⟩
  | cons x t ih =>
    intro st P h1 h2 h3
    rw [List.foldl_cons]
    have hx := h3 x (List.mem_cons_self ..)
    have ht : ∀ m ∈ t, P m.f1 := fun m hm => h3 m (List.mem_cons_of_mem _ hm)
    have app : ∀ (s : List S35) (y : S35), (∀ m ∈ s, P m.f1) → P y.f1 → ∀ m ∈ s ++ [y], P m.f1 := fun s y hs hy m hm => by
      rcases List.mem_append.1 hm with h | h
      · exact hs m h
      · obtain rfl := List.mem_singleton.1 h; exact hy
    unfold invStep
    split
    · exact ih _ P (app _ _ h1 hx) h2 ht
    · split
      · exact ih _ P h1 (app _ _ h2 hx) ht
      · refine ih _ P (app _ _ (fun m hm => ?_) hx) (fun m hm => by simp at hm) ht
        rcases List.mem_append.1 hm with h | h
        · exact h1 m h
        · exact h2 m h
theorem small_inv {l : List S24} (hs : Small l) : Small (l.map invH) := by
  refine ⟨by rw [List.length_map]; exact hs.1, fun h hh => ?_⟩
  obtain ⟨x, hx, rfl⟩ := List.mem_map.1 hh
  obtain ⟨h1, h2⟩ := hs.2 x hx
  refine ⟨by show (invL x.f4).length < _; rw [invL_len]; exact h1, fun m hm => ?_⟩
  have := invFold_mem x.f4 ([], []) (fun s => s.size ≤ 140737488351232) (fun m hm => by simp at hm) (fun m hm => by simp at hm) h2
  have hm : m ∈ (invFold x.f4).1 ++ (invFold x.f4).2 := hm
  rcases List.mem_append.1 hm with h | h
  · exact this.1 m h
  · exact this.2 m h
def appliedV (l : List S24) (a : List ByteArray) : Bool := decide (0 < l.length) && (strictV l a).2 != 0 && (strictV (l.map invH) a).2 == 0
theorem applied_eq (l : List S24) (a : List ByteArray) (hs : Small l) (ha : a.length < 8787000000000) (hz : Sz a) (k : Nat) (hk : 40000000000000 < k) : apply_Applied.f k l a = some (appliedV l a) := by
  unfold apply_Applied.f
  rw [if_pos ⟨hs.1, List.all_eq_true.2 fun x hx => decide_eq_true (hs.2 x hx).1⟩, strict_eq l a hs ha hz k hk, Option.bind_some, strict_eq _ a (small_inv hs) ha hz k hk, Option.bind_some]
  rfl
theorem rapplied_from (l : List S24) (a : List ByteArray) (hs : Small l) (ha : a.length < 8787000000000) (hz : Sz a) : ∀ (d k i : Nat), i + d = l.length → d + 30000000000000000000000000000 < k →
    redlineref19_Applied.l0 k l a (strictV l a).2 ((l.take i).map invH) (i : Int) = some (appliedV l a) := by
  intro d
  induction d with
  | zero =>
    intro k i hi hk
    obtain ⟨k, rfl⟩ : ∃ m, k = m + 1 := ⟨k - 1, by omega⟩
    simp only [redlineref19_Applied.l0]
    rw [if_neg (by omega), List.take_of_length_le (by omega), rstrict_eq _ a (small_inv hs) ha hz _ (by omega), Option.bind_some]
    unfold appliedV
    generalize (strictV (l.map invH) a).2 = e2
    generalize (strictV l a).2 = e1
    by_cases c1 : (l.length : Int) > 0
    · rw [if_pos c1, decide_eq_true (show 0 < l.length by omega)]
      by_cases c2 : e1 = 0
      · rw [if_pos c2, c2]; rfl
      · rw [if_neg c2, show (e1 != 0) = true from bne_iff_ne.2 c2]; rfl
    · rw [if_neg c1, decide_eq_false (show ¬ 0 < l.length by omega)]; rfl
  | succ d ih =>
    intro k i hi hk
    obtain ⟨k, rfl⟩ : ∃ m, k = m + 1 := ⟨k - 1, by omega⟩
    have hlt : i < l.length := by omega
    have hl1 := hs.1
    have hm := hs.2 l[i] (List.getElem_mem hlt)
    have ih1 := ih k (i + 1) (by omega) (by omega)
    simp only [redlineref19_Applied.l0]
    rw [if_pos (by omega), if_pos (by omega), rd24 hlt, rinv_eq _ _ _ _ _ hm.1 _ (by omega), Option.bind_some, if_pos (by rw [List.length_map, List.length_take]; omega), wrap_id (x := (i : Int) + 1) (by omega) (by omega), succ_cast]
    rw [List.take_succ_eq_append_getElem hlt, List.map_append] at ih1
    exact ih1
theorem rapplied_eq (l : List S24) (a : List ByteArray) (hs : Small l) (ha : a.length < 8787000000000) (hz : Sz a) (k : Nat) (hk : 40000000000000000000000000000 < k) : redlineref19_Applied.f k l a = some (appliedV l a) := by
  have hl1 := hs.1
  unfold redlineref19_Applied.f
  rw [rstrict_eq l a hs ha hz _ (by omega), Option.bind_some]
  exact rapplied_from l a hs ha hz l.length k 0 (by omega) (by omega)
theorem spoil_from (l : List S24) (a : List ByteArray) (hs : Small l) (ha : a.length < 8787000000000) (n : Nat) (hn : n < 8796093022208) : ∀ (d k i : Nat) (x : List ByteArray), x.length = n → i + d = n → d + 20000000000000 < k →
    redlinelaw19_ApplyStricts.l0 k l a l a x (i : Int) = some true := by
  intro d
  induction d with
  | zero =>
    intro k i x hx hi hk
    obtain ⟨k, rfl⟩ : ∃ m, k = m + 1 := ⟨k - 1, by omega⟩
    simp only [redlinelaw19_ApplyStricts.l0]
    rw [if_neg (by omega), sameH_eq l hs _ (by omega), Option.bind_some, if_pos rfl, sames_eq a (by omega) _ (by omega), Option.bind_some]
  | succ d ih =>
    intro k i x hx hi hk
    obtain ⟨k, rfl⟩ : ∃ m, k = m + 1 := ⟨k - 1, by omega⟩
    simp only [redlinelaw19_ApplyStricts.l0]
    rw [if_pos (by omega), if_pos (by omega), wrap_id (x := (i : Int) + 1) (by omega) (by omega), succ_cast]
    exact ih k (i + 1) _ (by rw [List.length_set]; exact hx) (by omega) (by omega)
theorem stricts_true (l : List S24) (a : List ByteArray) (hs : Small l) (ha : a.length < 8787000000000) (hz : Sz a) : redlinelaw19_ApplyStricts.f 100000000000000000000000000000 l a = some true := by
  have hl1 := hs.1
  have hx := strictV_len l a ha
  have hd : redlinelaw19_ApplyStricts.j0 100000000000000000000000000000 l a l a (strictV l a).1 false = some true := by
    rw [show (100000000000000000000000000000 : Nat) = 99999999999999999999999999999 + 1 from rfl]
    simp only [redlinelaw19_ApplyStricts.j0]
    rw [if_neg (by decide)]
    exact spoil_from l a hs ha _ hx (strictV l a).1.length _ 0 _ rfl (by omega) (by omega)
  unfold redlinelaw19_ApplyStricts.f
  rw [copy_eq l hs.1 (fun h hh => (hs.2 h hh).1) _ (by omega), Option.bind_some, Option.bind_some, if_pos (by simp; omega), Option.bind_some, List.nil_append, strict_eq l a hs ha hz _ (by omega), Option.bind_some,
    rstrict_eq l a hs ha hz _ (by omega), Option.bind_some, if_pos rfl, sames_eq _ (by omega) _ (by omega), Option.bind_some, if_pos rfl, applied_eq l a hs ha hz _ (by omega), Option.bind_some, rapplied_eq l a hs ha hz _ (by omega), Option.bind_some, bne_self_eq_false]
  exact hd
end Go.Proofs.Ytnllemlmgbjjnaa.PA
/- The types of this seat's arguments: data of them reads as values, with the bulk as the bound. -/
namespace Go.Proofs.Ytnllemlmgbjjnaa.PA
set_option linter.unusedVariables false
open Go.RowKit Go.ChangeShapes Go.WideShapes Go.Proofs.YtnllemlmgbjjnaaOpen Go.Proofs.YtnllemlmgbjjnaaW.PrintWords Go.Proofs.YtnllemlmgbjjnaaW.PrintLast Go.Proofs.YtnllemlmgbjjnaaW.PrintMore
/-- Data of type t read as a value of kind d: m of it is at most the data's bulk, and G holds of it. -/
def OpensB (t : TypeId) {α : Type} (d : Kd α) (m : α → Nat) (G : α → Prop) : Prop :=
  Try.prog.cellsOf t = d.sz ∧ ∀ {H : Type} (enc : TypeId × Value → H) (W : World) (fuel : Nat) (cs : List Value) (x : DataW H × List MemPlace),
    DataW.trod enc Try.prog W 0 (fun _ => true) true fuel t cs = some x → ∃ a, d.K W a cs ∧ m a ≤ Rows.uptoBulk x.1 ∧ G a
theorem opensB_int {t : TypeId} {k : IntKind} (ht : Try.prog.underlying t = some (.int k)) (hc : Try.prog.cellsOf t = 1) : OpensB t (Kd.int k) (fun _ => 1) (fun n => (Lit.int k n).wf = true) :=
  ⟨hc, fun enc W fuel cs x h => by
    obtain ⟨n, rfl, hx, hw⟩ := DataW.trod_int ht h
    refine ⟨n, rfl, ?_, hw⟩
    subst hx
    simp [Rows.uptoBulk]⟩
theorem opensB_string {t : TypeId} (ht : Try.prog.underlying t = some .string) (hc : Try.prog.cellsOf t = 1) : OpensB t Kd.string (fun s => s.size + 1) (fun _ => True) :=
  ⟨hc, fun enc W fuel cs x h => by
    obtain ⟨s, rfl, rfl, _⟩ := DataW.trod_string ht h
    refine ⟨s, rfl, ?_, trivial⟩
    simp [Rows.uptoBulk]⟩
theorem bulk_sum {H α : Type} {m : α → Nat} : ∀ (l : List α) (ds : List (DataW H)), l.length = ds.length → (∀ (i : Nat) (a : α) (d : DataW H), l[i]? = some a → ds[i]? = some d → m a ≤ Rows.uptoBulk d) → (l.map m).sum ≤ Rows.uptoBulkAll ds
  | [], [], _, _ => by simp
  | a :: l, d :: ds, hl, h => by
    have := bulk_sum l ds (by simpa using hl) (fun i a' d' ha hd => h (i + 1) a' d' (by simpa using ha) (by simpa using hd))
    have h0 := h 0 a d rfl rfl
    simp only [List.map_cons, List.sum_cons, Rows.uptoBulkAll]
    omega
  | [], _ :: _, hl, _ => by simp at hl
  | _ :: _, [], hl, _ => by simp at hl
theorem opensB_slice {t e : TypeId} {α : Type} {d : Kd α} {m : α → Nat} {G : α → Prop} (ht : Try.prog.underlying t = some (.slice e)) (hc : Try.prog.cellsOf t = 1) (he : OpensB e d m G) :
    OpensB t (Kd.slice e d) (fun l => (l.map m).sum + 1) (fun l => ∀ a ∈ l, G a) :=
  ⟨hc, fun enc W fuel cs x h => by
    rcases Go.Deep.open_slice ht h with ⟨rfl, rfl⟩ | ⟨a, len, cap, q, n, D, Pl, rfl, _, hl, hm, hmm, rfl, hi⟩
    · refine ⟨[], ⟨none, 0, rfl, Nat.le_refl _, rfl, by simp, fun h0 => absurd h0 (Nat.lt_irrefl _)⟩, ?_, fun a ha => by simp at ha⟩
      simp [Rows.uptoBulk]
    · have hmc : q = cap := by simpa using hmm
      subst hmc
      obtain ⟨l, hll, hlr⟩ := choose_list (α := α) (R := fun i a' => (∃ cs', W.cells? 0 (a.add (i * Try.prog.cellsOf e)) (Try.prog.cellsOf e) = some cs' ∧ d.K W a' cs') ∧ m a' ≤ Rows.uptoBulk (D i) ∧ G a') (m := len) (fun i hil => by
        obtain ⟨cs', hc', ht'⟩ := hi i (by omega)
        obtain ⟨b, hb, hg⟩ := he.2 enc W n cs' (D i, Pl i) ht'
        exact ⟨b, ⟨cs', hc', hb⟩, hg⟩)
      subst hll
      have hsum := bulk_sum (m := m) l ((List.range l.length).map D) (by simp) (fun i a' d' ha hd => by
        have hil := (List.getElem?_eq_some_iff.1 ha).1
        rw [List.getElem?_map, List.getElem?_range hil] at hd
        obtain rfl := Option.some.inj hd
        exact (hlr i a' ha).2.1)
      refine ⟨l, ⟨some a, q, rfl, hl, rfl, ?_, fun _ => ⟨a, rfl, fun j p hj => ?_⟩⟩, ?_, fun p hp => ?_⟩
      · unfold maxLen at hm; omega
      · obtain ⟨⟨cs', hc', hk⟩, _⟩ := hlr j p hj
        obtain ⟨_, hcl, hat⟩ := World.cells?_some hc'
        refine ⟨cs', d.K_len hk, hk, fun z u hq => ?_⟩
        have hq' := (List.getElem?_eq_some_iff.1 hq).1
        have := hat z (by omega)
        rw [he.1] at this
        rw [← Go.Deep.add_add, this]
        exact hq
      · simp only [Rows.uptoBulk]
        omega
      · obtain ⟨j, hj, rfl⟩ := List.getElem_of_mem hp
        exact (hlr j _ (List.getElem?_eq_getElem hj)).2.2⟩
/-- The fields of a struct from one on, in line. -/
def OpensBFs (fs : List Field) (off : Nat) {β : Type} (d : Kd β) (m : β → Nat) (G : β → Prop) : Prop :=
  ∀ {H : Type} (enc : TypeId × Value → H) (W : World) (n : Nat) (cs : List Value) (xs : List (DataW H)), cs.length = off + d.sz → xs.length = fs.length →
    (∀ (i : Nat) (f : Field) (x : DataW H), fs[i]? = some f → xs[i]? = some x → ∃ p, DataW.trod enc Try.prog W 0 (fun _ => true) true n f.type ((cs.drop f.offset).take (Try.prog.cellsOf f.type)) = some (x, p)) → ∃ b, d.K W b (cs.drop off) ∧ m b ≤ Rows.uptoBulkAll xs ∧ G b
theorem opensB_last {f : Field} {off : Nat} {α : Type} {d : Kd α} {m : α → Nat} {G : α → Prop} (ho : f.offset = off) (h : OpensB f.type d m G) : OpensBFs [f] off d m G := fun enc W n cs xs hl hxl hf => by
  match xs, hxl with
  | [x], _ =>
    obtain ⟨p, hy⟩ := hf 0 f x rfl rfl
    rw [ho, h.1, List.take_of_length_le (by rw [List.length_drop]; omega)] at hy
    obtain ⟨b, hb, hm, hg⟩ := h.2 enc W n _ _ hy
    exact ⟨b, hb, by simp only [Rows.uptoBulkAll]; exact Nat.le_trans hm (Nat.le_refl _), hg⟩
theorem opensB_cons {f : Field} {fs : List Field} {off : Nat} {α β : Type} {d : Kd α} {m : α → Nat} {G : α → Prop} {d2 : Kd β} {m2 : β → Nat} {G2 : β → Prop} (ho : f.offset = off) (h : OpensB f.type d m G) (h2 : OpensBFs fs (off + d.sz) d2 m2 G2) :
    OpensBFs (f :: fs) off (Kd.pair d d2) (fun x => m x.1 + m2 x.2) (fun x => G x.1 ∧ G2 x.2) := fun enc W n cs xs hl hxl hf => by
  match xs, hxl with
  | x :: xs, hxl =>
    obtain ⟨p, hy⟩ := hf 0 f x rfl rfl
    rw [ho, h.1] at hy
    obtain ⟨a, ha, hm, hg⟩ := h.2 enc W n _ _ hy
    have hl' : cs.length = off + d.sz + d2.sz := by rw [hl]; show off + (d.sz + d2.sz) = _; omega
    obtain ⟨b, hb, hm2, hg2⟩ := h2 enc W n cs xs hl' (by simpa using hxl) (fun i g y hg hy => hf (i + 1) g y (by simpa using hg) (by simpa using hy))
    refine ⟨(a, b), ⟨_, _, ?_, ha, hb⟩, by simp only [Rows.uptoBulkAll]; exact Nat.add_le_add hm hm2, hg, hg2⟩
    rw [← List.drop_drop, List.take_append_drop]
theorem opensB_struct {t : TypeId} {fs : Array Field} {l : List Field} {α β : Type} {d : Kd β} {m : β → Nat} {G : β → Prop} {f : α → β} {g : β → α} (hgf : ∀ b, f (g b) = b) (ht : Try.prog.underlying t = some (.struct fs)) (hfl : fs = l.toArray) (hc : Try.prog.cellsOf t = d.sz) (h : OpensBFs l 0 d m G) :
    OpensB t (Kd.iso d f) (fun x => m (f x) + 1) (fun x => G (f x)) :=
  ⟨hc, fun enc W fuel cs x hx => by
    subst hfl
    obtain ⟨xs, n, _, rfl, hl, hlx, hf⟩ := DataW.trod_struct ht hx
    obtain ⟨b, hb, hm, hg⟩ := h enc W n cs (xs.map (·.1)) (by rw [hl, hc]; omega) (by rw [List.length_map, hlx]; simp) (fun i f' x' hf' hx' => by
      rw [List.getElem?_map] at hx'
      obtain ⟨y, hy, rfl⟩ := Option.map_eq_some_iff.1 hx'
      have h1 := hf i f' (by simpa using hf')
      rw [hy] at h1
      exact ⟨y.2, h1⟩)
    refine ⟨g b, by show d.K W (f (g b)) cs; rw [hgf]; simpa using hb, ?_, by show G (f (g b)); rw [hgf]; exact hg⟩
    show m (f (g b)) + 1 ≤ _
    rw [hgf]
    simp only [Rows.uptoBulk]
    omega⟩
/-- An argument, as a row's proof holds it. -/
theorem OpensB.arg {t : TypeId} {α : Type} {d : Kd α} {m : α → Nat} {G : α → Prop} (ho : OpensB t d m G) {H : Type} {enc : TypeId × Value → H} {W : World} {v : Value} {x : DataW H} {p : List MemPlace}
    (h : DataW.Trod enc Try.prog W 0 (fun _ => true) true t v x p) : ∃ a, d.K W a v.cells.toList ∧ m a ≤ Rows.uptoBulk x ∧ G a := by
  obtain ⟨fuel, hf⟩ := h
  exact ho.2 enc W fuel _ _ hf
end Go.Proofs.Ytnllemlmgbjjnaa.PA
/- The types of this seat's arguments, with the bulk as the bound: one by one. -/
namespace Go.Proofs.Ytnllemlmgbjjnaa.PA
set_option linter.unusedVariables false
open Go.RowKit Go.ChangeShapes Go.WideShapes Go.Proofs.YtnllemlmgbjjnaaOpen Go.Proofs.YtnllemlmgbjjnaaW.PrintWords Go.Proofs.YtnllemlmgbjjnaaW.PrintLast Go.Proofs.YtnllemlmgbjjnaaW.PrintMore
theorem opensB5 : OpensB 5 (Kd.int .u8) (fun _ => 1) (fun n => (Lit.int .u8 n).wf = true) := opensB_int Try.underlying5 (by kernel_rfl)
theorem opensB3 : OpensB 3 (Kd.int .i64) (fun _ => 1) (fun n => (Lit.int .i64 n).wf = true) := opensB_int Try.underlying3 (by kernel_rfl)
theorem opensB9 : OpensB 9 Kd.string (fun s => s.size + 1) (fun _ => True) := opensB_string Try.underlying9 (by kernel_rfl)
/-- How much a line, a row of them, a hunk, a row of hunks, a text hold. -/
def m35 (x : S35) : Nat := (1 + (x.f1.size + 1)) + 1
def m22 (l : List S35) : Nat := (l.map m35).sum + 1
def m24 (x : S24) : Nat := (1 + (1 + (1 + (1 + m22 x.f4)))) + 1
def m25 (l : List S24) : Nat := (l.map m24).sum + 1
def m27 (l : List ByteArray) : Nat := (l.map fun s => s.size + 1).sum + 1
def W35 (m : S35) : Prop := (Lit.int .u8 m.f0).wf = true ∧ True
def W24 (x : S24) : Prop := (Lit.int .i64 x.f0).wf = true ∧ (Lit.int .i64 x.f1).wf = true ∧ (Lit.int .i64 x.f2).wf = true ∧ (Lit.int .i64 x.f3).wf = true ∧ ∀ m ∈ x.f4, W35 m
theorem opensBF35 : OpensBFs fs35 0 (Kd.pair (Kd.int .u8) Kd.string) (fun b : Int × ByteArray => 1 + (b.2.size + 1)) (fun b : Int × ByteArray => (Lit.int .u8 b.1).wf = true ∧ True) :=
  opensB_cons (f := { name := "Sign", type := 5, offset := 0, embedded := false, tag := "", pkgPath := "", byteOffset := 0 }) (fs := [{ name := "Text", type := 9, offset := 1, embedded := false, tag := "", pkgPath := "", byteOffset := 8 }]) rfl opensB5 (opensB_last (f := { name := "Text", type := 9, offset := 1, embedded := false, tag := "", pkgPath := "", byteOffset := 8 }) rfl opensB9)
theorem opensB35 : OpensB 35 k35 m35 W35 :=
  opensB_struct (l := fs35) (m := fun b : Int × ByteArray => 1 + (b.2.size + 1)) (G := fun b : Int × ByteArray => (Lit.int .u8 b.1).wf = true ∧ True) (f := fun x : S35 => (x.f0, x.f1)) (g := fun b => ⟨b.1, b.2⟩) (fun _ => rfl) Try.underlying35 rfl (by kernel_rfl) opensBF35
theorem opensB22 : OpensB 22 (Kd.slice 35 k35) m22 (fun l => ∀ m ∈ l, W35 m) := opensB_slice Try.underlying22 (by kernel_rfl) opensB35
theorem opensBF24 : OpensBFs fs24 0 (Kd.pair (Kd.int .i64) (Kd.pair (Kd.int .i64) (Kd.pair (Kd.int .i64) (Kd.pair (Kd.int .i64) (Kd.slice 35 k35))))) (fun b : Int × Int × Int × Int × List S35 => 1 + (1 + (1 + (1 + m22 b.2.2.2.2))))
    (fun b : Int × Int × Int × Int × List S35 => (Lit.int .i64 b.1).wf = true ∧ (Lit.int .i64 b.2.1).wf = true ∧ (Lit.int .i64 b.2.2.1).wf = true ∧ (Lit.int .i64 b.2.2.2.1).wf = true ∧ ∀ m ∈ b.2.2.2.2, W35 m) :=
  opensB_cons (f := { name := "A", type := 3, offset := 0, embedded := false, tag := "", pkgPath := "", byteOffset := 0 }) (fs := [{ name := "AN", type := 3, offset := 1, embedded := false, tag := "", pkgPath := "", byteOffset := 8 }, { name := "B", type := 3, offset := 2, embedded := false, tag := "", pkgPath := "", byteOffset := 16 }, { name := "BN", type := 3, offset := 3, embedded := false, tag := "", pkgPath := "", byteOffset := 24 }, { name := "Lines", type := 22, offset := 4, embedded := false, tag := "", pkgPath := "", byteOffset := 32 }]) rfl opensB3
    (opensB_cons (f := { name := "AN", type := 3, offset := 1, embedded := false, tag := "", pkgPath := "", byteOffset := 8 }) (fs := [{ name := "B", type := 3, offset := 2, embedded := false, tag := "", pkgPath := "", byteOffset := 16 }, { name := "BN", type := 3, offset := 3, embedded := false, tag := "", pkgPath := "", byteOffset := 24 }, { name := "Lines", type := 22, offset := 4, embedded := false, tag := "", pkgPath := "", byteOffset := 32 }]) rfl opensB3
    (opensB_cons (f := { name := "B", type := 3, offset := 2, embedded := false, tag := "", pkgPath := "", byteOffset := 16 }) (fs := [{ name := "BN", type := 3, offset := 3, embedded := false, tag := "", pkgPath := "", byteOffset := 24 }, { name := "Lines", type := 22, offset := 4, embedded := false, tag := "", pkgPath := "", byteOffset := 32 }]) rfl opensB3
    (opensB_cons (f := { name := "BN", type := 3, offset := 3, embedded := false, tag := "", pkgPath := "", byteOffset := 24 }) (fs := [{ name := "Lines", type := 22, offset := 4, embedded := false, tag := "", pkgPath := "", byteOffset := 32 }]) rfl opensB3
    (opensB_last (f := { name := "Lines", type := 22, offset := 4, embedded := false, tag := "", pkgPath := "", byteOffset := 32 }) rfl opensB22))))
theorem opensB24 : OpensB 24 k24 m24 W24 :=
  opensB_struct (l := fs24) (m := fun b : Int × Int × Int × Int × List S35 => 1 + (1 + (1 + (1 + m22 b.2.2.2.2)))) (G := fun b : Int × Int × Int × Int × List S35 => (Lit.int .i64 b.1).wf = true ∧ (Lit.int .i64 b.2.1).wf = true ∧ (Lit.int .i64 b.2.2.1).wf = true ∧ (Lit.int .i64 b.2.2.2.1).wf = true ∧ ∀ m ∈ b.2.2.2.2, W35 m) (f := fun x : S24 => (x.f0, x.f1, x.f2, x.f3, x.f4)) (g := fun b => ⟨b.1, b.2.1, b.2.2.1, b.2.2.2.1, b.2.2.2.2⟩) (fun _ => rfl) Try.underlying24 rfl (by kernel_rfl) opensBF24
theorem opensB25 : OpensB 25 (Kd.slice 24 k24) m25 (fun l => ∀ x ∈ l, W24 x) := opensB_slice Try.underlying25 (by kernel_rfl) opensB24
theorem opensB27 : OpensB 27 (Kd.slice 9 Kd.string) m27 (fun l => ∀ s ∈ l, True) := opensB_slice Try.underlying27 (by kernel_rfl) opensB9
theorem len_sum {α : Type} {m : α → Nat} (l : List α) (h : ∀ a, 1 ≤ m a) : l.length ≤ (l.map m).sum := by
  induction l with
  | nil => exact Nat.le_refl _
  | cons a t ih => have := h a; simp only [List.length_cons, List.map_cons, List.sum_cons]; omega
theorem mem_sum {α : Type} {m : α → Nat} : ∀ {l : List α} {a : α}, a ∈ l → m a ≤ (l.map m).sum
  | b :: t, a, h => by
    simp only [List.map_cons, List.sum_cons]
    rcases List.mem_cons.1 h with rfl | h
    · omega
    · have := mem_sum (m := m) h; omega
theorem text_small {a : List ByteArray} (h : m27 a ≤ 1048576) : a.length ≤ 1048576 ∧ ∀ s ∈ a, s.size ≤ 1048576 := by
  unfold m27 at h
  have := len_sum (m := fun s : ByteArray => s.size + 1) a (fun s => by omega)
  refine ⟨by omega, fun s hs => ?_⟩
  have := mem_sum (m := fun s : ByteArray => s.size + 1) hs
  omega
theorem hunks_small {l : List S24} (h : m25 l ≤ 1048576) : l.length ≤ 1048576 ∧ ∀ x ∈ l, x.f4.length ≤ 1048576 ∧ ∀ m ∈ x.f4, m.f1.size ≤ 1048576 := by
  unfold m25 at h
  have := len_sum (m := m24) l (fun x => by unfold m24; omega)
  refine ⟨by omega, fun x hx => ?_⟩
  have h2 := mem_sum (m := m24) hx
  have e : m24 x = (1 + (1 + (1 + (1 + ((x.f4.map m35).sum + 1))))) + 1 := rfl
  have := len_sum (m := m35) x.f4 (fun x => by unfold m35; omega)
  refine ⟨by omega, fun m hm => ?_⟩
  have h3 := mem_sum (m := m35) hm
  have e3 : m35 m = (1 + (m.f1.size + 1)) + 1 := rfl
  omega
end Go.Proofs.Ytnllemlmgbjjnaa.PA
