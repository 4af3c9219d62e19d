/- Texts of this proof, packed into one: PAOpB PAOpC PAOpD. -/
import Derived.Test.YtnllemlmgbjjnaaVI2
import Derived.Test.YtnllemlmgbjjnaaRows
/- The types of this seat's arguments: data of them reads as values, with the bulk as the bound. -/
namespace Go.Proofs.Ytnllemlmgbjjnaa.PA
set_option linter.unusedVariables false
open Go.RowKit Go.ChangeShapes Go.WideShapes Go.Proofs.YtnllemlmgbjjnaaOpen Go.Proofs.YtnllemlmgbjjnaaW.PrintWords Go.Proofs.YtnllemlmgbjjnaaW.PrintLast Go.Proofs.YtnllemlmgbjjnaaW.PrintMore
/-- Data of type t read as a value of kind d: m of it is at most the data's bulk, and G holds of it. -/
def OpensB (t : TypeId) {α : Type} (d : Kd α) (m : α → Nat) (G : α → Prop) : Prop :=
  Try.prog.cellsOf t = d.sz ∧ ∀ {H : Type} (enc : TypeId × Value → H) (W : World) (fuel : Nat) (cs : List Value) (x : DataW H × List MemPlace),
    DataW.trod enc Try.prog W 0 (fun _ => true) true fuel t cs = some x → ∃ a, d.K W a cs ∧ m a ≤ Rows.uptoBulk x.1 ∧ G a
theorem opensB_int {t : TypeId} {k : IntKind} (ht : Try.prog.underlying t = some (.int k)) (hc : Try.prog.cellsOf t = 1) : OpensB t (Kd.int k) (fun _ => 1) (fun n => (Lit.int k n).wf = true) :=
  ⟨hc, fun enc W fuel cs x h => by
    obtain ⟨n, rfl, hx, hw⟩ := DataW.trod_int ht h
    refine ⟨n, rfl, ?_, hw⟩
    subst hx
    simp [Rows.uptoBulk]⟩
theorem opensB_string {t : TypeId} (ht : Try.prog.underlying t = some .string) (hc : Try.prog.cellsOf t = 1) : OpensB t Kd.string (fun s => s.size + 1) (fun _ => True) :=
  ⟨hc, fun enc W fuel cs x h => by
    obtain ⟨s, rfl, rfl, _⟩ := DataW.trod_string ht h
    refine ⟨s, rfl, ?_, trivial⟩
    simp [Rows.uptoBulk]⟩
theorem bulk_sum {H α : Type} {m : α → Nat} : ∀ (l : List α) (ds : List (DataW H)), l.length = ds.length → (∀ (i : Nat) (a : α) (d : DataW H), l[i]? = some a → ds[i]? = some d → m a ≤ Rows.uptoBulk d) → (l.map m).sum ≤ Rows.uptoBulkAll ds
  | [], [], _, _ => by simp
  | a :: l, d :: ds, hl, h => by
    have := bulk_sum l ds (by simpa using hl) (fun i a' d' ha hd => h (i + 1) a' d' (by simpa using ha) (by simpa using hd))
    have h0 := h 0 a d rfl rfl
    simp only [List.map_cons, List.sum_cons, Rows.uptoBulkAll]
    omega
  | [], _ :: _, hl, _ => by simp at hl
  | _ :: _, [], hl, _ => by simp at hl
theorem opensB_slice {t e : TypeId} {α : Type} {d : Kd α} {m : α → Nat} {G : α → Prop} (ht : Try.prog.underlying t = some (.slice e)) (hc : Try.prog.cellsOf t = 1) (he : OpensB e d m G) :
    OpensB t (Kd.slice e d) (fun l => (l.map m).sum + 1) (fun l => ∀ a ∈ l, G a) :=
  ⟨hc, fun enc W fuel cs x h => by
    rcases Go.Deep.open_slice ht h with ⟨rfl, rfl⟩ | ⟨a, len, cap, q, n, D, Pl, rfl, _, hl, hm, hmm, rfl, hi⟩
    · refine ⟨[], ⟨none, 0, rfl, Nat.le_refl _, rfl, by simp, fun h0 => absurd h0 (Nat.lt_irrefl _)⟩, ?_, fun a ha => by simp at ha⟩
      simp [Rows.uptoBulk]
    · have hmc : q = cap := by simpa using hmm
      subst hmc
      obtain ⟨l, hll, hlr⟩ := choose_list (α := α) (R := fun i a' => (∃ cs', W.cells? 0 (a.add (i * Try.prog.cellsOf e)) (Try.prog.cellsOf e) = some cs' ∧ d.K W a' cs') ∧ m a' ≤ Rows.uptoBulk (D i) ∧ G a') (m := len) (fun i hil => by
        obtain ⟨cs', hc', ht'⟩ := hi i (by omega)
        obtain ⟨b, hb, hg⟩ := he.2 enc W n cs' (D i, Pl i) ht'
        exact ⟨b, ⟨cs', hc', hb⟩, hg⟩)
      subst hll
      have hsum := bulk_sum (m := m) l ((List.range l.length).map D) (by simp) (fun i a' d' ha hd => by
        have hil := (List.getElem?_eq_some_iff.1 ha).1
        rw [List.getElem?_map, List.getElem?_range hil] at hd
        obtain rfl := Option.some.inj hd
        exact (hlr i a' ha).2.1)
      refine ⟨l, ⟨some a, q, rfl, hl, rfl, ?_, fun _ => ⟨a, rfl, fun j p hj => ?_⟩⟩, ?_, fun p hp => ?_⟩
      · unfold maxLen at hm; omega
      · obtain ⟨⟨cs', hc', hk⟩, _⟩ := hlr j p hj
        obtain ⟨_, hcl, hat⟩ := World.cells?_some hc'
        refine ⟨cs', d.K_len hk, hk, fun z u hq => ?_⟩
        have hq' := (List.getElem?_eq_some_iff.1 hq).1
        have := hat z (by omega)
        rw [he.1] at this
        rw [← Go.Deep.add_add, this]
        exact hq
      · simp only [Rows.uptoBulk]
        omega
      · obtain ⟨j, hj, rfl⟩ := List.getElem_of_mem hp
        exact (hlr j _ (List.getElem?_eq_getElem hj)).2.2⟩
/-- The fields of a struct from one on, in line. -/
def OpensBFs (fs : List Field) (off : Nat) {β : Type} (d : Kd β) (m : β → Nat) (G : β → Prop) : Prop :=
  ∀ {H : Type} (enc : TypeId × Value → H) (W : World) (n : Nat) (cs : List Value) (xs : List (DataW H)), cs.length = off + d.sz → xs.length = fs.length →
    (∀ (i : Nat) (f : Field) (x : DataW H), fs[i]? = some f → xs[i]? = some x → ∃ p, DataW.trod enc Try.prog W 0 (fun _ => true) true n f.type ((cs.drop f.offset).take (Try.prog.cellsOf f.type)) = some (x, p)) → ∃ b, d.K W b (cs.drop off) ∧ m b ≤ Rows.uptoBulkAll xs ∧ G b
theorem opensB_last {f : Field} {off : Nat} {α : Type} {d : Kd α} {m : α → Nat} {G : α → Prop} (ho : f.offset = off) (h : OpensB f.type d m G) : OpensBFs [f] off d m G := fun enc W n cs xs hl hxl hf => by
  match xs, hxl with
  | [x], _ =>
    obtain ⟨p, hy⟩ := hf 0 f x rfl rfl
    rw [ho, h.1, List.take_of_length_le (by rw [List.length_drop]; omega)] at hy
    obtain ⟨b, hb, hm, hg⟩ := h.2 enc W n _ _ hy
    exact ⟨b, hb, by simp only [Rows.uptoBulkAll]; exact Nat.le_trans hm (Nat.le_refl _), hg⟩
theorem opensB_cons {f : Field} {fs : List Field} {off : Nat} {α β : Type} {d : Kd α} {m : α → Nat} {G : α → Prop} {d2 : Kd β} {m2 : β → Nat} {G2 : β → Prop} (ho : f.offset = off) (h : OpensB f.type d m G) (h2 : OpensBFs fs (off + d.sz) d2 m2 G2) :
    OpensBFs (f :: fs) off (Kd.pair d d2) (fun x => m x.1 + m2 x.2) (fun x => G x.1 ∧ G2 x.2) := fun enc W n cs xs hl hxl hf => by
  match xs, hxl with
  | x :: xs, hxl =>
    obtain ⟨p, hy⟩ := hf 0 f x rfl rfl
    rw [ho, h.1] at hy
    obtain ⟨a, ha, hm, hg⟩ := h.2 enc W n _ _ hy
    have hl' : cs.length = off + d.sz + d2.sz := by rw [hl]; show off + (d.sz + d2.sz) = _; omega
    obtain ⟨b, hb, hm2, hg2⟩ := h2 enc W n cs xs hl' (by simpa using hxl) (fun i g y hg hy => hf (i + 1) g y (by simpa using hg) (by simpa using hy))
    refine ⟨(a, b), ⟨_, _, ?_, ha, hb⟩, by simp only [Rows.uptoBulkAll]; exact Nat.add_le_add hm hm2, hg, hg2⟩
    rw [← List.drop_drop, List.take_append_drop]
theorem opensB_struct {t : TypeId} {fs : Array Field} {l : List Field} {α β : Type} {d : Kd β} {m : β → Nat} {G : β → Prop} {f : α → β} {g : β → α} (hgf : ∀ b, f (g b) = b) (ht : Try.prog.underlying t = some (.struct fs)) (hfl : fs = l.toArray) (hc : Try.prog.cellsOf t = d.sz) (h : OpensBFs l 0 d m G) :
    OpensB t (Kd.iso d f) (fun x => m (f x) + 1) (fun x => G (f x)) :=
  ⟨hc, fun enc W fuel cs x hx => by
    subst hfl
    obtain ⟨xs, n, _, rfl, hl, hlx, hf⟩ := DataW.trod_struct ht hx
    obtain ⟨b, hb, hm, hg⟩ := h enc W n cs (xs.map (·.1)) (by rw [hl, hc]; omega) (by rw [List.length_map, hlx]; simp) (fun i f' x' hf' hx' => by
      rw [List.getElem?_map] at hx'
      obtain ⟨y, hy, rfl⟩ := Option.map_eq_some_iff.1 hx'
      have h1 := hf i f' (by simpa using hf')
      rw [hy] at h1
      exact ⟨y.2, h1⟩)
    refine ⟨g b, by show d.K W (f (g b)) cs; rw [hgf]; simpa using hb, ?_, by show G (f (g b)); rw [hgf]; exact hg⟩
    show m (f (g b)) + 1 ≤ _
    rw [hgf]
    simp only [Rows.uptoBulk]
    omega⟩
/-- An argument, as a row's proof holds it. -/
theorem OpensB.arg {t : TypeId} {α : Type} {d : Kd α} {m : α → Nat} {G : α → Prop} (ho : OpensB t d m G) {H : Type} {enc : TypeId × Value → H} {W : World} {v : Value} {x : DataW H} {p : List MemPlace}
    (h : DataW.Trod enc Try.prog W 0 (fun _ => true) true t v x p) : ∃ a, d.K W a v.cells.toList ∧ m a ≤ Rows.uptoBulk x ∧ G a := by
  obtain ⟨fuel, hf⟩ := h
  exact ho.2 enc W fuel _ _ hf
end Go.Proofs.Ytnllemlmgbjjnaa.PA
/- The types of this seat's arguments, with the bulk as the bound: one by one. -/
namespace Go.Proofs.Ytnllemlmgbjjnaa.PA
set_option linter.unusedVariables false
open Go.RowKit Go.ChangeShapes Go.WideShapes Go.Proofs.YtnllemlmgbjjnaaOpen Go.Proofs.YtnllemlmgbjjnaaW.PrintWords Go.Proofs.YtnllemlmgbjjnaaW.PrintLast Go.Proofs.YtnllemlmgbjjnaaW.PrintMore
theorem opensB3 : OpensB 3 (Kd.int .i64) (fun _ => 1) (fun n => (Lit.int .i64 n).wf = true) := opensB_int Try.underlying3 (by kernel_rfl)
theorem opensB9 : OpensB 9 Kd.string (fun s => s.size + 1) (fun _ => True) := opensB_string Try.underlying9 (by kernel_rfl)
def m27 (l : List ByteArray) : Nat := (l.map fun s => s.size + 1).sum + 1
theorem opensB27 : OpensB 27 (Kd.slice 9 Kd.string) m27 (fun l => ∀ s ∈ l, True) := opensB_slice Try.underlying27 (by kernel_rfl) opensB9
theorem len_sum {α : Type} {m : α → Nat} (l : List α) (h : ∀ a, 1 ≤ m a) : l.length ≤ (l.map m).sum := by
  induction l with
  | nil => exact Nat.le_refl _
  | cons a t ih => have := h a; simp only [List.length_cons, List.map_cons, List.sum_cons]; omega
end Go.Proofs.Ytnllemlmgbjjnaa.PA
/- Changes as arguments of this seat, with the bulk as the bound. -/
namespace Go.Proofs.Ytnllemlmgbjjnaa.PA
set_option linter.unusedVariables false
open Go.RowKit Go.ChangeShapes Go.WideShapes Go.Proofs.YtnllemlmgbjjnaaOpen Go.Proofs.YtnllemlmgbjjnaaW.PrintWords Go.Proofs.YtnllemlmgbjjnaaW.PrintLast Go.Proofs.YtnllemlmgbjjnaaW.PrintMore
def m94 (x : S94) : Nat := (1 + (1 + (1 + 1))) + 1
def m37 (l : List S94) : Nat := (l.map m94).sum + 1
def W94 (x : S94) : Prop := (Lit.int .i64 x.f0).wf = true ∧ (Lit.int .i64 x.f1).wf = true ∧ (Lit.int .i64 x.f2).wf = true ∧ (Lit.int .i64 x.f3).wf = true
theorem opensBF94 : OpensBFs fs94 0 (Kd.pair (Kd.int .i64) (Kd.pair (Kd.int .i64) (Kd.pair (Kd.int .i64) (Kd.int .i64)))) (fun b : Int × Int × Int × Int => 1 + (1 + (1 + 1))) (fun b : Int × Int × Int × Int => (Lit.int .i64 b.1).wf = true ∧ (Lit.int .i64 b.2.1).wf = true ∧ (Lit.int .i64 b.2.2.1).wf = true ∧ (Lit.int .i64 b.2.2.2).wf = true) :=
  opensB_cons (f := { name := "A", type := 3, offset := 0, embedded := false, tag := "", pkgPath := "", byteOffset := 0 }) (fs := [{ name := "AN", type := 3, offset := 1, embedded := false, tag := "", pkgPath := "", byteOffset := 8 }, { name := "B", type := 3, offset := 2, embedded := false, tag := "", pkgPath := "", byteOffset := 16 }, { name := "BN", type := 3, offset := 3, embedded := false, tag := "", pkgPath := "", byteOffset := 24 }]) rfl opensB3 (opensB_cons (f := { name := "AN", type := 3, offset := 1, embedded := false, tag := "", pkgPath := "", byteOffset := 8 }) (fs := [{ name := "B", type := 3, offset := 2, embedded := false, tag := "", pkgPath := "", byteOffset := 16 }, { name := "BN", type := 3, offset := 3, embedded := false, tag := "", pkgPath := "", byteOffset := 24 }]) rfl opensB3 (opensB_cons (f := { name := "B", type := 3, offset := 2, embedded := false, tag := "", pkgPath := "", byteOffset := 16 }) (fs := [{ name := "BN", type := 3, offset := 3, embedded := false, tag := "", pkgPath := "", byteOffset := 24 }]) rfl opensB3 (opensB_last (f := { name := "BN", type := 3, offset := 3, embedded := false, tag := "", pkgPath := "", byteOffset := 24 }) rfl opensB3)))
theorem opensB94 : OpensB 94 k94 m94 W94 :=
  opensB_struct (l := fs94) (m := (fun b : Int × Int × Int × Int => 1 + (1 + (1 + 1)))) (G := (fun b : Int × Int × Int × Int => (Lit.int .i64 b.1).wf = true ∧ (Lit.int .i64 b.2.1).wf = true ∧ (Lit.int .i64 b.2.2.1).wf = true ∧ (Lit.int .i64 b.2.2.2).wf = true)) (f := fun x : S94 => (x.f0, x.f1, x.f2, x.f3)) (g := fun b => ⟨b.1, b.2.1, b.2.2.1, b.2.2.2⟩) (fun _ => rfl) Try.underlying94 rfl (by kernel_rfl) opensBF94
theorem opensB37 : OpensB 37 (Kd.slice 94 k94) m37 (fun l => ∀ x ∈ l, W94 x) := opensB_slice Try.underlying37 (by kernel_rfl) opensB94
theorem changes_small {l : List S94} (h : m37 l ≤ 1048576) : l.length ≤ 1048576 := by
  unfold m37 at h
  have := len_sum (m := m94) l (fun x => by unfold m94; omega)
  omega
end Go.Proofs.Ytnllemlmgbjjnaa.PA
