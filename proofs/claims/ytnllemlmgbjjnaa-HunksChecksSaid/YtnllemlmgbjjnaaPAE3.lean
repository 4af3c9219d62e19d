import Derived.Test.YtnllemlmgbjjnaaPAx0
import Derived.Lib.Hide
namespace Go.Proofs.Ytnllemlmgbjjnaa.PA
set_option linter.unusedVariables false
set_option linter.unusedSimpArgs false
open Go.RowKit Go.Proofs.YtnllemlmgbjjnaaW.PrintWords Go.Proofs.YtnllemlmgbjjnaaW.PrintLast Go.Proofs.YtnllemlmgbjjnaaW.PrintMore

/-! ### hunks.Invert: its closure, and the loop -/
theorem R_lt {α : Type} {d : Kd α} {e base : Nat} {w : World} {ok : Nat → Prop} {v : Value} {xs : List α} (h : d.R e w base ok v xs) {k : Nat} (hk : v.ownBlock = some k) : k < w.heap.size := by
  obtain ⟨_, inner, ho, _⟩ := h
  exact own_lt ho k hk
/-- The state: 'out' lies in block g3 with its lines v, 'added' in block g4 with its lines u. -/
structure InvSt (w0 W : World) (g3 g4 : Nat) (i0 i1 i2 i3 : Int) (v u : Value) (xs ys : List S35) : Prop where
  b3 : W.heap[g3]? = some (.cells #[.int .i64 i0, .int .i64 i1, .int .i64 i2, .int .i64 i3, v] 24 (0, 0))
  b4 : W.heap[g4]? = some (.cells #[u] 22 (0, 0))
  rv : Kd.R k35 35 W w0.heap.size (fun _ => True) v xs
  ru : Kd.R k35 35 W w0.heap.size (fun _ => True) u ys
  ne : ∀ k, v.ownBlock = some k → u.ownBlock ≠ some k
  bel : Below w0.heap.size w0 W
  g3ge : w0.heap.size ≤ g3
  g4ge : w0.heap.size ≤ g4
theorem InvSt.g34 {w0 W : World} {g3 g4 : Nat} {i0 i1 i2 i3 : Int} {v u : Value} {xs ys : List S35} (h : InvSt w0 W g3 g4 i0 i1 i2 i3 v u xs ys) : g3 ≠ g4 := blk_ne h.b3 h.b4 (by decide)
/-- Another step that leaves what lay. -/
theorem InvSt.below {w0 W W1 : World} {g3 g4 : Nat} {i0 i1 i2 i3 : Int} {v u : Value} {xs ys : List S35} (h : InvSt w0 W g3 g4 i0 i1 i2 i3 v u xs ys) (hb : Below W.heap.size W W1) : InvSt w0 W1 g3 g4 i0 i1 i2 i3 v u xs ys :=
  ⟨blk_below h.b3 hb, blk_below h.b4 hb, Kd.R_below h.rv hb, Kd.R_below h.ru hb, h.ne, h.bel.trans (hb.mono h.bel.size), h.g3ge, h.g4ge⟩
/-- A store into a block of another type, that is new since. -/
theorem InvSt.far {w0 W : World} {g3 g4 : Nat} {i0 i1 i2 i3 : Int} {v u : Value} {xs ys : List S35} (h : InvSt w0 W g3 g4 i0 i1 i2 i3 v u xs ys) {g : Nat} (h3 : g3 ≠ g) (h4 : g4 ≠ g) (hv : v.ownBlock ≠ some g) (hu : u.ownBlock ≠ some g) (hg : w0.heap.size ≤ g) (j : Nat) (x : Value) :
    InvSt w0 (W.setCell ⟨g, j, none⟩ x) g3 g4 i0 i1 i2 i3 v u xs ys :=
  ⟨blk_far h.b3 h3 x, blk_far h.b4 h4 x,
    Kd.R_mono (Kd.R_far (p := ⟨g, j, none⟩) (Kd.R_tight (by rfl) h.rv) (fun k hk e => hv (by rw [← hk, e])) x) (fun _ _ => trivial),
    Kd.R_mono (Kd.R_far (p := ⟨g, j, none⟩) (Kd.R_tight (by rfl) h.ru) (fun k hk e => hu (by rw [← hk, e])) x) (fun _ _ => trivial),
    h.ne, h.bel.setCell (p := ⟨g, j, none⟩) hg x, h.g3ge, h.g4ge⟩
/-- Lines were put behind out's lines, and the new row is stored. -/
theorem InvSt.put {w0 W w1 : World} {g3 g4 : Nat} {i0 i1 i2 i3 : Int} {v u v1 : Value} {xs ys zs : List S35} (h : InvSt w0 W g3 g4 i0 i1 i2 i3 v u xs ys)
    (hR : Kd.R k35 35 w1 w0.heap.size (fun _ => True) v1 zs) (hB : Below w0.heap.size w0 w1) (hg : W.grownBy w1 v.ownBlock) (ho : v1.ownBlock = v.ownBlock ∨ ∃ b, v1.ownBlock = some b ∧ W.heap.size ≤ b) :
    InvSt w0 (w1.setCell ⟨g3, 4, none⟩ v1) g3 g4 i0 i1 i2 i3 v1 u zs ys := by
  have b3 := blk_grown h.b3 hg (Kd.R_ne h.rv h.b3 (by decide))
  have b4 := blk_grown h.b4 hg (Kd.R_ne h.rv h.b4 (by decide))
  have ru := Kd.R_grown2 h.ru (by rfl) hg (fun k hk e => h.ne k hk e.symm)
  refine ⟨blk_put b3 4 v1 rfl, blk_far b4 h.g34.symm v1, Kd.R_set hR b3 (by decide) 4 v1, Kd.R_mono (Kd.R_set ru b3 (by decide) 4 v1) (fun _ _ => trivial), fun k hk => ?_, hB.setCell (p := ⟨g3, 4, none⟩) h.g3ge v1, h.g3ge, h.g4ge⟩
  rcases ho with ho | ⟨b, ho, hb⟩
  · exact h.ne k (ho ▸ hk)
  · intro e
    have := R_lt h.ru e
    rw [ho] at hk
    injection hk with hk
    omega
/-- Lines were put behind the added ones. -/
theorem InvSt.putA {w0 W w1 : World} {g3 g4 : Nat} {i0 i1 i2 i3 : Int} {v u u1 : Value} {xs ys zs : List S35} (h : InvSt w0 W g3 g4 i0 i1 i2 i3 v u xs ys)
    (hR : Kd.R k35 35 w1 w0.heap.size (fun _ => True) u1 zs) (hB : Below w0.heap.size w0 w1) (hg : W.grownBy w1 u.ownBlock) (ho : u1.ownBlock = u.ownBlock ∨ ∃ b, u1.ownBlock = some b ∧ W.heap.size ≤ b) :
    InvSt w0 (w1.setCell ⟨g4, 0, none⟩ u1) g3 g4 i0 i1 i2 i3 v u1 xs zs := by
  have b3 := blk_grown h.b3 hg (Kd.R_ne h.ru h.b3 (by decide))
  have b4 := blk_grown h.b4 hg (Kd.R_ne h.ru h.b4 (by decide))
  have rv := Kd.R_grown2 h.rv (by rfl) hg (fun k hk e => h.ne k e.symm hk)
  refine ⟨blk_far b3 h.g34 u1, blk_put b4 0 u1 rfl, Kd.R_mono (Kd.R_set rv b4 (by decide) 0 u1) (fun _ _ => trivial), Kd.R_set hR b4 (by decide) 0 u1, fun k hk => ?_, hB.setCell (p := ⟨g4, 0, none⟩) h.g4ge u1, h.g3ge, h.g4ge⟩
  rcases ho with ho | ⟨b, ho, hb⟩
  · rw [ho]; exact h.ne k hk
  · intro e
    have := R_lt h.rv hk
    rw [ho] at e
    injection e with e
    omega
/-- The added ones are none. -/
theorem InvSt.clear {w0 W : World} {g3 g4 : Nat} {i0 i1 i2 i3 : Int} {v u : Value} {xs ys : List S35} (h : InvSt w0 W g3 g4 i0 i1 i2 i3 v u xs ys) : InvSt w0 (W.setCell ⟨g4, 0, none⟩ (.slice none 0 0)) g3 g4 i0 i1 i2 i3 v (.slice none 0 0) xs [] :=
  ⟨blk_far h.b3 h.g34 _, blk_put h.b4 0 _ rfl, Kd.R_mono (Kd.R_set h.rv h.b4 (by decide) 0 _) (fun _ _ => trivial), Kd.R_nil _ _ _ _ _, fun k _ => by simp [Value.ownBlock], h.bel.setCell (p := ⟨g4, 0, none⟩) h.g4ge _, h.g3ge, h.g4ge⟩

/-- What a call keeps beside: each block but for the row's and two. -/
def KeepV (W W' : World) (v : Value) (g3 g4 : Nat) : Prop := ∀ (g : Nat) (cs : Array Value) (t : TypeId), W.heap[g]? = some (.cells cs t (0, 0)) → some g ≠ v.ownBlock → g ≠ g3 → g ≠ g4 → W'.heap[g]? = some (.cells cs t (0, 0))
def FlushPost (w0 W : World) (g3 g4 : Nat) (i0 i1 i2 i3 : Int) (v : Value) (xs ys : List S35) (e : Ending) (W' : World) : Prop :=
  e = .returned (.tuple #[]) ∧ KeepV W W' v g3 g4 ∧ ∃ v1, InvSt w0 W' g3 g4 i0 i1 i2 i3 v1 (.slice none 0 0) (xs ++ ys) []

theorem K_M {W : World} {base : Nat} {okp : Nat → Prop} {x : S35} {cs : List Value} (h : k35.K W x cs) : k35.M W base okp x cs := by
  rw [k35_open h]; exact k35_mkM _ _ _ _

set_option maxRecDepth 100000 in
set_option maxHeartbeats 2000000 in
theorem flush_calls (w0 W : World) (g3 g4 : Nat) (i0 i1 i2 i3 : Int) (v u : Value) (xs ys : List S35) (h : InvSt w0 W g3 g4 i0 i1 i2 i3 v u xs ys) (hl : xs.length + ys.length < 5864062014805) :
    Calls Try.prog 50 #[.pointer (some ⟨g3, 0, none⟩), .pointer (some ⟨g4, 0, none⟩)] W (FlushPost w0 W g3 g4 i0 i1 i2 i3 v xs ys) := by
  obtain ⟨A, c, hu, hc, hrd⟩ := Kd.R_reads h.ru
  subst hu
  have hu22 := Try.underlying22
  have c3 : W.cell? ⟨g3, 4, none⟩ = some v := (blk_cell h.b3 4).trans rfl
  have c4 : W.cell? ⟨g4, 0, none⟩ = some (.slice A ys.length c) := (blk_cell h.b4 0).trans rfl
  have f3 := blk_frozen h.b3 4
  have f4 := blk_frozen h.b4 0
  have HS := Aside0.mk h
  clear h
  go_enter Try.func50, Try.ntmps50
  go_wp2_with (at_builtin; refine Kd.R_append_rows k35 (w0 := w0) w0.heap.size rfl (.tmp 3) (.tmp 4) 22 35 (.agg #[(.int .u8 0), (.string ⟨#[]⟩)]) 24 rfl Try.underlying22 info35 rfl (by decide) (by omega) v xs ys A ys.length c (fun _ => True) (fun _ => False) rfl rfl HS.out.rv hrd (fun _ _ hk => K_M hk) (fun _ hk => hk.elim) (fun _ _ => trivial) HS.out.bel HS.out.bel.size (by omega) ?_; intro v1 w1 hR1 hB1 hg1 ho1; obtain ⟨A1, c1, hv1, hc1, _⟩ := Kd.R_reads hR1; subst hv1; have HR1 := Aside0.mk hR1; have HB1 := Aside0.mk hB1; have HG1 := Aside0.mk hg1; have HO1 := Aside0.mk ho1; clear hR1 hB1 hg1 ho1 hc1; have d3 := blk_cell (blk_grown HS.out.b3 HG1.out (Kd.R_ne HS.out.rv HS.out.b3 (by decide))) 4; have d4 := blk_cell (blk_grown HS.out.b4 HG1.out (Kd.R_ne HS.out.rv HS.out.b4 (by decide))) 0; have e3 := blk_frozen (blk_grown HS.out.b3 HG1.out (Kd.R_ne HS.out.rv HS.out.b3 (by decide))) 4; have e4 := blk_frozen (blk_grown HS.out.b4 HG1.out (Kd.R_ne HS.out.rv HS.out.b4 (by decide))) 0)
  go_end0
  have hst := (HS.out.put HR1.out HB1.out HG1.out HO1.out).clear
  rw [List.length_append] at hst
  refine ⟨rfl, fun g cs t hg ht n3 n4 => ?_, _, hst⟩
  exact blk_far (blk_far (blk_grown hg HG1.out ht) n3 _) n4 _

/-! ### the loop -/
def invStep (st : List S35 × List S35) (m : S35) : List S35 × List S35 :=
  if m.f0 = 43 then (st.1 ++ [⟨45, m.f1⟩], st.2) else if m.f0 = 45 then (st.1, st.2 ++ [⟨43, m.f1⟩]) else (st.1 ++ st.2 ++ [m], [])
def invFold (l : List S35) : List S35 × List S35 := l.foldl invStep ([], [])
/-- The lines of the hunk that goes back. -/
def invL (l : List S35) : List S35 := (invFold l).1 ++ (invFold l).2
theorem invFold_snoc (l : List S35) (m : S35) : invFold (l ++ [m]) = invStep (invFold l) m := by simp [invFold]
theorem invStep_len (st : List S35 × List S35) (m : S35) : (invStep st m).1.length + (invStep st m).2.length = st.1.length + st.2.length + 1 := by
  unfold invStep
  split
  · simp; omega
  · split
    · simp; omega
    · simp; omega
theorem invFold_len_from (l : List S35) : ∀ st : List S35 × List S35, (l.foldl invStep st).1.length + (l.foldl invStep st).2.length = st.1.length + st.2.length + l.length := by
  induction l with
  | nil => intro st; simp
  | cons m l ih => intro st; rw [List.foldl_cons, ih, invStep_len, List.length_cons]; omega
theorem invFold_len (l : List S35) : (invFold l).1.length + (invFold l).2.length = l.length := by
  have := invFold_len_from l ([], [])
  simpa [invFold] using this

theorem take_rd (l : List S35) (i : Int) (h0 : 0 ≤ i) (h1 : i < l.length) : l.take (i + 1).toNat = l.take i.toNat ++ [rd_T35 l i] := by
  have e : (i + 1).toNat = i.toNat + 1 := by omega
  have hl : i.toNat < l.length := by omega
  rw [e, List.take_succ_eq_append_getElem hl]
  unfold rd_T35
  rw [List.getD_eq_getElem?_getD, List.getElem?_eq_getElem hl]
  rfl

theorem blkB {W wL : World} {o : Obj} {g : Nat} {cs : Array Value} {t : TypeId} (hb : Below (W.alloc o).heap.size (W.alloc o) wL) (h : W.heap[g]? = some (.cells cs t (0, 0))) : wL.heap[g]? = some (.cells cs t (0, 0)) := blk_below (blk_alloc h o) hb
structure InvLoop (w wr : World) (g1 g2 g3 g4 : Nat) (a b c d : Int) (A : Option Addr) (c0 : Nat) (l : List S35) (i : Int) (v u : Value) : Prop where
  st : InvSt w wr g3 g4 c d a b v u (invFold (l.take i.toNat)).1 (invFold (l.take i.toNat)).2
  b1 : wr.heap[g1]? = some (.cells #[.int .i64 a, .int .i64 b, .int .i64 c, .int .i64 d, .slice A l.length c0] 24 (0, 0))
  b2 : wr.heap[g2]? = some (.cells #[.int .i64 0, .int .i64 0, .int .i64 0, .int .i64 0, .slice none 0 0] 24 (0, 0))
  n13 : g1 ≠ g3
  n23 : g2 ≠ g3
  n12 : g2 ≠ g1
  ge1 : w.heap.size ≤ g1
  ge2 : w.heap.size ≤ g2

def hunks_Invert.f (a0_0 : Int) (a0_1 : Int) (a0_2 : Int) (a0_3 : Int) (l0_4 : List S35) : Option (Int × Int × Int × Int × List S35) :=
  if l0_4.length < 5864062014805 then some (a0_2, a0_3, a0_0, a0_1, invL l0_4) else none
set_option maxRecDepth 100000 in
set_option maxHeartbeats 8000000 in
theorem hunks_Invert.calls (a0_0 : Int) (a0_1 : Int) (a0_2 : Int) (a0_3 : Int) (A0_4 : Option Addr) (c0_4 : Nat) (l0_4 : List S35) (r1 : Int) (r2 : Int) (r3 : Int) (r4 : Int) (r5 : List S35) (w : World) (hr0_4 : Kd.C k35 w A0_4 l0_4.length l0_4) (hc0_4 : l0_4.length ≤ c0_4) (h : hunks_Invert.f a0_0 a0_1 a0_2 a0_3 l0_4 = some (r1, r2, r3, r4, r5)) :
    Calls Try.prog 19 #[.agg #[.int .i64 a0_0, .int .i64 a0_1, .int .i64 a0_2, .int .i64 a0_3, .slice A0_4 l0_4.length c0_4]] w fun e w' => ∃ v4_ : Value, e = .returned (.agg #[.int .i64 r1, .int .i64 r2, .int .i64 r3, .int .i64 r4, v4_]) ∧ Kd.R k35 35 w' w.heap.size (fun _ => True) v4_ r5 ∧ Below w.heap.size w w' := by
  unfold hunks_Invert.f at h
  by_cases hlen : l0_4.length < 5864062014805
  case neg => rw [if_neg hlen] at h; exact absurd h (by simp)
  rw [if_pos hlen] at h
  simp only [Option.some.injEq, Prod.mk.injEq] at h
  obtain ⟨rfl, rfl, rfl, rfl, hres⟩ := h
  have HRES := Lib.hid hres
  clear hres
  have hlen' : (l0_4.length : Int) < 5864062014805 := by omega
  go_enter Try.func19, Try.ntmps19
  go_wp2
  have hst0 : InvSt w ((((w.alloc (.cells #[.int .i64 a0_0, .int .i64 a0_1, .int .i64 a0_2, .int .i64 a0_3, .slice A0_4 l0_4.length c0_4] 24)).alloc (.cells #[.int .i64 0, .int .i64 0, .int .i64 0, .int .i64 0, .slice none 0 0] 24)).alloc (.cells #[.int .i64 a0_2, .int .i64 a0_3, .int .i64 a0_0, .int .i64 a0_1, .slice none 0 0] 24)).alloc (.cells #[.slice none 0 0] 22)) (w.heap.size + 1 + 1) (w.heap.size + 1 + 1 + 1) a0_2 a0_3 a0_0 a0_1 (.slice none 0 0) (.slice none 0 0) [] [] := by
    refine ⟨?_, ?_, Kd.R_nil _ _ _ _ _, Kd.R_nil _ _ _ _ _, fun k hk => by simp [Value.ownBlock] at hk, ?_, by omega, by omega⟩
    · refine blk_alloc ?_ _
      have := blk_new ((w.alloc (.cells #[.int .i64 a0_0, .int .i64 a0_1, .int .i64 a0_2, .int .i64 a0_3, .slice A0_4 l0_4.length c0_4] 24)).alloc (.cells #[.int .i64 0, .int .i64 0, .int .i64 0, .int .i64 0, .slice none 0 0] 24)) (.cells #[.int .i64 a0_2, .int .i64 a0_3, .int .i64 a0_0, .int .i64 a0_1, .slice none 0 0] 24)
      simpa only [World.size_alloc] using this
    · have := blk_new (((w.alloc (.cells #[.int .i64 a0_0, .int .i64 a0_1, .int .i64 a0_2, .int .i64 a0_3, .slice A0_4 l0_4.length c0_4] 24)).alloc (.cells #[.int .i64 0, .int .i64 0, .int .i64 0, .int .i64 0, .slice none 0 0] 24)).alloc (.cells #[.int .i64 a0_2, .int .i64 a0_3, .int .i64 a0_0, .int .i64 a0_1, .slice none 0 0] 24)) (.cells #[.slice none 0 0] 22)
      simpa only [World.size_alloc] using this
    · exact ((((Below.refl _ w).alloc (Nat.le_refl _) _).alloc (by simp) _).alloc (by simp; omega) _).alloc (by simp; omega) _
  have b10 : (((((w.alloc (.cells #[.int .i64 a0_0, .int .i64 a0_1, .int .i64 a0_2, .int .i64 a0_3, .slice A0_4 l0_4.length c0_4] 24)).alloc (.cells #[.int .i64 0, .int .i64 0, .int .i64 0, .int .i64 0, .slice none 0 0] 24)).alloc (.cells #[.int .i64 a0_2, .int .i64 a0_3, .int .i64 a0_0, .int .i64 a0_1, .slice none 0 0] 24)).alloc (.cells #[.slice none 0 0] 22))).heap[w.heap.size]? = some (.cells #[.int .i64 a0_0, .int .i64 a0_1, .int .i64 a0_2, .int .i64 a0_3, .slice A0_4 l0_4.length c0_4] 24 (0, 0)) := blk_alloc (blk_alloc (blk_alloc (blk_new w _) _) _) _
  have b20 : (((((w.alloc (.cells #[.int .i64 a0_0, .int .i64 a0_1, .int .i64 a0_2, .int .i64 a0_3, .slice A0_4 l0_4.length c0_4] 24)).alloc (.cells #[.int .i64 0, .int .i64 0, .int .i64 0, .int .i64 0, .slice none 0 0] 24)).alloc (.cells #[.int .i64 a0_2, .int .i64 a0_3, .int .i64 a0_0, .int .i64 a0_1, .slice none 0 0] 24)).alloc (.cells #[.slice none 0 0] 22))).heap[w.heap.size + 1]? = some (.cells #[.int .i64 0, .int .i64 0, .int .i64 0, .int .i64 0, .slice none 0 0] 24 (0, 0)) := by
    refine blk_alloc (blk_alloc ?_ _) _
    have := blk_new (w.alloc (.cells #[.int .i64 a0_0, .int .i64 a0_1, .int .i64 a0_2, .int .i64 a0_3, .slice A0_4 l0_4.length c0_4] 24)) (.cells #[.int .i64 0, .int .i64 0, .int .i64 0, .int .i64 0, .slice none 0 0] 24)
    simpa only [World.size_alloc] using this
  generalize ((((w.alloc (.cells #[.int .i64 a0_0, .int .i64 a0_1, .int .i64 a0_2, .int .i64 a0_3, .slice A0_4 l0_4.length c0_4] 24)).alloc (.cells #[.int .i64 0, .int .i64 0, .int .i64 0, .int .i64 0, .slice none 0 0] 24)).alloc (.cells #[.int .i64 a0_2, .int .i64 a0_3, .int .i64 a0_0, .int .i64 a0_1, .slice none 0 0] 24)).alloc (.cells #[.slice none 0 0] 22)) = W0 at hst0 b10 b20 ⊢
  have n23 : w.heap.size + 1 ≠ w.heap.size + 1 + 1 := by omega
  have n13 : w.heap.size ≠ w.heap.size + 1 + 1 := by omega
  have n12 : w.heap.size + 1 ≠ w.heap.size := by omega
  have ge2 : w.heap.size ≤ w.heap.size + 1 := by omega
  generalize w.heap.size + 1 + 1 + 1 = g4 at hst0 ⊢
  generalize w.heap.size + 1 + 1 = g3 at hst0 n13 n23 ⊢
  generalize w.heap.size + 1 = g2 at b20 n23 n12 ge2 ⊢
  obtain ⟨g1, hg1⟩ : ∃ g1, w.heap.size = g1 := ⟨_, rfl⟩
  rw [hg1] at b10 n13 n12
  have HG1 := Lib.hid hg1
  have HI0 := Aside0.mk (show InvLoop w W0 g1 g2 g3 g4 a0_0 a0_1 a0_2 a0_3 A0_4 c0_4 l0_4 0 (.slice none 0 0) (.slice none 0 0) from ⟨hst0, b10, b20, n13, n23, n12, by rw [hg1]; exact Nat.le_refl _, ge2⟩)
  clear hst0 b10 b20 n13 n23 n12 ge2
  rw [hg1]
  clear hg1
  go_loopw [21] (fun v21 wr => ∃ i : Int, 0 ≤ i ∧ i ≤ l0_4.length ∧ v21 = .int .i64 i ∧ Aside0 (∃ v u, InvLoop w wr g1 g2 g3 g4 a0_0 a0_1 a0_2 a0_3 A0_4 c0_4 l0_4 i v u)) (fun v21 _ => l0_4.length - (intOf v21).toNat)
  case atStart => exact ⟨0, by omega, by omega, rfl, ⟨_, _, HI0.out⟩⟩
  case round =>
    clear HI0
    obtain ⟨i, h0, h1, rfl, ⟨v, u, hil⟩⟩ := hrel
    by_cases hlt : i < l0_4.length
    · have HLN : Aside0 ((invFold (l0_4.take i.toNat)).1.length + (invFold (l0_4.take i.toNat)).2.length = i.toNat ∧ i.toNat < l0_4.length) := ⟨by rw [invFold_len, List.length_take]; omega, by omega⟩
      have hstep : invFold (l0_4.take (i + 1).toNat) = invStep (invFold (l0_4.take i.toNat)) (rd_T35 l0_4 i) := by rw [take_rd l0_4 i h0 hlt, invFold_snoc]
      obtain ⟨ad, e, hx0, hx1⟩ := at_T35 hr0_4 i h0 hlt
      subst e
      replace hx0 := (hil.st.bel.cell (World.block_lt_of_cell? w _ hx0)).trans hx0
      replace hx1 := (hil.st.bel.cell (World.block_lt_of_cell? w _ hx1)).trans hx1
      have HIL := Aside0.mk hil
      have HSm := Aside0.mk (hil.st.below (below_alloc (Below.refl _ _) (.cells #[.int .u8 (rd_T35 l0_4 i).f0, .string (rd_T35 l0_4 i).f1] 35)))
      have HST := Lib.hid hstep
      have m3 : (wr.alloc (.cells #[.int .u8 (rd_T35 l0_4 i).f0, .string (rd_T35 l0_4 i).f1] 35)).cell? ⟨g3, 4, none⟩ = some v := (blk_cell HSm.out.b3 4).trans rfl
      have m4 : (wr.alloc (.cells #[.int .u8 (rd_T35 l0_4 i).f0, .string (rd_T35 l0_4 i).f1] 35)).cell? ⟨g4, 0, none⟩ = some u := (blk_cell HSm.out.b4 0).trans rfl
      have n3 := blk_frozen HSm.out.b3 4
      have n4 := blk_frozen HSm.out.b4 0
      have q3 : wr.cell? ⟨g3, 4, none⟩ = some v := (blk_cell hil.st.b3 4).trans rfl
      have q4 : wr.cell? ⟨g4, 0, none⟩ = some u := (blk_cell hil.st.b4 0).trans rfl
      have z3 : g3 < wr.heap.size := blk_lt hil.st.b3
      have z4 : g4 < wr.heap.size := blk_lt hil.st.b4
      clear hil hstep m3 m4 n3 n4
      by_cases e43 : (rd_T35 l0_4 i).f0 = 43
      · have b43 : ((rd_T35 l0_4 i).f0 == 43) = true := beq_iff_eq.2 e43
        have HE := Lib.hid e43
        clear e43
        go_wp2_with (first | ((with_reducible refine gate_dst (N := 42) rfl ?_); refine Kd.R_lit k35 _ 35 ?hg (N := 42) ?hd (xs := [(⟨45, (rd_T35 l0_4 i).f1⟩ : S35)]) (inner := [.int .u8 45, .string (rd_T35 l0_4 i).f1]) (ok := fun _ => True) (okp := fun _ => True) ?hr ?hp (fun _ hk => hk) trivial (Below.refl _ _) (Nat.le_refl _) (by simp) ?_; (case hd => rfl); (case hg => rfl); (case hr => first | (go_simp; done) | (go_simp; rfl)); (case hp => exact (Reps.c2 (show Kd.M k35 _ _ _ (⟨45, (rd_T35 l0_4 i).f1⟩ : S35) [.int .u8 45, .string (rd_T35 l0_4 i).f1] from (k35_mkM _ _ _ (⟨45, (rd_T35 l0_4 i).f1⟩ : S35))) (Reps.none _ _))); intro vL wL hRL hbL hgL hnL; clear hgL hnL; obtain ⟨AL, cL, hvL, hcL, hrdL⟩ := Kd.R_reads hRL; subst hvL; have HSL := Aside0.mk (HSm.out.below hbL); have HRD := Aside0.mk hrdL; have HBL := Aside0.mk hbL; clear hRL hbL hcL hrdL; have k3 : wL.cell? ⟨g3, 4, none⟩ = some v := (blk_cell HSL.out.b3 4).trans rfl; have k4 : wL.cell? ⟨g4, 0, none⟩ = some u := (blk_cell HSL.out.b4 0).trans rfl; have j3 := blk_frozen HSL.out.b3 4; have j4 := blk_frozen HSL.out.b4 0) | (at_builtin; refine Kd.R_append_rows k35 (w0 := w) w.heap.size rfl (.tmp 38) (.tmp 42) 22 35 (.agg #[(.int .u8 0), (.string ⟨#[]⟩)]) 24 rfl Try.underlying22 info35 rfl (by decide) (by omega) v (invFold (l0_4.take i.toNat)).1 _ _ _ _ (fun _ => True) (fun _ => False) rfl rfl HSL.out.rv HRD.out (fun _ _ hk => K_M hk) (fun _ hk => hk.elim) (fun _ _ => trivial) HSL.out.bel HSL.out.bel.size (by rw [List.length_singleton]; have := HLN.out; omega) ?_; intro v1 w1 hR1 hB1 hg1 ho1; obtain ⟨A1, c1, hv1, hc1, _⟩ := Kd.R_reads hR1; subst hv1; have HP := Aside0.mk (HSL.out.put hR1 hB1 hg1 ho1); have HG := Aside0.mk hg1; have d3 : w1.cell? ⟨g3, 4, none⟩ = some v := (blk_cell (blk_grown HSL.out.b3 hg1 (Kd.R_ne HSL.out.rv HSL.out.b3 (by decide))) 4).trans rfl; have d4 : w1.cell? ⟨g4, 0, none⟩ = some u := (blk_cell (blk_grown HSL.out.b4 hg1 (Kd.R_ne HSL.out.rv HSL.out.b4 (by decide))) 0).trans rfl; have e3 := blk_frozen (blk_grown HSL.out.b3 hg1 (Kd.R_ne HSL.out.rv HSL.out.b3 (by decide))) 4; have e4 := blk_frozen (blk_grown HSL.out.b4 hg1 (Kd.R_ne HSL.out.rv HSL.out.b4 (by decide))) 0; clear hR1 hB1 hg1 ho1 hc1))
        refine ⟨⟨i + 1, by omega, by omega, rfl, ⟨.slice A1 ((invFold (l0_4.take i.toNat)).1.length + 1) c1, u, ⟨?_, ?_, ?_, HIL.out.n13, HIL.out.n23, HIL.out.n12, HIL.out.ge1, HIL.out.ge2⟩⟩⟩, by simp [intOf]; omega⟩
        · rw [HST.out]
          unfold invStep
          rw [if_pos HE.out]
          have hp := HP.out
          rw [List.length_append, List.length_singleton] at hp
          first | exact hp | (rw [List.length_append] at hp; exact hp)
        · exact blk_far (blk_grown (blkB HBL.out HIL.out.b1) HG.out (Kd.R_ne HSL.out.rv (blkB HBL.out HIL.out.b1) (by decide))) HIL.out.n13 _
        · exact blk_far (blk_grown (blkB HBL.out HIL.out.b2) HG.out (Kd.R_ne HSL.out.rv (blkB HBL.out HIL.out.b2) (by decide))) HIL.out.n23 _
      · have c43 : ((rd_T35 l0_4 i).f0 == 43) = false := beq_eq_false_iff_ne.2 e43
        have HE := Lib.hid e43
        clear e43
        by_cases e45 : (rd_T35 l0_4 i).f0 = 45
        · have b45 : ((rd_T35 l0_4 i).f0 == 45) = true := beq_iff_eq.2 e45
          have HE2 := Lib.hid e45
          clear e45
          go_wp2_with (first | ((with_reducible refine gate_dst (N := 51) rfl ?_); refine Kd.R_lit k35 _ 35 ?hg (N := 51) ?hd (xs := [(⟨43, (rd_T35 l0_4 i).f1⟩ : S35)]) (inner := [.int .u8 43, .string (rd_T35 l0_4 i).f1]) (ok := fun _ => True) (okp := fun _ => True) ?hr ?hp (fun _ hk => hk) trivial (Below.refl _ _) (Nat.le_refl _) (by simp) ?_; (case hd => rfl); (case hg => rfl); (case hr => first | (go_simp; done) | (go_simp; rfl)); (case hp => exact (Reps.c2 (show Kd.M k35 _ _ _ (⟨43, (rd_T35 l0_4 i).f1⟩ : S35) [.int .u8 43, .string (rd_T35 l0_4 i).f1] from (k35_mkM _ _ _ (⟨43, (rd_T35 l0_4 i).f1⟩ : S35))) (Reps.none _ _))); intro vL wL hRL hbL hgL hnL; clear hgL hnL; obtain ⟨AL, cL, hvL, hcL, hrdL⟩ := Kd.R_reads hRL; subst hvL; have HSL := Aside0.mk (HSm.out.below hbL); have HRD := Aside0.mk hrdL; have HBL := Aside0.mk hbL; clear hRL hbL hcL hrdL; have k3 : wL.cell? ⟨g3, 4, none⟩ = some v := (blk_cell HSL.out.b3 4).trans rfl; have k4 : wL.cell? ⟨g4, 0, none⟩ = some u := (blk_cell HSL.out.b4 0).trans rfl; have j3 := blk_frozen HSL.out.b3 4; have j4 := blk_frozen HSL.out.b4 0) | (at_builtin; refine Kd.R_append_rows k35 (w0 := w) w.heap.size rfl (.tmp 47) (.tmp 51) 22 35 (.agg #[(.int .u8 0), (.string ⟨#[]⟩)]) 24 rfl Try.underlying22 info35 rfl (by decide) (by omega) u (invFold (l0_4.take i.toNat)).2 _ _ _ _ (fun _ => True) (fun _ => False) rfl rfl HSL.out.ru HRD.out (fun _ _ hk => K_M hk) (fun _ hk => hk.elim) (fun _ _ => trivial) HSL.out.bel HSL.out.bel.size (by rw [List.length_singleton]; have := HLN.out; first | omega | (rw [List.length_append]; omega)) ?_; intro v1 w1 hR1 hB1 hg1 ho1; obtain ⟨A1, c1, hv1, hc1, _⟩ := Kd.R_reads hR1; subst hv1; have HP := Aside0.mk (HSL.out.putA hR1 hB1 hg1 ho1); have HG := Aside0.mk hg1; have d3 : w1.cell? ⟨g3, 4, none⟩ = some v := (blk_cell (blk_grown HSL.out.b3 hg1 (Kd.R_ne HSL.out.ru HSL.out.b3 (by decide))) 4).trans rfl; have d4 : w1.cell? ⟨g4, 0, none⟩ = some u := (blk_cell (blk_grown HSL.out.b4 hg1 (Kd.R_ne HSL.out.ru HSL.out.b4 (by decide))) 0).trans rfl; have e3 := blk_frozen (blk_grown HSL.out.b3 hg1 (Kd.R_ne HSL.out.ru HSL.out.b3 (by decide))) 4; have e4 := blk_frozen (blk_grown HSL.out.b4 hg1 (Kd.R_ne HSL.out.ru HSL.out.b4 (by decide))) 0; clear hR1 hB1 hg1 ho1 hc1))
          refine ⟨⟨i + 1, by omega, by omega, rfl, ⟨v, .slice A1 ((invFold (l0_4.take i.toNat)).2.length + 1) c1, ⟨?_, ?_, ?_, HIL.out.n13, HIL.out.n23, HIL.out.n12, HIL.out.ge1, HIL.out.ge2⟩⟩⟩, by simp [intOf]; omega⟩
          · rw [HST.out]
            unfold invStep
            rw [if_neg (by rw [HE2.out]; decide), if_pos HE2.out]
            have hp := HP.out
            rw [List.length_append, List.length_singleton] at hp
            exact hp
          · exact blk_far (blk_grown (blkB HBL.out HIL.out.b1) HG.out (Kd.R_ne HSL.out.ru (blkB HBL.out HIL.out.b1) (by decide))) (blk_ne HIL.out.b1 HIL.out.st.b4 (by decide)) _
          · exact blk_far (blk_grown (blkB HBL.out HIL.out.b2) HG.out (Kd.R_ne HSL.out.ru (blkB HBL.out HIL.out.b2) (by decide))) (blk_ne HIL.out.b2 HIL.out.st.b4 (by decide)) _
        · have c45 : ((rd_T35 l0_4 i).f0 == 45) = false := beq_eq_false_iff_ne.2 e45
          have HE2 := Lib.hid e45
          clear e45
          go_wp2_with (first | (go_at_call 50; refine (flush_calls w _ g3 g4 a0_2 a0_3 a0_0 a0_1 v u _ _ HSm.out (by have := HLN.out; omega)).mono ?_; rintro e wF ⟨rfl, hkv, v1, hst1⟩; have HSF := Aside0.mk hst1; have HKV := Aside0.mk hkv; clear hst1 hkv; have bm := HKV.out wr.heap.size _ _ (blk_new wr (.cells #[.int .u8 (rd_T35 l0_4 i).f0, .string (rd_T35 l0_4 i).f1] 35)) (fun e => absurd (R_lt HIL.out.st.rv e.symm) (Nat.lt_irrefl _)) (by omega) (by omega); have cm0 : wF.cell? ⟨wr.heap.size, 0, none⟩ = some (.int .u8 (rd_T35 l0_4 i).f0) := (blk_cell bm 0).trans rfl; have cm1 : wF.cell? ⟨wr.heap.size, 1, none⟩ = some (.string (rd_T35 l0_4 i).f1) := (blk_cell bm 1).trans rfl; have HBM := Aside0.mk bm; clear bm; have cF3 : wF.cell? ⟨g3, 4, none⟩ = some v1 := (blk_cell HSF.out.b3 4).trans rfl; have B1F := Aside0.mk (HKV.out g1 _ _ (blk_alloc HIL.out.b1 (.cells #[.int .u8 (rd_T35 l0_4 i).f0, .string (rd_T35 l0_4 i).f1] 35)) (Kd.R_ne HIL.out.st.rv HIL.out.b1 (by decide)) HIL.out.n13 (blk_ne HIL.out.b1 HIL.out.st.b4 (by decide))); have B2F := Aside0.mk (HKV.out g2 _ _ (blk_alloc HIL.out.b2 (.cells #[.int .u8 (rd_T35 l0_4 i).f0, .string (rd_T35 l0_4 i).f1] 35)) (Kd.R_ne HIL.out.st.rv HIL.out.b2 (by decide)) HIL.out.n23 (blk_ne HIL.out.b2 HIL.out.st.b4 (by decide)))) | ((with_reducible refine gate_dst (N := 32) rfl ?_); refine Kd.R_lit k35 _ 35 ?hg (N := 32) ?hd (xs := [rd_T35 l0_4 i]) (inner := [.int .u8 (rd_T35 l0_4 i).f0, .string (rd_T35 l0_4 i).f1]) (ok := fun _ => True) (okp := fun _ => True) ?hr ?hp (fun _ hk => hk) trivial (Below.refl _ _) (Nat.le_refl _) (by simp) ?_; (case hd => rfl); (case hg => rfl); (case hr => first | (go_simp; done) | (go_simp; rfl)); (case hp => exact (Reps.c2 (show Kd.M k35 _ _ _ (rd_T35 l0_4 i) [.int .u8 (rd_T35 l0_4 i).f0, .string (rd_T35 l0_4 i).f1] from (k35_mkM _ _ _ (rd_T35 l0_4 i))) (Reps.none _ _))); intro vL wL hRL hbL hgL hnL; clear hgL hnL; obtain ⟨AL, cL, hvL, hcL, hrdL⟩ := Kd.R_reads hRL; subst hvL; have HSL := Aside0.mk (HSF.out.below hbL); have HRD := Aside0.mk hrdL; have HBL := Aside0.mk hbL; clear hRL hbL hcL hrdL; have k3 : wL.cell? ⟨g3, 4, none⟩ = some v1 := (blk_cell HSL.out.b3 4).trans rfl; have j3 := blk_frozen HSL.out.b3 4) | (at_builtin; refine Kd.R_append_rows k35 (w0 := w) w.heap.size rfl (.tmp 30) (.tmp 32) 22 35 (.agg #[(.int .u8 0), (.string ⟨#[]⟩)]) 24 rfl Try.underlying22 info35 rfl (by decide) (by omega) v1 ((invFold (l0_4.take i.toNat)).1 ++ (invFold (l0_4.take i.toNat)).2) _ _ _ _ (fun _ => True) (fun _ => False) rfl rfl HSL.out.rv HRD.out (fun _ _ hk => K_M hk) (fun _ hk => hk.elim) (fun _ _ => trivial) HSL.out.bel HSL.out.bel.size (by rw [List.length_singleton, List.length_append]; have := HLN.out; omega) ?_; intro v2 w2 hR1 hB1 hg1 ho1; obtain ⟨A1, c1, hv1, hc1, _⟩ := Kd.R_reads hR1; subst hv1; have HP := Aside0.mk (HSL.out.put hR1 hB1 hg1 ho1); have HG := Aside0.mk hg1; have d3 : w2.cell? ⟨g3, 4, none⟩ = some v1 := (blk_cell (blk_grown HSL.out.b3 hg1 (Kd.R_ne HSL.out.rv HSL.out.b3 (by decide))) 4).trans rfl; have e3 := blk_frozen (blk_grown HSL.out.b3 hg1 (Kd.R_ne HSL.out.rv HSL.out.b3 (by decide))) 4; clear hR1 hB1 hg1 ho1 hc1))
          refine ⟨⟨i + 1, by omega, by omega, rfl, ⟨.slice A1 ((invFold (l0_4.take i.toNat)).1.length + ((invFold (l0_4.take i.toNat)).2.length + 1)) c1, .slice none 0 0, ⟨?_, ?_, ?_, HIL.out.n13, HIL.out.n23, HIL.out.n12, HIL.out.ge1, HIL.out.ge2⟩⟩⟩, by simp [intOf]; omega⟩
          · rw [HST.out]
            unfold invStep
            rw [if_neg HE.out, if_neg HE2.out]
            have hp := HP.out
            simp only [List.length_append, List.length_singleton] at hp
            exact hp
          · exact blk_far (blk_grown (blk_below B1F.out HBL.out) HG.out (Kd.R_ne HSL.out.rv (blk_below B1F.out HBL.out) (by decide))) HIL.out.n13 _
          · exact blk_far (blk_grown (blk_below B2F.out HBL.out) HG.out (Kd.R_ne HSL.out.rv (blk_below B2F.out HBL.out) (by decide))) HIL.out.n23 _
    · obtain rfl : i = l0_4.length := by omega
      have htk : l0_4.take (l0_4.length : Int).toNat = l0_4 := by rw [Int.toNat_natCast]; exact List.take_length
      have HLN : Aside0 ((invFold (l0_4.take (l0_4.length : Int).toNat)).1.length + (invFold (l0_4.take (l0_4.length : Int).toNat)).2.length = l0_4.length) := ⟨by rw [htk, invFold_len]⟩
      have HTK := Lib.hid htk
      have HIL := Aside0.mk hil
      clear hil htk
      go_wp2_with (first | (go_at_call 50; refine (flush_calls w _ g3 g4 a0_2 a0_3 a0_0 a0_1 v u _ _ HIL.out.st (by have := HLN.out; omega)).mono ?_; rintro e wF ⟨rfl, hkv, v1, hst1⟩; have HSF := Aside0.mk hst1; have HKV := Aside0.mk hkv; obtain ⟨Av, cv, hv1, _, _⟩ := Kd.R_reads hst1.rv; subst hv1; clear hst1 hkv; have cF0 := blk_cell HSF.out.b3 0; have cF1 := blk_cell HSF.out.b3 1; have cF2 := blk_cell HSF.out.b3 2; have cF3 := blk_cell HSF.out.b3 3; have cF4 := blk_cell HSF.out.b3 4; have B2F := Aside0.mk (HKV.out g2 _ _ HIL.out.b2 (Kd.R_ne HIL.out.st.rv HIL.out.b2 (by decide)) HIL.out.n23 (blk_ne HIL.out.b2 HIL.out.st.b4 (by decide))); have c20 := blk_cell B2F.out 0; have c21 := blk_cell B2F.out 1; have c22 := blk_cell B2F.out 2; have c23 := blk_cell B2F.out 3; have c24 := blk_cell B2F.out 4; have f20 := blk_frozen B2F.out 0; have f21 := blk_frozen B2F.out 1; have f22 := blk_frozen B2F.out 2; have f23 := blk_frozen B2F.out 3; have f24 := blk_frozen B2F.out 4))
      have rv := HSF.out.rv
      rw [List.length_append, HTK.out] at rv
      have rv' : Kd.R k35 35 wF w.heap.size (fun _ => True) (.slice Av ((invFold l0_4).1.length + (invFold l0_4).2.length) cv) r5 := by rw [← HRES.out]; exact rv
      refine bodyPost_ret (results_cell_row rfl _ _ g2 24 #[.int .i64 a0_2, .int .i64 a0_3, .int .i64 a0_0, .int .i64 a0_1, .slice Av ((invFold l0_4).1.length + (invFold l0_4).2.length) cv] (0, 0) _ rfl
        (blk_put (cs := #[.int .i64 a0_2, .int .i64 a0_3, .int .i64 a0_0, .int .i64 a0_1, .slice none 0 0]) (blk_put (cs := #[.int .i64 a0_2, .int .i64 a0_3, .int .i64 a0_0, .int .i64 0, .slice none 0 0]) (blk_put (cs := #[.int .i64 a0_2, .int .i64 a0_3, .int .i64 0, .int .i64 0, .slice none 0 0]) (blk_put (cs := #[.int .i64 a0_2, .int .i64 0, .int .i64 0, .int .i64 0, .slice none 0 0]) (blk_put (cs := #[.int .i64 0, .int .i64 0, .int .i64 0, .int .i64 0, .slice none 0 0]) B2F.out 0 _ rfl) 1 _ rfl) 2 _ rfl) 3 _ rfl) 4 _ rfl)
        Try.underlying24 rfl (by kernel_rfl)) rfl ?_
      exact ⟨_, rfl, Kd.R_mono (Kd.R_far (p := ⟨g2, 4, none⟩) (Kd.R_far (p := ⟨g2, 3, none⟩) (Kd.R_far (p := ⟨g2, 2, none⟩) (Kd.R_far (p := ⟨g2, 1, none⟩) (Kd.R_far (p := ⟨g2, 0, none⟩) (Kd.R_types rv' B2F.out (by decide)) (fun _ hk => hk.2) _) (fun _ hk => hk.2) _) (fun _ hk => hk.2) _) (fun _ hk => hk.2) _) (fun _ hk => hk.2) _) (fun _ _ => trivial),
        ((((HSF.out.bel.setCell (p := ⟨g2, 0, none⟩) HIL.out.ge2 _).setCell (p := ⟨g2, 1, none⟩) HIL.out.ge2 _).setCell (p := ⟨g2, 2, none⟩) HIL.out.ge2 _).setCell (p := ⟨g2, 3, none⟩) HIL.out.ge2 _).setCell (p := ⟨g2, 4, none⟩) HIL.out.ge2 _⟩
end Go.Proofs.Ytnllemlmgbjjnaa.PA
