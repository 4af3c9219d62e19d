/- The walk of HunksChecks: out of what its callees answer. -/
import Derived.Test.YtnllemlmgbjjnaaPAxf11
import Derived.Test.YtnllemlmgbjjnaaPAxf12
import Derived.Test.YtnllemlmgbjjnaaPAxf13
import Derived.Test.YtnllemlmgbjjnaaPAxf14
import Derived.Test.YtnllemlmgbjjnaaPAxf15
import Derived.Test.YtnllemlmgbjjnaaPAxf16
import Derived.Test.YtnllemlmgbjjnaaPAxf17
import Derived.Test.YtnllemlmgbjjnaaPAxf18
import Derived.Test.YtnllemlmgbjjnaaPAE3
import Derived.Test.YtnllemlmgbjjnaaPAxf20
import Derived.Test.YtnllemlmgbjjnaaPAxf21
import Derived.Deep.RegionHeld3
namespace Go.Proofs.Ytnllemlmgbjjnaa.PA
set_option linter.unusedVariables false
set_option linter.unusedSimpArgs false
open Go.RowKit Go.Proofs.YtnllemlmgbjjnaaW.PrintWords Go.Proofs.YtnllemlmgbjjnaaW.PrintLast Go.Proofs.YtnllemlmgbjjnaaW.PrintMore

/-- A block of one hunk reads as a row of it. -/
theorem C_one24 {W : World} {b : Nat} {x : S24} {A : Option Addr} {c : Nat} (hb : W.heap[b]? = some (.cells #[.int .i64 x.f0, .int .i64 x.f1, .int .i64 x.f2, .int .i64 x.f3, .slice A x.f4.length c] 24 (0, 0))) (hl : x.f4.length ≤ c) (hc : k35.C W A x.f4.length x.f4) :
    k24.C W (some ⟨b, 0, none⟩) [x].length [x] := by
  refine ⟨rfl, by simp, fun _ => ⟨_, rfl, fun j p hj => ?_⟩⟩
  have hj0 : j = 0 := by
    have := (List.getElem?_eq_some_iff.1 hj).1
    simp at this
    exact this
  subst hj0
  obtain rfl : x = p := by simpa using hj
  refine ⟨_, rfl, k24_mk W x hl hc, fun i u hi => ?_⟩
  have hn : (⟨b, 0, none⟩ : Addr).add (0 * k24.sz + i) = ⟨b, i, none⟩ := by
    simp only [Nat.zero_mul, Nat.zero_add, Addr.add]
    split
    · next h => rw [h]
    · rfl
  rw [hn, blk_cell hb i]
  simpa using hi

/-- A row's block, where the row has elements. -/
def RowAt (W : World) (A : Option Addr) (n B : Nat) : Prop := 0 < n → ∃ (gr : Nat) (cur : Array Value), A = some ⟨gr, 0, none⟩ ∧ B ≤ gr ∧ W.heap[gr]? = some (.cells cur 35 (0, 0)) ∧ n * 2 ≤ cur.size
theorem rowAt_of {W : World} {base : Nat} {A : Option Addr} {n c : Nat} {xs : List S35} {ok : Nat → Prop} (h : Kd.R k35 35 W base ok (.slice A n c) xs) : RowAt W A n base := by
  intro hn
  obtain ⟨_, inner, ⟨ho1, ho2⟩, hr⟩ := h
  rcases ho2 with ⟨hv, h0⟩ | ⟨g, cap, cur, hv, hb, hh, hnc, _, hcs, _⟩
  · injection hv with _ hx _
    omega
  · injection hv with ha hx _
    refine ⟨g, cur, ha, hb, hh, ?_⟩
    have hsz : (k35.sz : Nat) = 2 := rfl
    rw [hcs, hsz]
    omega

/-- What is known throughout: the two hunks' blocks, and their lines. -/
structure CkSt (w W : World) (g1 g3 : Nat) (a b c d : Int) (A : Option Addr) (c0 : Nat) (A4 : Option Addr) (c4 : Nat) (l : List S35) : Prop where
  b1 : W.heap[g1]? = some (.cells #[.int .i64 a, .int .i64 b, .int .i64 c, .int .i64 d, .slice A l.length c0] 24 (0, 0))
  b3 : W.heap[g3]? = some (.cells #[.int .i64 a, .int .i64 b, .int .i64 c, .int .i64 d, .slice A4 l.length c4] 24 (0, 0))
  cA : k35.C W A l.length l
  cO : k35.C W A4 l.length l
  hA : l.length ≤ c0
  hO : l.length ≤ c4
  bel : Below w.heap.size w W
theorem CkSt.below {w W W1 : World} {g1 g3 : Nat} {a b c d : Int} {A : Option Addr} {c0 : Nat} {A4 : Option Addr} {c4 : Nat} {l : List S35} (h : CkSt w W g1 g3 a b c d A c0 A4 c4 l) (hb : Below W.heap.size W W1) : CkSt w W1 g1 g3 a b c d A c0 A4 c4 l :=
  ⟨blk_below h.b1 hb, blk_below h.b3 hb, Kd.C_below h.cA hb, Kd.C_below h.cO hb, h.hA, h.hO, h.bel.trans (hb.mono h.bel.size)⟩
theorem CkSt.drewN {w W : World} {g1 g3 : Nat} {a b c d : Int} {A : Option Addr} {c0 : Nat} {A4 : Option Addr} {c4 : Nat} {l : List S35} (h : CkSt w W g1 g3 a b c d A c0 A4 c4 l) (n : Nat) : CkSt w (W.drewN n) g1 g3 a b c d A c0 A4 c4 l := h.below (pw_below_drewN (Below.refl _ _) n)
theorem add0 (ad : Addr) : ad.add 0 = ad := by cases ad; simp [Addr.add]
set_option maxRecDepth 100000 in
set_option maxHeartbeats 8000000 in
theorem checks_walk (k : Nat) (a b c d : Int) (A : Option Addr) (c0 : Nat) (l : List S35) (w : World) (hr : Kd.C k35 w A l.length l) (hc : l.length ≤ c0)
    (t1 t2 : List ByteArray) (e : Int) (xl : List S35)
    (hcopy : redlineref11_Copy.f k [⟨a, b, c, d, l⟩] = some [⟨a, b, c, d, l⟩])
    (hold : hunks_Old.f k a b c d l = some t1) (hnew : hunks_New.f k a b c d l = some t2)
    (hchk : hunks_Check.f k a b c d l = some e) (hrchk : redlineref11_Check.f k a b c d l = some e)
    (hrold : redlineref11_Old.f k a b c d l = some t1) (hrnew : redlineref11_New.f k a b c d l = some t2)
    (hs1 : redlineref01_SameStrings.f k t1 t1 = some true) (hs2 : redlineref01_SameStrings.f k t2 t2 = some true)
    (hinv : hunks_Invert.f a b c d l = some (c, d, a, b, xl)) (hrinv : redlineref11_Invert.f k a b c d l = some (c, d, a, b, xl))
    (hsm1 : redlineref11_Same.f k c d a b xl c d a b xl = some true) (hsm2 : redlineref11_Same.f k a b c d l a b c d l = some true) :
    Calls Try.prog 3 #[.agg #[.int .i64 a, .int .i64 b, .int .i64 c, .int .i64 d, .slice A l.length c0]] w fun e w' => e = .returned (.bool true) ∧ Below w.heap.size w w' := by
  have HCP := Aside0.mk hcopy; have HOL := Aside0.mk hold; have HNW := Aside0.mk hnew; have HCK := Aside0.mk hchk; have HRC := Aside0.mk hrchk; have HRO := Aside0.mk hrold; have HRN := Aside0.mk hrnew
  have HS1 := Aside0.mk hs1; have HS2 := Aside0.mk hs2; have HIN := Aside0.mk hinv; have HRI := Aside0.mk hrinv; have HM1 := Aside0.mk hsm1; have HM2 := Aside0.mk hsm2
  have HR := Aside0.mk hr; have HC := Aside0.mk hc
  clear hcopy hold hnew hchk hrchk hrold hrnew hs1 hs2 hinv hrinv hsm1 hsm2 hr hc
  have hb2 : ((w.alloc (.cells #[.int .i64 a, .int .i64 b, .int .i64 c, .int .i64 d, .slice A l.length c0] 24)).alloc (.cells #[.int .i64 a, .int .i64 b, .int .i64 c, .int .i64 d, .slice A l.length c0] 24)).heap[w.heap.size + 1]? = some (.cells #[.int .i64 a, .int .i64 b, .int .i64 c, .int .i64 d, .slice A l.length c0] 24 (0, 0)) := by
    have := blk_new (w.alloc (.cells #[.int .i64 a, .int .i64 b, .int .i64 c, .int .i64 d, .slice A l.length c0] 24)) (.cells #[.int .i64 a, .int .i64 b, .int .i64 c, .int .i64 d, .slice A l.length c0] 24)
    simpa only [World.size_alloc] using this
  have HC2 := Aside0.mk (C_one24 (x := ⟨a, b, c, d, l⟩) hb2 HC.out (Kd.C_alloc (Kd.C_alloc HR.out _) _))
  clear hb2
  go_enter Try.func3, Try.ntmps3
  go_wp2_with (go_at_call 11; refine (redlineref11_Copy.calls k _ _ _ _ _ HC2.out (Nat.le_refl _) HCP.out).mono ?_; rintro e w1 ⟨v1, rfl, hS1, hB1⟩; obtain ⟨A1, c1, hv1, hcl1, hrd1⟩ := Kd.R_reads (Kd.S_R hS1); subst hv1; obtain ⟨ad, A4, c4, e1, y0, y1, y2, y3, y4, y5, y6⟩ := at_T24 hrd1 0 (by omega) (by simp); subst e1; rw [show rd_T24 [(⟨a, b, c, d, l⟩ : S24)] 0 = ⟨a, b, c, d, l⟩ from rfl] at y0 y1 y2 y3 y4 y5 y6; simp only [Int.toNat_zero, Nat.zero_mul, add0] at y0 y1 y2 y3 y4; have HB1 := Aside0.mk hB1; have HL4 := Aside0.mk y5; have HO4 := Aside0.mk y6; clear hS1 hB1 hcl1 hrd1 y5 y6)
  have hst : CkSt w (w1.alloc (.cells #[.int .i64 a, .int .i64 b, .int .i64 c, .int .i64 d, .slice A4 l.length c4] 24)) w.heap.size w1.heap.size a b c d A c0 A4 c4 l :=
    ⟨blk_alloc (blk_below (blk_alloc (blk_new w (.cells #[.int .i64 a, .int .i64 b, .int .i64 c, .int .i64 d, .slice A l.length c0] 24)) _) HB1.out) _, blk_new w1 _, Kd.C_alloc (Kd.C_below (Kd.C_alloc (Kd.C_alloc HR.out _) _) HB1.out) _, Kd.C_alloc HO4.out _, HC.out, HL4.out,
      (((((Below.refl _ w).alloc (Nat.le_refl _) _).alloc (by simp) _).trans (HB1.out.mono (by simp; omega))).alloc (by have := HB1.out.size; simp at this; omega) _)⟩
  generalize w1.alloc (.cells #[.int .i64 a, .int .i64 b, .int .i64 c, .int .i64 d, .slice A4 l.length c4] 24) = W2 at hst ⊢
  generalize w1.heap.size = g3 at hst ⊢
  obtain ⟨g1, hg1⟩ : ∃ g1, w.heap.size = g1 := ⟨_, rfl⟩
  rw [hg1]
  replace hst : CkSt w W2 g1 g3 a b c d A c0 A4 c4 l := by rw [hg1] at hst; exact hst
  have HG1 := Lib.hid hg1
  have ST := Aside0.mk hst
  clear hst hg1 HB1 HL4 HO4 HC2 y0 y1 y2 y3 y4
  have y0 : W2.cell? ⟨g1, 0, none⟩ = some (.int .i64 a) := (blk_cell ST.out.b1 0).trans rfl
  have y1 : W2.cell? ⟨g1, 1, none⟩ = some (.int .i64 b) := (blk_cell ST.out.b1 1).trans rfl
  have y2 : W2.cell? ⟨g1, 2, none⟩ = some (.int .i64 c) := (blk_cell ST.out.b1 2).trans rfl
  have y3 : W2.cell? ⟨g1, 3, none⟩ = some (.int .i64 d) := (blk_cell ST.out.b1 3).trans rfl
  have y4 : W2.cell? ⟨g1, 4, none⟩ = some (.slice A l.length c0) := (blk_cell ST.out.b1 4).trans rfl
  have y0 : W2.cell? ⟨g1, 0, none⟩ = some (.int .i64 a) := (blk_cell ST.out.b1 0).trans rfl
  have y1 : W2.cell? ⟨g1, 1, none⟩ = some (.int .i64 b) := (blk_cell ST.out.b1 1).trans rfl
  have y2 : W2.cell? ⟨g1, 2, none⟩ = some (.int .i64 c) := (blk_cell ST.out.b1 2).trans rfl
  have y3 : W2.cell? ⟨g1, 3, none⟩ = some (.int .i64 d) := (blk_cell ST.out.b1 3).trans rfl
  have y4 : W2.cell? ⟨g1, 4, none⟩ = some (.slice A l.length c0) := (blk_cell ST.out.b1 4).trans rfl
  have y0 : W2.cell? ⟨g1, 0, none⟩ = some (.int .i64 a) := (blk_cell ST.out.b1 0).trans rfl
  have y1 : W2.cell? ⟨g1, 1, none⟩ = some (.int .i64 b) := (blk_cell ST.out.b1 1).trans rfl
  have y2 : W2.cell? ⟨g1, 2, none⟩ = some (.int .i64 c) := (blk_cell ST.out.b1 2).trans rfl
  have y3 : W2.cell? ⟨g1, 3, none⟩ = some (.int .i64 d) := (blk_cell ST.out.b1 3).trans rfl
  have y4 : W2.cell? ⟨g1, 4, none⟩ = some (.slice A l.length c0) := (blk_cell ST.out.b1 4).trans rfl
  have z0 : W2.cell? ⟨g3, 0, none⟩ = some (.int .i64 a) := (blk_cell ST.out.b3 0).trans rfl
  have z1 : W2.cell? ⟨g3, 1, none⟩ = some (.int .i64 b) := (blk_cell ST.out.b3 1).trans rfl
  have z2 : W2.cell? ⟨g3, 2, none⟩ = some (.int .i64 c) := (blk_cell ST.out.b3 2).trans rfl
  have z3 : W2.cell? ⟨g3, 3, none⟩ = some (.int .i64 d) := (blk_cell ST.out.b3 3).trans rfl
  have z4 : W2.cell? ⟨g3, 4, none⟩ = some (.slice A4 l.length c4) := (blk_cell ST.out.b3 4).trans rfl
  have STd : Aside0 (CkSt w W2.drew g1 g3 a b c d A c0 A4 c4 l) := ⟨ST.out.drewN 1⟩
  have TK1 := True.intro
  have TK2 := True.intro
  go_region_held3 (fun w' => w'.cell? ⟨g1, 0, none⟩ = some (.int .i64 a) ∧ w'.cell? ⟨g1, 1, none⟩ = some (.int .i64 b) ∧ w'.cell? ⟨g1, 2, none⟩ = some (.int .i64 c) ∧ w'.cell? ⟨g1, 3, none⟩ = some (.int .i64 d) ∧ w'.cell? ⟨g1, 4, none⟩ = some (.slice A l.length c0) ∧ w'.cell? ⟨g3, 0, none⟩ = some (.int .i64 a) ∧ w'.cell? ⟨g3, 1, none⟩ = some (.int .i64 b) ∧ w'.cell? ⟨g3, 2, none⟩ = some (.int .i64 c) ∧ w'.cell? ⟨g3, 3, none⟩ = some (.int .i64 d) ∧ w'.cell? ⟨g3, 4, none⟩ = some (.slice A4 l.length c4))
    (first | go_keep)
    (first
      | (go_at_call 12; refine (hunks_Old.calls k a b c d A4 c4 l t1 _ STd.out.cO STd.out.hO HOL.out).mono ?_; rintro e w3 ⟨v2, rfl, hR2, hB2⟩; obtain ⟨A2, c2, hv2, hc2, hrd2⟩ := Kd.R_reads hR2; subst hv2; have ST3 := Aside0.mk (STd.out.below hB2); have HT1 := Aside0.mk hrd2; have HT1c := Aside0.mk hc2; clear y0 y1 y2 y3 y4 z0 z1 z2 z3 z4; clear hR2 hB2 hrd2 hc2; have y0 : w3.cell? ⟨g1, 0, none⟩ = some (.int .i64 a) := (blk_cell ST3.out.b1 0).trans rfl; have y1 : w3.cell? ⟨g1, 1, none⟩ = some (.int .i64 b) := (blk_cell ST3.out.b1 1).trans rfl; have y2 : w3.cell? ⟨g1, 2, none⟩ = some (.int .i64 c) := (blk_cell ST3.out.b1 2).trans rfl; have y3 : w3.cell? ⟨g1, 3, none⟩ = some (.int .i64 d) := (blk_cell ST3.out.b1 3).trans rfl; have y4 : w3.cell? ⟨g1, 4, none⟩ = some (.slice A l.length c0) := (blk_cell ST3.out.b1 4).trans rfl; have z0 : w3.cell? ⟨g3, 0, none⟩ = some (.int .i64 a) := (blk_cell ST3.out.b3 0).trans rfl; have z1 : w3.cell? ⟨g3, 1, none⟩ = some (.int .i64 b) := (blk_cell ST3.out.b3 1).trans rfl; have z2 : w3.cell? ⟨g3, 2, none⟩ = some (.int .i64 c) := (blk_cell ST3.out.b3 2).trans rfl; have z3 : w3.cell? ⟨g3, 3, none⟩ = some (.int .i64 d) := (blk_cell ST3.out.b3 3).trans rfl; have z4 : w3.cell? ⟨g3, 4, none⟩ = some (.slice A4 l.length c4) := (blk_cell ST3.out.b3 4).trans rfl)
      | (go_at_call 13; refine (hunks_New.calls k a b c d A4 c4 l t2 _ ST3.out.cO ST3.out.hO HNW.out).mono ?_; rintro e w4 ⟨v3, rfl, hR3, hB3⟩; obtain ⟨A3, c3, hv3, hc3, hrd3⟩ := Kd.R_reads hR3; subst hv3; have ST4 := Aside0.mk (ST3.out.below hB3); have HT2 := Aside0.mk hrd3; have HT2c := Aside0.mk hc3; have HT1b := Aside0.mk (Kd.C_below HT1.out hB3); clear y0 y1 y2 y3 y4 z0 z1 z2 z3 z4; clear hR3 hB3 hrd3 hc3 HT1 ST3; have y0 : w4.cell? ⟨g1, 0, none⟩ = some (.int .i64 a) := (blk_cell ST4.out.b1 0).trans rfl; have y1 : w4.cell? ⟨g1, 1, none⟩ = some (.int .i64 b) := (blk_cell ST4.out.b1 1).trans rfl; have y2 : w4.cell? ⟨g1, 2, none⟩ = some (.int .i64 c) := (blk_cell ST4.out.b1 2).trans rfl; have y3 : w4.cell? ⟨g1, 3, none⟩ = some (.int .i64 d) := (blk_cell ST4.out.b1 3).trans rfl; have y4 : w4.cell? ⟨g1, 4, none⟩ = some (.slice A l.length c0) := (blk_cell ST4.out.b1 4).trans rfl; have z0 : w4.cell? ⟨g3, 0, none⟩ = some (.int .i64 a) := (blk_cell ST4.out.b3 0).trans rfl; have z1 : w4.cell? ⟨g3, 1, none⟩ = some (.int .i64 b) := (blk_cell ST4.out.b3 1).trans rfl; have z2 : w4.cell? ⟨g3, 2, none⟩ = some (.int .i64 c) := (blk_cell ST4.out.b3 2).trans rfl; have z3 : w4.cell? ⟨g3, 3, none⟩ = some (.int .i64 d) := (blk_cell ST4.out.b3 3).trans rfl; have z4 : w4.cell? ⟨g3, 4, none⟩ = some (.slice A4 l.length c4) := (blk_cell ST4.out.b3 4).trans rfl))
  clear STd ST
  go_upto_region 3 with fail
  have STd : Aside0 (CkSt w w4.drew g1 g3 a b c d A c0 A4 c4 l) := ⟨ST4.out.drewN 1⟩
  have HT1 : Aside0 (Kd.C Kd.string w4.drew A2 t1.length t1) := ⟨Kd.C_below HT1b.out (pw_below_drewN (Below.refl _ _) 1)⟩
  have HT2d : Aside0 (Kd.C Kd.string w4.drew A3 t2.length t2) := ⟨Kd.C_below HT2.out (pw_below_drewN (Below.refl _ _) 1)⟩
  clear ST4 HT1b HT2
  go_region_held3 (fun w' => w'.cell? ⟨g1, 0, none⟩ = some (.int .i64 a) ∧ w'.cell? ⟨g1, 1, none⟩ = some (.int .i64 b) ∧ w'.cell? ⟨g1, 2, none⟩ = some (.int .i64 c) ∧ w'.cell? ⟨g1, 3, none⟩ = some (.int .i64 d) ∧ w'.cell? ⟨g1, 4, none⟩ = some (.slice A l.length c0) ∧ w'.cell? ⟨g3, 0, none⟩ = some (.int .i64 a) ∧ w'.cell? ⟨g3, 1, none⟩ = some (.int .i64 b) ∧ w'.cell? ⟨g3, 2, none⟩ = some (.int .i64 c) ∧ w'.cell? ⟨g3, 3, none⟩ = some (.int .i64 d) ∧ w'.cell? ⟨g3, 4, none⟩ = some (.slice A4 l.length c4))
    (first | go_keep)
    (first
      | (go_at_call 14; refine (hunks_Check.calls k a b c d A4 c4 l e _ STd.out.cO STd.out.hO HCK.out).mono ?_; rintro e' w5 ⟨rfl, hB⟩; have ST5 := Aside0.mk (STd.out.below hB); have HT1e := Aside0.mk (Kd.C_below HT1.out hB); have HT2e := Aside0.mk (Kd.C_below HT2d.out hB); clear y0 y1 y2 y3 y4 z0 z1 z2 z3 z4; clear hB STd HT1 HT2d; have y0 : w5.cell? ⟨g1, 0, none⟩ = some (.int .i64 a) := (blk_cell ST5.out.b1 0).trans rfl; have y1 : w5.cell? ⟨g1, 1, none⟩ = some (.int .i64 b) := (blk_cell ST5.out.b1 1).trans rfl; have y2 : w5.cell? ⟨g1, 2, none⟩ = some (.int .i64 c) := (blk_cell ST5.out.b1 2).trans rfl; have y3 : w5.cell? ⟨g1, 3, none⟩ = some (.int .i64 d) := (blk_cell ST5.out.b1 3).trans rfl; have y4 : w5.cell? ⟨g1, 4, none⟩ = some (.slice A l.length c0) := (blk_cell ST5.out.b1 4).trans rfl; have z0 : w5.cell? ⟨g3, 0, none⟩ = some (.int .i64 a) := (blk_cell ST5.out.b3 0).trans rfl; have z1 : w5.cell? ⟨g3, 1, none⟩ = some (.int .i64 b) := (blk_cell ST5.out.b3 1).trans rfl; have z2 : w5.cell? ⟨g3, 2, none⟩ = some (.int .i64 c) := (blk_cell ST5.out.b3 2).trans rfl; have z3 : w5.cell? ⟨g3, 3, none⟩ = some (.int .i64 d) := (blk_cell ST5.out.b3 3).trans rfl; have z4 : w5.cell? ⟨g3, 4, none⟩ = some (.slice A4 l.length c4) := (blk_cell ST5.out.b3 4).trans rfl)
      | (go_at_call 15; refine (redlineref11_Check.calls k a b c d A c0 l e _ ST5.out.cA ST5.out.hA HRC.out).mono ?_; rintro e' w6 ⟨rfl, hB⟩; have ST6 := Aside0.mk (ST5.out.below hB); have HT1f := Aside0.mk (Kd.C_below HT1e.out hB); have HT2f := Aside0.mk (Kd.C_below HT2e.out hB); clear y0 y1 y2 y3 y4 z0 z1 z2 z3 z4; clear hB ST5 HT1e HT2e; have y0 : w6.cell? ⟨g1, 0, none⟩ = some (.int .i64 a) := (blk_cell ST6.out.b1 0).trans rfl; have y1 : w6.cell? ⟨g1, 1, none⟩ = some (.int .i64 b) := (blk_cell ST6.out.b1 1).trans rfl; have y2 : w6.cell? ⟨g1, 2, none⟩ = some (.int .i64 c) := (blk_cell ST6.out.b1 2).trans rfl; have y3 : w6.cell? ⟨g1, 3, none⟩ = some (.int .i64 d) := (blk_cell ST6.out.b1 3).trans rfl; have y4 : w6.cell? ⟨g1, 4, none⟩ = some (.slice A l.length c0) := (blk_cell ST6.out.b1 4).trans rfl; have z0 : w6.cell? ⟨g3, 0, none⟩ = some (.int .i64 a) := (blk_cell ST6.out.b3 0).trans rfl; have z1 : w6.cell? ⟨g3, 1, none⟩ = some (.int .i64 b) := (blk_cell ST6.out.b3 1).trans rfl; have z2 : w6.cell? ⟨g3, 2, none⟩ = some (.int .i64 c) := (blk_cell ST6.out.b3 2).trans rfl; have z3 : w6.cell? ⟨g3, 3, none⟩ = some (.int .i64 d) := (blk_cell ST6.out.b3 3).trans rfl; have z4 : w6.cell? ⟨g3, 4, none⟩ = some (.slice A4 l.length c4) := (blk_cell ST6.out.b3 4).trans rfl)
      | (go_at_call 17; refine (redlineref11_Old.calls k a b c d A c0 l t1 _ ST6.out.cA ST6.out.hA HRO.out).mono ?_; rintro e' w7 ⟨v4, rfl, hR4, hB⟩; obtain ⟨A5, c5, hv4, hc5, hrd5⟩ := Kd.R_reads hR4; subst hv4; have ST7 := Aside0.mk (ST6.out.below hB); have HT1g := Aside0.mk (Kd.C_below HT1f.out hB); have HT2g := Aside0.mk (Kd.C_below HT2f.out hB); have HU1 := Aside0.mk hrd5; have HU1c := Aside0.mk hc5; clear y0 y1 y2 y3 y4 z0 z1 z2 z3 z4; clear hR4 hB hrd5 hc5 ST6 HT1f HT2f; have y0 : w7.cell? ⟨g1, 0, none⟩ = some (.int .i64 a) := (blk_cell ST7.out.b1 0).trans rfl; have y1 : w7.cell? ⟨g1, 1, none⟩ = some (.int .i64 b) := (blk_cell ST7.out.b1 1).trans rfl; have y2 : w7.cell? ⟨g1, 2, none⟩ = some (.int .i64 c) := (blk_cell ST7.out.b1 2).trans rfl; have y3 : w7.cell? ⟨g1, 3, none⟩ = some (.int .i64 d) := (blk_cell ST7.out.b1 3).trans rfl; have y4 : w7.cell? ⟨g1, 4, none⟩ = some (.slice A l.length c0) := (blk_cell ST7.out.b1 4).trans rfl; have z0 : w7.cell? ⟨g3, 0, none⟩ = some (.int .i64 a) := (blk_cell ST7.out.b3 0).trans rfl; have z1 : w7.cell? ⟨g3, 1, none⟩ = some (.int .i64 b) := (blk_cell ST7.out.b3 1).trans rfl; have z2 : w7.cell? ⟨g3, 2, none⟩ = some (.int .i64 c) := (blk_cell ST7.out.b3 2).trans rfl; have z3 : w7.cell? ⟨g3, 3, none⟩ = some (.int .i64 d) := (blk_cell ST7.out.b3 3).trans rfl; have z4 : w7.cell? ⟨g3, 4, none⟩ = some (.slice A4 l.length c4) := (blk_cell ST7.out.b3 4).trans rfl)
      | (go_at_call 16; have t_ := TK1; clear TK1; refine (redlineref01_SameStrings.calls k _ _ _ _ _ _ true _ HT1g.out HT1c.out HU1.out HU1c.out HS1.out).mono ?_; rintro e' w' ⟨rfl, ⟨nd, rfl⟩⟩; have ST8 := Aside0.mk (ST7.out.drewN nd); have HT2h := Aside0.mk (Kd.C_below HT2g.out (pw_below_drewN (Below.refl _ _) nd)); clear y0 y1 y2 y3 y4 z0 z1 z2 z3 z4; clear ST7 HT1g HT2g; have y0 : (w7.drewN nd).cell? ⟨g1, 0, none⟩ = some (.int .i64 a) := (blk_cell ST8.out.b1 0).trans rfl; have y1 : (w7.drewN nd).cell? ⟨g1, 1, none⟩ = some (.int .i64 b) := (blk_cell ST8.out.b1 1).trans rfl; have y2 : (w7.drewN nd).cell? ⟨g1, 2, none⟩ = some (.int .i64 c) := (blk_cell ST8.out.b1 2).trans rfl; have y3 : (w7.drewN nd).cell? ⟨g1, 3, none⟩ = some (.int .i64 d) := (blk_cell ST8.out.b1 3).trans rfl; have y4 : (w7.drewN nd).cell? ⟨g1, 4, none⟩ = some (.slice A l.length c0) := (blk_cell ST8.out.b1 4).trans rfl; have z0 : (w7.drewN nd).cell? ⟨g3, 0, none⟩ = some (.int .i64 a) := (blk_cell ST8.out.b3 0).trans rfl; have z1 : (w7.drewN nd).cell? ⟨g3, 1, none⟩ = some (.int .i64 b) := (blk_cell ST8.out.b3 1).trans rfl; have z2 : (w7.drewN nd).cell? ⟨g3, 2, none⟩ = some (.int .i64 c) := (blk_cell ST8.out.b3 2).trans rfl; have z3 : (w7.drewN nd).cell? ⟨g3, 3, none⟩ = some (.int .i64 d) := (blk_cell ST8.out.b3 3).trans rfl; have z4 : (w7.drewN nd).cell? ⟨g3, 4, none⟩ = some (.slice A4 l.length c4) := (blk_cell ST8.out.b3 4).trans rfl)
      | (go_at_call 18; refine (redlineref11_New.calls k a b c d A c0 l t2 _ ST8.out.cA ST8.out.hA HRN.out).mono ?_; rintro e' w9 ⟨v6, rfl, hR6, hB⟩; obtain ⟨A7, c7, hv6, hc7, hrd7⟩ := Kd.R_reads hR6; subst hv6; have ST9 := Aside0.mk (ST8.out.below hB); have HT2i := Aside0.mk (Kd.C_below HT2h.out hB); have HU2 := Aside0.mk hrd7; have HU2c := Aside0.mk hc7; clear y0 y1 y2 y3 y4 z0 z1 z2 z3 z4; clear hR6 hB hrd7 hc7 ST8 HT2h; have y0 : w9.cell? ⟨g1, 0, none⟩ = some (.int .i64 a) := (blk_cell ST9.out.b1 0).trans rfl; have y1 : w9.cell? ⟨g1, 1, none⟩ = some (.int .i64 b) := (blk_cell ST9.out.b1 1).trans rfl; have y2 : w9.cell? ⟨g1, 2, none⟩ = some (.int .i64 c) := (blk_cell ST9.out.b1 2).trans rfl; have y3 : w9.cell? ⟨g1, 3, none⟩ = some (.int .i64 d) := (blk_cell ST9.out.b1 3).trans rfl; have y4 : w9.cell? ⟨g1, 4, none⟩ = some (.slice A l.length c0) := (blk_cell ST9.out.b1 4).trans rfl; have z0 : w9.cell? ⟨g3, 0, none⟩ = some (.int .i64 a) := (blk_cell ST9.out.b3 0).trans rfl; have z1 : w9.cell? ⟨g3, 1, none⟩ = some (.int .i64 b) := (blk_cell ST9.out.b3 1).trans rfl; have z2 : w9.cell? ⟨g3, 2, none⟩ = some (.int .i64 c) := (blk_cell ST9.out.b3 2).trans rfl; have z3 : w9.cell? ⟨g3, 3, none⟩ = some (.int .i64 d) := (blk_cell ST9.out.b3 3).trans rfl; have z4 : w9.cell? ⟨g3, 4, none⟩ = some (.slice A4 l.length c4) := (blk_cell ST9.out.b3 4).trans rfl)
      | (go_at_call 16; have t_ := TK2; clear TK2; refine (redlineref01_SameStrings.calls k _ _ _ _ _ _ true _ HT2i.out HT2c.out HU2.out HU2c.out HS2.out).mono ?_; rintro e' w' ⟨rfl, ⟨nd2, rfl⟩⟩; have ST10 := Aside0.mk (ST9.out.drewN nd2); clear y0 y1 y2 y3 y4 z0 z1 z2 z3 z4; clear ST9 HT2i; have y0 : (w9.drewN nd2).cell? ⟨g1, 0, none⟩ = some (.int .i64 a) := (blk_cell ST10.out.b1 0).trans rfl; have y1 : (w9.drewN nd2).cell? ⟨g1, 1, none⟩ = some (.int .i64 b) := (blk_cell ST10.out.b1 1).trans rfl; have y2 : (w9.drewN nd2).cell? ⟨g1, 2, none⟩ = some (.int .i64 c) := (blk_cell ST10.out.b1 2).trans rfl; have y3 : (w9.drewN nd2).cell? ⟨g1, 3, none⟩ = some (.int .i64 d) := (blk_cell ST10.out.b1 3).trans rfl; have y4 : (w9.drewN nd2).cell? ⟨g1, 4, none⟩ = some (.slice A l.length c0) := (blk_cell ST10.out.b1 4).trans rfl; have z0 : (w9.drewN nd2).cell? ⟨g3, 0, none⟩ = some (.int .i64 a) := (blk_cell ST10.out.b3 0).trans rfl; have z1 : (w9.drewN nd2).cell? ⟨g3, 1, none⟩ = some (.int .i64 b) := (blk_cell ST10.out.b3 1).trans rfl; have z2 : (w9.drewN nd2).cell? ⟨g3, 2, none⟩ = some (.int .i64 c) := (blk_cell ST10.out.b3 2).trans rfl; have z3 : (w9.drewN nd2).cell? ⟨g3, 3, none⟩ = some (.int .i64 d) := (blk_cell ST10.out.b3 3).trans rfl; have z4 : (w9.drewN nd2).cell? ⟨g3, 4, none⟩ = some (.slice A4 l.length c4) := (blk_cell ST10.out.b3 4).trans rfl))
  generalize w9.drewN nd2 = W10 at ST10 y0 y1 y2 y3 y4 z0 z1 z2 z3 z4 ⊢
  go_wp2_with (go_at_call 19; refine (hunks_Invert.calls a b c d A4 c4 l c d a b xl _ ST10.out.cO ST10.out.hO HIN.out).mono ?_; rintro e' w11 ⟨v7, rfl, hR7, hB⟩; obtain ⟨A8, c8, hv7, hc8, hrd8⟩ := Kd.R_reads hR7; subst hv7; have HR7 := Aside0.mk hR7; have HB11 := Aside0.mk hB; have HC8 := Aside0.mk hc8; clear hR7 hB hc8 hrd8)
  have HRX : Aside0 (Kd.R k35 35 (w11.alloc (.cells #[.int .i64 c, .int .i64 d, .int .i64 a, .int .i64 b, .slice A8 xl.length c8] 24)) W10.heap.size (fun _ => True) (.slice A8 xl.length c8) xl) := ⟨Kd.R_alloc HR7.out _⟩
  have HBX : Aside0 (Below W10.heap.size W10 (w11.alloc (.cells #[.int .i64 c, .int .i64 d, .int .i64 a, .int .i64 b, .slice A8 xl.length c8] 24))) := ⟨HB11.out.alloc HB11.out.size _⟩
  have BX : Aside0 ((w11.alloc (.cells #[.int .i64 c, .int .i64 d, .int .i64 a, .int .i64 b, .slice A8 xl.length c8] 24)).heap[w11.heap.size]? = some (.cells #[.int .i64 c, .int .i64 d, .int .i64 a, .int .i64 b, .slice A8 xl.length c8] 24 (0, 0))) := ⟨blk_new w11 _⟩
  clear HR7 HB11
  generalize w11.alloc (.cells #[.int .i64 c, .int .i64 d, .int .i64 a, .int .i64 b, .slice A8 xl.length c8] 24) = W12 at HRX HBX BX ⊢
  generalize w11.heap.size = gx at BX ⊢
  clear y0 y1 y2 y3 y4 z0 z1 z2 z3 z4
  have ST12 : Aside0 (CkSt w W12.drew g1 g3 a b c d A c0 A4 c4 l) := ⟨(ST10.out.below HBX.out).drewN 1⟩
  have BXd : Aside0 (W12.drew.heap[gx]? = some (.cells #[.int .i64 c, .int .i64 d, .int .i64 a, .int .i64 b, .slice A8 xl.length c8] 24 (0, 0))) := ⟨BX.out⟩
  have HRXd : Aside0 (Kd.R k35 35 W12.drew W10.heap.size (fun _ => True) (.slice A8 xl.length c8) xl) := ⟨Kd.R_drew HRX.out⟩
  have HBXd : Aside0 (Below W10.heap.size W10 W12.drew) := ⟨below_drew1 HBX.out⟩
  have BQ : Aside0 (W12.heap[g1]? = some (.cells #[.int .i64 a, .int .i64 b, .int .i64 c, .int .i64 d, .slice A l.length c0] 24 (0, 0))) := ⟨(ST10.out.below HBX.out).b1⟩
  have y0 : W12.cell? ⟨g1, 0, none⟩ = some (.int .i64 a) := (blk_cell BQ.out 0).trans rfl
  have y1 : W12.cell? ⟨g1, 1, none⟩ = some (.int .i64 b) := (blk_cell BQ.out 1).trans rfl
  have y2 : W12.cell? ⟨g1, 2, none⟩ = some (.int .i64 c) := (blk_cell BQ.out 2).trans rfl
  have y3 : W12.cell? ⟨g1, 3, none⟩ = some (.int .i64 d) := (blk_cell BQ.out 3).trans rfl
  have y4 : W12.cell? ⟨g1, 4, none⟩ = some (.slice A l.length c0) := (blk_cell BQ.out 4).trans rfl
  have x0 : W12.cell? ⟨gx, 0, none⟩ = some (.int .i64 c) := (blk_cell BX.out 0).trans rfl
  have x1 : W12.cell? ⟨gx, 1, none⟩ = some (.int .i64 d) := (blk_cell BX.out 1).trans rfl
  have x2 : W12.cell? ⟨gx, 2, none⟩ = some (.int .i64 a) := (blk_cell BX.out 2).trans rfl
  have x3 : W12.cell? ⟨gx, 3, none⟩ = some (.int .i64 b) := (blk_cell BX.out 3).trans rfl
  have x4 : W12.cell? ⟨gx, 4, none⟩ = some (.slice A8 xl.length c8) := (blk_cell BX.out 4).trans rfl
  clear HRX HBX BX BQ
  go_region_held3 (fun w' => w'.cell? ⟨g1, 0, none⟩ = some (.int .i64 a) ∧ w'.cell? ⟨g1, 1, none⟩ = some (.int .i64 b) ∧ w'.cell? ⟨g1, 2, none⟩ = some (.int .i64 c) ∧ w'.cell? ⟨g1, 3, none⟩ = some (.int .i64 d) ∧ w'.cell? ⟨g1, 4, none⟩ = some (.slice A l.length c0) ∧ w'.cell? ⟨gx, 0, none⟩ = some (.int .i64 c) ∧ w'.cell? ⟨gx, 1, none⟩ = some (.int .i64 d) ∧ w'.cell? ⟨gx, 2, none⟩ = some (.int .i64 a) ∧ w'.cell? ⟨gx, 3, none⟩ = some (.int .i64 b) ∧ w'.cell? ⟨gx, 4, none⟩ = some (.slice A8 xl.length c8))
    (first | go_keep)
    (first
      | (go_at_call 21; refine (redlineref11_Invert.calls k a b c d A c0 l c d a b xl _ ST12.out.cA ST12.out.hA HRI.out).mono ?_; rintro e' w13 ⟨v8, rfl, hR8, hB⟩; obtain ⟨A9, c9, hv8, hc9, hrd9⟩ := Kd.R_reads hR8; subst hv8; have HX9 := Aside0.mk hrd9; have HX9c := Aside0.mk hc9; have ST13 := Aside0.mk (ST12.out.below hB); have BX3 := Aside0.mk (blk_below BXd.out hB); have HRX3 := Aside0.mk (Kd.R_below HRXd.out hB); have HBX3 := Aside0.mk (HBXd.out.trans (hB.mono HBXd.out.size)); clear y0 y1 y2 y3 y4 x0 x1 x2 x3 x4; clear hR8 hB hrd9 hc9 ST12 BXd HRXd HBXd; have y0 : w13.cell? ⟨g1, 0, none⟩ = some (.int .i64 a) := (blk_cell ST13.out.b1 0).trans rfl; have y1 : w13.cell? ⟨g1, 1, none⟩ = some (.int .i64 b) := (blk_cell ST13.out.b1 1).trans rfl; have y2 : w13.cell? ⟨g1, 2, none⟩ = some (.int .i64 c) := (blk_cell ST13.out.b1 2).trans rfl; have y3 : w13.cell? ⟨g1, 3, none⟩ = some (.int .i64 d) := (blk_cell ST13.out.b1 3).trans rfl; have y4 : w13.cell? ⟨g1, 4, none⟩ = some (.slice A l.length c0) := (blk_cell ST13.out.b1 4).trans rfl; have x0 : w13.cell? ⟨gx, 0, none⟩ = some (.int .i64 c) := (blk_cell BX3.out 0).trans rfl; have x1 : w13.cell? ⟨gx, 1, none⟩ = some (.int .i64 d) := (blk_cell BX3.out 1).trans rfl; have x2 : w13.cell? ⟨gx, 2, none⟩ = some (.int .i64 a) := (blk_cell BX3.out 2).trans rfl; have x3 : w13.cell? ⟨gx, 3, none⟩ = some (.int .i64 b) := (blk_cell BX3.out 3).trans rfl; have x4 : w13.cell? ⟨gx, 4, none⟩ = some (.slice A8 xl.length c8) := (blk_cell BX3.out 4).trans rfl)
      | (go_at_call 20; refine (redlineref11_Same.calls k c d a b A8 c8 xl c d a b A9 c9 xl true _ (Kd.R_reads' HRX3.out).2.2 HC8.out HX9.out HX9c.out HM1.out).mono ?_; rintro e' w14 ⟨rfl, hB⟩; have ST14 := Aside0.mk (ST13.out.below hB); have BX4 := Aside0.mk (blk_below BX3.out hB); have HRX4 := Aside0.mk (Kd.R_below HRX3.out hB); have HBX4 := Aside0.mk (HBX3.out.trans (hB.mono HBX3.out.size)); clear y0 y1 y2 y3 y4 x0 x1 x2 x3 x4; clear hB ST13 BX3 HRX3 HBX3; have y0 : w14.cell? ⟨g1, 0, none⟩ = some (.int .i64 a) := (blk_cell ST14.out.b1 0).trans rfl; have y1 : w14.cell? ⟨g1, 1, none⟩ = some (.int .i64 b) := (blk_cell ST14.out.b1 1).trans rfl; have y2 : w14.cell? ⟨g1, 2, none⟩ = some (.int .i64 c) := (blk_cell ST14.out.b1 2).trans rfl; have y3 : w14.cell? ⟨g1, 3, none⟩ = some (.int .i64 d) := (blk_cell ST14.out.b1 3).trans rfl; have y4 : w14.cell? ⟨g1, 4, none⟩ = some (.slice A l.length c0) := (blk_cell ST14.out.b1 4).trans rfl; have x0 : w14.cell? ⟨gx, 0, none⟩ = some (.int .i64 c) := (blk_cell BX4.out 0).trans rfl; have x1 : w14.cell? ⟨gx, 1, none⟩ = some (.int .i64 d) := (blk_cell BX4.out 1).trans rfl; have x2 : w14.cell? ⟨gx, 2, none⟩ = some (.int .i64 a) := (blk_cell BX4.out 2).trans rfl; have x3 : w14.cell? ⟨gx, 3, none⟩ = some (.int .i64 b) := (blk_cell BX4.out 3).trans rfl; have x4 : w14.cell? ⟨gx, 4, none⟩ = some (.slice A8 xl.length c8) := (blk_cell BX4.out 4).trans rfl))
  clear y0 y1 y2 y3 y4 x0 x1 x2 x3 x4
  go_wp2
  have hbig := (Kd.R_reads' HRX4.out).2.2.2.1
  have HRA : Aside0 (RowAt w14 A8 xl.length W10.heap.size) := ⟨rowAt_of HRX4.out⟩
  clear HRX4
  clear ST14
  go_loopw [7] (fun v7 wr => ∃ i : Int, 0 ≤ i ∧ i ≤ xl.length ∧ v7 = .int .i64 i ∧ Aside0 (Below W10.heap.size W10 wr) ∧ Aside0 (wr.heap[gx]? = some (.cells #[.int .i64 c, .int .i64 d, .int .i64 a, .int .i64 b, .slice A8 xl.length c8] 24 (0, 0))) ∧ Aside0 (RowAt wr A8 xl.length W10.heap.size)) (fun v7 _ => xl.length - (intOf v7).toNat)
  case atStart => exact ⟨0, by omega, by omega, rfl, HBX4, BX4, HRA⟩
  case round =>
    obtain ⟨i, h0, h1, rfl, HB, BX, HRW⟩ := hrel
    by_cases hlt : i < xl.length
    · obtain ⟨gr, cur, hA8, hgr, hcur, hsz⟩ := HRW.out (by omega)
      subst hA8
      have x4 : wr.cell? ⟨gx, 4, none⟩ = some (.slice (some ⟨gr, 0, none⟩) xl.length c8) := (blk_cell BX.out 4).trans rfl
      have hlt2 : i.toNat * 2 + 1 < cur.size := by omega
      have r1 : wr.cell? ⟨gr, i.toNat * 2 + 1, none⟩ = some cur[i.toNat * 2 + 1] := by rw [blk_cell hcur]; exact Array.getElem?_eq_getElem hlt2
      have r2 : wr.frozen? ⟨gr, i.toNat * 2 + 1, none⟩ = false := blk_frozen hcur _
      have HCU := Aside0.mk hcur
      have HSZ := Aside0.mk hsz
      generalize cur[i.toNat * 2 + 1] = old at r1
      clear hcur hsz hlt2
      go_wp2
      exact ⟨⟨i + 1, by omega, by omega, rfl, ⟨HB.out.setCell (p := ⟨gr, _, none⟩) hgr _⟩, ⟨blk_far BX.out (blk_ne BX.out HCU.out (by decide)) _⟩, ⟨fun _ => ⟨gr, _, rfl, hgr, blk_put HCU.out _ _ rfl, by rw [Array.size_setIfInBounds]; exact HSZ.out⟩⟩⟩, by simp [intOf]; omega⟩
    · obtain rfl : i = xl.length := by omega
      have ST15 := Aside0.mk (ST10.out.below HB.out)
      have x4 : wr.cell? ⟨gx, 4, none⟩ = some (.slice A8 xl.length c8) := (blk_cell BX.out 4).trans rfl
      have y0 : wr.cell? ⟨g1, 0, none⟩ = some (.int .i64 a) := (blk_cell ST15.out.b1 0).trans rfl
      have z0 : wr.cell? ⟨g3, 0, none⟩ = some (.int .i64 a) := (blk_cell ST15.out.b3 0).trans rfl
      have y1 : wr.cell? ⟨g1, 1, none⟩ = some (.int .i64 b) := (blk_cell ST15.out.b1 1).trans rfl
      have z1 : wr.cell? ⟨g3, 1, none⟩ = some (.int .i64 b) := (blk_cell ST15.out.b3 1).trans rfl
      have y2 : wr.cell? ⟨g1, 2, none⟩ = some (.int .i64 c) := (blk_cell ST15.out.b1 2).trans rfl
      have z2 : wr.cell? ⟨g3, 2, none⟩ = some (.int .i64 c) := (blk_cell ST15.out.b3 2).trans rfl
      have y3 : wr.cell? ⟨g1, 3, none⟩ = some (.int .i64 d) := (blk_cell ST15.out.b1 3).trans rfl
      have z3 : wr.cell? ⟨g3, 3, none⟩ = some (.int .i64 d) := (blk_cell ST15.out.b3 3).trans rfl
      have y4 : wr.cell? ⟨g1, 4, none⟩ = some (.slice A l.length c0) := (blk_cell ST15.out.b1 4).trans rfl
      have z4 : wr.cell? ⟨g3, 4, none⟩ = some (.slice A4 l.length c4) := (blk_cell ST15.out.b3 4).trans rfl
      go_wp2_with (go_at_call 20; refine (redlineref11_Same.calls k a b c d A4 c4 l a b c d A c0 l true _ ST15.out.cO ST15.out.hO ST15.out.cA ST15.out.hA HM2.out).mono ?_; rintro e' w16 ⟨rfl, hB⟩)
      go_ret
      exact ⟨rfl, ST15.out.bel.trans (hB.mono ST15.out.bel.size)⟩
end Go.Proofs.Ytnllemlmgbjjnaa.PA
