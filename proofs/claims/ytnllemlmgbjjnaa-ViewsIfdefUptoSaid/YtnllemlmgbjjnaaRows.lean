/-
  No cell of these rows narrows 'for every input' (looked for: loops, veiled, ifaces, maps, wideKeys, modest, calm, conditions, laid).
  DERIVED. THE GIVEN ROWS OF THIS SEAT. 8 by the template 'for every input the law returns true; each argument reads behind the call as it read before'; 0 by the template 'total and deterministic' (their statements: YtnllemlmgbjjnaaTotals.lean).
  GIVEN WITH THE SEED: the statements are not yours to turn. If you find one false, say at which input.
  Laid BY PROGRAM, IN A SANDBOX (cutbox-rows.mjs): the forced cells as the released guide's own fill.sh prints them over the translation e9dc6ac238aa9219… (all of the seat's roots in one cut). By AI agents, Wed Nov 11 2026. No macro, syntax, notation, axiom, sorry.
-/
import Derived.Test.YtnllemlmgbjjnaaChecked
import GoSem.Claim
import GoSem.ClaimJoined
import GoSem.ClaimMapViews
import Derived.JoinedTies
import Derived.KernelRfl
namespace Go.Proofs.Ytnllemlmgbjjnaa
/- THE CELL 'sum', in the pinned program and in every row, IS THE sha256 OF THE DUMP (.gsa) THAT YtnllemlmgbjjnaaProg.lean LOADS. Nothing in Lean hashes anything: it is a label: what it is worth is what the hold of that sum in a sandbox is worth. -/
noncomputable def Try.pinned : Pinned := { name := "ytnllemlmgbjjnaa", sum := "e9dc6ac238aa92198097dadafb7914e8a0a2c0d205756d136138919f2e262ebd", checked := Try.checked }
namespace Rows
def none {H : Type} : Left H := { results := [], args := [] }

/-- 'redlinelaw11.HunksChecks': WHATEVER THE INPUT: true; the input reads as it did. -/
def hunksChecksSpec : ChangeSpec := { name := "hunksChecks", fn := fun _ => fun
  | [d] => { results := [.lit (.bool true)], args := [d] }
  | _ => none }
def hunksChecksRow : OpenClaim := { program := "ytnllemlmgbjjnaa", sum := "e9dc6ac238aa92198097dadafb7914e8a0a2c0d205756d136138919f2e262ebd", func := "redline/redlinelaw11.HunksChecks", spec := "hunksChecks", inPlace := ["internal/bytealg.IndexByteString"], unfollowed := true, recurses := true, plainKeys := false, apart := false }
def HunksChecksSaid : Prop := hunksChecksRow.holds Try.pinned (OpenSpec.ofChange hunksChecksSpec)

/-- ITS FALSE NEIGHBOUR: 'it returns false'. Refute it at one input. -/
def hunksChecksWrong : ChangeSpec := { name := "hunksChecks", fn := fun _ => fun
  | [d] => { results := [.lit (.bool false)], args := [d] }
  | _ => none }
def HunksChecksWrongFalsely : Prop := hunksChecksRow.holds Try.pinned (OpenSpec.ofChange hunksChecksWrong)

/-- 'redlinelaw17.ViewsIfdef': WHATEVER THE INPUT: true; the input reads as it did. -/
def viewsIfdefSpec : ChangeSpec := { name := "viewsIfdef", fn := fun _ => fun
  | [d1, d2, d3, d4] => { results := [.lit (.bool true)], args := [d1, d2, d3, d4] }
  | _ => none }
def viewsIfdefRow : OpenClaim := { program := "ytnllemlmgbjjnaa", sum := "e9dc6ac238aa92198097dadafb7914e8a0a2c0d205756d136138919f2e262ebd", func := "redline/redlinelaw17.ViewsIfdef", spec := "viewsIfdef", inPlace := ["internal/abi.NoEscape"], unfollowed := true, recurses := true, plainKeys := false, apart := false }
def ViewsIfdefSaid : Prop := viewsIfdefRow.holds Try.pinned (OpenSpec.ofChange viewsIfdefSpec)

/-- ITS FALSE NEIGHBOUR: 'it returns false'. Refute it at one input. -/
def viewsIfdefWrong : ChangeSpec := { name := "viewsIfdef", fn := fun _ => fun
  | [d1, d2, d3, d4] => { results := [.lit (.bool false)], args := [d1, d2, d3, d4] }
  | _ => none }
def ViewsIfdefWrongFalsely : Prop := viewsIfdefRow.holds Try.pinned (OpenSpec.ofChange viewsIfdefWrong)

/-- 'redlinelaw11.HunksOrder': WHATEVER THE INPUT: true; the input reads as it did. -/
def hunksOrderSpec : ChangeSpec := { name := "hunksOrder", fn := fun _ => fun
  | [d] => { results := [.lit (.bool true)], args := [d] }
  | _ => none }
def hunksOrderRow : OpenClaim := { program := "ytnllemlmgbjjnaa", sum := "e9dc6ac238aa92198097dadafb7914e8a0a2c0d205756d136138919f2e262ebd", func := "redline/redlinelaw11.HunksOrder", spec := "hunksOrder", inPlace := ["internal/bytealg.IndexByteString"], unfollowed := true, recurses := true, plainKeys := false, apart := false }
def HunksOrderSaid : Prop := hunksOrderRow.holds Try.pinned (OpenSpec.ofChange hunksOrderSpec)

/-- ITS FALSE NEIGHBOUR: 'it returns false'. Refute it at one input. -/
def hunksOrderWrong : ChangeSpec := { name := "hunksOrder", fn := fun _ => fun
  | [d] => { results := [.lit (.bool false)], args := [d] }
  | _ => none }
def HunksOrderWrongFalsely : Prop := hunksOrderRow.holds Try.pinned (OpenSpec.ofChange hunksOrderWrong)

/-- 'redlinelaw21.SdiffAnswers': WHATEVER THE INPUT: true; the input reads as it did. -/
def sdiffAnswersSpec : ChangeSpec := { name := "sdiffAnswers", fn := fun _ => fun
  | [d1, d2, d3, d4] => { results := [.lit (.bool true)], args := [d1, d2, d3, d4] }
  | _ => none }
def sdiffAnswersRow : OpenClaim := { program := "ytnllemlmgbjjnaa", sum := "e9dc6ac238aa92198097dadafb7914e8a0a2c0d205756d136138919f2e262ebd", func := "redline/redlinelaw21.SdiffAnswers", spec := "sdiffAnswers", inPlace := ["internal/bytealg.IndexByteString"], unfollowed := true, recurses := true, plainKeys := false, apart := false }
def SdiffAnswersSaid : Prop := sdiffAnswersRow.holds Try.pinned (OpenSpec.ofChange sdiffAnswersSpec)

/-- ITS FALSE NEIGHBOUR: 'it returns false'. Refute it at one input. -/
def sdiffAnswersWrong : ChangeSpec := { name := "sdiffAnswers", fn := fun _ => fun
  | [d1, d2, d3, d4] => { results := [.lit (.bool false)], args := [d1, d2, d3, d4] }
  | _ => none }
def SdiffAnswersWrongFalsely : Prop := sdiffAnswersRow.holds Try.pinned (OpenSpec.ofChange sdiffAnswersWrong)

/-- 'redlinelaw19.ApplyStricts': WHATEVER THE INPUT: true; the input reads as it did. -/
def applyStrictsSpec : ChangeSpec := { name := "applyStricts", fn := fun _ => fun
  | [d1, d2] => { results := [.lit (.bool true)], args := [d1, d2] }
  | _ => none }
def applyStrictsRow : OpenClaim := { program := "ytnllemlmgbjjnaa", sum := "e9dc6ac238aa92198097dadafb7914e8a0a2c0d205756d136138919f2e262ebd", func := "redline/redlinelaw19.ApplyStricts", spec := "applyStricts", inPlace := ["internal/bytealg.IndexByteString", "internal/bytealg.IndexString"], unfollowed := true, recurses := true, named := ["internal/bytealg.MaxLen"], plainKeys := false, apart := false }
def ApplyStrictsSaid : Prop := applyStrictsRow.holds Try.pinned (OpenSpec.ofChange applyStrictsSpec)

/-- ITS FALSE NEIGHBOUR: 'it returns false'. Refute it at one input. -/
def applyStrictsWrong : ChangeSpec := { name := "applyStricts", fn := fun _ => fun
  | [d1, d2] => { results := [.lit (.bool false)], args := [d1, d2] }
  | _ => none }
def ApplyStrictsWrongFalsely : Prop := applyStrictsRow.holds Try.pinned (OpenSpec.ofChange applyStrictsWrong)

/-- 'redlinelaw19.ApplyFuzzies': WHATEVER THE INPUT: true; the input reads as it did. -/
def applyFuzziesSpec : ChangeSpec := { name := "applyFuzzies", fn := fun _ => fun
  | [d1, d2, d3, d4] => { results := [.lit (.bool true)], args := [d1, d2, d3, d4] }
  | _ => none }
def applyFuzziesRow : OpenClaim := { program := "ytnllemlmgbjjnaa", sum := "e9dc6ac238aa92198097dadafb7914e8a0a2c0d205756d136138919f2e262ebd", func := "redline/redlinelaw19.ApplyFuzzies", spec := "applyFuzzies", inPlace := ["internal/bytealg.IndexByteString", "internal/bytealg.IndexString"], unfollowed := true, recurses := true, named := ["internal/bytealg.MaxLen"], plainKeys := false, apart := false }
def ApplyFuzziesSaid : Prop := applyFuzziesRow.holds Try.pinned (OpenSpec.ofChange applyFuzziesSpec)

/-- ITS FALSE NEIGHBOUR: 'it returns false'. Refute it at one input. -/
def applyFuzziesWrong : ChangeSpec := { name := "applyFuzzies", fn := fun _ => fun
  | [d1, d2, d3, d4] => { results := [.lit (.bool false)], args := [d1, d2, d3, d4] }
  | _ => none }
def ApplyFuzziesWrongFalsely : Prop := applyFuzziesRow.holds Try.pinned (OpenSpec.ofChange applyFuzziesWrong)

/-- 'redlinelaw19.ApplyAgrees': WHATEVER THE INPUT: true; the input reads as it did. -/
def applyAgreesSpec : ChangeSpec := { name := "applyAgrees", fn := fun _ => fun
  | [d1, d2, d3] => { results := [.lit (.bool true)], args := [d1, d2, d3] }
  | _ => none }
def applyAgreesRow : OpenClaim := { program := "ytnllemlmgbjjnaa", sum := "e9dc6ac238aa92198097dadafb7914e8a0a2c0d205756d136138919f2e262ebd", func := "redline/redlinelaw19.ApplyAgrees", spec := "applyAgrees", inPlace := ["internal/bytealg.IndexByteString", "internal/bytealg.IndexString", "internal/abi.NoEscape", "internal/bytealg.MakeNoZero"], unfollowed := true, recurses := true, named := ["internal/bytealg.MaxLen"], plainKeys := false, apart := false }
def ApplyAgreesSaid : Prop := applyAgreesRow.holds Try.pinned (OpenSpec.ofChange applyAgreesSpec)

/-- ITS FALSE NEIGHBOUR: 'it returns false'. Refute it at one input. -/
def applyAgreesWrong : ChangeSpec := { name := "applyAgrees", fn := fun _ => fun
  | [d1, d2, d3] => { results := [.lit (.bool false)], args := [d1, d2, d3] }
  | _ => none }
def ApplyAgreesWrongFalsely : Prop := applyAgreesRow.holds Try.pinned (OpenSpec.ofChange applyAgreesWrong)

/-- 'redlinelaw19.ApplyCounts': WHATEVER THE INPUT: true; the input reads as it did. -/
def applyCountsSpec : ChangeSpec := { name := "applyCounts", fn := fun _ => fun
  | [d1, d2, d3, d4] => { results := [.lit (.bool true)], args := [d1, d2, d3, d4] }
  | _ => none }
def applyCountsRow : OpenClaim := { program := "ytnllemlmgbjjnaa", sum := "e9dc6ac238aa92198097dadafb7914e8a0a2c0d205756d136138919f2e262ebd", func := "redline/redlinelaw19.ApplyCounts", spec := "applyCounts", inPlace := ["internal/bytealg.IndexByteString", "internal/bytealg.IndexString", "internal/abi.NoEscape", "internal/bytealg.MakeNoZero"], unfollowed := true, recurses := true, named := ["internal/bytealg.MaxLen"], plainKeys := false, apart := false }
def ApplyCountsSaid : Prop := applyCountsRow.holds Try.pinned (OpenSpec.ofChange applyCountsSpec)

/-- ITS FALSE NEIGHBOUR: 'it returns false'. Refute it at one input. -/
def applyCountsWrong : ChangeSpec := { name := "applyCounts", fn := fun _ => fun
  | [d1, d2, d3, d4] => { results := [.lit (.bool false)], args := [d1, d2, d3, d4] }
  | _ => none }
def ApplyCountsWrongFalsely : Prop := applyCountsRow.holds Try.pinned (OpenSpec.ofChange applyCountsWrong)

/- THE SECOND FORM. 'bulk': how many values and letters a reading holds, each counted each time it is reached (what is shared counts as often as it is met; a slice's spare places count too). A statement '..UptoSaid' is the law's where the arguments, and the package variables that the reading takes, are together of bulk at most 1048576: NARROWER than '..Said'. Prove '..Said' where nothing that the law and all that it calls make is longer than what came in: it says more and counts as full. Else prove '..UptoSaid'. A law counts once. -/
mutual
def uptoBulk {H : Type} : DataW H → Nat
  | .lit (.string bytes) => bytes.length + 1
  | .lit _ => 1
  | .nil => 1
  | .ptr d => uptoBulk d + 1
  | .slice elems spare => uptoBulkAll elems + uptoBulkAll spare + 1
  | .agg parts => uptoBulkAll parts + 1
  | .iface _ d => uptoBulk d + 1
  | .map entries => uptoBulkEntries entries + 1
  | .held _ => 1
def uptoBulkAll {H : Type} : List (DataW H) → Nat
  | [] => 0
  | d :: r => uptoBulk d + uptoBulkAll r
def uptoBulkEntries {H : Type} : List (Lit × DataW H) → Nat
  | [] => 0
  | x :: r => uptoBulkEntry x + uptoBulkEntries r
def uptoBulkEntry {H : Type} : Lit × DataW H → Nat
  | (.string bytes, d) => bytes.length + uptoBulk d + 1
  | (_, d) => uptoBulk d + 1
 end
def uptoSmall : (H : Type) → List (DataW H) → Bool := fun _ ds => decide (uptoBulkAll ds ≤ 1048576)
def OpenSpec.upto (s : _root_.Go.ChangeSpec) : _root_.Go.OpenSpec := { _root_.Go.OpenSpec.ofChange s with cond := some uptoSmall }

/-- 'redlinelaw11.HunksChecks', WHERE WHAT IT READS IS OF BULK AT MOST 1048576: true; the input reads as it did. -/
def hunksChecksUptoRow : OpenClaim := { program := "ytnllemlmgbjjnaa", sum := "e9dc6ac238aa92198097dadafb7914e8a0a2c0d205756d136138919f2e262ebd", func := "redline/redlinelaw11.HunksChecks", spec := "hunksChecks", inPlace := ["internal/bytealg.IndexByteString"], unfollowed := true, recurses := true, plainKeys := false, apart := false, narrowed := true }
def HunksChecksUptoSaid : Prop := hunksChecksUptoRow.holds Try.pinned (OpenSpec.upto hunksChecksSpec)

/-- 'redlinelaw17.ViewsIfdef', WHERE WHAT IT READS IS OF BULK AT MOST 1048576: true; the input reads as it did. -/
def viewsIfdefUptoRow : OpenClaim := { program := "ytnllemlmgbjjnaa", sum := "e9dc6ac238aa92198097dadafb7914e8a0a2c0d205756d136138919f2e262ebd", func := "redline/redlinelaw17.ViewsIfdef", spec := "viewsIfdef", inPlace := ["internal/abi.NoEscape"], unfollowed := true, recurses := true, plainKeys := false, apart := false, narrowed := true }
def ViewsIfdefUptoSaid : Prop := viewsIfdefUptoRow.holds Try.pinned (OpenSpec.upto viewsIfdefSpec)

/-- 'redlinelaw11.HunksOrder', WHERE WHAT IT READS IS OF BULK AT MOST 1048576: true; the input reads as it did. -/
def hunksOrderUptoRow : OpenClaim := { program := "ytnllemlmgbjjnaa", sum := "e9dc6ac238aa92198097dadafb7914e8a0a2c0d205756d136138919f2e262ebd", func := "redline/redlinelaw11.HunksOrder", spec := "hunksOrder", inPlace := ["internal/bytealg.IndexByteString"], unfollowed := true, recurses := true, plainKeys := false, apart := false, narrowed := true }
def HunksOrderUptoSaid : Prop := hunksOrderUptoRow.holds Try.pinned (OpenSpec.upto hunksOrderSpec)

/-- 'redlinelaw21.SdiffAnswers', WHERE WHAT IT READS IS OF BULK AT MOST 1048576: true; the input reads as it did. -/
def sdiffAnswersUptoRow : OpenClaim := { program := "ytnllemlmgbjjnaa", sum := "e9dc6ac238aa92198097dadafb7914e8a0a2c0d205756d136138919f2e262ebd", func := "redline/redlinelaw21.SdiffAnswers", spec := "sdiffAnswers", inPlace := ["internal/bytealg.IndexByteString"], unfollowed := true, recurses := true, plainKeys := false, apart := false, narrowed := true }
def SdiffAnswersUptoSaid : Prop := sdiffAnswersUptoRow.holds Try.pinned (OpenSpec.upto sdiffAnswersSpec)

/-- 'redlinelaw19.ApplyStricts', WHERE WHAT IT READS IS OF BULK AT MOST 1048576: true; the input reads as it did. -/
def applyStrictsUptoRow : OpenClaim := { program := "ytnllemlmgbjjnaa", sum := "e9dc6ac238aa92198097dadafb7914e8a0a2c0d205756d136138919f2e262ebd", func := "redline/redlinelaw19.ApplyStricts", spec := "applyStricts", inPlace := ["internal/bytealg.IndexByteString", "internal/bytealg.IndexString"], unfollowed := true, recurses := true, named := ["internal/bytealg.MaxLen"], plainKeys := false, apart := false, narrowed := true }
def ApplyStrictsUptoSaid : Prop := applyStrictsUptoRow.holds Try.pinned (OpenSpec.upto applyStrictsSpec)

/-- 'redlinelaw19.ApplyFuzzies', WHERE WHAT IT READS IS OF BULK AT MOST 1048576: true; the input reads as it did. -/
def applyFuzziesUptoRow : OpenClaim := { program := "ytnllemlmgbjjnaa", sum := "e9dc6ac238aa92198097dadafb7914e8a0a2c0d205756d136138919f2e262ebd", func := "redline/redlinelaw19.ApplyFuzzies", spec := "applyFuzzies", inPlace := ["internal/bytealg.IndexByteString", "internal/bytealg.IndexString"], unfollowed := true, recurses := true, named := ["internal/bytealg.MaxLen"], plainKeys := false, apart := false, narrowed := true }
def ApplyFuzziesUptoSaid : Prop := applyFuzziesUptoRow.holds Try.pinned (OpenSpec.upto applyFuzziesSpec)

/-- 'redlinelaw19.ApplyAgrees', WHERE WHAT IT READS IS OF BULK AT MOST 1048576: true; the input reads as it did. -/
def applyAgreesUptoRow : OpenClaim := { program := "ytnllemlmgbjjnaa", sum := "e9dc6ac238aa92198097dadafb7914e8a0a2c0d205756d136138919f2e262ebd", func := "redline/redlinelaw19.ApplyAgrees", spec := "applyAgrees", inPlace := ["internal/bytealg.IndexByteString", "internal/bytealg.IndexString", "internal/abi.NoEscape", "internal/bytealg.MakeNoZero"], unfollowed := true, recurses := true, named := ["internal/bytealg.MaxLen"], plainKeys := false, apart := false, narrowed := true }
def ApplyAgreesUptoSaid : Prop := applyAgreesUptoRow.holds Try.pinned (OpenSpec.upto applyAgreesSpec)

/-- 'redlinelaw19.ApplyCounts', WHERE WHAT IT READS IS OF BULK AT MOST 1048576: true; the input reads as it did. -/
def applyCountsUptoRow : OpenClaim := { program := "ytnllemlmgbjjnaa", sum := "e9dc6ac238aa92198097dadafb7914e8a0a2c0d205756d136138919f2e262ebd", func := "redline/redlinelaw19.ApplyCounts", spec := "applyCounts", inPlace := ["internal/bytealg.IndexByteString", "internal/bytealg.IndexString", "internal/abi.NoEscape", "internal/bytealg.MakeNoZero"], unfollowed := true, recurses := true, named := ["internal/bytealg.MaxLen"], plainKeys := false, apart := false, narrowed := true }
def ApplyCountsUptoSaid : Prop := applyCountsUptoRow.holds Try.pinned (OpenSpec.upto applyCountsSpec)

end Rows
end Go.Proofs.Ytnllemlmgbjjnaa
