/-
  NARROWER THAN 'FOR EVERY INPUT', by the rows' own cells (each row's printed sentence says how): CastagnoliSums: laid · PageLess: laid · CastagnoliParts: laid · CastagnoliBurst: laid · PageCuts: laid · CastagnoliLinear: laid · CastagnoliCombines: laid · CastagnoliZeros: laid · PageSeals: laid · PageOpens: laid · PageBack: laid · PageTurned: laid.
  DERIVED. THE GIVEN ROWS OF THIS SEAT. 12 by the template 'for every input the law returns true; each argument reads behind the call as it read before'; 0 by the template 'total and deterministic' (their statements: YthkcnkhhaiapfaaDoorTotals.lean).
  GIVEN WITH THE SEED: the statements are not yours to turn. If you find one false, say at which input.
  Laid BY PROGRAM, IN A SANDBOX (cutbox-rows.mjs): the forced cells as the released guide's own fill.sh prints them over the translation cc790fbc541e815c… (all of the seat's roots in one cut). By AI agents, Wed Nov 11 2026. No macro, syntax, notation, axiom, sorry.
-/
import Derived.Test.YthkcnkhhaiapfaaDoorChecked
import GoSem.PinnedTables
import GoSem.Claim
import GoSem.ClaimJoined
import GoSem.ClaimMapViews
import Derived.JoinedTies
import Derived.KernelRfl
namespace Go.Proofs.YthkcnkhhaiapfaaDoor
/- THE CELL 'sum', in the pinned program and in every row, IS THE sha256 OF THE DUMP (.gsa) THAT YthkcnkhhaiapfaaDoorProg.lean LOADS. Nothing in Lean hashes anything: it is a label: what it is worth is what the hold of that sum in a sandbox is worth. -/
noncomputable def Tryd.pinned : Pinned := { name := "ythkcnkhhaiapfaadoor", sum := "cc790fbc541e815cb0fd845e5b6691e03b022f34e875b5391109041cd3b6fe54", checked := Tryd.checked }
namespace Rows
def none {H : Type} : Left H := { results := [], args := [] }

/- WHAT THE LISTED PACKAGE-LEVEL VARIABLES READ AS WHEN THE CALL BEGINS. Each datum BY PROGRAM (the guide's laid-datum.mjs) off the statement by which the dump's own 'gosem.cut.vars' lays the variable. In a bare row this is a premise. The card (YthkcnkhhaiapfaaDoorCards.lean) ties it to the program's text. -/
def laid_aquifer_castagnoli_half {H : Type} : DataW H := .agg [.lit (.int .u32 0), .lit (.int .u32 274646895), .lit (.int .u32 549293790), .lit (.int .u32 820201905), .lit (.int .u32 1098587580), .lit (.int .u32 1361435347), .lit (.int .u32 1640403810), .lit (.int .u32 1905808397), .lit (.int .u32 2197175160), .lit (.int .u32 2460548119), .lit (.int .u32 2722870694), .lit (.int .u32 2987750089), .lit (.int .u32 3280807620), .lit (.int .u32 3553878443), .lit (.int .u32 3811616794), .lit (.int .u32 4084100981)]
def laid_unicode_utf8_acceptRanges {H : Type} : DataW H := .agg [.agg [.lit (.int .u8 128), .lit (.int .u8 191)], .agg [.lit (.int .u8 160), .lit (.int .u8 191)], .agg [.lit (.int .u8 128), .lit (.int .u8 159)], .agg [.lit (.int .u8 144), .lit (.int .u8 191)], .agg [.lit (.int .u8 128), .lit (.int .u8 143)], .agg [.lit (.int .u8 0), .lit (.int .u8 0)], .agg [.lit (.int .u8 0), .lit (.int .u8 0)], .agg [.lit (.int .u8 0), .lit (.int .u8 0)], .agg [.lit (.int .u8 0), .lit (.int .u8 0)], .agg [.lit (.int .u8 0), .lit (.int .u8 0)], .agg [.lit (.int .u8 0), .lit (.int .u8 0)], .agg [.lit (.int .u8 0), .lit (.int .u8 0)], .agg [.lit (.int .u8 0), .lit (.int .u8 0)], .agg [.lit (.int .u8 0), .lit (.int .u8 0)], .agg [.lit (.int .u8 0), .lit (.int .u8 0)], .agg [.lit (.int .u8 0), .lit (.int .u8 0)]]
/-- One of Go's own tables, pinned by name: the form's constant. -/
def laid_unicode_utf8_first : DataW Unit := Go.Pinned.utf8First

/-- 'aquiferlaw01.CastagnoliSums': WHATEVER THE INPUT: true; the input reads as it did. -/
def castagnoliSumsSpec : ChangeSpec := { name := "castagnoliSums", fn := fun _ => fun
  | [d1, d2] => { results := [.lit (.bool true)], args := [d1, d2] }
  | _ => none }
def castagnoliSumsRow : OpenClaim := { program := "ythkcnkhhaiapfaadoor", sum := "cc790fbc541e815cb0fd845e5b6691e03b022f34e875b5391109041cd3b6fe54", func := "aquifer/aquiferlaw01.CastagnoliSums", spec := "castagnoliSums", named := ["aquifer/castagnoli.half"], apart := false, laid := [("aquifer/castagnoli.half", laid_aquifer_castagnoli_half)] }
def CastagnoliSumsSaid : Prop := castagnoliSumsRow.holds Tryd.pinned (OpenSpec.ofChange castagnoliSumsSpec)

/-- ITS FALSE NEIGHBOUR: 'it returns false'. Refute it at one input. -/
def castagnoliSumsWrong : ChangeSpec := { name := "castagnoliSums", fn := fun _ => fun
  | [d1, d2] => { results := [.lit (.bool false)], args := [d1, d2] }
  | _ => none }
def CastagnoliSumsWrongFalsely : Prop := castagnoliSumsRow.holds Tryd.pinned (OpenSpec.ofChange castagnoliSumsWrong)

/-- 'aquiferlaw09.PageLess': WHATEVER THE INPUT: true; the input reads as it did. -/
def pageLessSpec : ChangeSpec := { name := "pageLess", fn := fun _ => fun
  | [d1, d2, d3] => { results := [.lit (.bool true)], args := [d1, d2, d3] }
  | _ => none }
def pageLessRow : OpenClaim := { program := "ythkcnkhhaiapfaadoor", sum := "cc790fbc541e815cb0fd845e5b6691e03b022f34e875b5391109041cd3b6fe54", func := "aquifer/aquiferlaw09.PageLess", spec := "pageLess", inPlace := ["internal/bytealg.IndexByteString", "internal/bytealg.IndexString"], named := ["aquifer/castagnoli.half", "unicode/utf8.first", "unicode/utf8.acceptRanges", "internal/bytealg.MaxLen"], apart := false, laid := [("aquifer/castagnoli.half", laid_aquifer_castagnoli_half), ("unicode/utf8.acceptRanges", laid_unicode_utf8_acceptRanges), ("unicode/utf8.first", laid_unicode_utf8_first)] }
def PageLessSaid : Prop := pageLessRow.holds Tryd.pinned (OpenSpec.ofChange pageLessSpec)

/-- ITS FALSE NEIGHBOUR: 'it returns false'. Refute it at one input. -/
def pageLessWrong : ChangeSpec := { name := "pageLess", fn := fun _ => fun
  | [d1, d2, d3] => { results := [.lit (.bool false)], args := [d1, d2, d3] }
  | _ => none }
def PageLessWrongFalsely : Prop := pageLessRow.holds Tryd.pinned (OpenSpec.ofChange pageLessWrong)

/-- 'aquiferlaw01.CastagnoliParts': WHATEVER THE INPUT: true; the input reads as it did. -/
def castagnoliPartsSpec : ChangeSpec := { name := "castagnoliParts", fn := fun _ => fun
  | [d1, d2] => { results := [.lit (.bool true)], args := [d1, d2] }
  | _ => none }
def castagnoliPartsRow : OpenClaim := { program := "ythkcnkhhaiapfaadoor", sum := "cc790fbc541e815cb0fd845e5b6691e03b022f34e875b5391109041cd3b6fe54", func := "aquifer/aquiferlaw01.CastagnoliParts", spec := "castagnoliParts", named := ["aquifer/castagnoli.half"], apart := false, laid := [("aquifer/castagnoli.half", laid_aquifer_castagnoli_half)] }
def CastagnoliPartsSaid : Prop := castagnoliPartsRow.holds Tryd.pinned (OpenSpec.ofChange castagnoliPartsSpec)

/-- ITS FALSE NEIGHBOUR: 'it returns false'. Refute it at one input. -/
def castagnoliPartsWrong : ChangeSpec := { name := "castagnoliParts", fn := fun _ => fun
  | [d1, d2] => { results := [.lit (.bool false)], args := [d1, d2] }
  | _ => none }
def CastagnoliPartsWrongFalsely : Prop := castagnoliPartsRow.holds Tryd.pinned (OpenSpec.ofChange castagnoliPartsWrong)

/-- 'aquiferlaw01.CastagnoliBurst': WHATEVER THE INPUT: true; the input reads as it did. -/
def castagnoliBurstSpec : ChangeSpec := { name := "castagnoliBurst", fn := fun _ => fun
  | [d1, d2, d3] => { results := [.lit (.bool true)], args := [d1, d2, d3] }
  | _ => none }
def castagnoliBurstRow : OpenClaim := { program := "ythkcnkhhaiapfaadoor", sum := "cc790fbc541e815cb0fd845e5b6691e03b022f34e875b5391109041cd3b6fe54", func := "aquifer/aquiferlaw01.CastagnoliBurst", spec := "castagnoliBurst", named := ["aquifer/castagnoli.half"], apart := false, laid := [("aquifer/castagnoli.half", laid_aquifer_castagnoli_half)] }
def CastagnoliBurstSaid : Prop := castagnoliBurstRow.holds Tryd.pinned (OpenSpec.ofChange castagnoliBurstSpec)

/-- ITS FALSE NEIGHBOUR: 'it returns false'. Refute it at one input. -/
def castagnoliBurstWrong : ChangeSpec := { name := "castagnoliBurst", fn := fun _ => fun
  | [d1, d2, d3] => { results := [.lit (.bool false)], args := [d1, d2, d3] }
  | _ => none }
def CastagnoliBurstWrongFalsely : Prop := castagnoliBurstRow.holds Tryd.pinned (OpenSpec.ofChange castagnoliBurstWrong)

/-- 'aquiferlaw09.PageCuts': WHATEVER THE INPUT: true; the input reads as it did. -/
def pageCutsSpec : ChangeSpec := { name := "pageCuts", fn := fun _ => fun
  | [d] => { results := [.lit (.bool true)], args := [d] }
  | _ => none }
def pageCutsRow : OpenClaim := { program := "ythkcnkhhaiapfaadoor", sum := "cc790fbc541e815cb0fd845e5b6691e03b022f34e875b5391109041cd3b6fe54", func := "aquifer/aquiferlaw09.PageCuts", spec := "pageCuts", inPlace := ["internal/bytealg.IndexByteString", "internal/bytealg.IndexString"], named := ["unicode/utf8.first", "unicode/utf8.acceptRanges", "aquifer/castagnoli.half", "internal/bytealg.MaxLen"], apart := false, laid := [("aquifer/castagnoli.half", laid_aquifer_castagnoli_half), ("unicode/utf8.acceptRanges", laid_unicode_utf8_acceptRanges), ("unicode/utf8.first", laid_unicode_utf8_first)] }
def PageCutsSaid : Prop := pageCutsRow.holds Tryd.pinned (OpenSpec.ofChange pageCutsSpec)

/-- ITS FALSE NEIGHBOUR: 'it returns false'. Refute it at one input. -/
def pageCutsWrong : ChangeSpec := { name := "pageCuts", fn := fun _ => fun
  | [d] => { results := [.lit (.bool false)], args := [d] }
  | _ => none }
def PageCutsWrongFalsely : Prop := pageCutsRow.holds Tryd.pinned (OpenSpec.ofChange pageCutsWrong)

/-- 'aquiferlaw01.CastagnoliLinear': WHATEVER THE INPUT: true; the input reads as it did. -/
def castagnoliLinearSpec : ChangeSpec := { name := "castagnoliLinear", fn := fun _ => fun
  | [d1, d2, d3] => { results := [.lit (.bool true)], args := [d1, d2, d3] }
  | _ => none }
def castagnoliLinearRow : OpenClaim := { program := "ythkcnkhhaiapfaadoor", sum := "cc790fbc541e815cb0fd845e5b6691e03b022f34e875b5391109041cd3b6fe54", func := "aquifer/aquiferlaw01.CastagnoliLinear", spec := "castagnoliLinear", named := ["aquifer/castagnoli.half"], apart := false, laid := [("aquifer/castagnoli.half", laid_aquifer_castagnoli_half)] }
def CastagnoliLinearSaid : Prop := castagnoliLinearRow.holds Tryd.pinned (OpenSpec.ofChange castagnoliLinearSpec)

/-- ITS FALSE NEIGHBOUR: 'it returns false'. Refute it at one input. -/
def castagnoliLinearWrong : ChangeSpec := { name := "castagnoliLinear", fn := fun _ => fun
  | [d1, d2, d3] => { results := [.lit (.bool false)], args := [d1, d2, d3] }
  | _ => none }
def CastagnoliLinearWrongFalsely : Prop := castagnoliLinearRow.holds Tryd.pinned (OpenSpec.ofChange castagnoliLinearWrong)

/-- 'aquiferlaw01.CastagnoliCombines': WHATEVER THE INPUT: true; the input reads as it did. -/
def castagnoliCombinesSpec : ChangeSpec := { name := "castagnoliCombines", fn := fun _ => fun
  | [d1, d2, d3] => { results := [.lit (.bool true)], args := [d1, d2, d3] }
  | _ => none }
def castagnoliCombinesRow : OpenClaim := { program := "ythkcnkhhaiapfaadoor", sum := "cc790fbc541e815cb0fd845e5b6691e03b022f34e875b5391109041cd3b6fe54", func := "aquifer/aquiferlaw01.CastagnoliCombines", spec := "castagnoliCombines", named := ["aquifer/castagnoli.half"], apart := false, laid := [("aquifer/castagnoli.half", laid_aquifer_castagnoli_half)] }
def CastagnoliCombinesSaid : Prop := castagnoliCombinesRow.holds Tryd.pinned (OpenSpec.ofChange castagnoliCombinesSpec)

/-- ITS FALSE NEIGHBOUR: 'it returns false'. Refute it at one input. -/
def castagnoliCombinesWrong : ChangeSpec := { name := "castagnoliCombines", fn := fun _ => fun
  | [d1, d2, d3] => { results := [.lit (.bool false)], args := [d1, d2, d3] }
  | _ => none }
def CastagnoliCombinesWrongFalsely : Prop := castagnoliCombinesRow.holds Tryd.pinned (OpenSpec.ofChange castagnoliCombinesWrong)

/-- 'aquiferlaw01.CastagnoliZeros': WHATEVER THE INPUT: true; the input reads as it did. -/
def castagnoliZerosSpec : ChangeSpec := { name := "castagnoliZeros", fn := fun _ => fun
  | [d1, d2, d3] => { results := [.lit (.bool true)], args := [d1, d2, d3] }
  | _ => none }
def castagnoliZerosRow : OpenClaim := { program := "ythkcnkhhaiapfaadoor", sum := "cc790fbc541e815cb0fd845e5b6691e03b022f34e875b5391109041cd3b6fe54", func := "aquifer/aquiferlaw01.CastagnoliZeros", spec := "castagnoliZeros", named := ["aquifer/castagnoli.half"], apart := false, laid := [("aquifer/castagnoli.half", laid_aquifer_castagnoli_half)] }
def CastagnoliZerosSaid : Prop := castagnoliZerosRow.holds Tryd.pinned (OpenSpec.ofChange castagnoliZerosSpec)

/-- ITS FALSE NEIGHBOUR: 'it returns false'. Refute it at one input. -/
def castagnoliZerosWrong : ChangeSpec := { name := "castagnoliZeros", fn := fun _ => fun
  | [d1, d2, d3] => { results := [.lit (.bool false)], args := [d1, d2, d3] }
  | _ => none }
def CastagnoliZerosWrongFalsely : Prop := castagnoliZerosRow.holds Tryd.pinned (OpenSpec.ofChange castagnoliZerosWrong)

/-- 'aquiferlaw09.PageSeals': WHATEVER THE INPUT: true; the input reads as it did. -/
def pageSealsSpec : ChangeSpec := { name := "pageSeals", fn := fun _ => fun
  | [d1, d2, d3] => { results := [.lit (.bool true)], args := [d1, d2, d3] }
  | _ => none }
def pageSealsRow : OpenClaim := { program := "ythkcnkhhaiapfaadoor", sum := "cc790fbc541e815cb0fd845e5b6691e03b022f34e875b5391109041cd3b6fe54", func := "aquifer/aquiferlaw09.PageSeals", spec := "pageSeals", inPlace := ["internal/bytealg.IndexByteString", "internal/bytealg.IndexString"], named := ["aquifer/castagnoli.half", "unicode/utf8.first", "unicode/utf8.acceptRanges", "internal/bytealg.MaxLen"], apart := false, laid := [("aquifer/castagnoli.half", laid_aquifer_castagnoli_half), ("unicode/utf8.acceptRanges", laid_unicode_utf8_acceptRanges), ("unicode/utf8.first", laid_unicode_utf8_first)] }
def PageSealsSaid : Prop := pageSealsRow.holds Tryd.pinned (OpenSpec.ofChange pageSealsSpec)

/-- ITS FALSE NEIGHBOUR: 'it returns false'. Refute it at one input. -/
def pageSealsWrong : ChangeSpec := { name := "pageSeals", fn := fun _ => fun
  | [d1, d2, d3] => { results := [.lit (.bool false)], args := [d1, d2, d3] }
  | _ => none }
def PageSealsWrongFalsely : Prop := pageSealsRow.holds Tryd.pinned (OpenSpec.ofChange pageSealsWrong)

/-- 'aquiferlaw09.PageOpens': WHATEVER THE INPUT: true; the input reads as it did. -/
def pageOpensSpec : ChangeSpec := { name := "pageOpens", fn := fun _ => fun
  | [d1, d2] => { results := [.lit (.bool true)], args := [d1, d2] }
  | _ => none }
def pageOpensRow : OpenClaim := { program := "ythkcnkhhaiapfaadoor", sum := "cc790fbc541e815cb0fd845e5b6691e03b022f34e875b5391109041cd3b6fe54", func := "aquifer/aquiferlaw09.PageOpens", spec := "pageOpens", inPlace := ["internal/bytealg.IndexByteString", "internal/bytealg.IndexString"], named := ["aquifer/castagnoli.half", "unicode/utf8.first", "unicode/utf8.acceptRanges", "internal/bytealg.MaxLen"], apart := false, laid := [("aquifer/castagnoli.half", laid_aquifer_castagnoli_half), ("unicode/utf8.acceptRanges", laid_unicode_utf8_acceptRanges), ("unicode/utf8.first", laid_unicode_utf8_first)] }
def PageOpensSaid : Prop := pageOpensRow.holds Tryd.pinned (OpenSpec.ofChange pageOpensSpec)

/-- ITS FALSE NEIGHBOUR: 'it returns false'. Refute it at one input. -/
def pageOpensWrong : ChangeSpec := { name := "pageOpens", fn := fun _ => fun
  | [d1, d2] => { results := [.lit (.bool false)], args := [d1, d2] }
  | _ => none }
def PageOpensWrongFalsely : Prop := pageOpensRow.holds Tryd.pinned (OpenSpec.ofChange pageOpensWrong)

/-- 'aquiferlaw09.PageBack': WHATEVER THE INPUT: true; the input reads as it did. -/
def pageBackSpec : ChangeSpec := { name := "pageBack", fn := fun _ => fun
  | [d1, d2, d3] => { results := [.lit (.bool true)], args := [d1, d2, d3] }
  | _ => none }
def pageBackRow : OpenClaim := { program := "ythkcnkhhaiapfaadoor", sum := "cc790fbc541e815cb0fd845e5b6691e03b022f34e875b5391109041cd3b6fe54", func := "aquifer/aquiferlaw09.PageBack", spec := "pageBack", inPlace := ["internal/bytealg.IndexByteString", "internal/bytealg.IndexString"], named := ["aquifer/castagnoli.half", "unicode/utf8.first", "unicode/utf8.acceptRanges", "internal/bytealg.MaxLen"], apart := false, laid := [("aquifer/castagnoli.half", laid_aquifer_castagnoli_half), ("unicode/utf8.acceptRanges", laid_unicode_utf8_acceptRanges), ("unicode/utf8.first", laid_unicode_utf8_first)] }
def PageBackSaid : Prop := pageBackRow.holds Tryd.pinned (OpenSpec.ofChange pageBackSpec)

/-- ITS FALSE NEIGHBOUR: 'it returns false'. Refute it at one input. -/
def pageBackWrong : ChangeSpec := { name := "pageBack", fn := fun _ => fun
  | [d1, d2, d3] => { results := [.lit (.bool false)], args := [d1, d2, d3] }
  | _ => none }
def PageBackWrongFalsely : Prop := pageBackRow.holds Tryd.pinned (OpenSpec.ofChange pageBackWrong)

/-- 'aquiferlaw09.PageTurned': WHATEVER THE INPUT: true; the input reads as it did. -/
def pageTurnedSpec : ChangeSpec := { name := "pageTurned", fn := fun _ => fun
  | [d1, d2, d3] => { results := [.lit (.bool true)], args := [d1, d2, d3] }
  | _ => none }
def pageTurnedRow : OpenClaim := { program := "ythkcnkhhaiapfaadoor", sum := "cc790fbc541e815cb0fd845e5b6691e03b022f34e875b5391109041cd3b6fe54", func := "aquifer/aquiferlaw09.PageTurned", spec := "pageTurned", inPlace := ["internal/bytealg.IndexByteString", "internal/bytealg.IndexString"], named := ["aquifer/castagnoli.half", "unicode/utf8.first", "unicode/utf8.acceptRanges", "internal/bytealg.MaxLen"], apart := false, laid := [("aquifer/castagnoli.half", laid_aquifer_castagnoli_half), ("unicode/utf8.acceptRanges", laid_unicode_utf8_acceptRanges), ("unicode/utf8.first", laid_unicode_utf8_first)] }
def PageTurnedSaid : Prop := pageTurnedRow.holds Tryd.pinned (OpenSpec.ofChange pageTurnedSpec)

/-- ITS FALSE NEIGHBOUR: 'it returns false'. Refute it at one input. -/
def pageTurnedWrong : ChangeSpec := { name := "pageTurned", fn := fun _ => fun
  | [d1, d2, d3] => { results := [.lit (.bool false)], args := [d1, d2, d3] }
  | _ => none }
def PageTurnedWrongFalsely : Prop := pageTurnedRow.holds Tryd.pinned (OpenSpec.ofChange pageTurnedWrong)

/- THE SECOND FORM. 'bulk': how many values and letters a reading holds, each counted each time it is reached (what is shared counts as often as it is met; a slice's spare places count too). A statement '..UptoSaid' is the law's where the arguments, and the package variables that the reading takes, are together of bulk at most 1048576: NARROWER than '..Said'. Prove '..Said' where nothing that the law and all that it calls make is longer than what came in: it says more and counts as full. Else prove '..UptoSaid'. A law counts once. -/
mutual
def uptoBulk {H : Type} : DataW H → Nat
  | .lit (.string bytes) => bytes.length + 1
  | .lit _ => 1
  | .nil => 1
  | .ptr d => uptoBulk d + 1
  | .slice elems spare => uptoBulkAll elems + uptoBulkAll spare + 1
  | .agg parts => uptoBulkAll parts + 1
  | .iface _ d => uptoBulk d + 1
  | .map entries => uptoBulkEntries entries + 1
  | .held _ => 1
def uptoBulkAll {H : Type} : List (DataW H) → Nat
  | [] => 0
  | d :: r => uptoBulk d + uptoBulkAll r
def uptoBulkEntries {H : Type} : List (Lit × DataW H) → Nat
  | [] => 0
  | x :: r => uptoBulkEntry x + uptoBulkEntries r
def uptoBulkEntry {H : Type} : Lit × DataW H → Nat
  | (.string bytes, d) => bytes.length + uptoBulk d + 1
  | (_, d) => uptoBulk d + 1
 end
def uptoSmall : (H : Type) → List (DataW H) → Bool := fun _ ds => decide (uptoBulkAll ds ≤ 1048576)
def OpenSpec.upto (s : _root_.Go.ChangeSpec) : _root_.Go.OpenSpec := { _root_.Go.OpenSpec.ofChange s with cond := some uptoSmall }

/-- 'aquiferlaw01.CastagnoliSums', WHERE WHAT IT READS IS OF BULK AT MOST 1048576: true; the input reads as it did. -/
def castagnoliSumsUptoRow : OpenClaim := { program := "ythkcnkhhaiapfaadoor", sum := "cc790fbc541e815cb0fd845e5b6691e03b022f34e875b5391109041cd3b6fe54", func := "aquifer/aquiferlaw01.CastagnoliSums", spec := "castagnoliSums", named := ["aquifer/castagnoli.half"], apart := false, laid := [("aquifer/castagnoli.half", laid_aquifer_castagnoli_half)], narrowed := true }
def CastagnoliSumsUptoSaid : Prop := castagnoliSumsUptoRow.holds Tryd.pinned (OpenSpec.upto castagnoliSumsSpec)

/-- 'aquiferlaw09.PageLess', WHERE WHAT IT READS IS OF BULK AT MOST 1048576: true; the input reads as it did. -/
def pageLessUptoRow : OpenClaim := { program := "ythkcnkhhaiapfaadoor", sum := "cc790fbc541e815cb0fd845e5b6691e03b022f34e875b5391109041cd3b6fe54", func := "aquifer/aquiferlaw09.PageLess", spec := "pageLess", inPlace := ["internal/bytealg.IndexByteString", "internal/bytealg.IndexString"], named := ["aquifer/castagnoli.half", "unicode/utf8.first", "unicode/utf8.acceptRanges", "internal/bytealg.MaxLen"], apart := false, laid := [("aquifer/castagnoli.half", laid_aquifer_castagnoli_half), ("unicode/utf8.acceptRanges", laid_unicode_utf8_acceptRanges), ("unicode/utf8.first", laid_unicode_utf8_first)], narrowed := true }
def PageLessUptoSaid : Prop := pageLessUptoRow.holds Tryd.pinned (OpenSpec.upto pageLessSpec)

/-- 'aquiferlaw01.CastagnoliParts', WHERE WHAT IT READS IS OF BULK AT MOST 1048576: true; the input reads as it did. -/
def castagnoliPartsUptoRow : OpenClaim := { program := "ythkcnkhhaiapfaadoor", sum := "cc790fbc541e815cb0fd845e5b6691e03b022f34e875b5391109041cd3b6fe54", func := "aquifer/aquiferlaw01.CastagnoliParts", spec := "castagnoliParts", named := ["aquifer/castagnoli.half"], apart := false, laid := [("aquifer/castagnoli.half", laid_aquifer_castagnoli_half)], narrowed := true }
def CastagnoliPartsUptoSaid : Prop := castagnoliPartsUptoRow.holds Tryd.pinned (OpenSpec.upto castagnoliPartsSpec)

/-- 'aquiferlaw01.CastagnoliBurst', WHERE WHAT IT READS IS OF BULK AT MOST 1048576: true; the input reads as it did. -/
def castagnoliBurstUptoRow : OpenClaim := { program := "ythkcnkhhaiapfaadoor", sum := "cc790fbc541e815cb0fd845e5b6691e03b022f34e875b5391109041cd3b6fe54", func := "aquifer/aquiferlaw01.CastagnoliBurst", spec := "castagnoliBurst", named := ["aquifer/castagnoli.half"], apart := false, laid := [("aquifer/castagnoli.half", laid_aquifer_castagnoli_half)], narrowed := true }
def CastagnoliBurstUptoSaid : Prop := castagnoliBurstUptoRow.holds Tryd.pinned (OpenSpec.upto castagnoliBurstSpec)

/-- 'aquiferlaw09.PageCuts', WHERE WHAT IT READS IS OF BULK AT MOST 1048576: true; the input reads as it did. -/
def pageCutsUptoRow : OpenClaim := { program := "ythkcnkhhaiapfaadoor", sum := "cc790fbc541e815cb0fd845e5b6691e03b022f34e875b5391109041cd3b6fe54", func := "aquifer/aquiferlaw09.PageCuts", spec := "pageCuts", inPlace := ["internal/bytealg.IndexByteString", "internal/bytealg.IndexString"], named := ["unicode/utf8.first", "unicode/utf8.acceptRanges", "aquifer/castagnoli.half", "internal/bytealg.MaxLen"], apart := false, laid := [("aquifer/castagnoli.half", laid_aquifer_castagnoli_half), ("unicode/utf8.acceptRanges", laid_unicode_utf8_acceptRanges), ("unicode/utf8.first", laid_unicode_utf8_first)], narrowed := true }
def PageCutsUptoSaid : Prop := pageCutsUptoRow.holds Tryd.pinned (OpenSpec.upto pageCutsSpec)

/-- 'aquiferlaw01.CastagnoliLinear', WHERE WHAT IT READS IS OF BULK AT MOST 1048576: true; the input reads as it did. -/
def castagnoliLinearUptoRow : OpenClaim := { program := "ythkcnkhhaiapfaadoor", sum := "cc790fbc541e815cb0fd845e5b6691e03b022f34e875b5391109041cd3b6fe54", func := "aquifer/aquiferlaw01.CastagnoliLinear", spec := "castagnoliLinear", named := ["aquifer/castagnoli.half"], apart := false, laid := [("aquifer/castagnoli.half", laid_aquifer_castagnoli_half)], narrowed := true }
def CastagnoliLinearUptoSaid : Prop := castagnoliLinearUptoRow.holds Tryd.pinned (OpenSpec.upto castagnoliLinearSpec)

/-- 'aquiferlaw01.CastagnoliCombines', WHERE WHAT IT READS IS OF BULK AT MOST 1048576: true; the input reads as it did. -/
def castagnoliCombinesUptoRow : OpenClaim := { program := "ythkcnkhhaiapfaadoor", sum := "cc790fbc541e815cb0fd845e5b6691e03b022f34e875b5391109041cd3b6fe54", func := "aquifer/aquiferlaw01.CastagnoliCombines", spec := "castagnoliCombines", named := ["aquifer/castagnoli.half"], apart := false, laid := [("aquifer/castagnoli.half", laid_aquifer_castagnoli_half)], narrowed := true }
def CastagnoliCombinesUptoSaid : Prop := castagnoliCombinesUptoRow.holds Tryd.pinned (OpenSpec.upto castagnoliCombinesSpec)

/-- 'aquiferlaw01.CastagnoliZeros', WHERE WHAT IT READS IS OF BULK AT MOST 1048576: true; the input reads as it did. -/
def castagnoliZerosUptoRow : OpenClaim := { program := "ythkcnkhhaiapfaadoor", sum := "cc790fbc541e815cb0fd845e5b6691e03b022f34e875b5391109041cd3b6fe54", func := "aquifer/aquiferlaw01.CastagnoliZeros", spec := "castagnoliZeros", named := ["aquifer/castagnoli.half"], apart := false, laid := [("aquifer/castagnoli.half", laid_aquifer_castagnoli_half)], narrowed := true }
def CastagnoliZerosUptoSaid : Prop := castagnoliZerosUptoRow.holds Tryd.pinned (OpenSpec.upto castagnoliZerosSpec)

/-- 'aquiferlaw09.PageSeals', WHERE WHAT IT READS IS OF BULK AT MOST 1048576: true; the input reads as it did. -/
def pageSealsUptoRow : OpenClaim := { program := "ythkcnkhhaiapfaadoor", sum := "cc790fbc541e815cb0fd845e5b6691e03b022f34e875b5391109041cd3b6fe54", func := "aquifer/aquiferlaw09.PageSeals", spec := "pageSeals", inPlace := ["internal/bytealg.IndexByteString", "internal/bytealg.IndexString"], named := ["aquifer/castagnoli.half", "unicode/utf8.first", "unicode/utf8.acceptRanges", "internal/bytealg.MaxLen"], apart := false, laid := [("aquifer/castagnoli.half", laid_aquifer_castagnoli_half), ("unicode/utf8.acceptRanges", laid_unicode_utf8_acceptRanges), ("unicode/utf8.first", laid_unicode_utf8_first)], narrowed := true }
def PageSealsUptoSaid : Prop := pageSealsUptoRow.holds Tryd.pinned (OpenSpec.upto pageSealsSpec)

/-- 'aquiferlaw09.PageOpens', WHERE WHAT IT READS IS OF BULK AT MOST 1048576: true; the input reads as it did. -/
def pageOpensUptoRow : OpenClaim := { program := "ythkcnkhhaiapfaadoor", sum := "cc790fbc541e815cb0fd845e5b6691e03b022f34e875b5391109041cd3b6fe54", func := "aquifer/aquiferlaw09.PageOpens", spec := "pageOpens", inPlace := ["internal/bytealg.IndexByteString", "internal/bytealg.IndexString"], named := ["aquifer/castagnoli.half", "unicode/utf8.first", "unicode/utf8.acceptRanges", "internal/bytealg.MaxLen"], apart := false, laid := [("aquifer/castagnoli.half", laid_aquifer_castagnoli_half), ("unicode/utf8.acceptRanges", laid_unicode_utf8_acceptRanges), ("unicode/utf8.first", laid_unicode_utf8_first)], narrowed := true }
def PageOpensUptoSaid : Prop := pageOpensUptoRow.holds Tryd.pinned (OpenSpec.upto pageOpensSpec)

/-- 'aquiferlaw09.PageBack', WHERE WHAT IT READS IS OF BULK AT MOST 1048576: true; the input reads as it did. -/
def pageBackUptoRow : OpenClaim := { program := "ythkcnkhhaiapfaadoor", sum := "cc790fbc541e815cb0fd845e5b6691e03b022f34e875b5391109041cd3b6fe54", func := "aquifer/aquiferlaw09.PageBack", spec := "pageBack", inPlace := ["internal/bytealg.IndexByteString", "internal/bytealg.IndexString"], named := ["aquifer/castagnoli.half", "unicode/utf8.first", "unicode/utf8.acceptRanges", "internal/bytealg.MaxLen"], apart := false, laid := [("aquifer/castagnoli.half", laid_aquifer_castagnoli_half), ("unicode/utf8.acceptRanges", laid_unicode_utf8_acceptRanges), ("unicode/utf8.first", laid_unicode_utf8_first)], narrowed := true }
def PageBackUptoSaid : Prop := pageBackUptoRow.holds Tryd.pinned (OpenSpec.upto pageBackSpec)

/-- 'aquiferlaw09.PageTurned', WHERE WHAT IT READS IS OF BULK AT MOST 1048576: true; the input reads as it did. -/
def pageTurnedUptoRow : OpenClaim := { program := "ythkcnkhhaiapfaadoor", sum := "cc790fbc541e815cb0fd845e5b6691e03b022f34e875b5391109041cd3b6fe54", func := "aquifer/aquiferlaw09.PageTurned", spec := "pageTurned", inPlace := ["internal/bytealg.IndexByteString", "internal/bytealg.IndexString"], named := ["aquifer/castagnoli.half", "unicode/utf8.first", "unicode/utf8.acceptRanges", "internal/bytealg.MaxLen"], apart := false, laid := [("aquifer/castagnoli.half", laid_aquifer_castagnoli_half), ("unicode/utf8.acceptRanges", laid_unicode_utf8_acceptRanges), ("unicode/utf8.first", laid_unicode_utf8_first)], narrowed := true }
def PageTurnedUptoSaid : Prop := pageTurnedUptoRow.holds Tryd.pinned (OpenSpec.upto pageTurnedSpec)

end Rows
end Go.Proofs.YthkcnkhhaiapfaaDoor
