/-
  NARROWER THAN 'FOR EVERY INPUT', by the rows' own cells (each row's printed sentence says how): AutoTwo: laid · AutoOf: laid · AutoOne: laid · AutoList: laid · AutoPattern: laid.
  DERIVED. THE GIVEN ROWS OF THIS SEAT. 5 by the template 'for every input the law returns true; each argument reads behind the call as it read before'; 0 by the template 'total and deterministic' (their statements: YtnaccglcbfeenaaGreatDoorTotals.lean).
  GIVEN WITH THE SEED: the statements are not yours to turn. If you find one false, say at which input.
  Laid BY PROGRAM, IN A SANDBOX (cutbox-rows.mjs): the forced cells as the released guide's own fill.sh prints them over the translation b54afb4d4b2766ae… (all of the seat's roots in one cut). By AI agents, Wed Nov 11 2026. No macro, syntax, notation, axiom, sorry.
-/
import Derived.Test.YtnaccglcbfeenaaGreatDoorChecked
import GoSem.PinnedTables
import GoSem.Claim
import GoSem.ClaimJoined
import GoSem.ClaimMapViews
import Derived.JoinedTies
import Derived.KernelRfl
namespace Go.Proofs.YtnaccglcbfeenaaGreatDoor
/- THE CELL 'sum', in the pinned program and in every row, IS THE sha256 OF THE DUMP (.gsa) THAT YtnaccglcbfeenaaGreatDoorProg.lean LOADS. Nothing in Lean hashes anything: it is a label: what it is worth is what the hold of that sum in a sandbox is worth. -/
noncomputable def Tryz.pinned : Pinned := { name := "ytnaccglcbfeenaagreatdoor", sum := "b54afb4d4b2766aea0683a2d2925aa96b8f102961aebccbe008838f5039527b4", checked := Tryz.checked }
namespace Rows
def none {H : Type} : Left H := { results := [], args := [] }

/- WHAT THE LISTED PACKAGE-LEVEL VARIABLES READ AS WHEN THE CALL BEGINS. Each datum BY PROGRAM (the guide's laid-datum.mjs) off the statement by which the dump's own 'gosem.cut.vars' lays the variable. In a bare row this is a premise. The card (YtnaccglcbfeenaaGreatDoorCards.lean) ties it to the program's text. -/
def laid_unicode_utf8_acceptRanges {H : Type} : DataW H := .agg [.agg [.lit (.int .u8 128), .lit (.int .u8 191)], .agg [.lit (.int .u8 160), .lit (.int .u8 191)], .agg [.lit (.int .u8 128), .lit (.int .u8 159)], .agg [.lit (.int .u8 144), .lit (.int .u8 191)], .agg [.lit (.int .u8 128), .lit (.int .u8 143)], .agg [.lit (.int .u8 0), .lit (.int .u8 0)], .agg [.lit (.int .u8 0), .lit (.int .u8 0)], .agg [.lit (.int .u8 0), .lit (.int .u8 0)], .agg [.lit (.int .u8 0), .lit (.int .u8 0)], .agg [.lit (.int .u8 0), .lit (.int .u8 0)], .agg [.lit (.int .u8 0), .lit (.int .u8 0)], .agg [.lit (.int .u8 0), .lit (.int .u8 0)], .agg [.lit (.int .u8 0), .lit (.int .u8 0)], .agg [.lit (.int .u8 0), .lit (.int .u8 0)], .agg [.lit (.int .u8 0), .lit (.int .u8 0)], .agg [.lit (.int .u8 0), .lit (.int .u8 0)]]
/-- One of Go's own tables, pinned by name: the form's constant. -/
def laid_unicode_utf8_first : DataW Unit := Go.Pinned.utf8First

/-- 'cognatelaw06.AutoTwo': WHATEVER THE INPUT: true; the input reads as it did. -/
def autoTwoSpec : ChangeSpec := { name := "autoTwo", fn := fun _ => fun
  | [d1, d2, d3] => { results := [.lit (.bool true)], args := [d1, d2, d3] }
  | _ => none }
def autoTwoRow : OpenClaim := { program := "ytnaccglcbfeenaagreatdoor", sum := "b54afb4d4b2766aea0683a2d2925aa96b8f102961aebccbe008838f5039527b4", func := "cognate/cognatelaw06.AutoTwo", spec := "autoTwo", inPlace := ["internal/bytealg.IndexByteString", "internal/bytealg.IndexString"], unfollowed := true, recurses := true, named := ["unicode/utf8.first", "unicode/utf8.acceptRanges", "internal/bytealg.MaxLen"], plainKeys := false, apart := false, laid := [("unicode/utf8.acceptRanges", laid_unicode_utf8_acceptRanges), ("unicode/utf8.first", laid_unicode_utf8_first)] }
def AutoTwoSaid : Prop := autoTwoRow.holds Tryz.pinned (OpenSpec.ofChange autoTwoSpec)

/-- ITS FALSE NEIGHBOUR: 'it returns false'. Refute it at one input. -/
def autoTwoWrong : ChangeSpec := { name := "autoTwo", fn := fun _ => fun
  | [d1, d2, d3] => { results := [.lit (.bool false)], args := [d1, d2, d3] }
  | _ => none }
def AutoTwoWrongFalsely : Prop := autoTwoRow.holds Tryz.pinned (OpenSpec.ofChange autoTwoWrong)

/-- 'cognatelaw06.AutoOf': WHATEVER THE INPUT: true; the input reads as it did. -/
def autoOfSpec : ChangeSpec := { name := "autoOf", fn := fun _ => fun
  | [d1, d2, d3] => { results := [.lit (.bool true)], args := [d1, d2, d3] }
  | _ => none }
def autoOfRow : OpenClaim := { program := "ytnaccglcbfeenaagreatdoor", sum := "b54afb4d4b2766aea0683a2d2925aa96b8f102961aebccbe008838f5039527b4", func := "cognate/cognatelaw06.AutoOf", spec := "autoOf", inPlace := ["internal/bytealg.IndexByteString", "internal/bytealg.IndexString", "internal/abi.NoEscape"], unfollowed := true, recurses := true, named := ["unicode/utf8.first", "unicode/utf8.acceptRanges", "internal/bytealg.MaxLen"], plainKeys := false, apart := false, laid := [("unicode/utf8.acceptRanges", laid_unicode_utf8_acceptRanges), ("unicode/utf8.first", laid_unicode_utf8_first)] }
def AutoOfSaid : Prop := autoOfRow.holds Tryz.pinned (OpenSpec.ofChange autoOfSpec)

/-- ITS FALSE NEIGHBOUR: 'it returns false'. Refute it at one input. -/
def autoOfWrong : ChangeSpec := { name := "autoOf", fn := fun _ => fun
  | [d1, d2, d3] => { results := [.lit (.bool false)], args := [d1, d2, d3] }
  | _ => none }
def AutoOfWrongFalsely : Prop := autoOfRow.holds Tryz.pinned (OpenSpec.ofChange autoOfWrong)

/-- 'cognatelaw06.AutoOne': WHATEVER THE INPUT: true; the input reads as it did. -/
def autoOneSpec : ChangeSpec := { name := "autoOne", fn := fun _ => fun
  | [d1, d2, d3, d4, d5] => { results := [.lit (.bool true)], args := [d1, d2, d3, d4, d5] }
  | _ => none }
def autoOneRow : OpenClaim := { program := "ytnaccglcbfeenaagreatdoor", sum := "b54afb4d4b2766aea0683a2d2925aa96b8f102961aebccbe008838f5039527b4", func := "cognate/cognatelaw06.AutoOne", spec := "autoOne", inPlace := ["internal/bytealg.IndexByteString", "internal/bytealg.IndexString"], unfollowed := true, recurses := true, named := ["unicode/utf8.first", "unicode/utf8.acceptRanges", "internal/bytealg.MaxLen"], plainKeys := false, apart := false, laid := [("unicode/utf8.acceptRanges", laid_unicode_utf8_acceptRanges), ("unicode/utf8.first", laid_unicode_utf8_first)] }
def AutoOneSaid : Prop := autoOneRow.holds Tryz.pinned (OpenSpec.ofChange autoOneSpec)

/-- ITS FALSE NEIGHBOUR: 'it returns false'. Refute it at one input. -/
def autoOneWrong : ChangeSpec := { name := "autoOne", fn := fun _ => fun
  | [d1, d2, d3, d4, d5] => { results := [.lit (.bool false)], args := [d1, d2, d3, d4, d5] }
  | _ => none }
def AutoOneWrongFalsely : Prop := autoOneRow.holds Tryz.pinned (OpenSpec.ofChange autoOneWrong)

/-- 'cognatelaw06.AutoList': WHATEVER THE INPUT: true; the input reads as it did. -/
def autoListSpec : ChangeSpec := { name := "autoList", fn := fun _ => fun
  | [d1, d2, d3] => { results := [.lit (.bool true)], args := [d1, d2, d3] }
  | _ => none }
def autoListRow : OpenClaim := { program := "ytnaccglcbfeenaagreatdoor", sum := "b54afb4d4b2766aea0683a2d2925aa96b8f102961aebccbe008838f5039527b4", func := "cognate/cognatelaw06.AutoList", spec := "autoList", inPlace := ["internal/bytealg.IndexByteString", "internal/bytealg.IndexString"], unfollowed := true, recurses := true, named := ["unicode/utf8.first", "unicode/utf8.acceptRanges", "internal/bytealg.MaxLen"], plainKeys := false, apart := false, laid := [("unicode/utf8.acceptRanges", laid_unicode_utf8_acceptRanges), ("unicode/utf8.first", laid_unicode_utf8_first)] }
def AutoListSaid : Prop := autoListRow.holds Tryz.pinned (OpenSpec.ofChange autoListSpec)

/-- ITS FALSE NEIGHBOUR: 'it returns false'. Refute it at one input. -/
def autoListWrong : ChangeSpec := { name := "autoList", fn := fun _ => fun
  | [d1, d2, d3] => { results := [.lit (.bool false)], args := [d1, d2, d3] }
  | _ => none }
def AutoListWrongFalsely : Prop := autoListRow.holds Tryz.pinned (OpenSpec.ofChange autoListWrong)

/-- 'cognatelaw06.AutoPattern': WHATEVER THE INPUT: true; the input reads as it did. -/
def autoPatternSpec : ChangeSpec := { name := "autoPattern", fn := fun _ => fun
  | [d1, d2, d3] => { results := [.lit (.bool true)], args := [d1, d2, d3] }
  | _ => none }
def autoPatternRow : OpenClaim := { program := "ytnaccglcbfeenaagreatdoor", sum := "b54afb4d4b2766aea0683a2d2925aa96b8f102961aebccbe008838f5039527b4", func := "cognate/cognatelaw06.AutoPattern", spec := "autoPattern", inPlace := ["internal/bytealg.IndexByteString", "internal/bytealg.IndexString", "internal/abi.NoEscape"], unfollowed := true, recurses := true, named := ["unicode/utf8.first", "unicode/utf8.acceptRanges", "internal/bytealg.MaxLen"], plainKeys := false, apart := false, laid := [("unicode/utf8.acceptRanges", laid_unicode_utf8_acceptRanges), ("unicode/utf8.first", laid_unicode_utf8_first)] }
def AutoPatternSaid : Prop := autoPatternRow.holds Tryz.pinned (OpenSpec.ofChange autoPatternSpec)

/-- ITS FALSE NEIGHBOUR: 'it returns false'. Refute it at one input. -/
def autoPatternWrong : ChangeSpec := { name := "autoPattern", fn := fun _ => fun
  | [d1, d2, d3] => { results := [.lit (.bool false)], args := [d1, d2, d3] }
  | _ => none }
def AutoPatternWrongFalsely : Prop := autoPatternRow.holds Tryz.pinned (OpenSpec.ofChange autoPatternWrong)

/- THE SECOND FORM. 'bulk': how many values and letters a reading holds, each counted each time it is reached (what is shared counts as often as it is met; a slice's spare places count too). A statement '..UptoSaid' is the law's where the arguments, and the package variables that the reading takes, are together of bulk at most 1048576: NARROWER than '..Said'. Prove '..Said' where nothing that the law and all that it calls make is longer than what came in: it says more and counts as full. Else prove '..UptoSaid'. A law counts once. -/
mutual
def uptoBulk {H : Type} : DataW H → Nat
  | .lit (.string bytes) => bytes.length + 1
  | .lit _ => 1
  | .nil => 1
  | .ptr d => uptoBulk d + 1
  | .slice elems spare => uptoBulkAll elems + uptoBulkAll spare + 1
  | .agg parts => uptoBulkAll parts + 1
  | .iface _ d => uptoBulk d + 1
  | .map entries => uptoBulkEntries entries + 1
  | .held _ => 1
def uptoBulkAll {H : Type} : List (DataW H) → Nat
  | [] => 0
  | d :: r => uptoBulk d + uptoBulkAll r
def uptoBulkEntries {H : Type} : List (Lit × DataW H) → Nat
  | [] => 0
  | x :: r => uptoBulkEntry x + uptoBulkEntries r
def uptoBulkEntry {H : Type} : Lit × DataW H → Nat
  | (.string bytes, d) => bytes.length + uptoBulk d + 1
  | (_, d) => uptoBulk d + 1
 end
def uptoSmall : (H : Type) → List (DataW H) → Bool := fun _ ds => decide (uptoBulkAll ds ≤ 1048576)
def OpenSpec.upto (s : _root_.Go.ChangeSpec) : _root_.Go.OpenSpec := { _root_.Go.OpenSpec.ofChange s with cond := some uptoSmall }

/-- 'cognatelaw06.AutoTwo', WHERE WHAT IT READS IS OF BULK AT MOST 1048576: true; the input reads as it did. -/
def autoTwoUptoRow : OpenClaim := { program := "ytnaccglcbfeenaagreatdoor", sum := "b54afb4d4b2766aea0683a2d2925aa96b8f102961aebccbe008838f5039527b4", func := "cognate/cognatelaw06.AutoTwo", spec := "autoTwo", inPlace := ["internal/bytealg.IndexByteString", "internal/bytealg.IndexString"], unfollowed := true, recurses := true, named := ["unicode/utf8.first", "unicode/utf8.acceptRanges", "internal/bytealg.MaxLen"], plainKeys := false, apart := false, laid := [("unicode/utf8.acceptRanges", laid_unicode_utf8_acceptRanges), ("unicode/utf8.first", laid_unicode_utf8_first)], narrowed := true }
def AutoTwoUptoSaid : Prop := autoTwoUptoRow.holds Tryz.pinned (OpenSpec.upto autoTwoSpec)

/-- 'cognatelaw06.AutoOf', WHERE WHAT IT READS IS OF BULK AT MOST 1048576: true; the input reads as it did. -/
def autoOfUptoRow : OpenClaim := { program := "ytnaccglcbfeenaagreatdoor", sum := "b54afb4d4b2766aea0683a2d2925aa96b8f102961aebccbe008838f5039527b4", func := "cognate/cognatelaw06.AutoOf", spec := "autoOf", inPlace := ["internal/bytealg.IndexByteString", "internal/bytealg.IndexString", "internal/abi.NoEscape"], unfollowed := true, recurses := true, named := ["unicode/utf8.first", "unicode/utf8.acceptRanges", "internal/bytealg.MaxLen"], plainKeys := false, apart := false, laid := [("unicode/utf8.acceptRanges", laid_unicode_utf8_acceptRanges), ("unicode/utf8.first", laid_unicode_utf8_first)], narrowed := true }
def AutoOfUptoSaid : Prop := autoOfUptoRow.holds Tryz.pinned (OpenSpec.upto autoOfSpec)

/-- 'cognatelaw06.AutoOne', WHERE WHAT IT READS IS OF BULK AT MOST 1048576: true; the input reads as it did. -/
def autoOneUptoRow : OpenClaim := { program := "ytnaccglcbfeenaagreatdoor", sum := "b54afb4d4b2766aea0683a2d2925aa96b8f102961aebccbe008838f5039527b4", func := "cognate/cognatelaw06.AutoOne", spec := "autoOne", inPlace := ["internal/bytealg.IndexByteString", "internal/bytealg.IndexString"], unfollowed := true, recurses := true, named := ["unicode/utf8.first", "unicode/utf8.acceptRanges", "internal/bytealg.MaxLen"], plainKeys := false, apart := false, laid := [("unicode/utf8.acceptRanges", laid_unicode_utf8_acceptRanges), ("unicode/utf8.first", laid_unicode_utf8_first)], narrowed := true }
def AutoOneUptoSaid : Prop := autoOneUptoRow.holds Tryz.pinned (OpenSpec.upto autoOneSpec)

/-- 'cognatelaw06.AutoList', WHERE WHAT IT READS IS OF BULK AT MOST 1048576: true; the input reads as it did. -/
def autoListUptoRow : OpenClaim := { program := "ytnaccglcbfeenaagreatdoor", sum := "b54afb4d4b2766aea0683a2d2925aa96b8f102961aebccbe008838f5039527b4", func := "cognate/cognatelaw06.AutoList", spec := "autoList", inPlace := ["internal/bytealg.IndexByteString", "internal/bytealg.IndexString"], unfollowed := true, recurses := true, named := ["unicode/utf8.first", "unicode/utf8.acceptRanges", "internal/bytealg.MaxLen"], plainKeys := false, apart := false, laid := [("unicode/utf8.acceptRanges", laid_unicode_utf8_acceptRanges), ("unicode/utf8.first", laid_unicode_utf8_first)], narrowed := true }
def AutoListUptoSaid : Prop := autoListUptoRow.holds Tryz.pinned (OpenSpec.upto autoListSpec)

/-- 'cognatelaw06.AutoPattern', WHERE WHAT IT READS IS OF BULK AT MOST 1048576: true; the input reads as it did. -/
def autoPatternUptoRow : OpenClaim := { program := "ytnaccglcbfeenaagreatdoor", sum := "b54afb4d4b2766aea0683a2d2925aa96b8f102961aebccbe008838f5039527b4", func := "cognate/cognatelaw06.AutoPattern", spec := "autoPattern", inPlace := ["internal/bytealg.IndexByteString", "internal/bytealg.IndexString", "internal/abi.NoEscape"], unfollowed := true, recurses := true, named := ["unicode/utf8.first", "unicode/utf8.acceptRanges", "internal/bytealg.MaxLen"], plainKeys := false, apart := false, laid := [("unicode/utf8.acceptRanges", laid_unicode_utf8_acceptRanges), ("unicode/utf8.first", laid_unicode_utf8_first)], narrowed := true }
def AutoPatternUptoSaid : Prop := autoPatternUptoRow.holds Tryz.pinned (OpenSpec.upto autoPatternSpec)

end Rows
end Go.Proofs.YtnaccglcbfeenaaGreatDoor
