/-
  NARROWER THAN 'FOR EVERY INPUT', by the rows' own cells (each row's printed sentence says how): TopUtf: laid.
  DERIVED. THE GIVEN ROWS OF THIS SEAT. 1 by the template 'for every input the law returns true; each argument reads behind the call as it read before'; 0 by the template 'total and deterministic' (their statements: YtcaaadaikfnbaaaGreatDoorTotals.lean).
  GIVEN WITH THE SEED: the statements are not yours to turn. If you find one false, say at which input.
  Laid BY PROGRAM, IN A SANDBOX (cutbox-rows.mjs): the forced cells as the released guide's own fill.sh prints them over the translation 196e6bef84ae5265… (all of the seat's roots in one cut). By AI agents, Wed Nov 11 2026. No macro, syntax, notation, axiom, sorry.
-/
import Derived.Test.YtcaaadaikfnbaaaGreatDoorChecked
import GoSem.PinnedTables
import GoSem.Claim
import GoSem.ClaimJoined
import GoSem.ClaimMapViews
import Derived.JoinedTies
import Derived.KernelRfl
namespace Go.Proofs.YtcaaadaikfnbaaaGreatDoor
/- THE CELL 'sum', in the pinned program and in every row, IS THE sha256 OF THE DUMP (.gsa) THAT YtcaaadaikfnbaaaGreatDoorProg.lean LOADS. Nothing in Lean hashes anything: it is a label: what it is worth is what the hold of that sum in a sandbox is worth. -/
noncomputable def Tryz.pinned : Pinned := { name := "ytcaaadaikfnbaaagreatdoor", sum := "196e6bef84ae526520bb9c16613ee19b9fc2d31fa0a5b63d24bd88cf612ee10f", checked := Tryz.checked }
namespace Rows
def none {H : Type} : Left H := { results := [], args := [] }

/- WHAT THE LISTED PACKAGE-LEVEL VARIABLES READ AS WHEN THE CALL BEGINS. Each datum BY PROGRAM (the guide's laid-datum.mjs) off the statement by which the dump's own 'gosem.cut.vars' lays the variable. In a bare row this is a premise. The card (YtcaaadaikfnbaaaGreatDoorCards.lean) ties it to the program's text. -/
def laid_inkhorn_hangul_kinds {H : Type} : DataW H := .agg [.agg [.lit (.int .i32 4352), .lit (.int .i32 19)], .agg [.lit (.int .i32 4449), .lit (.int .i32 21)], .agg [.lit (.int .i32 4519), .lit (.int .i32 28)]]
def laid_unicode_utf8_acceptRanges {H : Type} : DataW H := .agg [.agg [.lit (.int .u8 128), .lit (.int .u8 191)], .agg [.lit (.int .u8 160), .lit (.int .u8 191)], .agg [.lit (.int .u8 128), .lit (.int .u8 159)], .agg [.lit (.int .u8 144), .lit (.int .u8 191)], .agg [.lit (.int .u8 128), .lit (.int .u8 143)], .agg [.lit (.int .u8 0), .lit (.int .u8 0)], .agg [.lit (.int .u8 0), .lit (.int .u8 0)], .agg [.lit (.int .u8 0), .lit (.int .u8 0)], .agg [.lit (.int .u8 0), .lit (.int .u8 0)], .agg [.lit (.int .u8 0), .lit (.int .u8 0)], .agg [.lit (.int .u8 0), .lit (.int .u8 0)], .agg [.lit (.int .u8 0), .lit (.int .u8 0)], .agg [.lit (.int .u8 0), .lit (.int .u8 0)], .agg [.lit (.int .u8 0), .lit (.int .u8 0)], .agg [.lit (.int .u8 0), .lit (.int .u8 0)], .agg [.lit (.int .u8 0), .lit (.int .u8 0)]]
def laid_inkhorn_utf8_rows {H : Type} : DataW H := .agg [.agg [.lit (.int .i32 127), .lit (.int .i64 0), .lit (.int .i64 7)], .agg [.lit (.int .i32 2047), .lit (.int .i64 192), .lit (.int .i64 5)], .agg [.lit (.int .i32 65535), .lit (.int .i64 224), .lit (.int .i64 4)], .agg [.lit (.int .i32 1114111), .lit (.int .i64 240), .lit (.int .i64 3)]]
/-- One of Go's own tables, pinned by name: the form's constant. -/
def laid_unicode_utf8_first : DataW Unit := Go.Pinned.utf8First

/-- 'inkhorntop.TopUtf': WHATEVER THE INPUT: true; the input reads as it did. -/
def topUtfSpec : ChangeSpec := { name := "topUtf", fn := fun _ => fun
  | [d1, d2, d3, d4] => { results := [.lit (.bool true)], args := [d1, d2, d3, d4] }
  | _ => none }
def topUtfRow : OpenClaim := { program := "ytcaaadaikfnbaaagreatdoor", sum := "196e6bef84ae526520bb9c16613ee19b9fc2d31fa0a5b63d24bd88cf612ee10f", func := "inkhorn/inkhorntop.TopUtf", spec := "topUtf", inPlace := ["internal/abi.NoEscape", "internal/bytealg.MakeNoZero", "internal/bytealg.CountString", "internal/bytealg.IndexByteString", "internal/bytealg.IndexString"], unfollowed := true, recurses := true, named := ["inkhorn/utf8.rows", "unicode/utf8.first", "unicode/utf8.acceptRanges", "internal/bytealg.MaxLen", "inkhorn/hangul.kinds"], plainKeys := false, apart := false, laid := [("inkhorn/hangul.kinds", laid_inkhorn_hangul_kinds), ("unicode/utf8.acceptRanges", laid_unicode_utf8_acceptRanges), ("inkhorn/utf8.rows", laid_inkhorn_utf8_rows), ("unicode/utf8.first", laid_unicode_utf8_first)] }
def TopUtfSaid : Prop := topUtfRow.holds Tryz.pinned (OpenSpec.ofChange topUtfSpec)

/-- ITS FALSE NEIGHBOUR: 'it returns false'. Refute it at one input. -/
def topUtfWrong : ChangeSpec := { name := "topUtf", fn := fun _ => fun
  | [d1, d2, d3, d4] => { results := [.lit (.bool false)], args := [d1, d2, d3, d4] }
  | _ => none }
def TopUtfWrongFalsely : Prop := topUtfRow.holds Tryz.pinned (OpenSpec.ofChange topUtfWrong)

/- THE SECOND FORM. 'bulk': how many values and letters a reading holds, each counted each time it is reached (what is shared counts as often as it is met; a slice's spare places count too). A statement '..UptoSaid' is the law's where the arguments, and the package variables that the reading takes, are together of bulk at most 1048576: NARROWER than '..Said'. Prove '..Said' where nothing that the law and all that it calls make is longer than what came in: it says more and counts as full. Else prove '..UptoSaid'. A law counts once. -/
mutual
def uptoBulk {H : Type} : DataW H → Nat
  | .lit (.string bytes) => bytes.length + 1
  | .lit _ => 1
  | .nil => 1
  | .ptr d => uptoBulk d + 1
  | .slice elems spare => uptoBulkAll elems + uptoBulkAll spare + 1
  | .agg parts => uptoBulkAll parts + 1
  | .iface _ d => uptoBulk d + 1
  | .map entries => uptoBulkEntries entries + 1
  | .held _ => 1
def uptoBulkAll {H : Type} : List (DataW H) → Nat
  | [] => 0
  | d :: r => uptoBulk d + uptoBulkAll r
def uptoBulkEntries {H : Type} : List (Lit × DataW H) → Nat
  | [] => 0
  | x :: r => uptoBulkEntry x + uptoBulkEntries r
def uptoBulkEntry {H : Type} : Lit × DataW H → Nat
  | (.string bytes, d) => bytes.length + uptoBulk d + 1
  | (_, d) => uptoBulk d + 1
 end
def uptoSmall : (H : Type) → List (DataW H) → Bool := fun _ ds => decide (uptoBulkAll ds ≤ 1048576)
def OpenSpec.upto (s : _root_.Go.ChangeSpec) : _root_.Go.OpenSpec := { _root_.Go.OpenSpec.ofChange s with cond := some uptoSmall }

/-- 'inkhorntop.TopUtf', WHERE WHAT IT READS IS OF BULK AT MOST 1048576: true; the input reads as it did. -/
def topUtfUptoRow : OpenClaim := { program := "ytcaaadaikfnbaaagreatdoor", sum := "196e6bef84ae526520bb9c16613ee19b9fc2d31fa0a5b63d24bd88cf612ee10f", func := "inkhorn/inkhorntop.TopUtf", spec := "topUtf", inPlace := ["internal/abi.NoEscape", "internal/bytealg.MakeNoZero", "internal/bytealg.CountString", "internal/bytealg.IndexByteString", "internal/bytealg.IndexString"], unfollowed := true, recurses := true, named := ["inkhorn/utf8.rows", "unicode/utf8.first", "unicode/utf8.acceptRanges", "internal/bytealg.MaxLen", "inkhorn/hangul.kinds"], plainKeys := false, apart := false, laid := [("inkhorn/hangul.kinds", laid_inkhorn_hangul_kinds), ("unicode/utf8.acceptRanges", laid_unicode_utf8_acceptRanges), ("inkhorn/utf8.rows", laid_inkhorn_utf8_rows), ("unicode/utf8.first", laid_unicode_utf8_first)], narrowed := true }
def TopUtfUptoSaid : Prop := topUtfUptoRow.holds Tryz.pinned (OpenSpec.upto topUtfSpec)

end Rows
end Go.Proofs.YtcaaadaikfnbaaaGreatDoor
