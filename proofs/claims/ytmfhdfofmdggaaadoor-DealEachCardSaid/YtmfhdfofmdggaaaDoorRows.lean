/-
  NARROWER THAN 'FOR EVERY INPUT', by the rows' own cells (each row's printed sentence says how): CardsBack: laid · CardsEach: laid · CardsCuts: laid · CardsReads: laid · DealHonest: laid · DealEach: laid · DealFalse: laid.
  DERIVED. THE GIVEN ROWS OF THIS SEAT. 7 by the template 'for every input the law returns true; each argument reads behind the call as it read before'; 0 by the template 'total and deterministic' (their statements: YtmfhdfofmdggaaaDoorTotals.lean).
  GIVEN WITH THE SEED: the statements are not yours to turn. If you find one false, say at which input.
  Laid BY PROGRAM, IN A SANDBOX (cutbox-rows.mjs): the forced cells as the released guide's own fill.sh prints them over the translation c3cad8dc18f2f95d… (all of the seat's roots in one cut). By AI agents, Wed Nov 11 2026. No macro, syntax, notation, axiom, sorry.
-/
import Derived.Test.YtmfhdfofmdggaaaDoorChecked
import GoSem.PinnedTables
import GoSem.Claim
import GoSem.ClaimJoined
import GoSem.ClaimMapViews
import Derived.JoinedTies
import Derived.KernelRfl
namespace Go.Proofs.YtmfhdfofmdggaaaDoor
/- THE CELL 'sum', in the pinned program and in every row, IS THE sha256 OF THE DUMP (.gsa) THAT YtmfhdfofmdggaaaDoorProg.lean LOADS. Nothing in Lean hashes anything: it is a label: what it is worth is what the hold of that sum in a sandbox is worth. -/
noncomputable def Tryd.pinned : Pinned := { name := "ytmfhdfofmdggaaadoor", sum := "c3cad8dc18f2f95d1ee37d764bad4b1d77eac7bf91fedd7d24baf890d881b694", checked := Tryd.checked }
namespace Rows
def none {H : Type} : Left H := { results := [], args := [] }

/- WHAT THE LISTED PACKAGE-LEVEL VARIABLES READ AS WHEN THE CALL BEGINS. Each datum BY PROGRAM (the guide's laid-datum.mjs) off the statement by which the dump's own 'gosem.cut.vars' lays the variable. In a bare row this is a premise. The card (YtmfhdfofmdggaaaDoorCards.lean) ties it to the program's text. -/
def laid_unicode_utf8_acceptRanges {H : Type} : DataW H := .agg [.agg [.lit (.int .u8 128), .lit (.int .u8 191)], .agg [.lit (.int .u8 160), .lit (.int .u8 191)], .agg [.lit (.int .u8 128), .lit (.int .u8 159)], .agg [.lit (.int .u8 144), .lit (.int .u8 191)], .agg [.lit (.int .u8 128), .lit (.int .u8 143)], .agg [.lit (.int .u8 0), .lit (.int .u8 0)], .agg [.lit (.int .u8 0), .lit (.int .u8 0)], .agg [.lit (.int .u8 0), .lit (.int .u8 0)], .agg [.lit (.int .u8 0), .lit (.int .u8 0)], .agg [.lit (.int .u8 0), .lit (.int .u8 0)], .agg [.lit (.int .u8 0), .lit (.int .u8 0)], .agg [.lit (.int .u8 0), .lit (.int .u8 0)], .agg [.lit (.int .u8 0), .lit (.int .u8 0)], .agg [.lit (.int .u8 0), .lit (.int .u8 0)], .agg [.lit (.int .u8 0), .lit (.int .u8 0)], .agg [.lit (.int .u8 0), .lit (.int .u8 0)]]
/-- One of Go's own tables, pinned by name: the form's constant. -/
def laid_unicode_utf8_first : DataW Unit := Go.Pinned.utf8First

/-- 'gamehallkeep2.CardsBack': WHATEVER THE INPUT: true; the input reads as it did. -/
def cardsBackSpec : ChangeSpec := { name := "cardsBack", fn := fun _ => fun
  | [d1, d2] => { results := [.lit (.bool true)], args := [d1, d2] }
  | _ => none }
def cardsBackRow : OpenClaim := { program := "ytmfhdfofmdggaaadoor", sum := "c3cad8dc18f2f95d1ee37d764bad4b1d77eac7bf91fedd7d24baf890d881b694", func := "gamehall/gamehallkeep2.CardsBack", spec := "cardsBack", inPlace := ["internal/abi.NoEscape", "internal/bytealg.MakeNoZero", "internal/bytealg.CountString", "internal/bytealg.IndexByteString", "internal/bytealg.IndexString"], unfollowed := true, recurses := true, named := ["unicode/utf8.first", "unicode/utf8.acceptRanges", "internal/bytealg.MaxLen"], apart := false, laid := [("unicode/utf8.acceptRanges", laid_unicode_utf8_acceptRanges), ("unicode/utf8.first", laid_unicode_utf8_first)] }
def CardsBackSaid : Prop := cardsBackRow.holds Tryd.pinned (OpenSpec.ofChange cardsBackSpec)

/-- ITS FALSE NEIGHBOUR: 'it returns false'. Refute it at one input. -/
def cardsBackWrong : ChangeSpec := { name := "cardsBack", fn := fun _ => fun
  | [d1, d2] => { results := [.lit (.bool false)], args := [d1, d2] }
  | _ => none }
def CardsBackWrongFalsely : Prop := cardsBackRow.holds Tryd.pinned (OpenSpec.ofChange cardsBackWrong)

/-- 'gamehallkeep2.CardsEach': WHATEVER THE INPUT: true; the input reads as it did. -/
def cardsEachSpec : ChangeSpec := { name := "cardsEach", fn := fun _ => fun
  | [d] => { results := [.lit (.bool true)], args := [d] }
  | _ => none }
def cardsEachRow : OpenClaim := { program := "ytmfhdfofmdggaaadoor", sum := "c3cad8dc18f2f95d1ee37d764bad4b1d77eac7bf91fedd7d24baf890d881b694", func := "gamehall/gamehallkeep2.CardsEach", spec := "cardsEach", inPlace := ["internal/abi.NoEscape", "internal/bytealg.MakeNoZero", "internal/bytealg.CountString", "internal/bytealg.IndexByteString", "internal/bytealg.IndexString"], unfollowed := true, recurses := true, named := ["unicode/utf8.first", "unicode/utf8.acceptRanges", "internal/bytealg.MaxLen"], apart := false, laid := [("unicode/utf8.acceptRanges", laid_unicode_utf8_acceptRanges), ("unicode/utf8.first", laid_unicode_utf8_first)] }
def CardsEachSaid : Prop := cardsEachRow.holds Tryd.pinned (OpenSpec.ofChange cardsEachSpec)

/-- ITS FALSE NEIGHBOUR: 'it returns false'. Refute it at one input. -/
def cardsEachWrong : ChangeSpec := { name := "cardsEach", fn := fun _ => fun
  | [d] => { results := [.lit (.bool false)], args := [d] }
  | _ => none }
def CardsEachWrongFalsely : Prop := cardsEachRow.holds Tryd.pinned (OpenSpec.ofChange cardsEachWrong)

/-- 'gamehallkeep2.CardsCuts': WHATEVER THE INPUT: true; the input reads as it did. -/
def cardsCutsSpec : ChangeSpec := { name := "cardsCuts", fn := fun _ => fun
  | [d1, d2, d3, d4] => { results := [.lit (.bool true)], args := [d1, d2, d3, d4] }
  | _ => none }
def cardsCutsRow : OpenClaim := { program := "ytmfhdfofmdggaaadoor", sum := "c3cad8dc18f2f95d1ee37d764bad4b1d77eac7bf91fedd7d24baf890d881b694", func := "gamehall/gamehallkeep2.CardsCuts", spec := "cardsCuts", inPlace := ["internal/abi.NoEscape", "internal/bytealg.MakeNoZero", "internal/bytealg.CountString", "internal/bytealg.IndexByteString", "internal/bytealg.IndexString"], unfollowed := true, recurses := true, named := ["unicode/utf8.first", "unicode/utf8.acceptRanges", "internal/bytealg.MaxLen"], apart := false, laid := [("unicode/utf8.acceptRanges", laid_unicode_utf8_acceptRanges), ("unicode/utf8.first", laid_unicode_utf8_first)] }
def CardsCutsSaid : Prop := cardsCutsRow.holds Tryd.pinned (OpenSpec.ofChange cardsCutsSpec)

/-- ITS FALSE NEIGHBOUR: 'it returns false'. Refute it at one input. -/
def cardsCutsWrong : ChangeSpec := { name := "cardsCuts", fn := fun _ => fun
  | [d1, d2, d3, d4] => { results := [.lit (.bool false)], args := [d1, d2, d3, d4] }
  | _ => none }
def CardsCutsWrongFalsely : Prop := cardsCutsRow.holds Tryd.pinned (OpenSpec.ofChange cardsCutsWrong)

/-- 'gamehallkeep2.CardsReads': WHATEVER THE INPUT: true; the input reads as it did. -/
def cardsReadsSpec : ChangeSpec := { name := "cardsReads", fn := fun _ => fun
  | [d1, d2] => { results := [.lit (.bool true)], args := [d1, d2] }
  | _ => none }
def cardsReadsRow : OpenClaim := { program := "ytmfhdfofmdggaaadoor", sum := "c3cad8dc18f2f95d1ee37d764bad4b1d77eac7bf91fedd7d24baf890d881b694", func := "gamehall/gamehallkeep2.CardsReads", spec := "cardsReads", inPlace := ["internal/abi.NoEscape", "internal/bytealg.MakeNoZero", "internal/bytealg.CountString", "internal/bytealg.IndexByteString", "internal/bytealg.IndexString"], unfollowed := true, recurses := true, named := ["unicode/utf8.first", "unicode/utf8.acceptRanges", "internal/bytealg.MaxLen"], apart := false, laid := [("unicode/utf8.acceptRanges", laid_unicode_utf8_acceptRanges), ("unicode/utf8.first", laid_unicode_utf8_first)] }
def CardsReadsSaid : Prop := cardsReadsRow.holds Tryd.pinned (OpenSpec.ofChange cardsReadsSpec)

/-- ITS FALSE NEIGHBOUR: 'it returns false'. Refute it at one input. -/
def cardsReadsWrong : ChangeSpec := { name := "cardsReads", fn := fun _ => fun
  | [d1, d2] => { results := [.lit (.bool false)], args := [d1, d2] }
  | _ => none }
def CardsReadsWrongFalsely : Prop := cardsReadsRow.holds Tryd.pinned (OpenSpec.ofChange cardsReadsWrong)

/-- 'gamehallkeep2.DealHonest': WHATEVER THE INPUT: true; the input reads as it did. -/
def dealHonestSpec : ChangeSpec := { name := "dealHonest", fn := fun _ => fun
  | [d1, d2] => { results := [.lit (.bool true)], args := [d1, d2] }
  | _ => none }
def dealHonestRow : OpenClaim := { program := "ytmfhdfofmdggaaadoor", sum := "c3cad8dc18f2f95d1ee37d764bad4b1d77eac7bf91fedd7d24baf890d881b694", func := "gamehall/gamehallkeep2.DealHonest", spec := "dealHonest", inPlace := ["internal/abi.NoEscape", "internal/bytealg.MakeNoZero", "internal/bytealg.CountString", "internal/bytealg.IndexByteString", "internal/bytealg.IndexString"], unfollowed := true, recurses := true, named := ["unicode/utf8.first", "unicode/utf8.acceptRanges", "internal/bytealg.MaxLen"], apart := false, laid := [("unicode/utf8.acceptRanges", laid_unicode_utf8_acceptRanges), ("unicode/utf8.first", laid_unicode_utf8_first)] }
def DealHonestSaid : Prop := dealHonestRow.holds Tryd.pinned (OpenSpec.ofChange dealHonestSpec)

/-- ITS FALSE NEIGHBOUR: 'it returns false'. Refute it at one input. -/
def dealHonestWrong : ChangeSpec := { name := "dealHonest", fn := fun _ => fun
  | [d1, d2] => { results := [.lit (.bool false)], args := [d1, d2] }
  | _ => none }
def DealHonestWrongFalsely : Prop := dealHonestRow.holds Tryd.pinned (OpenSpec.ofChange dealHonestWrong)

/-- 'gamehallkeep2.DealEach': WHATEVER THE INPUT: true; the input reads as it did. -/
def dealEachSpec : ChangeSpec := { name := "dealEach", fn := fun _ => fun
  | [d1, d2] => { results := [.lit (.bool true)], args := [d1, d2] }
  | _ => none }
def dealEachRow : OpenClaim := { program := "ytmfhdfofmdggaaadoor", sum := "c3cad8dc18f2f95d1ee37d764bad4b1d77eac7bf91fedd7d24baf890d881b694", func := "gamehall/gamehallkeep2.DealEach", spec := "dealEach", inPlace := ["internal/abi.NoEscape", "internal/bytealg.MakeNoZero", "internal/bytealg.CountString", "internal/bytealg.IndexByteString", "internal/bytealg.IndexString"], unfollowed := true, recurses := true, named := ["unicode/utf8.first", "unicode/utf8.acceptRanges", "internal/bytealg.MaxLen"], apart := false, laid := [("unicode/utf8.acceptRanges", laid_unicode_utf8_acceptRanges), ("unicode/utf8.first", laid_unicode_utf8_first)] }
def DealEachSaid : Prop := dealEachRow.holds Tryd.pinned (OpenSpec.ofChange dealEachSpec)

/-- ITS FALSE NEIGHBOUR: 'it returns false'. Refute it at one input. -/
def dealEachWrong : ChangeSpec := { name := "dealEach", fn := fun _ => fun
  | [d1, d2] => { results := [.lit (.bool false)], args := [d1, d2] }
  | _ => none }
def DealEachWrongFalsely : Prop := dealEachRow.holds Tryd.pinned (OpenSpec.ofChange dealEachWrong)

/-- 'gamehallkeep2.DealFalse': WHATEVER THE INPUT: true; the input reads as it did. -/
def dealFalseSpec : ChangeSpec := { name := "dealFalse", fn := fun _ => fun
  | [d1, d2, d3, d4] => { results := [.lit (.bool true)], args := [d1, d2, d3, d4] }
  | _ => none }
def dealFalseRow : OpenClaim := { program := "ytmfhdfofmdggaaadoor", sum := "c3cad8dc18f2f95d1ee37d764bad4b1d77eac7bf91fedd7d24baf890d881b694", func := "gamehall/gamehallkeep2.DealFalse", spec := "dealFalse", inPlace := ["internal/abi.NoEscape", "internal/bytealg.MakeNoZero", "internal/bytealg.CountString", "internal/bytealg.IndexByteString", "internal/bytealg.IndexString"], unfollowed := true, recurses := true, named := ["unicode/utf8.first", "unicode/utf8.acceptRanges", "internal/bytealg.MaxLen"], apart := false, laid := [("unicode/utf8.acceptRanges", laid_unicode_utf8_acceptRanges), ("unicode/utf8.first", laid_unicode_utf8_first)] }
def DealFalseSaid : Prop := dealFalseRow.holds Tryd.pinned (OpenSpec.ofChange dealFalseSpec)

/-- ITS FALSE NEIGHBOUR: 'it returns false'. Refute it at one input. -/
def dealFalseWrong : ChangeSpec := { name := "dealFalse", fn := fun _ => fun
  | [d1, d2, d3, d4] => { results := [.lit (.bool false)], args := [d1, d2, d3, d4] }
  | _ => none }
def DealFalseWrongFalsely : Prop := dealFalseRow.holds Tryd.pinned (OpenSpec.ofChange dealFalseWrong)

/- THE SECOND FORM. 'bulk': how many values and letters a reading holds, each counted each time it is reached (what is shared counts as often as it is met; a slice's spare places count too). A statement '..UptoSaid' is the law's where the arguments, and the package variables that the reading takes, are together of bulk at most 1048576: NARROWER than '..Said'. Prove '..Said' where nothing that the law and all that it calls make is longer than what came in: it says more and counts as full. Else prove '..UptoSaid'. A law counts once. -/
mutual
def uptoBulk {H : Type} : DataW H → Nat
  | .lit (.string bytes) => bytes.length + 1
  | .lit _ => 1
  | .nil => 1
  | .ptr d => uptoBulk d + 1
  | .slice elems spare => uptoBulkAll elems + uptoBulkAll spare + 1
  | .agg parts => uptoBulkAll parts + 1
  | .iface _ d => uptoBulk d + 1
  | .map entries => uptoBulkEntries entries + 1
  | .held _ => 1
def uptoBulkAll {H : Type} : List (DataW H) → Nat
  | [] => 0
  | d :: r => uptoBulk d + uptoBulkAll r
def uptoBulkEntries {H : Type} : List (Lit × DataW H) → Nat
  | [] => 0
  | x :: r => uptoBulkEntry x + uptoBulkEntries r
def uptoBulkEntry {H : Type} : Lit × DataW H → Nat
  | (.string bytes, d) => bytes.length + uptoBulk d + 1
  | (_, d) => uptoBulk d + 1
 end
def uptoSmall : (H : Type) → List (DataW H) → Bool := fun _ ds => decide (uptoBulkAll ds ≤ 1048576)
def OpenSpec.upto (s : _root_.Go.ChangeSpec) : _root_.Go.OpenSpec := { _root_.Go.OpenSpec.ofChange s with cond := some uptoSmall }

/-- 'gamehallkeep2.CardsBack', WHERE WHAT IT READS IS OF BULK AT MOST 1048576: true; the input reads as it did. -/
def cardsBackUptoRow : OpenClaim := { program := "ytmfhdfofmdggaaadoor", sum := "c3cad8dc18f2f95d1ee37d764bad4b1d77eac7bf91fedd7d24baf890d881b694", func := "gamehall/gamehallkeep2.CardsBack", spec := "cardsBack", inPlace := ["internal/abi.NoEscape", "internal/bytealg.MakeNoZero", "internal/bytealg.CountString", "internal/bytealg.IndexByteString", "internal/bytealg.IndexString"], unfollowed := true, recurses := true, named := ["unicode/utf8.first", "unicode/utf8.acceptRanges", "internal/bytealg.MaxLen"], apart := false, laid := [("unicode/utf8.acceptRanges", laid_unicode_utf8_acceptRanges), ("unicode/utf8.first", laid_unicode_utf8_first)], narrowed := true }
def CardsBackUptoSaid : Prop := cardsBackUptoRow.holds Tryd.pinned (OpenSpec.upto cardsBackSpec)

/-- 'gamehallkeep2.CardsEach', WHERE WHAT IT READS IS OF BULK AT MOST 1048576: true; the input reads as it did. -/
def cardsEachUptoRow : OpenClaim := { program := "ytmfhdfofmdggaaadoor", sum := "c3cad8dc18f2f95d1ee37d764bad4b1d77eac7bf91fedd7d24baf890d881b694", func := "gamehall/gamehallkeep2.CardsEach", spec := "cardsEach", inPlace := ["internal/abi.NoEscape", "internal/bytealg.MakeNoZero", "internal/bytealg.CountString", "internal/bytealg.IndexByteString", "internal/bytealg.IndexString"], unfollowed := true, recurses := true, named := ["unicode/utf8.first", "unicode/utf8.acceptRanges", "internal/bytealg.MaxLen"], apart := false, laid := [("unicode/utf8.acceptRanges", laid_unicode_utf8_acceptRanges), ("unicode/utf8.first", laid_unicode_utf8_first)], narrowed := true }
def CardsEachUptoSaid : Prop := cardsEachUptoRow.holds Tryd.pinned (OpenSpec.upto cardsEachSpec)

/-- 'gamehallkeep2.CardsCuts', WHERE WHAT IT READS IS OF BULK AT MOST 1048576: true; the input reads as it did. -/
def cardsCutsUptoRow : OpenClaim := { program := "ytmfhdfofmdggaaadoor", sum := "c3cad8dc18f2f95d1ee37d764bad4b1d77eac7bf91fedd7d24baf890d881b694", func := "gamehall/gamehallkeep2.CardsCuts", spec := "cardsCuts", inPlace := ["internal/abi.NoEscape", "internal/bytealg.MakeNoZero", "internal/bytealg.CountString", "internal/bytealg.IndexByteString", "internal/bytealg.IndexString"], unfollowed := true, recurses := true, named := ["unicode/utf8.first", "unicode/utf8.acceptRanges", "internal/bytealg.MaxLen"], apart := false, laid := [("unicode/utf8.acceptRanges", laid_unicode_utf8_acceptRanges), ("unicode/utf8.first", laid_unicode_utf8_first)], narrowed := true }
def CardsCutsUptoSaid : Prop := cardsCutsUptoRow.holds Tryd.pinned (OpenSpec.upto cardsCutsSpec)

/-- 'gamehallkeep2.CardsReads', WHERE WHAT IT READS IS OF BULK AT MOST 1048576: true; the input reads as it did. -/
def cardsReadsUptoRow : OpenClaim := { program := "ytmfhdfofmdggaaadoor", sum := "c3cad8dc18f2f95d1ee37d764bad4b1d77eac7bf91fedd7d24baf890d881b694", func := "gamehall/gamehallkeep2.CardsReads", spec := "cardsReads", inPlace := ["internal/abi.NoEscape", "internal/bytealg.MakeNoZero", "internal/bytealg.CountString", "internal/bytealg.IndexByteString", "internal/bytealg.IndexString"], unfollowed := true, recurses := true, named := ["unicode/utf8.first", "unicode/utf8.acceptRanges", "internal/bytealg.MaxLen"], apart := false, laid := [("unicode/utf8.acceptRanges", laid_unicode_utf8_acceptRanges), ("unicode/utf8.first", laid_unicode_utf8_first)], narrowed := true }
def CardsReadsUptoSaid : Prop := cardsReadsUptoRow.holds Tryd.pinned (OpenSpec.upto cardsReadsSpec)

/-- 'gamehallkeep2.DealHonest', WHERE WHAT IT READS IS OF BULK AT MOST 1048576: true; the input reads as it did. -/
def dealHonestUptoRow : OpenClaim := { program := "ytmfhdfofmdggaaadoor", sum := "c3cad8dc18f2f95d1ee37d764bad4b1d77eac7bf91fedd7d24baf890d881b694", func := "gamehall/gamehallkeep2.DealHonest", spec := "dealHonest", inPlace := ["internal/abi.NoEscape", "internal/bytealg.MakeNoZero", "internal/bytealg.CountString", "internal/bytealg.IndexByteString", "internal/bytealg.IndexString"], unfollowed := true, recurses := true, named := ["unicode/utf8.first", "unicode/utf8.acceptRanges", "internal/bytealg.MaxLen"], apart := false, laid := [("unicode/utf8.acceptRanges", laid_unicode_utf8_acceptRanges), ("unicode/utf8.first", laid_unicode_utf8_first)], narrowed := true }
def DealHonestUptoSaid : Prop := dealHonestUptoRow.holds Tryd.pinned (OpenSpec.upto dealHonestSpec)

/-- 'gamehallkeep2.DealEach', WHERE WHAT IT READS IS OF BULK AT MOST 1048576: true; the input reads as it did. -/
def dealEachUptoRow : OpenClaim := { program := "ytmfhdfofmdggaaadoor", sum := "c3cad8dc18f2f95d1ee37d764bad4b1d77eac7bf91fedd7d24baf890d881b694", func := "gamehall/gamehallkeep2.DealEach", spec := "dealEach", inPlace := ["internal/abi.NoEscape", "internal/bytealg.MakeNoZero", "internal/bytealg.CountString", "internal/bytealg.IndexByteString", "internal/bytealg.IndexString"], unfollowed := true, recurses := true, named := ["unicode/utf8.first", "unicode/utf8.acceptRanges", "internal/bytealg.MaxLen"], apart := false, laid := [("unicode/utf8.acceptRanges", laid_unicode_utf8_acceptRanges), ("unicode/utf8.first", laid_unicode_utf8_first)], narrowed := true }
def DealEachUptoSaid : Prop := dealEachUptoRow.holds Tryd.pinned (OpenSpec.upto dealEachSpec)

/-- 'gamehallkeep2.DealFalse', WHERE WHAT IT READS IS OF BULK AT MOST 1048576: true; the input reads as it did. -/
def dealFalseUptoRow : OpenClaim := { program := "ytmfhdfofmdggaaadoor", sum := "c3cad8dc18f2f95d1ee37d764bad4b1d77eac7bf91fedd7d24baf890d881b694", func := "gamehall/gamehallkeep2.DealFalse", spec := "dealFalse", inPlace := ["internal/abi.NoEscape", "internal/bytealg.MakeNoZero", "internal/bytealg.CountString", "internal/bytealg.IndexByteString", "internal/bytealg.IndexString"], unfollowed := true, recurses := true, named := ["unicode/utf8.first", "unicode/utf8.acceptRanges", "internal/bytealg.MaxLen"], apart := false, laid := [("unicode/utf8.acceptRanges", laid_unicode_utf8_acceptRanges), ("unicode/utf8.first", laid_unicode_utf8_first)], narrowed := true }
def DealFalseUptoSaid : Prop := dealFalseUptoRow.holds Tryd.pinned (OpenSpec.upto dealFalseSpec)

end Rows
end Go.Proofs.YtmfhdfofmdggaaaDoor
