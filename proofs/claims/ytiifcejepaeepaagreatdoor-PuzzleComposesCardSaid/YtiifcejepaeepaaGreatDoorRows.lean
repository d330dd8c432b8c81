/-
  NARROWER THAN 'FOR EVERY INPUT', by the rows' own cells (each row's printed sentence says how): RetroLongest: laid · RetroFollows: laid · RetroBests: laid · RetroClosed: laid · PuzzleSingles: laid · PuzzleProves: laid · PuzzleRefuses: laid · PuzzleComposes: laid · PuzzleChecks: laid · PuzzleWins: laid.
  DERIVED. THE GIVEN ROWS OF THIS SEAT. 10 by the template 'for every input the law returns true; each argument reads behind the call as it read before'; 0 by the template 'total and deterministic' (their statements: YtiifcejepaeepaaGreatDoorTotals.lean).
  GIVEN WITH THE SEED: the statements are not yours to turn. If you find one false, say at which input.
  Laid BY PROGRAM, IN A SANDBOX (cutbox-rows.mjs): the forced cells as the released guide's own fill.sh prints them over the translation fd5bfb7108d9e94d… (all of the seat's roots in one cut). By AI agents, Wed Nov 11 2026. No macro, syntax, notation, axiom, sorry.
-/
import Derived.Test.YtiifcejepaeepaaGreatDoorChecked
import GoSem.Claim
import GoSem.ClaimJoined
import GoSem.ClaimMapViews
import Derived.JoinedTies
import Derived.KernelRfl
namespace Go.Proofs.YtiifcejepaeepaaGreatDoor
/- THE CELL 'sum', in the pinned program and in every row, IS THE sha256 OF THE DUMP (.gsa) THAT YtiifcejepaeepaaGreatDoorProg.lean LOADS. Nothing in Lean hashes anything: it is a label: what it is worth is what the hold of that sum in a sandbox is worth. -/
noncomputable def Tryz.pinned : Pinned := { name := "ytiifcejepaeepaagreatdoor", sum := "fd5bfb7108d9e94d096e96c0bdeca2bc4d60a2b606d6522ba194e04c4e64d7f8", checked := Tryz.checked }
namespace Rows
def none {H : Type} : Left H := { results := [], args := [] }

/- WHAT THE LISTED PACKAGE-LEVEL VARIABLES READ AS WHEN THE CALL BEGINS. Each datum BY PROGRAM (the guide's laid-datum.mjs) off the statement by which the dump's own 'gosem.cut.vars' lays the variable. In a bare row this is a premise. The card (YtiifcejepaeepaaGreatDoorCards.lean) ties it to the program's text. -/
def laid_math_bits_deBruijn32tab {H : Type} : DataW H := .agg [.lit (.int .u8 0), .lit (.int .u8 1), .lit (.int .u8 28), .lit (.int .u8 2), .lit (.int .u8 29), .lit (.int .u8 14), .lit (.int .u8 24), .lit (.int .u8 3), .lit (.int .u8 30), .lit (.int .u8 22), .lit (.int .u8 20), .lit (.int .u8 15), .lit (.int .u8 25), .lit (.int .u8 17), .lit (.int .u8 4), .lit (.int .u8 8), .lit (.int .u8 31), .lit (.int .u8 27), .lit (.int .u8 13), .lit (.int .u8 23), .lit (.int .u8 21), .lit (.int .u8 19), .lit (.int .u8 16), .lit (.int .u8 7), .lit (.int .u8 26), .lit (.int .u8 12), .lit (.int .u8 18), .lit (.int .u8 6), .lit (.int .u8 11), .lit (.int .u8 5), .lit (.int .u8 10), .lit (.int .u8 9)]
def laid_math_bits_deBruijn64tab {H : Type} : DataW H := .agg [.lit (.int .u8 0), .lit (.int .u8 1), .lit (.int .u8 56), .lit (.int .u8 2), .lit (.int .u8 57), .lit (.int .u8 49), .lit (.int .u8 28), .lit (.int .u8 3), .lit (.int .u8 61), .lit (.int .u8 58), .lit (.int .u8 42), .lit (.int .u8 50), .lit (.int .u8 38), .lit (.int .u8 29), .lit (.int .u8 17), .lit (.int .u8 4), .lit (.int .u8 62), .lit (.int .u8 47), .lit (.int .u8 59), .lit (.int .u8 36), .lit (.int .u8 45), .lit (.int .u8 43), .lit (.int .u8 51), .lit (.int .u8 22), .lit (.int .u8 53), .lit (.int .u8 39), .lit (.int .u8 33), .lit (.int .u8 30), .lit (.int .u8 24), .lit (.int .u8 18), .lit (.int .u8 12), .lit (.int .u8 5), .lit (.int .u8 63), .lit (.int .u8 55), .lit (.int .u8 48), .lit (.int .u8 27), .lit (.int .u8 60), .lit (.int .u8 41), .lit (.int .u8 37), .lit (.int .u8 16), .lit (.int .u8 46), .lit (.int .u8 35), .lit (.int .u8 44), .lit (.int .u8 21), .lit (.int .u8 52), .lit (.int .u8 32), .lit (.int .u8 23), .lit (.int .u8 11), .lit (.int .u8 54), .lit (.int .u8 26), .lit (.int .u8 40), .lit (.int .u8 15), .lit (.int .u8 34), .lit (.int .u8 20), .lit (.int .u8 31), .lit (.int .u8 10), .lit (.int .u8 25), .lit (.int .u8 14), .lit (.int .u8 19), .lit (.int .u8 9), .lit (.int .u8 13), .lit (.int .u8 8), .lit (.int .u8 7), .lit (.int .u8 6)]
def laid_internal_strconv_uint64pow10 {H : Type} : DataW H := .agg [.lit (.int .u64 1), .lit (.int .u64 10), .lit (.int .u64 100), .lit (.int .u64 1000), .lit (.int .u64 10000), .lit (.int .u64 100000), .lit (.int .u64 1000000), .lit (.int .u64 10000000), .lit (.int .u64 100000000), .lit (.int .u64 1000000000), .lit (.int .u64 10000000000), .lit (.int .u64 100000000000), .lit (.int .u64 1000000000000), .lit (.int .u64 10000000000000), .lit (.int .u64 100000000000000), .lit (.int .u64 1000000000000000), .lit (.int .u64 10000000000000000), .lit (.int .u64 100000000000000000), .lit (.int .u64 1000000000000000000), .lit (.int .u64 10000000000000000000)]

/-- 'gamehallkeep2.RetroLongest': WHATEVER THE INPUT: true; the input reads as it did. -/
def retroLongestSpec : ChangeSpec := { name := "retroLongest", fn := fun _ => fun
  | [d] => { results := [.lit (.bool true)], args := [d] }
  | _ => none }
def retroLongestRow : OpenClaim := { program := "ytiifcejepaeepaagreatdoor", sum := "fd5bfb7108d9e94d096e96c0bdeca2bc4d60a2b606d6522ba194e04c4e64d7f8", func := "gamehall/gamehallkeep2.RetroLongest", spec := "retroLongest", unfollowed := true, recurses := true, named := ["internal/strconv.uint64pow10", "math/bits.deBruijn32tab", "math/bits.deBruijn64tab"], apart := false, laid := [("math/bits.deBruijn32tab", laid_math_bits_deBruijn32tab), ("math/bits.deBruijn64tab", laid_math_bits_deBruijn64tab), ("internal/strconv.uint64pow10", laid_internal_strconv_uint64pow10)] }
def RetroLongestSaid : Prop := retroLongestRow.holds Tryz.pinned (OpenSpec.ofChange retroLongestSpec)

/-- ITS FALSE NEIGHBOUR: 'it returns false'. Refute it at one input. -/
def retroLongestWrong : ChangeSpec := { name := "retroLongest", fn := fun _ => fun
  | [d] => { results := [.lit (.bool false)], args := [d] }
  | _ => none }
def RetroLongestWrongFalsely : Prop := retroLongestRow.holds Tryz.pinned (OpenSpec.ofChange retroLongestWrong)

/-- 'gamehallkeep2.RetroFollows': WHATEVER THE INPUT: true; the input reads as it did. -/
def retroFollowsSpec : ChangeSpec := { name := "retroFollows", fn := fun _ => fun
  | [d] => { results := [.lit (.bool true)], args := [d] }
  | _ => none }
def retroFollowsRow : OpenClaim := { program := "ytiifcejepaeepaagreatdoor", sum := "fd5bfb7108d9e94d096e96c0bdeca2bc4d60a2b606d6522ba194e04c4e64d7f8", func := "gamehall/gamehallkeep2.RetroFollows", spec := "retroFollows", unfollowed := true, recurses := true, named := ["internal/strconv.uint64pow10", "math/bits.deBruijn32tab", "math/bits.deBruijn64tab"], apart := false, laid := [("math/bits.deBruijn32tab", laid_math_bits_deBruijn32tab), ("math/bits.deBruijn64tab", laid_math_bits_deBruijn64tab), ("internal/strconv.uint64pow10", laid_internal_strconv_uint64pow10)] }
def RetroFollowsSaid : Prop := retroFollowsRow.holds Tryz.pinned (OpenSpec.ofChange retroFollowsSpec)

/-- ITS FALSE NEIGHBOUR: 'it returns false'. Refute it at one input. -/
def retroFollowsWrong : ChangeSpec := { name := "retroFollows", fn := fun _ => fun
  | [d] => { results := [.lit (.bool false)], args := [d] }
  | _ => none }
def RetroFollowsWrongFalsely : Prop := retroFollowsRow.holds Tryz.pinned (OpenSpec.ofChange retroFollowsWrong)

/-- 'gamehallkeep2.RetroBests': WHATEVER THE INPUT: true; the input reads as it did. -/
def retroBestsSpec : ChangeSpec := { name := "retroBests", fn := fun _ => fun
  | [d1, d2] => { results := [.lit (.bool true)], args := [d1, d2] }
  | _ => none }
def retroBestsRow : OpenClaim := { program := "ytiifcejepaeepaagreatdoor", sum := "fd5bfb7108d9e94d096e96c0bdeca2bc4d60a2b606d6522ba194e04c4e64d7f8", func := "gamehall/gamehallkeep2.RetroBests", spec := "retroBests", unfollowed := true, recurses := true, named := ["internal/strconv.uint64pow10", "math/bits.deBruijn32tab", "math/bits.deBruijn64tab"], apart := false, laid := [("math/bits.deBruijn32tab", laid_math_bits_deBruijn32tab), ("math/bits.deBruijn64tab", laid_math_bits_deBruijn64tab), ("internal/strconv.uint64pow10", laid_internal_strconv_uint64pow10)] }
def RetroBestsSaid : Prop := retroBestsRow.holds Tryz.pinned (OpenSpec.ofChange retroBestsSpec)

/-- ITS FALSE NEIGHBOUR: 'it returns false'. Refute it at one input. -/
def retroBestsWrong : ChangeSpec := { name := "retroBests", fn := fun _ => fun
  | [d1, d2] => { results := [.lit (.bool false)], args := [d1, d2] }
  | _ => none }
def RetroBestsWrongFalsely : Prop := retroBestsRow.holds Tryz.pinned (OpenSpec.ofChange retroBestsWrong)

/-- 'gamehallkeep2.RetroClosed': WHATEVER THE INPUT: true; the input reads as it did. -/
def retroClosedSpec : ChangeSpec := { name := "retroClosed", fn := fun _ => fun
  | [d] => { results := [.lit (.bool true)], args := [d] }
  | _ => none }
def retroClosedRow : OpenClaim := { program := "ytiifcejepaeepaagreatdoor", sum := "fd5bfb7108d9e94d096e96c0bdeca2bc4d60a2b606d6522ba194e04c4e64d7f8", func := "gamehall/gamehallkeep2.RetroClosed", spec := "retroClosed", unfollowed := true, recurses := true, named := ["internal/strconv.uint64pow10", "math/bits.deBruijn32tab", "math/bits.deBruijn64tab"], apart := false, laid := [("math/bits.deBruijn32tab", laid_math_bits_deBruijn32tab), ("math/bits.deBruijn64tab", laid_math_bits_deBruijn64tab), ("internal/strconv.uint64pow10", laid_internal_strconv_uint64pow10)] }
def RetroClosedSaid : Prop := retroClosedRow.holds Tryz.pinned (OpenSpec.ofChange retroClosedSpec)

/-- ITS FALSE NEIGHBOUR: 'it returns false'. Refute it at one input. -/
def retroClosedWrong : ChangeSpec := { name := "retroClosed", fn := fun _ => fun
  | [d] => { results := [.lit (.bool false)], args := [d] }
  | _ => none }
def RetroClosedWrongFalsely : Prop := retroClosedRow.holds Tryz.pinned (OpenSpec.ofChange retroClosedWrong)

/-- 'gamehallkeep2.PuzzleSingles': WHATEVER THE INPUT: true; the input reads as it did. -/
def puzzleSinglesSpec : ChangeSpec := { name := "puzzleSingles", fn := fun _ => fun
  | [d1, d2] => { results := [.lit (.bool true)], args := [d1, d2] }
  | _ => none }
def puzzleSinglesRow : OpenClaim := { program := "ytiifcejepaeepaagreatdoor", sum := "fd5bfb7108d9e94d096e96c0bdeca2bc4d60a2b606d6522ba194e04c4e64d7f8", func := "gamehall/gamehallkeep2.PuzzleSingles", spec := "puzzleSingles", unfollowed := true, recurses := true, named := ["internal/strconv.uint64pow10", "math/bits.deBruijn32tab", "math/bits.deBruijn64tab"], apart := false, laid := [("math/bits.deBruijn32tab", laid_math_bits_deBruijn32tab), ("math/bits.deBruijn64tab", laid_math_bits_deBruijn64tab), ("internal/strconv.uint64pow10", laid_internal_strconv_uint64pow10)] }
def PuzzleSinglesSaid : Prop := puzzleSinglesRow.holds Tryz.pinned (OpenSpec.ofChange puzzleSinglesSpec)

/-- ITS FALSE NEIGHBOUR: 'it returns false'. Refute it at one input. -/
def puzzleSinglesWrong : ChangeSpec := { name := "puzzleSingles", fn := fun _ => fun
  | [d1, d2] => { results := [.lit (.bool false)], args := [d1, d2] }
  | _ => none }
def PuzzleSinglesWrongFalsely : Prop := puzzleSinglesRow.holds Tryz.pinned (OpenSpec.ofChange puzzleSinglesWrong)

/-- 'gamehallkeep2.PuzzleProves': WHATEVER THE INPUT: true; the input reads as it did. -/
def puzzleProvesSpec : ChangeSpec := { name := "puzzleProves", fn := fun _ => fun
  | [d1, d2, d3] => { results := [.lit (.bool true)], args := [d1, d2, d3] }
  | _ => none }
def puzzleProvesRow : OpenClaim := { program := "ytiifcejepaeepaagreatdoor", sum := "fd5bfb7108d9e94d096e96c0bdeca2bc4d60a2b606d6522ba194e04c4e64d7f8", func := "gamehall/gamehallkeep2.PuzzleProves", spec := "puzzleProves", unfollowed := true, recurses := true, named := ["internal/strconv.uint64pow10", "math/bits.deBruijn32tab", "math/bits.deBruijn64tab"], apart := false, laid := [("math/bits.deBruijn32tab", laid_math_bits_deBruijn32tab), ("math/bits.deBruijn64tab", laid_math_bits_deBruijn64tab), ("internal/strconv.uint64pow10", laid_internal_strconv_uint64pow10)] }
def PuzzleProvesSaid : Prop := puzzleProvesRow.holds Tryz.pinned (OpenSpec.ofChange puzzleProvesSpec)

/-- ITS FALSE NEIGHBOUR: 'it returns false'. Refute it at one input. -/
def puzzleProvesWrong : ChangeSpec := { name := "puzzleProves", fn := fun _ => fun
  | [d1, d2, d3] => { results := [.lit (.bool false)], args := [d1, d2, d3] }
  | _ => none }
def PuzzleProvesWrongFalsely : Prop := puzzleProvesRow.holds Tryz.pinned (OpenSpec.ofChange puzzleProvesWrong)

/-- 'gamehallkeep2.PuzzleRefuses': WHATEVER THE INPUT: true; the input reads as it did. -/
def puzzleRefusesSpec : ChangeSpec := { name := "puzzleRefuses", fn := fun _ => fun
  | [d1, d2, d3] => { results := [.lit (.bool true)], args := [d1, d2, d3] }
  | _ => none }
def puzzleRefusesRow : OpenClaim := { program := "ytiifcejepaeepaagreatdoor", sum := "fd5bfb7108d9e94d096e96c0bdeca2bc4d60a2b606d6522ba194e04c4e64d7f8", func := "gamehall/gamehallkeep2.PuzzleRefuses", spec := "puzzleRefuses", unfollowed := true, recurses := true, named := ["internal/strconv.uint64pow10", "math/bits.deBruijn32tab", "math/bits.deBruijn64tab"], apart := false, laid := [("math/bits.deBruijn32tab", laid_math_bits_deBruijn32tab), ("math/bits.deBruijn64tab", laid_math_bits_deBruijn64tab), ("internal/strconv.uint64pow10", laid_internal_strconv_uint64pow10)] }
def PuzzleRefusesSaid : Prop := puzzleRefusesRow.holds Tryz.pinned (OpenSpec.ofChange puzzleRefusesSpec)

/-- ITS FALSE NEIGHBOUR: 'it returns false'. Refute it at one input. -/
def puzzleRefusesWrong : ChangeSpec := { name := "puzzleRefuses", fn := fun _ => fun
  | [d1, d2, d3] => { results := [.lit (.bool false)], args := [d1, d2, d3] }
  | _ => none }
def PuzzleRefusesWrongFalsely : Prop := puzzleRefusesRow.holds Tryz.pinned (OpenSpec.ofChange puzzleRefusesWrong)

/-- 'gamehallkeep2.PuzzleComposes': WHATEVER THE INPUT: true; the input reads as it did. -/
def puzzleComposesSpec : ChangeSpec := { name := "puzzleComposes", fn := fun _ => fun
  | [d1, d2] => { results := [.lit (.bool true)], args := [d1, d2] }
  | _ => none }
def puzzleComposesRow : OpenClaim := { program := "ytiifcejepaeepaagreatdoor", sum := "fd5bfb7108d9e94d096e96c0bdeca2bc4d60a2b606d6522ba194e04c4e64d7f8", func := "gamehall/gamehallkeep2.PuzzleComposes", spec := "puzzleComposes", unfollowed := true, recurses := true, named := ["internal/strconv.uint64pow10", "math/bits.deBruijn32tab", "math/bits.deBruijn64tab"], apart := false, laid := [("math/bits.deBruijn32tab", laid_math_bits_deBruijn32tab), ("math/bits.deBruijn64tab", laid_math_bits_deBruijn64tab), ("internal/strconv.uint64pow10", laid_internal_strconv_uint64pow10)] }
def PuzzleComposesSaid : Prop := puzzleComposesRow.holds Tryz.pinned (OpenSpec.ofChange puzzleComposesSpec)

/-- ITS FALSE NEIGHBOUR: 'it returns false'. Refute it at one input. -/
def puzzleComposesWrong : ChangeSpec := { name := "puzzleComposes", fn := fun _ => fun
  | [d1, d2] => { results := [.lit (.bool false)], args := [d1, d2] }
  | _ => none }
def PuzzleComposesWrongFalsely : Prop := puzzleComposesRow.holds Tryz.pinned (OpenSpec.ofChange puzzleComposesWrong)

/-- 'gamehallkeep2.PuzzleChecks': WHATEVER THE INPUT: true; the input reads as it did. -/
def puzzleChecksSpec : ChangeSpec := { name := "puzzleChecks", fn := fun _ => fun
  | [d1, d2, d3] => { results := [.lit (.bool true)], args := [d1, d2, d3] }
  | _ => none }
def puzzleChecksRow : OpenClaim := { program := "ytiifcejepaeepaagreatdoor", sum := "fd5bfb7108d9e94d096e96c0bdeca2bc4d60a2b606d6522ba194e04c4e64d7f8", func := "gamehall/gamehallkeep2.PuzzleChecks", spec := "puzzleChecks", unfollowed := true, recurses := true, named := ["internal/strconv.uint64pow10", "math/bits.deBruijn32tab", "math/bits.deBruijn64tab"], apart := false, laid := [("math/bits.deBruijn32tab", laid_math_bits_deBruijn32tab), ("math/bits.deBruijn64tab", laid_math_bits_deBruijn64tab), ("internal/strconv.uint64pow10", laid_internal_strconv_uint64pow10)] }
def PuzzleChecksSaid : Prop := puzzleChecksRow.holds Tryz.pinned (OpenSpec.ofChange puzzleChecksSpec)

/-- ITS FALSE NEIGHBOUR: 'it returns false'. Refute it at one input. -/
def puzzleChecksWrong : ChangeSpec := { name := "puzzleChecks", fn := fun _ => fun
  | [d1, d2, d3] => { results := [.lit (.bool false)], args := [d1, d2, d3] }
  | _ => none }
def PuzzleChecksWrongFalsely : Prop := puzzleChecksRow.holds Tryz.pinned (OpenSpec.ofChange puzzleChecksWrong)

/-- 'gamehallkeep2.PuzzleWins': WHATEVER THE INPUT: true; the input reads as it did. -/
def puzzleWinsSpec : ChangeSpec := { name := "puzzleWins", fn := fun _ => fun
  | [d1, d2, d3] => { results := [.lit (.bool true)], args := [d1, d2, d3] }
  | _ => none }
def puzzleWinsRow : OpenClaim := { program := "ytiifcejepaeepaagreatdoor", sum := "fd5bfb7108d9e94d096e96c0bdeca2bc4d60a2b606d6522ba194e04c4e64d7f8", func := "gamehall/gamehallkeep2.PuzzleWins", spec := "puzzleWins", unfollowed := true, recurses := true, named := ["internal/strconv.uint64pow10", "math/bits.deBruijn32tab", "math/bits.deBruijn64tab"], apart := false, laid := [("math/bits.deBruijn32tab", laid_math_bits_deBruijn32tab), ("math/bits.deBruijn64tab", laid_math_bits_deBruijn64tab), ("internal/strconv.uint64pow10", laid_internal_strconv_uint64pow10)] }
def PuzzleWinsSaid : Prop := puzzleWinsRow.holds Tryz.pinned (OpenSpec.ofChange puzzleWinsSpec)

/-- ITS FALSE NEIGHBOUR: 'it returns false'. Refute it at one input. -/
def puzzleWinsWrong : ChangeSpec := { name := "puzzleWins", fn := fun _ => fun
  | [d1, d2, d3] => { results := [.lit (.bool false)], args := [d1, d2, d3] }
  | _ => none }
def PuzzleWinsWrongFalsely : Prop := puzzleWinsRow.holds Tryz.pinned (OpenSpec.ofChange puzzleWinsWrong)

/- THE SECOND FORM. 'bulk': how many values and letters a reading holds, each counted each time it is reached (what is shared counts as often as it is met; a slice's spare places count too). A statement '..UptoSaid' is the law's where the arguments, and the package variables that the reading takes, are together of bulk at most 1048576: NARROWER than '..Said'. Prove '..Said' where nothing that the law and all that it calls make is longer than what came in: it says more and counts as full. Else prove '..UptoSaid'. A law counts once. -/
mutual
def uptoBulk {H : Type} : DataW H → Nat
  | .lit (.string bytes) => bytes.length + 1
  | .lit _ => 1
  | .nil => 1
  | .ptr d => uptoBulk d + 1
  | .slice elems spare => uptoBulkAll elems + uptoBulkAll spare + 1
  | .agg parts => uptoBulkAll parts + 1
  | .iface _ d => uptoBulk d + 1
  | .map entries => uptoBulkEntries entries + 1
  | .held _ => 1
def uptoBulkAll {H : Type} : List (DataW H) → Nat
  | [] => 0
  | d :: r => uptoBulk d + uptoBulkAll r
def uptoBulkEntries {H : Type} : List (Lit × DataW H) → Nat
  | [] => 0
  | x :: r => uptoBulkEntry x + uptoBulkEntries r
def uptoBulkEntry {H : Type} : Lit × DataW H → Nat
  | (.string bytes, d) => bytes.length + uptoBulk d + 1
  | (_, d) => uptoBulk d + 1
 end
def uptoSmall : (H : Type) → List (DataW H) → Bool := fun _ ds => decide (uptoBulkAll ds ≤ 1048576)
def OpenSpec.upto (s : _root_.Go.ChangeSpec) : _root_.Go.OpenSpec := { _root_.Go.OpenSpec.ofChange s with cond := some uptoSmall }

/-- 'gamehallkeep2.RetroLongest', WHERE WHAT IT READS IS OF BULK AT MOST 1048576: true; the input reads as it did. -/
def retroLongestUptoRow : OpenClaim := { program := "ytiifcejepaeepaagreatdoor", sum := "fd5bfb7108d9e94d096e96c0bdeca2bc4d60a2b606d6522ba194e04c4e64d7f8", func := "gamehall/gamehallkeep2.RetroLongest", spec := "retroLongest", unfollowed := true, recurses := true, named := ["internal/strconv.uint64pow10", "math/bits.deBruijn32tab", "math/bits.deBruijn64tab"], apart := false, laid := [("math/bits.deBruijn32tab", laid_math_bits_deBruijn32tab), ("math/bits.deBruijn64tab", laid_math_bits_deBruijn64tab), ("internal/strconv.uint64pow10", laid_internal_strconv_uint64pow10)], narrowed := true }
def RetroLongestUptoSaid : Prop := retroLongestUptoRow.holds Tryz.pinned (OpenSpec.upto retroLongestSpec)

/-- 'gamehallkeep2.RetroFollows', WHERE WHAT IT READS IS OF BULK AT MOST 1048576: true; the input reads as it did. -/
def retroFollowsUptoRow : OpenClaim := { program := "ytiifcejepaeepaagreatdoor", sum := "fd5bfb7108d9e94d096e96c0bdeca2bc4d60a2b606d6522ba194e04c4e64d7f8", func := "gamehall/gamehallkeep2.RetroFollows", spec := "retroFollows", unfollowed := true, recurses := true, named := ["internal/strconv.uint64pow10", "math/bits.deBruijn32tab", "math/bits.deBruijn64tab"], apart := false, laid := [("math/bits.deBruijn32tab", laid_math_bits_deBruijn32tab), ("math/bits.deBruijn64tab", laid_math_bits_deBruijn64tab), ("internal/strconv.uint64pow10", laid_internal_strconv_uint64pow10)], narrowed := true }
def RetroFollowsUptoSaid : Prop := retroFollowsUptoRow.holds Tryz.pinned (OpenSpec.upto retroFollowsSpec)

/-- 'gamehallkeep2.RetroBests', WHERE WHAT IT READS IS OF BULK AT MOST 1048576: true; the input reads as it did. -/
def retroBestsUptoRow : OpenClaim := { program := "ytiifcejepaeepaagreatdoor", sum := "fd5bfb7108d9e94d096e96c0bdeca2bc4d60a2b606d6522ba194e04c4e64d7f8", func := "gamehall/gamehallkeep2.RetroBests", spec := "retroBests", unfollowed := true, recurses := true, named := ["internal/strconv.uint64pow10", "math/bits.deBruijn32tab", "math/bits.deBruijn64tab"], apart := false, laid := [("math/bits.deBruijn32tab", laid_math_bits_deBruijn32tab), ("math/bits.deBruijn64tab", laid_math_bits_deBruijn64tab), ("internal/strconv.uint64pow10", laid_internal_strconv_uint64pow10)], narrowed := true }
def RetroBestsUptoSaid : Prop := retroBestsUptoRow.holds Tryz.pinned (OpenSpec.upto retroBestsSpec)

/-- 'gamehallkeep2.RetroClosed', WHERE WHAT IT READS IS OF BULK AT MOST 1048576: true; the input reads as it did. -/
def retroClosedUptoRow : OpenClaim := { program := "ytiifcejepaeepaagreatdoor", sum := "fd5bfb7108d9e94d096e96c0bdeca2bc4d60a2b606d6522ba194e04c4e64d7f8", func := "gamehall/gamehallkeep2.RetroClosed", spec := "retroClosed", unfollowed := true, recurses := true, named := ["internal/strconv.uint64pow10", "math/bits.deBruijn32tab", "math/bits.deBruijn64tab"], apart := false, laid := [("math/bits.deBruijn32tab", laid_math_bits_deBruijn32tab), ("math/bits.deBruijn64tab", laid_math_bits_deBruijn64tab), ("internal/strconv.uint64pow10", laid_internal_strconv_uint64pow10)], narrowed := true }
def RetroClosedUptoSaid : Prop := retroClosedUptoRow.holds Tryz.pinned (OpenSpec.upto retroClosedSpec)

/-- 'gamehallkeep2.PuzzleSingles', WHERE WHAT IT READS IS OF BULK AT MOST 1048576: true; the input reads as it did. -/
def puzzleSinglesUptoRow : OpenClaim := { program := "ytiifcejepaeepaagreatdoor", sum := "fd5bfb7108d9e94d096e96c0bdeca2bc4d60a2b606d6522ba194e04c4e64d7f8", func := "gamehall/gamehallkeep2.PuzzleSingles", spec := "puzzleSingles", unfollowed := true, recurses := true, named := ["internal/strconv.uint64pow10", "math/bits.deBruijn32tab", "math/bits.deBruijn64tab"], apart := false, laid := [("math/bits.deBruijn32tab", laid_math_bits_deBruijn32tab), ("math/bits.deBruijn64tab", laid_math_bits_deBruijn64tab), ("internal/strconv.uint64pow10", laid_internal_strconv_uint64pow10)], narrowed := true }
def PuzzleSinglesUptoSaid : Prop := puzzleSinglesUptoRow.holds Tryz.pinned (OpenSpec.upto puzzleSinglesSpec)

/-- 'gamehallkeep2.PuzzleProves', WHERE WHAT IT READS IS OF BULK AT MOST 1048576: true; the input reads as it did. -/
def puzzleProvesUptoRow : OpenClaim := { program := "ytiifcejepaeepaagreatdoor", sum := "fd5bfb7108d9e94d096e96c0bdeca2bc4d60a2b606d6522ba194e04c4e64d7f8", func := "gamehall/gamehallkeep2.PuzzleProves", spec := "puzzleProves", unfollowed := true, recurses := true, named := ["internal/strconv.uint64pow10", "math/bits.deBruijn32tab", "math/bits.deBruijn64tab"], apart := false, laid := [("math/bits.deBruijn32tab", laid_math_bits_deBruijn32tab), ("math/bits.deBruijn64tab", laid_math_bits_deBruijn64tab), ("internal/strconv.uint64pow10", laid_internal_strconv_uint64pow10)], narrowed := true }
def PuzzleProvesUptoSaid : Prop := puzzleProvesUptoRow.holds Tryz.pinned (OpenSpec.upto puzzleProvesSpec)

/-- 'gamehallkeep2.PuzzleRefuses', WHERE WHAT IT READS IS OF BULK AT MOST 1048576: true; the input reads as it did. -/
def puzzleRefusesUptoRow : OpenClaim := { program := "ytiifcejepaeepaagreatdoor", sum := "fd5bfb7108d9e94d096e96c0bdeca2bc4d60a2b606d6522ba194e04c4e64d7f8", func := "gamehall/gamehallkeep2.PuzzleRefuses", spec := "puzzleRefuses", unfollowed := true, recurses := true, named := ["internal/strconv.uint64pow10", "math/bits.deBruijn32tab", "math/bits.deBruijn64tab"], apart := false, laid := [("math/bits.deBruijn32tab", laid_math_bits_deBruijn32tab), ("math/bits.deBruijn64tab", laid_math_bits_deBruijn64tab), ("internal/strconv.uint64pow10", laid_internal_strconv_uint64pow10)], narrowed := true }
def PuzzleRefusesUptoSaid : Prop := puzzleRefusesUptoRow.holds Tryz.pinned (OpenSpec.upto puzzleRefusesSpec)

/-- 'gamehallkeep2.PuzzleComposes', WHERE WHAT IT READS IS OF BULK AT MOST 1048576: true; the input reads as it did. -/
def puzzleComposesUptoRow : OpenClaim := { program := "ytiifcejepaeepaagreatdoor", sum := "fd5bfb7108d9e94d096e96c0bdeca2bc4d60a2b606d6522ba194e04c4e64d7f8", func := "gamehall/gamehallkeep2.PuzzleComposes", spec := "puzzleComposes", unfollowed := true, recurses := true, named := ["internal/strconv.uint64pow10", "math/bits.deBruijn32tab", "math/bits.deBruijn64tab"], apart := false, laid := [("math/bits.deBruijn32tab", laid_math_bits_deBruijn32tab), ("math/bits.deBruijn64tab", laid_math_bits_deBruijn64tab), ("internal/strconv.uint64pow10", laid_internal_strconv_uint64pow10)], narrowed := true }
def PuzzleComposesUptoSaid : Prop := puzzleComposesUptoRow.holds Tryz.pinned (OpenSpec.upto puzzleComposesSpec)

/-- 'gamehallkeep2.PuzzleChecks', WHERE WHAT IT READS IS OF BULK AT MOST 1048576: true; the input reads as it did. -/
def puzzleChecksUptoRow : OpenClaim := { program := "ytiifcejepaeepaagreatdoor", sum := "fd5bfb7108d9e94d096e96c0bdeca2bc4d60a2b606d6522ba194e04c4e64d7f8", func := "gamehall/gamehallkeep2.PuzzleChecks", spec := "puzzleChecks", unfollowed := true, recurses := true, named := ["internal/strconv.uint64pow10", "math/bits.deBruijn32tab", "math/bits.deBruijn64tab"], apart := false, laid := [("math/bits.deBruijn32tab", laid_math_bits_deBruijn32tab), ("math/bits.deBruijn64tab", laid_math_bits_deBruijn64tab), ("internal/strconv.uint64pow10", laid_internal_strconv_uint64pow10)], narrowed := true }
def PuzzleChecksUptoSaid : Prop := puzzleChecksUptoRow.holds Tryz.pinned (OpenSpec.upto puzzleChecksSpec)

/-- 'gamehallkeep2.PuzzleWins', WHERE WHAT IT READS IS OF BULK AT MOST 1048576: true; the input reads as it did. -/
def puzzleWinsUptoRow : OpenClaim := { program := "ytiifcejepaeepaagreatdoor", sum := "fd5bfb7108d9e94d096e96c0bdeca2bc4d60a2b606d6522ba194e04c4e64d7f8", func := "gamehall/gamehallkeep2.PuzzleWins", spec := "puzzleWins", unfollowed := true, recurses := true, named := ["internal/strconv.uint64pow10", "math/bits.deBruijn32tab", "math/bits.deBruijn64tab"], apart := false, laid := [("math/bits.deBruijn32tab", laid_math_bits_deBruijn32tab), ("math/bits.deBruijn64tab", laid_math_bits_deBruijn64tab), ("internal/strconv.uint64pow10", laid_internal_strconv_uint64pow10)], narrowed := true }
def PuzzleWinsUptoSaid : Prop := puzzleWinsUptoRow.holds Tryz.pinned (OpenSpec.upto puzzleWinsSpec)

end Rows
end Go.Proofs.YtiifcejepaeepaaGreatDoor
