/-
  No cell of these rows narrows 'for every input' (looked for: loops, veiled, ifaces, maps, wideKeys, modest, calm, conditions, laid).
  DERIVED. THE GIVEN ROWS OF THIS SEAT. 3 by the template 'for every input the law returns true; each argument reads behind the call as it read before'; 0 by the template 'total and deterministic' (their statements: YtegaegmkajnibaaTotals.lean).
  GIVEN WITH THE SEED: the statements are not yours to turn. If you find one false, say at which input.
  Laid BY PROGRAM, IN A SANDBOX (cutbox-rows.mjs): the forced cells as the released guide's own fill.sh prints them over the translation 6ed8b8d8396ff278… (all of the seat's roots in one cut). By AI agents, Wed Nov 11 2026. No macro, syntax, notation, axiom, sorry.
-/
import Derived.Test.YtegaegmkajnibaaChecked
import GoSem.Claim
import GoSem.ClaimJoined
import GoSem.ClaimMapViews
import Derived.JoinedTies
import Derived.KernelRfl
namespace Go.Proofs.Ytegaegmkajnibaa
/- THE CELL 'sum', in the pinned program and in every row, IS THE sha256 OF THE DUMP (.gsa) THAT YtegaegmkajnibaaProg.lean LOADS. Nothing in Lean hashes anything: it is a label: what it is worth is what the hold of that sum in a sandbox is worth. -/
noncomputable def Try.pinned : Pinned := { name := "ytegaegmkajnibaa", sum := "6ed8b8d8396ff278b5bd245c101f736e82d881e1e5f3822c0fc0ceae1b916e20", checked := Try.checked }
namespace Rows
def none {H : Type} : Left H := { results := [], args := [] }

/-- 'gamehallkeep2.IndexBack': WHATEVER THE INPUT: true; the input reads as it did. -/
def indexBackSpec : ChangeSpec := { name := "indexBack", fn := fun _ => fun
  | [d] => { results := [.lit (.bool true)], args := [d] }
  | _ => none }
def indexBackRow : OpenClaim := { program := "ytegaegmkajnibaa", sum := "6ed8b8d8396ff278b5bd245c101f736e82d881e1e5f3822c0fc0ceae1b916e20", func := "gamehall/gamehallkeep2.IndexBack", spec := "indexBack", unfollowed := true, recurses := true, apart := false }
def IndexBackSaid : Prop := indexBackRow.holds Try.pinned (OpenSpec.ofChange indexBackSpec)

/-- ITS FALSE NEIGHBOUR: 'it returns false'. Refute it at one input. -/
def indexBackWrong : ChangeSpec := { name := "indexBack", fn := fun _ => fun
  | [d] => { results := [.lit (.bool false)], args := [d] }
  | _ => none }
def IndexBackWrongFalsely : Prop := indexBackRow.holds Try.pinned (OpenSpec.ofChange indexBackWrong)

/-- 'gamehallkeep2.IndexNexts': WHATEVER THE INPUT: true; the input reads as it did. -/
def indexNextsSpec : ChangeSpec := { name := "indexNexts", fn := fun _ => fun
  | [d] => { results := [.lit (.bool true)], args := [d] }
  | _ => none }
def indexNextsRow : OpenClaim := { program := "ytegaegmkajnibaa", sum := "6ed8b8d8396ff278b5bd245c101f736e82d881e1e5f3822c0fc0ceae1b916e20", func := "gamehall/gamehallkeep2.IndexNexts", spec := "indexNexts", unfollowed := true, recurses := true, apart := false }
def IndexNextsSaid : Prop := indexNextsRow.holds Try.pinned (OpenSpec.ofChange indexNextsSpec)

/-- ITS FALSE NEIGHBOUR: 'it returns false'. Refute it at one input. -/
def indexNextsWrong : ChangeSpec := { name := "indexNexts", fn := fun _ => fun
  | [d] => { results := [.lit (.bool false)], args := [d] }
  | _ => none }
def IndexNextsWrongFalsely : Prop := indexNextsRow.holds Try.pinned (OpenSpec.ofChange indexNextsWrong)

/-- 'gamehallkeep2.IndexOrders': WHATEVER THE INPUT: true; the input reads as it did. -/
def indexOrdersSpec : ChangeSpec := { name := "indexOrders", fn := fun _ => fun
  | [d1, d2] => { results := [.lit (.bool true)], args := [d1, d2] }
  | _ => none }
def indexOrdersRow : OpenClaim := { program := "ytegaegmkajnibaa", sum := "6ed8b8d8396ff278b5bd245c101f736e82d881e1e5f3822c0fc0ceae1b916e20", func := "gamehall/gamehallkeep2.IndexOrders", spec := "indexOrders", unfollowed := true, recurses := true, apart := false }
def IndexOrdersSaid : Prop := indexOrdersRow.holds Try.pinned (OpenSpec.ofChange indexOrdersSpec)

/-- ITS FALSE NEIGHBOUR: 'it returns false'. Refute it at one input. -/
def indexOrdersWrong : ChangeSpec := { name := "indexOrders", fn := fun _ => fun
  | [d1, d2] => { results := [.lit (.bool false)], args := [d1, d2] }
  | _ => none }
def IndexOrdersWrongFalsely : Prop := indexOrdersRow.holds Try.pinned (OpenSpec.ofChange indexOrdersWrong)

/- THE SECOND FORM. 'bulk': how many values and letters a reading holds, each counted each time it is reached (what is shared counts as often as it is met; a slice's spare places count too). A statement '..UptoSaid' is the law's where the arguments, and the package variables that the reading takes, are together of bulk at most 1048576: NARROWER than '..Said'. Prove '..Said' where nothing that the law and all that it calls make is longer than what came in: it says more and counts as full. Else prove '..UptoSaid'. A law counts once. -/
mutual
def uptoBulk {H : Type} : DataW H → Nat
  | .lit (.string bytes) => bytes.length + 1
  | .lit _ => 1
  | .nil => 1
  | .ptr d => uptoBulk d + 1
  | .slice elems spare => uptoBulkAll elems + uptoBulkAll spare + 1
  | .agg parts => uptoBulkAll parts + 1
  | .iface _ d => uptoBulk d + 1
  | .map entries => uptoBulkEntries entries + 1
  | .held _ => 1
def uptoBulkAll {H : Type} : List (DataW H) → Nat
  | [] => 0
  | d :: r => uptoBulk d + uptoBulkAll r
def uptoBulkEntries {H : Type} : List (Lit × DataW H) → Nat
  | [] => 0
  | x :: r => uptoBulkEntry x + uptoBulkEntries r
def uptoBulkEntry {H : Type} : Lit × DataW H → Nat
  | (.string bytes, d) => bytes.length + uptoBulk d + 1
  | (_, d) => uptoBulk d + 1
 end
def uptoSmall : (H : Type) → List (DataW H) → Bool := fun _ ds => decide (uptoBulkAll ds ≤ 1048576)
def OpenSpec.upto (s : _root_.Go.ChangeSpec) : _root_.Go.OpenSpec := { _root_.Go.OpenSpec.ofChange s with cond := some uptoSmall }

/-- 'gamehallkeep2.IndexBack', WHERE WHAT IT READS IS OF BULK AT MOST 1048576: true; the input reads as it did. -/
def indexBackUptoRow : OpenClaim := { program := "ytegaegmkajnibaa", sum := "6ed8b8d8396ff278b5bd245c101f736e82d881e1e5f3822c0fc0ceae1b916e20", func := "gamehall/gamehallkeep2.IndexBack", spec := "indexBack", unfollowed := true, recurses := true, apart := false, narrowed := true }
def IndexBackUptoSaid : Prop := indexBackUptoRow.holds Try.pinned (OpenSpec.upto indexBackSpec)

/-- 'gamehallkeep2.IndexNexts', WHERE WHAT IT READS IS OF BULK AT MOST 1048576: true; the input reads as it did. -/
def indexNextsUptoRow : OpenClaim := { program := "ytegaegmkajnibaa", sum := "6ed8b8d8396ff278b5bd245c101f736e82d881e1e5f3822c0fc0ceae1b916e20", func := "gamehall/gamehallkeep2.IndexNexts", spec := "indexNexts", unfollowed := true, recurses := true, apart := false, narrowed := true }
def IndexNextsUptoSaid : Prop := indexNextsUptoRow.holds Try.pinned (OpenSpec.upto indexNextsSpec)

/-- 'gamehallkeep2.IndexOrders', WHERE WHAT IT READS IS OF BULK AT MOST 1048576: true; the input reads as it did. -/
def indexOrdersUptoRow : OpenClaim := { program := "ytegaegmkajnibaa", sum := "6ed8b8d8396ff278b5bd245c101f736e82d881e1e5f3822c0fc0ceae1b916e20", func := "gamehall/gamehallkeep2.IndexOrders", spec := "indexOrders", unfollowed := true, recurses := true, apart := false, narrowed := true }
def IndexOrdersUptoSaid : Prop := indexOrdersUptoRow.holds Try.pinned (OpenSpec.upto indexOrdersSpec)

end Rows
end Go.Proofs.Ytegaegmkajnibaa
