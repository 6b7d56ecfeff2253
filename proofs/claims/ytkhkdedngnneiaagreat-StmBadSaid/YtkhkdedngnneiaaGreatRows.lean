/-
  No cell of these rows narrows 'for every input' (looked for: loops, veiled, ifaces, maps, wideKeys, modest, calm, conditions, laid).
  DERIVED. THE GIVEN ROWS OF THIS SEAT. 5 by the template 'for every input the law returns true; each argument reads behind the call as it read before'; 0 by the template 'total and deterministic' (their statements: YtkhkdedngnneiaaGreatTotals.lean).
  GIVEN WITH THE SEED: the statements are not yours to turn. If you find one false, say at which input.
  Laid BY PROGRAM, IN A SANDBOX (cutbox-rows.mjs): the forced cells as the released guide's own fill.sh prints them over the translation 8586ec8a74fc7934… (all of the seat's roots in one cut). By AI agents, Wed Nov 11 2026. No macro, syntax, notation, axiom, sorry.
-/
import Derived.Test.YtkhkdedngnneiaaGreatChecked
import GoSem.Claim
import GoSem.ClaimJoined
import GoSem.ClaimMapViews
import Derived.JoinedTies
import Derived.KernelRfl
namespace Go.Proofs.YtkhkdedngnneiaaGreat
/- THE CELL 'sum', in the pinned program and in every row, IS THE sha256 OF THE DUMP (.gsa) THAT YtkhkdedngnneiaaGreatProg.lean LOADS. Nothing in Lean hashes anything: it is a label: what it is worth is what the hold of that sum in a sandbox is worth. -/
noncomputable def Tryz.pinned : Pinned := { name := "ytkhkdedngnneiaagreat", sum := "8586ec8a74fc7934334c68d64ebe395e753692856e76d653a72b6c283ad9ab20", checked := Tryz.checked }
namespace Rows
def none {H : Type} : Left H := { results := [], args := [] }

/-- 'ltklaw18.HandTwo': WHATEVER THE INPUT: true; the input reads as it did. -/
def handTwoSpec : ChangeSpec := { name := "handTwo", fn := fun _ => fun
  | [d1, d2] => { results := [.lit (.bool true)], args := [d1, d2] }
  | _ => none }
def handTwoRow : OpenClaim := { program := "ytkhkdedngnneiaagreat", sum := "8586ec8a74fc7934334c68d64ebe395e753692856e76d653a72b6c283ad9ab20", func := "latchkey/ltklaw18.HandTwo", spec := "handTwo", inPlace := ["slices.overlaps[latchkey/lane.Entry]"], unfollowed := true, recurses := true, apart := false }
def HandTwoSaid : Prop := handTwoRow.holds Tryz.pinned (OpenSpec.ofChange handTwoSpec)

/-- ITS FALSE NEIGHBOUR: 'it returns false'. Refute it at one input. -/
def handTwoWrong : ChangeSpec := { name := "handTwo", fn := fun _ => fun
  | [d1, d2] => { results := [.lit (.bool false)], args := [d1, d2] }
  | _ => none }
def HandTwoWrongFalsely : Prop := handTwoRow.holds Tryz.pinned (OpenSpec.ofChange handTwoWrong)

/-- 'ltklaw18.HandUser': WHATEVER THE INPUT: true; the input reads as it did. -/
def handUserSpec : ChangeSpec := { name := "handUser", fn := fun _ => fun
  | [d1, d2] => { results := [.lit (.bool true)], args := [d1, d2] }
  | _ => none }
def handUserRow : OpenClaim := { program := "ytkhkdedngnneiaagreat", sum := "8586ec8a74fc7934334c68d64ebe395e753692856e76d653a72b6c283ad9ab20", func := "latchkey/ltklaw18.HandUser", spec := "handUser", inPlace := ["slices.overlaps[latchkey/lane.Entry]"], unfollowed := true, recurses := true, apart := false }
def HandUserSaid : Prop := handUserRow.holds Tryz.pinned (OpenSpec.ofChange handUserSpec)

/-- ITS FALSE NEIGHBOUR: 'it returns false'. Refute it at one input. -/
def handUserWrong : ChangeSpec := { name := "handUser", fn := fun _ => fun
  | [d1, d2] => { results := [.lit (.bool false)], args := [d1, d2] }
  | _ => none }
def HandUserWrongFalsely : Prop := handUserRow.holds Tryz.pinned (OpenSpec.ofChange handUserWrong)

/-- 'ltklaw18.HandRetry': WHATEVER THE INPUT: true; the input reads as it did. -/
def handRetrySpec : ChangeSpec := { name := "handRetry", fn := fun _ => fun
  | [d] => { results := [.lit (.bool true)], args := [d] }
  | _ => none }
def handRetryRow : OpenClaim := { program := "ytkhkdedngnneiaagreat", sum := "8586ec8a74fc7934334c68d64ebe395e753692856e76d653a72b6c283ad9ab20", func := "latchkey/ltklaw18.HandRetry", spec := "handRetry", inPlace := ["slices.overlaps[latchkey/lane.Entry]"], unfollowed := true, recurses := true, apart := false }
def HandRetrySaid : Prop := handRetryRow.holds Tryz.pinned (OpenSpec.ofChange handRetrySpec)

/-- ITS FALSE NEIGHBOUR: 'it returns false'. Refute it at one input. -/
def handRetryWrong : ChangeSpec := { name := "handRetry", fn := fun _ => fun
  | [d] => { results := [.lit (.bool false)], args := [d] }
  | _ => none }
def HandRetryWrongFalsely : Prop := handRetryRow.holds Tryz.pinned (OpenSpec.ofChange handRetryWrong)

/-- 'ltklaw18.HandDoomed': WHATEVER THE INPUT: true; the input reads as it did. -/
def handDoomedSpec : ChangeSpec := { name := "handDoomed", fn := fun _ => fun
  | [d] => { results := [.lit (.bool true)], args := [d] }
  | _ => none }
def handDoomedRow : OpenClaim := { program := "ytkhkdedngnneiaagreat", sum := "8586ec8a74fc7934334c68d64ebe395e753692856e76d653a72b6c283ad9ab20", func := "latchkey/ltklaw18.HandDoomed", spec := "handDoomed", inPlace := ["slices.overlaps[latchkey/lane.Entry]"], unfollowed := true, recurses := true, apart := false }
def HandDoomedSaid : Prop := handDoomedRow.holds Tryz.pinned (OpenSpec.ofChange handDoomedSpec)

/-- ITS FALSE NEIGHBOUR: 'it returns false'. Refute it at one input. -/
def handDoomedWrong : ChangeSpec := { name := "handDoomed", fn := fun _ => fun
  | [d] => { results := [.lit (.bool false)], args := [d] }
  | _ => none }
def HandDoomedWrongFalsely : Prop := handDoomedRow.holds Tryz.pinned (OpenSpec.ofChange handDoomedWrong)

/-- 'ltklaw19.StmBad': WHATEVER THE INPUT: true; the input reads as it did. -/
def stmBadSpec : ChangeSpec := { name := "stmBad", fn := fun _ => fun
  | [d1, d2, d3] => { results := [.lit (.bool true)], args := [d1, d2, d3] }
  | _ => none }
def stmBadRow : OpenClaim := { program := "ytkhkdedngnneiaagreat", sum := "8586ec8a74fc7934334c68d64ebe395e753692856e76d653a72b6c283ad9ab20", func := "latchkey/ltklaw19.StmBad", spec := "stmBad", inPlace := ["slices.overlaps[latchkey/lane.Entry]"], unfollowed := true, recurses := true, apart := false }
def StmBadSaid : Prop := stmBadRow.holds Tryz.pinned (OpenSpec.ofChange stmBadSpec)

/-- ITS FALSE NEIGHBOUR: 'it returns false'. Refute it at one input. -/
def stmBadWrong : ChangeSpec := { name := "stmBad", fn := fun _ => fun
  | [d1, d2, d3] => { results := [.lit (.bool false)], args := [d1, d2, d3] }
  | _ => none }
def StmBadWrongFalsely : Prop := stmBadRow.holds Tryz.pinned (OpenSpec.ofChange stmBadWrong)

/- THE SECOND FORM. 'bulk': how many values and letters a reading holds, each counted each time it is reached (what is shared counts as often as it is met; a slice's spare places count too). A statement '..UptoSaid' is the law's where the arguments, and the package variables that the reading takes, are together of bulk at most 1048576: NARROWER than '..Said'. Prove '..Said' where nothing that the law and all that it calls make is longer than what came in: it says more and counts as full. Else prove '..UptoSaid'. A law counts once. -/
mutual
def uptoBulk {H : Type} : DataW H → Nat
  | .lit (.string bytes) => bytes.length + 1
  | .lit _ => 1
  | .nil => 1
  | .ptr d => uptoBulk d + 1
  | .slice elems spare => uptoBulkAll elems + uptoBulkAll spare + 1
  | .agg parts => uptoBulkAll parts + 1
  | .iface _ d => uptoBulk d + 1
  | .map entries => uptoBulkEntries entries + 1
  | .held _ => 1
def uptoBulkAll {H : Type} : List (DataW H) → Nat
  | [] => 0
  | d :: r => uptoBulk d + uptoBulkAll r
def uptoBulkEntries {H : Type} : List (Lit × DataW H) → Nat
  | [] => 0
  | x :: r => uptoBulkEntry x + uptoBulkEntries r
def uptoBulkEntry {H : Type} : Lit × DataW H → Nat
  | (.string bytes, d) => bytes.length + uptoBulk d + 1
  | (_, d) => uptoBulk d + 1
 end
def uptoSmall : (H : Type) → List (DataW H) → Bool := fun _ ds => decide (uptoBulkAll ds ≤ 1048576)
def OpenSpec.upto (s : _root_.Go.ChangeSpec) : _root_.Go.OpenSpec := { _root_.Go.OpenSpec.ofChange s with cond := some uptoSmall }

/-- 'ltklaw18.HandTwo', WHERE WHAT IT READS IS OF BULK AT MOST 1048576: true; the input reads as it did. -/
def handTwoUptoRow : OpenClaim := { program := "ytkhkdedngnneiaagreat", sum := "8586ec8a74fc7934334c68d64ebe395e753692856e76d653a72b6c283ad9ab20", func := "latchkey/ltklaw18.HandTwo", spec := "handTwo", inPlace := ["slices.overlaps[latchkey/lane.Entry]"], unfollowed := true, recurses := true, apart := false, narrowed := true }
def HandTwoUptoSaid : Prop := handTwoUptoRow.holds Tryz.pinned (OpenSpec.upto handTwoSpec)

/-- 'ltklaw18.HandUser', WHERE WHAT IT READS IS OF BULK AT MOST 1048576: true; the input reads as it did. -/
def handUserUptoRow : OpenClaim := { program := "ytkhkdedngnneiaagreat", sum := "8586ec8a74fc7934334c68d64ebe395e753692856e76d653a72b6c283ad9ab20", func := "latchkey/ltklaw18.HandUser", spec := "handUser", inPlace := ["slices.overlaps[latchkey/lane.Entry]"], unfollowed := true, recurses := true, apart := false, narrowed := true }
def HandUserUptoSaid : Prop := handUserUptoRow.holds Tryz.pinned (OpenSpec.upto handUserSpec)

/-- 'ltklaw18.HandRetry', WHERE WHAT IT READS IS OF BULK AT MOST 1048576: true; the input reads as it did. -/
def handRetryUptoRow : OpenClaim := { program := "ytkhkdedngnneiaagreat", sum := "8586ec8a74fc7934334c68d64ebe395e753692856e76d653a72b6c283ad9ab20", func := "latchkey/ltklaw18.HandRetry", spec := "handRetry", inPlace := ["slices.overlaps[latchkey/lane.Entry]"], unfollowed := true, recurses := true, apart := false, narrowed := true }
def HandRetryUptoSaid : Prop := handRetryUptoRow.holds Tryz.pinned (OpenSpec.upto handRetrySpec)

/-- 'ltklaw18.HandDoomed', WHERE WHAT IT READS IS OF BULK AT MOST 1048576: true; the input reads as it did. -/
def handDoomedUptoRow : OpenClaim := { program := "ytkhkdedngnneiaagreat", sum := "8586ec8a74fc7934334c68d64ebe395e753692856e76d653a72b6c283ad9ab20", func := "latchkey/ltklaw18.HandDoomed", spec := "handDoomed", inPlace := ["slices.overlaps[latchkey/lane.Entry]"], unfollowed := true, recurses := true, apart := false, narrowed := true }
def HandDoomedUptoSaid : Prop := handDoomedUptoRow.holds Tryz.pinned (OpenSpec.upto handDoomedSpec)

/-- 'ltklaw19.StmBad', WHERE WHAT IT READS IS OF BULK AT MOST 1048576: true; the input reads as it did. -/
def stmBadUptoRow : OpenClaim := { program := "ytkhkdedngnneiaagreat", sum := "8586ec8a74fc7934334c68d64ebe395e753692856e76d653a72b6c283ad9ab20", func := "latchkey/ltklaw19.StmBad", spec := "stmBad", inPlace := ["slices.overlaps[latchkey/lane.Entry]"], unfollowed := true, recurses := true, apart := false, narrowed := true }
def StmBadUptoSaid : Prop := stmBadUptoRow.holds Tryz.pinned (OpenSpec.upto stmBadSpec)

end Rows
end Go.Proofs.YtkhkdedngnneiaaGreat
