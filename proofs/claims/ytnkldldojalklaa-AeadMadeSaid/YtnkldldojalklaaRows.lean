/-
  No cell of these rows narrows 'for every input' (looked for: loops, veiled, ifaces, maps, wideKeys, modest, calm, conditions, laid).
  DERIVED. THE GIVEN ROWS OF THIS SEAT. 3 by the template 'for every input the law returns true; each argument reads behind the call as it read before'; 0 by the template 'total and deterministic' (their statements: YtnkldldojalklaaTotals.lean).
  GIVEN WITH THE SEED: the statements are not yours to turn. If you find one false, say at which input.
  Laid BY PROGRAM, IN A SANDBOX (cutbox-rows.mjs): the forced cells as the released guide's own fill.sh prints them over the translation aca53bda26fb4f83… (all of the seat's roots in one cut). By AI agents, Wed Nov 11 2026. No macro, syntax, notation, axiom, sorry.
-/
import Derived.Test.YtnkldldojalklaaChecked
import GoSem.Claim
import GoSem.ClaimJoined
import GoSem.ClaimMapViews
import Derived.JoinedTies
import Derived.KernelRfl
namespace Go.Proofs.Ytnkldldojalklaa
/- THE CELL 'sum', in the pinned program and in every row, IS THE sha256 OF THE DUMP (.gsa) THAT YtnkldldojalklaaProg.lean LOADS. Nothing in Lean hashes anything: it is a label: what it is worth is what the hold of that sum in a sandbox is worth. -/
noncomputable def Try.pinned : Pinned := { name := "ytnkldldojalklaa", sum := "aca53bda26fb4f83804aa19ed7d4c81a17cda8733868c136104ed4aabade04d0", checked := Try.checked }
namespace Rows
def none {H : Type} : Left H := { results := [], args := [] }

/-- 'mailcoachlaw06.AeadBack': WHATEVER THE INPUT: true; the input reads as it did. -/
def aeadBackSpec : ChangeSpec := { name := "aeadBack", fn := fun _ => fun
  | [d1, d2] => { results := [.lit (.bool true)], args := [d1, d2] }
  | _ => none }
def aeadBackRow : OpenClaim := { program := "ytnkldldojalklaa", sum := "aca53bda26fb4f83804aa19ed7d4c81a17cda8733868c136104ed4aabade04d0", func := "mailcoach/mailcoachlaw06.AeadBack", spec := "aeadBack", unfollowed := true, recurses := true, apart := false }
def AeadBackSaid : Prop := aeadBackRow.holds Try.pinned (OpenSpec.ofChange aeadBackSpec)

/-- ITS FALSE NEIGHBOUR: 'it returns false'. Refute it at one input. -/
def aeadBackWrong : ChangeSpec := { name := "aeadBack", fn := fun _ => fun
  | [d1, d2] => { results := [.lit (.bool false)], args := [d1, d2] }
  | _ => none }
def AeadBackWrongFalsely : Prop := aeadBackRow.holds Try.pinned (OpenSpec.ofChange aeadBackWrong)

/-- 'mailcoachlaw06.AeadTag': WHATEVER THE INPUT: true; the input reads as it did. -/
def aeadTagSpec : ChangeSpec := { name := "aeadTag", fn := fun _ => fun
  | [d1, d2, d3] => { results := [.lit (.bool true)], args := [d1, d2, d3] }
  | _ => none }
def aeadTagRow : OpenClaim := { program := "ytnkldldojalklaa", sum := "aca53bda26fb4f83804aa19ed7d4c81a17cda8733868c136104ed4aabade04d0", func := "mailcoach/mailcoachlaw06.AeadTag", spec := "aeadTag", unfollowed := true, recurses := true, apart := false }
def AeadTagSaid : Prop := aeadTagRow.holds Try.pinned (OpenSpec.ofChange aeadTagSpec)

/-- ITS FALSE NEIGHBOUR: 'it returns false'. Refute it at one input. -/
def aeadTagWrong : ChangeSpec := { name := "aeadTag", fn := fun _ => fun
  | [d1, d2, d3] => { results := [.lit (.bool false)], args := [d1, d2, d3] }
  | _ => none }
def AeadTagWrongFalsely : Prop := aeadTagRow.holds Try.pinned (OpenSpec.ofChange aeadTagWrong)

/-- 'mailcoachlaw06.AeadMade': WHATEVER THE INPUT: true; the input reads as it did. -/
def aeadMadeSpec : ChangeSpec := { name := "aeadMade", fn := fun _ => fun
  | [d1, d2] => { results := [.lit (.bool true)], args := [d1, d2] }
  | _ => none }
def aeadMadeRow : OpenClaim := { program := "ytnkldldojalklaa", sum := "aca53bda26fb4f83804aa19ed7d4c81a17cda8733868c136104ed4aabade04d0", func := "mailcoach/mailcoachlaw06.AeadMade", spec := "aeadMade", unfollowed := true, recurses := true, apart := false }
def AeadMadeSaid : Prop := aeadMadeRow.holds Try.pinned (OpenSpec.ofChange aeadMadeSpec)

/-- ITS FALSE NEIGHBOUR: 'it returns false'. Refute it at one input. -/
def aeadMadeWrong : ChangeSpec := { name := "aeadMade", fn := fun _ => fun
  | [d1, d2] => { results := [.lit (.bool false)], args := [d1, d2] }
  | _ => none }
def AeadMadeWrongFalsely : Prop := aeadMadeRow.holds Try.pinned (OpenSpec.ofChange aeadMadeWrong)

/- THE SECOND FORM. 'bulk': how many values and letters a reading holds, each counted each time it is reached (what is shared counts as often as it is met; a slice's spare places count too). A statement '..UptoSaid' is the law's where the arguments, and the package variables that the reading takes, are together of bulk at most 1048576: NARROWER than '..Said'. Prove '..Said' where nothing that the law and all that it calls make is longer than what came in: it says more and counts as full. Else prove '..UptoSaid'. A law counts once. -/
mutual
def uptoBulk {H : Type} : DataW H → Nat
  | .lit (.string bytes) => bytes.length + 1
  | .lit _ => 1
  | .nil => 1
  | .ptr d => uptoBulk d + 1
  | .slice elems spare => uptoBulkAll elems + uptoBulkAll spare + 1
  | .agg parts => uptoBulkAll parts + 1
  | .iface _ d => uptoBulk d + 1
  | .map entries => uptoBulkEntries entries + 1
  | .held _ => 1
def uptoBulkAll {H : Type} : List (DataW H) → Nat
  | [] => 0
  | d :: r => uptoBulk d + uptoBulkAll r
def uptoBulkEntries {H : Type} : List (Lit × DataW H) → Nat
  | [] => 0
  | x :: r => uptoBulkEntry x + uptoBulkEntries r
def uptoBulkEntry {H : Type} : Lit × DataW H → Nat
  | (.string bytes, d) => bytes.length + uptoBulk d + 1
  | (_, d) => uptoBulk d + 1
 end
def uptoSmall : (H : Type) → List (DataW H) → Bool := fun _ ds => decide (uptoBulkAll ds ≤ 1048576)
def OpenSpec.upto (s : _root_.Go.ChangeSpec) : _root_.Go.OpenSpec := { _root_.Go.OpenSpec.ofChange s with cond := some uptoSmall }

/-- 'mailcoachlaw06.AeadBack', WHERE WHAT IT READS IS OF BULK AT MOST 1048576: true; the input reads as it did. -/
def aeadBackUptoRow : OpenClaim := { program := "ytnkldldojalklaa", sum := "aca53bda26fb4f83804aa19ed7d4c81a17cda8733868c136104ed4aabade04d0", func := "mailcoach/mailcoachlaw06.AeadBack", spec := "aeadBack", unfollowed := true, recurses := true, apart := false, narrowed := true }
def AeadBackUptoSaid : Prop := aeadBackUptoRow.holds Try.pinned (OpenSpec.upto aeadBackSpec)

/-- 'mailcoachlaw06.AeadTag', WHERE WHAT IT READS IS OF BULK AT MOST 1048576: true; the input reads as it did. -/
def aeadTagUptoRow : OpenClaim := { program := "ytnkldldojalklaa", sum := "aca53bda26fb4f83804aa19ed7d4c81a17cda8733868c136104ed4aabade04d0", func := "mailcoach/mailcoachlaw06.AeadTag", spec := "aeadTag", unfollowed := true, recurses := true, apart := false, narrowed := true }
def AeadTagUptoSaid : Prop := aeadTagUptoRow.holds Try.pinned (OpenSpec.upto aeadTagSpec)

/-- 'mailcoachlaw06.AeadMade', WHERE WHAT IT READS IS OF BULK AT MOST 1048576: true; the input reads as it did. -/
def aeadMadeUptoRow : OpenClaim := { program := "ytnkldldojalklaa", sum := "aca53bda26fb4f83804aa19ed7d4c81a17cda8733868c136104ed4aabade04d0", func := "mailcoach/mailcoachlaw06.AeadMade", spec := "aeadMade", unfollowed := true, recurses := true, apart := false, narrowed := true }
def AeadMadeUptoSaid : Prop := aeadMadeUptoRow.holds Try.pinned (OpenSpec.upto aeadMadeSpec)

end Rows
end Go.Proofs.Ytnkldldojalklaa
