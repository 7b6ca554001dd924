/- Lemmas and contracts for the proof of this seat's statements (Arg2). No condition. -/
import Derived.Test.YtjibkjoaamchoaaGreatDoorEArg
import Derived.Test.YtjibkjoaamchoaaGreatDoorEEngC
import Derived.ChangeMaps5
set_option linter.all false
namespace Go.Mc
open Go.ChangeShapes Go.WideShapes Go.ChangeAt Go.RowKit
section
variable {H : Type} {enc : TypeId × Value → H} {P : Program} {w : World} {fuel : Nat} {x : DataW H × List MemPlace} {cs : List Value} {t e : TypeId} {base : Nat}
theorem o_str (ht : P.underlying t = some .string) (h : DataW.trod enc P w 0 (fun _ => true) true fuel t cs = some x) :
    ∃ (xs : List UInt8), xs.length ≤ maxLen ∧ cs = [.string (bs xs)] := by
  obtain ⟨s, h1, _, h3⟩ := DataW.trod_string ht h
  refine ⟨s.data.toList, by rw [Array.length_toList]; exact h3, ?_⟩
  rw [h1]
  rfl
theorem o_i64 (ht : P.underlying t = some (.int .i64)) (h : DataW.trod enc P w 0 (fun _ => true) true fuel t cs = some x) :
    ∃ (z : Int), cs = [ki z] ∧ z ≤ 9223372036854775807 := by
  obtain ⟨z, hz, _, hw⟩ := DataW.trod_int ht h
  exact ⟨z, hz, (Go.bounds_i64 hw).2⟩
end
end Go.Mc
