/- Lemmas and contracts for the proof of this seat's statements (EqN). No condition. -/
import Derived.Test.YtnkldldojalklaaETwo
set_option linter.all false
namespace Go.Mc
section
variable {F : Fence} {P : Program} {n : Nat} {L : List (Nat × Value)} {M : World → Prop} {w0 : World} {own : List Nat} {H : List Ch}
variable {d : Option Tmp} {ty : TypeId} {pos : String} {af : Array Edge} {g : Option (Nat × Bool)}
/-- a slice against nil -/
theorem y_eqnil {t t' e : TypeId} {x : Operand} {ad : Option Addr} {k c : Nat} (ht : slB P t e = true) (hx : ev L x = some (.slice ad k c)) : Yld P ⟨d, .binOp .eql t x (.const (.slice none 0 0)) t', ty, pos, af, g⟩ L M (.bool ad.isNone) := .mk fun ρ w he _ => by
  have h1 := he _ _ hx
  have h2 : ρ (.const (.slice none 0 0)) = .slice none 0 0 := he _ _ rfl
  have hq : (Op.equalIn (9999 + 1) t (.slice ad k c) (.slice none 0 0)).run P w = .ok ad.isNone w := by
    have key : ∀ m, (Op.equalIn (m + 1) t (.slice ad k c) (.slice none 0 0)).run P w = .ok ad.isNone w := by
      intro m
      cases ad <;> simp [Op.equalIn, run_under (und_sl ht)]
    exact key 9999
  have hq' : (Op.equalIn 10000 t (.slice ad k c) (.slice none 0 0)).run P w = .ok ad.isNone w := hq
  simp [execOp, h1, h2, eqGuard, binOp, Op.equal, Op.maxDepth, hq']
end
end Go.Mc
