/- Lemmas and contracts for the proof of this seat's statements (Rng). No condition. -/
import Derived.Test.YtnkldldojalklaaEMk
set_option linter.all false
namespace Go.Mc
section
variable {P : Program} {n : Nat} {D : List Deferred} {L : List (Nat × Value)} {Q : Exit → Act → World → Prop} {w0 : World} {own : List Nat} {H : List Ch}
/-- for .. := range g { .. }: the record told by its state and by what is pending -/
theorem wc_range' {g : Operand} {ps : Array Tmp} {assign body : Code} {gf : FuncId} {first cap : Array Value} {α : Sort _} (V : α → Value) (H2 H3 : Nat → Nat → (LoopState → Option Code → Obj) → α → List Ch) (J : α → Option Code) (idx : α → Nat)
    (hg : ev L g = some (.func (.func gf) first cap)) (hcf : cfB P gf = true)
    (hcall : ∀ b l tm fn rec w, rec = (fun s p => loopRec fn tm ps assign body b s p) → Kept n L tm → Mem w0 own (.blk l (rec .ready none) :: .blk b (.deferred (some [])) :: H) w → Calls P gf (first ++ #[.func (.yield l) #[] #[]] ++ cap) w (Ret V (fun x => Mem w0 own (H2 b l rec x))))
    (hend : ∀ b l rec x, ∃ s, s ≠ .busy ∧ (H2 b l rec x)[idx x]? = some (.blk l (rec s (J x))))
    (hset : ∀ b l rec x, SetAt (H2 b l rec x) (idx x) (.blk l (rec .exhausted (J x))) (H3 b l rec x))
    (k : ∀ b l rec x, match J x with
      | none => AQ Q .normal n (markOf b :: D) L (Mem w0 own (H3 b l rec x))
      | some c => WC Fence.wide P Q n (markOf b :: D) c L (Mem w0 own (H3 b l rec x))) :
    WC Fence.wide P Q n D (.rangeFunc g ps assign body) L (Mem w0 own H) :=
  wc_range V (fun b l tm fn x => H2 b l (fun s p => loopRec fn tm ps assign body b s p) x) J idx hg hcf (fun b l tm fn w hk hm => hcall b l tm fn _ w rfl hk hm) (fun b l tm fn x => hend b l _ x) fun b l tm fn x => by
    have h := k b l (fun s p => loopRec fn tm ps assign body b s p) x
    rw [(hset b l (fun s p => loopRec fn tm ps assign body b s p) x).eq] at h
    exact h
/-- a loop that is left by its own body alone, each time the same way -/
theorem wc_range1 {g : Operand} {ps : Array Tmp} {assign body : Code} {gf : FuncId} {first cap : Array Value} {α : Sort _} (V : α → Value) (H2 H3 : Nat → Nat → (LoopState → Option Code → Obj) → α → List Ch) (c : Code) (idx : Nat)
    (hg : ev L g = some (.func (.func gf) first cap)) (hcf : cfB P gf = true)
    (hcall : ∀ b l tm fn rec w, rec = (fun s p => loopRec fn tm ps assign body b s p) → Kept n L tm → Mem w0 own (.blk l (rec .ready none) :: .blk b (.deferred (some [])) :: H) w → Calls P gf (first ++ #[.func (.yield l) #[] #[]] ++ cap) w (Ret V (fun x => Mem w0 own (H2 b l rec x))))
    (hend : ∀ b l rec x, (H2 b l rec x)[idx]? = some (.blk l (rec .done (some c))))
    (hset : ∀ b l rec x, SetAt (H2 b l rec x) idx (.blk l (rec .exhausted (some c))) (H3 b l rec x))
    (k : ∀ b l rec x, WC Fence.wide P Q n (markOf b :: D) c L (Mem w0 own (H3 b l rec x))) :
    WC Fence.wide P Q n D (.rangeFunc g ps assign body) L (Mem w0 own H) :=
  wc_range' V H2 H3 (fun _ => some c) (fun _ => idx) hg hcf hcall (fun b l rec x => ⟨.done, by simp, hend b l rec x⟩) hset k
/-- a loop that is never left by its body -/
theorem wc_range0 {g : Operand} {ps : Array Tmp} {assign body : Code} {gf : FuncId} {first cap : Array Value} {α : Sort _} (V : α → Value) (H2 H3 : Nat → Nat → (LoopState → Option Code → Obj) → α → List Ch) (idx : Nat)
    (hg : ev L g = some (.func (.func gf) first cap)) (hcf : cfB P gf = true)
    (hcall : ∀ b l tm fn rec w, rec = (fun s p => loopRec fn tm ps assign body b s p) → Kept n L tm → Mem w0 own (.blk l (rec .ready none) :: .blk b (.deferred (some [])) :: H) w → Calls P gf (first ++ #[.func (.yield l) #[] #[]] ++ cap) w (Ret V (fun x => Mem w0 own (H2 b l rec x))))
    (hend : ∀ b l rec x, (H2 b l rec x)[idx]? = some (.blk l (rec .ready none)))
    (hset : ∀ b l rec x, SetAt (H2 b l rec x) idx (.blk l (rec .exhausted none)) (H3 b l rec x))
    (k : ∀ b l rec x, AQ Q .normal n (markOf b :: D) L (Mem w0 own (H3 b l rec x))) :
    WC Fence.wide P Q n D (.rangeFunc g ps assign body) L (Mem w0 own H) :=
  wc_range' V H2 H3 (fun _ => none) (fun _ => idx) hg hcf hcall (fun b l rec x => ⟨.ready, by simp, hend b l rec x⟩) hset k
end
end Go.Mc
