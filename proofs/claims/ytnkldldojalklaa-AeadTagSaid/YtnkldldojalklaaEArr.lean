/- Lemmas and contracts for the proof of this seat's statements (Arr). No condition. -/
import Derived.Test.YtnkldldojalklaaENum
set_option linter.all false
namespace Go.Mc
theorem arr_get {α : Type} {f : α → Value} {l : List α} {o : Nat} {x : α} (h : l[o]? = some x) : (arr f l)[o]? = some (f x) := by simp [arr, h]
theorem arr_size {α : Type} {f : α → Value} (l : List α) : (arr f l).size = l.length := by simp [arr]
theorem arr_set {α : Type} {f : α → Value} (l : List α) (o : Nat) (x : α) : (arr f l).setIfInBounds o (f x) = arr f (l.set o x) := by
  simp [arr, List.map_set]
theorem map_get {α : Type} {f : α → Value} {l : List α} {o : Nat} {x : α} (h : l[o]? = some x) : (l.map f)[o]? = some (f x) := by simp [h]
theorem gd {α : Type} {l : List α} {o : Nat} (d : α) (h : o < l.length) : l[o]? = some (l.getD o d) := by simp [List.getD_eq_getElem?_getD, h]
class One {α : Type} (f : α → Value) : Prop where
  one : ∀ x, (f x).oneCell' = true
instance : One b8 := ⟨fun _ => rfl⟩
instance : One w32 := ⟨fun _ => rfl⟩
instance : One w64 := ⟨fun _ => rfl⟩
instance : One ki := ⟨fun _ => rfl⟩
theorem arr_one {α : Type} {f : α → Value} [One f] (l : List α) : ∀ u ∈ (arr f l).toList, u.oneCell' = true := by
  intro u hu
  simp only [arr, List.mem_map] at hu
  obtain ⟨x, _, rfl⟩ := hu
  exact One.one x
section
variable {F : Fence} {P : Program} {n : Nat} {L : List (Nat × Value)} {M : World → Prop} {w0 : World} {own : List Nat} {H : List Ch}
variable {d : Option Tmp} {ty : TypeId} {pos : String} {af : Array Edge} {g : Option (Nat × Bool)}
theorem e_store_arr {α : Type} {f : α → Value} [One f] {l : List α} {x' : α} {t : TypeId} {x y : Operand} {i b o : Nat} {E : TypeId} {H' : List Ch} (hs : szB P t 1 = true) (hx : ev L x = some (.pointer (some ⟨b, o, none⟩))) (hy : ev L y = some (f x')) (hi : H[i]? = some (.blk b (.cells (arr f l) E (0, 0))))
    (ho : o < l.length) (hH : SetAt H i (.blk b (.cells (arr f (l.set o x')) E (0, 0))) H') :
    Eff F P ⟨d, .store t x y, ty, pos, af, g⟩ L (Mem w0 own H) (fun _ : Unit => undef) (fun _ => Mem w0 own H') :=
  e_store1 hs hx hy hi (One.one x') (by rw [arr_size]; exact ho) (by rw [arr_set]; exact hH)
/-- len of a slice -/
theorem y_len_sl {t : TypeId} {x : Operand} {ad : Option Addr} {m cap : Nat} {tys : Array TypeId} {e : TypeId} (ht : slB P t e = true) (htys : tys = #[t]) (hx : ev L x = some (.slice ad m cap)) : Yld P ⟨d, .call ⟨.builtin .len, #[x], tys⟩, ty, pos, af, g⟩ L M (ki m) := .mk fun ρ w he _ => by
  subst htys
  simp [execOp, resolve, invoke, builtin, Builtin.len_, he _ _ hx, run_under (und_sl ht), goInt]
theorem y_cap_sl {t : TypeId} {x : Operand} {ad : Option Addr} {m cap : Nat} {tys : Array TypeId} {e : TypeId} (ht : slB P t e = true) (htys : tys = #[t]) (hx : ev L x = some (.slice ad m cap)) : Yld P ⟨d, .call ⟨.builtin .cap, #[x], tys⟩, ty, pos, af, g⟩ L M (ki cap) := .mk fun ρ w he _ => by
  subst htys
  simp [execOp, resolve, invoke, builtin, Builtin.cap_, he _ _ hx, run_under (und_sl ht), goInt]
theorem y_nilCheck {x : Operand} {a : Addr} (hx : ev L x = some (.pointer (some a))) : Yld P ⟨d, .nilCheck x, ty, pos, af, g⟩ L M (.pointer (some a)) := .mk fun ρ w he _ => by
  simp [execOp, he _ _ hx]
theorem y_cv {s t : TypeId} {x : Operand} {k k' : IntKind} {m : Int} {v : Value} (h : ev L x = some (.int k m)) (hs : (P.underlying s).isSome = true) (ht : P.underlying t = some (.int k')) (hv : Value.int k' (k'.wrap m) = v) :
    Yld P ⟨d, .convert s t x, ty, pos, af, g⟩ L M v := by
  obtain ⟨ds, hs⟩ := Option.isSome_iff_exists.1 hs
  subst hv; exact y_convert h hs ht
end
end Go.Mc
