/- Lemmas and contracts for the proof of this seat's statements (Bld). No condition. -/
import Derived.Test.YtnkldldojalklaaEApz
set_option linter.all false
namespace Go.Mc
theorem setR_app : ∀ (xs ys : List Value) (cs : Array Value) (o : Nat), setR (setR cs o xs) (o + xs.length) ys = setR cs o (xs ++ ys) := by
  intro xs
  induction xs with
  | nil => intro ys cs o; rfl
  | cons x xs ih => intro ys cs o; simp only [setR, List.length_cons, List.cons_append]; rw [← ih, Nat.add_right_comm, Nat.add_assoc]
section
variable {F : Fence} {P : Program} {n : Nat} {L : List (Nat × Value)} {M : World → Prop} {w0 : World} {own : List Nat} {H : List Ch}
variable {d : Option Tmp} {ty : TypeId} {pos : String} {af : Array Edge} {g : Option (Nat × Bool)}
variable {α : Type} {f : α → Value}
theorem fillR_two {a b : List α} {la lb : Nat} {zc : Array Value} (ha : a.length = la) (hb : b.length = lb) (hz : zc.size = la + lb) :
    fillR ([(0, la), (la, lb)][·]?) zc [(0, .agg (arr f a)), (1, .agg (arr f b))] = some (arr f (a ++ b)) := by
  subst ha; subst hb
  have e1 : (Value.agg (arr f a)).cells = arr f a := rfl
  have e2 : (Value.agg (arr f b)).cells = arr f b := rfl
  simp only [fillR, List.getElem?_cons_zero, List.getElem?_cons_succ, e1, e2]
  rw [if_neg (by simp [hz]), if_neg (by simp [hz])]
  congr 1
  have h := setR_app (a.map f) (b.map f) zc 0
  simp only [Nat.zero_add, List.length_map] at h
  simp only [arr]
  rw [h, setR_all _ _ (by simp [hz]), ← List.map_append]
/-- a struct of two arrays -/
theorem y_build_arr2 {t : TypeId} {z : Value} {parts : Array (Nat × Operand)} {a b : List α} {la lb : Nat} (hs : stB P t [(0, la), (la, lb)]) (hz : znB P t z) (hp : parts.toList.map (fun p => (p.1, ev L p.2)) = [(0, some (.agg (arr f a))), (1, some (.agg (arr f b)))]) (ha : a.length = la) (hb : b.length = lb) (hzs : z.cells.size = la + lb) :
    Yld P ⟨d, .build t parts, ty, pos, af, g⟩ L M (.agg (arr f (a ++ b))) :=
  y_build_st [(0, .agg (arr f a)), (1, .agg (arr f b))] hs hz hp (fillR_two ha hb hzs)
theorem arr_part (l : List α) (off k : Nat) : ∀ j v, (((l.drop off).take k).map f)[j]? = some v → (arr f l)[off + j]? = some v := by
  intro j v hj
  have hj' := (List.getElem?_eq_some_iff.1 hj).1
  simp only [List.length_map, List.length_take, List.length_drop] at hj'
  simp only [List.getElem?_map, List.getElem?_take, List.getElem?_drop] at hj
  rw [if_pos (by omega)] at hj
  simpa [arr] using hj
end
end Go.Mc
