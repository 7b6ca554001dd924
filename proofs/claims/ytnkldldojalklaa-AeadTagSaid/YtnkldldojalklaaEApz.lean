/- Lemmas and contracts for the proof of this seat's statements (Apz). No condition. -/
import Derived.Test.YtnkldldojalklaaEEqN
set_option linter.all false
namespace Go.Mc
theorem Mem.shrink {α : Type} {f : α → Value} {w0 w : World} {own : List Nat} {H : List Ch} {ad : Option Addr} {n cap : Nat} {E : TypeId} {xs : List α} (m : Mem w0 own (.sl ad n cap E 1 (xs.map f) :: H) w) (k : Nat) (hk : k ≤ n) : Mem w0 own (.sl ad k cap E 1 ((xs.take k).map f) :: H) w := by
  have hsat := m.sat (.sl ad n cap E 1 (xs.map f)) (by simp)
  have hs' : (Ch.sl ad k cap E 1 ((xs.take k).map f)).sat (World.at w) := by
    cases ad with
    | none => obtain ⟨h1, h2, h3⟩ := hsat; subst h1; subst h2; have : k = 0 := by omega
              subst this; exact ⟨rfl, rfl, by simp⟩
    | some a =>
      cases cap with
      | zero => obtain ⟨h1, _, h3⟩ := hsat; have : k = 0 := by omega
                subst this; exact ⟨rfl, rfl, by simp⟩
      | succ cap =>
        obtain ⟨h1, h2, h3, h4, rest, h5, h6⟩ := hsat
        simp only [List.length_map, Nat.mul_one] at h4
        refine ⟨h1, h2, by omega, by simp; omega, (xs.drop k).map f ++ rest, by simp at h5 ⊢; omega, ?_⟩
        rw [h6, ← List.append_assoc, ← List.map_append, List.take_append_drop]
  have hm : ∀ c ∈ (Ch.sl ad k cap E 1 ((xs.take k).map f) :: H), c ∈ H ∨ c = .sl ad k cap E 1 ((xs.take k).map f) := fun c hc => by
    rcases List.mem_cons.1 hc with h | h
    · exact .inr h
    · exact .inl h
  have hk' : (Ch.sl ad k cap E 1 ((xs.take k).map f)).keys = (Ch.sl ad n cap E 1 (xs.map f)).keys := by
    cases ad <;> cases cap <;> rfl
  refine ⟨m.os, m.tape, m.output, m.size, m.frame, fun c hc => ?_, ?_, fun c hc => ?_⟩
  · rcases hm c hc with h | rfl
    · exact m.sat c (by simp [h])
    · exact hs'
  · obtain ⟨h1, h2⟩ := List.pairwise_cons.1 m.apart
    exact List.Pairwise.cons (fun d hd => by rw [hk']; exact h1 d hd) h2
  · rcases hm c hc with h | rfl
    · exact m.mine c (by simp [h])
    · rw [hk']; exact m.mine _ (by simp)
section
variable {F : Fence} {P : Program} {n : Nat} {L : List (Nat × Value)} {M : World → Prop} {w0 : World} {own : List Nat} {H : List Ch}
variable {d : Option Tmp} {ty : TypeId} {pos : String} {af : Array Edge} {g : Option (Nat × Bool)}
/-- append(nil, make([]T, n)..) -/
theorem e_appendz {α : Type} {f : α → Value} [One f] {t E tx : TypeId} {x y : Operand} {bytes m : Nat} {z : Value} {z' : α} {tys : Array TypeId} (ht : slB P t E = true) (hE : elB P E 1 bytes z) (hz : z = f z') (htx : P.underlying tx = some (.int .i64)) (htys : tys = #[t, tx]) (hx : ev L x = some (.slice none 0 0)) (hy : ev L y = some (ki (m : Int)))
    (h0 : 0 < m) (b1 : m * bytes ≤ 140737488355328) (b0 : m ≤ 140737488355328) :
    Eff F P ⟨d, .call ⟨.builtin .append, #[x, y], tys⟩, ty, pos, af, g⟩ L (Mem w0 own H) (fun r : Option Addr × Nat => .slice r.1 m r.2) (fun r => Mem w0 own (.sl r.1 m r.2 E 1 ((List.replicate m z').map f) :: H)) := eff_mk fun ρ w he mm => by
  obtain ⟨ti, hti, hs1, hs2, hz0⟩ := hE
  subst hs2; subst htys
  have hz1 : z.cells = #[z] := by
    subst hz
    have := One.one (f := f) z'
    cases h : f z' <;> first | rfl | (rw [h] at this; simp [Value.oneCell'] at this)
  have hge := grownCap_ge w m 0 E
  have hzc : ∀ k, Builtin.zeroCells z.cells k = (List.replicate k z).toArray := by
    intro k; rw [hz1]
    apply Array.ext
    · simp [Builtin.zeroCells]
    · intro i h1 h2; simp [Builtin.zeroCells, Nat.mod_one]
  have hwl : IntKind.i64.wrap (m : Int) = (m : Int) := wrap_i64 (by omega) (by omega)
  have hb' : ¬ ((281474976710656 : Int) < (m : Int) * ti.bytes) := by
    have : ((m * ti.bytes : Nat) : Int) ≤ 281474976710656 := by omega
    rw [Int.natCast_mul] at this; omega
  have hns : ¬ (281474976710656 < Builtin.nextslicecap m 0 * ti.bytes) := by rw [nextslicecap_zero h0]; omega
  have h63 : ¬ (9223372036854775807 < (m : Int)) := by omega
  have hm0 : m ≠ 0 := by omega
  have hpos : 0 < grownCap w m 0 E := by omega
  have hrest : (List.replicate m z).length = m * 1 := by simp
  have hrun : (Builtin.append_ #[t, tx] ty #[.slice none 0 0, ki (m : Int)]).run P w = .ok (.slice (some ⟨w.heap.size, 0, none⟩) m (grownCap w m 0 E)) (w.drew.alloc (.cells (List.replicate m z ++ List.replicate (grownCap w m 0 E - m) z).toArray E)) := by
    simp [Builtin.append_, run_underlying (und_sl ht), run_underlying htx, sizeOf, typeInfo, hti, asInt, asIntOf, hwl, hb', h63, hns, Question.forced, zeroValue, hz0, newRow, grownCap, hm0, hs1, hzc, run_firstCells_none]
    intro hneg; exact absurd hneg (by omega)
  refine ⟨(some ⟨w.heap.size, 0, none⟩, grownCap w m 0 E), w.drew.alloc (.cells (List.replicate m z ++ List.replicate (grownCap w m 0 E - m) z).toArray E), .inl (by simp only [execOp, resolve, invoke, builtin, Sem.run_bind, Sem.run_pure, Result.andThen_ok, List.map_toArray, List.map_cons, List.map_nil, he _ _ hx, he _ _ hy]; rw [hrun]; rfl), ?_⟩
  have hs := sat_new (w := w.drew) (n := m) (cap := grownCap w m 0 E) (sz := 1) (E := E) (xs := List.replicate m z) (rest := List.replicate (grownCap w m 0 E - m) z) hrest hge hpos (by simp; omega)
  subst hz
  simp only [List.map_replicate]
  refine mm.push (c := .sl (some ⟨w.heap.size, 0, none⟩) m (grownCap w m 0 E) E 1 (List.replicate m (f z'))) (fun b hb' => ?_) rfl rfl rfl (by simp) (fun b hb => Go.RowKit.Below.heap_alloc _ _ _ hb) hs
  obtain ⟨cc, hcc⟩ := Nat.exists_eq_succ_of_ne_zero (Nat.pos_iff_ne_zero.1 hpos)
  simp only [hcc, Ch.keys, List.mem_singleton] at hb'
  subst hb'; exact Nat.le_refl _
/-- a piece: its address, its length, its room, what it reads as -/
abbrev Pc : Type := Option Addr × Nat × Nat × List UInt8
def pv (p : Pc) : Value := .slice p.1 p.2.1 p.2.2.1
instance : One pv := ⟨fun _ => rfl⟩
end
end Go.Mc
