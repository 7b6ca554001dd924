/- Lemmas and contracts for the proof of this seat's statements (Arg). No condition. -/
import Derived.Test.YtjibkjoaamchoaaGreatDoorEEngC
import Derived.WalkKit
import Derived.ProofKit
import Derived.OpenShut
import Derived.ChangeOld
import Derived.SizedLaws
import Derived.ChangeSlices
set_option linter.all false
namespace Go.Mc
open Go.ChangeShapes Go.WideShapes Go.ChangeAt Go.RowKit
section
variable {H : Type} {enc : TypeId × Value → H} {P : Program} {w : World} {fuel : Nat} {x : DataW H × List MemPlace} {cs : List Value} {t e : TypeId} {base : Nat}

/-- what is read is no heavier than the form's reach -/
def Lt (P : Program) (t : TypeId) (d : DataW H) : Prop := ∀ n ∈ d.weights P t, n ≤ reachBytes

theorem lt_each {ts : List TypeId} {ds : List (DataW H)} (h : (DataW.weightsEach P ts ds).all (· ≤ reachBytes) = true) {j : Nat} {d : DataW H} (ht : ts[j]? = some t) (hd : ds[j]? = some d) : Lt P t d := fun n hn => by
  have := List.all_eq_true.1 h _ (DataW.weights_mem_each ht hd n hn)
  simpa using this

theorem bounds_u8' {n : Int} (h : (Lit.int .u8 n).wf = true) : 0 ≤ n ∧ n ≤ 255 := by
  simp [Lit.wf, IntKind.min, IntKind.max, IntKind.signed, IntKind.bits] at h
  omega
theorem u8_of {n : Int} (h : (Lit.int .u8 n).wf = true) : ∃ b : UInt8, Value.int .u8 n = b8 b := by
  have := bounds_u8' h
  refine ⟨UInt8.ofNat n.toNat, ?_⟩
  show Value.int .u8 n = Value.int .u8 _
  congr 1
  rw [UInt8.toNat_ofNat']
  omega

theorem o_bytes (ht : P.underlying t = some (.slice e)) (he : P.underlying e = some (.int .u8)) (hc : P.cellsOf e = 1) (hb : P.bytesOf e = 1)
    (h : DataW.trod enc P w 0 (fun _ => true) true fuel t cs = some x) (hl : Lt P t x.1) :
    ∃ (ad : Option Addr) (n cap : Nat) (xs : List UInt8), cs = [.slice ad n cap] ∧ Rd w ad n 1 (xs.map b8) ∧ n ≤ cap ∧ n ≤ 140737488351232 := by
  rcases open_ints ht he hc h with ⟨rfl, rfl⟩ | ⟨a, len, cap, zs, rfl, _, hlc, _, hz, hx, hcell, hw⟩
  · exact ⟨none, 0, 0, [], rfl, Rd.nil _ _ _, Nat.le_refl _, Nat.zero_le _⟩
  · simp only [if_true] at hz
    have hb8 : ∀ z ∈ zs, Value.int .u8 z = b8 (UInt8.ofNat z.toNat) := fun z hz => by
      have := bounds_u8' (hw z hz)
      show Value.int .u8 z = Value.int .u8 _
      congr 1
      rw [UInt8.toNat_ofNat']
      omega
    refine ⟨some a, len, cap, (zs.take len).map (fun z => UInt8.ofNat z.toNat), rfl, ⟨by simp; omega, fun k y hk => ⟨rfl, ?_⟩⟩, hlc, ?_⟩
    · simp only [List.map_map, List.getElem?_map, Option.map_eq_some_iff, List.getElem?_take] at hk
      obtain ⟨z, hz1, rfl⟩ := hk
      split at hz1
      · rename_i hkl
        have hkz : k < zs.length := by omega
        rw [List.getElem?_eq_getElem hkz] at hz1
        injection hz1 with hz1
        subst hz1
        show w.cell? (a.add k) = _
        rw [hcell k hkz, List.getD_eq_getElem?_getD, List.getElem?_eq_getElem hkz]
        exact congrArg some (hb8 _ (List.getElem_mem hkz))
      · cases hz1
    · have hx1 : x.1 = .slice (lits .u8 (zs.take len)) (lits .u8 (zs.drop len)) := by rw [hx]
      have := hl (((lits (H := H) .u8 (zs.take len)).length + (lits (H := H) .u8 (zs.drop len)).length) * P.bytesOf e) (by rw [hx1]; simp [DataW.weights, ht])
      rw [hb, Nat.mul_one] at this
      have h1 : (lits (H := H) .u8 (zs.take len)).length + (lits (H := H) .u8 (zs.drop len)).length = zs.length := by
        simp [lits]
        omega
      rw [h1] at this
      have h2 : reachBytes = 140737488351232 := by decide
      omega

theorem mem_each_of {P : Program} : ∀ {ts : List TypeId} {ds : List (DataW H)}, (∀ n ∈ DataW.weightsEach P ts ds, n ≤ reachBytes) → ∀ {i : Nat} {t : TypeId} {d : DataW H}, ts[i]? = some t → ds[i]? = some d → Lt P t d :=
  fun h _ _ _ ht hd n hn => h n (DataW.weights_mem_each ht hd n hn)
theorem mem_all_of {P : Program} {e : TypeId} : ∀ {ds : List (DataW H)}, (∀ n ∈ DataW.weightsAll P e ds, n ≤ reachBytes) → ∀ d ∈ ds, Lt P e d
  | [], _, _, h, _, _ => by cases h
  | d0 :: ds, h, d, hd, n, hn => by
    simp only [DataW.weightsAll, List.mem_append] at h
    rcases List.mem_cons.1 hd with rfl | hd
    · exact h n (.inl hn)
    · exact mem_all_of (fun m hm => h m (.inr hm)) d hd n hn

theorem o_struct {fs : Array Field} (ht : P.underlying t = some (.struct fs)) (h : DataW.trod enc P w 0 (fun _ => true) true fuel t cs = some x) (hl : Lt P t x.1) :
    ∃ n, cs.length = P.cellsOf t ∧ ∀ (i : Nat) (f : Field) (o s : Nat), fs[i]? = some f → f.offset = o → P.cellsOf f.type = s → ∃ y, DataW.trod enc P w 0 (fun _ => true) true n f.type ((cs.drop o).take s) = some y ∧ Lt P f.type y.1 := by
  obtain ⟨xs, n, _, hx, hlen, hxl, hF⟩ := DataW.trod_struct ht h
  refine ⟨n, hlen, fun i f o s hf ho hs => ?_⟩
  subst ho; subst hs
  have hi : i < xs.length := by
    have := (Array.getElem?_eq_some_iff.1 hf).1
    omega
  have h1 := hF i f hf
  rw [List.getElem?_eq_getElem hi] at h1
  refine ⟨_, h1, ?_⟩
  rw [hx] at hl
  refine mem_each_of (ts := fs.toList.map (·.type)) (ds := xs.map (·.1)) (fun m hm => hl m (by simpa [DataW.weights, ht] using hm)) (i := i) ?_ ?_
  · rw [List.getElem?_map, Array.getElem?_toList, hf]; rfl
  · rw [List.getElem?_map, List.getElem?_eq_getElem hi]; rfl

theorem map_of {l : List Value} (h : ∀ c ∈ l, ∃ b : UInt8, c = b8 b) : ∃ xs : List UInt8, xs.length = l.length ∧ l = xs.map b8 := by
  induction l with
  | nil => exact ⟨[], rfl, rfl⟩
  | cons c l ih =>
    obtain ⟨b, rfl⟩ := h c (by simp)
    obtain ⟨xs, h1, h2⟩ := ih fun c hc => h c (by simp [hc])
    exact ⟨b :: xs, by simp [h1], by simp [← h2]⟩
theorem o_u8s {n : Nat} (ht : P.underlying t = some (.array n e)) (he : P.underlying e = some (.int .u8)) (hc : P.cellsOf e = 1) (hct : P.cellsOf t = n) (h : DataW.trod enc P w 0 (fun _ => true) true fuel t cs = some x) :
    ∃ xs : List UInt8, xs.length = n ∧ cs = xs.map b8 := by
  obtain ⟨xs, m, _, hx, hlen, hxl, hF⟩ := DataW.trod_array ht h
  rw [hct] at hlen
  have key : ∀ i (hi : i < cs.length), ∃ b : UInt8, cs[i] = b8 b := fun i hi => by
    have h1 := hF i (by omega)
    rw [hc, Nat.mul_one, List.getElem?_eq_getElem (by omega)] at h1
    obtain ⟨z, hz, _, hw⟩ := DataW.trod_int he h1
    obtain ⟨b, hb⟩ := u8_of hw
    refine ⟨b, ?_⟩
    have h2 : ((cs.drop i).take 1)[0]? = some cs[i] := by rw [List.getElem?_take, if_pos (by decide), List.getElem?_drop, Nat.add_zero, List.getElem?_eq_getElem hi]
    rw [hz] at h2
    simp only [List.getElem?_cons_zero, Option.some.injEq] at h2
    rw [← h2]; exact hb
  clear hF hx h hxl
  have all : ∀ c ∈ cs, ∃ b : UInt8, c = b8 b := fun c hcm => by
    obtain ⟨i, hi, rfl⟩ := List.getElem_of_mem hcm
    exact key i hi
  obtain ⟨xs, h1, h2⟩ := map_of all
  exact ⟨xs, h1.trans hlen, h2⟩
theorem o_val {v : Value} {d : DataW H} {ps : List MemPlace} {fs : Array Field} {r : Reach} {b0 : Nat} (ht : P.underlying t = some (.struct fs)) (hv : Value.okWide P w r b0 t v) (h : DataW.Trod enc P w 0 (fun _ => true) true t v d ps) :
    ∃ (cs : List Value) (fuel : Nat), v = .agg cs.toArray ∧ DataW.trod enc P w 0 (fun _ => true) true fuel t cs = some (d, ps) := by
  obtain ⟨cs, rfl, _⟩ := okWide_struct ht hv
  obtain ⟨fuel, hf⟩ := h
  exact ⟨cs.toList, fuel, by simp, by simpa [Value.cells] using hf⟩
theorem o_vala {v : Value} {d : DataW H} {ps : List MemPlace} {n : Nat} {r : Reach} {b0 : Nat} (ht : P.underlying t = some (.array n e)) (hv : Value.okWide P w r b0 t v) (h : DataW.Trod enc P w 0 (fun _ => true) true t v d ps) :
    ∃ (cs : List Value) (fuel : Nat), v = .agg cs.toArray ∧ DataW.trod enc P w 0 (fun _ => true) true fuel t cs = some (d, ps) := by
  have h2 : ∃ cs, v = .agg cs := by
    simp only [Value.okWide, ht] at hv
    obtain ⟨cs, h1, _⟩ := hv
    exact ⟨cs, h1⟩
  obtain ⟨cs, rfl⟩ := h2
  obtain ⟨fuel, hf⟩ := h
  exact ⟨cs.toList, fuel, by simp, by simpa [Value.cells] using hf⟩
theorem o_vals {v : Value} {d : DataW H} {ps : List MemPlace} {r : Reach} {b0 : Nat} (ht : P.underlying t = some (.slice e)) (hv : Value.okWide P w r b0 t v) (h : DataW.Trod enc P w 0 (fun _ => true) true t v d ps) :
    ∃ (fuel : Nat), DataW.trod enc P w 0 (fun _ => true) true fuel t [v] = some (d, ps) := by
  obtain ⟨a, n, c, rfl⟩ := okWide_slice ht hv
  obtain ⟨fuel, hf⟩ := h
  exact ⟨fuel, by simpa [Value.cells] using hf⟩
theorem list1 {α : Type} {l : List α} (h : l.length = 1) : ∃ a, l = [a] := by match l, h with | [a], _ => exact ⟨a, rfl⟩
theorem list2 {α : Type} {l : List α} (h : l.length = 2) : ∃ a b, l = [a, b] := by match l, h with | [a, b], _ => exact ⟨a, b, rfl⟩
theorem list3 {α : Type} {l : List α} (h : l.length = 3) : ∃ a b c, l = [a, b, c] := by match l, h with | [a, b, c], _ => exact ⟨a, b, c, rfl⟩
theorem list4 {α : Type} {l : List α} (h : l.length = 4) : ∃ a b c d, l = [a, b, c, d] := by match l, h with | [a, b, c, d], _ => exact ⟨a, b, c, d, rfl⟩
end
/-- the memory below a start is as it was -/
theorem below_of {w w' : World} {H : List Ch} (h : Mem w [] H w') : Go.RowKit.Below w.heap.size w w' := h.below
end Go.Mc
