/- Lemmas and contracts for the proof of this seat's statements (PolA). No condition. -/
import Derived.Test.YtnkldldojalklaaEPar2
import Derived.Test.YtnkldldojalklaaProg
import Derived.KernelRfl
import Derived.Test.YtnkldldojalklaaESlcA
set_option linter.all false
namespace Go.Proofs.Ytnkldldojalklaa
open Go.Mc
private theorem zn60 : znB Try.prog 60 (.agg (arr w64 (List.replicate 5 0))) := by unfold znB; kernel_rfl
private theorem sl22 : slB Try.prog 22 5 = true := by kernel_rfl
private theorem sz5 : szB Try.prog 5 1 = true := by kernel_rfl
private theorem sc5 : scB Try.prog 5 = true := by kernel_rfl
private theorem us5 : (Try.prog.underlying 5).isSome = true := by kernel_rfl
private theorem ui39 : Try.prog.underlying 39 = some (.int .u64) := by kernel_rfl
private theorem ar60 : arB Try.prog 60 5 39 = true := by kernel_rfl
private theorem sz39 : szB Try.prog 39 1 = true := by kernel_rfl
private theorem sc39 : scB Try.prog 39 = true := by kernel_rfl
private theorem ag60 : agB Try.prog 60 5 = true := by kernel_rfl
private theorem sz60 : szB Try.prog 60 5 = true := by kernel_rfl
private theorem cf40 : cfB Try.prog 40 = true := by kernel_rfl
private theorem zn40 : znB Try.prog 40 (.agg (arr b8 (List.replicate 16 0))) := by unfold znB; kernel_rfl
private theorem us39 : (Try.prog.underlying 39).isSome = true := by kernel_rfl
private theorem ui5 : Try.prog.underlying 5 = some (.int .u8) := by kernel_rfl
private theorem ar40 : arB Try.prog 40 16 5 = true := by kernel_rfl
private theorem ag40 : agB Try.prog 40 16 = true := by kernel_rfl
private theorem sz40 : szB Try.prog 40 16 = true := by kernel_rfl
private theorem sc22 : scB Try.prog 22 = true := by kernel_rfl
private theorem cf39 : cfB Try.prog 39 = true := by kernel_rfl
private theorem cf42 : cfB Try.prog 42 = true := by kernel_rfl
private theorem sc81 : scB Try.prog 81 = true := by kernel_rfl
private theorem cf22 : cfB Try.prog 22 = true := by kernel_rfl
private theorem el5 : elB Try.prog 5 1 1 (b8 (0)) := elB_of (by kernel_rfl) (by kernel_rfl) (by unfold znB; kernel_rfl)
private theorem ar33 : arB Try.prog 33 32 5 = true := by kernel_rfl
private theorem cf23 : cfB Try.prog 23 = true := by kernel_rfl
private theorem cf24 : cfB Try.prog 24 = true := by kernel_rfl
private theorem cf38 : cfB Try.prog 38 = true := by kernel_rfl
private theorem cf25 : cfB Try.prog 25 = true := by kernel_rfl
private theorem cf26 : cfB Try.prog 26 = true := by kernel_rfl
private theorem cf27 : cfB Try.prog 27 = true := by kernel_rfl
private theorem cf28 : cfB Try.prog 28 = true := by kernel_rfl
private theorem ui3 : Try.prog.underlying 3 = some (.int .i64) := by kernel_rfl
private theorem us3 : (Try.prog.underlying 3).isSome = true := by kernel_rfl
def Bd (B : Nat) (l : List UInt64) : Prop := l.length = 5 ∧ ∀ x ∈ l, x.toNat < B
theorem Bd.get {B : Nat} {l : List UInt64} (h : Bd B l) (hB : 0 < B) (i : Nat) : (l.getD i 0).toNat < B := by
  rw [List.getD_eq_getElem?_getD]
  cases hx : l[i]? with
  | none => simpa using hB
  | some x => exact h.2 x (List.mem_of_getElem? hx)
def ofStep (l : List UInt64) (i : Nat) (wide : UInt64) : List UInt64 :=
  if wide > 67108863 then (l.set i (l.getD i 0 ||| (wide &&& 67108863))).set (i + 1) ((l.set i (l.getD i 0 ||| (wide &&& 67108863))).getD (i + 1) 0 ||| (wide >>> UInt64.ofNat 26))
  else l.set i (l.getD i 0 ||| (wide &&& 67108863))
def ofF (xs : List UInt8) : Nat → List UInt64
  | 0 => List.replicate 5 0
  | k + 1 => ofStep (ofF xs k) ((8 * k) / 26) ((xs.getD k 0).toUInt64 <<< UInt64.ofNat ((8 * k) % 26))
@[simp] theorem ofStep_len (l : List UInt64) (i : Nat) (wide : UInt64) : (ofStep l i wide).length = l.length := by unfold ofStep; split <;> simp
@[simp] theorem ofF_len (xs : List UInt8) (k : Nat) : (ofF xs k).length = 5 := by
  induction k with
  | zero => rfl
  | succ k ih => simp [ofF, ih]
theorem of_wide {xs : List UInt8} {k : Nat} (h16 : xs.getD 16 0 < 4) (hk : k ≤ 16) (hw : (xs.getD k 0).toUInt64 <<< UInt64.ofNat ((8 * k) % 26) > 67108863) : k < 13 := by
  rcases Nat.lt_or_ge k 13 with h | h
  · exact h
  · exfalso
    have hk4 : k = 13 ∨ k = 14 ∨ k = 15 ∨ k = 16 := by omega
    generalize hx : xs.getD k 0 = x at hw
    have key : ∀ s, s = 0 ∨ s = 8 ∨ s = 16 → ∀ x : UInt8, ¬ (x.toUInt64 <<< UInt64.ofNat s > 67108863) := by
      intro s hs x
      have hx := x.toNat_lt
      rw [gt_iff_lt, UInt64.lt_iff_toNat_lt]
      rcases hs with rfl | rfl | rfl <;> simp [UInt64.toNat_shiftLeft, Nat.shiftLeft_eq] <;> omega
    rcases hk4 with rfl | rfl | rfl | rfl
    · exact key 0 (.inl rfl) x hw
    · exact key 8 (.inr (.inl rfl)) x hw
    · exact key 16 (.inr (.inr rfl)) x hw
    · rw [hx] at h16
      have h2 : ∀ x : Fin 4, ¬ ((UInt8.ofNat x.val).toUInt64 <<< UInt64.ofNat ((8 * 16) % 26) > 67108863) := by decide
      have h3 : x.toNat < 4 := by simpa [UInt8.lt_iff_toNat_lt] using h16
      have h4 := h2 ⟨x.toNat, h3⟩
      simp only [UInt8.ofNat_toNat] at h4
      exact h4 hw
/-! carrying -/
def passStep (l : List UInt64) (i : Nat) : List UInt64 :=
  if i + 1 < 5 then (l.set i (l.getD i 0 &&& 67108863)).set (i + 1) ((l.set i (l.getD i 0 &&& 67108863)).getD (i + 1) 0 + (l.getD i 0 >>> UInt64.ofNat 26))
  else (l.set i (l.getD i 0 &&& 67108863)).set 0 ((l.set i (l.getD i 0 &&& 67108863)).getD 0 0 + (5 * (l.getD i 0 >>> UInt64.ofNat 26)))
def passTo (l : List UInt64) : Nat → List UInt64
  | 0 => l
  | i + 1 => passStep (passTo l i) i
@[simp] theorem passTo_len (l : List UInt64) (k : Nat) : (passTo l k).length = l.length := by
  induction k with
  | zero => rfl
  | succ k ih => simp only [passTo]; unfold passStep; split <;> simp [ih]
def smallB (l : List UInt64) : Bool := l.all fun x => !(decide (x > 67108863))
def goF : Nat → List UInt64 → List UInt64
  | 0, l => l
  | f + 1, l => if smallB (passTo l 5) then passTo l 5 else goF f (passTo l 5)
def fuelF : Nat := 2 ^ 200
def carriedF (l : List UInt64) : List UInt64 := goF fuelF l
def vF (l : List UInt64) : Nat := (l.getD 0 0).toNat + 2 ^ 26 * (l.getD 1 0).toNat + 2 ^ 52 * (l.getD 2 0).toNat + 2 ^ 78 * (l.getD 3 0).toNat + 2 ^ 104 * (l.getD 4 0).toNat
theorem vF_lt {l : List UInt64} (h : Bd 9223372036854775808 l) : vF l < fuelF := by
  unfold fuelF
  have h0 := h.get (by decide) 0
  have h1 := h.get (by decide) 1
  have h2 := h.get (by decide) 2
  have h3 := h.get (by decide) 3
  have h4 := h.get (by decide) 4
  unfold vF; omega
theorem not_small {l : List UInt64} {j : Nat} (h : l.getD j 0 > 67108863) (hj : j < 5) (hl : l.length = 5) : smallB l = false := by
  unfold smallB
  rw [List.all_eq_false]
  refine ⟨l.getD j 0, ?_, by simpa using h⟩
  rw [List.getD_eq_getElem?_getD, List.getElem?_eq_getElem (by omega)]
  exact List.getElem_mem _
theorem small_of {l : List UInt64} {j : Nat} (h : ∀ q, q < j → ¬ (l.getD q 0 > 67108863)) (hj : 5 ≤ j) (hl : l.length = 5) : smallB l = true := by
  unfold smallB
  rw [List.all_eq_true]
  intro x hx
  obtain ⟨q, hq, rfl⟩ := List.getElem_of_mem hx
  have := h q (by omega)
  rw [List.getD_eq_getElem?_getD, List.getElem?_eq_getElem hq] at this
  simpa using this
theorem list5 {l : List UInt64} (h : l.length = 5) : ∃ a b c d e, l = [a, b, c, d, e] := by
  match l, h with
  | [a, b, c, d, e], _ => exact ⟨a, b, c, d, e, rfl⟩
theorem and_mask (x : UInt64) : (x &&& 67108863).toNat = x.toNat % 67108864 := by
  rw [UInt64.toNat_and]
  exact Nat.and_two_pow_sub_one_eq_mod x.toNat 26
theorem shr26 (x : UInt64) : (x >>> UInt64.ofNat 26).toNat = x.toNat / 67108864 := by
  rw [UInt64.toNat_shiftRight]
  simp [Nat.shiftRight_eq_div_pow]
theorem addN (x y : UInt64) (h : x.toNat + y.toNat < 18446744073709551616) : (x + y).toNat = x.toNat + y.toNat := by
  rw [UInt64.toNat_add]; exact Nat.mod_eq_of_lt h
theorem mul5 (x : UInt64) (h : 5 * x.toNat < 18446744073709551616) : ((5 : UInt64) * x).toNat = 5 * x.toNat := by
  rw [UInt64.toNat_mul]; exact Nat.mod_eq_of_lt h
/-- what a pass comes to -/
theorem pass_eq {l : List UInt64} (hB : Bd 9223372036854775808 l) : ∃ h4 : Nat, vF (passTo l 5) + (2 ^ 130 - 5) * h4 = vF l ∧ Bd 9223372036854775808 (passTo l 5) ∧ (h4 = 0 → smallB (passTo l 5) = true) := by
  obtain ⟨a, b, c, d, e, rfl⟩ := list5 hB.1
  have ha := hB.2 a (by simp)
  have hb := hB.2 b (by simp)
  have hc := hB.2 c (by simp)
  have hd := hB.2 d (by simp)
  have he := hB.2 e (by simp)
  have e1 : passTo [a, b, c, d, e] 5 =
      let b1 := b + (a >>> UInt64.ofNat 26); let c1 := c + (b1 >>> UInt64.ofNat 26); let d1 := d + (c1 >>> UInt64.ofNat 26); let e1 := e + (d1 >>> UInt64.ofNat 26)
      [(a &&& 67108863) + 5 * (e1 >>> UInt64.ofNat 26), b1 &&& 67108863, c1 &&& 67108863, d1 &&& 67108863, e1 &&& 67108863] := rfl
  rw [e1]
  simp only
  generalize hb1 : b + (a >>> UInt64.ofNat 26) = b1
  generalize hc1 : c + (b1 >>> UInt64.ofNat 26) = c1
  generalize hd1 : d + (c1 >>> UInt64.ofNat 26) = d1
  generalize he1 : e + (d1 >>> UInt64.ofNat 26) = e1'
  have nb : b1.toNat = b.toNat + a.toNat / 67108864 := by rw [← hb1, addN _ _ (by rw [shr26]; omega), shr26]
  have nc : c1.toNat = c.toNat + b1.toNat / 67108864 := by rw [← hc1, addN _ _ (by rw [shr26]; omega), shr26]
  have nd : d1.toNat = d.toNat + c1.toNat / 67108864 := by rw [← hd1, addN _ _ (by rw [shr26]; omega), shr26]
  have ne : e1'.toNat = e.toNat + d1.toNat / 67108864 := by rw [← he1, addN _ _ (by rw [shr26]; omega), shr26]
  have n5 : ((5 : UInt64) * (e1' >>> UInt64.ofNat 26)).toNat = 5 * (e1'.toNat / 67108864) := by rw [mul5 _ (by rw [shr26]; omega), shr26]
  have na : ((a &&& 67108863) + 5 * (e1' >>> UInt64.ofNat 26)).toNat = a.toNat % 67108864 + 5 * (e1'.toNat / 67108864) := by
    rw [addN _ _ (by rw [and_mask, n5]; omega), and_mask, n5]
  refine ⟨e1'.toNat / 67108864, ?_, ⟨rfl, ?_⟩, ?_⟩
  · simp only [vF, List.getD_cons_zero, List.getD_cons_succ, na, and_mask]
    omega
  · intro x hx
    simp only [List.mem_cons, List.not_mem_nil, or_false] at hx
    rcases hx with rfl | rfl | rfl | rfl | rfl
    · rw [na]; omega
    all_goals rw [and_mask]; omega
  · intro h0
    simp only [smallB, List.all_cons, List.all_nil, Bool.and_true, Bool.and_eq_true, Bool.not_eq_true', decide_eq_false_iff_not, gt_iff_lt, UInt64.lt_iff_toNat_lt, na, and_mask, h0]
    simp only [UInt64.toNat_ofNat]
    omega
theorem pass_bd {l : List UInt64} (hB : Bd 9223372036854775808 l) : Bd 9223372036854775808 (passTo l 5) := let ⟨_, _, h, _⟩ := pass_eq hB; h
theorem pass_dec {l : List UInt64} {f : Nat} (hB : Bd 9223372036854775808 l) (hV : vF l < f) (hns : smallB (passTo l 5) = false) : vF (passTo l 5) < f - 1 := by
  obtain ⟨h4, h1, _, h2⟩ := pass_eq hB
  have : h4 ≠ 0 := fun h => by rw [h2 h] at hns; cases hns
  omega
theorem pass_go {l n : List UInt64} {f : Nat} (hV : vF l < f) (h : goF f l = carriedF n) (hns : smallB (passTo l 5) = false) : goF (f - 1) (passTo l 5) = carriedF n := by
  obtain ⟨f, rfl⟩ := Nat.exists_eq_succ_of_ne_zero (show f ≠ 0 by omega)
  rw [← h]; simp [goF, hns]
theorem pass_done {l n : List UInt64} {f : Nat} (hV : vF l < f) (h : goF f l = carriedF n) (hs : smallB (passTo l 5) = true) : carriedF n = passTo l 5 := by
  obtain ⟨f, rfl⟩ := Nat.exists_eq_succ_of_ne_zero (show f ≠ 0 by omega)
  rw [← h]; simp [goF, hs]
theorem goF_small : ∀ (f : Nat) (l : List UInt64), Bd 9223372036854775808 l → vF l < f → Bd 67108864 (goF f l) := by
  intro f
  induction f with
  | zero => intro l _ h; omega
  | succ f ih =>
    intro l hB hV
    simp only [goF]
    by_cases hs : smallB (passTo l 5) = true
    · rw [if_pos hs]
      refine ⟨(pass_bd hB).1, fun x hx => ?_⟩
      have := List.all_eq_true.1 hs x hx
      simp [UInt64.lt_iff_toNat_lt, UInt64.le_iff_toNat_le] at this
      omega
    · rw [if_neg hs]
      have hs' : smallB (passTo l 5) = false := by simpa using hs
      refine ih _ (pass_bd hB) ?_
      have := pass_dec hB hV hs'
      omega
theorem carried_small {l : List UInt64} (h : Bd 9223372036854775808 l) : Bd 67108864 (carriedF l) := by
  exact goF_small fuelF l h (vF_lt h)
def addTo (n m : List UInt64) : Nat → List UInt64
  | 0 => n
  | i + 1 => (addTo n m i).set i ((addTo n m i).getD i 0 + m.getD i 0)
@[simp] theorem addTo_len (n m : List UInt64) (k : Nat) : (addTo n m k).length = n.length := by
  induction k with
  | zero => rfl
  | succ k ih => simp [addTo, ih]
theorem addStep_bd {B : Nat} {l : List UInt64} {i : Nat} {y : UInt64} (h : Bd B l) (hB0 : 0 < B) (hy : y.toNat < 67108864) (hB : B + 67108864 ≤ 18446744073709551616) : Bd (B + 67108864) (l.set i (l.getD i 0 + y)) := by
  refine ⟨by simp [h.1], fun z hz => ?_⟩
  rcases List.mem_or_eq_of_mem_set hz with hz | rfl
  · have := h.2 z hz; omega
  · have h2 := h.get hB0 i
    rw [addN _ _ (by omega)]; omega
theorem add_bd {n m : List UInt64} (hn : Bd 67108864 n) (hm : Bd 67108864 m) : Bd 9223372036854775808 (addTo n m 5) := by
  have h1 := addStep_bd (i := 0) hn (by decide) (hm.get (by decide) 0) (by decide)
  have h2 := addStep_bd (i := 1) h1 (by decide) (hm.get (by decide) 1) (by decide)
  have h3 := addStep_bd (i := 2) h2 (by decide) (hm.get (by decide) 2) (by decide)
  have h4 := addStep_bd (i := 3) h3 (by decide) (hm.get (by decide) 3) (by decide)
  have h5 := addStep_bd (i := 4) h4 (by decide) (hm.get (by decide) 4) (by decide)
  exact ⟨h5.1, fun x hx => Nat.lt_trans (h5.2 x hx) (by decide)⟩
def mulStep (l : List UInt64) (i k : Nat) (x y : UInt64) : List UInt64 :=
  if i + k < 5 then l.set (i + k) (l.getD (i + k) 0 + (x * y)) else l.set ((i + k) - 5) (l.getD ((i + k) - 5) 0 + ((5 * x) * y))
def mulIn (l : List UInt64) (i : Nat) (x : UInt64) (m : List UInt64) : Nat → List UInt64
  | 0 => l
  | k + 1 => mulStep (mulIn l i x m k) i k x (m.getD k 0)
def mulOut (n m : List UInt64) : Nat → List UInt64
  | 0 => List.replicate 5 0
  | i + 1 => mulIn (mulOut n m i) i (n.getD i 0) m 5
@[simp] theorem mulIn_len (l : List UInt64) (i : Nat) (x : UInt64) (m : List UInt64) (k : Nat) : (mulIn l i x m k).length = l.length := by
  induction k with
  | zero => rfl
  | succ k ih => simp only [mulIn]; unfold mulStep; split <;> simp [ih]
@[simp] theorem mulOut_len (n m : List UInt64) (k : Nat) : (mulOut n m k).length = 5 := by
  induction k with
  | zero => rfl
  | succ k ih => simp [mulOut, ih]
theorem mulN (x y : UInt64) (h : x.toNat * y.toNat < 18446744073709551616) : (x * y).toNat = x.toNat * y.toNat := by
  rw [UInt64.toNat_mul]; exact Nat.mod_eq_of_lt h
theorem mulStep_bd {B : Nat} {l : List UInt64} {i k : Nat} {x y : UInt64} (h : Bd B l) (hB0 : 0 < B) (hx : x.toNat < 67108864) (hy : y.toNat < 67108864) (hB : B + 22517998136852480 ≤ 18446744073709551616) : Bd (B + 22517998136852480) (mulStep l i k x y) := by
  have hxy : x.toNat * y.toNat ≤ 67108863 * 67108863 := Nat.mul_le_mul (by omega) (by omega)
  have h5x : ((5 : UInt64) * x).toNat = 5 * x.toNat := mul5 x (by omega)
  have h5 : ((5 : UInt64) * x * y).toNat = 5 * (x.toNat * y.toNat) := by
    rw [mulN _ _ (by rw [h5x, Nat.mul_assoc]; omega), h5x, Nat.mul_assoc]
  have h1 : (x * y).toNat = x.toNat * y.toNat := mulN x y (by omega)
  unfold mulStep
  split
  · refine ⟨by simp [h.1], fun z hz => ?_⟩
    rcases List.mem_or_eq_of_mem_set hz with hz | rfl
    · have := h.2 z hz; omega
    · have h2 := h.get hB0 (i + k)
      rw [addN _ _ (by rw [h1]; omega), h1]; omega
  · refine ⟨by simp [h.1], fun z hz => ?_⟩
    rcases List.mem_or_eq_of_mem_set hz with hz | rfl
    · have := h.2 z hz; omega
    · have h2 := h.get hB0 (i + k - 5)
      rw [addN _ _ (by rw [h5]; omega), h5]; omega
theorem mul_bd {n m : List UInt64} (hn : Bd 67108864 n) (hm : Bd 67108864 m) : Bd 9223372036854775808 (mulOut n m 5) := by
  have inn : ∀ (l : List UInt64) (B i : Nat), Bd B l → 0 < B → B + 5 * 22517998136852480 ≤ 18446744073709551616 → ∀ k, k ≤ 5 → Bd (B + k * 22517998136852480) (mulIn l i (n.getD i 0) m k) := by
    intro l B i h hB0 hB k
    induction k with
    | zero => intro _; exact ⟨h.1, fun x hx => by have := h.2 x hx; simp only [mulIn] at *; omega⟩
    | succ k ih =>
      intro hk
      have := mulStep_bd (i := i) (k := k) (ih (by omega)) (by omega) (hn.get (by decide) i) (hm.get (by decide) k) (by omega)
      exact ⟨this.1, fun x hx => by have := this.2 x hx; omega⟩
  have out : ∀ i, i ≤ 5 → Bd (1 + i * 112589990684262400) (mulOut n m i) := by
    intro i
    induction i with
    | zero => intro _; exact ⟨rfl, fun x hx => by have := (List.mem_replicate.1 hx).2; subst this; decide⟩
    | succ i ih =>
      intro hi
      have := inn _ _ i (ih (by omega)) (by omega) (by omega) 5 (by omega)
      exact ⟨this.1, fun x hx => by have := this.2 x hx; omega⟩
  have h := out 5 (by omega)
  exact ⟨h.1, fun x hx => by have := h.2 x hx; omega⟩
def leastTo (l : List UInt64) : Nat → List UInt64
  | 0 => l
  | i + 1 => ((leastTo l i).set (i + 1) ((leastTo l i).getD (i + 1) 0 + ((leastTo l i).getD i 0 >>> UInt64.ofNat 26))).set i (((leastTo l i).set (i + 1) ((leastTo l i).getD (i + 1) 0 + ((leastTo l i).getD i 0 >>> UInt64.ofNat 26))).getD i 0 &&& 67108863)
@[simp] theorem leastTo_len (n : List UInt64) (k : Nat) : (leastTo n k).length = n.length := by
  induction k with
  | zero => rfl
  | succ k ih => simp [leastTo, ih]
def leastF (n : List UInt64) : List UInt64 :=
  if (leastTo (n.set 0 (n.getD 0 0 + 5)) 4).getD 4 0 > 67108863 then (leastTo (n.set 0 (n.getD 0 0 + 5)) 4).set 4 ((leastTo (n.set 0 (n.getD 0 0 + 5)) 4).getD 4 0 &&& 67108863) else n
@[simp] theorem leastF_len (n : List UInt64) : (leastF n).length = n.length := by unfold leastF; split <;> simp
def bytesTo (n : List UInt64) : Nat → List UInt8
  | 0 => List.replicate 16 0
  | i + 1 => if (8 * i) / 26 + 1 < 5 then (bytesTo n i).set i ((n.getD ((8 * i) / 26) 0 >>> UInt64.ofNat ((8 * i) % 26)) ||| (n.getD ((8 * i) / 26 + 1) 0 <<< UInt64.ofNat (26 - ((8 * i) % 26)))).toUInt8
    else (bytesTo n i).set i (n.getD ((8 * i) / 26) 0 >>> UInt64.ofNat ((8 * i) % 26)).toUInt8
@[simp] theorem bytesTo_len (n : List UInt64) (k : Nat) : (bytesTo n k).length = 16 := by
  induction k with
  | zero => rfl
  | succ k ih => simp only [bytesTo]; split <;> simp [ih]
theorem part_lt (l : List UInt8) (hl : l.length ≤ 16) : (l ++ [1]).getD 16 0 < 4 := by
  rw [List.getD_eq_getElem?_getD]
  rcases Nat.lt_or_eq_of_le hl with h | h
  · rw [List.getElem?_eq_none (by simp; omega)]; decide
  · rw [List.getElem?_append_right (by omega), h]; decide
theorem or_lt26 {x y : UInt64} (hx : x.toNat < 67108864) (hy : y.toNat < 67108864) : (x ||| y).toNat < 67108864 := by
  rw [UInt64.toNat_or]
  exact Nat.or_lt_two_pow (n := 26) hx hy
theorem ofStep_bd {l : List UInt64} {i : Nat} {wide : UInt64} (h : Bd 67108864 l) (hw : wide.toNat < 4503599627370496) : Bd 67108864 (ofStep l i wide) := by
  have hm : (wide &&& 67108863).toNat < 67108864 := by rw [and_mask]; omega
  have hs : (wide >>> UInt64.ofNat 26).toNat < 67108864 := by rw [shr26]; omega
  have h1 : Bd 67108864 (l.set i (l.getD i 0 ||| (wide &&& 67108863))) := by
    refine ⟨by simp [h.1], fun z hz => ?_⟩
    rcases List.mem_or_eq_of_mem_set hz with hz | rfl
    · exact h.2 z hz
    · exact or_lt26 (h.get (by decide) i) hm
  unfold ofStep
  split
  · refine ⟨by simp [h.1], fun z hz => ?_⟩
    rcases List.mem_or_eq_of_mem_set hz with hz | rfl
    · exact h1.2 z hz
    · exact or_lt26 (h1.get (by decide) (i + 1)) hs
  · exact h1
theorem ofF_bd (xs : List UInt8) (k : Nat) : Bd 67108864 (ofF xs k) := by
  induction k with
  | zero => exact ⟨rfl, fun x hx => by have := (List.mem_replicate.1 hx).2; subst this; decide⟩
  | succ k ih =>
    refine ofStep_bd ih ?_
    have hx := (xs.getD k 0).toNat_lt
    rw [UInt64.toNat_shiftLeft]
    have h1 : (UInt64.ofNat ((8 * k) % 26)).toNat % 64 = (8 * k) % 26 := by simp; omega
    rw [h1, Nat.shiftLeft_eq, UInt8.toNat_toUInt64]
    have h2 : 2 ^ ((8 * k) % 26) ≤ 2 ^ 25 := Nat.pow_le_pow_right (by decide) (by omega)
    have h3 : (xs.getD k 0).toNat * 2 ^ ((8 * k) % 26) ≤ 255 * 2 ^ 25 := Nat.mul_le_mul (by omega) h2
    exact Nat.lt_of_le_of_lt (Nat.mod_le _ _) (by omega)
def clampStep (l : List UInt8) (i : Nat) : List UInt8 :=
  if i % 4 = 3 then l.set i (l.getD i 0 &&& 15) else if i % 4 = 0 ∧ 0 < i then l.set i (l.getD i 0 &&& 252) else l
def clampTo (l : List UInt8) : Nat → List UInt8
  | 0 => l
  | i + 1 => clampStep (clampTo l i) i
@[simp] theorem clampTo_len (l : List UInt8) (k : Nat) : (clampTo l k).length = l.length := by
  induction k with
  | zero => rfl
  | succ k ih => simp only [clampTo]; unfold clampStep; split <;> (try split) <;> simp [ih]
def partF (lb : List UInt8) (nb j : Nat) : List UInt8 := ((lb.drop (16 * j)).take (min 16 (nb - 16 * j))) ++ [1]
def accTo (r : List UInt64) (lb : List UInt8) (nb : Nat) : Nat → List UInt64
  | 0 => List.replicate 5 0
  | j + 1 => carriedF (mulOut (carriedF (addTo (accTo r lb nb j) (ofF (partF lb nb j) (min 16 (nb - 16 * j) + 1)) 5)) r 5)
theorem acc_bd {r : List UInt64} (hr : Bd 67108864 r) (lb : List UInt8) (nb j : Nat) : Bd 67108864 (accTo r lb nb j) := by
  induction j with
  | zero => exact ⟨rfl, fun x hx => by have := (List.mem_replicate.1 hx).2; subst this; decide⟩
  | succ j ih => exact carried_small (mul_bd (carried_small (add_bd ih (ofF_bd _ _))) hr)
def moreTo (s key : List UInt8) : Nat → Nat
  | 0 => 0
  | i + 1 => (moreTo s key i + ((s.getD i 0).toNat + (key.getD (16 + i) 0).toNat)) / 2 ^ 8
theorem moreTo_lt (s key : List UInt8) (i : Nat) : moreTo s key i < 512 := by
  induction i with
  | zero => show 0 < 512; decide
  | succ i ih =>
    have h1 := (s.getD i 0).toNat_lt
    have h2 := (key.getD (16 + i) 0).toNat_lt
    simp only [moreTo]; omega
def outT (s key : List UInt8) : Nat → List UInt8
  | 0 => List.replicate 16 0
  | i + 1 => (outT s key i).set i (UInt8.ofNat (moreTo s key i + ((s.getD i 0).toNat + (key.getD (16 + i) 0).toNat)))
@[simp] theorem outT_len (s key : List UInt8) (k : Nat) : (outT s key k).length = 16 := by
  induction k with
  | zero => rfl
  | succ k ih => simp [outT, ih]
def tagF (key lb : List UInt8) (nb : Nat) : List UInt8 :=
  outT (bytesTo (leastF (accTo (ofF (clampTo (key.take 16) 16) 16) lb nb ((nb + 15) / 16))) 16) key 16
@[simp] theorem tagF_len (key lb : List UInt8) (nb : Nat) : (tagF key lb nb).length = 16 := by simp [tagF]
theorem h16_short {l : List UInt8} (hl : l.length ≤ 16) : l.getD 16 0 < 4 := by
  rw [List.getD_eq_getElem?_getD, List.getElem?_eq_none (by omega)]; decide

theorem pof_ok (w : World) (ab : Option Addr) (nb cb : Nat) (xs : List UInt8) (hb : Rd w ab nb 1 (xs.map b8)) (hn : nb ≤ 17) (h16 : xs.getD 16 0 < 4) :
    Calls Try.prog 23 #[.slice ab nb cb] w (Ret (fun _ : Unit => .agg (arr w64 (ofF xs nb))) (fun _ => Mem w [] [])) := by
  have hxl := hb.len
  refine calls_of Try.func23 rfl rfl (L := [(0, .slice ab nb cb)]) ⟨rfl, trivial⟩ (m := 42) (Nat.le_of_ble_eq_true rfl) (M := Mem w [] []) (Mem.refl w) ?_
  refine wc_seq ?_
  refine wc_region ?_
  refine wl_eff (e_alloc (cs := arr w64 (List.replicate 5 0)) zn60) rfl trivial rfl ?_
  intro b1
  refine wl_nil ?_
  refine aq_seq ?_
  refine wc_seq ?_
  refine wc_seq ?_
  refine wc_region ?_
  refine wl_y (y_move rfl) ?_
  refine wl_y (y_len_sl sl22 (m := nb) rfl rfl) ?_
  refine wl_y (y_move rfl) ?_
  refine wl_nil ?_
  refine aq_seq ?_
  refine wc_block ?_
  refine wc_loop (γ := Nat) (fun k => [(2, .pointer (some ⟨b1, 0, none⟩)), (7, .slice ab nb cb), (8, ki ((nb : Int))), (9, ki ((k : Int)))]) (fun k => Mem w [] [.blk b1 (.cells (arr w64 (ofF xs k)) 60 (0, 0))]) (fun k => (k ≤ nb)) (fun k => nb - k) (0) ?_ ⟨rfl, rfl, rfl, rfl, trivial⟩ (fun _ h => h) ?_
  · omega
  · rintro k hk
    refine wc_seq ?_
    refine wc_region ?_
    refine wl_y (y_bin rfl rfl lss_i64) ?_
    refine wl_nil ?_
    refine aq_seq ?_
    refine wc_seq ?_
    refine wc_if rfl (fun hc1 => ?_) (fun hc1 => ?_)
    · have hb1 : (k : Int) < (nb : Int) := by simpa using hc1
      refine wc_skip ?_
      refine aq_seq ?_
      refine wc_seq ?_
      refine wc_block ?_
      refine wc_seq ?_
      refine wc_region ?_
      refine wl_y (y_move rfl) ?_
      refine wl_y (y_indexAddr_sl sl22 sz5 rfl rfl (by omega) (by omega) (fun w m => rd_isSome (m.rd0 hb) (by omega) (by decide)) k (by omega)) ?_
      refine wl_y (y_load sc5 rfl (c_of (fun w m => m.rd0 hb) (map_get (gd 0 (by first | omega | (simp only [ofF_len, List.length_set] <;> omega)))))) ?_
      refine wl_y (y_assign rfl) ?_
      refine wl_y (y_assign rfl) ?_
      refine wl_nil ?_
      refine aq_seq ?_
      refine wc_seq ?_
      refine wc_region ?_
      refine wl_y (y_move rfl) ?_
      refine wl_y (y_bin rfl rfl (muln_i64 (a := 8) (b := k) (by omega))) ?_
      refine wl_y (y_assign rfl) ?_
      refine wl_nil ?_
      refine aq_seq ?_
      refine wc_seq ?_
      refine wc_region ?_
      refine wl_y (y_move rfl) ?_
      refine wl_y (y_cv rfl us5 ui39 (congrArg (Value.int .u64) (cv_u8_u64 (xs.getD k 0)))) ?_
      refine wl_y (y_move rfl) ?_
      refine wl_y (y_bin rfl rfl (remn_i64 (a := (8 * k)) (b := 26) (by omega))) ?_
      refine wl_y (y_bin rfl rfl (shl_u64 ((xs.getD k 0).toUInt64) (q := .i64) ((8 * k) % 26) (by omega) (by omega))) ?_
      refine wl_y (y_assign rfl) ?_
      refine wl_nil ?_
      refine aq_seq ?_
      refine wc_seq ?_
      refine wc_region ?_
      refine wl_y (y_move rfl) ?_
      refine wl_y (y_bin rfl rfl (quon_i64 (a := (8 * k)) (b := 26) (by omega) (by omega))) ?_
      refine wl_y (y_indexAddr_ar ar60 sz39 rfl rfl (by omega) (by omega) ((8 * k) / 26) (by omega)) ?_
      refine wl_y (y_load sc39 rfl (c_blk (i := 0) rfl (arr_get (gd 0 (by first | omega | (simp only [ofF_len, List.length_set] <;> omega)))))) ?_
      refine wl_y (y_move rfl) ?_
      refine wl_y (y_bin rfl rfl (and_u64 (((xs.getD k 0).toUInt64) <<< UInt64.ofNat ((8 * k) % 26)) 67108863)) ?_
      refine wl_y (y_bin rfl rfl (or_u64 ((ofF xs k).getD ((8 * k) / 26) 0) ((((xs.getD k 0).toUInt64) <<< UInt64.ofNat ((8 * k) % 26)) &&& 67108863))) ?_
      refine wl_y (y_indexAddr_ar ar60 sz39 rfl rfl (by omega) (by omega) ((8 * k) / 26) (by omega)) ?_
      refine wl_eff (e_store_arr sz39 rfl (x' := (((ofF xs k).getD ((8 * k) / 26) 0) ||| ((((xs.getD k 0).toUInt64) <<< UInt64.ofNat ((8 * k) % 26)) &&& 67108863))) rfl (i := 0) rfl (by first | omega | (simp only [ofF_len, List.length_set] <;> omega)) rfl) rfl trivial rfl ?_
      intro _
      refine wl_nil ?_
      refine aq_seq ?_
      refine wc_seq ?_
      refine wc_region ?_
      refine wl_y (y_move rfl) ?_
      refine wl_y (y_bin rfl rfl (gtr_u64 (((xs.getD k 0).toUInt64) <<< UInt64.ofNat ((8 * k) % 26)) 67108863)) ?_
      refine wl_nil ?_
      refine aq_seq ?_
      refine wc_if rfl (fun hc2 => ?_) (fun hc2 => ?_)
      · have hb2 : (((xs.getD k 0).toUInt64) <<< UInt64.ofNat ((8 * k) % 26)) > 67108863 := by simpa using hc2
        have hk13 : k < 13 := of_wide h16 (by omega) hb2
        refine wc_region ?_
        refine wl_y (y_move rfl) ?_
        refine wl_y (y_bin rfl rfl (quon_i64 (a := (8 * k)) (b := 26) (by omega) (by omega))) ?_
        refine wl_y (y_bin rfl rfl (addn_i64 (a := ((8 * k) / 26)) (b := 1) (by omega))) ?_
        refine wl_y (y_indexAddr_ar ar60 sz39 rfl rfl (by omega) (by omega) (((8 * k) / 26) + 1) (by omega)) ?_
        refine wl_y (y_load sc39 rfl (c_blk (i := 0) rfl (arr_get (gd 0 (by first | omega | (simp only [ofF_len, List.length_set] <;> omega)))))) ?_
        refine wl_y (y_move rfl) ?_
        refine wl_y (y_bin rfl rfl (shr_u64 (((xs.getD k 0).toUInt64) <<< UInt64.ofNat ((8 * k) % 26)) (q := .u64) 26 (by omega) (by omega))) ?_
        refine wl_y (y_bin rfl rfl (or_u64 (((ofF xs k).set ((8 * k) / 26) (((ofF xs k).getD ((8 * k) / 26) 0) ||| ((((xs.getD k 0).toUInt64) <<< UInt64.ofNat ((8 * k) % 26)) &&& 67108863))).getD (((8 * k) / 26) + 1) 0) ((((xs.getD k 0).toUInt64) <<< UInt64.ofNat ((8 * k) % 26)) >>> UInt64.ofNat 26))) ?_
        refine wl_y (y_indexAddr_ar ar60 sz39 rfl rfl (by omega) (by omega) (((8 * k) / 26) + 1) (by omega)) ?_
        refine wl_eff (e_store_arr sz39 rfl (x' := ((((ofF xs k).set ((8 * k) / 26) (((ofF xs k).getD ((8 * k) / 26) 0) ||| ((((xs.getD k 0).toUInt64) <<< UInt64.ofNat ((8 * k) % 26)) &&& 67108863))).getD (((8 * k) / 26) + 1) 0) ||| ((((xs.getD k 0).toUInt64) <<< UInt64.ofNat ((8 * k) % 26)) >>> UInt64.ofNat 26))) rfl (i := 0) rfl (by first | omega | (simp only [ofF_len, List.length_set] <;> omega)) rfl) rfl trivial rfl ?_
        intro _
        refine wl_nil ?_
        refine aq_blk_normal ?_
        refine aq_seq ?_
        refine wc_region ?_
        refine wl_y (y_bin rfl rfl (addn_i64 (a := k) (b := 1) (by omega))) ?_
        refine wl_y (y_move rfl) ?_
        refine wl_nil ?_
        have hfx : (((ofF xs k).set ((8 * k) / 26) (((ofF xs k).getD ((8 * k) / 26) 0) ||| ((((xs.getD k 0).toUInt64) <<< UInt64.ofNat ((8 * k) % 26)) &&& 67108863))).set (((8 * k) / 26) + 1) ((((ofF xs k).set ((8 * k) / 26) (((ofF xs k).getD ((8 * k) / 26) 0) ||| ((((xs.getD k 0).toUInt64) <<< UInt64.ofNat ((8 * k) % 26)) &&& 67108863))).getD (((8 * k) / 26) + 1) 0) ||| ((((xs.getD k 0).toUInt64) <<< UInt64.ofNat ((8 * k) % 26)) >>> UInt64.ofNat 26))) = ofF xs (k + 1) := (if_pos hb2).symm
        rw [hfx]
        refine aq_loop (k + 1) ?_ ?_ ⟨rfl, rfl, rfl, rfl, trivial⟩ (fun _ h => h)
        · omega
        · first | omega | (dsimp only; omega)
      · have hb2 : ¬ ((((xs.getD k 0).toUInt64) <<< UInt64.ofNat ((8 * k) % 26)) > 67108863) := by simpa using hc2
        refine wc_skip ?_
        refine aq_blk_normal ?_
        refine aq_seq ?_
        refine wc_region ?_
        refine wl_y (y_bin rfl rfl (addn_i64 (a := k) (b := 1) (by omega))) ?_
        refine wl_y (y_move rfl) ?_
        refine wl_nil ?_
        have hfx : ((ofF xs k).set ((8 * k) / 26) (((ofF xs k).getD ((8 * k) / 26) 0) ||| ((((xs.getD k 0).toUInt64) <<< UInt64.ofNat ((8 * k) % 26)) &&& 67108863))) = ofF xs (k + 1) := (if_neg hb2).symm
        rw [hfx]
        refine aq_loop (k + 1) ?_ ?_ ⟨rfl, rfl, rfl, rfl, trivial⟩ (fun _ h => h)
        · omega
        · first | omega | (dsimp only; omega)
    · have hb1 : ¬ ((k : Int) < (nb : Int)) := by simpa using hc1
      refine wc_exit ?_
      refine aq_thru_exit ?_
      refine aq_thru_exit ?_
      refine aq_blk_exit ?_
      refine aq_seq ?_
      refine wc_seq ?_
      refine wc_region ?_
      refine wl_y (y_loadall ag60 rfl (i := 0) rfl (by first | (simp; done) | (simp [*]; done) | (simp; omega) | rfl)) ?_
      refine wl_eff (e_storeall sz60 rfl rfl (i := 0) rfl (by first | (simp; done) | (simp [*]; done) | (simp; omega) | rfl) (by first | (simp; done) | (simp [*]; done) | (simp; omega) | rfl) (arr_one _) rfl) rfl trivial rfl ?_
      intro _
      refine wl_nil ?_
      refine aq_seq ?_
      refine wc_ret ?_
      refine aq_return (.inl rfl) rfl (⟨_, _, _, rfl, fun w m => run_loadVar_all ag60 (m.blk (i := 0) rfl) (by first | (simp; done) | (simp [*]; done) | (simp; omega) | rfl), rfl, rfl⟩) ?_
      intro w' m
      have hkn : k = nb := by omega
      subst hkn
      exact ⟨(), rfl, m.pick (is := []) rfl (by decide)⟩

theorem carried_ok (w : World) (n : List UInt64) (hn : Bd 9223372036854775808 n) :
    Calls Try.prog 40 #[.agg (arr w64 n)] w (Ret (fun _ : Unit => .agg (arr w64 (carriedF n))) (fun _ => Mem w [] [])) := by
  have hnl := hn.1
  refine calls_of Try.func40 rfl rfl (L := [(0, .agg (arr w64 n))]) ⟨rfl, trivial⟩ (m := 44) (Nat.le_of_ble_eq_true rfl) (M := Mem w [] []) (Mem.refl w) ?_
  refine wc_seq ?_
  refine wc_region ?_
  refine wl_eff (e_box (cs := arr w64 n) rfl) rfl trivial rfl ?_
  intro b1
  refine wl_eff (e_alloc (cs := arr w64 (List.replicate 5 0)) zn60) rfl trivial rfl ?_
  intro b2
  refine wl_nil ?_
  refine aq_seq ?_
  refine wc_scope ?_
  refine wc_seq ?_
  refine wc_label ?_
  refine aq_seq ?_
  refine wc_block ?_
  refine wc_loop (γ := List UInt64 × Nat) (fun ⟨cur, f⟩ => [(1, .pointer (some ⟨b1, 0, none⟩)), (2, .pointer (some ⟨b2, 0, none⟩))]) (fun ⟨cur, f⟩ => Mem w [] [.blk b2 (.cells (arr w64 (List.replicate 5 0)) 60 (0, 0)), .blk b1 (.cells (arr w64 cur) 60 (0, 0))]) (fun ⟨cur, f⟩ => (cur.length = 5) ∧ (Bd 9223372036854775808 cur) ∧ (vF cur < f) ∧ (goF f cur = carriedF n)) (fun ⟨cur, f⟩ => f) (⟨n, fuelF⟩) ?_ ⟨rfl, rfl, trivial⟩ (fun _ h => h) ?_
  · exact ⟨hnl, hn, vF_lt hn, rfl⟩
  · rintro ⟨cur, f⟩ ⟨hcl, hB, hV, hgo⟩
    refine wc_block ?_
    refine wc_seq ?_
    refine wc_seq ?_
    refine wc_region ?_
    refine wl_y (y_move rfl) ?_
    refine wl_nil ?_
    refine aq_seq ?_
    refine wc_block ?_
    refine wc_loop (γ := Nat) (fun i => [(1, .pointer (some ⟨b1, 0, none⟩)), (2, .pointer (some ⟨b2, 0, none⟩)), (7, ki ((i : Int)))]) (fun i => Mem w [] [.blk b2 (.cells (arr w64 (List.replicate 5 0)) 60 (0, 0)), .blk b1 (.cells (arr w64 (passTo cur i)) 60 (0, 0))]) (fun i => (i ≤ 5)) (fun i => 5 - i) (0) ?_ ⟨rfl, rfl, rfl, trivial⟩ (fun _ h => h) ?_
    · omega
    · rintro i hi
      refine wc_seq ?_
      refine wc_region ?_
      refine wl_y (y_bin rfl rfl lss_i64) ?_
      refine wl_nil ?_
      refine aq_seq ?_
      refine wc_seq ?_
      refine wc_if rfl (fun hc1 => ?_) (fun hc1 => ?_)
      · have hb1 : (i : Int) < 5 := by simpa using hc1
        refine wc_skip ?_
        refine aq_seq ?_
        refine wc_seq ?_
        refine wc_block ?_
        refine wc_seq ?_
        refine wc_region ?_
        refine wl_y (y_move rfl) ?_
        refine wl_y (y_assign rfl) ?_
        refine wl_nil ?_
        refine aq_seq ?_
        refine wc_seq ?_
        refine wc_region ?_
        refine wl_y (y_move rfl) ?_
        refine wl_y (y_indexAddr_ar ar60 sz39 rfl rfl (by omega) (by omega) i (by omega)) ?_
        refine wl_y (y_load sc39 rfl (c_blk (i := 1) rfl (arr_get (gd 0 (by first | omega | (simp only [passTo_len, List.length_set] <;> omega)))))) ?_
        refine wl_y (y_bin rfl rfl (shr_u64 ((passTo cur i).getD i 0) (q := .u64) 26 (by omega) (by omega))) ?_
        refine wl_y (y_assign rfl) ?_
        refine wl_nil ?_
        refine aq_seq ?_
        refine wc_seq ?_
        refine wc_region ?_
        refine wl_y (y_move rfl) ?_
        refine wl_y (y_indexAddr_ar ar60 sz39 rfl rfl (by omega) (by omega) i (by omega)) ?_
        refine wl_y (y_load sc39 rfl (c_blk (i := 1) rfl (arr_get (gd 0 (by first | omega | (simp only [passTo_len, List.length_set] <;> omega)))))) ?_
        refine wl_y (y_bin rfl rfl (and_u64 ((passTo cur i).getD i 0) 67108863)) ?_
        refine wl_y (y_indexAddr_ar ar60 sz39 rfl rfl (by omega) (by omega) i (by omega)) ?_
        refine wl_eff (e_store_arr sz39 rfl (x' := (((passTo cur i).getD i 0) &&& 67108863)) rfl (i := 1) rfl (by first | omega | (simp only [passTo_len, List.length_set] <;> omega)) ⟨_, rfl, rfl⟩) rfl trivial rfl ?_
        intro _
        refine wl_nil ?_
        refine aq_seq ?_
        refine wc_seq ?_
        refine wc_region ?_
        refine wl_y (y_move rfl) ?_
        refine wl_y (y_bin rfl rfl (addn_i64 (a := i) (b := 1) (by omega))) ?_
        refine wl_y (y_bin rfl rfl lss_i64) ?_
        refine wl_nil ?_
        refine aq_seq ?_
        refine wc_if rfl (fun hc2 => ?_) (fun hc2 => ?_)
        · have hb2 : ((i + 1 : Nat) : Int) < 5 := by simpa using hc2
          have hi5 : i + 1 < 5 := by omega
          refine wc_region ?_
          refine wl_y (y_move rfl) ?_
          refine wl_y (y_bin rfl rfl (addn_i64 (a := i) (b := 1) (by omega))) ?_
          refine wl_y (y_indexAddr_ar ar60 sz39 rfl rfl (by omega) (by omega) (i + 1) (by omega)) ?_
          refine wl_y (y_load sc39 rfl (c_blk (i := 1) rfl (arr_get (gd 0 (by first | omega | (simp only [passTo_len, List.length_set] <;> omega)))))) ?_
          refine wl_y (y_move rfl) ?_
          refine wl_y (y_bin rfl rfl (add_u64 (((passTo cur i).set i (((passTo cur i).getD i 0) &&& 67108863)).getD (i + 1) 0) (((passTo cur i).getD i 0) >>> UInt64.ofNat 26))) ?_
          refine wl_y (y_indexAddr_ar ar60 sz39 rfl rfl (by omega) (by omega) (i + 1) (by omega)) ?_
          refine wl_eff (e_store_arr sz39 rfl (x' := (((passTo cur i).set i (((passTo cur i).getD i 0) &&& 67108863)).getD (i + 1) 0 + ((passTo cur i).getD i 0) >>> UInt64.ofNat 26)) rfl (i := 1) rfl (by first | omega | (simp only [passTo_len, List.length_set] <;> omega)) ⟨_, rfl, rfl⟩) rfl trivial rfl ?_
          intro _
          refine wl_nil ?_
          refine aq_blk_normal ?_
          refine aq_seq ?_
          refine wc_region ?_
          refine wl_y (y_bin rfl rfl (addn_i64 (a := i) (b := 1) (by omega))) ?_
          refine wl_y (y_move rfl) ?_
          refine wl_nil ?_
          have hfx : (((passTo cur i).set i (((passTo cur i).getD i 0) &&& 67108863)).set (i + 1) (((passTo cur i).set i (((passTo cur i).getD i 0) &&& 67108863)).getD (i + 1) 0 + ((passTo cur i).getD i 0) >>> UInt64.ofNat 26)) = passTo cur (i + 1) := (if_pos hi5).symm
          rw [hfx]
          refine aq_loop (i + 1) ?_ ?_ ⟨rfl, rfl, rfl, trivial⟩ (fun _ h => h)
          · omega
          · first | omega | (dsimp only; omega)
        · have hb2 : ¬ (((i + 1 : Nat) : Int) < 5) := by simpa using hc2
          have hi5 : ¬ (i + 1 < 5) := by omega
          refine wc_region ?_
          refine wl_y (y_indexAddr_ar ar60 sz39 rfl rfl (by omega) (by omega) 0 (by omega)) ?_
          refine wl_y (y_load sc39 rfl (c_blk (i := 1) rfl (arr_get (gd 0 (by first | omega | (simp only [passTo_len, List.length_set] <;> omega)))))) ?_
          refine wl_y (y_move rfl) ?_
          refine wl_y (y_bin rfl rfl (mul_u64 5 (((passTo cur i).getD i 0) >>> UInt64.ofNat 26))) ?_
          refine wl_y (y_bin rfl rfl (add_u64 (((passTo cur i).set i (((passTo cur i).getD i 0) &&& 67108863)).getD 0 0) (5 * ((passTo cur i).getD i 0) >>> UInt64.ofNat 26))) ?_
          refine wl_y (y_indexAddr_ar ar60 sz39 rfl rfl (by omega) (by omega) 0 (by omega)) ?_
          refine wl_eff (e_store_arr sz39 rfl (x' := (((passTo cur i).set i (((passTo cur i).getD i 0) &&& 67108863)).getD 0 0 + (5 * ((passTo cur i).getD i 0) >>> UInt64.ofNat 26))) rfl (i := 1) rfl (by first | omega | (simp only [passTo_len, List.length_set] <;> omega)) ⟨_, rfl, rfl⟩) rfl trivial rfl ?_
          intro _
          refine wl_nil ?_
          refine aq_blk_normal ?_
          refine aq_seq ?_
          refine wc_region ?_
          refine wl_y (y_bin rfl rfl (addn_i64 (a := i) (b := 1) (by omega))) ?_
          refine wl_y (y_move rfl) ?_
          refine wl_nil ?_
          have hfx : (((passTo cur i).set i (((passTo cur i).getD i 0) &&& 67108863)).set 0 (((passTo cur i).set i (((passTo cur i).getD i 0) &&& 67108863)).getD 0 0 + (5 * ((passTo cur i).getD i 0) >>> UInt64.ofNat 26))) = passTo cur (i + 1) := (if_neg hi5).symm
          rw [hfx]
          refine aq_loop (i + 1) ?_ ?_ ⟨rfl, rfl, rfl, trivial⟩ (fun _ h => h)
          · omega
          · first | omega | (dsimp only; omega)
      · have hb1 : ¬ ((i : Int) < 5) := by simpa using hc1
        have hi5e : i = 5 := by omega
        subst hi5e
        refine wc_exit ?_
        refine aq_thru_exit ?_
        refine aq_thru_exit ?_
        refine aq_blk_exit ?_
        refine aq_seq ?_
        refine wc_seq ?_
        refine wc_seq ?_
        refine wc_region ?_
        refine wl_y (y_loadall ag60 rfl (i := 1) rfl (by first | (simp [*]; done) | (simp; omega))) ?_
        refine wl_y (y_move rfl) ?_
        refine wl_nil ?_
        refine aq_seq ?_
        refine wc_block ?_
        refine wc_loop (γ := Nat) (fun j => [(1, .pointer (some ⟨b1, 0, none⟩)), (2, .pointer (some ⟨b2, 0, none⟩)), (36, .agg (arr w64 (passTo cur 5))), (37, ki ((j : Int)))]) (fun j => Mem w [] [.blk b2 (.cells (arr w64 (List.replicate 5 0)) 60 (0, 0)), .blk b1 (.cells (arr w64 (passTo cur 5)) 60 (0, 0))]) (fun j => (j ≤ 5) ∧ (∀ q, q < j → ¬ ((passTo cur 5).getD q 0 > 67108863))) (fun j => 5 - j) (0) ?_ ⟨rfl, rfl, rfl, rfl, trivial⟩ (fun _ h => h) ?_
        · exact ⟨by omega, fun q hq => absurd hq (by omega)⟩
        · rintro j ⟨hj, hsm⟩
          refine wc_seq ?_
          refine wc_region ?_
          refine wl_y (y_bin rfl rfl lss_i64) ?_
          refine wl_nil ?_
          refine aq_seq ?_
          refine wc_seq ?_
          refine wc_if rfl (fun hc3 => ?_) (fun hc3 => ?_)
          · have hb3 : (j : Int) < 5 := by simpa using hc3
            refine wc_skip ?_
            refine aq_seq ?_
            refine wc_seq ?_
            refine wc_block ?_
            refine wc_seq ?_
            refine wc_region ?_
            refine wl_y (y_index_ar ar60 sz39 sc39 rfl rfl (by omega) (by omega) (arr_get (gd 0 (by first | omega | (simp only [passTo_len, List.length_set] <;> omega))))) ?_
            refine wl_y (y_assign rfl) ?_
            refine wl_nil ?_
            refine aq_seq ?_
            refine wc_seq ?_
            refine wc_region ?_
            refine wl_y (y_move rfl) ?_
            refine wl_y (y_bin rfl rfl (gtr_u64 ((passTo cur 5).getD j 0) 67108863)) ?_
            refine wl_nil ?_
            refine aq_seq ?_
            refine wc_if rfl (fun hc4 => ?_) (fun hc4 => ?_)
            · have hb4 : ((passTo cur 5).getD j 0) > 67108863 := by simpa using hc4
              have hns := not_small hb4 (by omega) (by simp [hcl])
              refine wc_exit ?_
              refine aq_blk_ne (by decide) ?_
              refine aq_thru_exit ?_
              refine aq_thru_exit ?_
              refine aq_blk_ne (by decide) ?_
              refine aq_thru_exit ?_
              refine aq_blk_exit ?_
              refine aq_loop (⟨(passTo cur 5), (f - 1)⟩) ?_ ?_ ⟨rfl, rfl, trivial⟩ (fun _ h => h)
              · exact ⟨by simp [hcl], pass_bd hB, pass_dec hB hV hns, pass_go hV hgo hns⟩
              · have := hV; dsimp only; omega
            · have hb4 : ¬ (((passTo cur 5).getD j 0) > 67108863) := by simpa using hc4
              refine wc_skip ?_
              refine aq_blk_normal ?_
              refine aq_seq ?_
              refine wc_region ?_
              refine wl_y (y_bin rfl rfl (addn_i64 (a := j) (b := 1) (by omega))) ?_
              refine wl_y (y_move rfl) ?_
              refine wl_nil ?_
              refine aq_loop (j + 1) ?_ ?_ ⟨rfl, rfl, rfl, rfl, trivial⟩ (fun _ h => h)
              · exact ⟨by omega, fun q hq => by
      rcases Nat.lt_succ_iff_lt_or_eq.1 hq with h | rfl
      · exact hsm q h
      · exact hb4⟩
              · first | omega | (dsimp only; omega)
          · have hb3 : ¬ ((j : Int) < 5) := by simpa using hc3
            refine wc_exit ?_
            refine aq_thru_exit ?_
            refine aq_thru_exit ?_
            refine aq_blk_exit ?_
            refine aq_seq ?_
            refine wc_seq ?_
            refine wc_region ?_
            refine wl_y (y_loadall ag60 rfl (i := 1) rfl (by first | (simp [*]; done) | (simp; omega))) ?_
            refine wl_eff (e_storeall sz60 rfl rfl (i := 0) rfl (by first | (simp [*]; done) | (simp; omega)) (by first | (simp [*]; done) | (simp; omega)) (arr_one _) rfl) rfl trivial rfl ?_
            intro _
            refine wl_nil ?_
            refine aq_seq ?_
            refine wc_ret ?_
            refine aq_blk_ret ?_
            refine aq_thru_ret ?_
            refine aq_blk_ret ?_
            refine aq_ng_ret ?_
            refine aq_return (.inl rfl) rfl (⟨_, _, _, rfl, fun w m => run_loadVar_all ag60 (m.blk (i := 0) rfl) (by first | (simp [*]; done) | (simp; omega)), rfl, rfl⟩) ?_
            intro w' m
            have hsmall := small_of hsm (by omega) (by simp [hcl])
            rw [pass_done hV hgo hsmall]
            exact ⟨(), rfl, m.pick (is := []) rfl (by decide)⟩

theorem plus_ok (w : World) (n p : List UInt64) (hn : Bd 67108864 n) (hm : Bd 67108864 p) :
    Calls Try.prog 25 #[.agg (arr w64 n), .agg (arr w64 p)] w (Ret (fun _ : Unit => .agg (arr w64 (carriedF (addTo n p 5)))) (fun _ => Mem w [] [])) := by
  have hnl := hn.1
  have hml := hm.1
  have hcal := (carried_small (add_bd hn hm)).1
  refine calls_of Try.func25 rfl rfl (L := [(0, .agg (arr w64 n)), (1, .agg (arr w64 p))]) ⟨rfl, rfl, trivial⟩ (m := 21) (Nat.le_of_ble_eq_true rfl) (M := Mem w [] []) (Mem.refl w) ?_
  refine wc_seq ?_
  refine wc_region ?_
  refine wl_eff (e_box (cs := arr w64 n) rfl) rfl trivial rfl ?_
  intro b1
  refine wl_eff (e_box (cs := arr w64 p) rfl) rfl trivial rfl ?_
  intro b2
  refine wl_eff (e_alloc (cs := arr w64 (List.replicate 5 0)) zn60) rfl trivial rfl ?_
  intro b3
  refine wl_nil ?_
  refine aq_seq ?_
  refine wc_seq ?_
  refine wc_seq ?_
  refine wc_region ?_
  refine wl_y (y_loadall ag60 rfl (i := 1) rfl (by first | (simp; done) | (simp [*]; done) | (simp [*]; omega))) ?_
  refine wl_y (y_move rfl) ?_
  refine wl_nil ?_
  refine aq_seq ?_
  refine wc_block ?_
  refine wc_loop (γ := Nat) (fun i => [(2, .pointer (some ⟨b1, 0, none⟩)), (4, .pointer (some ⟨b3, 0, none⟩)), (7, .agg (arr w64 p)), (8, ki ((i : Int)))]) (fun i => Mem w [] [.blk b3 (.cells (arr w64 (List.replicate 5 0)) 60 (0, 0)), .blk b2 (.cells (arr w64 p) 60 (0, 0)), .blk b1 (.cells (arr w64 (addTo n p i)) 60 (0, 0))]) (fun i => (i ≤ 5)) (fun i => 5 - i) (0) ?_ ⟨rfl, rfl, rfl, rfl, trivial⟩ (fun _ h => h) ?_
  · omega
  · rintro i hi
    refine wc_seq ?_
    refine wc_region ?_
    refine wl_y (y_bin rfl rfl lss_i64) ?_
    refine wl_nil ?_
    refine aq_seq ?_
    refine wc_seq ?_
    refine wc_if rfl (fun hc1 => ?_) (fun hc1 => ?_)
    · have hb1 : (i : Int) < 5 := by simpa using hc1
      refine wc_skip ?_
      refine aq_seq ?_
      refine wc_seq ?_
      refine wc_block ?_
      refine wc_seq ?_
      refine wc_region ?_
      refine wl_y (y_move rfl) ?_
      refine wl_y (y_index_ar ar60 sz39 sc39 rfl rfl (by omega) (by omega) (arr_get (gd 0 (by first | omega | (simp only [addTo_len, mulIn_len, mulOut_len, leastTo_len, bytesTo_len, List.length_set] <;> omega))))) ?_
      refine wl_y (y_assign rfl) ?_
      refine wl_y (y_assign rfl) ?_
      refine wl_nil ?_
      refine aq_seq ?_
      refine wc_region ?_
      refine wl_y (y_move rfl) ?_
      refine wl_y (y_indexAddr_ar ar60 sz39 rfl rfl (by omega) (by omega) i (by omega)) ?_
      refine wl_y (y_load sc39 rfl (c_blk (i := 2) rfl (arr_get (gd 0 (by first | omega | (simp only [addTo_len, mulIn_len, mulOut_len, leastTo_len, bytesTo_len, List.length_set] <;> omega)))))) ?_
      refine wl_y (y_move rfl) ?_
      refine wl_y (y_bin rfl rfl (add_u64 ((addTo n p i).getD i 0) (p.getD i 0))) ?_
      refine wl_y (y_indexAddr_ar ar60 sz39 rfl rfl (by omega) (by omega) i (by omega)) ?_
      refine wl_eff (e_store_arr sz39 rfl (x' := ((addTo n p i).getD i 0 + p.getD i 0)) rfl (i := 2) rfl (by first | omega | (simp only [addTo_len, mulIn_len, mulOut_len, leastTo_len, bytesTo_len, List.length_set] <;> omega)) ⟨_, rfl, ⟨_, rfl, rfl⟩⟩) rfl trivial rfl ?_
      intro _
      refine wl_nil ?_
      refine aq_blk_normal ?_
      refine aq_seq ?_
      refine wc_region ?_
      refine wl_y (y_bin rfl rfl (addn_i64 (a := i) (b := 1) (by omega))) ?_
      refine wl_y (y_move rfl) ?_
      refine wl_nil ?_
      refine aq_loop (i + 1) ?_ ?_ ⟨rfl, rfl, rfl, rfl, trivial⟩ (fun _ h => h)
      · omega
      · first | omega | (dsimp only; omega)
    · have hb1 : ¬ ((i : Int) < 5) := by simpa using hc1
      have hi5e : i = 5 := by omega
      subst hi5e
      refine wc_exit ?_
      refine aq_thru_exit ?_
      refine aq_thru_exit ?_
      refine aq_blk_exit ?_
      refine aq_seq ?_
      refine wc_seq ?_
      refine wc_region ?_
      refine wl_y (y_loadall ag60 rfl (i := 2) rfl (by first | (simp; done) | (simp [*]; done) | (simp [*]; omega))) ?_
      refine wl_eff (e_call0 cf40 rfl (fun w m => carried_ok w (addTo n p 5) (add_bd hn hm))) rfl trivial rfl ?_
      intro _
      refine wl_eff (e_storeall sz60 rfl rfl (i := 0) rfl (by first | (simp; done) | (simp [*]; done) | (simp [*]; omega)) (by first | (simp; done) | (simp [*]; done) | (simp [*]; omega)) (arr_one _) rfl) rfl trivial rfl ?_
      intro _
      refine wl_nil ?_
      refine aq_seq ?_
      refine wc_ret ?_
      refine aq_return (.inl rfl) rfl (⟨_, _, _, rfl, fun w m => run_loadVar_all ag60 (m.blk (i := 0) rfl) (by first | (simp; done) | (simp [*]; done) | (simp [*]; omega)), rfl, rfl⟩) ?_
      intro w' m
      exact ⟨(), rfl, m.pick (is := []) rfl (by decide)⟩

theorem times_ok (w : World) (n p : List UInt64) (hn : Bd 67108864 n) (hm : Bd 67108864 p) :
    Calls Try.prog 26 #[.agg (arr w64 n), .agg (arr w64 p)] w (Ret (fun _ : Unit => .agg (arr w64 (carriedF (mulOut n p 5)))) (fun _ => Mem w [] [])) := by
  have hnl := hn.1
  have hml := hm.1
  have hcal := (carried_small (mul_bd hn hm)).1
  refine calls_of Try.func26 rfl rfl (L := [(0, .agg (arr w64 n)), (1, .agg (arr w64 p))]) ⟨rfl, rfl, trivial⟩ (m := 49) (Nat.le_of_ble_eq_true rfl) (M := Mem w [] []) (Mem.refl w) ?_
  refine wc_seq ?_
  refine wc_region ?_
  refine wl_eff (e_box (cs := arr w64 n) rfl) rfl trivial rfl ?_
  intro b1
  refine wl_eff (e_box (cs := arr w64 p) rfl) rfl trivial rfl ?_
  intro b2
  refine wl_eff (e_alloc (cs := arr w64 (List.replicate 5 0)) zn60) rfl trivial rfl ?_
  intro b3
  refine wl_nil ?_
  refine aq_seq ?_
  refine wc_seq ?_
  refine wc_seq ?_
  refine wc_region ?_
  refine wl_y (y_loadall ag60 rfl (i := 2) rfl (by first | (simp; done) | (simp [*]; done) | (simp [*]; omega))) ?_
  refine wl_y (y_move rfl) ?_
  refine wl_nil ?_
  refine aq_seq ?_
  refine wc_block ?_
  refine wc_loop (γ := Nat) (fun i => [(3, .pointer (some ⟨b2, 0, none⟩)), (4, .pointer (some ⟨b3, 0, none⟩)), (9, .agg (arr w64 n)), (10, ki ((i : Int)))]) (fun i => Mem w [] [.blk b3 (.cells (arr w64 (mulOut n p i)) 60 (0, 0)), .blk b2 (.cells (arr w64 p) 60 (0, 0)), .blk b1 (.cells (arr w64 n) 60 (0, 0))]) (fun i => (i ≤ 5)) (fun i => 5 - i) (0) ?_ ⟨rfl, rfl, rfl, rfl, trivial⟩ (fun _ h => h) ?_
  · omega
  · rintro i hi
    refine wc_seq ?_
    refine wc_region ?_
    refine wl_y (y_bin rfl rfl lss_i64) ?_
    refine wl_nil ?_
    refine aq_seq ?_
    refine wc_seq ?_
    refine wc_if rfl (fun hc1 => ?_) (fun hc1 => ?_)
    · have hb1 : (i : Int) < 5 := by simpa using hc1
      refine wc_skip ?_
      refine aq_seq ?_
      refine wc_seq ?_
      refine wc_block ?_
      refine wc_seq ?_
      refine wc_region ?_
      refine wl_y (y_move rfl) ?_
      refine wl_y (y_index_ar ar60 sz39 sc39 rfl rfl (by omega) (by omega) (arr_get (gd 0 (by first | omega | (simp only [addTo_len, mulIn_len, mulOut_len, leastTo_len, bytesTo_len, List.length_set] <;> omega))))) ?_
      refine wl_y (y_assign rfl) ?_
      refine wl_y (y_assign rfl) ?_
      refine wl_nil ?_
      refine aq_seq ?_
      refine wc_seq ?_
      refine wc_region ?_
      refine wl_y (y_loadall ag60 rfl (i := 1) rfl (by first | (simp; done) | (simp [*]; done) | (simp [*]; omega))) ?_
      refine wl_y (y_move rfl) ?_
      refine wl_nil ?_
      refine aq_seq ?_
      refine wc_block ?_
      refine wc_loop (γ := Nat) (fun k => [(3, .pointer (some ⟨b2, 0, none⟩)), (4, .pointer (some ⟨b3, 0, none⟩)), (9, .agg (arr w64 n)), (10, ki ((i : Int))), (5, ki ((i : Int))), (6, w64 (n.getD i 0)), (14, .agg (arr w64 p)), (15, ki ((k : Int)))]) (fun k => Mem w [] [.blk b3 (.cells (arr w64 (mulIn (mulOut n p i) i (n.getD i 0) p k)) 60 (0, 0)), .blk b2 (.cells (arr w64 p) 60 (0, 0)), .blk b1 (.cells (arr w64 n) 60 (0, 0))]) (fun k => (k ≤ 5)) (fun k => 5 - k) (0) ?_ ⟨rfl, rfl, rfl, rfl, rfl, rfl, rfl, rfl, trivial⟩ (fun _ h => h) ?_
      · omega
      · rintro k hk
        refine wc_seq ?_
        refine wc_region ?_
        refine wl_y (y_bin rfl rfl lss_i64) ?_
        refine wl_nil ?_
        refine aq_seq ?_
        refine wc_seq ?_
        refine wc_if rfl (fun hc2 => ?_) (fun hc2 => ?_)
        · have hb2 : (k : Int) < 5 := by simpa using hc2
          refine wc_skip ?_
          refine aq_seq ?_
          refine wc_seq ?_
          refine wc_block ?_
          refine wc_seq ?_
          refine wc_region ?_
          refine wl_y (y_move rfl) ?_
          refine wl_y (y_index_ar ar60 sz39 sc39 rfl rfl (by omega) (by omega) (arr_get (gd 0 (by first | omega | (simp only [addTo_len, mulIn_len, mulOut_len, leastTo_len, bytesTo_len, List.length_set] <;> omega))))) ?_
          refine wl_y (y_assign rfl) ?_
          refine wl_y (y_assign rfl) ?_
          refine wl_nil ?_
          refine aq_seq ?_
          refine wc_seq ?_
          refine wc_region ?_
          refine wl_y (y_move rfl) ?_
          refine wl_y (y_move rfl) ?_
          refine wl_y (y_bin rfl rfl (addn_i64 (a := i) (b := k) (by omega))) ?_
          refine wl_y (y_bin rfl rfl lss_i64) ?_
          refine wl_nil ?_
          refine aq_seq ?_
          refine wc_if rfl (fun hc3 => ?_) (fun hc3 => ?_)
          · have hb3 : ((i + k : Nat) : Int) < 5 := by simpa using hc3
            have hik : i + k < 5 := by omega
            refine wc_region ?_
            refine wl_y (y_move rfl) ?_
            refine wl_y (y_move rfl) ?_
            refine wl_y (y_bin rfl rfl (addn_i64 (a := i) (b := k) (by omega))) ?_
            refine wl_y (y_indexAddr_ar ar60 sz39 rfl rfl (by omega) (by omega) (i + k) (by omega)) ?_
            refine wl_y (y_load sc39 rfl (c_blk (i := 0) rfl (arr_get (gd 0 (by first | omega | (simp only [addTo_len, mulIn_len, mulOut_len, leastTo_len, bytesTo_len, List.length_set] <;> omega)))))) ?_
            refine wl_y (y_move rfl) ?_
            refine wl_y (y_move rfl) ?_
            refine wl_y (y_bin rfl rfl (mul_u64 (n.getD i 0) (p.getD k 0))) ?_
            refine wl_y (y_bin rfl rfl (add_u64 ((mulIn (mulOut n p i) i (n.getD i 0) p k).getD (i + k) 0) (n.getD i 0 * p.getD k 0))) ?_
            refine wl_y (y_indexAddr_ar ar60 sz39 rfl rfl (by omega) (by omega) (i + k) (by omega)) ?_
            refine wl_eff (e_store_arr sz39 rfl (x' := ((mulIn (mulOut n p i) i (n.getD i 0) p k).getD (i + k) 0 + (n.getD i 0 * p.getD k 0))) rfl (i := 0) rfl (by first | omega | (simp only [addTo_len, mulIn_len, mulOut_len, leastTo_len, bytesTo_len, List.length_set] <;> omega)) rfl) rfl trivial rfl ?_
            intro _
            refine wl_nil ?_
            refine aq_blk_normal ?_
            refine aq_seq ?_
            refine wc_region ?_
            refine wl_y (y_bin rfl rfl (addn_i64 (a := k) (b := 1) (by omega))) ?_
            refine wl_y (y_move rfl) ?_
            refine wl_nil ?_
            have hfx : ((mulIn (mulOut n p i) i (n.getD i 0) p k).set (i + k) ((mulIn (mulOut n p i) i (n.getD i 0) p k).getD (i + k) 0 + (n.getD i 0 * p.getD k 0))) = mulIn (mulOut n p i) i (n.getD i 0) p (k + 1) := (if_pos hik).symm
            rw [hfx]
            refine aq_loop (k + 1) ?_ ?_ ⟨rfl, rfl, rfl, rfl, rfl, rfl, rfl, rfl, trivial⟩ (fun _ h => h)
            · omega
            · first | omega | (dsimp only; omega)
          · have hb3 : ¬ (((i + k : Nat) : Int) < 5) := by simpa using hc3
            have hik : ¬ (i + k < 5) := by omega
            refine wc_region ?_
            refine wl_y (y_move rfl) ?_
            refine wl_y (y_move rfl) ?_
            refine wl_y (y_bin rfl rfl (addn_i64 (a := i) (b := k) (by omega))) ?_
            refine wl_y (y_bin rfl rfl (subn_i64 (a := (i + k)) (b := 5) (by omega) (by omega))) ?_
            refine wl_y (y_indexAddr_ar ar60 sz39 rfl rfl (by omega) (by omega) ((i + k) - 5) (by omega)) ?_
            refine wl_y (y_load sc39 rfl (c_blk (i := 0) rfl (arr_get (gd 0 (by first | omega | (simp only [addTo_len, mulIn_len, mulOut_len, leastTo_len, bytesTo_len, List.length_set] <;> omega)))))) ?_
            refine wl_y (y_move rfl) ?_
            refine wl_y (y_bin rfl rfl (mul_u64 5 (n.getD i 0))) ?_
            refine wl_y (y_move rfl) ?_
            refine wl_y (y_bin rfl rfl (mul_u64 (5 * n.getD i 0) (p.getD k 0))) ?_
            refine wl_y (y_bin rfl rfl (add_u64 ((mulIn (mulOut n p i) i (n.getD i 0) p k).getD ((i + k) - 5) 0) ((5 * n.getD i 0) * p.getD k 0))) ?_
            refine wl_y (y_indexAddr_ar ar60 sz39 rfl rfl (by omega) (by omega) ((i + k) - 5) (by omega)) ?_
            refine wl_eff (e_store_arr sz39 rfl (x' := ((mulIn (mulOut n p i) i (n.getD i 0) p k).getD ((i + k) - 5) 0 + ((5 * n.getD i 0) * p.getD k 0))) rfl (i := 0) rfl (by first | omega | (simp only [addTo_len, mulIn_len, mulOut_len, leastTo_len, bytesTo_len, List.length_set] <;> omega)) rfl) rfl trivial rfl ?_
            intro _
            refine wl_nil ?_
            refine aq_blk_normal ?_
            refine aq_seq ?_
            refine wc_region ?_
            refine wl_y (y_bin rfl rfl (addn_i64 (a := k) (b := 1) (by omega))) ?_
            refine wl_y (y_move rfl) ?_
            refine wl_nil ?_
            have hfx : ((mulIn (mulOut n p i) i (n.getD i 0) p k).set ((i + k) - 5) ((mulIn (mulOut n p i) i (n.getD i 0) p k).getD ((i + k) - 5) 0 + ((5 * n.getD i 0) * p.getD k 0))) = mulIn (mulOut n p i) i (n.getD i 0) p (k + 1) := (if_neg hik).symm
            rw [hfx]
            refine aq_loop (k + 1) ?_ ?_ ⟨rfl, rfl, rfl, rfl, rfl, rfl, rfl, rfl, trivial⟩ (fun _ h => h)
            · omega
            · first | omega | (dsimp only; omega)
        · have hb2 : ¬ ((k : Int) < 5) := by simpa using hc2
          have hk5e : k = 5 := by omega
          subst hk5e
          refine wc_exit ?_
          refine aq_thru_exit ?_
          refine aq_thru_exit ?_
          refine aq_blk_exit ?_
          refine aq_blk_normal ?_
          refine aq_seq ?_
          refine wc_region ?_
          refine wl_y (y_bin rfl rfl (addn_i64 (a := i) (b := 1) (by omega))) ?_
          refine wl_y (y_move rfl) ?_
          refine wl_nil ?_
          refine aq_loop (i + 1) ?_ ?_ ⟨rfl, rfl, rfl, rfl, trivial⟩ (fun _ h => h)
          · omega
          · first | omega | (dsimp only; omega)
    · have hb1 : ¬ ((i : Int) < 5) := by simpa using hc1
      have hi5e : i = 5 := by omega
      subst hi5e
      refine wc_exit ?_
      refine aq_thru_exit ?_
      refine aq_thru_exit ?_
      refine aq_blk_exit ?_
      refine aq_seq ?_
      refine wc_seq ?_
      refine wc_region ?_
      refine wl_y (y_loadall ag60 rfl (i := 0) rfl (by first | (simp; done) | (simp [*]; done) | (simp [*]; omega))) ?_
      refine wl_eff (e_call0 cf40 rfl (fun w m => carried_ok w (mulOut n p 5) (mul_bd hn hm))) rfl trivial rfl ?_
      intro _
      refine wl_eff (e_storeall sz60 rfl rfl (i := 0) rfl (by first | (simp; done) | (simp [*]; done) | (simp [*]; omega)) (by first | (simp; done) | (simp [*]; done) | (simp [*]; omega)) (arr_one _) rfl) rfl trivial rfl ?_
      intro _
      refine wl_nil ?_
      refine aq_seq ?_
      refine wc_ret ?_
      refine aq_return (.inl rfl) rfl (⟨_, _, _, rfl, fun w m => run_loadVar_all ag60 (m.blk (i := 0) rfl) (by first | (simp; done) | (simp [*]; done) | (simp [*]; omega)), rfl, rfl⟩) ?_
      intro w' m
      exact ⟨(), rfl, m.pick (is := []) rfl (by decide)⟩

theorem least_ok (w : World) (n : List UInt64) (hnl : n.length = 5) :
    Calls Try.prog 27 #[.agg (arr w64 n)] w (Ret (fun _ : Unit => .agg (arr w64 (leastF n))) (fun _ => Mem w [] [])) := by
  refine calls_of Try.func27 rfl rfl (L := [(0, .agg (arr w64 n))]) ⟨rfl, trivial⟩ (m := 41) (Nat.le_of_ble_eq_true rfl) (M := Mem w [] []) (Mem.refl w) ?_
  refine wc_seq ?_
  refine wc_region ?_
  refine wl_eff (e_box (cs := arr w64 n) rfl) rfl trivial rfl ?_
  intro b1
  refine wl_eff (e_alloc (cs := arr w64 (List.replicate 5 0)) zn60) rfl trivial rfl ?_
  intro b2
  refine wl_nil ?_
  refine aq_seq ?_
  refine wc_seq ?_
  refine wc_region ?_
  refine wl_y (y_loadall ag60 rfl (i := 1) rfl (by first | (simp; done) | (simp [*]; done) | (simp [*]; omega))) ?_
  refine wl_eff (e_alloc (cs := arr w64 (List.replicate 5 0)) zn60) rfl trivial rfl ?_
  intro b3
  refine wl_eff (e_storeall sz60 rfl rfl (i := 0) rfl (by first | (simp; done) | (simp [*]; done) | (simp [*]; omega)) (by first | (simp; done) | (simp [*]; done) | (simp [*]; omega)) (arr_one _) rfl) rfl trivial rfl ?_
  intro _
  refine wl_nil ?_
  refine aq_seq ?_
  refine wc_seq ?_
  refine wc_region ?_
  refine wl_y (y_indexAddr_ar ar60 sz39 rfl rfl (by omega) (by omega) 0 (by omega)) ?_
  refine wl_y (y_load sc39 rfl (c_blk (i := 0) rfl (arr_get (gd 0 (by first | omega | (simp only [addTo_len, mulIn_len, mulOut_len, leastTo_len, bytesTo_len, List.length_set] <;> omega)))))) ?_
  refine wl_y (y_bin rfl rfl (add_u64 (n.getD 0 0) 5)) ?_
  refine wl_y (y_indexAddr_ar ar60 sz39 rfl rfl (by omega) (by omega) 0 (by omega)) ?_
  refine wl_eff (e_store_arr sz39 rfl (x' := (n.getD 0 0 + 5)) rfl (i := 0) rfl (by first | omega | (simp only [addTo_len, mulIn_len, mulOut_len, leastTo_len, bytesTo_len, List.length_set] <;> omega)) rfl) rfl trivial rfl ?_
  intro _
  refine wl_nil ?_
  refine aq_seq ?_
  refine wc_seq ?_
  refine wc_seq ?_
  refine wc_region ?_
  refine wl_y (y_move rfl) ?_
  refine wl_nil ?_
  refine aq_seq ?_
  refine wc_block ?_
  refine wc_loop (γ := Nat) (fun i => [(1, .pointer (some ⟨b1, 0, none⟩)), (2, .pointer (some ⟨b2, 0, none⟩)), (3, .pointer (some ⟨b3, 0, none⟩)), (11, ki ((i : Int)))]) (fun i => Mem w [] [.blk b3 (.cells (arr w64 (leastTo (n.set 0 (n.getD 0 0 + 5)) i)) 60 (0, 0)), .blk b2 (.cells (arr w64 (List.replicate 5 0)) 60 (0, 0)), .blk b1 (.cells (arr w64 n) 60 (0, 0))]) (fun i => (i ≤ 4)) (fun i => 4 - i) (0) ?_ ⟨rfl, rfl, rfl, rfl, trivial⟩ (fun _ h => h) ?_
  · omega
  · rintro i hi
    refine wc_seq ?_
    refine wc_region ?_
    refine wl_y (y_bin rfl rfl lss_i64) ?_
    refine wl_nil ?_
    refine aq_seq ?_
    refine wc_seq ?_
    refine wc_if rfl (fun hc1 => ?_) (fun hc1 => ?_)
    · have hb1 : (i : Int) < 4 := by simpa using hc1
      refine wc_skip ?_
      refine aq_seq ?_
      refine wc_seq ?_
      refine wc_block ?_
      refine wc_seq ?_
      refine wc_region ?_
      refine wl_y (y_move rfl) ?_
      refine wl_y (y_assign rfl) ?_
      refine wl_nil ?_
      refine aq_seq ?_
      refine wc_seq ?_
      refine wc_drawM [(0, .q), (1, .q), (2, .q), (3, .q), (4, .q), (5, .q), (6, .q), (7, .q), (8, .q), (9, .q), (10, .l)] (by kernel_rfl) (by kernel_rfl) Mem.closed ?_
      refine wp_q rfl Mem.closed (fun _ h => h) Mem.closed rfl (q_of_yld (y_move rfl)) trivial ?_
      refine wp_q rfl Mem.closed (fun _ h => h) Mem.closed rfl (q_of_yld (y_bin rfl rfl (addn_i64 (a := i) (b := 1) (by omega)))) trivial ?_
      refine wp_q rfl Mem.closed (fun _ h => h) Mem.closed rfl (q_of_yld (y_indexAddr_ar ar60 sz39 rfl rfl (by omega) (by omega) (i + 1) (by omega))) trivial ?_
      refine wp_q rfl Mem.closed (fun _ h => h) Mem.closed rfl (q_of_yld (y_load sc39 rfl (c_blk (i := 0) rfl (arr_get (gd 0 (by first | omega | (simp only [addTo_len, mulIn_len, mulOut_len, leastTo_len, bytesTo_len, List.length_set] <;> omega))))))) trivial ?_
      refine wp_q rfl Mem.closed (fun _ h => h) Mem.closed rfl (q_of_yld (y_move rfl)) trivial ?_
      refine wp_q rfl Mem.closed (fun _ h => h) Mem.closed rfl (q_of_yld (y_indexAddr_ar ar60 sz39 rfl rfl (by omega) (by omega) i (by omega))) trivial ?_
      refine wp_q rfl Mem.closed (fun _ h => h) Mem.closed rfl (q_of_yld (y_load sc39 rfl (c_blk (i := 0) rfl (arr_get (gd 0 (by first | omega | (simp only [addTo_len, mulIn_len, mulOut_len, leastTo_len, bytesTo_len, List.length_set] <;> omega))))))) trivial ?_
      refine wp_q rfl Mem.closed (fun _ h => h) Mem.closed rfl (q_of_yld (y_bin rfl rfl (shr_u64 ((leastTo (n.set 0 (n.getD 0 0 + 5)) i).getD i 0) (q := .u64) 26 (by omega) (by omega)))) trivial ?_
      refine wp_q rfl Mem.closed (fun _ h => h) Mem.closed rfl (q_of_yld (y_bin rfl rfl (add_u64 ((leastTo (n.set 0 (n.getD 0 0 + 5)) i).getD (i + 1) 0) (((leastTo (n.set 0 (n.getD 0 0 + 5)) i).getD i 0) >>> UInt64.ofNat 26)))) trivial ?_
      refine wp_q rfl Mem.closed (fun _ h => h) Mem.closed rfl (q_of_yld (y_indexAddr_ar ar60 sz39 rfl rfl (by omega) (by omega) (i + 1) (by omega))) trivial ?_
      refine wp_l rfl rfl rfl (e_store_arr sz39 rfl (x' := ((leastTo (n.set 0 (n.getD 0 0 + 5)) i).getD (i + 1) 0 + ((leastTo (n.set 0 (n.getD 0 0 + 5)) i).getD i 0) >>> UInt64.ofNat 26)) rfl (i := 0) rfl (by first | omega | (simp only [addTo_len, mulIn_len, mulOut_len, leastTo_len, bytesTo_len, List.length_set] <;> omega)) rfl) trivial ?_
      intro _
      refine aq_seq ?_
      refine wc_region ?_
      refine wl_y (y_move rfl) ?_
      refine wl_y (y_indexAddr_ar ar60 sz39 rfl rfl (by omega) (by omega) i (by omega)) ?_
      refine wl_y (y_load sc39 rfl (c_blk (i := 0) rfl (arr_get (gd 0 (by first | omega | (simp only [addTo_len, mulIn_len, mulOut_len, leastTo_len, bytesTo_len, List.length_set] <;> omega)))))) ?_
      refine wl_y (y_bin rfl rfl (and_u64 (((leastTo (n.set 0 (n.getD 0 0 + 5)) i).set (i + 1) ((leastTo (n.set 0 (n.getD 0 0 + 5)) i).getD (i + 1) 0 + ((leastTo (n.set 0 (n.getD 0 0 + 5)) i).getD i 0) >>> UInt64.ofNat 26)).getD i 0) 67108863)) ?_
      refine wl_y (y_indexAddr_ar ar60 sz39 rfl rfl (by omega) (by omega) i (by omega)) ?_
      refine wl_eff (e_store_arr sz39 rfl (x' := ((((leastTo (n.set 0 (n.getD 0 0 + 5)) i).set (i + 1) ((leastTo (n.set 0 (n.getD 0 0 + 5)) i).getD (i + 1) 0 + ((leastTo (n.set 0 (n.getD 0 0 + 5)) i).getD i 0) >>> UInt64.ofNat 26)).getD i 0) &&& 67108863)) rfl (i := 0) rfl (by first | omega | (simp only [addTo_len, mulIn_len, mulOut_len, leastTo_len, bytesTo_len, List.length_set] <;> omega)) rfl) rfl trivial rfl ?_
      intro _
      refine wl_nil ?_
      refine aq_blk_normal ?_
      refine aq_seq ?_
      refine wc_region ?_
      refine wl_y (y_bin rfl rfl (addn_i64 (a := i) (b := 1) (by omega))) ?_
      refine wl_y (y_move rfl) ?_
      refine wl_nil ?_
      refine aq_loop (i + 1) ?_ ?_ ⟨rfl, rfl, rfl, rfl, trivial⟩ (fun _ h => h)
      · omega
      · first | omega | (dsimp only; omega)
    · have hb1 : ¬ ((i : Int) < 4) := by simpa using hc1
      have hi4e : i = 4 := by omega
      subst hi4e
      refine wc_exit ?_
      refine aq_thru_exit ?_
      refine aq_thru_exit ?_
      refine aq_blk_exit ?_
      refine aq_seq ?_
      refine wc_seq ?_
      refine wc_seq ?_
      refine wc_region ?_
      refine wl_y (y_assign rfl) ?_
      refine wl_nil ?_
      refine aq_seq ?_
      refine wc_seq ?_
      refine wc_region ?_
      refine wl_y (y_move rfl) ?_
      refine wl_y (y_indexAddr_ar ar60 sz39 rfl rfl (by omega) (by omega) 4 (by omega)) ?_
      refine wl_y (y_load sc39 rfl (c_blk (i := 0) rfl (arr_get (gd 0 (by first | omega | (simp only [addTo_len, mulIn_len, mulOut_len, leastTo_len, bytesTo_len, List.length_set] <;> omega)))))) ?_
      refine wl_y (y_bin rfl rfl (gtr_u64 ((leastTo (n.set 0 (n.getD 0 0 + 5)) 4).getD 4 0) 67108863)) ?_
      refine wl_nil ?_
      refine aq_seq ?_
      refine wc_if rfl (fun hc2 => ?_) (fun hc2 => ?_)
      · have hb2 : ((leastTo (n.set 0 (n.getD 0 0 + 5)) 4).getD 4 0) > 67108863 := by simpa using hc2
        refine wc_seq ?_
        refine wc_region ?_
        refine wl_y (y_move rfl) ?_
        refine wl_y (y_indexAddr_ar ar60 sz39 rfl rfl (by omega) (by omega) 4 (by omega)) ?_
        refine wl_y (y_load sc39 rfl (c_blk (i := 0) rfl (arr_get (gd 0 (by first | omega | (simp only [addTo_len, mulIn_len, mulOut_len, leastTo_len, bytesTo_len, List.length_set] <;> omega)))))) ?_
        refine wl_y (y_bin rfl rfl (and_u64 ((leastTo (n.set 0 (n.getD 0 0 + 5)) 4).getD 4 0) 67108863)) ?_
        refine wl_y (y_indexAddr_ar ar60 sz39 rfl rfl (by omega) (by omega) 4 (by omega)) ?_
        refine wl_eff (e_store_arr sz39 rfl (x' := (((leastTo (n.set 0 (n.getD 0 0 + 5)) 4).getD 4 0) &&& 67108863)) rfl (i := 0) rfl (by first | omega | (simp only [addTo_len, mulIn_len, mulOut_len, leastTo_len, bytesTo_len, List.length_set] <;> omega)) rfl) rfl trivial rfl ?_
        intro _
        refine wl_nil ?_
        refine aq_seq ?_
        refine wc_seq ?_
        refine wc_region ?_
        refine wl_y (y_loadall ag60 rfl (i := 0) rfl (by first | (simp; done) | (simp [*]; done) | (simp [*]; omega))) ?_
        refine wl_eff (e_storeall sz60 rfl rfl (i := 1) rfl (by first | (simp; done) | (simp [*]; done) | (simp [*]; omega)) (by first | (simp; done) | (simp [*]; done) | (simp [*]; omega)) (arr_one _) ⟨_, rfl, rfl⟩) rfl trivial rfl ?_
        intro _
        refine wl_nil ?_
        refine aq_seq ?_
        refine wc_ret ?_
        refine aq_thru_ret ?_
        refine aq_return (.inl rfl) rfl (⟨_, _, _, rfl, fun w m => run_loadVar_all ag60 (m.blk (i := 1) rfl) (by first | (simp; done) | (simp [*]; done) | (simp [*]; omega)), rfl, rfl⟩) ?_
        intro w' m
        rw [show leastF n = _ from if_pos hb2]
        exact ⟨(), rfl, m.pick (is := []) rfl (by decide)⟩
      · have hb2 : ¬ (((leastTo (n.set 0 (n.getD 0 0 + 5)) 4).getD 4 0) > 67108863) := by simpa using hc2
        refine wc_skip ?_
        refine aq_seq ?_
        refine wc_seq ?_
        refine wc_region ?_
        refine wl_y (y_loadall ag60 rfl (i := 2) rfl (by first | (simp; done) | (simp [*]; done) | (simp [*]; omega))) ?_
        refine wl_eff (e_storeall sz60 rfl rfl (i := 1) rfl (by first | (simp; done) | (simp [*]; done) | (simp [*]; omega)) (by first | (simp; done) | (simp [*]; done) | (simp [*]; omega)) (arr_one _) ⟨_, rfl, rfl⟩) rfl trivial rfl ?_
        intro _
        refine wl_nil ?_
        refine aq_seq ?_
        refine wc_ret ?_
        refine aq_return (.inl rfl) rfl (⟨_, _, _, rfl, fun w m => run_loadVar_all ag60 (m.blk (i := 1) rfl) (by first | (simp; done) | (simp [*]; done) | (simp [*]; omega)), rfl, rfl⟩) ?_
        intro w' m
        rw [show leastF n = _ from if_neg hb2]
        exact ⟨(), rfl, m.pick (is := []) rfl (by decide)⟩

theorem pbytes_ok (w : World) (n : List UInt64) (hnl : n.length = 5) :
    Calls Try.prog 28 #[.agg (arr w64 n)] w (Ret (fun _ : Unit => .agg (arr b8 (bytesTo n 16))) (fun _ => Mem w [] [])) := by
  refine calls_of Try.func28 rfl rfl (L := [(0, .agg (arr w64 n))]) ⟨rfl, trivial⟩ (m := 39) (Nat.le_of_ble_eq_true rfl) (M := Mem w [] []) (Mem.refl w) ?_
  refine wc_seq ?_
  refine wc_region ?_
  refine wl_eff (e_box (cs := arr w64 n) rfl) rfl trivial rfl ?_
  intro b1
  refine wl_eff (e_alloc (cs := arr b8 (List.replicate 16 0)) zn40) rfl trivial rfl ?_
  intro b2
  refine wl_nil ?_
  refine aq_seq ?_
  refine wc_seq ?_
  refine wc_seq ?_
  refine wc_region ?_
  refine wl_y (y_move rfl) ?_
  refine wl_nil ?_
  refine aq_seq ?_
  refine wc_block ?_
  refine wc_loop (γ := Nat) (fun i => [(1, .pointer (some ⟨b1, 0, none⟩)), (2, .pointer (some ⟨b2, 0, none⟩)), (6, ki ((i : Int)))]) (fun i => Mem w [] [.blk b2 (.cells (arr b8 (bytesTo n i)) 40 (0, 0)), .blk b1 (.cells (arr w64 n) 60 (0, 0))]) (fun i => (i ≤ 16)) (fun i => 16 - i) (0) ?_ ⟨rfl, rfl, rfl, trivial⟩ (fun _ h => h) ?_
  · omega
  · rintro i hi
    refine wc_seq ?_
    refine wc_region ?_
    refine wl_y (y_bin rfl rfl lss_i64) ?_
    refine wl_nil ?_
    refine aq_seq ?_
    refine wc_seq ?_
    refine wc_if rfl (fun hc1 => ?_) (fun hc1 => ?_)
    · have hb1 : (i : Int) < 16 := by simpa using hc1
      refine wc_skip ?_
      refine aq_seq ?_
      refine wc_seq ?_
      refine wc_block ?_
      refine wc_seq ?_
      refine wc_region ?_
      refine wl_y (y_move rfl) ?_
      refine wl_y (y_assign rfl) ?_
      refine wl_nil ?_
      refine aq_seq ?_
      refine wc_seq ?_
      refine wc_region ?_
      refine wl_y (y_move rfl) ?_
      refine wl_y (y_bin rfl rfl (muln_i64 (a := 8) (b := i) (by omega))) ?_
      refine wl_y (y_assign rfl) ?_
      refine wl_nil ?_
      refine aq_seq ?_
      refine wc_seq ?_
      refine wc_region ?_
      refine wl_y (y_move rfl) ?_
      refine wl_y (y_bin rfl rfl (quon_i64 (a := (8 * i)) (b := 26) (by omega) (by omega))) ?_
      refine wl_y (y_indexAddr_ar ar60 sz39 rfl rfl (by omega) (by omega) ((8 * i) / 26) (by omega)) ?_
      refine wl_y (y_load sc39 rfl (c_blk (i := 1) rfl (arr_get (gd 0 (by first | omega | (simp only [addTo_len, mulIn_len, mulOut_len, leastTo_len, bytesTo_len, List.length_set] <;> omega)))))) ?_
      refine wl_y (y_move rfl) ?_
      refine wl_y (y_bin rfl rfl (remn_i64 (a := (8 * i)) (b := 26) (by omega))) ?_
      refine wl_y (y_bin rfl rfl (shr_u64 (n.getD ((8 * i) / 26) 0) (q := .i64) ((8 * i) % 26) (by omega) (by omega))) ?_
      refine wl_y (y_assign rfl) ?_
      refine wl_nil ?_
      refine aq_seq ?_
      refine wc_seq ?_
      refine wc_seq ?_
      refine wc_region ?_
      refine wl_y (y_move rfl) ?_
      refine wl_y (y_bin rfl rfl (quon_i64 (a := (8 * i)) (b := 26) (by omega) (by omega))) ?_
      refine wl_y (y_bin rfl rfl (addn_i64 (a := ((8 * i) / 26)) (b := 1) (by omega))) ?_
      refine wl_y (y_bin rfl rfl lss_i64) ?_
      refine wl_nil ?_
      refine aq_seq ?_
      refine wc_if rfl (fun hc2 => ?_) (fun hc2 => ?_)
      · have hb2 : ((((8 * i) / 26) + 1 : Nat) : Int) < 5 := by simpa using hc2
        have hia : (8 * i) / 26 + 1 < 5 := by omega
        refine wc_region ?_
        refine wl_y (y_move rfl) ?_
        refine wl_y (y_move rfl) ?_
        refine wl_y (y_bin rfl rfl (quon_i64 (a := (8 * i)) (b := 26) (by omega) (by omega))) ?_
        refine wl_y (y_bin rfl rfl (addn_i64 (a := ((8 * i) / 26)) (b := 1) (by omega))) ?_
        refine wl_y (y_indexAddr_ar ar60 sz39 rfl rfl (by omega) (by omega) (((8 * i) / 26) + 1) (by omega)) ?_
        refine wl_y (y_load sc39 rfl (c_blk (i := 1) rfl (arr_get (gd 0 (by first | omega | (simp only [addTo_len, mulIn_len, mulOut_len, leastTo_len, bytesTo_len, List.length_set] <;> omega)))))) ?_
        refine wl_y (y_move rfl) ?_
        refine wl_y (y_bin rfl rfl (remn_i64 (a := (8 * i)) (b := 26) (by omega))) ?_
        refine wl_y (y_bin rfl rfl (subn_i64 (a := 26) (b := ((8 * i) % 26)) (by omega) (by omega))) ?_
        refine wl_y (y_bin rfl rfl (shl_u64 (n.getD (((8 * i) / 26) + 1) 0) (q := .i64) (26 - ((8 * i) % 26)) (by omega) (by omega))) ?_
        refine wl_y (y_bin rfl rfl (or_u64 ((n.getD ((8 * i) / 26) 0) >>> UInt64.ofNat ((8 * i) % 26)) ((n.getD (((8 * i) / 26) + 1) 0) <<< UInt64.ofNat (26 - ((8 * i) % 26))))) ?_
        refine wl_y (y_assign rfl) ?_
        refine wl_nil ?_
        refine aq_seq ?_
        refine wc_region ?_
        refine wl_y (y_move rfl) ?_
        refine wl_y (y_move rfl) ?_
        refine wl_y (y_cv rfl us39 ui5 (congrArg (Value.int .u8) (cv_u64_u8 (((n.getD ((8 * i) / 26) 0) >>> UInt64.ofNat ((8 * i) % 26)) ||| ((n.getD (((8 * i) / 26) + 1) 0) <<< UInt64.ofNat (26 - ((8 * i) % 26))))))) ?_
        refine wl_y (y_indexAddr_ar ar40 sz5 rfl rfl (by omega) (by omega) i (by omega)) ?_
        refine wl_eff (e_store_arr sz5 rfl (x' := (((n.getD ((8 * i) / 26) 0) >>> UInt64.ofNat ((8 * i) % 26)) ||| ((n.getD (((8 * i) / 26) + 1) 0) <<< UInt64.ofNat (26 - ((8 * i) % 26)))).toUInt8) rfl (i := 0) rfl (by first | omega | (simp only [addTo_len, mulIn_len, mulOut_len, leastTo_len, bytesTo_len, List.length_set] <;> omega)) rfl) rfl trivial rfl ?_
        intro _
        refine wl_nil ?_
        refine aq_blk_normal ?_
        refine aq_seq ?_
        refine wc_region ?_
        refine wl_y (y_bin rfl rfl (addn_i64 (a := i) (b := 1) (by omega))) ?_
        refine wl_y (y_move rfl) ?_
        refine wl_nil ?_
        have hfx : ((bytesTo n i).set i ((((n.getD ((8 * i) / 26) 0) >>> UInt64.ofNat ((8 * i) % 26)) ||| ((n.getD (((8 * i) / 26) + 1) 0) <<< UInt64.ofNat (26 - ((8 * i) % 26)))).toUInt8)) = bytesTo n (i + 1) := (if_pos hia).symm
        rw [hfx]
        refine aq_loop (i + 1) ?_ ?_ ⟨rfl, rfl, rfl, trivial⟩ (fun _ h => h)
        · omega
        · first | omega | (dsimp only; omega)
      · have hb2 : ¬ (((((8 * i) / 26) + 1 : Nat) : Int) < 5) := by simpa using hc2
        have hia : ¬ ((8 * i) / 26 + 1 < 5) := by omega
        refine wc_skip ?_
        refine aq_seq ?_
        refine wc_region ?_
        refine wl_y (y_move rfl) ?_
        refine wl_y (y_move rfl) ?_
        refine wl_y (y_cv rfl us39 ui5 (congrArg (Value.int .u8) (cv_u64_u8 ((n.getD ((8 * i) / 26) 0) >>> UInt64.ofNat ((8 * i) % 26))))) ?_
        refine wl_y (y_indexAddr_ar ar40 sz5 rfl rfl (by omega) (by omega) i (by omega)) ?_
        refine wl_eff (e_store_arr sz5 rfl (x' := ((n.getD ((8 * i) / 26) 0) >>> UInt64.ofNat ((8 * i) % 26)).toUInt8) rfl (i := 0) rfl (by first | omega | (simp only [addTo_len, mulIn_len, mulOut_len, leastTo_len, bytesTo_len, List.length_set] <;> omega)) rfl) rfl trivial rfl ?_
        intro _
        refine wl_nil ?_
        refine aq_blk_normal ?_
        refine aq_seq ?_
        refine wc_region ?_
        refine wl_y (y_bin rfl rfl (addn_i64 (a := i) (b := 1) (by omega))) ?_
        refine wl_y (y_move rfl) ?_
        refine wl_nil ?_
        have hfx : ((bytesTo n i).set i (((n.getD ((8 * i) / 26) 0) >>> UInt64.ofNat ((8 * i) % 26)).toUInt8)) = bytesTo n (i + 1) := (if_neg hia).symm
        rw [hfx]
        refine aq_loop (i + 1) ?_ ?_ ⟨rfl, rfl, rfl, trivial⟩ (fun _ h => h)
        · omega
        · first | omega | (dsimp only; omega)
    · have hb1 : ¬ ((i : Int) < 16) := by simpa using hc1
      have hi16e : i = 16 := by omega
      subst hi16e
      refine wc_exit ?_
      refine aq_thru_exit ?_
      refine aq_thru_exit ?_
      refine aq_blk_exit ?_
      refine aq_seq ?_
      refine wc_seq ?_
      refine wc_region ?_
      refine wl_y (y_loadall ag40 rfl (i := 0) rfl (by first | (simp; done) | (simp [*]; done) | (simp [*]; omega))) ?_
      refine wl_eff (e_storeall sz40 rfl rfl (i := 0) rfl (by first | (simp; done) | (simp [*]; done) | (simp [*]; omega)) (by first | (simp; done) | (simp [*]; done) | (simp [*]; omega)) (arr_one _) rfl) rfl trivial rfl ?_
      intro _
      refine wl_nil ?_
      refine aq_seq ?_
      refine wc_ret ?_
      refine aq_return (.inl rfl) rfl (⟨_, _, _, rfl, fun w m => run_loadVar_all ag40 (m.blk (i := 0) rfl) (by first | (simp; done) | (simp [*]; done) | (simp [*]; omega)), rfl, rfl⟩) ?_
      intro w' m
      exact ⟨(), rfl, m.pick (is := []) rfl (by decide)⟩

theorem parts1_ok {X : Type} (w0 w : World) (own : List Nat) (l bb : Nat) (ab : Option Addr) (nb cb : Nat) (lb : List UInt8) (hb : Rd w0 ab nb 1 (lb.map b8)) (hbo : lb.map b8 ≠ [] → ∀ a, ab = some a → a.block ∉ own) (hc : nb ≤ cb) (hnb : nb ≤ 70368744177664) (Hf : Nat → X → List Ch) (x0 : X) (hm : Mem w0 own (.blk bb (.cells (#[.slice ab nb cb]) 22 (0, 0)) :: Hf 0 x0) w) (hY : ∀ j x w' A ad cap, 16 * j < nb → Mem w0 own (.sl ad ((min 16 (nb - 16 * j)) + 1) cap 5 1 ((((lb.drop (16 * j)).take (min 16 (nb - 16 * j))) ++ [1]).map b8) :: (Hf j x ++ A)) w' → Go.Mc.Yields Try.prog l [.slice ad ((min 16 (nb - 16 * j)) + 1) cap] w' (Ret (fun _ : X => kb true) (fun x' => Mem w0 own (Hf (j + 1) x' ++ A)))) :
    Calls Try.prog 38 #[.func (.yield l) #[] #[], .pointer (some ⟨bb, 0, none⟩)] w (Ret (fun _ : X => .tuple #[]) (fun y => Mem w0 own (.blk bb (.cells (#[.slice ab nb cb]) 22 (0, 0)) :: Hf ((nb + 15) / 16) y))) := by
  have hlb := hb.len
  refine calls_ofM Try.func38 rfl rfl (L := [(0, .func (.yield l) #[] #[]), (1, .pointer (some ⟨bb, 0, none⟩))]) ⟨rfl, rfl, trivial⟩ (m := 14) (Nat.le_of_ble_eq_true rfl) (M := Mem w0 own (.blk bb (.cells (#[.slice ab nb cb]) 22 (0, 0)) :: (Hf 0 x0))) (hm) ?_
  refine wc_seq ?_
  refine wc_region ?_
  refine wl_eff (e_box (cs := #[.func (.yield l) #[] #[]]) rfl) rfl trivial rfl ?_
  intro b1
  refine wl_nil ?_
  refine aq_seq ?_
  refine wc_seq ?_
  refine wc_region ?_
  refine wl_y (y_load sc22 rfl (c_blk (i := 1) rfl rfl)) ?_
  refine wl_eff (e_call0 cf39 rfl (fun w m => chunk_ok w ab nb cb)) rfl trivial rfl ?_
  intro ⟨bs, bn⟩
  refine wl_nil ?_
  refine aq_seq ?_
  refine wc_block ?_
  refine wc_range0 (α := (X)) (fun _ => .tuple #[]) (fun bd bl rec y => (.blk bs (.cells (#[.slice ab nb cb]) 22 (0, 0)) :: .blk bn (.cells (#[ki (16)]) 3 (0, 0)) :: .blk bl (rec (.ready) (none)) :: .blk bd (.deferred (some [])) :: .blk b1 (.cells (#[.func (.yield l) #[] #[]]) 81 (0, 0)) :: .blk bb (.cells (#[.slice ab nb cb]) 22 (0, 0)) :: Hf ((nb + 15) / 16) y)) (fun bd bl rec y => (.blk bs (.cells (#[.slice ab nb cb]) 22 (0, 0)) :: .blk bn (.cells (#[ki (16)]) 3 (0, 0)) :: .blk bl (rec (.exhausted) (none)) :: .blk bd (.deferred (some [])) :: .blk b1 (.cells (#[.func (.yield l) #[] #[]]) 81 (0, 0)) :: .blk bb (.cells (#[.slice ab nb cb]) 22 (0, 0)) :: Hf ((nb + 15) / 16) y)) 2 rfl cf42 ?_ (fun bd bl rec y => by simp) (fun bd bl rec y => ⟨_, rfl, ⟨_, rfl, rfl⟩⟩) ?_
  · intro bd bl tm fn rec w1 hrec hkept m1
    have m1p := (Mem.pickT (A := [_, _, _, _, _, _]) (B := (Hf 0 x0)) m1 (is := [2, 3, 0, 1, 4, 5]) ⟨_, _, rfl, rfl, ⟨_, _, rfl, rfl, ⟨_, _, rfl, rfl, ⟨_, _, rfl, rfl, ⟨_, _, rfl, rfl, ⟨_, _, rfl, rfl, rfl⟩⟩⟩⟩⟩⟩ (by decide))
    refine chunk1_ok (X := X) w0 w1 own bl bs bn ab nb cb hc hnb (fun (j : Nat) (x : X) => (.blk bl (rec (.ready) (none)) :: .blk bd (.deferred (some [])) :: .blk b1 (.cells (#[.func (.yield l) #[] #[]]) 81 (0, 0)) :: .blk bb (.cells (#[.slice ab nb cb]) 22 (0, 0)) :: Hf j x)) x0 m1p ?_
    intro j x w2 hj m2
    subst hrec
    refine yields_of m2 (i := 2) rfl rfl (hkept.set1 rfl _) ?_
    refine wc_region ?_
    refine wl_y (y_assign rfl) ?_
    refine wl_nil ?_
    refine aq_begin (i := 2) rfl rfl ⟨_, rfl, ⟨_, rfl, rfl⟩⟩ ?_
    refine wc_block ?_
    refine wc_seq ?_
    refine wc_draw2 [0, 1] 2 3 [(3, .e), (4, .e), (5, .b), (6, .q)] [(2, .e), (4, .e), (5, .b), (6, .q)] (by kernel_rfl) (by kernel_rfl) Mem.closed ?_
    refine wp2_q rfl Mem.closed (fun _ h => h) Mem.closed rfl (q_of_yld (y_load sc81 rfl (c_blk (i := 4) rfl rfl))) trivial ?_
    refine wp2_q rfl Mem.closed (fun _ h => h) Mem.closed rfl (q_of_yld (y_move rfl)) trivial ?_
    refine wp2_two rfl rfl rfl rfl (e_call0 cf22 rfl (fun w m => clone_ok w (sub ab (min 16 (nb - 16 * j)) (16 * j)) (min 16 (nb - 16 * j)) (min 16 (nb - 16 * j)) ((lb.drop (16 * j)).take (min 16 (nb - 16 * j))) ((m.rd hb hbo).sub1 (l := (16 * j)) (k := (min 16 (nb - 16 * j))) (m := (min 16 (nb - 16 * j))) (by omega) (by omega)) (by omega))) trivial rfl rfl (e_buildSlice (len := 1) [b8 (1)] sl22 el5 rfl rfl rfl (by simp [Value.cells]) (by decide) [b8 (1)] rfl) trivial Mem.closed (fun _ _ h => (Mem.pickT (A := [_, _, _, _, _, _, _]) (B := (Hf j x)) h (is := [1, 2, 3, 4, 5, 6]) ⟨_, _, rfl, rfl, ⟨_, _, rfl, rfl, ⟨_, _, rfl, rfl, ⟨_, _, rfl, rfl, ⟨_, _, rfl, rfl, ⟨_, _, rfl, rfl, rfl⟩⟩⟩⟩⟩⟩ (by decide))) (fun _ => Mem.closed) (fun _ _ h => (Mem.pickT (A := [_, _, _, _, _, _, _]) (B := (Hf j x)) h (is := [1, 2, 3, 4, 5, 6]) ⟨_, _, rfl, rfl, ⟨_, _, rfl, rfl, ⟨_, _, rfl, rfl, ⟨_, _, rfl, rfl, ⟨_, _, rfl, rfl, ⟨_, _, rfl, rfl, rfl⟩⟩⟩⟩⟩⟩ (by decide))) (fun _ => Mem.closed) ?_ ?_
    · intro r2
      refine wp_e (fun _ => _) rfl rfl rfl (e_buildSlice (len := 1) [b8 (1)] sl22 el5 rfl rfl rfl (by simp [Value.cells]) (by decide) [b8 (1)] rfl) trivial (fun _ => Mem.closed) (fun _ _ h => h) (fun _ _ h => (Mem.pickT (A := [_, _, _, _, _, _, _, _]) (B := (Hf j x)) h (is := [2, 3, 4, 5, 6, 7]) ⟨_, _, rfl, rfl, ⟨_, _, rfl, rfl, ⟨_, _, rfl, rfl, ⟨_, _, rfl, rfl, ⟨_, _, rfl, rfl, ⟨_, _, rfl, rfl, rfl⟩⟩⟩⟩⟩⟩ (by decide))) (fun _ => Mem.closed) ?_
      intro b4
      refine wp_e (fun _ => _) rfl rfl rfl (e_appendm (f := b8) (xs := ((lb.drop (16 * j)).take (min 16 (nb - 16 * j)))) (news := ([1] : List UInt8)) sl22 el5 rfl rfl rfl rfl (i := 1) rfl (fun w m => (m.rd_sl (i := 0) rfl : Rd _ _ 1 1 (([1] : List UInt8).map b8))) (by omega) (by omega) ((min 16 (nb - 16 * j)) + 1) (by first | rfl | omega) (by first | rfl | simp) (fun _ => ⟨_, rfl, rfl⟩)) trivial (fun _ => Mem.closed) (fun _ _ h => h) (fun _ _ h => (Mem.pickT (A := [_, _, _, _, _, _, _, _]) (B := (Hf j x)) h (is := [2, 3, 4, 5, 6, 7]) ⟨_, _, rfl, rfl, ⟨_, _, rfl, rfl, ⟨_, _, rfl, rfl, ⟨_, _, rfl, rfl, ⟨_, _, rfl, rfl, ⟨_, _, rfl, rfl, rfl⟩⟩⟩⟩⟩⟩ (by decide))) (fun _ => Mem.closed) ?_
      intro r5
      refine wp_mem (fun _ h => (Mem.pickT (A := [_, _, _, _, _, _, _, _]) (B := (Hf j x)) h (is := [0, 2, 3, 4, 5, 6, 7, 1]) ⟨_, _, rfl, rfl, ⟨_, _, rfl, rfl, ⟨_, _, rfl, rfl, ⟨_, _, rfl, rfl, ⟨_, _, rfl, rfl, ⟨_, _, rfl, rfl, ⟨_, _, rfl, rfl, ⟨_, _, rfl, rfl, rfl⟩⟩⟩⟩⟩⟩⟩⟩ (by decide))) ?_
      refine wp_b rfl rfl rfl (e_yieldS [_, _, _, _, _, _, _] (_ :: Hf j x) rfl rfl rfl (fun w m => hY j x w _ r5.1 r5.2 hj m)) trivial (fun _ => Mem.closed) ?_
      intro x1
      refine wp_q rfl Mem.closed (fun _ h => h) Mem.closed rfl (q_of_yld (y_not rfl)) trivial ?_
      refine wp_nil ?_
      refine aq_seq ?_
      refine wc_else rfl ?_
      refine wc_skip ?_
      refine aq_blk_normal ?_
      refine aq_round_next (i := 3) rfl ⟨_, rfl, ⟨_, rfl, ⟨_, rfl, rfl⟩⟩⟩ ?_
      intro w3 m3
      refine ⟨x1, rfl, ?_⟩
      exact (Mem.pickT (A := [_, _, _, _, _, _, _]) (B := (Hf (j + 1) x1)) m3 (is := [1, 2, 3, 4, 5, 6]) ⟨_, _, rfl, rfl, ⟨_, _, rfl, rfl, ⟨_, _, rfl, rfl, ⟨_, _, rfl, rfl, ⟨_, _, rfl, rfl, ⟨_, _, rfl, rfl, rfl⟩⟩⟩⟩⟩⟩ (by decide))
    · intro b3
      refine wp_e (fun _ => _) rfl rfl rfl (e_call0 cf22 rfl (fun w m => clone_ok w (sub ab (min 16 (nb - 16 * j)) (16 * j)) (min 16 (nb - 16 * j)) (min 16 (nb - 16 * j)) ((lb.drop (16 * j)).take (min 16 (nb - 16 * j))) ((m.rd hb hbo).sub1 (l := (16 * j)) (k := (min 16 (nb - 16 * j))) (m := (min 16 (nb - 16 * j))) (by omega) (by omega)) (by omega))) trivial (fun _ => Mem.closed) (fun _ _ h => h) (fun _ _ h => (Mem.pickT (A := [_, _, _, _, _, _, _, _]) (B := (Hf j x)) h (is := [2, 3, 4, 5, 6, 7]) ⟨_, _, rfl, rfl, ⟨_, _, rfl, rfl, ⟨_, _, rfl, rfl, ⟨_, _, rfl, rfl, ⟨_, _, rfl, rfl, ⟨_, _, rfl, rfl, rfl⟩⟩⟩⟩⟩⟩ (by decide))) (fun _ => Mem.closed) ?_
      intro r6
      refine wp_e (fun _ => _) rfl rfl rfl (e_appendm (f := b8) (xs := ((lb.drop (16 * j)).take (min 16 (nb - 16 * j)))) (news := ([1] : List UInt8)) sl22 el5 rfl rfl rfl rfl (i := 0) rfl (fun w m => (m.rd_sl (i := 1) rfl : Rd _ _ 1 1 (([1] : List UInt8).map b8))) (by omega) (by omega) ((min 16 (nb - 16 * j)) + 1) (by first | rfl | omega) (by first | rfl | simp) (fun _ => rfl)) trivial (fun _ => Mem.closed) (fun _ _ h => h) (fun _ _ h => (Mem.pickT (A := [_, _, _, _, _, _, _, _]) (B := (Hf j x)) h (is := [2, 3, 4, 5, 6, 7]) ⟨_, _, rfl, rfl, ⟨_, _, rfl, rfl, ⟨_, _, rfl, rfl, ⟨_, _, rfl, rfl, ⟨_, _, rfl, rfl, ⟨_, _, rfl, rfl, rfl⟩⟩⟩⟩⟩⟩ (by decide))) (fun _ => Mem.closed) ?_
      intro r7
      refine wp_mem (fun _ h => (Mem.pickT (A := [_, _, _, _, _, _, _, _]) (B := (Hf j x)) h (is := [1, 2, 3, 4, 5, 6, 7, 0]) ⟨_, _, rfl, rfl, ⟨_, _, rfl, rfl, ⟨_, _, rfl, rfl, ⟨_, _, rfl, rfl, ⟨_, _, rfl, rfl, ⟨_, _, rfl, rfl, ⟨_, _, rfl, rfl, ⟨_, _, rfl, rfl, rfl⟩⟩⟩⟩⟩⟩⟩⟩ (by decide))) ?_
      refine wp_b rfl rfl rfl (e_yieldS [_, _, _, _, _, _, _] (_ :: Hf j x) rfl rfl rfl (fun w m => hY j x w _ r7.1 r7.2 hj m)) trivial (fun _ => Mem.closed) ?_
      intro x1
      refine wp_q rfl Mem.closed (fun _ h => h) Mem.closed rfl (q_of_yld (y_not rfl)) trivial ?_
      refine wp_nil ?_
      refine aq_seq ?_
      refine wc_else rfl ?_
      refine wc_skip ?_
      refine aq_blk_normal ?_
      refine aq_round_next (i := 3) rfl ⟨_, rfl, ⟨_, rfl, ⟨_, rfl, rfl⟩⟩⟩ ?_
      intro w3 m3
      refine ⟨x1, rfl, ?_⟩
      exact (Mem.pickT (A := [_, _, _, _, _, _, _]) (B := (Hf (j + 1) x1)) m3 (is := [1, 2, 3, 4, 5, 6]) ⟨_, _, rfl, rfl, ⟨_, _, rfl, rfl, ⟨_, _, rfl, rfl, ⟨_, _, rfl, rfl, ⟨_, _, rfl, rfl, ⟨_, _, rfl, rfl, rfl⟩⟩⟩⟩⟩⟩ (by decide))
  · intro bd bl rec y
    refine aq_blk_normal ?_
    refine aq_returnM1 (.inr rfl) (i := 3) rfl ⟨_, rfl, ⟨_, rfl, ⟨_, rfl, rfl⟩⟩⟩ rfl (rfl) ?_
    intro w' m
    exact ⟨y, rfl, (Mem.pickT (A := [_, _, _, _, _, _]) (B := (Hf ((nb + 15) / 16) y)) m (is := [5]) ⟨_, _, rfl, rfl, rfl⟩ (by decide))⟩

theorem parts_ok (w : World) (ab : Option Addr) (nb cb : Nat) :
    Calls Try.prog 24 #[.slice ab nb cb] w (Ret (fun y : Nat => .func (.func 38) #[] #[.pointer (some ⟨y, 0, none⟩)]) (fun y => Mem w [] [.blk y (.cells #[.slice ab nb cb] 22 (0, 0))])) := by
  refine calls_of Try.func24 rfl rfl (L := [(0, .slice ab nb cb)]) ⟨rfl, trivial⟩ (m := 4) (Nat.le_of_ble_eq_true rfl) (M := Mem w [] []) (Mem.refl w) ?_
  refine wc_seq ?_
  refine wc_region ?_
  refine wl_eff (e_box (cs := #[.slice ab nb cb]) rfl) rfl trivial rfl ?_
  intro b1
  refine wl_y (y_assign rfl) ?_
  refine wl_nil ?_
  refine aq_seq ?_
  refine wc_seq ?_
  refine wc_region ?_
  refine wl_y (y_makeFunc rfl rfl) ?_
  refine wl_y (y_assign rfl) ?_
  refine wl_nil ?_
  refine aq_seq ?_
  refine wc_ret ?_
  refine aq_return (.inl rfl) rfl (⟨_, _, rfl, rfl, rfl⟩) ?_
  intro w' m
  exact ⟨b1, rfl, m⟩

theorem tag_ok (w : World) (key : List UInt8) (ab : Option Addr) (nb cb : Nat) (lb : List UInt8) (hk : key.length = 32) (hb : Rd w ab nb 1 (lb.map b8)) (hc : nb ≤ cb) (hnb : nb ≤ 4194304) :
    Calls Try.prog 13 #[.agg (arr b8 key), .slice ab nb cb] w (Ret (fun _ : Unit => .tuple #[.agg (arr b8 (tagF key lb nb)), ki 0]) (fun _ => Mem w [] [])) := by
  have hlb := hb.len
  have hrb := ofF_bd (clampTo (key.take 16) 16) 16
  have hkt : (key.take 16).length = 16 := by simp [hk]
  have hcl16 := clampTo_len (key.take 16) 16
  have hac : ∀ j, (accTo (ofF (clampTo (key.take 16) 16) 16) lb nb j).length = 5 := fun j => (acc_bd hrb lb nb j).1
  have hac1 : ∀ j, (carriedF (mulOut (carriedF (addTo (accTo (ofF (clampTo (key.take 16) 16) 16) lb nb j) (ofF (((lb.drop (16 * j)).take (min 16 (nb - 16 * j))) ++ [1]) ((min 16 (nb - 16 * j)) + 1)) 5)) (ofF (clampTo (key.take 16) 16) 16) 5)).length = 5 := fun j => hac (j + 1)
  refine calls_ofM Try.func13 rfl rfl (L := [(0, .agg (arr b8 key)), (1, .slice ab nb cb)]) ⟨rfl, rfl, trivial⟩ (m := 86) (Nat.le_of_ble_eq_true rfl) (M := Mem w [] []) (Mem.refl w) ?_
  refine wc_seq ?_
  refine wc_region ?_
  refine wl_eff (e_box (cs := arr b8 key) rfl) rfl trivial rfl ?_
  intro b1
  refine wl_eff (e_alloc (cs := arr b8 (List.replicate 16 0)) zn40) rfl trivial rfl ?_
  intro b2
  refine wl_y (y_assign rfl) ?_
  refine wl_nil ?_
  refine aq_seq ?_
  refine wc_seq ?_
  refine wc_seq ?_
  refine wc_region ?_
  refine wl_y (y_move rfl) ?_
  refine wl_y (y_len_sl sl22 (m := nb) rfl rfl) ?_
  refine wl_y (y_bin rfl rfl gtr_i64) ?_
  refine wl_nil ?_
  refine aq_seq ?_
  have hd1 : (decide ((nb : Int) > 4194304)) = false := by exact decide_eq_false (by omega)
  refine wc_else' rfl hd1 ?_
  refine wc_skip ?_
  refine aq_seq ?_
  refine wc_seq ?_
  refine wc_region ?_
  refine wl_y (y_slice_ar0 ar33 sz5 rfl 16 ⟨_, _, rfl, by first | rfl | omega⟩ rfl (by omega)) ?_
  refine wl_eff (e_call0 cf22 rfl (fun w m => clone_ok w (some ⟨b1, 0, none⟩) 16 32 (((key : List UInt8).drop 0).take 16) ((m.rd_arrl (f := b8) (xs := key) (i := 1) rfl 0 16 (by first | omega | (simp only [clampTo_len, ofF_len, leastF_len, bytesTo_len, outT_len, List.length_set, List.length_take] <;> omega) | (simp [hac]; done)))) (by omega))) rfl trivial rfl ?_
  intro r3
  refine wl_y (y_assign rfl) ?_
  refine wl_nil ?_
  refine aq_seq ?_
  refine wc_seq ?_
  refine wc_seq ?_
  refine wc_region ?_
  refine wl_y (y_move rfl) ?_
  refine wl_y (y_len_sl sl22 (m := 16) rfl rfl) ?_
  refine wl_y (y_move rfl) ?_
  refine wl_nil ?_
  refine aq_seq ?_
  refine wc_block ?_
  refine wc_loop (γ := Nat) (fun i => [(1, .slice ab nb cb), (2, .pointer (some ⟨b1, 0, none⟩)), (4, .pointer (some ⟨b2, 0, none⟩)), (5, ki (0)), (6, .slice r3.1 16 r3.2), (21, ki (16)), (22, ki ((i : Int)))]) (fun i => Mem w [] [.sl r3.1 16 r3.2 5 1 ((clampTo (key.take 16) i).map b8), .blk b2 (.cells (arr b8 (List.replicate 16 0)) 40 (0, 0)), .blk b1 (.cells (arr b8 key) 33 (0, 0))]) (fun i => (i ≤ 16)) (fun i => 16 - i) (0) ?_ ⟨rfl, rfl, rfl, rfl, rfl, rfl, rfl, trivial⟩ (fun _ h => h) ?_
  · omega
  · rintro i hi
    refine wc_seq ?_
    refine wc_region ?_
    refine wl_y (y_bin rfl rfl lss_i64) ?_
    refine wl_nil ?_
    refine aq_seq ?_
    refine wc_seq ?_
    refine wc_if rfl (fun hc2 => ?_) (fun hc2 => ?_)
    · have hb2 : (i : Int) < 16 := by simpa using hc2
      refine wc_skip ?_
      refine aq_seq ?_
      refine wc_seq ?_
      refine wc_block ?_
      refine wc_seq ?_
      refine wc_region ?_
      refine wl_y (y_move rfl) ?_
      refine wl_y (y_assign rfl) ?_
      refine wl_nil ?_
      refine aq_seq ?_
      refine wc_block ?_
      refine wc_seq ?_
      refine wc_region ?_
      refine wl_y (y_move rfl) ?_
      refine wl_y (y_bin rfl rfl (remn_i64 (a := i) (b := 4) (by omega))) ?_
      refine wl_y (y_bin rfl rfl eql_i64) ?_
      refine wl_y (y_assign rfl) ?_
      refine wl_nil ?_
      refine aq_seq ?_
      refine wc_if rfl (fun hc3 => ?_) (fun hc3 => ?_)
      · have hb3 : ((i % 4 : Nat) : Int) = 3 := by simpa using hc3
        refine wc_region ?_
        refine wl_y (y_move rfl) ?_
        refine wl_y (y_move rfl) ?_
        refine wl_y (y_indexAddr_sl sl22 sz5 rfl rfl (by omega) (by omega) (fun w m => rd_isSome ((m.rd_sl (i := 0) rfl : Rd _ _ 16 1 ((clampTo (key.take 16) i).map b8))) (by omega) (by decide)) i (by omega)) ?_
        refine wl_y (y_load sc5 rfl (c_of (fun w m => (m.rd_sl (i := 0) rfl : Rd _ _ 16 1 ((clampTo (key.take 16) i).map b8))) (map_get (gd 0 (by first | omega | (simp only [clampTo_len, ofF_len, leastF_len, bytesTo_len, outT_len, List.length_set, List.length_take] <;> omega) | (simp [hac]; done)))))) ?_
        refine wl_y (y_bin rfl rfl (and_u8 ((clampTo (key.take 16) i).getD i 0) 15)) ?_
        refine wl_y (y_indexAddr_sl sl22 sz5 rfl rfl (by omega) (by omega) (fun w m => rd_isSome ((m.rd_sl (i := 0) rfl : Rd _ _ 16 1 ((clampTo (key.take 16) i).map b8))) (by omega) (by decide)) i (by omega)) ?_
        refine wl_eff (e_store_slm sz5 (x' := (((clampTo (key.take 16) i).getD i 0) &&& 15)) rfl rfl (i := 0) rfl (by omega) rfl) rfl trivial rfl ?_
        intro _
        refine wl_nil ?_
        refine aq_blk_normal ?_
        refine aq_blk_normal ?_
        refine aq_seq ?_
        refine wc_region ?_
        refine wl_y (y_bin rfl rfl (addn_i64 (a := i) (b := 1) (by omega))) ?_
        refine wl_y (y_move rfl) ?_
        refine wl_nil ?_
        have hfx : ((clampTo (key.take 16) i).set i (((clampTo (key.take 16) i).getD i 0) &&& 15)) = clampTo (key.take 16) (i + 1) := by show _ = clampStep _ i; unfold clampStep; split <;> (try split) <;> first | rfl | (exfalso; omega)
        rw [hfx]
        refine aq_loop (i + 1) ?_ ?_ ⟨rfl, rfl, rfl, rfl, rfl, rfl, rfl, trivial⟩ (fun _ h => h)
        · omega
        · first | omega | (dsimp only; omega)
      · have hb3 : ¬ (((i % 4 : Nat) : Int) = 3) := by simpa using hc3
        refine wc_seq ?_
        refine wc_region ?_
        refine wl_y (y_move rfl) ?_
        refine wl_y (y_bin rfl rfl (remn_i64 (a := i) (b := 4) (by omega))) ?_
        refine wl_y (y_bin rfl rfl eql_i64) ?_
        refine wl_y (y_move rfl) ?_
        refine wl_bool (t := 39) rfl (fun hs32 => ?_) (fun hs32 => ?_)
        · have hb32 : ((i % 4 : Nat) : Int) = 0 := by simpa using hs32
          refine wl_y (y_move rfl) ?_ (hg := ⟨_, rfl, rfl⟩)
          refine wl_y (y_bin rfl rfl gtr_i64) ?_ (hg := ⟨_, rfl, rfl⟩)
          refine wl_y (y_pick (b := true) rfl rfl) ?_
          refine wl_y (y_assign rfl) ?_
          refine wl_nil ?_
          refine aq_seq ?_
          refine wc_if rfl (fun hc4 => ?_) (fun hc4 => ?_)
          · have hb4 : (i : Int) > 0 := by simpa using hc4
            refine wc_region ?_
            refine wl_y (y_move rfl) ?_
            refine wl_y (y_move rfl) ?_
            refine wl_y (y_indexAddr_sl sl22 sz5 rfl rfl (by omega) (by omega) (fun w m => rd_isSome ((m.rd_sl (i := 0) rfl : Rd _ _ 16 1 ((clampTo (key.take 16) i).map b8))) (by omega) (by decide)) i (by omega)) ?_
            refine wl_y (y_load sc5 rfl (c_of (fun w m => (m.rd_sl (i := 0) rfl : Rd _ _ 16 1 ((clampTo (key.take 16) i).map b8))) (map_get (gd 0 (by first | omega | (simp only [clampTo_len, ofF_len, leastF_len, bytesTo_len, outT_len, List.length_set, List.length_take] <;> omega) | (simp [hac]; done)))))) ?_
            refine wl_y (y_bin rfl rfl (and_u8 ((clampTo (key.take 16) i).getD i 0) 252)) ?_
            refine wl_y (y_indexAddr_sl sl22 sz5 rfl rfl (by omega) (by omega) (fun w m => rd_isSome ((m.rd_sl (i := 0) rfl : Rd _ _ 16 1 ((clampTo (key.take 16) i).map b8))) (by omega) (by decide)) i (by omega)) ?_
            refine wl_eff (e_store_slm sz5 (x' := (((clampTo (key.take 16) i).getD i 0) &&& 252)) rfl rfl (i := 0) rfl (by omega) rfl) rfl trivial rfl ?_
            intro _
            refine wl_nil ?_
            refine aq_blk_normal ?_
            refine aq_blk_normal ?_
            refine aq_seq ?_
            refine wc_region ?_
            refine wl_y (y_bin rfl rfl (addn_i64 (a := i) (b := 1) (by omega))) ?_
            refine wl_y (y_move rfl) ?_
            refine wl_nil ?_
            have hfx : ((clampTo (key.take 16) i).set i (((clampTo (key.take 16) i).getD i 0) &&& 252)) = clampTo (key.take 16) (i + 1) := by show _ = clampStep _ i; unfold clampStep; split <;> (try split) <;> first | rfl | (exfalso; omega)
            rw [hfx]
            refine aq_loop (i + 1) ?_ ?_ ⟨rfl, rfl, rfl, rfl, rfl, rfl, rfl, trivial⟩ (fun _ h => h)
            · omega
            · first | omega | (dsimp only; omega)
          · have hb4 : ¬ ((i : Int) > 0) := by simpa using hc4
            refine wc_skip ?_
            refine aq_blk_normal ?_
            refine aq_blk_normal ?_
            refine aq_seq ?_
            refine wc_region ?_
            refine wl_y (y_bin rfl rfl (addn_i64 (a := i) (b := 1) (by omega))) ?_
            refine wl_y (y_move rfl) ?_
            refine wl_nil ?_
            have hfx : (clampTo (key.take 16) i) = clampTo (key.take 16) (i + 1) := by show _ = clampStep _ i; unfold clampStep; split <;> (try split) <;> first | rfl | (exfalso; omega)
            rw [hfx]
            refine aq_loop (i + 1) ?_ ?_ ⟨rfl, rfl, rfl, rfl, rfl, rfl, rfl, trivial⟩ (fun _ h => h)
            · omega
            · first | omega | (dsimp only; omega)
        · have hb32 : ¬ (((i % 4 : Nat) : Int) = 0) := by simpa using hs32
          refine wl_off ⟨_, _, rfl, rfl, .inl rfl⟩ rfl ?_
          refine wl_off ⟨_, _, rfl, rfl, .inl rfl⟩ rfl ?_
          refine wl_y (y_pick (b := false) rfl rfl) ?_
          refine wl_y (y_assign rfl) ?_
          refine wl_nil ?_
          refine aq_seq ?_
          refine wc_else rfl ?_
          refine wc_skip ?_
          refine aq_blk_normal ?_
          refine aq_blk_normal ?_
          refine aq_seq ?_
          refine wc_region ?_
          refine wl_y (y_bin rfl rfl (addn_i64 (a := i) (b := 1) (by omega))) ?_
          refine wl_y (y_move rfl) ?_
          refine wl_nil ?_
          have hfx : (clampTo (key.take 16) i) = clampTo (key.take 16) (i + 1) := by show _ = clampStep _ i; unfold clampStep; split <;> (try split) <;> first | rfl | (exfalso; omega)
          rw [hfx]
          refine aq_loop (i + 1) ?_ ?_ ⟨rfl, rfl, rfl, rfl, rfl, rfl, rfl, trivial⟩ (fun _ h => h)
          · omega
          · first | omega | (dsimp only; omega)
    · have hb2 : ¬ ((i : Int) < 16) := by simpa using hc2
      have hi16 : i = 16 := by omega
      subst hi16
      refine wc_exit ?_
      refine aq_thru_exit ?_
      refine aq_thru_exit ?_
      refine aq_blk_exit ?_
      refine aq_seq ?_
      refine wc_seq ?_
      refine wc_region ?_
      refine wl_y (y_move rfl) ?_
      refine wl_eff (e_call0 cf23 rfl (fun w m => pof_ok w r3.1 16 r3.2 (clampTo (key.take 16) 16) ((m.rd_sl (i := 0) rfl : Rd _ _ 16 1 ((clampTo (key.take 16) 16).map b8))) (by omega) (by first | exact h16_short (by omega) | exact part_lt _ (by simp; omega)))) rfl trivial rfl ?_
      intro _
      refine wl_eff (e_alloc (cs := arr w64 (List.replicate 5 0)) zn60) rfl trivial rfl ?_
      intro b4
      refine wl_eff (e_storeall sz60 rfl rfl (i := 0) rfl (by first | (simp; done) | (simp [hac, hac1]; done) | (simp [*]; done)) (by first | (simp; done) | (simp [hac, hac1]; done) | (simp [*]; done)) (arr_one _) rfl) rfl trivial rfl ?_
      intro _
      refine wl_nil ?_
      refine aq_seq ?_
      refine wc_seq ?_
      refine wc_region ?_
      refine wl_eff (e_alloc (cs := arr w64 (List.replicate 5 0)) zn60) rfl trivial rfl ?_
      intro b5
      refine wl_nil ?_
      refine aq_seq ?_
      refine wc_seq ?_
      refine wc_seq ?_
      refine wc_region ?_
      refine wl_y (y_move rfl) ?_
      refine wl_eff (e_call0 cf24 rfl (fun w m => parts_ok w ab nb cb)) rfl trivial rfl ?_
      intro bb
      refine wl_nil ?_
      refine aq_seq ?_
      refine wc_block ?_
      refine wc_range0 (α := (Unit)) (fun _ => .tuple #[]) (fun bd bl rec y => [.blk bb (.cells (#[.slice ab nb cb]) 22 (0, 0)), .blk bl (rec (.ready) (none)), .blk bd (.deferred (some [])), .blk b5 (.cells (arr w64 (accTo (ofF (clampTo (key.take 16) 16) 16) lb nb ((nb + 15) / 16))) 60 (0, 0)), .blk b4 (.cells (arr w64 (ofF (clampTo (key.take 16) 16) 16)) 60 (0, 0)), .sl r3.1 16 r3.2 5 1 ((clampTo (key.take 16) 16).map b8), .blk b2 (.cells (arr b8 (List.replicate 16 0)) 40 (0, 0)), .blk b1 (.cells (arr b8 key) 33 (0, 0))]) (fun bd bl rec y => [.blk bb (.cells (#[.slice ab nb cb]) 22 (0, 0)), .blk bl (rec (.exhausted) (none)), .blk bd (.deferred (some [])), .blk b5 (.cells (arr w64 (accTo (ofF (clampTo (key.take 16) 16) 16) lb nb ((nb + 15) / 16))) 60 (0, 0)), .blk b4 (.cells (arr w64 (ofF (clampTo (key.take 16) 16) 16)) 60 (0, 0)), .sl r3.1 16 r3.2 5 1 ((clampTo (key.take 16) 16).map b8), .blk b2 (.cells (arr b8 (List.replicate 16 0)) 40 (0, 0)), .blk b1 (.cells (arr b8 key) 33 (0, 0))]) 1 rfl cf38 ?_ (fun bd bl rec y => by simp) (fun bd bl rec y => ⟨_, rfl, rfl⟩) ?_
      · intro bd bl tm fn rec w1 hrec hkept m1
        have m1p := (Mem.pick m1 (is := [2, 0, 1, 3, 4, 5, 6, 7]) ⟨_, _, rfl, rfl, ⟨_, _, rfl, rfl, ⟨_, _, rfl, rfl, ⟨_, _, rfl, rfl, ⟨_, _, rfl, rfl, ⟨_, _, rfl, rfl, ⟨_, _, rfl, rfl, ⟨_, _, rfl, rfl, rfl⟩⟩⟩⟩⟩⟩⟩⟩ (by decide))
        refine parts1_ok (X := Unit) w w1 [] bl bb ab nb cb lb hb (fun _ _ _ => by simp) hc (by omega) (fun (j : Nat) (x : Unit) => [.blk bl (rec (.ready) (none)), .blk bd (.deferred (some [])), .blk b5 (.cells (arr w64 (accTo (ofF (clampTo (key.take 16) 16) 16) lb nb j)) 60 (0, 0)), .blk b4 (.cells (arr w64 (ofF (clampTo (key.take 16) 16) 16)) 60 (0, 0)), .sl r3.1 16 r3.2 5 1 ((clampTo (key.take 16) 16).map b8), .blk b2 (.cells (arr b8 (List.replicate 16 0)) 40 (0, 0)), .blk b1 (.cells (arr b8 key) 33 (0, 0))]) () m1p ?_
        intro j x w2 A ad cp hj m2
        subst hrec
        refine yields_of m2 (i := 1) rfl rfl (hkept.set1 rfl _) ?_
        refine wc_region ?_
        refine wl_y (y_assign rfl) ?_
        refine wl_nil ?_
        refine aq_begin (i := 1) rfl rfl ⟨_, rfl, rfl⟩ ?_
        refine wc_block ?_
        refine wc_drawM [(0, .q), (1, .q), (2, .q), (3, .q), (4, .q), (5, .q), (6, .l)] (by kernel_rfl) (by kernel_rfl) Mem.closed ?_
        refine wp_q rfl Mem.closed (fun _ h => h) Mem.closed rfl (q_of_yld (y_loadall ag60 rfl (i := 3) rfl (by first | (simp; done) | (simp [hac, hac1]; done) | (simp [*]; done)))) trivial ?_
        refine wp_q rfl Mem.closed (fun _ h => h) Mem.closed rfl (q_of_yld (y_move rfl)) trivial ?_
        refine wp_q rfl Mem.closed (fun _ h => h) Mem.closed rfl (q_of_call cf23 rfl (fun w m => quiet_of_mem (pof_ok w ad ((min 16 (nb - 16 * j)) + 1) cp (((lb.drop (16 * j)).take (min 16 (nb - 16 * j))) ++ [1]) ((m.rd_sl (i := 0) rfl : Rd _ _ ((min 16 (nb - 16 * j)) + 1) 1 ((((lb.drop (16 * j)).take (min 16 (nb - 16 * j))) ++ [1]).map b8))) (by omega) (by first | exact h16_short (by omega) | exact part_lt _ (by simp; omega))))) trivial ?_
        refine wp_q rfl Mem.closed (fun _ h => h) Mem.closed rfl (q_of_call cf25 rfl (fun w m => quiet_of_mem (plus_ok w (accTo (ofF (clampTo (key.take 16) 16) 16) lb nb j) (ofF (((lb.drop (16 * j)).take (min 16 (nb - 16 * j))) ++ [1]) ((min 16 (nb - 16 * j)) + 1)) (acc_bd hrb lb nb j) (ofF_bd _ _)))) trivial ?_
        refine wp_q rfl Mem.closed (fun _ h => h) Mem.closed rfl (q_of_yld (y_loadall ag60 rfl (i := 4) rfl (by first | (simp; done) | (simp [hac, hac1]; done) | (simp [*]; done)))) trivial ?_
        refine wp_q rfl Mem.closed (fun _ h => h) Mem.closed rfl (q_of_call cf26 rfl (fun w m => quiet_of_mem (times_ok w (carriedF (addTo (accTo (ofF (clampTo (key.take 16) 16) 16) lb nb j) (ofF (((lb.drop (16 * j)).take (min 16 (nb - 16 * j))) ++ [1]) ((min 16 (nb - 16 * j)) + 1)) 5)) (ofF (clampTo (key.take 16) 16) 16) (carried_small (add_bd (acc_bd hrb lb nb j) (ofF_bd _ _))) (hrb)))) trivial ?_
        refine wp_l rfl rfl rfl (e_storeall sz60 rfl rfl (i := 3) rfl (by first | (simp; done) | (simp [hac, hac1]; done) | (simp [*]; done)) (by first | (simp; done) | (simp [hac, hac1]; done) | (simp [*]; done)) (arr_one _) ⟨_, rfl, ⟨_, rfl, ⟨_, rfl, rfl⟩⟩⟩) trivial ?_
        intro _
        refine aq_blk_normal ?_
        refine aq_round_next (i := 1) rfl ⟨_, rfl, rfl⟩ ?_
        intro w3 m3
        refine ⟨(), rfl, ?_⟩
        exact (Mem.pickT (A := [_, _, _, _, _, _, _, _]) (B := A) m3 (is := [1, 2, 3, 4, 5, 6, 7]) ⟨_, _, rfl, rfl, ⟨_, _, rfl, rfl, ⟨_, _, rfl, rfl, ⟨_, _, rfl, rfl, ⟨_, _, rfl, rfl, ⟨_, _, rfl, rfl, ⟨_, _, rfl, rfl, rfl⟩⟩⟩⟩⟩⟩⟩ (by decide))
      · intro bd bl rec y
        refine aq_blk_normal ?_
        refine aq_seq ?_
        refine wc_seq ?_
        refine wc_region ?_
        refine wl_y (y_assign rfl) ?_
        refine wl_nil ?_
        refine aq_seq ?_
        refine wc_seq ?_
        refine wc_seq ?_
        refine wc_region ?_
        refine wl_y (y_loadall ag60 rfl (i := 3) rfl (by first | (simp; done) | (simp [hac, hac1]; done) | (simp [*]; done))) ?_
        refine wl_eff (e_call0 cf27 rfl (fun w m => least_ok w (accTo (ofF (clampTo (key.take 16) 16) 16) lb nb ((nb + 15) / 16)) (by first | omega | (simp only [clampTo_len, ofF_len, leastF_len, bytesTo_len, outT_len, List.length_set, List.length_take] <;> omega) | (simp [hac]; done)))) rfl trivial rfl ?_
        intro _
        refine wl_eff (e_call0 cf28 rfl (fun w m => pbytes_ok w (leastF (accTo (ofF (clampTo (key.take 16) 16) 16) lb nb ((nb + 15) / 16))) (by first | omega | (simp only [clampTo_len, ofF_len, leastF_len, bytesTo_len, outT_len, List.length_set, List.length_take] <;> omega) | (simp [hac]; done)))) rfl trivial rfl ?_
        intro _
        refine wl_y (y_move rfl) ?_
        refine wl_nil ?_
        refine aq_seq ?_
        refine wc_block ?_
        refine wc_loop (γ := Nat) (fun q => [(2, .pointer (some ⟨b1, 0, none⟩)), (4, .pointer (some ⟨b2, 0, none⟩)), (5, ki (0)), (11, ki ((((moreTo (bytesTo (leastF (accTo (ofF (clampTo (key.take 16) 16) 16) lb nb ((nb + 15) / 16))) 16) key q) : Nat) : Int))), (63, .agg (arr b8 (bytesTo (leastF (accTo (ofF (clampTo (key.take 16) 16) 16) lb nb ((nb + 15) / 16))) 16))), (64, ki ((q : Int)))]) (fun q => Mem w [] [.blk bb (.cells (#[.slice ab nb cb]) 22 (0, 0)), .blk bl (rec (.exhausted) (none)), .blk bd (.deferred (some [])), .blk b5 (.cells (arr w64 (accTo (ofF (clampTo (key.take 16) 16) 16) lb nb ((nb + 15) / 16))) 60 (0, 0)), .blk b4 (.cells (arr w64 (ofF (clampTo (key.take 16) 16) 16)) 60 (0, 0)), .sl r3.1 16 r3.2 5 1 ((clampTo (key.take 16) 16).map b8), .blk b2 (.cells (arr b8 (outT (bytesTo (leastF (accTo (ofF (clampTo (key.take 16) 16) 16) lb nb ((nb + 15) / 16))) 16) key q)) 40 (0, 0)), .blk b1 (.cells (arr b8 key) 33 (0, 0))]) (fun q => (q ≤ 16)) (fun q => 16 - q) (0) ?_ ⟨rfl, rfl, rfl, rfl, rfl, rfl, trivial⟩ (fun _ h => h) ?_
        · omega
        · rintro q hq
          have hmt := moreTo_lt (bytesTo (leastF (accTo (ofF (clampTo (key.take 16) 16) 16) lb nb ((nb + 15) / 16))) 16) key q
          have hu1 := ((bytesTo (leastF (accTo (ofF (clampTo (key.take 16) 16) 16) lb nb ((nb + 15) / 16))) 16).getD q 0).toNat_lt
          have hu2 := (key.getD (16 + q) 0).toNat_lt
          refine wc_seq ?_
          refine wc_region ?_
          refine wl_y (y_bin rfl rfl lss_i64) ?_
          refine wl_nil ?_
          refine aq_seq ?_
          refine wc_seq ?_
          refine wc_if rfl (fun hc4 => ?_) (fun hc4 => ?_)
          · have hb4 : (q : Int) < 16 := by simpa using hc4
            refine wc_skip ?_
            refine aq_seq ?_
            refine wc_seq ?_
            refine wc_block ?_
            refine wc_seq ?_
            refine wc_region ?_
            refine wl_y (y_move rfl) ?_
            refine wl_y (y_index_ar ar40 sz5 sc5 rfl rfl (by omega) (by omega) (arr_get (gd 0 (by first | omega | (simp only [clampTo_len, ofF_len, leastF_len, bytesTo_len, outT_len, List.length_set, List.length_take] <;> omega) | (simp [hac]; done))))) ?_
            refine wl_y (y_assign rfl) ?_
            refine wl_y (y_assign rfl) ?_
            refine wl_nil ?_
            refine aq_seq ?_
            refine wc_seq ?_
            refine wc_region ?_
            refine wl_y (y_move rfl) ?_
            refine wl_y (y_move rfl) ?_
            refine wl_y (y_cv rfl us5 ui3 (congrArg (Value.int .i64) (cv_u8_i64 ((bytesTo (leastF (accTo (ofF (clampTo (key.take 16) 16) 16) lb nb ((nb + 15) / 16))) 16).getD q 0)))) ?_
            refine wl_y (y_move rfl) ?_
            refine wl_y (y_bin rfl rfl (addn_i64 (a := 16) (b := q) (by omega))) ?_
            refine wl_y (y_indexAddr_ar ar33 sz5 rfl rfl (by omega) (by omega) (16 + q) (by omega)) ?_
            refine wl_y (y_load sc5 rfl (c_blk (i := 7) rfl (arr_get (gd 0 (by first | omega | (simp only [clampTo_len, ofF_len, leastF_len, bytesTo_len, outT_len, List.length_set, List.length_take] <;> omega) | (simp [hac]; done)))))) ?_
            refine wl_y (y_cv rfl us5 ui3 (congrArg (Value.int .i64) (cv_u8_i64 (key.getD (16 + q) 0)))) ?_
            refine wl_y (y_bin rfl rfl (addn_i64 (a := ((bytesTo (leastF (accTo (ofF (clampTo (key.take 16) 16) 16) lb nb ((nb + 15) / 16))) 16).getD q 0).toNat) (b := (key.getD (16 + q) 0).toNat) (by omega))) ?_
            refine wl_y (y_bin rfl rfl (addn_i64 (a := (moreTo (bytesTo (leastF (accTo (ofF (clampTo (key.take 16) 16) 16) lb nb ((nb + 15) / 16))) 16) key q)) (b := ((((bytesTo (leastF (accTo (ofF (clampTo (key.take 16) 16) 16) lb nb ((nb + 15) / 16))) 16).getD q 0).toNat) + ((key.getD (16 + q) 0).toNat))) (by omega))) ?_
            refine wl_y (y_assign rfl) ?_
            refine wl_nil ?_
            refine aq_seq ?_
            refine wc_seq ?_
            refine wc_region ?_
            refine wl_y (y_move rfl) ?_
            refine wl_y (y_move rfl) ?_
            refine wl_y (y_cv rfl us3 ui5 (congrArg (Value.int .u8) (cvn_u8 ((moreTo (bytesTo (leastF (accTo (ofF (clampTo (key.take 16) 16) 16) lb nb ((nb + 15) / 16))) 16) key q) + ((((bytesTo (leastF (accTo (ofF (clampTo (key.take 16) 16) 16) lb nb ((nb + 15) / 16))) 16).getD q 0).toNat) + ((key.getD (16 + q) 0).toNat))) (by omega)))) ?_
            refine wl_y (y_indexAddr_ar ar40 sz5 rfl rfl (by omega) (by omega) q (by omega)) ?_
            refine wl_eff (e_store_arr sz5 rfl (x' := UInt8.ofNat ((moreTo (bytesTo (leastF (accTo (ofF (clampTo (key.take 16) 16) 16) lb nb ((nb + 15) / 16))) 16) key q) + ((((bytesTo (leastF (accTo (ofF (clampTo (key.take 16) 16) 16) lb nb ((nb + 15) / 16))) 16).getD q 0).toNat) + ((key.getD (16 + q) 0).toNat)))) rfl (i := 6) rfl (by first | omega | (simp only [clampTo_len, ofF_len, leastF_len, bytesTo_len, outT_len, List.length_set, List.length_take] <;> omega) | (simp [hac]; done)) ⟨_, rfl, ⟨_, rfl, ⟨_, rfl, ⟨_, rfl, ⟨_, rfl, ⟨_, rfl, rfl⟩⟩⟩⟩⟩⟩) rfl trivial rfl ?_
            intro _
            refine wl_nil ?_
            refine aq_seq ?_
            refine wc_region ?_
            refine wl_y (y_move rfl) ?_
            refine wl_y (y_bin rfl rfl (shrn_i64 (a := ((moreTo (bytesTo (leastF (accTo (ofF (clampTo (key.take 16) 16) 16) lb nb ((nb + 15) / 16))) 16) key q) + ((((bytesTo (leastF (accTo (ofF (clampTo (key.take 16) 16) 16) lb nb ((nb + 15) / 16))) 16).getD q 0).toNat) + ((key.getD (16 + q) 0).toNat)))) (k := 8) (by omega))) ?_
            refine wl_y (y_assign rfl) ?_
            refine wl_nil ?_
            refine aq_blk_normal ?_
            refine aq_seq ?_
            refine wc_region ?_
            refine wl_y (y_bin rfl rfl (addn_i64 (a := q) (b := 1) (by omega))) ?_
            refine wl_y (y_move rfl) ?_
            refine wl_nil ?_
            refine aq_loop (q + 1) ?_ ?_ ⟨rfl, rfl, rfl, rfl, rfl, rfl, trivial⟩ (fun _ h => h)
            · omega
            · first | omega | (dsimp only; omega)
          · have hb4 : ¬ ((q : Int) < 16) := by simpa using hc4
            refine wc_exit ?_
            refine aq_thru_exit ?_
            refine aq_thru_exit ?_
            refine aq_blk_exit ?_
            refine aq_seq ?_
            refine wc_seq ?_
            refine wc_region ?_
            refine wl_y (y_loadall ag40 rfl (i := 6) rfl (by first | (simp; done) | (simp [hac, hac1]; done) | (simp [*]; done))) ?_
            refine wl_eff (e_storeall sz40 rfl rfl (i := 6) rfl (by first | (simp; done) | (simp [hac, hac1]; done) | (simp [*]; done)) (by first | (simp; done) | (simp [hac, hac1]; done) | (simp [*]; done)) (arr_one _) ⟨_, rfl, ⟨_, rfl, ⟨_, rfl, ⟨_, rfl, ⟨_, rfl, ⟨_, rfl, rfl⟩⟩⟩⟩⟩⟩) rfl trivial rfl ?_
            intro _
            refine wl_y (y_assign rfl) ?_
            refine wl_nil ?_
            refine aq_seq ?_
            refine wc_ret ?_
            refine aq_returnM1 (.inl rfl) (i := 2) rfl ⟨_, rfl, ⟨_, rfl, rfl⟩⟩ rfl (⟨_, _, _, rfl, fun w m => run_loadVar_all ag40 (m.blk (i := 6) rfl) (by first | (simp; done) | (simp [hac, hac1]; done) | (simp [*]; done)), rfl, ⟨_, _, rfl, rfl, rfl⟩⟩) ?_
            intro w' m
            have hq16 : q = 16 := by omega
            subst hq16
            exact ⟨(), rfl, (Mem.pick m (is := []) rfl (by decide))⟩

end Go.Proofs.Ytnkldldojalklaa
