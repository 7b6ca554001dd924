/- Numbers of each kind. No condition. -/
import Derived.Test.YtnkldldojalklaaEAny
set_option linter.all false
namespace Go.Mc
abbrev b8 (x : UInt8) : Value := .int .u8 (x.toNat : Int)
abbrev w32 (x : UInt32) : Value := .int .u32 (x.toNat : Int)
abbrev w64 (x : UInt64) : Value := .int .u64 (x.toNat : Int)
abbrev ki (e : Int) : Value := .int .i64 e
abbrev kb (b : Bool) : Value := .bool b
abbrev arr {α : Type} (f : α → Value) (l : List α) : Array Value := (l.map f).toArray

theorem wrap_i64 {m : Int} (h1 : -9223372036854775808 ≤ m) (h2 : m ≤ 9223372036854775807) : IntKind.i64.wrap m = m := by
  simp only [IntKind.wrap, IntKind.bits, IntKind.signed, Bool.true_and]
  simp only [Nat.reduceSub, Int.reducePow]
  split
  · rename_i h; simp at h; omega
  · rename_i h; simp at h; omega

/-! u8 -/
theorem wrap_u8 (m : Int) : IntKind.u8.wrap m = m % 256 := by simp [IntKind.wrap, IntKind.bits, IntKind.signed]
theorem wrap_u8_nat (m : Nat) : IntKind.u8.wrap (m : Int) = ((m % 256 : Nat) : Int) := by rw [wrap_u8]; omega
theorem bv_u8 (x : UInt8) : BitVec.ofInt 8 (x.toNat : Int) = x.toBitVec := by simp
theorem lt_u8 (x : UInt8) : x.toNat < 256 := x.toNat_lt
theorem add_u8 (x y : UInt8) : bin .add (b8 x) (b8 y) = some (b8 (x + y)) := by
  simp [bin, wrap_u8, UInt8.toNat_add]
theorem sub_u8 (x y : UInt8) : bin .sub (b8 x) (b8 y) = some (b8 (x - y)) := by
  have := lt_u8 x; have := lt_u8 y
  simp [bin, wrap_u8, UInt8.toNat_sub]; omega
theorem mul_u8 (x y : UInt8) : bin .mul (b8 x) (b8 y) = some (b8 (x * y)) := by
  simp [bin, wrap_u8, UInt8.toNat_mul]
theorem and_u8 (x y : UInt8) : bin .and (b8 x) (b8 y) = some (b8 (x &&& y)) := by
  have e : (BitVec.ofInt IntKind.u8.bits (x.toNat : Int) &&& BitVec.ofInt IntKind.u8.bits (y.toNat : Int)).toNat = (x &&& y).toNat := by
    show (BitVec.ofInt 8 (x.toNat : Int) &&& BitVec.ofInt 8 (y.toNat : Int)).toNat = _
    rw [bv_u8, bv_u8]; rfl
  simp only [bin, if_true, e, wrap_u8_nat, Nat.mod_eq_of_lt (lt_u8 _)]
theorem or_u8 (x y : UInt8) : bin .or (b8 x) (b8 y) = some (b8 (x ||| y)) := by
  have e : (BitVec.ofInt IntKind.u8.bits (x.toNat : Int) ||| BitVec.ofInt IntKind.u8.bits (y.toNat : Int)).toNat = (x ||| y).toNat := by
    show (BitVec.ofInt 8 (x.toNat : Int) ||| BitVec.ofInt 8 (y.toNat : Int)).toNat = _
    rw [bv_u8, bv_u8]; rfl
  simp only [bin, if_true, e, wrap_u8_nat, Nat.mod_eq_of_lt (lt_u8 _)]
theorem xor_u8 (x y : UInt8) : bin .xor (b8 x) (b8 y) = some (b8 (x ^^^ y)) := by
  have e : (BitVec.ofInt IntKind.u8.bits (x.toNat : Int) ^^^ BitVec.ofInt IntKind.u8.bits (y.toNat : Int)).toNat = (x ^^^ y).toNat := by
    show (BitVec.ofInt 8 (x.toNat : Int) ^^^ BitVec.ofInt 8 (y.toNat : Int)).toNat = _
    rw [bv_u8, bv_u8]; rfl
  simp only [bin, if_true, e, wrap_u8_nat, Nat.mod_eq_of_lt (lt_u8 _)]
theorem andNot_u8 (x y : UInt8) : bin .andNot (b8 x) (b8 y) = some (b8 (x &&& ~~~ y)) := by
  have e : (BitVec.ofInt IntKind.u8.bits (x.toNat : Int) &&& ~~~ BitVec.ofInt IntKind.u8.bits (y.toNat : Int)).toNat = (x &&& ~~~ y).toNat := by
    show (BitVec.ofInt 8 (x.toNat : Int) &&& ~~~ BitVec.ofInt 8 (y.toNat : Int)).toNat = _
    rw [bv_u8, bv_u8]; rfl
  simp only [bin, if_true, e, wrap_u8_nat, Nat.mod_eq_of_lt (lt_u8 _)]
theorem quo_u8 (x y : UInt8) (h : y ≠ 0) : bin .quo (b8 x) (b8 y) = some (b8 (x / y)) := by
  have h' : (y.toNat : Int) ≠ 0 := fun e => h (UInt8.toNat_inj.1 (by simpa using e))
  have := lt_u8 x
  simp only [bin, h', ne_eq, not_false_eq_true, and_self, if_true, wrap_u8, UInt8.toNat_div, Option.some.injEq, Value.int.injEq, true_and]
  rw [Int.tdiv_eq_ediv_of_nonneg (by omega)]
  have h2 : (x.toNat : Int) / (y.toNat : Int) = ((x.toNat / y.toNat : Nat) : Int) := by simp
  rw [h2]
  have := Nat.div_le_self x.toNat y.toNat
  generalize x.toNat / y.toNat = q at *
  omega
theorem rem_u8 (x y : UInt8) (h : y ≠ 0) : bin .rem (b8 x) (b8 y) = some (b8 (x % y)) := by
  have h' : (y.toNat : Int) ≠ 0 := fun e => h (UInt8.toNat_inj.1 (by simpa using e))
  simp only [bin, h', ne_eq, not_false_eq_true, and_self, if_true, UInt8.toNat_mod, Option.some.injEq, Value.int.injEq, true_and]
  rw [Int.tmod_eq_emod_of_nonneg (by omega)]; simp
theorem shl_u8 (x : UInt8) {q : IntKind} {e : Int} (m : Nat) (he : e = (m : Int)) (h : m < 8) : bin .shl (b8 x) (.int q e) = some (b8 (x <<< UInt8.ofNat m)) := by
  subst he
  have e1 : (UInt8.ofNat m).toNat % 8 = m := by simp [UInt8.toNat_ofNat']; omega
  simp only [bin, show ¬ ((m : Int) < 0) by omega, if_false, Int.toNat_natCast, IntKind.bits, Nat.min_eq_left (Nat.le_of_lt h), UInt8.toNat_shiftLeft, e1, wrap_u8, Nat.shiftLeft_eq, b8]
  rw [show (x.toNat : Int) * 2 ^ m = ((x.toNat * 2 ^ m : Nat) : Int) by simp]
  congr 2
theorem shl_u8_out (x : UInt8) {q : IntKind} {e : Int} (h : 8 ≤ e) : bin .shl (b8 x) (.int q e) = some (b8 0) := by
  simp only [bin, show ¬ (e < 0) by omega, if_false, IntKind.bits, Nat.min_eq_right (show 8 ≤ e.toNat by omega), wrap_u8]
  congr 2; simp
theorem shr_u8 (x : UInt8) {q : IntKind} {e : Int} (m : Nat) (he : e = (m : Int)) (h : m < 8) : bin .shr (b8 x) (.int q e) = some (b8 (x >>> UInt8.ofNat m)) := by
  subst he
  have e1 : (UInt8.ofNat m).toNat % 8 = m := by simp [UInt8.toNat_ofNat']; omega
  simp only [bin, show ¬ ((m : Int) < 0) by omega, if_false, Int.toNat_natCast, IntKind.bits, Nat.min_eq_left (Nat.le_of_lt h), UInt8.toNat_shiftRight, e1, Nat.shiftRight_eq_div_pow, b8]
  rw [Int.fdiv_eq_ediv_of_nonneg _ (by exact Int.pow_nonneg (by decide))]; simp
theorem shr_u8_out (x : UInt8) {q : IntKind} {e : Int} (h : 8 ≤ e) : bin .shr (b8 x) (.int q e) = some (b8 0) := by
  have := lt_u8 x
  simp only [bin, show ¬ (e < 0) by omega, if_false, IntKind.bits, Nat.min_eq_right (show 8 ≤ e.toNat by omega)]
  congr 2; rw [Int.fdiv_eq_ediv_of_nonneg _ (by decide)]; simp; omega
theorem eql_u8 (x y : UInt8) : bin .eql (b8 x) (b8 y) = some (kb (x == y)) := by
  simp only [bin, if_true, Option.some.injEq, Value.bool.injEq]
  rw [Bool.eq_iff_iff]; simp [← UInt8.toNat_inj]; try omega
theorem neq_u8 (x y : UInt8) : bin .neq (b8 x) (b8 y) = some (kb (x != y)) := by
  simp only [bin, if_true, Option.some.injEq, Value.bool.injEq]
  rw [Bool.eq_iff_iff]; simp [← UInt8.toNat_inj]; try omega
theorem lss_u8 (x y : UInt8) : bin .lss (b8 x) (b8 y) = some (kb (decide (x < y))) := by
  simp only [bin, if_true, Option.some.injEq, Value.bool.injEq]
  rw [Bool.eq_iff_iff]; simp [UInt8.lt_iff_toNat_lt]
theorem leq_u8 (x y : UInt8) : bin .leq (b8 x) (b8 y) = some (kb (decide (x ≤ y))) := by
  simp only [bin, if_true, Option.some.injEq, Value.bool.injEq]
  rw [Bool.eq_iff_iff]; simp [UInt8.le_iff_toNat_le]
theorem gtr_u8 (x y : UInt8) : bin .gtr (b8 x) (b8 y) = some (kb (decide (y < x))) := by
  simp only [bin, if_true, Option.some.injEq, Value.bool.injEq]
  rw [Bool.eq_iff_iff]; simp [UInt8.lt_iff_toNat_lt]
theorem geq_u8 (x y : UInt8) : bin .geq (b8 x) (b8 y) = some (kb (decide (y ≤ x))) := by
  simp only [bin, if_true, Option.some.injEq, Value.bool.injEq]
  rw [Bool.eq_iff_iff]; simp [UInt8.le_iff_toNat_le]
theorem id_u8 (x : UInt8) : IntKind.u8.wrap (x.toNat : Int) = (x.toNat : Int) := by have := lt_u8 x; rw [wrap_u8]; omega
theorem cvn_u8 {e : Int} (m : Nat) (he : e = (m : Int)) : IntKind.u8.wrap e = (((UInt8.ofNat m).toNat : Nat) : Int) := by subst he; rw [wrap_u8]; simp [UInt8.toNat_ofNat']
theorem cv_i64_u8 (e : Int) : IntKind.u8.wrap e = (((UInt8.ofNat (e % 256).toNat).toNat : Nat) : Int) := by
  rw [wrap_u8]; simp [UInt8.toNat_ofNat']; omega

/-! u32 -/
theorem wrap_u32 (m : Int) : IntKind.u32.wrap m = m % 4294967296 := by simp [IntKind.wrap, IntKind.bits, IntKind.signed]
theorem wrap_u32_nat (m : Nat) : IntKind.u32.wrap (m : Int) = ((m % 4294967296 : Nat) : Int) := by rw [wrap_u32]; omega
theorem bv_u32 (x : UInt32) : BitVec.ofInt 32 (x.toNat : Int) = x.toBitVec := by simp
theorem lt_u32 (x : UInt32) : x.toNat < 4294967296 := x.toNat_lt
theorem add_u32 (x y : UInt32) : bin .add (w32 x) (w32 y) = some (w32 (x + y)) := by
  simp [bin, wrap_u32, UInt32.toNat_add]
theorem sub_u32 (x y : UInt32) : bin .sub (w32 x) (w32 y) = some (w32 (x - y)) := by
  have := lt_u32 x; have := lt_u32 y
  simp [bin, wrap_u32, UInt32.toNat_sub]; omega
theorem mul_u32 (x y : UInt32) : bin .mul (w32 x) (w32 y) = some (w32 (x * y)) := by
  simp [bin, wrap_u32, UInt32.toNat_mul]
theorem and_u32 (x y : UInt32) : bin .and (w32 x) (w32 y) = some (w32 (x &&& y)) := by
  have e : (BitVec.ofInt IntKind.u32.bits (x.toNat : Int) &&& BitVec.ofInt IntKind.u32.bits (y.toNat : Int)).toNat = (x &&& y).toNat := by
    show (BitVec.ofInt 32 (x.toNat : Int) &&& BitVec.ofInt 32 (y.toNat : Int)).toNat = _
    rw [bv_u32, bv_u32]; rfl
  simp only [bin, if_true, e, wrap_u32_nat, Nat.mod_eq_of_lt (lt_u32 _)]
theorem or_u32 (x y : UInt32) : bin .or (w32 x) (w32 y) = some (w32 (x ||| y)) := by
  have e : (BitVec.ofInt IntKind.u32.bits (x.toNat : Int) ||| BitVec.ofInt IntKind.u32.bits (y.toNat : Int)).toNat = (x ||| y).toNat := by
    show (BitVec.ofInt 32 (x.toNat : Int) ||| BitVec.ofInt 32 (y.toNat : Int)).toNat = _
    rw [bv_u32, bv_u32]; rfl
  simp only [bin, if_true, e, wrap_u32_nat, Nat.mod_eq_of_lt (lt_u32 _)]
theorem xor_u32 (x y : UInt32) : bin .xor (w32 x) (w32 y) = some (w32 (x ^^^ y)) := by
  have e : (BitVec.ofInt IntKind.u32.bits (x.toNat : Int) ^^^ BitVec.ofInt IntKind.u32.bits (y.toNat : Int)).toNat = (x ^^^ y).toNat := by
    show (BitVec.ofInt 32 (x.toNat : Int) ^^^ BitVec.ofInt 32 (y.toNat : Int)).toNat = _
    rw [bv_u32, bv_u32]; rfl
  simp only [bin, if_true, e, wrap_u32_nat, Nat.mod_eq_of_lt (lt_u32 _)]
theorem andNot_u32 (x y : UInt32) : bin .andNot (w32 x) (w32 y) = some (w32 (x &&& ~~~ y)) := by
  have e : (BitVec.ofInt IntKind.u32.bits (x.toNat : Int) &&& ~~~ BitVec.ofInt IntKind.u32.bits (y.toNat : Int)).toNat = (x &&& ~~~ y).toNat := by
    show (BitVec.ofInt 32 (x.toNat : Int) &&& ~~~ BitVec.ofInt 32 (y.toNat : Int)).toNat = _
    rw [bv_u32, bv_u32]; rfl
  simp only [bin, if_true, e, wrap_u32_nat, Nat.mod_eq_of_lt (lt_u32 _)]
theorem quo_u32 (x y : UInt32) (h : y ≠ 0) : bin .quo (w32 x) (w32 y) = some (w32 (x / y)) := by
  have h' : (y.toNat : Int) ≠ 0 := fun e => h (UInt32.toNat_inj.1 (by simpa using e))
  have := lt_u32 x
  simp only [bin, h', ne_eq, not_false_eq_true, and_self, if_true, wrap_u32, UInt32.toNat_div, Option.some.injEq, Value.int.injEq, true_and]
  rw [Int.tdiv_eq_ediv_of_nonneg (by omega)]
  have h2 : (x.toNat : Int) / (y.toNat : Int) = ((x.toNat / y.toNat : Nat) : Int) := by simp
  rw [h2]
  have := Nat.div_le_self x.toNat y.toNat
  generalize x.toNat / y.toNat = q at *
  omega
theorem rem_u32 (x y : UInt32) (h : y ≠ 0) : bin .rem (w32 x) (w32 y) = some (w32 (x % y)) := by
  have h' : (y.toNat : Int) ≠ 0 := fun e => h (UInt32.toNat_inj.1 (by simpa using e))
  simp only [bin, h', ne_eq, not_false_eq_true, and_self, if_true, UInt32.toNat_mod, Option.some.injEq, Value.int.injEq, true_and]
  rw [Int.tmod_eq_emod_of_nonneg (by omega)]; simp
theorem shl_u32 (x : UInt32) {q : IntKind} {e : Int} (m : Nat) (he : e = (m : Int)) (h : m < 32) : bin .shl (w32 x) (.int q e) = some (w32 (x <<< UInt32.ofNat m)) := by
  subst he
  have e1 : (UInt32.ofNat m).toNat % 32 = m := by simp [UInt32.toNat_ofNat']; omega
  simp only [bin, show ¬ ((m : Int) < 0) by omega, if_false, Int.toNat_natCast, IntKind.bits, Nat.min_eq_left (Nat.le_of_lt h), UInt32.toNat_shiftLeft, e1, wrap_u32, Nat.shiftLeft_eq, w32]
  rw [show (x.toNat : Int) * 2 ^ m = ((x.toNat * 2 ^ m : Nat) : Int) by simp]
  congr 2
theorem shl_u32_out (x : UInt32) {q : IntKind} {e : Int} (h : 32 ≤ e) : bin .shl (w32 x) (.int q e) = some (w32 0) := by
  simp only [bin, show ¬ (e < 0) by omega, if_false, IntKind.bits, Nat.min_eq_right (show 32 ≤ e.toNat by omega), wrap_u32]
  congr 2; simp
theorem shr_u32 (x : UInt32) {q : IntKind} {e : Int} (m : Nat) (he : e = (m : Int)) (h : m < 32) : bin .shr (w32 x) (.int q e) = some (w32 (x >>> UInt32.ofNat m)) := by
  subst he
  have e1 : (UInt32.ofNat m).toNat % 32 = m := by simp [UInt32.toNat_ofNat']; omega
  simp only [bin, show ¬ ((m : Int) < 0) by omega, if_false, Int.toNat_natCast, IntKind.bits, Nat.min_eq_left (Nat.le_of_lt h), UInt32.toNat_shiftRight, e1, Nat.shiftRight_eq_div_pow, w32]
  rw [Int.fdiv_eq_ediv_of_nonneg _ (by exact Int.pow_nonneg (by decide))]; simp
theorem shr_u32_out (x : UInt32) {q : IntKind} {e : Int} (h : 32 ≤ e) : bin .shr (w32 x) (.int q e) = some (w32 0) := by
  have := lt_u32 x
  simp only [bin, show ¬ (e < 0) by omega, if_false, IntKind.bits, Nat.min_eq_right (show 32 ≤ e.toNat by omega)]
  congr 2; rw [Int.fdiv_eq_ediv_of_nonneg _ (by decide)]; simp; omega
theorem eql_u32 (x y : UInt32) : bin .eql (w32 x) (w32 y) = some (kb (x == y)) := by
  simp only [bin, if_true, Option.some.injEq, Value.bool.injEq]
  rw [Bool.eq_iff_iff]; simp [← UInt32.toNat_inj]; try omega
theorem neq_u32 (x y : UInt32) : bin .neq (w32 x) (w32 y) = some (kb (x != y)) := by
  simp only [bin, if_true, Option.some.injEq, Value.bool.injEq]
  rw [Bool.eq_iff_iff]; simp [← UInt32.toNat_inj]; try omega
theorem lss_u32 (x y : UInt32) : bin .lss (w32 x) (w32 y) = some (kb (decide (x < y))) := by
  simp only [bin, if_true, Option.some.injEq, Value.bool.injEq]
  rw [Bool.eq_iff_iff]; simp [UInt32.lt_iff_toNat_lt]
theorem leq_u32 (x y : UInt32) : bin .leq (w32 x) (w32 y) = some (kb (decide (x ≤ y))) := by
  simp only [bin, if_true, Option.some.injEq, Value.bool.injEq]
  rw [Bool.eq_iff_iff]; simp [UInt32.le_iff_toNat_le]
theorem gtr_u32 (x y : UInt32) : bin .gtr (w32 x) (w32 y) = some (kb (decide (y < x))) := by
  simp only [bin, if_true, Option.some.injEq, Value.bool.injEq]
  rw [Bool.eq_iff_iff]; simp [UInt32.lt_iff_toNat_lt]
theorem geq_u32 (x y : UInt32) : bin .geq (w32 x) (w32 y) = some (kb (decide (y ≤ x))) := by
  simp only [bin, if_true, Option.some.injEq, Value.bool.injEq]
  rw [Bool.eq_iff_iff]; simp [UInt32.le_iff_toNat_le]
theorem id_u32 (x : UInt32) : IntKind.u32.wrap (x.toNat : Int) = (x.toNat : Int) := by have := lt_u32 x; rw [wrap_u32]; omega
theorem cvn_u32 {e : Int} (m : Nat) (he : e = (m : Int)) : IntKind.u32.wrap e = (((UInt32.ofNat m).toNat : Nat) : Int) := by subst he; rw [wrap_u32]; simp [UInt32.toNat_ofNat']
theorem cv_i64_u32 (e : Int) : IntKind.u32.wrap e = (((UInt32.ofNat (e % 4294967296).toNat).toNat : Nat) : Int) := by
  rw [wrap_u32]; simp [UInt32.toNat_ofNat']; omega

/-! u64 -/
theorem wrap_u64 (m : Int) : IntKind.u64.wrap m = m % 18446744073709551616 := by simp [IntKind.wrap, IntKind.bits, IntKind.signed]
theorem wrap_u64_nat (m : Nat) : IntKind.u64.wrap (m : Int) = ((m % 18446744073709551616 : Nat) : Int) := by rw [wrap_u64]; omega
theorem bv_u64 (x : UInt64) : BitVec.ofInt 64 (x.toNat : Int) = x.toBitVec := by simp
theorem lt_u64 (x : UInt64) : x.toNat < 18446744073709551616 := x.toNat_lt
theorem add_u64 (x y : UInt64) : bin .add (w64 x) (w64 y) = some (w64 (x + y)) := by
  simp [bin, wrap_u64, UInt64.toNat_add]
theorem sub_u64 (x y : UInt64) : bin .sub (w64 x) (w64 y) = some (w64 (x - y)) := by
  have := lt_u64 x; have := lt_u64 y
  simp [bin, wrap_u64, UInt64.toNat_sub]; omega
theorem mul_u64 (x y : UInt64) : bin .mul (w64 x) (w64 y) = some (w64 (x * y)) := by
  simp [bin, wrap_u64, UInt64.toNat_mul]
theorem and_u64 (x y : UInt64) : bin .and (w64 x) (w64 y) = some (w64 (x &&& y)) := by
  have e : (BitVec.ofInt IntKind.u64.bits (x.toNat : Int) &&& BitVec.ofInt IntKind.u64.bits (y.toNat : Int)).toNat = (x &&& y).toNat := by
    show (BitVec.ofInt 64 (x.toNat : Int) &&& BitVec.ofInt 64 (y.toNat : Int)).toNat = _
    rw [bv_u64, bv_u64]; rfl
  simp only [bin, if_true, e, wrap_u64_nat, Nat.mod_eq_of_lt (lt_u64 _)]
theorem or_u64 (x y : UInt64) : bin .or (w64 x) (w64 y) = some (w64 (x ||| y)) := by
  have e : (BitVec.ofInt IntKind.u64.bits (x.toNat : Int) ||| BitVec.ofInt IntKind.u64.bits (y.toNat : Int)).toNat = (x ||| y).toNat := by
    show (BitVec.ofInt 64 (x.toNat : Int) ||| BitVec.ofInt 64 (y.toNat : Int)).toNat = _
    rw [bv_u64, bv_u64]; rfl
  simp only [bin, if_true, e, wrap_u64_nat, Nat.mod_eq_of_lt (lt_u64 _)]
theorem xor_u64 (x y : UInt64) : bin .xor (w64 x) (w64 y) = some (w64 (x ^^^ y)) := by
  have e : (BitVec.ofInt IntKind.u64.bits (x.toNat : Int) ^^^ BitVec.ofInt IntKind.u64.bits (y.toNat : Int)).toNat = (x ^^^ y).toNat := by
    show (BitVec.ofInt 64 (x.toNat : Int) ^^^ BitVec.ofInt 64 (y.toNat : Int)).toNat = _
    rw [bv_u64, bv_u64]; rfl
  simp only [bin, if_true, e, wrap_u64_nat, Nat.mod_eq_of_lt (lt_u64 _)]
theorem andNot_u64 (x y : UInt64) : bin .andNot (w64 x) (w64 y) = some (w64 (x &&& ~~~ y)) := by
  have e : (BitVec.ofInt IntKind.u64.bits (x.toNat : Int) &&& ~~~ BitVec.ofInt IntKind.u64.bits (y.toNat : Int)).toNat = (x &&& ~~~ y).toNat := by
    show (BitVec.ofInt 64 (x.toNat : Int) &&& ~~~ BitVec.ofInt 64 (y.toNat : Int)).toNat = _
    rw [bv_u64, bv_u64]; rfl
  simp only [bin, if_true, e, wrap_u64_nat, Nat.mod_eq_of_lt (lt_u64 _)]
theorem quo_u64 (x y : UInt64) (h : y ≠ 0) : bin .quo (w64 x) (w64 y) = some (w64 (x / y)) := by
  have h' : (y.toNat : Int) ≠ 0 := fun e => h (UInt64.toNat_inj.1 (by simpa using e))
  have := lt_u64 x
  simp only [bin, h', ne_eq, not_false_eq_true, and_self, if_true, wrap_u64, UInt64.toNat_div, Option.some.injEq, Value.int.injEq, true_and]
  rw [Int.tdiv_eq_ediv_of_nonneg (by omega)]
  have h2 : (x.toNat : Int) / (y.toNat : Int) = ((x.toNat / y.toNat : Nat) : Int) := by simp
  rw [h2]
  have := Nat.div_le_self x.toNat y.toNat
  generalize x.toNat / y.toNat = q at *
  omega
theorem rem_u64 (x y : UInt64) (h : y ≠ 0) : bin .rem (w64 x) (w64 y) = some (w64 (x % y)) := by
  have h' : (y.toNat : Int) ≠ 0 := fun e => h (UInt64.toNat_inj.1 (by simpa using e))
  simp only [bin, h', ne_eq, not_false_eq_true, and_self, if_true, UInt64.toNat_mod, Option.some.injEq, Value.int.injEq, true_and]
  rw [Int.tmod_eq_emod_of_nonneg (by omega)]; simp
theorem shl_u64 (x : UInt64) {q : IntKind} {e : Int} (m : Nat) (he : e = (m : Int)) (h : m < 64) : bin .shl (w64 x) (.int q e) = some (w64 (x <<< UInt64.ofNat m)) := by
  subst he
  have e1 : (UInt64.ofNat m).toNat % 64 = m := by simp [UInt64.toNat_ofNat']; omega
  simp only [bin, show ¬ ((m : Int) < 0) by omega, if_false, Int.toNat_natCast, IntKind.bits, Nat.min_eq_left (Nat.le_of_lt h), UInt64.toNat_shiftLeft, e1, wrap_u64, Nat.shiftLeft_eq, w64]
  rw [show (x.toNat : Int) * 2 ^ m = ((x.toNat * 2 ^ m : Nat) : Int) by simp]
  congr 2
theorem shl_u64_out (x : UInt64) {q : IntKind} {e : Int} (h : 64 ≤ e) : bin .shl (w64 x) (.int q e) = some (w64 0) := by
  simp only [bin, show ¬ (e < 0) by omega, if_false, IntKind.bits, Nat.min_eq_right (show 64 ≤ e.toNat by omega), wrap_u64]
  congr 2; simp
theorem shr_u64 (x : UInt64) {q : IntKind} {e : Int} (m : Nat) (he : e = (m : Int)) (h : m < 64) : bin .shr (w64 x) (.int q e) = some (w64 (x >>> UInt64.ofNat m)) := by
  subst he
  have e1 : (UInt64.ofNat m).toNat % 64 = m := by simp [UInt64.toNat_ofNat']; omega
  simp only [bin, show ¬ ((m : Int) < 0) by omega, if_false, Int.toNat_natCast, IntKind.bits, Nat.min_eq_left (Nat.le_of_lt h), UInt64.toNat_shiftRight, e1, Nat.shiftRight_eq_div_pow, w64]
  rw [Int.fdiv_eq_ediv_of_nonneg _ (by exact Int.pow_nonneg (by decide))]; simp
theorem shr_u64_out (x : UInt64) {q : IntKind} {e : Int} (h : 64 ≤ e) : bin .shr (w64 x) (.int q e) = some (w64 0) := by
  have := lt_u64 x
  simp only [bin, show ¬ (e < 0) by omega, if_false, IntKind.bits, Nat.min_eq_right (show 64 ≤ e.toNat by omega)]
  congr 2; rw [Int.fdiv_eq_ediv_of_nonneg _ (by decide)]; simp; omega
theorem eql_u64 (x y : UInt64) : bin .eql (w64 x) (w64 y) = some (kb (x == y)) := by
  simp only [bin, if_true, Option.some.injEq, Value.bool.injEq]
  rw [Bool.eq_iff_iff]; simp [← UInt64.toNat_inj]; try omega
theorem neq_u64 (x y : UInt64) : bin .neq (w64 x) (w64 y) = some (kb (x != y)) := by
  simp only [bin, if_true, Option.some.injEq, Value.bool.injEq]
  rw [Bool.eq_iff_iff]; simp [← UInt64.toNat_inj]; try omega
theorem lss_u64 (x y : UInt64) : bin .lss (w64 x) (w64 y) = some (kb (decide (x < y))) := by
  simp only [bin, if_true, Option.some.injEq, Value.bool.injEq]
  rw [Bool.eq_iff_iff]; simp [UInt64.lt_iff_toNat_lt]
theorem leq_u64 (x y : UInt64) : bin .leq (w64 x) (w64 y) = some (kb (decide (x ≤ y))) := by
  simp only [bin, if_true, Option.some.injEq, Value.bool.injEq]
  rw [Bool.eq_iff_iff]; simp [UInt64.le_iff_toNat_le]
theorem gtr_u64 (x y : UInt64) : bin .gtr (w64 x) (w64 y) = some (kb (decide (y < x))) := by
  simp only [bin, if_true, Option.some.injEq, Value.bool.injEq]
  rw [Bool.eq_iff_iff]; simp [UInt64.lt_iff_toNat_lt]
theorem geq_u64 (x y : UInt64) : bin .geq (w64 x) (w64 y) = some (kb (decide (y ≤ x))) := by
  simp only [bin, if_true, Option.some.injEq, Value.bool.injEq]
  rw [Bool.eq_iff_iff]; simp [UInt64.le_iff_toNat_le]
theorem id_u64 (x : UInt64) : IntKind.u64.wrap (x.toNat : Int) = (x.toNat : Int) := by have := lt_u64 x; rw [wrap_u64]; omega
theorem cvn_u64 {e : Int} (m : Nat) (he : e = (m : Int)) : IntKind.u64.wrap e = (((UInt64.ofNat m).toNat : Nat) : Int) := by subst he; rw [wrap_u64]; simp [UInt64.toNat_ofNat']
theorem cv_i64_u64 (e : Int) : IntKind.u64.wrap e = (((UInt64.ofNat (e % 18446744073709551616).toNat).toNat : Nat) : Int) := by
  rw [wrap_u64]; simp [UInt64.toNat_ofNat']; omega
theorem cv_u8_u32 (x : UInt8) : IntKind.u32.wrap (x.toNat : Int) = (x.toUInt32.toNat : Int) := by have := lt_u8 x; rw [wrap_u32]; simp; try omega
theorem cv_u8_u64 (x : UInt8) : IntKind.u64.wrap (x.toNat : Int) = (x.toUInt64.toNat : Int) := by have := lt_u8 x; rw [wrap_u64]; simp; try omega
theorem cv_u8_i64 (x : UInt8) : IntKind.i64.wrap (x.toNat : Int) = (x.toNat : Int) := by have := lt_u8 x; exact wrap_i64 (by omega) (by omega)
theorem cv_u32_u8 (x : UInt32) : IntKind.u8.wrap (x.toNat : Int) = (x.toUInt8.toNat : Int) := by have := lt_u32 x; rw [wrap_u8]; simp; try omega
theorem cv_u32_u64 (x : UInt32) : IntKind.u64.wrap (x.toNat : Int) = (x.toUInt64.toNat : Int) := by have := lt_u32 x; rw [wrap_u64]; simp; try omega
theorem cv_u32_i64 (x : UInt32) : IntKind.i64.wrap (x.toNat : Int) = (x.toNat : Int) := by have := lt_u32 x; exact wrap_i64 (by omega) (by omega)
theorem cv_u64_u8 (x : UInt64) : IntKind.u8.wrap (x.toNat : Int) = (x.toUInt8.toNat : Int) := by have := lt_u64 x; rw [wrap_u8]; simp; try omega
theorem cv_u64_u32 (x : UInt64) : IntKind.u32.wrap (x.toNat : Int) = (x.toUInt32.toNat : Int) := by have := lt_u64 x; rw [wrap_u32]; simp; try omega
theorem cv_u64_i64 (x : UInt64) (h : x.toNat ≤ 9223372036854775807) : IntKind.i64.wrap (x.toNat : Int) = (x.toNat : Int) := by have := lt_u64 x; exact wrap_i64 (by omega) (by omega)

/-! int -/
section
variable {a b : Int}
theorem add_i64 (h1 : -9223372036854775808 ≤ a + b) (h2 : a + b ≤ 9223372036854775807) : bin .add (ki a) (ki b) = some (ki (a + b)) := by simp only [bin, if_true, wrap_i64 h1 h2]
theorem sub_i64 (h1 : -9223372036854775808 ≤ a - b) (h2 : a - b ≤ 9223372036854775807) : bin .sub (ki a) (ki b) = some (ki (a - b)) := by simp only [bin, if_true, wrap_i64 h1 h2]
theorem mul_i64 (h1 : -9223372036854775808 ≤ a * b) (h2 : a * b ≤ 9223372036854775807) : bin .mul (ki a) (ki b) = some (ki (a * b)) := by simp only [bin, if_true, wrap_i64 h1 h2]
theorem quo_i64 (h1 : 0 ≤ a) (h2 : a ≤ 9223372036854775807) (h3 : 0 < b) : bin .quo (ki a) (ki b) = some (ki (a / b)) := by
  have h0 : b ≠ 0 := by omega
  have h5 : 0 ≤ a / b := Int.ediv_nonneg h1 (by omega)
  have h6 : a / b ≤ a := Int.ediv_le_self b h1
  simp only [bin, h0, ne_eq, not_false_eq_true, and_self, if_true, Int.tdiv_eq_ediv_of_nonneg h1]
  rw [wrap_i64 (by omega) (by omega)]
theorem rem_i64 (h1 : 0 ≤ a) (h3 : 0 < b) : bin .rem (ki a) (ki b) = some (ki (a % b)) := by
  have h0 : b ≠ 0 := by omega
  simp only [bin, h0, ne_eq, not_false_eq_true, and_self, if_true, Int.tmod_eq_emod_of_nonneg h1]
theorem eql_i64 : bin .eql (ki a) (ki b) = some (kb (a == b)) := by simp only [bin, if_true]
theorem neq_i64 : bin .neq (ki a) (ki b) = some (kb (a != b)) := by simp only [bin, if_true]
theorem lss_i64 : bin .lss (ki a) (ki b) = some (kb (decide (a < b))) := by simp only [bin, if_true]
theorem leq_i64 : bin .leq (ki a) (ki b) = some (kb (decide (a ≤ b))) := by simp only [bin, if_true]
theorem gtr_i64 : bin .gtr (ki a) (ki b) = some (kb (decide (b < a))) := by simp only [bin, if_true, gt_iff_lt]
theorem geq_i64 : bin .geq (ki a) (ki b) = some (kb (decide (b ≤ a))) := by simp only [bin, if_true, ge_iff_le]
end
end Go.Mc
