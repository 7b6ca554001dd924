/- Lemmas and contracts for the proof of this seat's statements (PlaA). No condition. -/
import Derived.Test.YtjibkjoaamchoaaGreatDoorEEngC
import Derived.Test.YtjibkjoaamchoaaGreatDoorEBk
import Derived.KernelRfl
set_option linter.all false
namespace Go.Mc
def sumN (pcs : List Pc) : Nat → Nat
  | 0 => 0
  | i + 1 => sumN pcs i + (pcs.getD i (none, 0, 0, [])).2.1
def flatN (pcs : List Pc) : Nat → List UInt8
  | 0 => []
  | i + 1 => flatN pcs i ++ (pcs.getD i (none, 0, 0, [])).2.2.2
theorem sumN_le (pcs : List Pc) {i n : Nat} (h : i ≤ n) : sumN pcs i ≤ sumN pcs n := by
  induction h with
  | refl => exact Nat.le_refl _
  | step _ ih => exact Nat.le_trans ih (Nat.le_add_right _ _)
theorem pcs_get {w : World} {pcs : List Pc} (h : ∀ p ∈ pcs, Rd w p.1 p.2.1 1 (p.2.2.2.map b8)) (i : Nat) : Rd w (pcs.getD i (none, 0, 0, [])).1 (pcs.getD i (none, 0, 0, [])).2.1 1 ((pcs.getD i (none, 0, 0, [])).2.2.2.map b8) := by
  rw [List.getD_eq_getElem?_getD]
  cases hx : pcs[i]? with
  | none => exact Rd.nil _ _ _
  | some p => exact h p (List.mem_of_getElem? hx)

end Go.Mc

namespace Go.Mc
theorem u64_nat {s : Nat} (h : s < 18446744073709551616) : ((UInt64.ofNat s).toNat : Int) = (s : Int) := by simp [UInt64.toNat_ofNat']; omega
theorem sub32 {s : Nat} (h : s < 32) : (32 : UInt64) - UInt64.ofNat s = UInt64.ofNat (32 - s) := by
  apply UInt64.toNat_inj.1
  simp [UInt64.toNat_sub, UInt64.toNat_ofNat']; omega
theorem Mem.start1 {w : World} {b : Nat} {o : Obj} (h : w.heap[b]? = some o) : Mem w [b] [.blk b o] w :=
  Mem.start (H := [.blk b o]) (by simpa [Ch.sat] using h) (List.pairwise_singleton _ _)
def rotl32 (x : UInt32) (s : Nat) : UInt32 := (x <<< UInt32.ofNat s) ||| (x >>> UInt32.ofNat (32 - s))

end Go.Mc

namespace Go.Mc
def mulHiF (x y : UInt64) : UInt64 :=
  let x0 := x &&& 4294967295
  let x1 := x >>> UInt64.ofNat 32
  let y0 := y &&& 4294967295
  let y1 := y >>> UInt64.ofNat 32
  let w0 := x0 * y0
  let t := x1 * y0 + (w0 >>> UInt64.ofNat 32)
  let w1 := (t &&& 4294967295) + (x0 * y1)
  let w2 := t >>> UInt64.ofNat 32
  ((x1 * y1) + w2) + (w1 >>> UInt64.ofNat 32)
def bitF : Nat → UInt64
  | 0 => 68719476736
  | k + 1 => bitF k >>> UInt64.ofNat 1
theorem bit_pos : ∀ k, k ≤ 37 → bitF k > 0 → k < 37 := by
  intro k hk h
  rcases Nat.lt_or_ge k 37 with h' | h'
  · exact h'
  · have : k = 37 := by omega
    subst this
    exact absurd h (by decide)
theorem bit_not : ∀ k, k ≤ 37 → ¬ bitF k > 0 → k = 37 := by
  have : ∀ k : Fin 37, bitF k.val > 0 := by decide
  intro k hk h
  rcases Nat.lt_or_ge k 37 with h' | h'
  · exact absurd (this ⟨k, h'⟩) h
  · omega
def belowTo (gr : UInt64 → Bool) : Nat → UInt64
  | 0 => 0
  | k + 1 => if gr (belowTo gr k ||| bitF k) then belowTo gr k else belowTo gr k ||| bitF k
def grSq (p x : UInt64) : Bool := decide (mulHiF x x ≥ p)
def grCu (p x : UInt64) : Bool := decide (mulHiF x x * x + mulHiF (x * x) x ≥ p <<< UInt64.ofNat 32)
def squareF (p : UInt64) : UInt32 := (belowTo (grSq p) 37).toUInt32
def cubeF (p : UInt64) : UInt32 := (belowTo (grCu p) 37).toUInt32
def plN : List Nat := [2, 3, 5, 7, 11, 13, 17, 19, 23, 29, 31, 37, 41, 43, 47, 53, 59, 61, 67, 71, 73, 79, 83, 89, 97, 101, 103, 107, 109, 113, 127, 131, 137, 139, 149, 151, 157, 163, 167, 173, 179, 181, 191, 193, 197, 199, 211, 223, 227, 229, 233, 239, 241, 251, 257, 263, 269, 271, 277, 281, 283, 293, 307, 311]
def prN (k : Nat) : List Nat := plN.filter (fun q => Nat.blt q (2 + k))
def prL (k : Nat) : List UInt64 := (prN k).map UInt64.ofNat
def prChk (k : Nat) : Bool := if (prN k).all (fun q => !(Nat.beq ((2 + k) % q) 0)) then prN (k + 1) == prN k ++ [2 + k] else prN (k + 1) == prN k
theorem pr_chk : ((List.range 310).all prChk) = true := by kernel_rfl
theorem prN_lt {k q : Nat} (h : q ∈ prN k) : 2 ≤ q ∧ q < 400 := by
  have h1 := (List.mem_filter.1 h).1
  have h2 : ∀ q ∈ plN, 2 ≤ q ∧ q < 400 := by decide
  exact h2 q h1
theorem pr_len (k : Nat) : (prL k).length = (prN k).length := by simp [prL]
theorem prL_get {k j : Nat} (h : j < (prL k).length) : ∃ q ∈ prN k, (prL k).getD j 0 = UInt64.ofNat q := by
  rw [pr_len] at h
  refine ⟨(prN k)[j], List.getElem_mem h, ?_⟩
  rw [List.getD_eq_getElem?_getD, prL, List.getElem?_map, List.getElem?_eq_getElem h]; rfl
theorem prL_ne {k j : Nat} (h : j < (prL k).length) : (prL k).getD j 0 ≠ 0 := by
  obtain ⟨q, hq, e⟩ := prL_get h
  rw [e]
  intro e2
  have := congrArg UInt64.toNat e2
  have h2 := prN_lt hq
  rw [UInt64.toNat_ofNat', Nat.mod_eq_of_lt (by omega)] at this
  simp at this; omega
theorem pr_rem {k q : Nat} (hk : k < 310) (hq : q ∈ prN k) : (UInt64.ofNat (2 + k) % UInt64.ofNat q = 0) ↔ (2 + k) % q = 0 := by
  have h2 := prN_lt hq
  constructor
  · intro h
    have := congrArg UInt64.toNat h
    rw [UInt64.toNat_mod, UInt64.toNat_ofNat', UInt64.toNat_ofNat', Nat.mod_eq_of_lt (a := 2 + k) (by omega), Nat.mod_eq_of_lt (a := q) (by omega)] at this
    exact this
  · intro h
    apply UInt64.toNat_inj.1
    rw [UInt64.toNat_mod, UInt64.toNat_ofNat', UInt64.toNat_ofNat', Nat.mod_eq_of_lt (a := 2 + k) (by omega), Nat.mod_eq_of_lt (a := q) (by omega)]
    exact h
theorem pr_at {k : Nat} (hk : k < 310) : prChk k = true := List.all_eq_true.1 pr_chk k (List.mem_range.2 hk)
theorem pr_no {k j : Nat} (hk : k < 310) (hj : j < (prL k).length) (h : UInt64.ofNat (2 + k) % (prL k).getD j 0 = 0) : prL k = prL (k + 1) := by
  obtain ⟨q, hq, e⟩ := prL_get hj
  rw [e] at h
  have h2 := (pr_rem hk hq).1 h
  have h3 := pr_at hk
  unfold prChk at h3
  rw [if_neg] at h3
  · rw [prL, prL, eq_of_beq h3]
  · intro h4
    have := List.all_eq_true.1 h4 q hq
    rw [h2] at this; cases this
theorem pr_yes {k : Nat} (hk : k < 310) (h : ∀ j, j < (prL k).length → ¬ (UInt64.ofNat (2 + k) % (prL k).getD j 0 = 0)) : prL k ++ [UInt64.ofNat (2 + k)] = prL (k + 1) := by
  have h3 := pr_at hk
  unfold prChk at h3
  rw [if_pos] at h3
  · have h5 := eq_of_beq h3
    show _ = (prN (k + 1)).map UInt64.ofNat
    rw [h5, List.map_append]; rfl
  · rw [List.all_eq_true]
    intro q hq
    obtain ⟨j, hj, rfl⟩ := List.getElem_of_mem hq
    have hj' : j < (prL k).length := by rw [pr_len]; exact hj
    have h1 := h j hj'
    have e : (prL k).getD j 0 = UInt64.ofNat (prN k)[j] := by rw [List.getD_eq_getElem?_getD, prL, List.getElem?_map, List.getElem?_eq_getElem hj]; rfl
    rw [e, pr_rem hk hq] at h1
    cases hb : Nat.beq ((2 + k) % (prN k)[j]) 0 with
    | false => rfl
    | true => exact absurd (Nat.eq_of_beq_eq_true hb) h1
theorem pr_yes_len {k : Nat} (hk : k < 310) (h : ∀ j, j < (prL k).length → ¬ (UInt64.ofNat (2 + k) % (prL k).getD j 0 = 0)) : (prL k).length + 1 = (prL (k + 1)).length := by
  rw [← pr_yes hk h]; simp
theorem pr_lt400 (k : Nat) : (prL k).length ≤ 64 := by
  rw [pr_len]; unfold prN; exact Nat.le_trans (List.length_filter_le _ _) (by decide)
theorem ofNat2_succ (k : Nat) : UInt64.ofNat (2 + k) + 1 = UInt64.ofNat (2 + (k + 1)) := by
  apply UInt64.toNat_inj.1
  simp [UInt64.toNat_add, UInt64.toNat_ofNat']; omega
def tabTo (f : UInt64 → UInt32) (l : List UInt64) (n : Nat) : Nat → List UInt32
  | 0 => List.replicate n 0
  | i + 1 => (tabTo f l n i).set i (f (l.getD i 0))
@[simp] theorem tabTo_len (f : UInt64 → UInt32) (l : List UInt64) (n k : Nat) : (tabTo f l n k).length = n := by
  induction k with
  | zero => simp [tabTo]
  | succ k ih => simp [tabTo, ih]
theorem tab_get (f : UInt64 → UInt32) (l : List UInt64) (n : Nat) : ∀ (k j : Nat), j < k → k ≤ n → (tabTo f l n k)[j]? = some (f (l.getD j 0)) := by
  intro k
  induction k with
  | zero => intro j h; omega
  | succ k ih =>
    intro j h hk
    simp only [tabTo]
    rcases Nat.lt_or_ge j k with h' | h'
    · rw [List.getElem?_set_ne (by omega)]; exact ih j h' (by omega)
    · have : j = k := by omega
      subst this
      rw [List.getElem?_set_self (by simp; omega)]
theorem tab_eq {f : UInt64 → UInt32} {l : List UInt64} {n : Nat} (hl : l.length = n) : tabTo f l n n = l.map f := by
  apply List.ext_getElem?
  intro j
  rcases Nat.lt_or_ge j n with hj | hj
  · rw [tab_get f l n n j hj (Nat.le_refl _), List.getElem?_map, List.getElem?_eq_getElem (by omega), List.getD_eq_getElem?_getD, List.getElem?_eq_getElem (by omega)]; rfl
  · rw [List.getElem?_eq_none (by simpa using hj), List.getElem?_eq_none (by simp; omega)]
def beginL : List UInt32 := [0x6a09e667, 0xbb67ae85, 0x3c6ef372, 0xa54ff53a, 0x510e527f, 0x9b05688c, 0x1f83d9ab, 0x5be0cd19]
def wordsL : List UInt32 := [
  0x428a2f98, 0x71374491, 0xb5c0fbcf, 0xe9b5dba5, 0x3956c25b, 0x59f111f1, 0x923f82a4, 0xab1c5ed5,
  0xd807aa98, 0x12835b01, 0x243185be, 0x550c7dc3, 0x72be5d74, 0x80deb1fe, 0x9bdc06a7, 0xc19bf174,
  0xe49b69c1, 0xefbe4786, 0x0fc19dc6, 0x240ca1cc, 0x2de92c6f, 0x4a7484aa, 0x5cb0a9dc, 0x76f988da,
  0x983e5152, 0xa831c66d, 0xb00327c8, 0xbf597fc7, 0xc6e00bf3, 0xd5a79147, 0x06ca6351, 0x14292967,
  0x27b70a85, 0x2e1b2138, 0x4d2c6dfc, 0x53380d13, 0x650a7354, 0x766a0abb, 0x81c2c92e, 0x92722c85,
  0xa2bfe8a1, 0xa81a664b, 0xc24b8b70, 0xc76c51a3, 0xd192e819, 0xd6990624, 0xf40e3585, 0x106aa070,
  0x19a4c116, 0x1e376c08, 0x2748774c, 0x34b0bcb5, 0x391c0cb3, 0x4ed8aa4a, 0x5b9cca4f, 0x682e6ff3,
  0x748f82ee, 0x78a5636f, 0x84c87814, 0x8cc70208, 0x90befffa, 0xa4506ceb, 0xbef9a3f7, 0xc67178f2]
theorem sq_2 : squareF 2 = 1779033703 := eq_of_beq (by kernel_rfl)
theorem sq_3 : squareF 3 = 3144134277 := eq_of_beq (by kernel_rfl)
theorem sq_5 : squareF 5 = 1013904242 := eq_of_beq (by kernel_rfl)
theorem sq_7 : squareF 7 = 2773480762 := eq_of_beq (by kernel_rfl)
theorem sq_11 : squareF 11 = 1359893119 := eq_of_beq (by kernel_rfl)
theorem sq_13 : squareF 13 = 2600822924 := eq_of_beq (by kernel_rfl)
theorem sq_17 : squareF 17 = 528734635 := eq_of_beq (by kernel_rfl)
theorem sq_19 : squareF 19 = 1541459225 := eq_of_beq (by kernel_rfl)
theorem cu_2 : cubeF 2 = 1116352408 := eq_of_beq (by kernel_rfl)
theorem cu_3 : cubeF 3 = 1899447441 := eq_of_beq (by kernel_rfl)
theorem cu_5 : cubeF 5 = 3049323471 := eq_of_beq (by kernel_rfl)
theorem cu_7 : cubeF 7 = 3921009573 := eq_of_beq (by kernel_rfl)
theorem cu_11 : cubeF 11 = 961987163 := eq_of_beq (by kernel_rfl)
theorem cu_13 : cubeF 13 = 1508970993 := eq_of_beq (by kernel_rfl)
theorem cu_17 : cubeF 17 = 2453635748 := eq_of_beq (by kernel_rfl)
theorem cu_19 : cubeF 19 = 2870763221 := eq_of_beq (by kernel_rfl)
theorem cu_23 : cubeF 23 = 3624381080 := eq_of_beq (by kernel_rfl)
theorem cu_29 : cubeF 29 = 310598401 := eq_of_beq (by kernel_rfl)
theorem cu_31 : cubeF 31 = 607225278 := eq_of_beq (by kernel_rfl)
theorem cu_37 : cubeF 37 = 1426881987 := eq_of_beq (by kernel_rfl)
theorem cu_41 : cubeF 41 = 1925078388 := eq_of_beq (by kernel_rfl)
theorem cu_43 : cubeF 43 = 2162078206 := eq_of_beq (by kernel_rfl)
theorem cu_47 : cubeF 47 = 2614888103 := eq_of_beq (by kernel_rfl)
theorem cu_53 : cubeF 53 = 3248222580 := eq_of_beq (by kernel_rfl)
theorem cu_59 : cubeF 59 = 3835390401 := eq_of_beq (by kernel_rfl)
theorem cu_61 : cubeF 61 = 4022224774 := eq_of_beq (by kernel_rfl)
theorem cu_67 : cubeF 67 = 264347078 := eq_of_beq (by kernel_rfl)
theorem cu_71 : cubeF 71 = 604807628 := eq_of_beq (by kernel_rfl)
theorem cu_73 : cubeF 73 = 770255983 := eq_of_beq (by kernel_rfl)
theorem cu_79 : cubeF 79 = 1249150122 := eq_of_beq (by kernel_rfl)
theorem cu_83 : cubeF 83 = 1555081692 := eq_of_beq (by kernel_rfl)
theorem cu_89 : cubeF 89 = 1996064986 := eq_of_beq (by kernel_rfl)
theorem cu_97 : cubeF 97 = 2554220882 := eq_of_beq (by kernel_rfl)
theorem cu_101 : cubeF 101 = 2821834349 := eq_of_beq (by kernel_rfl)
theorem cu_103 : cubeF 103 = 2952996808 := eq_of_beq (by kernel_rfl)
theorem cu_107 : cubeF 107 = 3210313671 := eq_of_beq (by kernel_rfl)
theorem cu_109 : cubeF 109 = 3336571891 := eq_of_beq (by kernel_rfl)
theorem cu_113 : cubeF 113 = 3584528711 := eq_of_beq (by kernel_rfl)
theorem cu_127 : cubeF 127 = 113926993 := eq_of_beq (by kernel_rfl)
theorem cu_131 : cubeF 131 = 338241895 := eq_of_beq (by kernel_rfl)
theorem cu_137 : cubeF 137 = 666307205 := eq_of_beq (by kernel_rfl)
theorem cu_139 : cubeF 139 = 773529912 := eq_of_beq (by kernel_rfl)
theorem cu_149 : cubeF 149 = 1294757372 := eq_of_beq (by kernel_rfl)
theorem cu_151 : cubeF 151 = 1396182291 := eq_of_beq (by kernel_rfl)
theorem cu_157 : cubeF 157 = 1695183700 := eq_of_beq (by kernel_rfl)
theorem cu_163 : cubeF 163 = 1986661051 := eq_of_beq (by kernel_rfl)
theorem cu_167 : cubeF 167 = 2177026350 := eq_of_beq (by kernel_rfl)
theorem cu_173 : cubeF 173 = 2456956037 := eq_of_beq (by kernel_rfl)
theorem cu_179 : cubeF 179 = 2730485921 := eq_of_beq (by kernel_rfl)
theorem cu_181 : cubeF 181 = 2820302411 := eq_of_beq (by kernel_rfl)
theorem cu_191 : cubeF 191 = 3259730800 := eq_of_beq (by kernel_rfl)
theorem cu_193 : cubeF 193 = 3345764771 := eq_of_beq (by kernel_rfl)
theorem cu_197 : cubeF 197 = 3516065817 := eq_of_beq (by kernel_rfl)
theorem cu_199 : cubeF 199 = 3600352804 := eq_of_beq (by kernel_rfl)
theorem cu_211 : cubeF 211 = 4094571909 := eq_of_beq (by kernel_rfl)
theorem cu_223 : cubeF 223 = 275423344 := eq_of_beq (by kernel_rfl)
theorem cu_227 : cubeF 227 = 430227734 := eq_of_beq (by kernel_rfl)
theorem cu_229 : cubeF 229 = 506948616 := eq_of_beq (by kernel_rfl)
theorem cu_233 : cubeF 233 = 659060556 := eq_of_beq (by kernel_rfl)
theorem cu_239 : cubeF 239 = 883997877 := eq_of_beq (by kernel_rfl)
theorem cu_241 : cubeF 241 = 958139571 := eq_of_beq (by kernel_rfl)
theorem cu_251 : cubeF 251 = 1322822218 := eq_of_beq (by kernel_rfl)
theorem cu_257 : cubeF 257 = 1537002063 := eq_of_beq (by kernel_rfl)
theorem cu_263 : cubeF 263 = 1747873779 := eq_of_beq (by kernel_rfl)
theorem cu_269 : cubeF 269 = 1955562222 := eq_of_beq (by kernel_rfl)
theorem cu_271 : cubeF 271 = 2024104815 := eq_of_beq (by kernel_rfl)
theorem cu_277 : cubeF 277 = 2227730452 := eq_of_beq (by kernel_rfl)
theorem cu_281 : cubeF 281 = 2361852424 := eq_of_beq (by kernel_rfl)
theorem cu_283 : cubeF 283 = 2428436474 := eq_of_beq (by kernel_rfl)
theorem cu_293 : cubeF 293 = 2756734187 := eq_of_beq (by kernel_rfl)
theorem cu_307 : cubeF 307 = 3204031479 := eq_of_beq (by kernel_rfl)
theorem cu_311 : cubeF 311 = 3329325298 := eq_of_beq (by kernel_rfl)
theorem pr18 : prL 18 = [2, 3, 5, 7, 11, 13, 17, 19] := eq_of_beq (by kernel_rfl)
theorem pr310 : prL 310 = [2, 3, 5, 7, 11, 13, 17, 19, 23, 29, 31, 37, 41, 43, 47, 53, 59, 61, 67, 71, 73, 79, 83, 89, 97, 101, 103, 107, 109, 113, 127, 131, 137, 139, 149, 151, 157, 163, 167, 173, 179, 181, 191, 193, 197, 199, 211, 223, 227, 229, 233, 239, 241, 251, 257, 263, 269, 271, 277, 281, 283, 293, 307, 311] := eq_of_beq (by kernel_rfl)
theorem begin_eq : tabTo squareF (prL 18) 8 8 = beginL := by
  rw [tab_eq (by rw [pr18]; rfl), pr18]
  simp only [List.map_cons, List.map_nil, sq_2, sq_3, sq_5, sq_7, sq_11, sq_13, sq_17, sq_19]
  rfl
theorem words_eq : tabTo cubeF (prL 310) 64 64 = wordsL := by
  rw [tab_eq (by rw [pr310]; rfl), pr310]
  simp only [List.map_cons, List.map_nil, cu_2, cu_3, cu_5, cu_7, cu_11, cu_13, cu_17, cu_19, cu_23, cu_29, cu_31, cu_37, cu_41, cu_43, cu_47, cu_53, cu_59, cu_61, cu_67, cu_71, cu_73, cu_79, cu_83, cu_89, cu_97, cu_101, cu_103, cu_107, cu_109, cu_113, cu_127, cu_131, cu_137, cu_139, cu_149, cu_151, cu_157, cu_163, cu_167, cu_173, cu_179, cu_181, cu_191, cu_193, cu_197, cu_199, cu_211, cu_223, cu_227, cu_229, cu_233, cu_239, cu_241, cu_251, cu_257, cu_263, cu_269, cu_271, cu_277, cu_281, cu_283, cu_293, cu_307, cu_311]
  rfl
theorem hK8 : ∀ k, k ≤ 18 → ((prL k).length < 8 ↔ k < 18) := by
  have : ∀ k : Fin 19, ((prL k.val).length < 8 ↔ k.val < 18) := by decide
  exact fun k h => this ⟨k, by omega⟩
theorem hK64c : ((List.range 311).all fun k => decide ((prN k).length < 64) == decide (k < 310)) = true := by kernel_rfl
theorem hK64 : ∀ k, k ≤ 310 → ((prL k).length < 64 ↔ k < 310) := by
  intro k h
  have h1 := eq_of_beq (List.all_eq_true.1 hK64c k (List.mem_range.2 (by omega)))
  rw [pr_len]
  exact decide_eq_decide.1 h1
/-! the block -/
def threeF (x : UInt32) (i j k : Nat) : UInt32 := ((rotl32 x i ^^^ rotl32 x j) ^^^ rotl32 x k)
def wTo (blk : List UInt8) : Nat → List UInt32
  | 0 => List.replicate 64 0
  | i + 1 => (wTo blk i).set (i / 4) (((wTo blk i).getD (i / 4) 0 <<< UInt32.ofNat 8) ||| (blk.getD i 0).toUInt32)
@[simp] theorem wTo_len (blk : List UInt8) (k : Nat) : (wTo blk k).length = 64 := by
  induction k with
  | zero => simp [wTo]
  | succ k ih => simp [wTo, ih]
def schX (w : List UInt32) (t : Nat) : UInt32 :=
  (((w.getD (t - 7) 0 + w.getD (t - 16) 0) + ((rotl32 (w.getD (t - 2) 0) 15 ^^^ rotl32 (w.getD (t - 2) 0) 13) ^^^ (w.getD (t - 2) 0 >>> UInt32.ofNat 10))) + ((rotl32 (w.getD (t - 15) 0) 25 ^^^ rotl32 (w.getD (t - 15) 0) 14) ^^^ (w.getD (t - 15) 0 >>> UInt32.ofNat 3)))
def schTo (w : List UInt32) : Nat → List UInt32
  | 0 => w
  | q + 1 => (schTo w q).set (16 + q) (schX (schTo w q) (16 + q))
@[simp] theorem schTo_len (w : List UInt32) (k : Nat) : (schTo w k).length = w.length := by
  induction k with
  | zero => simp [schTo]
  | succ k ih => simp [schTo, ih]
def oneF (k w s : List UInt32) (t : Nat) : UInt32 :=
  ((((s.getD 7 0 + threeF (s.getD 4 0) 26 21 7) + (s.getD 6 0 ^^^ (s.getD 4 0 &&& (s.getD 5 0 ^^^ s.getD 6 0)))) + k.getD t 0) + w.getD t 0)
def twoF (s : List UInt32) : UInt32 :=
  (threeF (s.getD 0 0) 30 19 10 + ((s.getD 0 0 &&& s.getD 1 0) ||| (s.getD 2 0 &&& (s.getD 0 0 ||| s.getD 1 0))))
def rndTo (k w s : List UInt32) : Nat → List UInt32
  | 0 => s
  | t + 1 => [oneF k w (rndTo k w s t) t + twoF (rndTo k w s t), (rndTo k w s t).getD 0 0, (rndTo k w s t).getD 1 0, (rndTo k w s t).getD 2 0, (rndTo k w s t).getD 3 0 + oneF k w (rndTo k w s t) t, (rndTo k w s t).getD 4 0, (rndTo k w s t).getD 5 0, (rndTo k w s t).getD 6 0]
theorem rndTo_len {s : List UInt32} (k w : List UInt32) (h : s.length = 8) : ∀ t, (rndTo k w s t).length = 8
  | 0 => h
  | _ + 1 => rfl
theorem list8 {l : List UInt32} (h : l.length = 8) : [w32 (l.getD 0 0), w32 (l.getD 1 0), w32 (l.getD 2 0), w32 (l.getD 3 0), w32 (l.getD 4 0), w32 (l.getD 5 0), w32 (l.getD 6 0), w32 (l.getD 7 0)] = l.map w32 := by
  match l, h with
  | [a, b, c, d, e, f, g, i], _ => rfl
theorem agg8 {l : List UInt32} (h : l.length = 8) : Value.agg #[w32 (l.getD 0 0), w32 (l.getD 1 0), w32 (l.getD 2 0), w32 (l.getD 3 0), w32 (l.getD 4 0), w32 (l.getD 5 0), w32 (l.getD 6 0), w32 (l.getD 7 0)] = Value.agg (arr w32 l) := by
  show Value.agg ([_, _, _, _, _, _, _, _] : List Value).toArray = _
  rw [list8 h]
def addS (s l : List UInt32) : Nat → List UInt32
  | 0 => s
  | i + 1 => (addS s l i).set i ((addS s l i).getD i 0 + l.getD i 0)
@[simp] theorem addS_len (s l : List UInt32) (k : Nat) : (addS s l k).length = s.length := by
  induction k with
  | zero => rfl
  | succ k ih => simp [addS, ih]
def furF (s : List UInt32) (blk : List UInt8) (k : List UInt32) : List UInt32 := addS s (rndTo k (schTo (wTo blk 64) 48) s 64) 8
@[simp] theorem furF_len (s : List UInt32) (blk : List UInt8) (k : List UInt32) : (furF s blk k).length = s.length := by simp [furF]

end Go.Mc

namespace Go.Mc

end Go.Mc

namespace Go.Mc
def lenTo (l : List UInt8) (e : Nat) (v : UInt64) : Nat → List UInt8
  | 0 => l
  | i + 1 => (lenTo l e v i).set (e - i) (v >>> UInt64.ofNat (8 * i)).toUInt8
@[simp] theorem lenTo_len (l : List UInt8) (e : Nat) (v : UInt64) (k : Nat) : (lenTo l e v k).length = l.length := by
  induction k with
  | zero => rfl
  | succ k ih => simp [lenTo, ih]
def endA (lb : List UInt8) (nb j : Nat) : List UInt8 :=
  ((lb.drop (64 * j)).take (min (nb - 64 * j) 64) ++ (List.replicate 128 0).drop (min (nb - 64 * j) 64)).set (min (nb - 64 * j) 64) 128
theorem endA_len {lb : List UInt8} {nb j : Nat} (h : lb.length = nb) : (endA lb nb j).length = 128 := by
  simp [endA]; omega
def endF (lb : List UInt8) (nb : Nat) : List UInt8 :=
  if 56 ≤ nb - 64 * (nb / 64) then (lenTo (endA lb nb (nb / 64)) 127 (UInt64.ofNat nb * 8) 8).take 128 else (lenTo (endA lb nb (nb / 64)) 63 (UInt64.ofNat nb * 8) 8).take 64
def blkF (lb : List UInt8) (nb i : Nat) : List UInt8 :=
  if i < nb / 64 then (lb.drop (64 * i)).take 64 else ((endF lb nb).drop (64 * (i - nb / 64))).take 64
theorem blk_lo {lb : List UInt8} {nb j : Nat} (h : 64 ≤ nb - 64 * j) : (lb.drop (64 * j)).take 64 = blkF lb nb j := by
  unfold blkF; rw [if_pos (by omega)]
theorem blk_hi {lb : List UInt8} {nb q : Nat} : ((endF lb nb).drop (64 * q)).take 64 = blkF lb nb (nb / 64 + q) := by
  unfold blkF; rw [if_neg (by omega), Nat.add_sub_cancel_left]
theorem end_hi {lb : List UInt8} {nb : Nat} (h : 56 ≤ nb - 64 * (nb / 64)) : (lenTo (endA lb nb (nb / 64)) 127 (UInt64.ofNat nb * 8) 8).take 128 = endF lb nb := by unfold endF; rw [if_pos h]
theorem end_lo {lb : List UInt8} {nb : Nat} (h : ¬ 56 ≤ nb - 64 * (nb / 64)) : (lenTo (endA lb nb (nb / 64)) 63 (UInt64.ofNat nb * 8) 8).take 64 = endF lb nb := by unfold endF; rw [if_neg h]
theorem rd_next {w : World} {a : Option Addr} {nb j m : Nat} {lb : List UInt8} (h : Rd w a (nb - 64 * j) 1 ((lb.drop (64 * j)).map b8)) (h1 : 64 ≤ nb - 64 * j) (hm : nb - 64 * j - 64 ≤ m) : Rd w (sub a m 64) (nb - 64 * (j + 1)) 1 ((lb.drop (64 * (j + 1))).map b8) := by
  have h2 := h.sub1 (l := 64) (k := nb - 64 * j - 64) (m := m) (by omega) hm
  have hl := h.len
  rw [List.drop_drop, show 64 * j + 64 = 64 * (j + 1) by omega, List.take_of_length_le (by simp at hl ⊢; omega), show nb - 64 * j - 64 = nb - 64 * (j + 1) by omega] at h2
  exact h2
theorem off_next {own : List Nat} {a : Option Addr} {j m : Nat} {lb : List UInt8} (h : (lb.drop (64 * j)).map b8 ≠ [] → ∀ q, a = some q → q.block ∉ own) : (lb.drop (64 * (j + 1))).map b8 ≠ [] → ∀ q, sub a m 64 = some q → q.block ∉ own := by
  intro h1 q hq
  have h2 : (lb.drop (64 * j)).map b8 ≠ [] := by
    intro e
    have e2 : lb.drop (64 * j) = [] := List.map_eq_nil_iff.1 e
    refine h1 ?_
    rw [show 64 * (j + 1) = 64 * j + 64 by omega, ← List.drop_drop, e2]; rfl
  unfold sub at hq
  split at hq
  · exact h h2 q hq
  · cases a with
    | none => cases hq
    | some p =>
      simp only [Option.map_some, Option.some.injEq] at hq
      rw [← hq, Addr.add_block]
      exact h h2 p rfl
def eAd (b : Nat) : Nat → Option Addr
  | 0 => some ⟨b, 0, none⟩
  | q + 1 => sub (eAd b q) (128 - 64 * (q + 1)) 64
theorem eAd_rd {w0 w : World} {own : List Nat} {b T E q : Nat} {fz : Nat × Nat} {l : List UInt8} (hl : l.length = 128) (hE : E ≤ 128) (hq : 64 * q < E) (m : Mem w0 own [.blk b (.cells (arr b8 l) T fz)] w) : Rd w (eAd b q) (E - 64 * q) 1 (((l.take E).drop (64 * q)).map b8) := by
  have h := m.rd_arrl (f := b8) (xs := l) (i := 0) rfl (64 * q) (E - 64 * q) (by omega)
  have e1 : eAd b q = some ⟨b, 64 * q, none⟩ := by
    have : q = 0 ∨ q = 1 := by omega
    rcases this with rfl | rfl
    · rfl
    · show sub (some ⟨b, 0, none⟩) (128 - 64 * 1) 64 = _
      unfold sub; rw [if_neg (by decide)]; simp
  rw [e1, List.drop_take]
  exact h
@[simp] theorem blkF_len0 (lb : List UInt8) (nb i : Nat) : (blkF lb nb i).length ≤ 64 := by
  unfold blkF; split <;> simp <;> omega
def sumTo (lb : List UInt8) (nb : Nat) : Nat → List UInt32
  | 0 => beginL
  | j + 1 => furF (sumTo lb nb j) (blkF lb nb j) wordsL
@[simp] theorem sumTo_len (lb : List UInt8) (nb j : Nat) : (sumTo lb nb j).length = 8 := by
  induction j with
  | zero => rfl
  | succ j ih => simp [sumTo, ih]
def outS (s : List UInt32) : Nat → List UInt8
  | 0 => List.replicate 32 0
  | i + 1 => (outS s i).set i ((s.getD (i / 4) 0) >>> UInt32.ofNat (24 - i % 4 * 8)).toUInt8
@[simp] theorem outS_len (s : List UInt32) (i : Nat) : (outS s i).length = 32 := by
  induction i with
  | zero => simp [outS]
  | succ i ih => simp [outS, ih]
def shaF (lb : List UInt8) (nb : Nat) : List UInt8 := outS (sumTo lb nb ((nb + 72) / 64)) 32
@[simp] theorem shaF_len (lb : List UInt8) (nb : Nat) : (shaF lb nb).length = 32 := by simp [shaF]
theorem eAd_hi {w0 : World} {own : List Nat} {b T q nb : Nat} {fz : Nat × Nat} {lb : List UInt8} (hl : lb.length = nb) (h : 56 ≤ nb - 64 * (nb / 64)) (hq : 64 * q < 128) (w : World) (m : Mem w0 own [.blk b (.cells (arr b8 (lenTo (endA lb nb (nb / 64)) 127 (UInt64.ofNat nb * 8) 8)) T fz)] w) : Rd w (eAd b q) (128 - 64 * q) 1 (((endF lb nb).drop (64 * q)).map b8) := by
  rw [← end_hi h]; exact eAd_rd (by simp [endA_len hl]) (by omega) hq m
theorem eAd_lo {w0 : World} {own : List Nat} {b T q nb : Nat} {fz : Nat × Nat} {lb : List UInt8} (hl : lb.length = nb) (h : ¬ 56 ≤ nb - 64 * (nb / 64)) (hq : 64 * q < 64) (w : World) (m : Mem w0 own [.blk b (.cells (arr b8 (lenTo (endA lb nb (nb / 64)) 63 (UInt64.ofNat nb * 8) 8)) T fz)] w) : Rd w (eAd b q) (64 - 64 * q) 1 (((endF lb nb).drop (64 * q)).map b8) := by
  rw [← end_lo h]; exact eAd_rd (by simp [endA_len hl]) (by omega) hq m
def sumE (nb : Nat) : Nat := if nb ≤ 1048576 then 0 else 3
def sumO (lb : List UInt8) (nb : Nat) : List UInt8 := if nb ≤ 1048576 then shaF lb nb else List.replicate 32 0
theorem sumE_0 {nb : Nat} (h : nb ≤ 1048576) : sumE nb = 0 := if_pos h
theorem sumE_3 {nb : Nat} (h : 1048576 < nb) : sumE nb = 3 := if_neg (by omega)
theorem sumO_0 {nb : Nat} (lb : List UInt8) (h : nb ≤ 1048576) : sumO lb nb = shaF lb nb := if_pos h
theorem sumO_3 {nb : Nat} (lb : List UInt8) (h : 1048576 < nb) : sumO lb nb = List.replicate 32 0 := if_neg (by omega)
@[simp] theorem sumO_len (lb : List UInt8) (nb : Nat) : (sumO lb nb).length = 32 := by unfold sumO; split <;> simp

end Go.Mc

namespace Go.Mc

end Go.Mc

namespace Go.Mc
theorem turn_eq (x : UInt32) {n : Nat} (h0 : 0 < n) (h1 : n < 32) : ((x >>> UInt32.ofNat n) ||| (x <<< UInt32.ofNat (32 - n))) = rotl32 x (32 - n) := by
  unfold rotl32
  rw [show 32 - (32 - n) = n by omega, UInt32.or_comm]
def wR (blk : List UInt8) : Nat → List UInt32
  | 0 => List.replicate 64 0
  | t + 1 => (wR blk t).set t (((((blk.getD (4 * t) 0).toUInt32 <<< UInt32.ofNat 24) ||| ((blk.getD (4 * t + 1) 0).toUInt32 <<< UInt32.ofNat 16)) ||| ((blk.getD (4 * t + 2) 0).toUInt32 <<< UInt32.ofNat 8)) ||| (blk.getD (4 * t + 3) 0).toUInt32)
@[simp] theorem wR_len (blk : List UInt8) (k : Nat) : (wR blk k).length = 64 := by
  induction k with
  | zero => simp [wR]
  | succ k ih => simp [wR, ih]
def schXR (w : List UInt32) (t : Nat) : UInt32 :=
  (((((rotl32 (w.getD (t - 2) 0) 15 ^^^ rotl32 (w.getD (t - 2) 0) 13) ^^^ (w.getD (t - 2) 0 >>> UInt32.ofNat 10)) + w.getD (t - 7) 0) + ((rotl32 (w.getD (t - 15) 0) 25 ^^^ rotl32 (w.getD (t - 15) 0) 14) ^^^ (w.getD (t - 15) 0 >>> UInt32.ofNat 3))) + w.getD (t - 16) 0)
theorem schXR_eq (w : List UInt32) (t : Nat) : schXR w t = schX w t := by
  unfold schXR schX
  ac_rfl
def schR (w : List UInt32) : Nat → List UInt32
  | 0 => w
  | q + 1 => (schR w q).set (16 + q) (schXR (schR w q) (16 + q))
@[simp] theorem schR_len (w : List UInt32) (k : Nat) : (schR w k).length = w.length := by
  induction k with
  | zero => simp [schR]
  | succ k ih => simp [schR, ih]
theorem schR_eq (w : List UInt32) (k : Nat) : schR w k = schTo w k := by
  induction k with
  | zero => rfl
  | succ k ih => simp only [schR, schTo, ih, schXR_eq]
def oneR (k w s : List UInt32) (t : Nat) : UInt32 :=
  ((((s.getD 7 0 + ((rotl32 (s.getD 4 0) 26 ^^^ rotl32 (s.getD 4 0) 21) ^^^ rotl32 (s.getD 4 0) 7)) + ((s.getD 4 0 &&& s.getD 5 0) ^^^ ((~~~ (s.getD 4 0)) &&& s.getD 6 0))) + k.getD t 0) + w.getD t 0)
def twoR (s : List UInt32) : UInt32 :=
  (((rotl32 (s.getD 0 0) 30 ^^^ rotl32 (s.getD 0 0) 19) ^^^ rotl32 (s.getD 0 0) 10) + (((s.getD 0 0 &&& s.getD 1 0) ^^^ (s.getD 0 0 &&& s.getD 2 0)) ^^^ (s.getD 1 0 &&& s.getD 2 0)))
theorem ch_eq (e f g : UInt32) : ((e &&& f) ^^^ ((~~~ e) &&& g)) = (g ^^^ (e &&& (f ^^^ g))) := by
  apply UInt32.toBitVec_inj.1
  simp only [UInt32.toBitVec_xor, UInt32.toBitVec_and, UInt32.toBitVec_not]
  ext i hi
  simp only [BitVec.getElem_xor, BitVec.getElem_and, BitVec.getElem_not]
  cases e.toBitVec[i] <;> cases f.toBitVec[i] <;> cases g.toBitVec[i] <;> rfl
theorem maj_eq (a b c : UInt32) : (((a &&& b) ^^^ (a &&& c)) ^^^ (b &&& c)) = ((a &&& b) ||| (c &&& (a ||| b))) := by
  apply UInt32.toBitVec_inj.1
  simp only [UInt32.toBitVec_xor, UInt32.toBitVec_and, UInt32.toBitVec_or]
  ext i hi
  simp only [BitVec.getElem_xor, BitVec.getElem_and, BitVec.getElem_or]
  cases a.toBitVec[i] <;> cases b.toBitVec[i] <;> cases c.toBitVec[i] <;> rfl
theorem oneR_eq (k w s : List UInt32) (t : Nat) : oneR k w s t = oneF k w s t := by
  unfold oneR oneF threeF; rw [ch_eq]
theorem twoR_eq (s : List UInt32) : twoR s = twoF s := by
  unfold twoR twoF threeF; rw [maj_eq]
def rndR (k w s : List UInt32) : Nat → List UInt32
  | 0 => s
  | t + 1 => [oneR k w (rndR k w s t) t + twoR (rndR k w s t), (rndR k w s t).getD 0 0, (rndR k w s t).getD 1 0, (rndR k w s t).getD 2 0, (rndR k w s t).getD 3 0 + oneR k w (rndR k w s t) t, (rndR k w s t).getD 4 0, (rndR k w s t).getD 5 0, (rndR k w s t).getD 6 0]
theorem rndR_len {s : List UInt32} (k w : List UInt32) (h : s.length = 8) : ∀ t, (rndR k w s t).length = 8
  | 0 => h
  | _ + 1 => rfl
theorem rndR_eq (k w s : List UInt32) (t : Nat) : rndR k w s t = rndTo k w s t := by
  induction t with
  | zero => rfl
  | succ t ih => simp only [rndR, rndTo, ih, oneR_eq, twoR_eq]
theorem addS_get (a b : List UInt32) (n : Nat) (ha : a.length = n) : ∀ (k j : Nat), k ≤ n → (addS a b k).getD j 0 = if j < k then a.getD j 0 + b.getD j 0 else a.getD j 0 := by
  intro k
  induction k with
  | zero => intro j _; simp [addS]
  | succ k ih =>
    intro j hk
    simp only [addS]
    rw [List.getD_eq_getElem?_getD, List.getElem?_set]
    by_cases h : k = j
    · subst h
      rw [if_pos rfl, if_pos (by simp; omega), if_pos (by omega), ih k (by omega), if_neg (by omega)]; rfl
    · rw [if_neg h, ← List.getD_eq_getElem?_getD, ih j (by omega)]
      by_cases h2 : j < k
      · rw [if_pos h2, if_pos (by omega)]
      · rw [if_neg h2, if_neg (by omega)]
theorem ext_getD {a b : List UInt32} {n : Nat} (ha : a.length = n) (hb : b.length = n) (h : ∀ j, j < n → a.getD j 0 = b.getD j 0) : a = b := by
  apply List.ext_getElem (by omega)
  intro j h1 h2
  have := h j (by omega)
  rw [List.getD_eq_getElem?_getD, List.getD_eq_getElem?_getD, List.getElem?_eq_getElem h1, List.getElem?_eq_getElem h2] at this
  exact this
theorem addS_comm {a b : List UInt32} {n : Nat} (ha : a.length = n) (hb : b.length = n) : addS a b n = addS b a n := by
  refine ext_getD (n := n) (by simp [ha]) (by simp [hb]) fun j hj => ?_
  rw [addS_get a b n ha n j (Nat.le_refl _), addS_get b a n hb n j (Nat.le_refl _), if_pos hj, if_pos hj, UInt32.add_comm]
theorem shl8_8 (a : UInt32) : (a <<< UInt32.ofNat 8) <<< UInt32.ofNat 8 = a <<< UInt32.ofNat 16 := by
  rw [← UInt32.shiftLeft_add_of_toNat_lt (by decide)]; rfl
theorem shl16_8 (a : UInt32) : (a <<< UInt32.ofNat 16) <<< UInt32.ofNat 8 = a <<< UInt32.ofNat 24 := by
  rw [← UInt32.shiftLeft_add_of_toNat_lt (by decide)]; rfl
theorem four_eq (a b c d : UInt8) : ((((((((0 : UInt32) <<< UInt32.ofNat 8) ||| a.toUInt32) <<< UInt32.ofNat 8) ||| b.toUInt32) <<< UInt32.ofNat 8) ||| c.toUInt32) <<< UInt32.ofNat 8) ||| d.toUInt32 = ((((a.toUInt32 <<< UInt32.ofNat 24) ||| (b.toUInt32 <<< UInt32.ofNat 16)) ||| (c.toUInt32 <<< UInt32.ofNat 8)) ||| d.toUInt32) := by
  rw [UInt32.zero_shiftLeft, UInt32.zero_or]
  simp only [UInt32.shiftLeft_or, shl8_8, shl16_8]
/-- the first words, told at once -/
theorem getD_set (l : List UInt32) (i j : Nat) (x : UInt32) (hi : i < l.length) : (l.set i x).getD j 0 = if i = j then x else l.getD j 0 := by
  rw [List.getD_eq_getElem?_getD, List.getElem?_set]
  by_cases h : i = j
  · subst h; rw [if_pos rfl, if_pos hi, if_pos rfl]; rfl
  · rw [if_neg h, if_neg h, ← List.getD_eq_getElem?_getD]
theorem wTo_zero (blk : List UInt8) : ∀ k j, k ≤ 64 → k ≤ 4 * j → j < 64 → (wTo blk k).getD j 0 = 0 := by
  intro k
  induction k with
  | zero => intro j _ _ hj; show (List.replicate 64 (0 : UInt32)).getD j 0 = 0; rw [List.getD_eq_getElem?_getD, List.getElem?_replicate]; split <;> rfl
  | succ k ih =>
    intro j hk h hj
    simp only [wTo]
    rw [getD_set _ _ _ _ (by simp; omega), if_neg (by omega)]
    exact ih j (by omega) (by omega) hj
theorem wTo_keep (blk : List UInt8) : ∀ d k j, k + d ≤ 64 → 4 * j + 4 ≤ k → (wTo blk (k + d)).getD j 0 = (wTo blk k).getD j 0 := by
  intro d
  induction d with
  | zero => intro k j _ _; rfl
  | succ d ih =>
    intro k j hk h
    show (wTo blk (k + d + 1)).getD j 0 = _
    simp only [wTo]
    rw [getD_set _ _ _ _ (by simp; omega), if_neg (by omega)]
    exact ih k j (by omega) h
theorem wTo_at (blk : List UInt8) {t : Nat} (ht : t < 16) : (wTo blk 64).getD t 0 = (((((blk.getD (4 * t) 0).toUInt32 <<< UInt32.ofNat 24) ||| ((blk.getD (4 * t + 1) 0).toUInt32 <<< UInt32.ofNat 16)) ||| ((blk.getD (4 * t + 2) 0).toUInt32 <<< UInt32.ofNat 8)) ||| (blk.getD (4 * t + 3) 0).toUInt32) := by
  have h1 := wTo_keep blk (64 - (4 * t + 4)) (4 * t + 4) t (by omega) (by omega)
  rw [show 4 * t + 4 + (64 - (4 * t + 4)) = 64 by omega] at h1
  rw [h1, ← four_eq]
  have h0 := wTo_zero blk (4 * t) t (by omega) (by omega) (by omega)
  simp only [wTo]
  have e : ∀ k, k < 4 → (4 * t + k) / 4 = t := fun k hk => by omega
  have e0 := e 0 (by decide); have e1 := e 1 (by decide); have e2 := e 2 (by decide); have e3 := e 3 (by decide)
  simp only [Nat.add_zero] at e0
  simp only [e0, e1, e2, e3]
  rw [getD_set _ _ _ _ (by simp; omega), if_pos rfl, getD_set _ _ _ _ (by simp; omega), if_pos rfl, getD_set _ _ _ _ (by simp; omega), if_pos rfl, getD_set _ _ _ _ (by simp; omega), if_pos rfl, h0]
theorem wR_get (blk : List UInt8) : ∀ k j, k ≤ 64 → (wR blk k).getD j 0 = if j < k then (((((blk.getD (4 * j) 0).toUInt32 <<< UInt32.ofNat 24) ||| ((blk.getD (4 * j + 1) 0).toUInt32 <<< UInt32.ofNat 16)) ||| ((blk.getD (4 * j + 2) 0).toUInt32 <<< UInt32.ofNat 8)) ||| (blk.getD (4 * j + 3) 0).toUInt32) else 0 := by
  intro k
  induction k with
  | zero => intro j _; rw [if_neg (by omega)]; show (List.replicate 64 (0 : UInt32)).getD j 0 = 0; rw [List.getD_eq_getElem?_getD, List.getElem?_replicate]; split <;> rfl
  | succ k ih =>
    intro j hk
    simp only [wR]
    rw [getD_set _ _ _ _ (by simp; omega), ih j (by omega)]
    by_cases h : k = j
    · subst h; rw [if_pos rfl, if_pos (by omega)]
    · rw [if_neg h]
      by_cases h2 : j < k
      · rw [if_pos h2, if_pos (by omega)]
      · rw [if_neg h2, if_neg (by omega)]
theorem wR_eq (blk : List UInt8) : wR blk 16 = wTo blk 64 := by
  refine ext_getD (n := 64) (by simp) (by simp) fun j hj => ?_
  rw [wR_get blk 16 j (by omega)]
  split
  · rename_i h; exact (wTo_at blk h).symm
  · rw [wTo_zero blk 64 j (by omega) (by omega) hj]
theorem blockR_eq {s : List UInt32} (blk : List UInt8) (hs : s.length = 8) : addS (rndR wordsL (schR (wR blk 16) 48) s 64) s 8 = furF s blk wordsL := by
  rw [wR_eq, schR_eq, rndR_eq]
  unfold furF
  exact addS_comm (rndTo_len _ _ hs 64) hs
/-! padding -/
def zerosN (nb : Nat) : Nat := (119 - nb % 64) % 64
def beTo (v : UInt64) : Nat → List UInt8
  | 0 => []
  | k + 1 => beTo v k ++ [(v >>> UInt64.ofNat (8 * (7 - k))).toUInt8]
@[simp] theorem beTo_len (v : UInt64) (k : Nat) : (beTo v k).length = k := by
  induction k with
  | zero => rfl
  | succ k ih => simp [beTo, ih]
def padR (lb : List UInt8) (nb : Nat) : List UInt8 := ((([] ++ lb) ++ [128]) ++ List.replicate (zerosN nb) 0) ++ beTo (UInt64.ofNat nb * 8) 8
def padN (nb : Nat) : Nat := (((nb + 1) + zerosN nb) + 8)
theorem padN_eq (nb : Nat) : padN nb = 64 * ((nb + 72) / 64) := by unfold padN zerosN; omega
theorem padR_len {lb : List UInt8} {nb : Nat} (h : lb.length = nb) : (padR lb nb).length = padN nb := by simp [padR, padN, h]; omega
theorem getD8_set (l : List UInt8) (i j : Nat) (x : UInt8) (hi : i < l.length) : (l.set i x).getD j 0 = if i = j then x else l.getD j 0 := by
  rw [List.getD_eq_getElem?_getD, List.getElem?_set]
  by_cases h : i = j
  · subst h; rw [if_pos rfl, if_pos hi, if_pos rfl]; rfl
  · rw [if_neg h, if_neg h, ← List.getD_eq_getElem?_getD]
theorem getD8_app (a b : List UInt8) (j : Nat) : (a ++ b).getD j 0 = if j < a.length then a.getD j 0 else b.getD (j - a.length) 0 := by
  rw [List.getD_eq_getElem?_getD]
  split
  · rename_i h; rw [List.getElem?_append_left h, ← List.getD_eq_getElem?_getD]
  · rename_i h; rw [List.getElem?_append_right (by omega), ← List.getD_eq_getElem?_getD]
theorem getD8_rep (n j : Nat) : (List.replicate n (0 : UInt8)).getD j 0 = 0 := by
  rw [List.getD_eq_getElem?_getD, List.getElem?_replicate]; split <;> rfl
theorem getD8_take (l : List UInt8) (n j : Nat) (h : j < n) : (l.take n).getD j 0 = l.getD j 0 := by
  rw [List.getD_eq_getElem?_getD, List.getElem?_take, if_pos h, ← List.getD_eq_getElem?_getD]
theorem getD8_drop (l : List UInt8) (n j : Nat) : (l.drop n).getD j 0 = l.getD (n + j) 0 := by
  rw [List.getD_eq_getElem?_getD, List.getElem?_drop, ← List.getD_eq_getElem?_getD]
theorem ext8 {a b : List UInt8} {n : Nat} (ha : a.length = n) (hb : b.length = n) (h : ∀ j, j < n → a.getD j 0 = b.getD j 0) : a = b := by
  apply List.ext_getElem (by omega)
  intro j h1 h2
  have := h j (by omega)
  rw [List.getD_eq_getElem?_getD, List.getD_eq_getElem?_getD, List.getElem?_eq_getElem h1, List.getElem?_eq_getElem h2] at this
  exact this
theorem lenTo_get (l : List UInt8) (e : Nat) (v : UInt64) (he : e < l.length) : ∀ k p, k ≤ 8 → 8 ≤ e → (lenTo l e v k).getD p 0 = if e < p + k ∧ p ≤ e then (v >>> UInt64.ofNat (8 * (e - p))).toUInt8 else l.getD p 0 := by
  intro k
  induction k with
  | zero => intro p _ _; rw [if_neg (by omega)]; rfl
  | succ k ih =>
    intro p hk h8
    simp only [lenTo]
    rw [getD8_set _ _ _ _ (by simp; omega), ih p (by omega) h8]
    by_cases h : e - k = p
    · rw [if_pos h, if_pos (by omega), show e - p = k by omega]
    · rw [if_neg h]
      by_cases h2 : e < p + k ∧ p ≤ e
      · rw [if_pos h2, if_pos (by omega)]
      · rw [if_neg h2, if_neg (by omega)]
theorem beTo_get (v : UInt64) : ∀ n k, k < n → (beTo v n).getD k 0 = (v >>> UInt64.ofNat (8 * (7 - k))).toUInt8 := by
  intro n
  induction n with
  | zero => intro k h; omega
  | succ n ih =>
    intro k h
    simp only [beTo]
    rw [getD8_app, beTo_len]
    by_cases h2 : k < n
    · rw [if_pos h2, ih k h2]
    · rw [if_neg h2, show k = n by omega]; simp
theorem endA_get {lb : List UInt8} {nb j : Nat} (hl : lb.length = nb) (hm : nb - 64 * j < 64) (hj : 64 * j ≤ nb) (p : Nat) : (endA lb nb j).getD p 0 = if p = nb - 64 * j then 128 else if p < nb - 64 * j then (lb.drop (64 * j)).getD p 0 else 0 := by
  unfold endA
  rw [show min (nb - 64 * j) 64 = nb - 64 * j by omega, getD8_set _ _ _ _ (by simp; omega)]
  by_cases h : nb - 64 * j = p
  · rw [if_pos h, if_pos h.symm]
  · rw [if_neg h, if_neg (fun e => h e.symm), getD8_app, List.length_take, List.length_drop, hl, Nat.min_self]
    by_cases h2 : p < nb - 64 * j
    · rw [if_pos h2, if_pos h2, getD8_take _ _ _ h2]
    · rw [if_neg h2, if_neg h2, getD8_drop, getD8_rep]
theorem end_list {lb : List UInt8} {nb j E z : Nat} (v : UInt64) (hl : lb.length = nb) (hm : nb - 64 * j < 64) (hj : 64 * j ≤ nb) (hE : E ≤ 128) (hz : nb - 64 * j + 9 + z = E) :
    (lenTo (endA lb nb j) (E - 1) v 8).take E = lb.drop (64 * j) ++ ([128] ++ (List.replicate z 0 ++ beTo v 8)) := by
  have hel := endA_len (j := j) hl
  refine ext8 (n := E) (by simp [hel]; omega) (by simp [hl]; omega) fun p hp => ?_
  rw [getD8_take _ _ _ hp, lenTo_get _ _ _ (by omega) 8 p (Nat.le_refl _) (by omega), endA_get hl hm hj, getD8_app, getD8_app, getD8_app, List.length_drop, hl]
  simp only [List.length_singleton, List.length_replicate]
  by_cases h1 : p < nb - 64 * j
  · rw [if_neg (by omega), if_neg (by omega), if_pos h1, if_pos h1]
  · simp only [if_neg h1]
    by_cases h2 : p = nb - 64 * j
    · rw [if_neg (by omega), if_pos h2, if_pos (by omega), show p - (nb - 64 * j) = 0 by omega]; rfl
    · simp only [if_neg h2, if_neg (show ¬ p - (nb - 64 * j) < 1 by omega)]
      by_cases h3 : p - (nb - 64 * j) - 1 < z
      · rw [if_neg (by omega), if_pos h3, getD8_rep]
      · rw [if_pos (by omega), if_neg h3, beTo_get _ _ _ (by omega)]
        congr 3
        omega
theorem endF_eq {lb : List UInt8} {nb : Nat} (hl : lb.length = nb) : endF lb nb = lb.drop (64 * (nb / 64)) ++ ([128] ++ (List.replicate (zerosN nb) 0 ++ beTo (UInt64.ofNat nb * 8) 8)) := by
  unfold endF
  split
  · rename_i h; exact end_list (E := 128) _ hl (by omega) (by omega) (by omega) (by unfold zerosN; omega)
  · rename_i h; exact end_list (E := 64) _ hl (by omega) (by omega) (by omega) (by unfold zerosN; omega)
theorem pad_eq (lb : List UInt8) (nb : Nat) : padR lb nb = lb ++ ([128] ++ (List.replicate (zerosN nb) 0 ++ beTo (UInt64.ofNat nb * 8) 8)) := by
  unfold padR; simp only [List.nil_append, List.append_assoc]
theorem pad_blk {lb : List UInt8} {nb i : Nat} (hl : lb.length = nb) : ((padR lb nb).drop (64 * i)).take 64 = blkF lb nb i := by
  unfold blkF
  split
  · rename_i h
    rw [pad_eq, List.drop_append_of_le_length (by omega), List.take_append_of_le_length (by simp; omega)]
  · rename_i h
    rw [endF_eq hl, pad_eq, ← List.drop_append_of_le_length (by omega), List.drop_drop]
    congr 2
    omega
def subTo (l : List UInt8) (o : Nat) : Nat → List UInt8
  | 0 => List.replicate 64 0
  | i + 1 => (subTo l o i).set i (l.getD (o + i) 0)
@[simp] theorem subTo_len (l : List UInt8) (o k : Nat) : (subTo l o k).length = 64 := by
  induction k with
  | zero => simp [subTo]
  | succ k ih => simp [subTo, ih]
theorem subTo_get (l : List UInt8) (o : Nat) : ∀ k p, k ≤ 64 → p < k → (subTo l o k).getD p 0 = l.getD (o + p) 0 := by
  intro k
  induction k with
  | zero => intro p _ h; omega
  | succ k ih =>
    intro p hk h
    simp only [subTo]
    rw [getD8_set _ _ _ _ (by simp; omega)]
    by_cases h2 : k = p
    · rw [if_pos h2, h2]
    · rw [if_neg h2]; exact ih p (by omega) (by omega)
theorem sub_eq {l : List UInt8} {o : Nat} (h : o + 64 ≤ l.length) : subTo l o 64 = (l.drop o).take 64 := by
  refine ext8 (n := 64) (by simp) (by simp; omega) fun p hp => ?_
  rw [subTo_get l o 64 p (Nat.le_refl _) hp, getD8_take _ _ _ hp, getD8_drop]
theorem subR_eq {lb : List UInt8} {nb i : Nat} (hl : lb.length = nb) (h : 64 * i < padN nb) : subTo (padR lb nb) (64 * i) 64 = blkF lb nb i := by
  rw [sub_eq (by rw [padR_len hl]; rw [padN_eq] at h ⊢; omega), pad_blk hl]
theorem zapp2 (l : List UInt8) (j : Nat) : l ++ List.replicate j 0 ++ [0] = l ++ List.replicate (j + 1) 0 := by
  rw [List.append_assoc, List.replicate_succ']
theorem beApp (p : List UInt8) (v : UInt64) (k : Nat) : (p ++ beTo v k) ++ ([(v >>> UInt64.ofNat (8 * (7 - k))).toUInt8] : List UInt8) = p ++ beTo v (k + 1) := by
  simp only [beTo]; rw [List.append_assoc]

end Go.Mc

namespace Go.Mc
theorem sum_cons (p : Pc) (pcs : List Pc) : ∀ n, sumN ([p] ++ pcs) (1 + n) = p.2.1 + sumN pcs n := by
  intro n
  induction n with
  | zero => simp [sumN]
  | succ n ih =>
    rw [show 1 + (n + 1) = (1 + n) + 1 by omega]
    simp only [sumN]
    rw [ih, show 1 + n = n + 1 by omega]
    simp [Nat.add_assoc]
theorem flat_cons (p : Pc) (pcs : List Pc) : ∀ n, flatN ([p] ++ pcs) (1 + n) = p.2.2.2 ++ flatN pcs n := by
  intro n
  induction n with
  | zero => simp [flatN]
  | succ n ih =>
    rw [show 1 + (n + 1) = (1 + n) + 1 by omega]
    simp only [flatN]
    rw [ih, show 1 + n = n + 1 by omega]
    simp
def xorK (l : List UInt8) (x : UInt8) : Nat → List UInt8
  | 0 => l
  | i + 1 => (xorK l x i).set i ((xorK l x i).getD i 0 ^^^ x)
@[simp] theorem xorK_len (l : List UInt8) (x : UInt8) (k : Nat) : (xorK l x k).length = l.length := by
  induction k with
  | zero => rfl
  | succ k ih => simp [xorK, ih]
theorem xorK_get (l : List UInt8) (x : UInt8) : ∀ k j, k ≤ l.length → (xorK l x k).getD j 0 = if j < k then l.getD j 0 ^^^ x else l.getD j 0 := by
  intro k
  induction k with
  | zero => intro j _; rw [if_neg (by omega)]; rfl
  | succ k ih =>
    intro j hk
    simp only [xorK]
    rw [getD8_set _ _ _ _ (by simp; omega), ih j (by omega), ih k (by omega)]
    by_cases h : k = j
    · subst h; rw [if_pos rfl, if_neg (by omega), if_pos (by omega)]
    · rw [if_neg h]
      by_cases h2 : j < k
      · rw [if_pos h2, if_pos (by omega)]
      · rw [if_neg h2, if_neg (by omega)]
def keyF (lb : List UInt8) (nb : Nat) : List UInt8 :=
  if 64 < nb then (shaF lb nb).take (min 32 64) ++ (List.replicate 64 0).drop (min 32 64) else lb.take (min nb 64) ++ (List.replicate 64 0).drop (min nb 64)
theorem keyF_len {lb : List UInt8} {nb : Nat} (h : lb.length = nb) : (keyF lb nb).length = 64 := by
  unfold keyF; split
  · simp
  · simp [h]; omega
def ipF (k : List UInt8) : List UInt8 := xorK k 54 64
def opF (k : List UInt8) : List UInt8 := xorK k 92 64
theorem ip_eq (k : List UInt8) : xorK k 54 64 = ipF k := rfl
theorem op_eq (k : List UInt8) : xorK k 92 64 = opF k := rfl
theorem ip_len (k : List UInt8) : (ipF k).length = k.length := xorK_len _ _ _
theorem op_len (k : List UInt8) : (opF k).length = k.length := xorK_len _ _ _
def macF (k msg : List UInt8) (n : Nat) : List UInt8 := shaF (([] ++ opF k) ++ shaF (ipF k ++ msg) (64 + n)) ((0 + 64) + 32)
@[simp] theorem macF_len (k msg : List UInt8) (n : Nat) : (macF k msg n).length = 32 := by simp [macF]
def macE (nk nb : Nat) : Nat := if nk ≤ 1048576 ∧ nb ≤ 1048512 then 0 else 3
def macO (lk : List UInt8) (nk : Nat) (lb : List UInt8) (nb : Nat) : List UInt8 := if nk ≤ 1048576 ∧ nb ≤ 1048512 then macF (keyF lk nk) ([] ++ lb) (0 + nb) else List.replicate 32 0
@[simp] theorem macO_len (lk : List UInt8) (nk : Nat) (lb : List UInt8) (nb : Nat) : (macO lk nk lb nb).length = 32 := by unfold macO; split <;> simp
theorem macE_0 {nk nb : Nat} (h : nk ≤ 1048576) (h' : nb ≤ 1048512) : macE nk nb = 0 := if_pos ⟨h, h'⟩
theorem macE_3 {nk nb : Nat} (h : 1048576 < nk ∨ 1048512 < nb) : macE nk nb = 3 := if_neg (by omega)
theorem macO_0 {nk nb : Nat} (lk lb : List UInt8) (h : nk ≤ 1048576) (h' : nb ≤ 1048512) : macO lk nk lb nb = macF (keyF lk nk) ([] ++ lb) (0 + nb) := if_pos ⟨h, h'⟩
theorem macO_3 {nk nb : Nat} (lk lb : List UInt8) (h : 1048576 < nk ∨ 1048512 < nb) : macO lk nk lb nb = List.replicate 32 0 := if_neg (by omega)
def tN : Nat → Nat
  | 0 => 0
  | _ + 1 => 32
theorem tN_le (j : Nat) : tN j ≤ 32 := by cases j <;> simp [tN]
def tF (key info : List UInt8) (ni : Nat) : Nat → List UInt8
  | 0 => []
  | j + 1 => macF key ((([] ++ tF key info ni j) ++ info) ++ [UInt8.ofNat (j + 1)]) (((0 + tN j) + ni) + 1)
theorem tF_len (key info : List UInt8) (ni j : Nat) : (tF key info ni j).length = tN j := by
  cases j <;> simp [tF, tN]
theorem u8_pos {j : Nat} (h : j < 255) : decide (UInt8.ofNat (j + 1) > (0 : UInt8)) = true := by
  apply decide_eq_true
  show 0 < UInt8.ofNat (j + 1)
  rw [UInt8.lt_iff_toNat_lt, UInt8.toNat_ofNat']
  simp; omega
theorem u8_succ (j : Nat) : UInt8.ofNat (j + 1) + 1 = UInt8.ofNat (j + 1 + 1) := by
  apply UInt8.toNat_inj.1
  simp [UInt8.toNat_add, UInt8.toNat_ofNat']
def lnE (n : Nat) : Nat → Nat
  | 0 => 0
  | j + 1 => lnE n j + min 32 (n - lnE n j)
theorem lnE_eq (n j : Nat) : lnE n j = min (32 * j) n := by
  induction j with
  | zero => simp [lnE]
  | succ j ih => simp only [lnE, ih]; omega
def exTo (key info : List UInt8) (ni n : Nat) : Nat → List UInt8
  | 0 => []
  | j + 1 => exTo key info ni n j ++ (tF key info ni (j + 1)).take (min 32 (n - lnE n j))
theorem exTo_len (key info : List UInt8) (ni n j : Nat) : (exTo key info ni n j).length = lnE n j := by
  induction j with
  | zero => rfl
  | succ j ih => simp [exTo, lnE, ih, tF_len, tN]
def exE (nk ni n : Nat) : Nat := if 8160 < n then 1 else if 1048576 < nk ∨ 1048479 < ni then 3 else 0
def exN (nk ni n : Nat) : Nat := match exE nk ni n with
  | 0 => lnE n ((n + 31) / 32)
  | _ => 0
def exO (lk : List UInt8) (nk : Nat) (li : List UInt8) (ni n : Nat) : List UInt8 := match exE nk ni n with
  | 0 => exTo (keyF lk nk) li ni n ((n + 31) / 32)
  | _ => []
theorem exE_1 {nk ni n : Nat} (h : 8160 < n) : exE nk ni n = 1 := if_pos h
theorem exE_3 {nk ni n : Nat} (h : n ≤ 8160) (h' : 1048576 < nk ∨ 1048479 < ni) : exE nk ni n = 3 := by unfold exE; rw [if_neg (by omega), if_pos h']
theorem exE_0 {nk ni n : Nat} (h : n ≤ 8160) (h1 : nk ≤ 1048576) (h2 : ni ≤ 1048479) : exE nk ni n = 0 := by unfold exE; rw [if_neg (by omega), if_neg (by omega)]
theorem exN_0 {nk ni n : Nat} (h : exE nk ni n = 0) : exN nk ni n = n := by unfold exN; rw [h]; show lnE n _ = n; rw [lnE_eq]; omega
/-! label -/
def tlsL : List UInt8 := [116, 108, 115, 49, 51, 32]
def infF (ln : List UInt8) (nn : Nat) (lc : List UInt8) (nc n : Nat) : List UInt8 :=
  (((([] ++ [UInt8.ofNat (n / 2 ^ 8), UInt8.ofNat n, UInt8.ofNat (6 + nn)]) ++ (tlsL ++ ln)) ++ [UInt8.ofNat nc]) ++ lc)
def infN (nn nc : Nat) : Nat := ((((0 + 3) + (6 + nn)) + 1) + nc)
def laE (nk nn nc n : Nat) : Nat := if 249 < nn ∨ 255 < nc ∨ 8160 < n then 1 else exE nk (infN nn nc) n
def laN (nk nn nc n : Nat) : Nat := if 249 < nn ∨ 255 < nc ∨ 8160 < n then 0 else exN nk (infN nn nc) n
def laO (lk : List UInt8) (nk : Nat) (ln : List UInt8) (nn : Nat) (lc : List UInt8) (nc n : Nat) : List UInt8 := if 249 < nn ∨ 255 < nc ∨ 8160 < n then [] else exO lk nk (infF ln nn lc nc n) (infN nn nc) n
theorem laE_1 {nk nn nc n : Nat} (h : 249 < nn ∨ 255 < nc ∨ 8160 < n) : laE nk nn nc n = 1 := if_pos h
theorem laN_1 {nk nn nc n : Nat} (h : 249 < nn ∨ 255 < nc ∨ 8160 < n) : laN nk nn nc n = 0 := if_pos h
theorem laO_1 {nk nn nc n : Nat} (lk ln lc : List UInt8) (h : 249 < nn ∨ 255 < nc ∨ 8160 < n) : laO lk nk ln nn lc nc n = [] := if_pos h
theorem laE_0 {nk nn nc n : Nat} (h : ¬ (249 < nn ∨ 255 < nc ∨ 8160 < n)) : laE nk nn nc n = exE nk (infN nn nc) n := if_neg h
theorem laN_0 {nk nn nc n : Nat} (h : ¬ (249 < nn ∨ 255 < nc ∨ 8160 < n)) : laN nk nn nc n = exN nk (infN nn nc) n := if_neg h
theorem laO_0 {nk nn nc n : Nat} (lk ln lc : List UInt8) (h : ¬ (249 < nn ∨ 255 < nc ∨ 8160 < n)) : laO lk nk ln nn lc nc n = exO lk nk (infF ln nn lc nc n) (infN nn nc) n := if_neg h

end Go.Mc

namespace Go.Mc

end Go.Mc

namespace Go.Mc

end Go.Mc

namespace Go.Mc
def pdTo (k : List UInt8) (m : Nat) (x : UInt8) : Nat → List UInt8
  | 0 => []
  | i + 1 => pdTo k m x i ++ [if i < m then k.getD i 0 ^^^ x else x]
@[simp] theorem pdTo_len (k : List UInt8) (m : Nat) (x : UInt8) (n : Nat) : (pdTo k m x n).length = n := by
  induction n with
  | zero => rfl
  | succ n ih => simp [pdTo, ih]
theorem pdTo_get (k : List UInt8) (m : Nat) (x : UInt8) : ∀ n j, j < n → (pdTo k m x n).getD j 0 = if j < m then k.getD j 0 ^^^ x else x := by
  intro n
  induction n with
  | zero => intro j h; omega
  | succ n ih =>
    intro j h
    simp only [pdTo]
    rw [getD8_app, pdTo_len]
    by_cases h2 : j < n
    · rw [if_pos h2, ih j h2]
    · rw [if_neg h2, show j = n by omega]; simp
def pxF (k : List UInt8) (x : UInt8) : List UInt8 := xorK k x 64
theorem px_54 (k : List UInt8) : pxF k 54 = ipF k := rfl
theorem px_92 (k : List UInt8) : pxF k 92 = opF k := rfl
theorem px_len (k : List UInt8) (x : UInt8) : (pxF k x).length = k.length := xorK_len _ _ _
theorem pd_eq {k k' : List UInt8} {m : Nat} {x : UInt8} (hk : k'.length = 64) (h : ∀ j, j < 64 → k'.getD j 0 = if j < m then k.getD j 0 else 0) : pdTo k m x 64 = pxF k' x := by
  refine ext8 (n := 64) (by simp) (by rw [px_len, hk]) fun j hj => ?_
  unfold pxF
  rw [pdTo_get k m x 64 j hj, xorK_get _ _ _ _ (by omega), if_pos hj, h j hj]
  split
  · rfl
  · simp
theorem pad_long {lb : List UInt8} {nb : Nat} (x : UInt8) (hl : lb.length = nb) (h : 64 < nb) : pdTo (shaF lb nb) 32 x 64 = pxF (keyF lb nb) x := by
  refine pd_eq (keyF_len hl) fun j hj => ?_
  unfold keyF
  rw [if_pos h, getD8_app, List.length_take, shaF_len]
  by_cases h2 : j < 32
  · rw [if_pos (by omega), if_pos h2, getD8_take _ _ _ (by omega)]
  · rw [if_neg (by omega), if_neg h2, getD8_drop, getD8_rep]
theorem pad_short {lb : List UInt8} {nb : Nat} (x : UInt8) (hl : lb.length = nb) (h : ¬ 64 < nb) : pdTo lb nb x 64 = pxF (keyF lb nb) x := by
  refine pd_eq (keyF_len hl) fun j hj => ?_
  unfold keyF
  rw [if_neg h, getD8_app, List.length_take, hl]
  by_cases h2 : j < nb
  · rw [if_pos (by omega), if_pos h2, getD8_take _ _ _ (by omega)]
  · rw [if_neg (by omega), if_neg h2, getD8_drop, getD8_rep]
theorem macR_eq (k msg : List UInt8) (n : Nat) : shaF (opF k ++ shaF (ipF k ++ msg) (64 + n)) 96 = macF k msg n := by
  unfold macF; rw [List.nil_append]
theorem macO_0' {nk nb : Nat} (lk lb : List UInt8) (h : nk ≤ 1048576) (h' : nb ≤ 1048512) : macO lk nk lb nb = macF (keyF lk nk) lb nb := by
  rw [macO_0 lk lb h h', List.nil_append, Nat.zero_add]
def aN : Nat → Nat
  | 0 => 0
  | j + 1 => aN j + 32
theorem aN_eq (j : Nat) : aN j = 32 * j := by
  induction j with
  | zero => rfl
  | succ j ih => simp only [aN, ih]; omega
def allTo (key info : List UInt8) (ni : Nat) : Nat → List UInt8
  | 0 => []
  | j + 1 => allTo key info ni j ++ tF key info ni (j + 1)
theorem allTo_len (key info : List UInt8) (ni j : Nat) : (allTo key info ni j).length = aN j := by
  induction j with
  | zero => rfl
  | succ j ih => simp [allTo, aN, ih, tF_len, tN]
theorem tR_eq (key info : List UInt8) (ni j : Nat) : macF key ((tF key info ni j ++ info) ++ [UInt8.ofNat (j + 1)]) ((tN j + ni) + 1) = tF key info ni (j + 1) := by
  simp only [tF, List.nil_append, Nat.zero_add]
theorem ex_take (key info : List UInt8) (ni n : Nat) : ∀ j, (allTo key info ni j).take n = exTo key info ni n j := by
  intro j
  induction j with
  | zero => simp [allTo, exTo]
  | succ j ih =>
    simp only [allTo, exTo]
    rw [List.take_append, ih, allTo_len, aN_eq, lnE_eq]
    congr 1
    have hl := tF_len key info ni (j + 1)
    have h32 : tN (j + 1) = 32 := rfl
    rcases Nat.lt_or_ge (n - 32 * j) 32 with h | h
    · rw [show min 32 (n - min (32 * j) n) = n - 32 * j by omega]
    · rw [List.take_of_length_le (by omega), List.take_of_length_le (by omega)]
theorem exO_0 {nk ni n : Nat} (lk li : List UInt8) (h : exE nk ni n = 0) : exO lk nk li ni n = (allTo (keyF lk nk) li ni ((n + 31) / 32)).take n := by
  unfold exO; rw [h, ex_take]; rfl
theorem infR_eq (ln : List UInt8) (nn : Nat) (lc : List UInt8) (nc n : Nat) : ((([UInt8.ofNat (n / 2 ^ 8), UInt8.ofNat n, UInt8.ofNat (6 + nn)] ++ (tlsL ++ ln)) ++ [UInt8.ofNat nc]) ++ lc) = infF ln nn lc nc n := by
  unfold infF; rw [List.nil_append]

end Go.Mc

namespace Go.Mc

end Go.Mc

namespace Go.Mc
theorem take_succ_eq {la lb : List UInt8} {k : Nat} (h : la.take k = lb.take k) (h1 : k < la.length) (h2 : k < lb.length) (e : la.getD k 0 = lb.getD k 0) : la.take (k + 1) = lb.take (k + 1) := by
  rw [List.take_succ_eq_append_getElem h1, List.take_succ_eq_append_getElem h2, h]
  simp [List.getD_eq_getElem?_getD, h1, h2] at e; rw [e]
theorem ne_beq {la lb : List UInt8} (h : la.length ≠ lb.length) : (la == lb) = false := by
  rw [beq_eq_false_iff_ne]; intro e; exact h (by rw [e])
theorem getD_ne_beq {la lb : List UInt8} {k : Nat} (h : ¬ la.getD k 0 = lb.getD k 0) : (la == lb) = false := by
  rw [beq_eq_false_iff_ne]; intro e; exact h (by rw [e])
theorem take_all_beq {la lb : List UInt8} {k : Nat} (h1 : la.length ≤ k) (h2 : lb.length ≤ k) (h : la.take k = lb.take k) : (la == lb) = true := by
  rw [List.take_of_length_le h1, List.take_of_length_le h2] at h; simpa using h

end Go.Mc

namespace Go.Mc

end Go.Mc

namespace Go.Mc
theorem Mem.rd_twin {w0 w : World} {own : List Nat} {H : List Ch} (m : Mem w0 own H w) {i : Nat} {ad : Option Addr} {n cap : Nat} {E : TypeId} {xs : List UInt8} {sp : UInt8} (hi : H[i]? = some (.sl ad (n + 1) cap E 1 ((xs ++ [sp]).map b8))) : Rd w ad n 1 (xs.map b8) := by
  have h := m.rd_sl hi
  have hl := h.len
  simp at hl
  have h2 := h.pre1 (k := n) (by omega)
  rwa [List.take_append_of_le_length (by omega), List.take_of_length_le (by omega)] at h2
theorem twin_get {xs : List UInt8} {n i : Nat} (hl : xs.length = n) (h : i < n) : ((xs ++ [77]).take n).getD i 0 = xs.getD i 0 := by
  rw [List.getD_eq_getElem?_getD, List.getElem?_take, if_pos h, List.getElem?_append_left (by omega), ← List.getD_eq_getElem?_getD]
theorem twin_last {xs : List UInt8} {n : Nat} (hl : xs.length = n) : ((xs ++ [77]).take (n + 1)).getD n 0 = 77 := by
  rw [List.getD_eq_getElem?_getD, List.getElem?_take, if_pos (by omega), List.getElem?_append_right (by omega), hl]; simp
theorem take_snoc {xs : List UInt8} {i : Nat} (h : i < xs.length) : xs.take i ++ [xs.getD i 0] = xs.take (i + 1) := by
  rw [List.take_succ_eq_append_getElem h, List.getD_eq_getElem?_getD, List.getElem?_eq_getElem h]; rfl

end Go.Mc

namespace Go.Mc
def mkB (n : Nat) : UInt8 := UInt8.ofNat (1 + n % 250)
def fillL (xs : List UInt8) (v : UInt8) (j : Nat) : List UInt8 := List.replicate j v ++ xs.drop j
theorem fillL_0 (xs : List UInt8) (v : UInt8) : fillL xs v 0 = xs := rfl
theorem fillL_n {xs : List UInt8} {v : UInt8} {n : Nat} (h : xs.length = n) : fillL xs v n = List.replicate n v := by
  unfold fillL; rw [List.drop_of_length_le (by omega), List.append_nil]
theorem fillL_s {xs : List UInt8} {v : UInt8} {j : Nat} (h : j < xs.length) : (fillL xs v j).set j v = fillL xs v (j + 1) := by
  unfold fillL
  rw [List.set_append_right _ _ (by simp), List.length_replicate, Nat.sub_self, List.drop_eq_getElem_cons h, List.set_cons_zero, List.replicate_succ', List.append_assoc]
  rfl
@[simp] theorem fillL_len (xs : List UInt8) (v : UInt8) (j : Nat) (h : j ≤ xs.length) : (fillL xs v j).length = xs.length := by
  unfold fillL; simp; omega
theorem rep_get {n j : Nat} {v : UInt8} (h : j < n) : (List.replicate n v).getD j 0 = v := by
  simp [List.getD_eq_getElem?_getD, h]
theorem rep_map (n : Nat) (v : UInt8) : (List.replicate n v).map b8 = List.replicate n (b8 v) := List.map_replicate
/-- what both reads of a grown list are -/
theorem g_lb {w0 w : World} {own : List Nat} {T : List Ch} {E : TypeId} {ad0 ad : Option Addr} {n cap0 cap j : Nat} {v : UInt8} (m : Mem w0 own (gCh E ad0 n cap0 ((List.replicate n v).map b8) ad cap j (b8 v) ++ T) w) : Rd w ad0 n 1 ((List.replicate n v).map b8) := m.g_l (by simp)
theorem g_lg {w0 w : World} {own : List Nat} {T : List Ch} {E : TypeId} {ad0 ad : Option Addr} {n cap0 cap j : Nat} {v : UInt8} (m : Mem w0 own (gCh E ad0 n cap0 ((List.replicate n v).map b8) ad cap j (b8 v) ++ T) w) : Rd w (gA n cap0 j ad0 ad) (n + j) 1 ((List.replicate (n + j) v).map b8) := by
  have h := m.g_long
  rw [rep_map, List.replicate_append_replicate, ← rep_map] at h
  exact h

end Go.Mc

namespace Go.Mc

end Go.Mc

namespace Go.Mc

end Go.Mc

namespace Go.Mc

end Go.Mc

namespace Go.Mc

end Go.Mc

namespace Go.Mc

end Go.Mc

namespace Go.Mc

end Go.Mc

namespace Go.Mc
def grF (a b : Nat) : Bool := decide (3145728 < a) || decide (3145728 < a + b)
theorem grF_1 {a b : Nat} (h : 3145728 < a) : grF a b = true := by simp [grF, h]
theorem grF_2 {a b : Nat} (h : 3145728 < a + b) : grF a b = true := by simp [grF, h]
theorem grF_0 {a b : Nat} (h : a + b ≤ 3145728) : grF a b = false := by simp [grF]; omega
theorem grF_out {a b : Nat} (h : grF a b = false) : a + b ≤ 3145728 := by simp [grF] at h; omega
theorem exN_bd (nk ni n : Nat) : exN nk ni n ≤ 8160 := by
  by_cases h : 8160 < n
  · rw [exN, exE_1 h]; exact Nat.zero_le _
  · by_cases h2 : 1048576 < nk ∨ 1048479 < ni
    · rw [exN, exE_3 (by omega) h2]; exact Nat.zero_le _
    · rw [exN_0 (exE_0 (by omega) (by omega) (by omega))]; omega
theorem laN_bd (nk nn nc n : Nat) : laN nk nn nc n ≤ 8160 := by
  by_cases h : 249 < nn ∨ 255 < nc ∨ 8160 < n
  · rw [laN_1 h]; exact Nat.zero_le _
  · rw [laN_0 h]; exact exN_bd ..

end Go.Mc
