/- Lemmas and contracts for the proof of this seat's statements (Law6cA). No condition. -/
import Derived.Test.YtnkldldojalklaaEPar2
import Derived.Test.YtnkldldojalklaaProg
import Derived.KernelRfl
import Derived.Test.YtnkldldojalklaaELaw6bA
set_option linter.all false
namespace Go.Proofs.Ytnkldldojalklaa
open Go.Mc
private theorem cf6 : cfB Try.prog 6 = true := by kernel_rfl
private theorem ag24 : agB Try.prog 24 3 = true := by kernel_rfl
private theorem cf7 : cfB Try.prog 7 = true := by kernel_rfl
private theorem fd24_0 : fdB Try.prog 24 0 0 22 = true := by kernel_rfl
private theorem sz22 : szB Try.prog 22 1 = true := by kernel_rfl
private theorem sc22 : scB Try.prog 22 = true := by kernel_rfl
private theorem fd24_1 : fdB Try.prog 24 1 1 22 = true := by kernel_rfl
private theorem fd24_2 : fdB Try.prog 24 2 2 22 = true := by kernel_rfl
private theorem cf8 : cfB Try.prog 8 = true := by kernel_rfl
private theorem sl22 : slB Try.prog 22 5 = true := by kernel_rfl
private theorem cf9 : cfB Try.prog 9 = true := by kernel_rfl
private theorem cf10 : cfB Try.prog 10 = true := by kernel_rfl
private theorem ar31 : arB Try.prog 31 2 5 = true := by kernel_rfl
private theorem sz5 : szB Try.prog 5 1 = true := by kernel_rfl
private theorem sc5 : scB Try.prog 5 = true := by kernel_rfl
private theorem us5 : (Try.prog.underlying 5).isSome = true := by kernel_rfl
private theorem ui3 : Try.prog.underlying 3 = some (.int .i64) := by kernel_rfl
private theorem zn33 : znB Try.prog 33 (.agg (arr b8 (List.replicate 32 0))) := by unfold znB; kernel_rfl
private theorem zn34 : znB Try.prog 34 (.agg (arr b8 (List.replicate 12 0))) := by unfold znB; kernel_rfl
private theorem ar33 : arB Try.prog 33 32 5 = true := by kernel_rfl
private theorem ar34 : arB Try.prog 34 12 5 = true := by kernel_rfl
private theorem ag33 : agB Try.prog 33 32 = true := by kernel_rfl
private theorem ag34 : agB Try.prog 34 12 = true := by kernel_rfl
private theorem cf11 : cfB Try.prog 11 = true := by kernel_rfl
private theorem zn35 : znB Try.prog 35 (.agg (arr b8 (List.replicate 64 0))) := by unfold znB; kernel_rfl
private theorem sz35 : szB Try.prog 35 64 = true := by kernel_rfl
private theorem ar35 : arB Try.prog 35 64 5 = true := by kernel_rfl
private theorem cf12 : cfB Try.prog 12 = true := by kernel_rfl
private theorem el5 : elB Try.prog 5 1 1 (b8 (0)) := elB_of (by kernel_rfl) (by kernel_rfl) (by unfold znB; kernel_rfl)
private theorem us3 : (Try.prog.underlying 3).isSome = true := by kernel_rfl
private theorem ui39 : Try.prog.underlying 39 = some (.int .u64) := by kernel_rfl
private theorem us39 : (Try.prog.underlying 39).isSome = true := by kernel_rfl
private theorem ui5 : Try.prog.underlying 5 = some (.int .u8) := by kernel_rfl
private theorem cf13 : cfB Try.prog 13 = true := by kernel_rfl
private theorem zn40 : znB Try.prog 40 (.agg (arr b8 (List.replicate 16 0))) := by unfold znB; kernel_rfl
private theorem sz40 : szB Try.prog 40 16 = true := by kernel_rfl
private theorem ar40 : arB Try.prog 40 16 5 = true := by kernel_rfl
theorem sealE_cases (nk nn np nb : Nat) : sealE nk nn np nb = 0 ∨ sealE nk nn np nb = 1 ∨ sealE nk nn np nb = 3 := by unfold sealE; split <;> (try split) <;> simp
theorem sealE_inv {nk nn np nb : Nat} (h : sealE nk nn np nb = 0) : nk = 32 ∧ nn = 12 ∧ np ≤ 1048576 ∧ nb ≤ 1048576 := by
  unfold sealE at h
  split at h
  · rename_i h1
    split at h
    · rename_i h2; exact ⟨h1.1, h1.2, h2.1, h2.2⟩
    · cases h
  · cases h
theorem sealN_0 {nk nn np nb : Nat} (h : sealE nk nn np nb ≠ 0) : sealN nk nn np nb = 0 := by
  unfold sealN
  split
  · rename_i h1; exact absurd h1 h
  · rfl
theorem sealO_0 {nk nn np nb : Nat} (h : sealE nk nn np nb ≠ 0) (lk ln lp lb : List UInt8) : sealO nk nn np nb lk ln lp lb = [] := by
  unfold sealO
  split
  · rename_i h1; exact absurd h1 h
  · rfl
theorem sealN_16 {nk nn np nb : Nat} (h : sealE nk nn np nb = 0) : sealN nk nn np nb = np + 16 := by
  unfold sealN; rw [h]; show 0 + np + 16 = _; omega
theorem sealO_eq {nk nn np nb : Nat} (h : sealE nk nn np nb = 0) (lk ln lp lb : List UInt8) : sealO nk nn np nb lk ln lp lb = xorTo lp lk 1 ln np ++ stagF lk ln lb nb (xorTo lp lk 1 ln np) np := by
  unfold sealO; rw [h]; rfl
theorem sealO_len (nk nn np nb : Nat) {lk ln lp lb : List UInt8} (hlp : lp.length = np) : (sealO nk nn np nb lk ln lp lb).length = sealN nk nn np nb := by
  by_cases h : sealE nk nn np nb = 0
  · rw [sealO_eq h, sealN_16 h]; simp
  · rw [sealO_0 h, sealN_0 h]; rfl
theorem xorTo_get (lb key : List UInt8) (c : UInt32) (nonce : List UInt8) : ∀ (n j : Nat), j < n → (xorTo lb key c nonce n).getD j 0 = lb.getD j 0 ^^^ streamF key c nonce j := by
  intro n
  induction n with
  | zero => intro j h; omega
  | succ n ih =>
    intro j h
    simp only [xorTo]
    rw [List.getD_eq_getElem?_getD]
    rcases Nat.lt_or_ge j n with h' | h'
    · rw [List.getElem?_append_left (by simp; omega), ← List.getD_eq_getElem?_getD, ih j h']
    · have : j = n := by omega
      subst this
      rw [List.getElem?_append_right (by simp)]
      simp
theorem xor_xor {lp key nonce : List UInt8} {c : UInt32} {n : Nat} (h : lp.length = n) : xorTo (xorTo lp key c nonce n) key c nonce n = lp := by
  apply List.ext_getElem?
  intro j
  rcases Nat.lt_or_ge j n with hj | hj
  · have h1 := xorTo_get (xorTo lp key c nonce n) key c nonce n j hj
    rw [xorTo_get lp key c nonce n j hj, UInt8.xor_assoc, UInt8.xor_self, UInt8.xor_zero] at h1
    rw [List.getD_eq_getElem?_getD, List.getD_eq_getElem?_getD, List.getElem?_eq_getElem (by simpa using hj), List.getElem?_eq_getElem (by omega)] at h1
    rw [List.getElem?_eq_getElem (by simpa using hj), List.getElem?_eq_getElem (by omega)]
    exact congrArg some h1
  · rw [List.getElem?_eq_none (by simpa using hj), List.getElem?_eq_none (by omega)]
theorem open_back {nk nn np nb : Nat} {lk ln lp lb : List UInt8} (h : sealE nk nn np nb = 0) (hlp : lp.length = np) :
    ((openE nk nn (sealN nk nn np nb) nb lk ln (sealO nk nn np nb lk ln lp lb) lb : Nat) : Int) = 0 ∧ openN nk nn (sealN nk nn np nb) nb lk ln (sealO nk nn np nb lk ln lp lb) lb = np ∧ openO nk nn (sealN nk nn np nb) nb lk ln (sealO nk nn np nb lk ln lp lb) lb = lp := by
  have hi := sealE_inv h
  rw [sealN_16 h, sealO_eq h]
  have hx := xorTo_len lp lk 1 ln np
  have ht := stagF_len lk ln lb nb (xorTo lp lk 1 ln np) np
  generalize hC : xorTo lp lk 1 ln np = C at *
  generalize hT : stagF lk ln lb nb C np = T at *
  have e1 : (C ++ T).take (np + 16 - 16) = C := by rw [List.take_append_of_le_length (by omega), List.take_of_length_le (by omega)]
  have e2 : ((C ++ T).drop (np + 16 - 16)).take (np + 16 - (np + 16 - 16)) = T := by rw [List.drop_append_of_le_length (by omega), List.drop_of_length_le (by omega), List.nil_append, List.take_of_length_le (by omega)]
  have e0 : openE nk nn (np + 16) nb lk ln (C ++ T) lb = 0 := by
    refine openE_0 hi.1 hi.2.1 (by omega) (by omega) (by omega) ?_
    rw [e1, e2, show np + 16 - 16 = np by omega, hT]
  refine ⟨by rw [e0]; rfl, by unfold openN; rw [e0]; show np + 16 - 16 = np; omega, ?_⟩
  unfold openO; rw [e0]
  show xorTo ((C ++ T).take (np + 16 - 16)) lk 1 ln (np + 16 - 16) = lp
  rw [e1, show np + 16 - 16 = np by omega, ← hC]; exact xor_xor hlp
section
variable {nk nn ns nb : Nat} {lk ln ls lb : List UInt8}
theorem open4E (h : nk = 32) (h' : nn = 12) (h1 : ns < 16) : ((openE nk nn ns nb lk ln ls lb : Nat) : Int) = 4 := by rw [openE_4 h h' h1]; rfl
theorem open4N (h : nk = 32) (h' : nn = 12) (h1 : ns < 16) : openN nk nn ns nb lk ln ls lb = 0 := by unfold openN; rw [openE_4 h h' h1]; rfl
theorem open4O (h : nk = 32) (h' : nn = 12) (h1 : ns < 16) : openO nk nn ns nb lk ln ls lb = [] := by unfold openO; rw [openE_4 h h' h1]; rfl
end
theorem mod16 (x : UInt8) : (x % 16).toNat < 16 := by rw [UInt8.toNat_mod]; exact Nat.mod_lt _ (by decide)
theorem open_other {nk nn np nb : Nat} {lk ln lp lb : List UInt8} (h : sealE nk nn np nb = 0) (hlp : lp.length = np) {t : Nat} (ht : t < 16) {y : UInt8} (hy : y ≠ 0) :
    ((openE nk nn (sealN nk nn np nb) nb lk ln ((sealO nk nn np nb lk ln lp lb).set (sealN nk nn np nb - 1 - t) ((sealO nk nn np nb lk ln lp lb).getD (sealN nk nn np nb - 1 - t) 0 ^^^ y)) lb : Nat) : Int) = 11 ∧
    openN nk nn (sealN nk nn np nb) nb lk ln ((sealO nk nn np nb lk ln lp lb).set (sealN nk nn np nb - 1 - t) ((sealO nk nn np nb lk ln lp lb).getD (sealN nk nn np nb - 1 - t) 0 ^^^ y)) lb = 0 ∧
    openO nk nn (sealN nk nn np nb) nb lk ln ((sealO nk nn np nb lk ln lp lb).set (sealN nk nn np nb - 1 - t) ((sealO nk nn np nb lk ln lp lb).getD (sealN nk nn np nb - 1 - t) 0 ^^^ y)) lb = [] := by
  have hi := sealE_inv h
  rw [sealN_16 h, sealO_eq h]
  have hx := xorTo_len lp lk 1 ln np
  have htl := stagF_len lk ln lb nb (xorTo lp lk 1 ln np) np
  generalize hC : xorTo lp lk 1 ln np = C at *
  generalize hT : stagF lk ln lb nb C np = T at *
  have eg : (C ++ T).getD (np + 16 - 1 - t) 0 = T.getD (15 - t) 0 := by
    rw [List.getD_eq_getElem?_getD, List.getD_eq_getElem?_getD, List.getElem?_append_right (by omega), show np + 16 - 1 - t - C.length = 15 - t by omega]
  rw [eg]
  have es : (C ++ T).set (np + 16 - 1 - t) (T.getD (15 - t) 0 ^^^ y) = C ++ T.set (15 - t) (T.getD (15 - t) 0 ^^^ y) := by
    rw [List.set_append_right _ _ (by omega), show np + 16 - 1 - t - C.length = 15 - t by omega]
  rw [es]
  generalize hT' : T.set (15 - t) (T.getD (15 - t) 0 ^^^ y) = T'
  have hl' : T'.length = 16 := by rw [← hT']; simp [htl]
  have e1 : (C ++ T').take (np + 16 - 16) = C := by rw [List.take_append_of_le_length (by omega), List.take_of_length_le (by omega)]
  have e2 : ((C ++ T').drop (np + 16 - 16)).take (np + 16 - (np + 16 - 16)) = T' := by rw [List.drop_append_of_le_length (by omega), List.drop_of_length_le (by omega), List.nil_append, List.take_of_length_le (by omega)]
  have e0 : openE nk nn (np + 16) nb lk ln (C ++ T') lb = 11 := by
    refine openE_11 hi.1 hi.2.1 (by omega) (by omega) (by omega) ?_
    rw [e1, e2, show np + 16 - 16 = np by omega, hT]
    intro e
    have h2 : T.getD (15 - t) 0 = T'.getD (15 - t) 0 := by rw [e]
    rw [← hT', List.getD_eq_getElem?_getD (l := T.set _ _), List.getElem?_set_self (by omega)] at h2
    have h3 : T.getD (15 - t) 0 ^^^ T.getD (15 - t) 0 = T.getD (15 - t) 0 ^^^ (T.getD (15 - t) 0 ^^^ y) := congrArg (fun z => T.getD (15 - t) 0 ^^^ z) h2
    rw [← UInt8.xor_assoc, UInt8.xor_self, UInt8.zero_xor] at h3
    exact hy h3.symm
  exact ⟨by rw [e0]; rfl, by unfold openN; rw [e0]; rfl, by unfold openO; rw [e0]; rfl⟩
def copyTo (n : Nat) (l : List UInt8) : Nat → List UInt8
  | 0 => List.replicate n 0
  | i + 1 => (copyTo n l i).set i (l.getD i 0)
@[simp] theorem copyTo_len (n : Nat) (l : List UInt8) (k : Nat) : (copyTo n l k).length = n := by
  induction k with
  | zero => simp [copyTo]
  | succ k ih => simp [copyTo, ih]
theorem copy_get (n : Nat) (l : List UInt8) : ∀ (k j : Nat), j < k → k ≤ n → (copyTo n l k)[j]? = some (l.getD j 0) := by
  intro k
  induction k with
  | zero => intro j h; omega
  | succ k ih =>
    intro j h hk
    simp only [copyTo]
    rcases Nat.lt_or_ge j k with h' | h'
    · rw [List.getElem?_set_ne (by omega)]; exact ih j h' (by omega)
    · have : j = k := by omega
      subst this
      rw [List.getElem?_set_self (by simp; omega)]
theorem copy_take {n : Nat} {l : List UInt8} (h : n ≤ l.length) : copyTo n l n = l.take n := by
  apply List.ext_getElem?
  intro j
  rcases Nat.lt_or_ge j n with hj | hj
  · rw [copy_get n l n j hj (Nat.le_refl _), List.getElem?_take, if_pos hj, List.getElem?_eq_getElem (by omega), List.getD_eq_getElem?_getD, List.getElem?_eq_getElem (by omega)]; rfl
  · rw [List.getElem?_eq_none (by simpa using hj), List.getElem?_eq_none (by simp; omega)]
theorem copy_all {n : Nat} {l : List UInt8} (h : l.length = n) : copyTo n l n = l := by rw [copy_take (by omega), List.take_of_length_le (by omega)]
theorem zapp (l : List UInt8) (j : Nat) : l ++ List.replicate j 0 ++ [0] = l ++ List.replicate (j + 1) 0 := by
  rw [List.append_assoc, List.replicate_succ']
theorem great_small {nk nn np nb : Nat} (h : ¬ greatP nk nn np nb) (h0 : sealE nk nn np nb = 0) : nb + np ≤ 50000 := by
  have := sealE_inv h0
  unfold greatP at h
  omega
def tailF (nb np : Nat) : Nat → List UInt8
  | 0 => []
  | i + 1 => tailF nb np i ++ [(UInt64.ofNat (if 8 ≤ i then np else nb) >>> UInt64.ofNat (8 * (i % 8))).toUInt8]
theorem tail_hi (nb np : Nat) {i : Nat} (h : (i : Int) ≥ 8) : tailF nb np i ++ ([((UInt64.ofNat np) >>> UInt64.ofNat (8 * (i % 8))).toUInt8] : List UInt8) = tailF nb np (i + 1) := by
  simp only [tailF]; rw [if_pos (by omega)]
theorem tail_lo (nb np : Nat) {i : Nat} (h : ¬ (i : Int) ≥ 8) : tailF nb np i ++ ([((UInt64.ofNat nb) >>> UInt64.ofNat (8 * (i % 8))).toUInt8] : List UInt8) = tailF nb np (i + 1) := by
  simp only [tailF]; rw [if_neg (by omega)]
theorem tail_eights (nb np : Nat) : tailF nb np 16 = eightsF [nb, np] 2 := by
  simp [tailF, eightsF, eightF]
theorem made_eq {nk nn np nb : Nat} {lk ln lp lb : List UInt8} (h0 : sealE nk nn np nb = 0) :
    (sealO nk nn np nb lk ln lp lb == xorTo lp lk 1 ln np ++ tagF (copyTo 32 (blockF lk 0 ln) 32) (lb ++ List.replicate ((16 - nb % 16) % 16) 0 ++ xorTo lp lk 1 ln np ++ List.replicate ((16 - np % 16) % 16) 0 ++ tailF nb np 16) (nb + (16 - nb % 16) % 16 + np + (16 - np % 16) % 16 + 16)) = true := by
  rw [sealO_eq h0, copy_take (by simp), tail_eights]
  unfold stagF
  rw [List.nil_append, Nat.zero_add]
  exact beq_self_eq_true _

theorem back_ok (w : World) (ak an ap ab : Option Addr) (nk ck nn cn np cp nb cb : Nat) (lk ln lp lb : List UInt8) (hk : Rd w ak nk 1 (lk.map b8)) (hn : Rd w an nn 1 (ln.map b8)) (hp : Rd w ap np 1 (lp.map b8)) (hb : Rd w ab nb 1 (lb.map b8)) (h1 : nk ≤ 140737488355328) (h2 : nn ≤ 140737488355328) (h3 : np ≤ 140737488355328) (h4 : nb ≤ 140737488355328) :
    Calls Try.prog 3 #[.agg (#[.slice ak nk ck, .slice an nn cn, .slice ab nb cb]), .slice ap np cp] w (Ret (fun _ : Unit => kb true) (fun _ => Mem w [] [])) := by
  have hlk := hk.len
  have hln := hn.len
  have hlp := hp.len
  have hlb := hb.len
  have hE := sealE_cases nk nn np nb
  have hNO := sealO_len nk nn np nb hlp (lk := lk) (ln := ln) (lb := lb)
  refine calls_of Try.func3 rfl rfl (L := [(0, .agg (#[.slice ak nk ck, .slice an nn cn, .slice ab nb cb])), (1, .slice ap np cp)]) ⟨rfl, rfl, trivial⟩ (m := 67) (Nat.le_of_ble_eq_true rfl) (M := Mem w [] []) (Mem.refl w) ?_
  refine wc_seq ?_
  refine wc_region ?_
  refine wl_eff (e_box (cs := #[.slice ak nk ck, .slice an nn cn, .slice ab nb cb]) rfl) rfl trivial rfl ?_
  intro b1
  refine wl_y (y_assign rfl) ?_
  refine wl_nil ?_
  refine aq_seq ?_
  refine wc_seq ?_
  refine wc_seq ?_
  refine wc_region ?_
  refine wl_eff (e_call0 cf6 rfl (fun w m => alive_ok w)) rfl trivial rfl ?_
  intro _
  refine wl_y (y_not rfl) ?_
  refine wl_y (y_move rfl) ?_
  refine wl_y (y_loadall ag24 rfl (i := 0) rfl rfl) ?_ (hg := ⟨_, rfl, rfl⟩)
  refine wl_y (y_move rfl) ?_ (hg := ⟨_, rfl, rfl⟩)
  refine wl_eff (e_call0 cf7 rfl (fun w m => great_ok w ak an ap ab nk ck nn cn np cp nb cb (by omega) (by omega) (by omega) (by omega))) rfl ⟨_, rfl, rfl⟩ rfl ?_
  intro _
  refine wl_y (y_pick (b := false) rfl rfl) ?_
  refine wl_nil ?_
  refine aq_seq ?_
  refine wc_if rfl (fun hc1 => ?_) (fun hc1 => ?_)
  · have hb1 : greatP nk nn np nb := by simpa using hc1
    refine wc_seq ?_
    refine wc_region ?_
    refine wl_eff (e_call0 cf6 rfl (fun w m => alive_ok w)) rfl trivial rfl ?_
    intro _
    refine wl_y (y_assign rfl) ?_
    refine wl_nil ?_
    refine aq_seq ?_
    refine wc_ret ?_
    refine aq_thru_ret ?_
    refine aq_return (.inl rfl) rfl (⟨_, _, rfl, rfl, rfl⟩) ?_
    intro w' m
    exact ⟨(), rfl, m.pick (is := []) rfl (by decide)⟩
  · have hb1 : ¬ (greatP nk nn np nb) := by simpa using hc1
    refine wc_skip ?_
    refine aq_seq ?_
    refine wc_seq ?_
    refine wc_region ?_
    refine wl_y (y_fieldAddr fd24_0 sz22 rfl) ?_
    refine wl_y (y_load sc22 rfl (c_blk (i := 0) rfl rfl)) ?_
    refine wl_y (y_fieldAddr fd24_1 sz22 rfl) ?_
    refine wl_y (y_load sc22 rfl (c_blk (i := 0) rfl rfl)) ?_
    refine wl_y (y_move rfl) ?_
    refine wl_y (y_fieldAddr fd24_2 sz22 rfl) ?_
    refine wl_y (y_load sc22 rfl (c_blk (i := 0) rfl rfl)) ?_
    refine wl_eff (e_call0 cf8 rfl (fun w m => seal_ok w ak an ap ab nk ck nn cn np cp nb cb lk ln lp lb (m.rd0 hk) (m.rd0 hn) (m.rd0 hp) (m.rd0 hb))) rfl trivial rfl ?_
    intro r2
    refine wl_use (p := (sealN nk nn np nb) ≤ r2.2) (fun w m => m.sl_le (i := 0) rfl) (fun hcap_r2 => ?_)
    refine wl_y (y_move rfl) ?_
    refine wl_y (y_extract rfl rfl) ?_
    refine wl_y (y_extract rfl rfl) ?_
    refine wl_y (y_assign rfl) ?_
    refine wl_y (y_assign rfl) ?_
    refine wl_nil ?_
    refine aq_seq ?_
    refine wc_seq ?_
    refine wc_seq ?_
    refine wc_region ?_
    refine wl_y (y_move rfl) ?_
    refine wl_y (y_bin rfl rfl neq_i64) ?_
    refine wl_nil ?_
    refine aq_seq ?_
    refine wc_if rfl (fun hc2 => ?_) (fun hc2 => ?_)
    · have hb2 : ¬ (((sealE nk nn np nb : Nat) : Int) = 0) := by simpa using hc2
      have hz := sealN_0 (nk := nk) (nn := nn) (np := np) (nb := nb) (by omega)
      refine wc_seq ?_
      refine wc_region ?_
      refine wl_y (y_move rfl) ?_
      refine wl_y (y_bin rfl rfl eql_i64) ?_
      refine wl_bool (t := 31) rfl (fun hs28 => ?_) (fun hs28 => ?_)
      · have hb28 : ((sealE nk nn np nb : Nat) : Int) = 1 := by simpa using hs28
        refine wl_y (y_move rfl) ?_
        refine wl_off ⟨_, _, rfl, rfl, .inl rfl⟩ rfl ?_
        refine wl_off ⟨_, _, rfl, rfl, .inl rfl⟩ rfl ?_
        refine wl_y (y_pick (b := true) rfl rfl) ?_
        refine wl_y (y_move rfl) ?_
        refine wl_y (y_move rfl) ?_ (hg := ⟨_, rfl, rfl⟩)
        refine wl_y (y_len_sl sl22 (m := (sealN nk nn np nb)) rfl rfl) ?_ (hg := ⟨_, rfl, rfl⟩)
        refine wl_y (y_bin rfl rfl eql_i64) ?_ (hg := ⟨_, rfl, rfl⟩)
        refine wl_re (t := 39) (v' := kb (true)) rfl (congrArg kb (by rw [hz]; rfl)) ?_
        refine wl_y (y_pick (b := true) rfl rfl) ?_
        refine wl_y (y_assign rfl) ?_
        refine wl_nil ?_
        refine aq_seq ?_
        refine wc_ret ?_
        refine aq_thru_ret ?_
        refine aq_return (.inl rfl) rfl (⟨_, _, rfl, rfl, rfl⟩) ?_
        intro w' m
        exact ⟨(), rfl, m.pick (is := []) rfl (by decide)⟩
      · have hb28 : ¬ (((sealE nk nn np nb : Nat) : Int) = 1) := by simpa using hs28
        have h33 : sealE nk nn np nb = 3 := by omega
        refine wl_y (y_move rfl) ?_
        refine wl_y (y_move rfl) ?_ (hg := ⟨_, rfl, rfl⟩)
        refine wl_y (y_bin rfl rfl eql_i64) ?_ (hg := ⟨_, rfl, rfl⟩)
        refine wl_re (t := 34) (v' := kb (true)) rfl (congrArg kb (by rw [h33]; rfl)) ?_
        refine wl_y (y_pick (b := false) rfl rfl) ?_
        refine wl_y (y_move rfl) ?_
        refine wl_y (y_move rfl) ?_ (hg := ⟨_, rfl, rfl⟩)
        refine wl_y (y_len_sl sl22 (m := (sealN nk nn np nb)) rfl rfl) ?_ (hg := ⟨_, rfl, rfl⟩)
        refine wl_y (y_bin rfl rfl eql_i64) ?_ (hg := ⟨_, rfl, rfl⟩)
        refine wl_re (t := 39) (v' := kb (true)) rfl (congrArg kb (by rw [hz]; rfl)) ?_
        refine wl_y (y_pick (b := true) rfl rfl) ?_
        refine wl_y (y_assign rfl) ?_
        refine wl_nil ?_
        refine aq_seq ?_
        refine wc_ret ?_
        refine aq_thru_ret ?_
        refine aq_return (.inl rfl) rfl (⟨_, _, rfl, rfl, rfl⟩) ?_
        intro w' m
        exact ⟨(), rfl, m.pick (is := []) rfl (by decide)⟩
    · have hb2 : ((sealE nk nn np nb : Nat) : Int) = 0 := by simpa using hc2
      have h0 : sealE nk nn np nb = 0 := by omega
      have hN := sealN_16 h0
      have hi := sealE_inv h0
      have ob := open_back h0 hlp (lk := lk) (ln := ln) (lb := lb)
      refine wc_skip ?_
      refine aq_seq ?_
      refine wc_seq ?_
      refine wc_region ?_
      refine wl_y (y_fieldAddr fd24_0 sz22 rfl) ?_
      refine wl_y (y_load sc22 rfl (c_blk (i := 1) rfl rfl)) ?_
      refine wl_y (y_fieldAddr fd24_1 sz22 rfl) ?_
      refine wl_y (y_load sc22 rfl (c_blk (i := 1) rfl rfl)) ?_
      refine wl_y (y_move rfl) ?_
      refine wl_y (y_fieldAddr fd24_2 sz22 rfl) ?_
      refine wl_y (y_load sc22 rfl (c_blk (i := 1) rfl rfl)) ?_
      refine wl_eff (e_call0 cf9 rfl (fun w m => open_ok w ak an r2.1 ab nk ck nn cn (sealN nk nn np nb) r2.2 nb cb lk ln (sealO nk nn np nb lk ln lp lb) lb (m.rd0 hk) (m.rd0 hn) ((m.rd_sl (i := 0) rfl : Rd _ _ (sealN nk nn np nb) 1 ((sealO nk nn np nb lk ln lp lb).map b8))) (m.rd0 hb) (m.sl_le (i := 0) rfl) (by omega))) rfl trivial rfl ?_
      intro r3
      rw [show ((openE nk nn (sealN nk nn np nb) nb lk ln (sealO nk nn np nb lk ln lp lb) lb : Nat) : Int) = 0 from ob.1, show (openN nk nn (sealN nk nn np nb) nb lk ln (sealO nk nn np nb lk ln lp lb) lb) = np from ob.2.1, show (openO nk nn (sealN nk nn np nb) nb lk ln (sealO nk nn np nb lk ln lp lb) lb) = lp from ob.2.2]
      refine wl_y (y_move rfl) ?_
      refine wl_y (y_extract rfl rfl) ?_
      refine wl_y (y_extract rfl rfl) ?_
      refine wl_y (y_assign rfl) ?_
      refine wl_y (y_assign rfl) ?_
      refine wl_nil ?_
      refine aq_seq ?_
      refine wc_seq ?_
      refine wc_region ?_
      refine wl_y (y_move rfl) ?_
      refine wl_y (y_bin rfl rfl (show bin .eql (ki 0) (ki 0) = some (kb true) from rfl)) ?_
      refine wl_y (y_move rfl) ?_
      refine wl_y (y_move rfl) ?_ (hg := ⟨_, rfl, rfl⟩)
      refine wl_y (y_len_sl sl22 (m := (sealN nk nn np nb)) rfl rfl) ?_ (hg := ⟨_, rfl, rfl⟩)
      refine wl_y (y_move rfl) ?_ (hg := ⟨_, rfl, rfl⟩)
      refine wl_y (y_len_sl sl22 (m := np) rfl rfl) ?_ (hg := ⟨_, rfl, rfl⟩)
      refine wl_y (y_bin rfl rfl (addn_i64 (a := np) (b := 16) (by omega))) ?_ (hg := ⟨_, rfl, rfl⟩)
      refine wl_y (y_bin rfl rfl eql_i64) ?_ (hg := ⟨_, rfl, rfl⟩)
      refine wl_re (t := 60) (v' := kb (true)) rfl (congrArg kb (by rw [hN]; exact beq_self_eq_true _)) ?_
      refine wl_y (y_pick (b := true) rfl rfl) ?_
      refine wl_y (y_move rfl) ?_
      refine wl_y (y_move rfl) ?_ (hg := ⟨_, rfl, rfl⟩)
      refine wl_y (y_move rfl) ?_ (hg := ⟨_, rfl, rfl⟩)
      refine wl_eff (e_call0 cf10 rfl (fun w m => SameBytes_ok w r3.1 ap np r3.2 np cp lp lp ((m.rd_sl (i := 0) rfl : Rd _ _ np 1 (lp.map b8))) (m.rd0 hp) (by omega))) rfl ⟨_, rfl, rfl⟩ rfl ?_
      intro _
      refine wl_re (t := 65) (v' := kb (true)) rfl (congrArg kb (beq_self_eq_true _)) ?_
      refine wl_y (y_pick (b := true) rfl rfl) ?_
      refine wl_y (y_assign rfl) ?_
      refine wl_nil ?_
      refine aq_seq ?_
      refine wc_ret ?_
      refine aq_return (.inl rfl) rfl (⟨_, _, rfl, rfl, rfl⟩) ?_
      intro w' m
      exact ⟨(), rfl, m.pick (is := []) rfl (by decide)⟩

theorem tagl_ok (w : World) (ak an ap ab : Option Addr) (nk ck nn cn np cp nb cb : Nat) (lk ln lp lb : List UInt8) (hk : Rd w ak nk 1 (lk.map b8)) (hn : Rd w an nn 1 (ln.map b8)) (hp : Rd w ap np 1 (lp.map b8)) (hb : Rd w ab nb 1 (lb.map b8)) (h1 : nk ≤ 140737488355328) (h2 : nn ≤ 140737488355328) (h3 : np ≤ 140737488355328) (h4 : nb ≤ 140737488355328) (la : List UInt8) (hla : la.length = 2) :
    Calls Try.prog 4 #[.agg (#[.slice ak nk ck, .slice an nn cn, .slice ab nb cb]), .slice ap np cp, .agg (arr b8 la)] w (Ret (fun _ : Unit => kb true) (fun _ => Mem w [] [])) := by
  have hlk := hk.len
  have hln := hn.len
  have hlp := hp.len
  have hlb := hb.len
  have hE := sealE_cases nk nn np nb
  have hNO := sealO_len nk nn np nb hlp (lk := lk) (ln := ln) (lb := lb)
  have ht := mod16 (la.getD 0 0)
  refine calls_of Try.func4 rfl rfl (L := [(0, .agg (#[.slice ak nk ck, .slice an nn cn, .slice ab nb cb])), (1, .slice ap np cp), (2, .agg (arr b8 la))]) ⟨rfl, rfl, rfl, trivial⟩ (m := 99) (Nat.le_of_ble_eq_true rfl) (M := Mem w [] []) (Mem.refl w) ?_
  refine wc_seq ?_
  refine wc_region ?_
  refine wl_eff (e_box (cs := #[.slice ak nk ck, .slice an nn cn, .slice ab nb cb]) rfl) rfl trivial rfl ?_
  intro b1
  refine wl_eff (e_box (cs := arr b8 la) rfl) rfl trivial rfl ?_
  intro b2
  refine wl_y (y_assign rfl) ?_
  refine wl_nil ?_
  refine aq_seq ?_
  refine wc_seq ?_
  refine wc_seq ?_
  refine wc_region ?_
  refine wl_eff (e_call0 cf6 rfl (fun w m => alive_ok w)) rfl trivial rfl ?_
  intro _
  refine wl_y (y_not rfl) ?_
  refine wl_y (y_move rfl) ?_
  refine wl_y (y_loadall ag24 rfl (i := 1) rfl rfl) ?_ (hg := ⟨_, rfl, rfl⟩)
  refine wl_y (y_move rfl) ?_ (hg := ⟨_, rfl, rfl⟩)
  refine wl_eff (e_call0 cf7 rfl (fun w m => great_ok w ak an ap ab nk ck nn cn np cp nb cb (by omega) (by omega) (by omega) (by omega))) rfl ⟨_, rfl, rfl⟩ rfl ?_
  intro _
  refine wl_y (y_pick (b := false) rfl rfl) ?_
  refine wl_nil ?_
  refine aq_seq ?_
  refine wc_if rfl (fun hc1 => ?_) (fun hc1 => ?_)
  · have hb1 : greatP nk nn np nb := by simpa using hc1
    refine wc_seq ?_
    refine wc_region ?_
    refine wl_eff (e_call0 cf6 rfl (fun w m => alive_ok w)) rfl trivial rfl ?_
    intro _
    refine wl_y (y_assign rfl) ?_
    refine wl_nil ?_
    refine aq_seq ?_
    refine wc_ret ?_
    refine aq_thru_ret ?_
    refine aq_return (.inl rfl) rfl (⟨_, _, rfl, rfl, rfl⟩) ?_
    intro w' m
    exact ⟨(), rfl, m.pick (is := []) rfl (by decide)⟩
  · have hb1 : ¬ (greatP nk nn np nb) := by simpa using hc1
    refine wc_skip ?_
    refine aq_seq ?_
    refine wc_seq ?_
    refine wc_region ?_
    refine wl_y (y_fieldAddr fd24_0 sz22 rfl) ?_
    refine wl_y (y_load sc22 rfl (c_blk (i := 1) rfl rfl)) ?_
    refine wl_y (y_fieldAddr fd24_1 sz22 rfl) ?_
    refine wl_y (y_load sc22 rfl (c_blk (i := 1) rfl rfl)) ?_
    refine wl_y (y_move rfl) ?_
    refine wl_y (y_fieldAddr fd24_2 sz22 rfl) ?_
    refine wl_y (y_load sc22 rfl (c_blk (i := 1) rfl rfl)) ?_
    refine wl_eff (e_call0 cf8 rfl (fun w m => seal_ok w ak an ap ab nk ck nn cn np cp nb cb lk ln lp lb (m.rd0 hk) (m.rd0 hn) (m.rd0 hp) (m.rd0 hb))) rfl trivial rfl ?_
    intro r3
    refine wl_use (p := (sealN nk nn np nb) ≤ r3.2) (fun w m => m.sl_le (i := 0) rfl) (fun hcap_r3 => ?_)
    refine wl_y (y_move rfl) ?_
    refine wl_y (y_extract rfl rfl) ?_
    refine wl_y (y_extract rfl rfl) ?_
    refine wl_y (y_assign rfl) ?_
    refine wl_y (y_assign rfl) ?_
    refine wl_nil ?_
    refine aq_seq ?_
    refine wc_seq ?_
    refine wc_seq ?_
    refine wc_region ?_
    refine wl_y (y_move rfl) ?_
    refine wl_y (y_bin rfl rfl neq_i64) ?_
    refine wl_nil ?_
    refine aq_seq ?_
    refine wc_if rfl (fun hc2 => ?_) (fun hc2 => ?_)
    · have hb2 : ¬ (((sealE nk nn np nb : Nat) : Int) = 0) := by simpa using hc2
      refine wc_seq ?_
      refine wc_region ?_
      refine wl_y (y_assign rfl) ?_
      refine wl_nil ?_
      refine aq_seq ?_
      refine wc_ret ?_
      refine aq_thru_ret ?_
      refine aq_return (.inl rfl) rfl (⟨_, _, rfl, rfl, rfl⟩) ?_
      intro w' m
      exact ⟨(), rfl, m.pick (is := []) rfl (by decide)⟩
    · have hb2 : ((sealE nk nn np nb : Nat) : Int) = 0 := by simpa using hc2
      have h0 : sealE nk nn np nb = 0 := by omega
      have hN := sealN_16 h0
      have hi := sealE_inv h0
      refine wc_skip ?_
      refine aq_seq ?_
      refine wc_seq ?_
      refine wc_drawM [(0, .q), (1, .q), (2, .q), (3, .q), (4, .q), (5, .q), (6, .q), (7, .q), (8, .q), (9, .q), (10, .q), (11, .q), (12, .q), (13, .q), (14, .q), (15, .e), (16, .q), (17, .q), (18, .q), (19, .q), (20, .q)] (by kernel_rfl) (by kernel_rfl) Mem.closed ?_
      refine wp_q rfl Mem.closed (fun _ h => h) Mem.closed rfl (q_of_yld (y_fieldAddr fd24_0 sz22 rfl)) trivial ?_
      refine wp_q rfl Mem.closed (fun _ h => h) Mem.closed rfl (q_of_yld (y_load sc22 rfl (c_blk (i := 2) rfl rfl))) trivial ?_
      refine wp_q rfl Mem.closed (fun _ h => h) Mem.closed rfl (q_of_yld (y_fieldAddr fd24_1 sz22 rfl)) trivial ?_
      refine wp_q rfl Mem.closed (fun _ h => h) Mem.closed rfl (q_of_yld (y_load sc22 rfl (c_blk (i := 2) rfl rfl))) trivial ?_
      refine wp_q rfl Mem.closed (fun _ h => h) Mem.closed rfl (q_of_yld (y_move rfl)) trivial ?_
      refine wp_q rfl Mem.closed (fun _ h => h) Mem.closed rfl (q_of_yld (y_move rfl)) trivial ?_
      refine wp_q rfl Mem.closed (fun _ h => h) Mem.closed rfl (q_of_yld (y_len_sl sl22 (m := (sealN nk nn np nb)) rfl rfl)) trivial ?_
      refine wp_q rfl Mem.closed (fun _ h => h) Mem.closed rfl (q_of_yld (y_indexAddr_ar ar31 sz5 rfl rfl (by omega) (by omega) 0 (by omega))) trivial ?_
      refine wp_q rfl Mem.closed (fun _ h => h) Mem.closed rfl (q_of_yld (y_load sc5 rfl (c_blk (i := 1) rfl (arr_get (gd 0 (by first | omega | (simp [*]; done))))))) trivial ?_
      refine wp_q rfl Mem.closed (fun _ h => h) Mem.closed rfl (q_of_yld (y_bin rfl rfl (rem_u8 (la.getD 0 0) 16 (by decide)))) trivial ?_
      refine wp_q rfl Mem.closed (fun _ h => h) Mem.closed rfl (q_of_yld (y_cv rfl us5 ui3 (congrArg (Value.int .i64) (cv_u8_i64 (la.getD 0 0 % 16))))) trivial ?_
      refine wp_q rfl Mem.closed (fun _ h => h) Mem.closed rfl (q_of_yld (y_bin rfl rfl (subn_i64 (a := (sealN nk nn np nb)) (b := (la.getD 0 0 % 16).toNat) (by omega) (by omega)))) trivial ?_
      refine wp_q rfl Mem.closed (fun _ h => h) Mem.closed rfl (q_of_yld (y_slice_slo sl22 sz5 rfl r3.2 (sealN nk nn np nb) ((sealN nk nn np nb) - ((la.getD 0 0 % 16).toNat)) ((sealN nk nn np nb) - ((la.getD 0 0 % 16).toNat)) rfl rfl ⟨_, _, rfl, by first | rfl | omega⟩ (by simp) (by omega) (by omega) (by omega) (by omega))) trivial ?_
      refine wp_q rfl Mem.closed (fun _ h => h) Mem.closed rfl (q_of_yld (y_fieldAddr fd24_2 sz22 rfl)) trivial ?_
      refine wp_q rfl Mem.closed (fun _ h => h) Mem.closed rfl (q_of_yld (y_load sc22 rfl (c_blk (i := 2) rfl rfl))) trivial ?_
      refine wp_e (fun _ => _) rfl rfl rfl (e_call0 cf9 rfl (fun w m => open_ok w ak an (sub r3.1 (r3.2 - ((sealN nk nn np nb) - ((la.getD 0 0 % 16).toNat))) ((sealN nk nn np nb) - ((la.getD 0 0 % 16).toNat))) ab nk ck nn cn ((sealN nk nn np nb) - ((sealN nk nn np nb) - ((la.getD 0 0 % 16).toNat))) (r3.2 - ((sealN nk nn np nb) - ((la.getD 0 0 % 16).toNat))) nb cb lk ln (((sealO nk nn np nb lk ln lp lb).drop ((sealN nk nn np nb) - ((la.getD 0 0 % 16).toNat))).take ((sealN nk nn np nb) - ((sealN nk nn np nb) - ((la.getD 0 0 % 16).toNat)))) lb (m.rd0 hk) (m.rd0 hn) (((m.rd_sl (i := 0) rfl : Rd _ _ (sealN nk nn np nb) 1 ((sealO nk nn np nb lk ln lp lb).map b8))).sub1 (l := ((sealN nk nn np nb) - ((la.getD 0 0 % 16).toNat))) (k := ((sealN nk nn np nb) - ((sealN nk nn np nb) - ((la.getD 0 0 % 16).toNat)))) (m := (r3.2 - ((sealN nk nn np nb) - ((la.getD 0 0 % 16).toNat)))) (by omega) (by omega)) (m.rd0 hb) (by omega) (by omega))) trivial (fun _ => Mem.closed) (fun _ _ h => h) (fun _ _ h => (Mem.pick h (is := [1, 2, 3]) ⟨_, _, rfl, rfl, ⟨_, _, rfl, rfl, ⟨_, _, rfl, rfl, rfl⟩⟩⟩ (by decide))) (fun _ => Mem.closed) ?_
      intro r4
      rw [show ((openE nk nn ((sealN nk nn np nb) - ((sealN nk nn np nb) - ((la.getD 0 0 % 16).toNat))) nb lk ln (((sealO nk nn np nb lk ln lp lb).drop ((sealN nk nn np nb) - ((la.getD 0 0 % 16).toNat))).take ((sealN nk nn np nb) - ((sealN nk nn np nb) - ((la.getD 0 0 % 16).toNat)))) lb : Nat) : Int) = 4 from open4E hi.1 hi.2.1 (by omega), show (openN nk nn ((sealN nk nn np nb) - ((sealN nk nn np nb) - ((la.getD 0 0 % 16).toNat))) nb lk ln (((sealO nk nn np nb lk ln lp lb).drop ((sealN nk nn np nb) - ((la.getD 0 0 % 16).toNat))).take ((sealN nk nn np nb) - ((sealN nk nn np nb) - ((la.getD 0 0 % 16).toNat)))) lb) = 0 from open4N hi.1 hi.2.1 (by omega), show (openO nk nn ((sealN nk nn np nb) - ((sealN nk nn np nb) - ((la.getD 0 0 % 16).toNat))) nb lk ln (((sealO nk nn np nb lk ln lp lb).drop ((sealN nk nn np nb) - ((la.getD 0 0 % 16).toNat))).take ((sealN nk nn np nb) - ((sealN nk nn np nb) - ((la.getD 0 0 % 16).toNat)))) lb) = [] from open4O hi.1 hi.2.1 (by omega)]
      refine wp_q rfl Mem.closed (fun _ h => (Mem.pick h (is := [1, 2, 3]) ⟨_, _, rfl, rfl, ⟨_, _, rfl, rfl, ⟨_, _, rfl, rfl, rfl⟩⟩⟩ (by decide))) Mem.closed rfl (q_of_yld (y_move rfl)) trivial ?_
      refine wp_q rfl Mem.closed (fun _ h => (Mem.pick h (is := [1, 2, 3]) ⟨_, _, rfl, rfl, ⟨_, _, rfl, rfl, ⟨_, _, rfl, rfl, rfl⟩⟩⟩ (by decide))) Mem.closed rfl (q_of_yld (y_extract rfl rfl)) trivial ?_
      refine wp_q rfl Mem.closed (fun _ h => (Mem.pick h (is := [1, 2, 3]) ⟨_, _, rfl, rfl, ⟨_, _, rfl, rfl, ⟨_, _, rfl, rfl, rfl⟩⟩⟩ (by decide))) Mem.closed rfl (q_of_yld (y_extract rfl rfl)) trivial ?_
      refine wp_q rfl Mem.closed (fun _ h => (Mem.pick h (is := [1, 2, 3]) ⟨_, _, rfl, rfl, ⟨_, _, rfl, rfl, ⟨_, _, rfl, rfl, rfl⟩⟩⟩ (by decide))) Mem.closed rfl (q_of_yld (y_assign rfl)) trivial ?_
      refine wp_q rfl Mem.closed (fun _ h => (Mem.pick h (is := [1, 2, 3]) ⟨_, _, rfl, rfl, ⟨_, _, rfl, rfl, ⟨_, _, rfl, rfl, rfl⟩⟩⟩ (by decide))) Mem.closed rfl (q_of_yld (y_assign rfl)) trivial ?_
      refine wp_nil ?_
      refine aq_seq ?_
      refine wc_seq ?_
      refine wc_seq ?_
      refine wc_region ?_
      refine wl_y (y_indexAddr_ar ar31 sz5 rfl rfl (by omega) (by omega) 1 (by omega)) ?_
      refine wl_y (y_load sc5 rfl (c_blk (i := 2) rfl (arr_get (gd 0 (by first | omega | (simp [*]; done)))))) ?_
      refine wl_y (y_bin rfl rfl (eql_u8 (la.getD 1 0) 0)) ?_
      refine wl_nil ?_
      refine aq_seq ?_
      refine wc_if rfl (fun hc3 => ?_) (fun hc3 => ?_)
      · have hb3 : (la.getD 1 0) = 0 := by simpa using hc3
        refine wc_seq ?_
        refine wc_region ?_
        refine wl_y (y_move rfl) ?_
        refine wl_y (y_bin rfl rfl (show bin .eql (ki 4) (ki 4) = some (kb true) from rfl)) ?_
        refine wl_y (y_assign rfl) ?_
        refine wl_nil ?_
        refine aq_seq ?_
        refine wc_ret ?_
        refine aq_thru_ret ?_
        refine aq_return (.inl rfl) rfl (⟨_, _, rfl, rfl, rfl⟩) ?_
        intro w' m
        exact ⟨(), rfl, m.pick (is := []) rfl (by decide)⟩
      · have hb3 : ¬ ((la.getD 1 0) = 0) := by simpa using hc3
        have h10 : la.getD 1 0 ≠ 0 := hb3
        refine wc_skip ?_
        refine aq_seq ?_
        refine wc_seq ?_
        refine wc_region ?_
        refine wl_y (y_move rfl) ?_
        refine wl_y (y_len_sl sl22 (m := (sealN nk nn np nb)) rfl rfl) ?_
        refine wl_y (y_bin rfl rfl (subn_i64 (a := (sealN nk nn np nb)) (b := 1) (by omega) (by omega))) ?_
        refine wl_y (y_indexAddr_ar ar31 sz5 rfl rfl (by omega) (by omega) 0 (by omega)) ?_
        refine wl_y (y_load sc5 rfl (c_blk (i := 2) rfl (arr_get (gd 0 (by first | omega | (simp [*]; done)))))) ?_
        refine wl_y (y_bin rfl rfl (rem_u8 (la.getD 0 0) 16 (by decide))) ?_
        refine wl_y (y_cv rfl us5 ui3 (congrArg (Value.int .i64) (cv_u8_i64 (la.getD 0 0 % 16)))) ?_
        refine wl_y (y_bin rfl rfl (subn_i64 (a := ((sealN nk nn np nb) - 1)) (b := (la.getD 0 0 % 16).toNat) (by omega) (by omega))) ?_
        refine wl_y (y_assign rfl) ?_
        refine wl_nil ?_
        refine aq_seq ?_
        refine wc_seq ?_
        refine wc_drawM [(0, .q), (1, .q), (2, .q), (3, .q), (4, .q), (5, .q), (6, .q), (7, .q), (8, .q), (9, .q), (10, .l)] (by kernel_rfl) (by kernel_rfl) Mem.closed ?_
        refine wp_q rfl Mem.closed (fun _ h => h) Mem.closed rfl (q_of_yld (y_move rfl)) trivial ?_
        refine wp_q rfl Mem.closed (fun _ h => h) Mem.closed rfl (q_of_yld (y_move rfl)) trivial ?_
        refine wp_q rfl Mem.closed (fun _ h => h) Mem.closed rfl (q_of_yld (y_move rfl)) trivial ?_
        refine wp_q rfl Mem.closed (fun _ h => h) Mem.closed rfl (q_of_yld (y_move rfl)) trivial ?_
        refine wp_q rfl Mem.closed (fun _ h => h) Mem.closed rfl (q_of_yld (y_indexAddr_sl sl22 sz5 rfl rfl (by omega) (by omega) (fun w m => rd_isSome ((m.rd_sl (i := 1) rfl : Rd _ _ (sealN nk nn np nb) 1 ((sealO nk nn np nb lk ln lp lb).map b8))) (by omega) (by decide)) (((sealN nk nn np nb) - 1) - ((la.getD 0 0 % 16).toNat)) (by omega))) trivial ?_
        refine wp_q rfl Mem.closed (fun _ h => h) Mem.closed rfl (q_of_yld (y_load sc5 rfl (c_of (fun w m => (m.rd_sl (i := 1) rfl : Rd _ _ (sealN nk nn np nb) 1 ((sealO nk nn np nb lk ln lp lb).map b8))) (map_get (gd 0 (by first | omega | (simp [*]; done))))))) trivial ?_
        refine wp_q rfl Mem.closed (fun _ h => h) Mem.closed rfl (q_of_yld (y_indexAddr_ar ar31 sz5 rfl rfl (by omega) (by omega) 1 (by omega))) trivial ?_
        refine wp_q rfl Mem.closed (fun _ h => h) Mem.closed rfl (q_of_yld (y_load sc5 rfl (c_blk (i := 2) rfl (arr_get (gd 0 (by first | omega | (simp [*]; done))))))) trivial ?_
        refine wp_q rfl Mem.closed (fun _ h => h) Mem.closed rfl (q_of_yld (y_bin rfl rfl (xor_u8 ((sealO nk nn np nb lk ln lp lb).getD (((sealN nk nn np nb) - 1) - ((la.getD 0 0 % 16).toNat)) 0) (la.getD 1 0)))) trivial ?_
        refine wp_q rfl Mem.closed (fun _ h => h) Mem.closed rfl (q_of_yld (y_indexAddr_sl sl22 sz5 rfl rfl (by omega) (by omega) (fun w m => rd_isSome ((m.rd_sl (i := 1) rfl : Rd _ _ (sealN nk nn np nb) 1 ((sealO nk nn np nb lk ln lp lb).map b8))) (by omega) (by decide)) (((sealN nk nn np nb) - 1) - ((la.getD 0 0 % 16).toNat)) (by omega))) trivial ?_
        refine wp_l rfl rfl rfl (e_store_slm sz5 (x' := (((sealO nk nn np nb lk ln lp lb).getD (((sealN nk nn np nb) - 1) - ((la.getD 0 0 % 16).toNat)) 0) ^^^ (la.getD 1 0))) rfl rfl (i := 1) rfl (by omega) ⟨_, rfl, rfl⟩) trivial ?_
        intro _
        refine aq_seq ?_
        refine wc_seq ?_
        refine wc_region ?_
        refine wl_y (y_fieldAddr fd24_0 sz22 rfl) ?_
        refine wl_y (y_load sc22 rfl (c_blk (i := 3) rfl rfl)) ?_
        refine wl_y (y_fieldAddr fd24_1 sz22 rfl) ?_
        refine wl_y (y_load sc22 rfl (c_blk (i := 3) rfl rfl)) ?_
        refine wl_y (y_move rfl) ?_
        refine wl_y (y_fieldAddr fd24_2 sz22 rfl) ?_
        refine wl_y (y_load sc22 rfl (c_blk (i := 3) rfl rfl)) ?_
        refine wl_eff (e_call0 cf9 rfl (fun w m => open_ok w ak an r3.1 ab nk ck nn cn (sealN nk nn np nb) r3.2 nb cb lk ln ((sealO nk nn np nb lk ln lp lb).set (((sealN nk nn np nb) - 1) - ((la.getD 0 0 % 16).toNat)) (((sealO nk nn np nb lk ln lp lb).getD (((sealN nk nn np nb) - 1) - ((la.getD 0 0 % 16).toNat)) 0) ^^^ (la.getD 1 0))) lb (m.rd0 hk) (m.rd0 hn) ((m.rd_sl (i := 1) rfl : Rd _ _ (sealN nk nn np nb) 1 (((sealO nk nn np nb lk ln lp lb).set (((sealN nk nn np nb) - 1) - ((la.getD 0 0 % 16).toNat)) (((sealO nk nn np nb lk ln lp lb).getD (((sealN nk nn np nb) - 1) - ((la.getD 0 0 % 16).toNat)) 0) ^^^ (la.getD 1 0))).map b8))) (m.rd0 hb) (m.sl_le (i := 1) rfl) (by omega))) rfl trivial rfl ?_
        intro r5
        rw [show ((openE nk nn (sealN nk nn np nb) nb lk ln ((sealO nk nn np nb lk ln lp lb).set (((sealN nk nn np nb) - 1) - ((la.getD 0 0 % 16).toNat)) (((sealO nk nn np nb lk ln lp lb).getD (((sealN nk nn np nb) - 1) - ((la.getD 0 0 % 16).toNat)) 0) ^^^ (la.getD 1 0))) lb : Nat) : Int) = 11 from (open_other h0 hlp ht h10).1, show (openN nk nn (sealN nk nn np nb) nb lk ln ((sealO nk nn np nb lk ln lp lb).set (((sealN nk nn np nb) - 1) - ((la.getD 0 0 % 16).toNat)) (((sealO nk nn np nb lk ln lp lb).getD (((sealN nk nn np nb) - 1) - ((la.getD 0 0 % 16).toNat)) 0) ^^^ (la.getD 1 0))) lb) = 0 from (open_other h0 hlp ht h10).2.1, show (openO nk nn (sealN nk nn np nb) nb lk ln ((sealO nk nn np nb lk ln lp lb).set (((sealN nk nn np nb) - 1) - ((la.getD 0 0 % 16).toNat)) (((sealO nk nn np nb lk ln lp lb).getD (((sealN nk nn np nb) - 1) - ((la.getD 0 0 % 16).toNat)) 0) ^^^ (la.getD 1 0))) lb) = [] from (open_other h0 hlp ht h10).2.2]
        refine wl_y (y_move rfl) ?_
        refine wl_y (y_extract rfl rfl) ?_
        refine wl_y (y_extract rfl rfl) ?_
        refine wl_y (y_assign rfl) ?_
        refine wl_y (y_assign rfl) ?_
        refine wl_nil ?_
        refine aq_seq ?_
        refine wc_seq ?_
        refine wc_region ?_
        refine wl_y (y_move rfl) ?_
        refine wl_y (y_bin rfl rfl (show bin .eql (ki 4) (ki 4) = some (kb true) from rfl)) ?_
        refine wl_y (y_move rfl) ?_
        refine wl_y (y_move rfl) ?_ (hg := ⟨_, rfl, rfl⟩)
        refine wl_y (y_bin rfl rfl (show bin .eql (ki 11) (ki 11) = some (kb true) from rfl)) ?_ (hg := ⟨_, rfl, rfl⟩)
        refine wl_y (y_pick (b := true) rfl rfl) ?_
        refine wl_y (y_move rfl) ?_
        refine wl_y (y_move rfl) ?_ (hg := ⟨_, rfl, rfl⟩)
        refine wl_y (y_len_sl sl22 (m := 0) rfl rfl) ?_ (hg := ⟨_, rfl, rfl⟩)
        refine wl_y (y_bin rfl rfl (show bin .eql (ki 0) (ki 0) = some (kb true) from rfl)) ?_ (hg := ⟨_, rfl, rfl⟩)
        refine wl_y (y_pick (b := true) rfl rfl) ?_
        refine wl_y (y_assign rfl) ?_
        refine wl_nil ?_
        refine aq_seq ?_
        refine wc_ret ?_
        refine aq_return (.inl rfl) rfl (⟨_, _, rfl, rfl, rfl⟩) ?_
        intro w' m
        exact ⟨(), rfl, m.pick (is := []) rfl (by decide)⟩

theorem made_ok (w : World) (ak an ap ab : Option Addr) (nk ck nn cn np cp nb cb : Nat) (lk ln lp lb : List UInt8) (hk : Rd w ak nk 1 (lk.map b8)) (hn : Rd w an nn 1 (ln.map b8)) (hp : Rd w ap np 1 (lp.map b8)) (hb : Rd w ab nb 1 (lb.map b8)) (h1 : nk ≤ 140737488355328) (h2 : nn ≤ 140737488355328) (h3 : np ≤ 140737488355328) (h4 : nb ≤ 140737488355328) :
    Calls Try.prog 5 #[.agg (#[.slice ak nk ck, .slice an nn cn, .slice ab nb cb]), .slice ap np cp] w (Ret (fun _ : Unit => kb true) (fun _ => Mem w [] [])) := by
  have hlk := hk.len
  have hln := hn.len
  have hlp := hp.len
  have hlb := hb.len
  have hE := sealE_cases nk nn np nb
  have hNO := sealO_len nk nn np nb hlp (lk := lk) (ln := ln) (lb := lb)
  refine calls_of Try.func5 rfl rfl (L := [(0, .agg (#[.slice ak nk ck, .slice an nn cn, .slice ab nb cb])), (1, .slice ap np cp)]) ⟨rfl, rfl, trivial⟩ (m := 144) (Nat.le_of_ble_eq_true rfl) (M := Mem w [] []) (Mem.refl w) ?_
  refine wc_seq ?_
  refine wc_region ?_
  refine wl_eff (e_box (cs := #[.slice ak nk ck, .slice an nn cn, .slice ab nb cb]) rfl) rfl trivial rfl ?_
  intro b1
  refine wl_y (y_assign rfl) ?_
  refine wl_nil ?_
  refine aq_seq ?_
  refine wc_seq ?_
  refine wc_seq ?_
  refine wc_region ?_
  refine wl_eff (e_call0 cf6 rfl (fun w m => alive_ok w)) rfl trivial rfl ?_
  intro _
  refine wl_y (y_not rfl) ?_
  refine wl_y (y_move rfl) ?_
  refine wl_y (y_loadall ag24 rfl (i := 0) rfl rfl) ?_ (hg := ⟨_, rfl, rfl⟩)
  refine wl_y (y_move rfl) ?_ (hg := ⟨_, rfl, rfl⟩)
  refine wl_eff (e_call0 cf7 rfl (fun w m => great_ok w ak an ap ab nk ck nn cn np cp nb cb (by omega) (by omega) (by omega) (by omega))) rfl ⟨_, rfl, rfl⟩ rfl ?_
  intro _
  refine wl_y (y_pick (b := false) rfl rfl) ?_
  refine wl_nil ?_
  refine aq_seq ?_
  refine wc_if rfl (fun hc1 => ?_) (fun hc1 => ?_)
  · have hb1 : greatP nk nn np nb := by simpa using hc1
    refine wc_seq ?_
    refine wc_region ?_
    refine wl_eff (e_call0 cf6 rfl (fun w m => alive_ok w)) rfl trivial rfl ?_
    intro _
    refine wl_y (y_assign rfl) ?_
    refine wl_nil ?_
    refine aq_seq ?_
    refine wc_ret ?_
    refine aq_thru_ret ?_
    refine aq_return (.inl rfl) rfl (⟨_, _, rfl, rfl, rfl⟩) ?_
    intro w' m
    exact ⟨(), rfl, m.pick (is := []) rfl (by decide)⟩
  · have hb1 : ¬ (greatP nk nn np nb) := by simpa using hc1
    have hng := hb1
    refine wc_skip ?_
    refine aq_seq ?_
    refine wc_seq ?_
    refine wc_region ?_
    refine wl_y (y_fieldAddr fd24_0 sz22 rfl) ?_
    refine wl_y (y_load sc22 rfl (c_blk (i := 0) rfl rfl)) ?_
    refine wl_y (y_fieldAddr fd24_1 sz22 rfl) ?_
    refine wl_y (y_load sc22 rfl (c_blk (i := 0) rfl rfl)) ?_
    refine wl_y (y_move rfl) ?_
    refine wl_y (y_fieldAddr fd24_2 sz22 rfl) ?_
    refine wl_y (y_load sc22 rfl (c_blk (i := 0) rfl rfl)) ?_
    refine wl_eff (e_call0 cf8 rfl (fun w m => seal_ok w ak an ap ab nk ck nn cn np cp nb cb lk ln lp lb (m.rd0 hk) (m.rd0 hn) (m.rd0 hp) (m.rd0 hb))) rfl trivial rfl ?_
    intro r2
    refine wl_use (p := (sealN nk nn np nb) ≤ r2.2) (fun w m => m.sl_le (i := 0) rfl) (fun hcap_r2 => ?_)
    refine wl_y (y_move rfl) ?_
    refine wl_y (y_extract rfl rfl) ?_
    refine wl_y (y_extract rfl rfl) ?_
    refine wl_y (y_assign rfl) ?_
    refine wl_y (y_assign rfl) ?_
    refine wl_nil ?_
    refine aq_seq ?_
    refine wc_seq ?_
    refine wc_seq ?_
    refine wc_region ?_
    refine wl_y (y_move rfl) ?_
    refine wl_y (y_bin rfl rfl neq_i64) ?_
    refine wl_nil ?_
    refine aq_seq ?_
    refine wc_if rfl (fun hc2 => ?_) (fun hc2 => ?_)
    · have hb2 : ¬ (((sealE nk nn np nb : Nat) : Int) = 0) := by simpa using hc2
      refine wc_seq ?_
      refine wc_region ?_
      refine wl_y (y_assign rfl) ?_
      refine wl_nil ?_
      refine aq_seq ?_
      refine wc_ret ?_
      refine aq_thru_ret ?_
      refine aq_return (.inl rfl) rfl (⟨_, _, rfl, rfl, rfl⟩) ?_
      intro w' m
      exact ⟨(), rfl, m.pick (is := []) rfl (by decide)⟩
    · have hb2 : ((sealE nk nn np nb : Nat) : Int) = 0 := by simpa using hc2
      have h0 : sealE nk nn np nb = 0 := by omega
      have hN := sealN_16 h0
      have hi := sealE_inv h0
      have hsm := great_small hng h0
      refine wc_skip ?_
      refine aq_seq ?_
      refine wc_seq ?_
      refine wc_region ?_
      refine wl_eff (e_alloc (cs := arr b8 (List.replicate 32 0)) zn33) rfl trivial rfl ?_
      intro b3
      refine wl_eff (e_alloc (cs := arr b8 (List.replicate 32 0)) zn33) rfl trivial rfl ?_
      intro b4
      refine wl_nil ?_
      refine aq_seq ?_
      refine wc_seq ?_
      refine wc_region ?_
      refine wl_eff (e_alloc (cs := arr b8 (List.replicate 12 0)) zn34) rfl trivial rfl ?_
      intro b5
      refine wl_nil ?_
      refine aq_seq ?_
      refine wc_seq ?_
      refine wc_seq ?_
      refine wc_region ?_
      refine wl_y (y_assign rfl) ?_
      refine wl_nil ?_
      refine aq_seq ?_
      refine wc_block ?_
      refine wc_loop (γ := Nat) (fun i => [(1, .slice ap np cp), (2, .pointer (some ⟨b1, 0, none⟩)), (4, kb (false)), (5, .slice r2.1 (sealN nk nn np nb) r2.2), (7, .pointer (some ⟨b3, 0, none⟩)), (8, .pointer (some ⟨b4, 0, none⟩)), (9, .pointer (some ⟨b5, 0, none⟩)), (10, ki ((i : Int)))]) (fun i => Mem w [] [.blk b5 (.cells (arr b8 (List.replicate 12 0)) 34 (0, 0)), .blk b4 (.cells (arr b8 (List.replicate 32 0)) 33 (0, 0)), .blk b3 (.cells (arr b8 (copyTo 32 lk i)) 33 (0, 0)), .sl r2.1 (sealN nk nn np nb) r2.2 5 1 ((sealO nk nn np nb lk ln lp lb).map b8), .blk b1 (.cells (#[.slice ak nk ck, .slice an nn cn, .slice ab nb cb]) 24 (0, 0))]) (fun i => (i ≤ 32)) (fun i => 32 - i) (0) ?_ ⟨rfl, rfl, rfl, rfl, rfl, rfl, rfl, rfl, trivial⟩ (fun _ h => h) ?_
      · omega
      · rintro i hi_
        refine wc_seq ?_
        refine wc_seq ?_
        refine wc_region ?_
        refine wl_y (y_move rfl) ?_
        refine wl_y (y_bin rfl rfl lss_i64) ?_
        refine wl_nil ?_
        refine aq_seq ?_
        refine wc_if rfl (fun hc3 => ?_) (fun hc3 => ?_)
        · have hb3 : (i : Int) < 32 := by simpa using hc3
          refine wc_skip ?_
          refine aq_seq ?_
          refine wc_seq ?_
          refine wc_block ?_
          refine wc_region ?_
          refine wl_y (y_move rfl) ?_
          refine wl_y (y_fieldAddr fd24_0 sz22 rfl) ?_
          refine wl_y (y_load sc22 rfl (c_blk (i := 4) rfl rfl)) ?_
          refine wl_y (y_move rfl) ?_
          refine wl_y (y_indexAddr_sl sl22 sz5 rfl rfl (by omega) (by omega) (fun w m => rd_isSome (m.rd0 hk) (by omega) (by decide)) i (by omega)) ?_
          refine wl_y (y_load sc5 rfl (c_of (fun w m => m.rd0 hk) (map_get (gd 0 (by first | omega | (simp only [copyTo_len, blockF_len, tagF_len, List.length_take] <;> omega) | (simp [*]; done)))))) ?_
          refine wl_y (y_indexAddr_ar ar33 sz5 rfl rfl (by omega) (by omega) i (by omega)) ?_
          refine wl_eff (e_store_arr sz5 rfl (x' := lk.getD i 0) rfl (i := 2) rfl (by first | omega | (simp only [copyTo_len, blockF_len, tagF_len, List.length_take] <;> omega) | (simp [*]; done)) ⟨_, rfl, ⟨_, rfl, rfl⟩⟩) rfl trivial rfl ?_
          intro _
          refine wl_nil ?_
          refine aq_blk_normal ?_
          refine aq_seq ?_
          refine wc_region ?_
          refine wl_y (y_move rfl) ?_
          refine wl_y (y_bin rfl rfl (addn_i64 (a := i) (b := 1) (by omega))) ?_
          refine wl_y (y_assign rfl) ?_
          refine wl_nil ?_
          refine aq_loop (i + 1) ?_ ?_ ⟨rfl, rfl, rfl, rfl, rfl, rfl, rfl, rfl, trivial⟩ (fun _ h => h)
          · omega
          · first | omega | (dsimp only; omega)
        · have hb3 : ¬ ((i : Int) < 32) := by simpa using hc3
          have hi32 : i = 32 := by omega
          subst hi32
          refine wc_mem (M' := Mem w [] [.blk b5 (.cells (arr b8 (List.replicate 12 0)) 34 (0, 0)), .blk b4 (.cells (arr b8 (List.replicate 32 0)) 33 (0, 0)), .blk b3 (.cells (arr b8 lk) 33 (0, 0)), .sl r2.1 (sealN nk nn np nb) r2.2 5 1 ((sealO nk nn np nb lk ln lp lb).map b8), .blk b1 (.cells (#[.slice ak nk ck, .slice an nn cn, .slice ab nb cb]) 24 (0, 0))]) (fun w_ h_ => by have h2 : Mem w [] [.blk b5 (.cells (arr b8 (List.replicate 12 0)) 34 (0, 0)), .blk b4 (.cells (arr b8 (List.replicate 32 0)) 33 (0, 0)), .blk b3 (.cells (arr b8 (copyTo 32 lk 32)) 33 (0, 0)), .sl r2.1 (sealN nk nn np nb) r2.2 5 1 ((sealO nk nn np nb lk ln lp lb).map b8), .blk b1 (.cells (#[.slice ak nk ck, .slice an nn cn, .slice ab nb cb]) 24 (0, 0))] w_ := h_; rw [copy_all (n := 32) (l := lk) (by omega)] at h2; exact h2) ?_
          refine wc_exit ?_
          refine aq_thru_exit ?_
          refine aq_thru_exit ?_
          refine aq_blk_exit ?_
          refine aq_seq ?_
          refine wc_seq ?_
          refine wc_seq ?_
          refine wc_region ?_
          refine wl_y (y_assign rfl) ?_
          refine wl_nil ?_
          refine aq_seq ?_
          refine wc_block ?_
          refine wc_loop (γ := Nat) (fun j => [(1, .slice ap np cp), (2, .pointer (some ⟨b1, 0, none⟩)), (4, kb (false)), (5, .slice r2.1 (sealN nk nn np nb) r2.2), (7, .pointer (some ⟨b3, 0, none⟩)), (8, .pointer (some ⟨b4, 0, none⟩)), (9, .pointer (some ⟨b5, 0, none⟩)), (11, ki ((j : Int)))]) (fun j => Mem w [] [.blk b5 (.cells (arr b8 (copyTo 12 ln j)) 34 (0, 0)), .blk b4 (.cells (arr b8 (List.replicate 32 0)) 33 (0, 0)), .blk b3 (.cells (arr b8 lk) 33 (0, 0)), .sl r2.1 (sealN nk nn np nb) r2.2 5 1 ((sealO nk nn np nb lk ln lp lb).map b8), .blk b1 (.cells (#[.slice ak nk ck, .slice an nn cn, .slice ab nb cb]) 24 (0, 0))]) (fun j => (j ≤ 12)) (fun j => 12 - j) (0) ?_ ⟨rfl, rfl, rfl, rfl, rfl, rfl, rfl, rfl, trivial⟩ (fun _ h => h) ?_
          · omega
          · rintro j hj_
            refine wc_seq ?_
            refine wc_seq ?_
            refine wc_region ?_
            refine wl_y (y_move rfl) ?_
            refine wl_y (y_bin rfl rfl lss_i64) ?_
            refine wl_nil ?_
            refine aq_seq ?_
            refine wc_if rfl (fun hc4 => ?_) (fun hc4 => ?_)
            · have hb4 : (j : Int) < 12 := by simpa using hc4
              refine wc_skip ?_
              refine aq_seq ?_
              refine wc_seq ?_
              refine wc_block ?_
              refine wc_region ?_
              refine wl_y (y_move rfl) ?_
              refine wl_y (y_fieldAddr fd24_1 sz22 rfl) ?_
              refine wl_y (y_load sc22 rfl (c_blk (i := 4) rfl rfl)) ?_
              refine wl_y (y_move rfl) ?_
              refine wl_y (y_indexAddr_sl sl22 sz5 rfl rfl (by omega) (by omega) (fun w m => rd_isSome (m.rd0 hn) (by omega) (by decide)) j (by omega)) ?_
              refine wl_y (y_load sc5 rfl (c_of (fun w m => m.rd0 hn) (map_get (gd 0 (by first | omega | (simp only [copyTo_len, blockF_len, tagF_len, List.length_take] <;> omega) | (simp [*]; done)))))) ?_
              refine wl_y (y_indexAddr_ar ar34 sz5 rfl rfl (by omega) (by omega) j (by omega)) ?_
              refine wl_eff (e_store_arr sz5 rfl (x' := ln.getD j 0) rfl (i := 0) rfl (by first | omega | (simp only [copyTo_len, blockF_len, tagF_len, List.length_take] <;> omega) | (simp [*]; done)) rfl) rfl trivial rfl ?_
              intro _
              refine wl_nil ?_
              refine aq_blk_normal ?_
              refine aq_seq ?_
              refine wc_region ?_
              refine wl_y (y_move rfl) ?_
              refine wl_y (y_bin rfl rfl (addn_i64 (a := j) (b := 1) (by omega))) ?_
              refine wl_y (y_assign rfl) ?_
              refine wl_nil ?_
              refine aq_loop (j + 1) ?_ ?_ ⟨rfl, rfl, rfl, rfl, rfl, rfl, rfl, rfl, trivial⟩ (fun _ h => h)
              · omega
              · first | omega | (dsimp only; omega)
            · have hb4 : ¬ ((j : Int) < 12) := by simpa using hc4
              have hj12 : j = 12 := by omega
              subst hj12
              refine wc_mem (M' := Mem w [] [.blk b5 (.cells (arr b8 ln) 34 (0, 0)), .blk b4 (.cells (arr b8 (List.replicate 32 0)) 33 (0, 0)), .blk b3 (.cells (arr b8 lk) 33 (0, 0)), .sl r2.1 (sealN nk nn np nb) r2.2 5 1 ((sealO nk nn np nb lk ln lp lb).map b8), .blk b1 (.cells (#[.slice ak nk ck, .slice an nn cn, .slice ab nb cb]) 24 (0, 0))]) (fun w_ h_ => by have h2 : Mem w [] [.blk b5 (.cells (arr b8 (copyTo 12 ln 12)) 34 (0, 0)), .blk b4 (.cells (arr b8 (List.replicate 32 0)) 33 (0, 0)), .blk b3 (.cells (arr b8 lk) 33 (0, 0)), .sl r2.1 (sealN nk nn np nb) r2.2 5 1 ((sealO nk nn np nb lk ln lp lb).map b8), .blk b1 (.cells (#[.slice ak nk ck, .slice an nn cn, .slice ab nb cb]) 24 (0, 0))] w_ := h_; rw [copy_all (n := 12) (l := ln) (by omega)] at h2; exact h2) ?_
              refine wc_exit ?_
              refine aq_thru_exit ?_
              refine aq_thru_exit ?_
              refine aq_blk_exit ?_
              refine aq_seq ?_
              refine wc_seq ?_
              refine wc_region ?_
              refine wl_y (y_loadall ag33 rfl (i := 2) rfl (by first | (simp; done) | (simp [*]; done))) ?_
              refine wl_y (y_loadall ag34 rfl (i := 0) rfl (by first | (simp; done) | (simp [*]; done))) ?_
              refine wl_eff (e_call0 cf11 rfl (fun w m => block_ok w lk 0 ln (by first | omega | (simp only [copyTo_len, blockF_len, tagF_len, List.length_take] <;> omega) | (simp [*]; done)) (by first | omega | (simp only [copyTo_len, blockF_len, tagF_len, List.length_take] <;> omega) | (simp [*]; done)))) rfl trivial rfl ?_
              intro _
              refine wl_eff (e_alloc (cs := arr b8 (List.replicate 64 0)) zn35) rfl trivial rfl ?_
              intro b6
              refine wl_eff (e_storeall sz35 rfl rfl (i := 0) rfl (by first | (simp; done) | (simp [*]; done)) (by first | (simp; done) | (simp [*]; done)) (arr_one _) rfl) rfl trivial rfl ?_
              intro _
              refine wl_nil ?_
              refine aq_seq ?_
              refine wc_seq ?_
              refine wc_seq ?_
              refine wc_region ?_
              refine wl_y (y_assign rfl) ?_
              refine wl_nil ?_
              refine aq_seq ?_
              refine wc_block ?_
              refine wc_loop (γ := Nat) (fun i => [(1, .slice ap np cp), (2, .pointer (some ⟨b1, 0, none⟩)), (4, kb (false)), (5, .slice r2.1 (sealN nk nn np nb) r2.2), (7, .pointer (some ⟨b3, 0, none⟩)), (8, .pointer (some ⟨b4, 0, none⟩)), (9, .pointer (some ⟨b5, 0, none⟩)), (12, .pointer (some ⟨b6, 0, none⟩)), (13, ki ((i : Int)))]) (fun i => Mem w [] [.blk b6 (.cells (arr b8 (blockF lk 0 ln)) 35 (0, 0)), .blk b5 (.cells (arr b8 ln) 34 (0, 0)), .blk b4 (.cells (arr b8 (copyTo 32 (blockF lk 0 ln) i)) 33 (0, 0)), .blk b3 (.cells (arr b8 lk) 33 (0, 0)), .sl r2.1 (sealN nk nn np nb) r2.2 5 1 ((sealO nk nn np nb lk ln lp lb).map b8), .blk b1 (.cells (#[.slice ak nk ck, .slice an nn cn, .slice ab nb cb]) 24 (0, 0))]) (fun i => (i ≤ 32)) (fun i => 32 - i) (0) ?_ ⟨rfl, rfl, rfl, rfl, rfl, rfl, rfl, rfl, rfl, trivial⟩ (fun _ h => h) ?_
              · omega
              · rintro i hi_
                refine wc_seq ?_
                refine wc_seq ?_
                refine wc_region ?_
                refine wl_y (y_move rfl) ?_
                refine wl_y (y_bin rfl rfl lss_i64) ?_
                refine wl_nil ?_
                refine aq_seq ?_
                refine wc_if rfl (fun hc5 => ?_) (fun hc5 => ?_)
                · have hb5 : (i : Int) < 32 := by simpa using hc5
                  refine wc_skip ?_
                  refine aq_seq ?_
                  refine wc_seq ?_
                  refine wc_block ?_
                  refine wc_region ?_
                  refine wl_y (y_move rfl) ?_
                  refine wl_y (y_move rfl) ?_
                  refine wl_y (y_indexAddr_ar ar35 sz5 rfl rfl (by omega) (by omega) i (by omega)) ?_
                  refine wl_y (y_load sc5 rfl (c_blk (i := 0) rfl (arr_get (gd 0 (by first | omega | (simp only [copyTo_len, blockF_len, tagF_len, List.length_take] <;> omega) | (simp [*]; done)))))) ?_
                  refine wl_y (y_indexAddr_ar ar33 sz5 rfl rfl (by omega) (by omega) i (by omega)) ?_
                  refine wl_eff (e_store_arr sz5 rfl (x' := (blockF lk 0 ln).getD i 0) rfl (i := 2) rfl (by first | omega | (simp only [copyTo_len, blockF_len, tagF_len, List.length_take] <;> omega) | (simp [*]; done)) ⟨_, rfl, ⟨_, rfl, rfl⟩⟩) rfl trivial rfl ?_
                  intro _
                  refine wl_nil ?_
                  refine aq_blk_normal ?_
                  refine aq_seq ?_
                  refine wc_region ?_
                  refine wl_y (y_move rfl) ?_
                  refine wl_y (y_bin rfl rfl (addn_i64 (a := i) (b := 1) (by omega))) ?_
                  refine wl_y (y_assign rfl) ?_
                  refine wl_nil ?_
                  refine aq_loop (i + 1) ?_ ?_ ⟨rfl, rfl, rfl, rfl, rfl, rfl, rfl, rfl, rfl, trivial⟩ (fun _ h => h)
                  · omega
                  · first | omega | (dsimp only; omega)
                · have hb5 : ¬ ((i : Int) < 32) := by simpa using hc5
                  have hi32 : i = 32 := by omega
                  subst hi32
                  refine wc_exit ?_
                  refine aq_thru_exit ?_
                  refine aq_thru_exit ?_
                  refine aq_blk_exit ?_
                  refine aq_seq ?_
                  refine wc_seq ?_
                  refine wc_region ?_
                  refine wl_y (y_loadall ag33 rfl (i := 3) rfl (by first | (simp; done) | (simp [*]; done))) ?_
                  refine wl_y (y_loadall ag34 rfl (i := 1) rfl (by first | (simp; done) | (simp [*]; done))) ?_
                  refine wl_y (y_move rfl) ?_
                  refine wl_eff (e_call0 cf12 rfl (fun w m => xor_ok w lk 1 ln ap np cp lp (by first | omega | (simp only [copyTo_len, blockF_len, tagF_len, List.length_take] <;> omega) | (simp [*]; done)) (by first | omega | (simp only [copyTo_len, blockF_len, tagF_len, List.length_take] <;> omega) | (simp [*]; done)) (m.rd0 hp) (by omega) (by show 1 + _ ≤ _; omega))) rfl trivial rfl ?_
                  intro r7
                  refine wl_y (y_move rfl) ?_
                  refine wl_y (y_extract rfl rfl) ?_
                  refine wl_y (y_extract rfl rfl) ?_
                  refine wl_y (y_assign rfl) ?_
                  refine wl_y (y_assign rfl) ?_
                  refine wl_nil ?_
                  refine aq_seq ?_
                  refine wc_seq ?_
                  refine wc_region ?_
                  refine wl_y (y_assign rfl) ?_
                  refine wl_nil ?_
                  refine aq_seq ?_
                  refine wc_seq ?_
                  refine wc_region ?_
                  refine wl_y (y_move rfl) ?_
                  refine wl_y (y_fieldAddr fd24_2 sz22 rfl) ?_
                  refine wl_y (y_load sc22 rfl (c_blk (i := 6) rfl rfl)) ?_
                  refine wl_mem (fun _ h => h.nilsl 5 1) ?_
                  refine wl_eff (e_appendm (f := b8) (xs := ([] : List UInt8)) (news := lb) sl22 el5 rfl rfl rfl rfl (i := 0) rfl (fun w m => m.rd0 hb) (by omega) (by omega) nb (by first | rfl | omega) (by first | rfl | simp) (fun _ => rfl)) rfl trivial rfl ?_
                  intro r8
                  refine wl_y (y_assign rfl) ?_
                  refine wl_nil ?_
                  refine aq_seq ?_
                  refine wc_seq ?_
                  refine wc_block ?_
                  refine wc_loop (γ := Nat × Option Addr × Nat) (fun ⟨j, ad, dp⟩ => [(1, .slice ap np cp), (2, .pointer (some ⟨b1, 0, none⟩)), (4, kb (false)), (5, .slice r2.1 (sealN nk nn np nb) r2.2), (8, .pointer (some ⟨b4, 0, none⟩)), (14, .slice r7.1 np r7.2), (15, ki (0)), (16, .slice ad (nb + j) dp)]) (fun ⟨j, ad, dp⟩ => Mem w [] [.sl ad (nb + j) dp 5 1 ((lb ++ List.replicate j 0).map b8), .sl r7.1 np r7.2 5 1 ((xorTo lp lk 1 ln np).map b8), .blk b6 (.cells (arr b8 (blockF lk 0 ln)) 35 (0, 0)), .blk b5 (.cells (arr b8 ln) 34 (0, 0)), .blk b4 (.cells (arr b8 (copyTo 32 (blockF lk 0 ln) 32)) 33 (0, 0)), .blk b3 (.cells (arr b8 lk) 33 (0, 0)), .sl r2.1 (sealN nk nn np nb) r2.2 5 1 ((sealO nk nn np nb lk ln lp lb).map b8), .blk b1 (.cells (#[.slice ak nk ck, .slice an nn cn, .slice ab nb cb]) 24 (0, 0))]) (fun ⟨j, ad, dp⟩ => (j ≤ ((16 - nb % 16) % 16))) (fun ⟨j, ad, dp⟩ => ((16 - nb % 16) % 16) - j) (⟨0, r8.1, r8.2⟩) ?_ ⟨rfl, rfl, rfl, rfl, rfl, rfl, rfl, rfl, trivial⟩ (fun _ h => (by simpa using h)) ?_
                  · omega
                  · rintro ⟨j, ad, dp⟩ hj_
                    change j ≤ ((16 - nb % 16) % 16) at hj_
                    refine wc_seq ?_
                    refine wc_seq ?_
                    refine wc_region ?_
                    refine wl_y (y_move rfl) ?_
                    refine wl_y (y_len_sl sl22 (m := (nb + j)) rfl rfl) ?_
                    refine wl_y (y_bin rfl rfl (remn_i64 (a := (nb + j)) (b := 16) (by omega))) ?_
                    refine wl_y (y_bin rfl rfl neq_i64) ?_
                    refine wl_nil ?_
                    refine aq_seq ?_
                    refine wc_if rfl (fun hc6 => ?_) (fun hc6 => ?_)
                    · have hb6 : ¬ ((((nb + j) % 16 : Nat) : Int) = 0) := by simpa using hc6
                      refine wc_skip ?_
                      refine aq_seq ?_
                      refine wc_block ?_
                      refine wc_region ?_
                      refine wl_y (y_move rfl) ?_
                      refine wl_eff (e_buildSlice (len := 1) [b8 (0)] sl22 el5 rfl rfl rfl (by simp [Value.cells]) (by decide) [b8 (0)] rfl) rfl trivial rfl ?_
                      intro b9
                      refine wl_eff (e_appendm (f := b8) (xs := (lb ++ List.replicate j 0)) (news := ([0] : List UInt8)) sl22 el5 rfl rfl rfl rfl (i := 1) rfl (fun w m => (m.rd_sl (i := 0) rfl : Rd _ _ 1 1 (([0] : List UInt8).map b8))) (by omega) (by omega) ((nb + j) + 1) (by first | rfl | omega) (by first | rfl | simp) (fun _ => ⟨_, rfl, rfl⟩)) rfl trivial rfl ?_
                      intro r10
                      refine wl_y (y_assign rfl) ?_
                      refine wl_nil ?_
                      refine aq_blk_normal ?_
                      rw [zapp]
                      refine aq_loop (⟨j + 1, r10.1, r10.2⟩) ?_ ?_ ⟨rfl, rfl, rfl, rfl, rfl, rfl, rfl, rfl, trivial⟩ (fun _ h => (Mem.pick h (is := [1, 2, 3, 4, 5, 6, 7, 8]) ⟨_, _, rfl, rfl, ⟨_, _, rfl, rfl, ⟨_, _, rfl, rfl, ⟨_, _, rfl, rfl, ⟨_, _, rfl, rfl, ⟨_, _, rfl, rfl, ⟨_, _, rfl, rfl, ⟨_, _, rfl, rfl, rfl⟩⟩⟩⟩⟩⟩⟩⟩ (by decide)))
                      · omega
                      · first | omega | (dsimp only; omega)
                    · have hb6 : (((nb + j) % 16 : Nat) : Int) = 0 := by simpa using hc6
                      have hje : j = ((16 - nb % 16) % 16) := by omega
                      subst hje
                      refine wc_exit ?_
                      refine aq_thru_exit ?_
                      refine aq_thru_exit ?_
                      refine aq_blk_exit ?_
                      refine aq_seq ?_
                      refine wc_seq ?_
                      refine wc_region ?_
                      refine wl_y (y_move rfl) ?_
                      refine wl_y (y_move rfl) ?_
                      refine wl_eff (e_appendm (f := b8) (xs := (lb ++ List.replicate ((16 - nb % 16) % 16) 0)) (news := (xorTo lp lk 1 ln np)) sl22 el5 rfl rfl rfl rfl (i := 0) rfl (fun w m => (m.rd_sl (i := 1) rfl : Rd _ _ np 1 ((xorTo lp lk 1 ln np).map b8))) (by omega) (by omega) ((nb + ((16 - nb % 16) % 16)) + np) (by first | rfl | omega) (by first | rfl | simp) (fun _ => rfl)) rfl trivial rfl ?_
                      intro r11
                      refine wl_y (y_assign rfl) ?_
                      refine wl_nil ?_
                      refine aq_seq ?_
                      refine wc_seq ?_
                      refine wc_block ?_
                      refine wc_loop (γ := Nat × Option Addr × Nat) (fun ⟨q, ad, dp⟩ => [(1, .slice ap np cp), (2, .pointer (some ⟨b1, 0, none⟩)), (4, kb (false)), (5, .slice r2.1 (sealN nk nn np nb) r2.2), (8, .pointer (some ⟨b4, 0, none⟩)), (14, .slice r7.1 np r7.2), (15, ki (0)), (16, .slice ad (((nb + ((16 - nb % 16) % 16)) + np) + q) dp)]) (fun ⟨q, ad, dp⟩ => Mem w [] [.sl ad (((nb + ((16 - nb % 16) % 16)) + np) + q) dp 5 1 ((((lb ++ List.replicate ((16 - nb % 16) % 16) 0) ++ (xorTo lp lk 1 ln np)) ++ List.replicate q 0).map b8), .sl r7.1 np r7.2 5 1 ((xorTo lp lk 1 ln np).map b8), .blk b6 (.cells (arr b8 (blockF lk 0 ln)) 35 (0, 0)), .blk b5 (.cells (arr b8 ln) 34 (0, 0)), .blk b4 (.cells (arr b8 (copyTo 32 (blockF lk 0 ln) 32)) 33 (0, 0)), .blk b3 (.cells (arr b8 lk) 33 (0, 0)), .sl r2.1 (sealN nk nn np nb) r2.2 5 1 ((sealO nk nn np nb lk ln lp lb).map b8), .blk b1 (.cells (#[.slice ak nk ck, .slice an nn cn, .slice ab nb cb]) 24 (0, 0))]) (fun ⟨q, ad, dp⟩ => (q ≤ ((16 - np % 16) % 16))) (fun ⟨q, ad, dp⟩ => ((16 - np % 16) % 16) - q) (⟨0, r11.1, r11.2⟩) ?_ ⟨rfl, rfl, rfl, rfl, rfl, rfl, rfl, rfl, trivial⟩ (fun _ h => (by simpa using h)) ?_
                      · omega
                      · rintro ⟨q, ad, dp⟩ hq_
                        change q ≤ ((16 - np % 16) % 16) at hq_
                        refine wc_seq ?_
                        refine wc_seq ?_
                        refine wc_region ?_
                        refine wl_y (y_move rfl) ?_
                        refine wl_y (y_len_sl sl22 (m := (((nb + ((16 - nb % 16) % 16)) + np) + q)) rfl rfl) ?_
                        refine wl_y (y_bin rfl rfl (remn_i64 (a := (((nb + ((16 - nb % 16) % 16)) + np) + q)) (b := 16) (by omega))) ?_
                        refine wl_y (y_bin rfl rfl neq_i64) ?_
                        refine wl_nil ?_
                        refine aq_seq ?_
                        refine wc_if rfl (fun hc7 => ?_) (fun hc7 => ?_)
                        · have hb7 : ¬ ((((((nb + ((16 - nb % 16) % 16)) + np) + q) % 16 : Nat) : Int) = 0) := by simpa using hc7
                          refine wc_skip ?_
                          refine aq_seq ?_
                          refine wc_block ?_
                          refine wc_region ?_
                          refine wl_y (y_move rfl) ?_
                          refine wl_eff (e_buildSlice (len := 1) [b8 (0)] sl22 el5 rfl rfl rfl (by simp [Value.cells]) (by decide) [b8 (0)] rfl) rfl trivial rfl ?_
                          intro b12
                          refine wl_eff (e_appendm (f := b8) (xs := (((lb ++ List.replicate ((16 - nb % 16) % 16) 0) ++ (xorTo lp lk 1 ln np)) ++ List.replicate q 0)) (news := ([0] : List UInt8)) sl22 el5 rfl rfl rfl rfl (i := 1) rfl (fun w m => (m.rd_sl (i := 0) rfl : Rd _ _ 1 1 (([0] : List UInt8).map b8))) (by omega) (by omega) ((((nb + ((16 - nb % 16) % 16)) + np) + q) + 1) (by first | rfl | omega) (by first | rfl | simp) (fun _ => ⟨_, rfl, rfl⟩)) rfl trivial rfl ?_
                          intro r13
                          refine wl_y (y_assign rfl) ?_
                          refine wl_nil ?_
                          refine aq_blk_normal ?_
                          rw [zapp]
                          refine aq_loop (⟨q + 1, r13.1, r13.2⟩) ?_ ?_ ⟨rfl, rfl, rfl, rfl, rfl, rfl, rfl, rfl, trivial⟩ (fun _ h => (Mem.pick h (is := [1, 2, 3, 4, 5, 6, 7, 8]) ⟨_, _, rfl, rfl, ⟨_, _, rfl, rfl, ⟨_, _, rfl, rfl, ⟨_, _, rfl, rfl, ⟨_, _, rfl, rfl, ⟨_, _, rfl, rfl, ⟨_, _, rfl, rfl, ⟨_, _, rfl, rfl, rfl⟩⟩⟩⟩⟩⟩⟩⟩ (by decide)))
                          · omega
                          · first | omega | (dsimp only; omega)
                        · have hb7 : (((((nb + ((16 - nb % 16) % 16)) + np) + q) % 16 : Nat) : Int) = 0 := by simpa using hc7
                          have hqe : q = ((16 - np % 16) % 16) := by omega
                          subst hqe
                          refine wc_exit ?_
                          refine aq_thru_exit ?_
                          refine aq_thru_exit ?_
                          refine aq_blk_exit ?_
                          refine aq_seq ?_
                          refine wc_seq ?_
                          refine wc_seq ?_
                          refine wc_region ?_
                          refine wl_y (y_assign rfl) ?_
                          refine wl_nil ?_
                          refine aq_seq ?_
                          refine wc_block ?_
                          refine wc_loop (γ := Nat × Option Addr × Nat) (fun ⟨i, ad, dp⟩ => [(1, .slice ap np cp), (2, .pointer (some ⟨b1, 0, none⟩)), (4, kb (false)), (5, .slice r2.1 (sealN nk nn np nb) r2.2), (8, .pointer (some ⟨b4, 0, none⟩)), (14, .slice r7.1 np r7.2), (15, ki (0)), (16, .slice ad ((((nb + ((16 - nb % 16) % 16)) + np) + ((16 - np % 16) % 16)) + i) dp), (17, ki ((i : Int)))]) (fun ⟨i, ad, dp⟩ => Mem w [] [.sl ad ((((nb + ((16 - nb % 16) % 16)) + np) + ((16 - np % 16) % 16)) + i) dp 5 1 (((((lb ++ List.replicate ((16 - nb % 16) % 16) 0) ++ (xorTo lp lk 1 ln np)) ++ List.replicate ((16 - np % 16) % 16) 0) ++ tailF nb np i).map b8), .sl r7.1 np r7.2 5 1 ((xorTo lp lk 1 ln np).map b8), .blk b6 (.cells (arr b8 (blockF lk 0 ln)) 35 (0, 0)), .blk b5 (.cells (arr b8 ln) 34 (0, 0)), .blk b4 (.cells (arr b8 (copyTo 32 (blockF lk 0 ln) 32)) 33 (0, 0)), .blk b3 (.cells (arr b8 lk) 33 (0, 0)), .sl r2.1 (sealN nk nn np nb) r2.2 5 1 ((sealO nk nn np nb lk ln lp lb).map b8), .blk b1 (.cells (#[.slice ak nk ck, .slice an nn cn, .slice ab nb cb]) 24 (0, 0))]) (fun ⟨i, ad, dp⟩ => (i ≤ 16)) (fun ⟨i, ad, dp⟩ => 16 - i) (⟨0, ad, dp⟩) ?_ ⟨rfl, rfl, rfl, rfl, rfl, rfl, rfl, rfl, rfl, trivial⟩ (fun _ h => (by simpa [tailF] using h)) ?_
                          · omega
                          · rintro ⟨i, ad, dp⟩ hi_
                            change i ≤ 16 at hi_
                            refine wc_seq ?_
                            refine wc_seq ?_
                            refine wc_region ?_
                            refine wl_y (y_move rfl) ?_
                            refine wl_y (y_bin rfl rfl lss_i64) ?_
                            refine wl_nil ?_
                            refine aq_seq ?_
                            refine wc_if rfl (fun hc8 => ?_) (fun hc8 => ?_)
                            · have hb8 : (i : Int) < 16 := by simpa using hc8
                              refine wc_skip ?_
                              refine aq_seq ?_
                              refine wc_seq ?_
                              refine wc_block ?_
                              refine wc_seq ?_
                              refine wc_region ?_
                              refine wl_y (y_fieldAddr fd24_2 sz22 rfl) ?_
                              refine wl_y (y_load sc22 rfl (c_blk (i := 7) rfl rfl)) ?_
                              refine wl_y (y_len_sl sl22 (m := nb) rfl rfl) ?_
                              refine wl_y (y_assign rfl) ?_
                              refine wl_nil ?_
                              refine aq_seq ?_
                              refine wc_seq ?_
                              refine wc_seq ?_
                              refine wc_region ?_
                              refine wl_y (y_move rfl) ?_
                              refine wl_y (y_bin rfl rfl geq_i64) ?_
                              refine wl_nil ?_
                              refine aq_seq ?_
                              refine wc_if rfl (fun hc9 => ?_) (fun hc9 => ?_)
                              · have hb9 : (i : Int) ≥ 8 := by simpa using hc9
                                refine wc_region ?_
                                refine wl_y (y_move rfl) ?_
                                refine wl_y (y_len_sl sl22 (m := np) rfl rfl) ?_
                                refine wl_y (y_assign rfl) ?_
                                refine wl_nil ?_
                                refine aq_seq ?_
                                refine wc_region ?_
                                refine wl_y (y_move rfl) ?_
                                refine wl_y (y_move rfl) ?_
                                refine wl_y (y_cv rfl us3 ui39 (congrArg (Value.int .u64) (cvn_u64 np (by omega)))) ?_
                                refine wl_y (y_move rfl) ?_
                                refine wl_y (y_bin rfl rfl (remn_i64 (a := i) (b := 8) (by omega))) ?_
                                refine wl_y (y_bin rfl rfl (muln_i64 (a := 8) (b := (i % 8)) (by omega))) ?_
                                refine wl_y (y_bin rfl rfl (shr_u64 (UInt64.ofNat np) (q := .i64) (8 * (i % 8)) (by omega) (by omega))) ?_
                                refine wl_y (y_cv rfl us39 ui5 (congrArg (Value.int .u8) (cv_u64_u8 ((UInt64.ofNat np) >>> UInt64.ofNat (8 * (i % 8)))))) ?_
                                refine wl_eff (e_buildSlice (len := 1) [b8 (((UInt64.ofNat np) >>> UInt64.ofNat (8 * (i % 8))).toUInt8)] sl22 el5 rfl rfl rfl (by simp [Value.cells]) (by decide) [b8 (((UInt64.ofNat np) >>> UInt64.ofNat (8 * (i % 8))).toUInt8)] rfl) rfl trivial rfl ?_
                                intro b14
                                refine wl_eff (e_appendm (f := b8) (xs := ((((lb ++ List.replicate ((16 - nb % 16) % 16) 0) ++ (xorTo lp lk 1 ln np)) ++ List.replicate ((16 - np % 16) % 16) 0) ++ tailF nb np i)) (news := ([((UInt64.ofNat np) >>> UInt64.ofNat (8 * (i % 8))).toUInt8] : List UInt8)) sl22 el5 rfl rfl rfl rfl (i := 1) rfl (fun w m => (m.rd_sl (i := 0) rfl : Rd _ _ 1 1 (([((UInt64.ofNat np) >>> UInt64.ofNat (8 * (i % 8))).toUInt8] : List UInt8).map b8))) (by omega) (by omega) (((((nb + ((16 - nb % 16) % 16)) + np) + ((16 - np % 16) % 16)) + i) + 1) (by first | rfl | omega) (by first | rfl | simp) (fun _ => ⟨_, rfl, rfl⟩)) rfl trivial rfl ?_
                                intro r15
                                refine wl_y (y_assign rfl) ?_
                                refine wl_nil ?_
                                refine aq_blk_normal ?_
                                refine aq_seq ?_
                                refine wc_region ?_
                                refine wl_y (y_move rfl) ?_
                                refine wl_y (y_bin rfl rfl (addn_i64 (a := i) (b := 1) (by omega))) ?_
                                refine wl_y (y_assign rfl) ?_
                                refine wl_nil ?_
                                have hfx : (((((lb ++ List.replicate ((16 - nb % 16) % 16) 0) ++ (xorTo lp lk 1 ln np)) ++ List.replicate ((16 - np % 16) % 16) 0) ++ tailF nb np i) ++ ([((UInt64.ofNat np) >>> UInt64.ofNat (8 * (i % 8))).toUInt8] : List UInt8)) = ((((lb ++ List.replicate ((16 - nb % 16) % 16) 0) ++ (xorTo lp lk 1 ln np)) ++ List.replicate ((16 - np % 16) % 16) 0) ++ tailF nb np (i + 1)) := by rw [List.append_assoc]; exact congrArg (fun z => (((lb ++ List.replicate ((16 - nb % 16) % 16) 0) ++ (xorTo lp lk 1 ln np)) ++ List.replicate ((16 - np % 16) % 16) 0) ++ z) (tail_hi nb np hb9)
                                rw [hfx]
                                refine aq_loop (⟨i + 1, r15.1, r15.2⟩) ?_ ?_ ⟨rfl, rfl, rfl, rfl, rfl, rfl, rfl, rfl, rfl, trivial⟩ (fun _ h => (Mem.pick h (is := [1, 2, 3, 4, 5, 6, 7, 8]) ⟨_, _, rfl, rfl, ⟨_, _, rfl, rfl, ⟨_, _, rfl, rfl, ⟨_, _, rfl, rfl, ⟨_, _, rfl, rfl, ⟨_, _, rfl, rfl, ⟨_, _, rfl, rfl, ⟨_, _, rfl, rfl, rfl⟩⟩⟩⟩⟩⟩⟩⟩ (by decide)))
                                · omega
                                · first | omega | (dsimp only; omega)
                              · have hb9 : ¬ ((i : Int) ≥ 8) := by simpa using hc9
                                refine wc_skip ?_
                                refine aq_seq ?_
                                refine wc_region ?_
                                refine wl_y (y_move rfl) ?_
                                refine wl_y (y_move rfl) ?_
                                refine wl_y (y_cv rfl us3 ui39 (congrArg (Value.int .u64) (cvn_u64 nb (by omega)))) ?_
                                refine wl_y (y_move rfl) ?_
                                refine wl_y (y_bin rfl rfl (remn_i64 (a := i) (b := 8) (by omega))) ?_
                                refine wl_y (y_bin rfl rfl (muln_i64 (a := 8) (b := (i % 8)) (by omega))) ?_
                                refine wl_y (y_bin rfl rfl (shr_u64 (UInt64.ofNat nb) (q := .i64) (8 * (i % 8)) (by omega) (by omega))) ?_
                                refine wl_y (y_cv rfl us39 ui5 (congrArg (Value.int .u8) (cv_u64_u8 ((UInt64.ofNat nb) >>> UInt64.ofNat (8 * (i % 8)))))) ?_
                                refine wl_eff (e_buildSlice (len := 1) [b8 (((UInt64.ofNat nb) >>> UInt64.ofNat (8 * (i % 8))).toUInt8)] sl22 el5 rfl rfl rfl (by simp [Value.cells]) (by decide) [b8 (((UInt64.ofNat nb) >>> UInt64.ofNat (8 * (i % 8))).toUInt8)] rfl) rfl trivial rfl ?_
                                intro b16
                                refine wl_eff (e_appendm (f := b8) (xs := ((((lb ++ List.replicate ((16 - nb % 16) % 16) 0) ++ (xorTo lp lk 1 ln np)) ++ List.replicate ((16 - np % 16) % 16) 0) ++ tailF nb np i)) (news := ([((UInt64.ofNat nb) >>> UInt64.ofNat (8 * (i % 8))).toUInt8] : List UInt8)) sl22 el5 rfl rfl rfl rfl (i := 1) rfl (fun w m => (m.rd_sl (i := 0) rfl : Rd _ _ 1 1 (([((UInt64.ofNat nb) >>> UInt64.ofNat (8 * (i % 8))).toUInt8] : List UInt8).map b8))) (by omega) (by omega) (((((nb + ((16 - nb % 16) % 16)) + np) + ((16 - np % 16) % 16)) + i) + 1) (by first | rfl | omega) (by first | rfl | simp) (fun _ => ⟨_, rfl, rfl⟩)) rfl trivial rfl ?_
                                intro r17
                                refine wl_y (y_assign rfl) ?_
                                refine wl_nil ?_
                                refine aq_blk_normal ?_
                                refine aq_seq ?_
                                refine wc_region ?_
                                refine wl_y (y_move rfl) ?_
                                refine wl_y (y_bin rfl rfl (addn_i64 (a := i) (b := 1) (by omega))) ?_
                                refine wl_y (y_assign rfl) ?_
                                refine wl_nil ?_
                                have hfx : (((((lb ++ List.replicate ((16 - nb % 16) % 16) 0) ++ (xorTo lp lk 1 ln np)) ++ List.replicate ((16 - np % 16) % 16) 0) ++ tailF nb np i) ++ ([((UInt64.ofNat nb) >>> UInt64.ofNat (8 * (i % 8))).toUInt8] : List UInt8)) = ((((lb ++ List.replicate ((16 - nb % 16) % 16) 0) ++ (xorTo lp lk 1 ln np)) ++ List.replicate ((16 - np % 16) % 16) 0) ++ tailF nb np (i + 1)) := by rw [List.append_assoc]; exact congrArg (fun z => (((lb ++ List.replicate ((16 - nb % 16) % 16) 0) ++ (xorTo lp lk 1 ln np)) ++ List.replicate ((16 - np % 16) % 16) 0) ++ z) (tail_lo nb np hb9)
                                rw [hfx]
                                refine aq_loop (⟨i + 1, r17.1, r17.2⟩) ?_ ?_ ⟨rfl, rfl, rfl, rfl, rfl, rfl, rfl, rfl, rfl, trivial⟩ (fun _ h => (Mem.pick h (is := [1, 2, 3, 4, 5, 6, 7, 8]) ⟨_, _, rfl, rfl, ⟨_, _, rfl, rfl, ⟨_, _, rfl, rfl, ⟨_, _, rfl, rfl, ⟨_, _, rfl, rfl, ⟨_, _, rfl, rfl, ⟨_, _, rfl, rfl, ⟨_, _, rfl, rfl, rfl⟩⟩⟩⟩⟩⟩⟩⟩ (by decide)))
                                · omega
                                · first | omega | (dsimp only; omega)
                            · have hb8 : ¬ ((i : Int) < 16) := by simpa using hc8
                              have hi16 : i = 16 := by omega
                              subst hi16
                              refine wc_exit ?_
                              refine aq_thru_exit ?_
                              refine aq_thru_exit ?_
                              refine aq_blk_exit ?_
                              refine aq_seq ?_
                              refine wc_seq ?_
                              refine wc_region ?_
                              refine wl_y (y_loadall ag33 rfl (i := 4) rfl (by first | (simp; done) | (simp [*]; done))) ?_
                              refine wl_y (y_move rfl) ?_
                              refine wl_eff (e_call0 cf13 rfl (fun w m => tag_ok w (copyTo 32 (blockF lk 0 ln) 32) ad ((((nb + ((16 - nb % 16) % 16)) + np) + ((16 - np % 16) % 16)) + 16) dp ((((lb ++ List.replicate ((16 - nb % 16) % 16) 0) ++ (xorTo lp lk 1 ln np)) ++ List.replicate ((16 - np % 16) % 16) 0) ++ tailF nb np 16) (by first | omega | (simp only [copyTo_len, blockF_len, tagF_len, List.length_take] <;> omega) | (simp [*]; done)) ((m.rd_sl (i := 0) rfl : Rd _ _ ((((nb + ((16 - nb % 16) % 16)) + np) + ((16 - np % 16) % 16)) + 16) 1 (((((lb ++ List.replicate ((16 - nb % 16) % 16) 0) ++ (xorTo lp lk 1 ln np)) ++ List.replicate ((16 - np % 16) % 16) 0) ++ tailF nb np 16).map b8))) (m.sl_le (i := 0) rfl) (by omega))) rfl trivial rfl ?_
                              intro _
                              refine wl_y (y_move rfl) ?_
                              refine wl_y (y_extract rfl rfl) ?_
                              refine wl_y (y_extract rfl rfl) ?_
                              refine wl_eff (e_alloc (cs := arr b8 (List.replicate 16 0)) zn40) rfl trivial rfl ?_
                              intro b18
                              refine wl_eff (e_storeall sz40 rfl rfl (i := 0) rfl (by first | (simp; done) | (simp [*]; done)) (by first | (simp; done) | (simp [*]; done)) (arr_one _) rfl) rfl trivial rfl ?_
                              intro _
                              refine wl_y (y_assign rfl) ?_
                              refine wl_nil ?_
                              refine aq_seq ?_
                              refine wc_seq ?_
                              refine wc_region ?_
                              refine wl_y (y_move rfl) ?_
                              refine wl_y (y_bin rfl rfl (show bin .eql (ki 0) (ki 0) = some (kb true) from rfl)) ?_
                              refine wl_y (y_move rfl) ?_
                              refine wl_y (y_move rfl) ?_ (hg := ⟨_, rfl, rfl⟩)
                              refine wl_y (y_bin rfl rfl (show bin .eql (ki 0) (ki 0) = some (kb true) from rfl)) ?_ (hg := ⟨_, rfl, rfl⟩)
                              refine wl_y (y_pick (b := true) rfl rfl) ?_
                              refine wl_y (y_move rfl) ?_
                              refine wl_y (y_move rfl) ?_ (hg := ⟨_, rfl, rfl⟩)
                              refine wl_y (y_move rfl) ?_ (hg := ⟨_, rfl, rfl⟩)
                              refine wl_y (y_slice_ar0 ar40 sz5 rfl 16 rfl rfl (by omega)) ?_ (hg := ⟨_, rfl, rfl⟩)
                              refine wl_eff (e_appendm (f := b8) (xs := (xorTo lp lk 1 ln np)) (news := (tagF (copyTo 32 (blockF lk 0 ln) 32) ((((lb ++ List.replicate ((16 - nb % 16) % 16) 0) ++ (xorTo lp lk 1 ln np)) ++ List.replicate ((16 - np % 16) % 16) 0) ++ tailF nb np 16) ((((nb + ((16 - nb % 16) % 16)) + np) + ((16 - np % 16) % 16)) + 16))) sl22 el5 rfl rfl rfl rfl (i := 2) rfl (fun w m => (Mem.rd_arrn (f := b8) (xs := (tagF (copyTo 32 (blockF lk 0 ln) 32) ((((lb ++ List.replicate ((16 - nb % 16) % 16) 0) ++ (xorTo lp lk 1 ln np)) ++ List.replicate ((16 - np % 16) % 16) 0) ++ tailF nb np 16) ((((nb + ((16 - nb % 16) % 16)) + np) + ((16 - np % 16) % 16)) + 16))) m (i := 0) rfl (n := 16) (by first | omega | (simp only [copyTo_len, blockF_len, tagF_len, List.length_take] <;> omega) | (simp [*]; done)))) (by omega) (by omega) (np + 16) (by first | rfl | omega) (by first | rfl | simp) (fun _ => ⟨_, rfl, ⟨_, rfl, rfl⟩⟩)) rfl ⟨_, rfl, rfl⟩ rfl ?_
                              intro r19
                              refine wl_eff (e_call0 cf10 rfl (fun w m => SameBytes_ok w r2.1 r19.1 (sealN nk nn np nb) r2.2 (np + 16) r19.2 (sealO nk nn np nb lk ln lp lb) ((xorTo lp lk 1 ln np) ++ (tagF (copyTo 32 (blockF lk 0 ln) 32) ((((lb ++ List.replicate ((16 - nb % 16) % 16) 0) ++ (xorTo lp lk 1 ln np)) ++ List.replicate ((16 - np % 16) % 16) 0) ++ tailF nb np 16) ((((nb + ((16 - nb % 16) % 16)) + np) + ((16 - np % 16) % 16)) + 16))) ((m.rd_sl (i := 7) rfl : Rd _ _ (sealN nk nn np nb) 1 ((sealO nk nn np nb lk ln lp lb).map b8))) ((m.rd_sl (i := 2) rfl : Rd _ _ (np + 16) 1 (((xorTo lp lk 1 ln np) ++ (tagF (copyTo 32 (blockF lk 0 ln) 32) ((((lb ++ List.replicate ((16 - nb % 16) % 16) 0) ++ (xorTo lp lk 1 ln np)) ++ List.replicate ((16 - np % 16) % 16) 0) ++ tailF nb np 16) ((((nb + ((16 - nb % 16) % 16)) + np) + ((16 - np % 16) % 16)) + 16))).map b8))) (by omega))) rfl ⟨_, rfl, rfl⟩ rfl ?_
                              intro _
                              refine wl_re (t := 142) (v' := kb (true)) rfl (congrArg kb (made_eq h0)) ?_
                              refine wl_y (y_pick (b := true) rfl rfl) ?_
                              refine wl_y (y_assign rfl) ?_
                              refine wl_nil ?_
                              refine aq_seq ?_
                              refine wc_ret ?_
                              refine aq_return (.inl rfl) rfl (⟨_, _, rfl, rfl, rfl⟩) ?_
                              intro w' m
                              exact ⟨(), rfl, m.pick (is := []) rfl (by decide)⟩

end Go.Proofs.Ytnkldldojalklaa
