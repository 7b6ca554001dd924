/- Lemmas and contracts for the proof of this seat's statements (AeaA). No condition. -/
import Derived.Test.YtnkldldojalklaaEPar2
import Derived.Test.YtnkldldojalklaaProg
import Derived.KernelRfl
set_option linter.all false
namespace Go.Proofs.Ytnkldldojalklaa
open Go.Mc
private theorem sl22 : slB Try.prog 22 5 = true := by kernel_rfl
private theorem sz5 : szB Try.prog 5 1 = true := by kernel_rfl
private theorem el5 : elB Try.prog 5 1 1 (b8 (0)) := elB_of (by kernel_rfl) (by kernel_rfl) (by unfold znB; kernel_rfl)
private theorem ui3 : Try.prog.underlying 3 = some (.int .i64) := by kernel_rfl
private theorem sl74 : slB Try.prog 74 22 = true := by kernel_rfl
private theorem sz22 : szB Try.prog 22 1 = true := by kernel_rfl
private theorem sc22 : scB Try.prog 22 = true := by kernel_rfl
private theorem cf33 : cfB Try.prog 33 = true := by kernel_rfl
private theorem zn33 : znB Try.prog 33 (.agg (arr b8 (List.replicate 32 0))) := by unfold znB; kernel_rfl
private theorem ar33 : arB Try.prog 33 32 5 = true := by kernel_rfl
private theorem ag33 : agB Try.prog 33 32 = true := by kernel_rfl
private theorem sz33 : szB Try.prog 33 32 = true := by kernel_rfl
private theorem cf30 : cfB Try.prog 30 = true := by kernel_rfl
private theorem zn34 : znB Try.prog 34 (.agg (arr b8 (List.replicate 12 0))) := by unfold znB; kernel_rfl
private theorem ar34 : arB Try.prog 34 12 5 = true := by kernel_rfl
private theorem ag34 : agB Try.prog 34 12 = true := by kernel_rfl
private theorem sz34 : szB Try.prog 34 12 = true := by kernel_rfl
private theorem cf32 : cfB Try.prog 32 = true := by kernel_rfl
private theorem zn44 : znB Try.prog 44 (.agg #[b8 (0), b8 (0), b8 (0), b8 (0), b8 (0), b8 (0), b8 (0), b8 (0), b8 (0), b8 (0), b8 (0), b8 (0), b8 (0), b8 (0), b8 (0), b8 (0), b8 (0), b8 (0), b8 (0), b8 (0), b8 (0), b8 (0), b8 (0), b8 (0), b8 (0), b8 (0), b8 (0), b8 (0), b8 (0), b8 (0), b8 (0), b8 (0), b8 (0), b8 (0), b8 (0), b8 (0), b8 (0), b8 (0), b8 (0), b8 (0), b8 (0), b8 (0), b8 (0), b8 (0)]) := by unfold znB; kernel_rfl
private theorem cf29 : cfB Try.prog 29 = true := by kernel_rfl
private theorem cf31 : cfB Try.prog 31 = true := by kernel_rfl
private theorem st44 : stB Try.prog 44 [(0, 32), (32, 12)] := by unfold stB; kernel_rfl
private theorem sz44 : szB Try.prog 44 44 = true := by kernel_rfl
private theorem ag44 : agB Try.prog 44 44 = true := by kernel_rfl
private theorem sc5 : scB Try.prog 5 = true := by kernel_rfl
private theorem sl84 : slB Try.prog 84 3 = true := by kernel_rfl
private theorem sz3 : szB Try.prog 3 1 = true := by kernel_rfl
private theorem sc3 : scB Try.prog 3 = true := by kernel_rfl
private theorem us3 : (Try.prog.underlying 3).isSome = true := by kernel_rfl
private theorem ui39 : Try.prog.underlying 39 = some (.int .u64) := by kernel_rfl
private theorem us39 : (Try.prog.underlying 39).isSome = true := by kernel_rfl
private theorem ui5 : Try.prog.underlying 5 = some (.int .u8) := by kernel_rfl
theorem take_succ_eq {la lb : List UInt8} {k : Nat} (h : la.take k = lb.take k) (h1 : k < la.length) (h2 : k < lb.length) (e : la.getD k 0 = lb.getD k 0) : la.take (k + 1) = lb.take (k + 1) := by
  rw [List.take_succ_eq_append_getElem h1, List.take_succ_eq_append_getElem h2, h]
  simp [List.getD_eq_getElem?_getD, h1, h2] at e; rw [e]
theorem ne_beq {la lb : List UInt8} (h : la.length ≠ lb.length) : (la == lb) = false := by
  rw [beq_eq_false_iff_ne]; intro e; exact h (by rw [e])
theorem getD_ne_beq {la lb : List UInt8} {k : Nat} (h : ¬ la.getD k 0 = lb.getD k 0) : (la == lb) = false := by
  rw [beq_eq_false_iff_ne]; intro e; exact h (by rw [e])
theorem take_all_beq {la lb : List UInt8} {k : Nat} (h1 : la.length ≤ k) (h2 : lb.length ≤ k) (h : la.take k = lb.take k) : (la == lb) = true := by
  rw [List.take_of_length_le h1, List.take_of_length_le h2] at h; simpa using h
def eightF (x : Nat) : Nat → List UInt8
  | 0 => []
  | k + 1 => eightF x k ++ [(UInt64.ofNat x >>> UInt64.ofNat (8 * k)).toUInt8]
def eightsF (l : List Nat) : Nat → List UInt8
  | 0 => []
  | i + 1 => eightsF l i ++ eightF (l.getD i 0) 8
theorem getD_lt (l : List Nat) (i : Nat) (h : ∀ x ∈ l, x < 4611686018427387904) : l.getD i 0 < 4611686018427387904 := by
  rw [List.getD_eq_getElem?_getD]
  cases hx : l[i]? with
  | none => simp
  | some x => exact h x (List.mem_of_getElem? hx)
def sumN (pcs : List Pc) : Nat → Nat
  | 0 => 0
  | i + 1 => sumN pcs i + (pcs.getD i (none, 0, 0, [])).2.1
def flatN (pcs : List Pc) : Nat → List UInt8
  | 0 => []
  | i + 1 => flatN pcs i ++ (pcs.getD i (none, 0, 0, [])).2.2.2
theorem sumN_le (pcs : List Pc) {i n : Nat} (h : i ≤ n) : sumN pcs i ≤ sumN pcs n := by
  induction h with
  | refl => exact Nat.le_refl _
  | step _ ih => exact Nat.le_trans ih (Nat.le_add_right _ _)
theorem pcs_get {w : World} {pcs : List Pc} (h : ∀ p ∈ pcs, Rd w p.1 p.2.1 1 (p.2.2.2.map b8)) (i : Nat) : Rd w (pcs.getD i (none, 0, 0, [])).1 (pcs.getD i (none, 0, 0, [])).2.1 1 ((pcs.getD i (none, 0, 0, [])).2.2.2.map b8) := by
  rw [List.getD_eq_getElem?_getD]
  cases hx : pcs[i]? with
  | none => exact Rd.nil _ _ _
  | some p => exact h p (List.mem_of_getElem? hx)
def asF (l : List UInt8) (n k : Nat) : List UInt8 := if n = k then l else List.replicate k 0
theorem asF_len (l : List UInt8) (n k : Nat) (hl : l.length = n) : (asF l n k).length = k := by
  unfold asF; split
  · omega
  · simp

theorem grow_ok (w : World) (n : Nat) (hn : n ≤ 70368744177664) :
    Calls Try.prog 33 #[.slice none 0 0, ki ((n : Int))] w (Ret (fun r : Option Addr × Nat => .slice r.1 0 r.2) (fun r => Mem w [] [.sl r.1 0 r.2 5 1 []])) := by
  refine calls_of Try.func33 rfl rfl (L := [(0, .slice none 0 0), (1, ki ((n : Int)))]) ⟨rfl, rfl, trivial⟩ (m := 27) (Nat.le_of_ble_eq_true rfl) (M := Mem w [] []) (Mem.refl w) ?_
  refine wc_seq ?_
  refine wc_region ?_
  refine wl_y (y_assign rfl) ?_
  refine wl_nil ?_
  refine aq_seq ?_
  refine wc_seq ?_
  refine wc_seq ?_
  refine wc_region ?_
  refine wl_y (y_move rfl) ?_
  refine wl_y (y_bin rfl rfl lss_i64) ?_
  refine wl_nil ?_
  refine aq_seq ?_
  have hd1 : (decide ((n : Int) < 0)) = false := by exact decide_eq_false (by omega)
  refine wc_else' rfl hd1 ?_
  refine wc_skip ?_
  refine aq_seq ?_
  refine wc_seq ?_
  refine wc_seq ?_
  refine wc_region ?_
  refine wl_y (y_move rfl) ?_
  refine wl_y (y_move rfl) ?_
  refine wl_y (y_cap_sl sl22 (cap := 0) rfl rfl) ?_
  refine wl_y (y_move rfl) ?_
  refine wl_y (y_len_sl sl22 (m := 0) rfl rfl) ?_
  refine wl_y (y_bin rfl rfl (show bin .sub (ki 0) (ki 0) = some (ki 0) from rfl)) ?_
  refine wl_y (y_bin rfl rfl (subn_i64 (a := n) (b := 0) (by omega) (by omega))) ?_
  refine wl_y (y_assign rfl) ?_
  refine wl_nil ?_
  refine aq_seq ?_
  refine wc_seq ?_
  refine wc_region ?_
  refine wl_y (y_move rfl) ?_
  refine wl_y (y_bin rfl rfl gtr_i64) ?_
  refine wl_nil ?_
  refine aq_seq ?_
  refine wc_if rfl (fun hc2 => ?_) (fun hc2 => ?_)
  · have hb2 : ((n - 0 : Nat) : Int) > 0 := by simpa using hc2
    refine wc_region ?_
    refine wl_y (y_move rfl) ?_
    refine wl_y (y_move rfl) ?_
    refine wl_y (y_cap_sl sl22 (cap := 0) rfl rfl) ?_
    refine wl_y (y_slice_sl0 sl22 sz5 rfl 0 ⟨_, _, rfl, by first | rfl | omega⟩ rfl (by omega)) ?_
    refine wl_y (y_move rfl) ?_
    refine wl_eff (e_appendz (f := b8) (m := (n - 0)) (z' := 0) sl22 el5 rfl ui3 rfl rfl rfl (by omega) (by omega) (by omega)) rfl trivial rfl ?_
    intro r1
    refine wl_y (y_move rfl) ?_
    refine wl_y (y_len_sl sl22 (m := 0) rfl rfl) ?_
    refine wl_y (y_slice_sl0 sl22 sz5 rfl 0 ⟨_, _, rfl, by first | rfl | omega⟩ rfl (by omega)) ?_
    refine wl_y (y_assign rfl) ?_
    refine wl_nil ?_
    refine aq_seq ?_
    refine wc_seq ?_
    refine wc_region ?_
    refine wl_y (y_move rfl) ?_
    refine wl_y (y_assign rfl) ?_
    refine wl_nil ?_
    refine aq_seq ?_
    refine wc_ret ?_
    refine aq_return (.inl rfl) rfl (⟨_, _, rfl, rfl, rfl⟩) ?_
    intro w' m
    exact ⟨r1, rfl, (m).shrink 0 (by omega)⟩
  · have hb2 : ¬ (((n - 0 : Nat) : Int) > 0) := by simpa using hc2
    refine wc_skip ?_
    refine aq_seq ?_
    refine wc_seq ?_
    refine wc_region ?_
    refine wl_y (y_move rfl) ?_
    refine wl_y (y_assign rfl) ?_
    refine wl_nil ?_
    refine aq_seq ?_
    refine wc_ret ?_
    refine aq_return (.inl rfl) rfl (⟨_, _, rfl, rfl, rfl⟩) ?_
    intro w' m
    exact ⟨(none, 0), rfl, m.nilsl 5 1⟩

theorem concat_ok (w : World) (al : Option Addr) (nl cl : Nat) (pcs : List Pc) (hl : Rd w al nl 1 (pcs.map pv)) (hps : ∀ p ∈ pcs, Rd w p.1 p.2.1 1 (p.2.2.2.map b8)) (hnl : nl ≤ 1000) (hsz : sumN pcs nl ≤ 70368744177664) :
    Calls Try.prog 15 #[.slice al nl cl] w (Ret (fun r : Option Addr × Nat => .slice r.1 (sumN pcs nl) r.2) (fun r => Mem w [] [.sl r.1 (sumN pcs nl) r.2 5 1 ((flatN pcs nl).map b8)])) := by
  have hll := hl.len
  have hp := pcs_get hps
  refine calls_of Try.func15 rfl rfl (L := [(0, .slice al nl cl)]) ⟨rfl, trivial⟩ (m := 36) (Nat.le_of_ble_eq_true rfl) (M := Mem w [] []) (Mem.refl w) ?_
  refine wc_seq ?_
  refine wc_region ?_
  refine wl_y (y_assign rfl) ?_
  refine wl_nil ?_
  refine aq_seq ?_
  refine wc_seq ?_
  refine wc_region ?_
  refine wl_y (y_assign rfl) ?_
  refine wl_nil ?_
  refine aq_seq ?_
  refine wc_seq ?_
  refine wc_seq ?_
  refine wc_region ?_
  refine wl_y (y_move rfl) ?_
  refine wl_y (y_len_sl sl74 (m := nl) rfl rfl) ?_
  refine wl_y (y_move rfl) ?_
  refine wl_nil ?_
  refine aq_seq ?_
  refine wc_block ?_
  refine wc_loop (γ := Nat) (fun i => [(0, .slice al nl cl), (2, .slice none 0 0), (3, ki ((((sumN pcs i) : Nat) : Int))), (9, .slice al nl cl), (10, ki ((nl : Int))), (11, ki ((i : Int)))]) (fun i => Mem w [] []) (fun i => (i ≤ nl)) (fun i => nl - i) (0) ?_ ⟨rfl, rfl, rfl, rfl, rfl, rfl, trivial⟩ (fun _ h => h) ?_
  · omega
  · rintro i hi
    have hmono := fun h : i + 1 ≤ nl => sumN_le pcs h
    have hsu : sumN pcs (i + 1) = sumN pcs i + (pcs.getD i (none, 0, 0, [])).2.1 := rfl
    refine wc_seq ?_
    refine wc_region ?_
    refine wl_y (y_bin rfl rfl lss_i64) ?_
    refine wl_nil ?_
    refine aq_seq ?_
    refine wc_seq ?_
    refine wc_if rfl (fun hc1 => ?_) (fun hc1 => ?_)
    · have hb1 : (i : Int) < (nl : Int) := by simpa using hc1
      refine wc_skip ?_
      refine aq_seq ?_
      refine wc_seq ?_
      refine wc_block ?_
      refine wc_seq ?_
      refine wc_region ?_
      refine wl_y (y_indexAddr_sl sl74 sz22 rfl rfl (by omega) (by omega) (fun w m => rd_isSome (m.rd0 hl) (by omega) (by decide)) i (by omega)) ?_
      refine wl_y (y_load sc22 rfl (c_of (fun w m => m.rd0 hl) (map_get (gd (none, 0, 0, []) (by first | omega | (simp; omega)))))) ?_
      refine wl_y (y_assign rfl) ?_
      refine wl_nil ?_
      refine aq_seq ?_
      refine wc_seq ?_
      refine wc_region ?_
      refine wl_y (y_move rfl) ?_
      refine wl_y (y_move rfl) ?_
      refine wl_y (y_len_sl sl22 (m := ((pcs.getD i (none, 0, 0, [])).2.1)) rfl rfl) ?_
      refine wl_y (y_bin rfl rfl (addn_i64 (a := (sumN pcs i)) (b := ((pcs.getD i (none, 0, 0, [])).2.1)) (by omega))) ?_
      refine wl_y (y_assign rfl) ?_
      refine wl_nil ?_
      refine aq_seq ?_
      refine wc_seq ?_
      refine wc_region ?_
      refine wl_y (y_move rfl) ?_
      refine wl_y (y_bin rfl rfl lss_i64) ?_
      refine wl_nil ?_
      refine aq_seq ?_
      have hd2 : (decide ((((sumN pcs i) + ((pcs.getD i (none, 0, 0, [])).2.1) : Nat) : Int) < 0)) = false := by exact decide_eq_false (by omega)
      refine wc_else' rfl hd2 ?_
      refine wc_skip ?_
      refine aq_blk_normal ?_
      refine aq_seq ?_
      refine wc_region ?_
      refine wl_y (y_bin rfl rfl (addn_i64 (a := i) (b := 1) (by omega))) ?_
      refine wl_y (y_move rfl) ?_
      refine wl_nil ?_
      refine aq_loop (i + 1) ?_ ?_ ⟨rfl, rfl, rfl, rfl, rfl, rfl, trivial⟩ (fun _ h => h)
      · omega
      · first | omega | (dsimp only; omega)
    · have hb1 : ¬ ((i : Int) < (nl : Int)) := by simpa using hc1
      have hin : nl = i := by omega
      subst hin
      refine wc_exit ?_
      refine aq_thru_exit ?_
      refine aq_thru_exit ?_
      refine aq_blk_exit ?_
      refine aq_seq ?_
      refine wc_seq ?_
      refine wc_region ?_
      refine wl_y (y_move rfl) ?_
      refine wl_eff (e_call0 cf33 rfl (fun w m => grow_ok w (sumN pcs nl) (by omega))) rfl trivial rfl ?_
      intro r1
      refine wl_y (y_assign rfl) ?_
      refine wl_nil ?_
      refine aq_seq ?_
      refine wc_seq ?_
      refine wc_seq ?_
      refine wc_region ?_
      refine wl_y (y_move rfl) ?_
      refine wl_y (y_len_sl sl74 (m := nl) rfl rfl) ?_
      refine wl_y (y_move rfl) ?_
      refine wl_nil ?_
      refine aq_seq ?_
      refine wc_block ?_
      refine wc_loop (γ := Nat × Option Addr × Nat) (fun ⟨j, ad, cp⟩ => [(2, .slice none 0 0), (6, .slice ad (sumN pcs j) cp), (25, .slice al nl cl), (26, ki ((nl : Int))), (27, ki ((j : Int)))]) (fun ⟨j, ad, cp⟩ => Mem w [] [.sl ad (sumN pcs j) cp 5 1 ((flatN pcs j).map b8)]) (fun ⟨j, ad, cp⟩ => (j ≤ nl)) (fun ⟨j, ad, cp⟩ => nl - j) (⟨0, r1.1, r1.2⟩) ?_ ⟨rfl, rfl, rfl, rfl, rfl, trivial⟩ (fun _ h => h) ?_
      · omega
      · rintro ⟨j, ad, cp⟩ hj
        change j ≤ nl at hj
        have hmono := fun h : j + 1 ≤ nl => sumN_le pcs h
        have hsu : sumN pcs (j + 1) = sumN pcs j + (pcs.getD j (none, 0, 0, [])).2.1 := rfl
        refine wc_seq ?_
        refine wc_region ?_
        refine wl_y (y_bin rfl rfl lss_i64) ?_
        refine wl_nil ?_
        refine aq_seq ?_
        refine wc_seq ?_
        refine wc_if rfl (fun hc3 => ?_) (fun hc3 => ?_)
        · have hb3 : (j : Int) < (nl : Int) := by simpa using hc3
          refine wc_skip ?_
          refine aq_seq ?_
          refine wc_seq ?_
          refine wc_block ?_
          refine wc_seq ?_
          refine wc_region ?_
          refine wl_y (y_indexAddr_sl sl74 sz22 rfl rfl (by omega) (by omega) (fun w m => rd_isSome (m.rd0 hl) (by omega) (by decide)) j (by omega)) ?_
          refine wl_y (y_load sc22 rfl (c_of (fun w m => m.rd0 hl) (map_get (gd (none, 0, 0, []) (by first | omega | (simp; omega)))))) ?_
          refine wl_y (y_assign rfl) ?_
          refine wl_nil ?_
          refine aq_seq ?_
          refine wc_region ?_
          refine wl_y (y_move rfl) ?_
          refine wl_y (y_move rfl) ?_
          refine wl_eff (e_appendm (f := b8) (xs := (flatN pcs j)) (news := ((pcs.getD j (none, 0, 0, [])).2.2.2)) sl22 el5 rfl rfl rfl rfl (i := 0) rfl (fun w m => m.rd0 (hp j)) (by omega) (by omega) ((sumN pcs j) + ((pcs.getD j (none, 0, 0, [])).2.1)) (by first | rfl | omega) (by first | rfl | simp) (fun _ => rfl)) rfl trivial rfl ?_
          intro r2
          refine wl_y (y_assign rfl) ?_
          refine wl_nil ?_
          refine aq_blk_normal ?_
          refine aq_seq ?_
          refine wc_region ?_
          refine wl_y (y_bin rfl rfl (addn_i64 (a := j) (b := 1) (by omega))) ?_
          refine wl_y (y_move rfl) ?_
          refine wl_nil ?_
          refine aq_loop (⟨j + 1, r2.1, r2.2⟩) ?_ ?_ ⟨rfl, rfl, rfl, rfl, rfl, trivial⟩ (fun _ h => h)
          · omega
          · first | omega | (dsimp only; omega)
        · have hb3 : ¬ ((j : Int) < (nl : Int)) := by simpa using hc3
          refine wc_exit ?_
          refine aq_thru_exit ?_
          refine aq_thru_exit ?_
          refine aq_blk_exit ?_
          refine aq_seq ?_
          refine wc_seq ?_
          refine wc_region ?_
          refine wl_y (y_move rfl) ?_
          refine wl_y (y_assign rfl) ?_
          refine wl_nil ?_
          refine aq_seq ?_
          refine wc_ret ?_
          refine aq_return (.inl rfl) rfl (⟨_, _, rfl, rfl, rfl⟩) ?_
          intro w' m
          have hjn : j = nl := by omega
          subst hjn
          exact ⟨(ad, cp), rfl, m⟩

theorem of1_ok (w : World) (ab : Option Addr) (nb cb : Nat) (lb : List UInt8) (hb : Rd w ab nb 1 (lb.map b8)) (hn : nb = 32) :
    Calls Try.prog 30 #[.slice ab nb cb] w (Ret (fun _ : Unit => .agg (arr b8 lb)) (fun _ => Mem w [] [])) := by
  have hlb := hb.len
  refine calls_of Try.func30 rfl rfl (L := [(0, .slice ab nb cb)]) ⟨rfl, trivial⟩ (m := 6) (Nat.le_of_ble_eq_true rfl) (M := Mem w [] []) (Mem.refl w) ?_
  refine wc_seq ?_
  refine wc_region ?_
  refine wl_eff (e_alloc (cs := arr b8 (List.replicate 32 0)) zn33) rfl trivial rfl ?_
  intro b1
  refine wl_nil ?_
  refine aq_seq ?_
  refine wc_seq ?_
  refine wc_region ?_
  refine wl_y (y_move rfl) ?_
  refine wl_y (y_s2a ar33 rfl (by omega) (fun w m => rd_isSome (m.rd0 hb) (by omega) (by decide))) ?_
  refine wl_y (y_loads (cs := ((lb.take 32).map b8)) ag33 rfl (by first | (simp; done) | (simp [*]; done) | (simp; omega)) (fun w m => c_rds0 (m.rd0 hb) 32 (by first | (simp; done) | (simp [List.take_take]; done)))) ?_
  refine wl_re (t := 5) (v' := .agg (arr b8 lb)) rfl (congrArg (fun l => Value.agg (arr b8 l)) (List.take_of_length_le (by omega))) ?_
  refine wl_eff (e_storeall sz33 rfl rfl (i := 0) rfl (by first | (simp; done) | (simp [*]; done) | (simp; omega)) (by first | (simp; done) | (simp [*]; done) | (simp; omega)) (arr_one _) rfl) rfl trivial rfl ?_
  intro _
  refine wl_nil ?_
  refine aq_seq ?_
  refine wc_ret ?_
  refine aq_return (.inl rfl) rfl (⟨_, _, _, rfl, fun w m => run_loadVar_all ag33 (m.blk (i := 0) rfl) (by first | (simp; done) | (simp [*]; done) | (simp; omega)), rfl, rfl⟩) ?_
  intro w' m
  exact ⟨(), rfl, m.pick (is := []) rfl (by decide)⟩

theorem as32_ok (w : World) (ab : Option Addr) (nb cb : Nat) (lb : List UInt8) (hb : Rd w ab nb 1 (lb.map b8)) :
    Calls Try.prog 29 #[.slice ab nb cb, ki (32), .func (.func 30) #[] #[]] w (Ret (fun _ : Unit => .tuple #[.agg (arr b8 (asF lb nb 32)), kb (decide (nb = 32))]) (fun _ => Mem w [] [])) := by
  have hlb := hb.len
  refine calls_of Try.func29 rfl rfl (L := [(0, .slice ab nb cb), (1, ki (32)), (2, .func (.func 30) #[] #[])]) ⟨rfl, rfl, rfl, trivial⟩ (m := 16) (Nat.le_of_ble_eq_true rfl) (M := Mem w [] []) (Mem.refl w) ?_
  refine wc_seq ?_
  refine wc_region ?_
  refine wl_eff (e_alloc (cs := arr b8 (List.replicate 32 0)) zn33) rfl trivial rfl ?_
  intro b1
  refine wl_y (y_assign rfl) ?_
  refine wl_nil ?_
  refine aq_seq ?_
  refine wc_seq ?_
  refine wc_seq ?_
  refine wc_region ?_
  refine wl_y (y_move rfl) ?_
  refine wl_y (y_len_sl sl22 (m := nb) rfl rfl) ?_
  refine wl_y (y_move rfl) ?_
  refine wl_y (y_bin rfl rfl neq_i64) ?_
  refine wl_nil ?_
  refine aq_seq ?_
  refine wc_if rfl (fun hc1 => ?_) (fun hc1 => ?_)
  · have hb1 : ¬ ((nb : Int) = 32) := by simpa using hc1
    have hne : ¬ (nb = 32) := by omega
    refine wc_seq ?_
    refine wc_region ?_
    refine wl_y (y_loadall ag33 rfl (i := 0) rfl (by first | (simp; done) | (simp [*]; done) | (simp; omega))) ?_
    refine wl_eff (e_storeall sz33 rfl rfl (i := 0) rfl (by first | (simp; done) | (simp [*]; done) | (simp; omega)) (by first | (simp; done) | (simp [*]; done) | (simp; omega)) (arr_one _) rfl) rfl trivial rfl ?_
    intro _
    refine wl_y (y_assign rfl) ?_
    refine wl_nil ?_
    refine aq_seq ?_
    refine wc_ret ?_
    refine aq_thru_ret ?_
    refine aq_return (.inl rfl) rfl (⟨_, _, _, rfl, fun w m => run_loadVar_all ag33 (m.blk (i := 0) rfl) (by first | (simp; done) | (simp [*]; done) | (simp; omega)), rfl, ⟨_, _, rfl, rfl, rfl⟩⟩) ?_
    intro w' m
    simp only [asF, if_neg hne, decide_eq_false hne]
    exact ⟨(), rfl, m.pick (is := []) rfl (by decide)⟩
  · have hb1 : (nb : Int) = 32 := by simpa using hc1
    have heq : nb = 32 := by omega
    refine wc_skip ?_
    refine aq_seq ?_
    refine wc_seq ?_
    refine wc_region ?_
    refine wl_y (y_move rfl) ?_
    refine wl_y (y_move rfl) ?_
    refine wl_eff (e_callv0 rfl cf30 rfl (fun w m => of1_ok w ab nb cb lb (m.rd0 hb) (by omega))) rfl trivial rfl ?_
    intro _
    refine wl_eff (e_storeall sz33 rfl rfl (i := 0) rfl (by first | (simp; done) | (simp [*]; done) | (simp; omega)) (by first | (simp; done) | (simp [*]; done) | (simp; omega)) (arr_one _) rfl) rfl trivial rfl ?_
    intro _
    refine wl_y (y_assign rfl) ?_
    refine wl_nil ?_
    refine aq_seq ?_
    refine wc_ret ?_
    refine aq_return (.inl rfl) rfl (⟨_, _, _, rfl, fun w m => run_loadVar_all ag33 (m.blk (i := 0) rfl) (by first | (simp; done) | (simp [*]; done) | (simp; omega)), rfl, ⟨_, _, rfl, rfl, rfl⟩⟩) ?_
    intro w' m
    simp only [asF, if_pos heq, decide_eq_true heq]
    exact ⟨(), rfl, m.pick (is := []) rfl (by decide)⟩

theorem of2_ok (w : World) (ab : Option Addr) (nb cb : Nat) (lb : List UInt8) (hb : Rd w ab nb 1 (lb.map b8)) (hn : nb = 12) :
    Calls Try.prog 32 #[.slice ab nb cb] w (Ret (fun _ : Unit => .agg (arr b8 lb)) (fun _ => Mem w [] [])) := by
  have hlb := hb.len
  refine calls_of Try.func32 rfl rfl (L := [(0, .slice ab nb cb)]) ⟨rfl, trivial⟩ (m := 6) (Nat.le_of_ble_eq_true rfl) (M := Mem w [] []) (Mem.refl w) ?_
  refine wc_seq ?_
  refine wc_region ?_
  refine wl_eff (e_alloc (cs := arr b8 (List.replicate 12 0)) zn34) rfl trivial rfl ?_
  intro b1
  refine wl_nil ?_
  refine aq_seq ?_
  refine wc_seq ?_
  refine wc_region ?_
  refine wl_y (y_move rfl) ?_
  refine wl_y (y_s2a ar34 rfl (by omega) (fun w m => rd_isSome (m.rd0 hb) (by omega) (by decide))) ?_
  refine wl_y (y_loads (cs := ((lb.take 12).map b8)) ag34 rfl (by first | (simp; done) | (simp [*]; done) | (simp; omega)) (fun w m => c_rds0 (m.rd0 hb) 12 (by first | (simp; done) | (simp [List.take_take]; done)))) ?_
  refine wl_re (t := 5) (v' := .agg (arr b8 lb)) rfl (congrArg (fun l => Value.agg (arr b8 l)) (List.take_of_length_le (by omega))) ?_
  refine wl_eff (e_storeall sz34 rfl rfl (i := 0) rfl (by first | (simp; done) | (simp [*]; done) | (simp; omega)) (by first | (simp; done) | (simp [*]; done) | (simp; omega)) (arr_one _) rfl) rfl trivial rfl ?_
  intro _
  refine wl_nil ?_
  refine aq_seq ?_
  refine wc_ret ?_
  refine aq_return (.inl rfl) rfl (⟨_, _, _, rfl, fun w m => run_loadVar_all ag34 (m.blk (i := 0) rfl) (by first | (simp; done) | (simp [*]; done) | (simp; omega)), rfl, rfl⟩) ?_
  intro w' m
  exact ⟨(), rfl, m.pick (is := []) rfl (by decide)⟩

theorem as12_ok (w : World) (ab : Option Addr) (nb cb : Nat) (lb : List UInt8) (hb : Rd w ab nb 1 (lb.map b8)) :
    Calls Try.prog 31 #[.slice ab nb cb, ki (12), .func (.func 32) #[] #[]] w (Ret (fun _ : Unit => .tuple #[.agg (arr b8 (asF lb nb 12)), kb (decide (nb = 12))]) (fun _ => Mem w [] [])) := by
  have hlb := hb.len
  refine calls_of Try.func31 rfl rfl (L := [(0, .slice ab nb cb), (1, ki (12)), (2, .func (.func 32) #[] #[])]) ⟨rfl, rfl, rfl, trivial⟩ (m := 16) (Nat.le_of_ble_eq_true rfl) (M := Mem w [] []) (Mem.refl w) ?_
  refine wc_seq ?_
  refine wc_region ?_
  refine wl_eff (e_alloc (cs := arr b8 (List.replicate 12 0)) zn34) rfl trivial rfl ?_
  intro b1
  refine wl_y (y_assign rfl) ?_
  refine wl_nil ?_
  refine aq_seq ?_
  refine wc_seq ?_
  refine wc_seq ?_
  refine wc_region ?_
  refine wl_y (y_move rfl) ?_
  refine wl_y (y_len_sl sl22 (m := nb) rfl rfl) ?_
  refine wl_y (y_move rfl) ?_
  refine wl_y (y_bin rfl rfl neq_i64) ?_
  refine wl_nil ?_
  refine aq_seq ?_
  refine wc_if rfl (fun hc1 => ?_) (fun hc1 => ?_)
  · have hb1 : ¬ ((nb : Int) = 12) := by simpa using hc1
    have hne : ¬ (nb = 12) := by omega
    refine wc_seq ?_
    refine wc_region ?_
    refine wl_y (y_loadall ag34 rfl (i := 0) rfl (by first | (simp; done) | (simp [*]; done) | (simp; omega))) ?_
    refine wl_eff (e_storeall sz34 rfl rfl (i := 0) rfl (by first | (simp; done) | (simp [*]; done) | (simp; omega)) (by first | (simp; done) | (simp [*]; done) | (simp; omega)) (arr_one _) rfl) rfl trivial rfl ?_
    intro _
    refine wl_y (y_assign rfl) ?_
    refine wl_nil ?_
    refine aq_seq ?_
    refine wc_ret ?_
    refine aq_thru_ret ?_
    refine aq_return (.inl rfl) rfl (⟨_, _, _, rfl, fun w m => run_loadVar_all ag34 (m.blk (i := 0) rfl) (by first | (simp; done) | (simp [*]; done) | (simp; omega)), rfl, ⟨_, _, rfl, rfl, rfl⟩⟩) ?_
    intro w' m
    simp only [asF, if_neg hne, decide_eq_false hne]
    exact ⟨(), rfl, m.pick (is := []) rfl (by decide)⟩
  · have hb1 : (nb : Int) = 12 := by simpa using hc1
    have heq : nb = 12 := by omega
    refine wc_skip ?_
    refine aq_seq ?_
    refine wc_seq ?_
    refine wc_region ?_
    refine wl_y (y_move rfl) ?_
    refine wl_y (y_move rfl) ?_
    refine wl_eff (e_callv0 rfl cf32 rfl (fun w m => of2_ok w ab nb cb lb (m.rd0 hb) (by omega))) rfl trivial rfl ?_
    intro _
    refine wl_eff (e_storeall sz34 rfl rfl (i := 0) rfl (by first | (simp; done) | (simp [*]; done) | (simp; omega)) (by first | (simp; done) | (simp [*]; done) | (simp; omega)) (arr_one _) rfl) rfl trivial rfl ?_
    intro _
    refine wl_y (y_assign rfl) ?_
    refine wl_nil ?_
    refine aq_seq ?_
    refine wc_ret ?_
    refine aq_return (.inl rfl) rfl (⟨_, _, _, rfl, fun w m => run_loadVar_all ag34 (m.blk (i := 0) rfl) (by first | (simp; done) | (simp [*]; done) | (simp; omega)), rfl, ⟨_, _, rfl, rfl, rfl⟩⟩) ?_
    intro w' m
    simp only [asF, if_pos heq, decide_eq_true heq]
    exact ⟨(), rfl, m.pick (is := []) rfl (by decide)⟩

theorem aof_ok (w : World) (ak an : Option Addr) (nk ck nn cn : Nat) (lk ln : List UInt8) (hk : Rd w ak nk 1 (lk.map b8)) (hn : Rd w an nn 1 (ln.map b8)) :
    Calls Try.prog 14 #[.slice ak nk ck, .slice an nn cn] w (Ret (fun _ : Unit => .tuple #[.agg (arr b8 (asF lk nk 32 ++ asF ln nn 12)), kb (decide (nk = 32) && decide (nn = 12))]) (fun _ => Mem w [] [])) := by
  have hlk := hk.len
  have hln := hn.len
  have ha1 := asF_len lk nk 32 hlk
  have ha2 := asF_len ln nn 12 hln
  refine calls_of Try.func14 rfl rfl (L := [(0, .slice ak nk ck), (1, .slice an nn cn)]) ⟨rfl, rfl, trivial⟩ (m := 27) (Nat.le_of_ble_eq_true rfl) (M := Mem w [] []) (Mem.refl w) ?_
  refine wc_seq ?_
  refine wc_region ?_
  refine wl_eff (e_alloc (cs := #[b8 (0), b8 (0), b8 (0), b8 (0), b8 (0), b8 (0), b8 (0), b8 (0), b8 (0), b8 (0), b8 (0), b8 (0), b8 (0), b8 (0), b8 (0), b8 (0), b8 (0), b8 (0), b8 (0), b8 (0), b8 (0), b8 (0), b8 (0), b8 (0), b8 (0), b8 (0), b8 (0), b8 (0), b8 (0), b8 (0), b8 (0), b8 (0), b8 (0), b8 (0), b8 (0), b8 (0), b8 (0), b8 (0), b8 (0), b8 (0), b8 (0), b8 (0), b8 (0), b8 (0)]) zn44) rfl trivial rfl ?_
  intro b1
  refine wl_y (y_assign rfl) ?_
  refine wl_nil ?_
  refine aq_seq ?_
  refine wc_seq ?_
  refine wc_region ?_
  refine wl_y (y_move rfl) ?_
  refine wl_eff (e_call0 cf29 rfl (fun w m => as32_ok w ak nk ck lk (m.rd0 hk))) rfl trivial rfl ?_
  intro _
  refine wl_y (y_move rfl) ?_
  refine wl_y (y_extract rfl rfl) ?_
  refine wl_y (y_extract rfl rfl) ?_
  refine wl_eff (e_alloc (cs := arr b8 (List.replicate 32 0)) zn33) rfl trivial rfl ?_
  intro b2
  refine wl_eff (e_storeall sz33 rfl rfl (i := 0) rfl (by first | (simp; done) | (simp [ha1, ha2]; done) | (simp; omega)) (by first | (simp; done) | (simp [ha1, ha2]; done) | (simp; omega)) (arr_one _) rfl) rfl trivial rfl ?_
  intro _
  refine wl_y (y_assign rfl) ?_
  refine wl_nil ?_
  refine aq_seq ?_
  refine wc_seq ?_
  refine wc_region ?_
  refine wl_y (y_move rfl) ?_
  refine wl_eff (e_call0 cf31 rfl (fun w m => as12_ok w an nn cn ln (m.rd0 hn))) rfl trivial rfl ?_
  intro _
  refine wl_y (y_move rfl) ?_
  refine wl_y (y_extract rfl rfl) ?_
  refine wl_y (y_extract rfl rfl) ?_
  refine wl_eff (e_alloc (cs := arr b8 (List.replicate 12 0)) zn34) rfl trivial rfl ?_
  intro b3
  refine wl_eff (e_storeall sz34 rfl rfl (i := 0) rfl (by first | (simp; done) | (simp [ha1, ha2]; done) | (simp; omega)) (by first | (simp; done) | (simp [ha1, ha2]; done) | (simp; omega)) (arr_one _) rfl) rfl trivial rfl ?_
  intro _
  refine wl_y (y_assign rfl) ?_
  refine wl_nil ?_
  refine aq_seq ?_
  refine wc_seq ?_
  refine wc_region ?_
  refine wl_y (y_loadall ag33 rfl (i := 1) rfl (by first | (simp; done) | (simp [ha1, ha2]; done) | (simp; omega))) ?_
  refine wl_y (y_loadall ag34 rfl (i := 0) rfl (by first | (simp; done) | (simp [ha1, ha2]; done) | (simp; omega))) ?_
  refine wl_y (y_build_arr2 (f := b8) (a := (asF lk nk 32)) (b := (asF ln nn 12)) st44 zn44 rfl (by first | omega | (simp [*]; done)) (by first | omega | (simp [*]; done)) rfl) ?_
  refine wl_y (y_move rfl) ?_
  refine wl_y (y_move rfl) ?_
  refine wl_bool (t := 24) rfl (fun hs23 => ?_) (fun hs23 => ?_)
  · have hb23 : nk = 32 := by simpa using hs23
    refine wl_y (y_move rfl) ?_ (hg := ⟨_, rfl, rfl⟩)
    refine wl_y (y_pick (b := true) rfl rfl) ?_
    refine wl_eff (e_storeall sz44 rfl rfl (i := 2) rfl (by first | (simp; done) | (simp [ha1, ha2]; done) | (simp; omega)) (by first | (simp; done) | (simp [ha1, ha2]; done) | (simp; omega)) (arr_one _) ⟨_, rfl, ⟨_, rfl, rfl⟩⟩) rfl trivial rfl ?_
    intro _
    refine wl_y (y_assign rfl) ?_
    refine wl_nil ?_
    refine aq_seq ?_
    refine wc_ret ?_
    refine aq_return (.inl rfl) rfl (⟨_, _, _, rfl, fun w m => run_loadVar_all ag44 (m.blk (i := 2) rfl) (by first | (simp; done) | (simp [ha1, ha2]; done) | (simp; omega)), rfl, ⟨_, _, rfl, rfl, rfl⟩⟩) ?_
    intro w' m
    simp only [decide_eq_true hb23, Bool.true_and]
    exact ⟨(), rfl, m.pick (is := []) rfl (by decide)⟩
  · have hb23 : ¬ (nk = 32) := by simpa using hs23
    refine wl_off ⟨_, _, rfl, rfl, .inl rfl⟩ rfl ?_
    refine wl_y (y_pick (b := false) rfl rfl) ?_
    refine wl_eff (e_storeall sz44 rfl rfl (i := 2) rfl (by first | (simp; done) | (simp [ha1, ha2]; done) | (simp; omega)) (by first | (simp; done) | (simp [ha1, ha2]; done) | (simp; omega)) (arr_one _) ⟨_, rfl, ⟨_, rfl, rfl⟩⟩) rfl trivial rfl ?_
    intro _
    refine wl_y (y_assign rfl) ?_
    refine wl_nil ?_
    refine aq_seq ?_
    refine wc_ret ?_
    refine aq_return (.inl rfl) rfl (⟨_, _, _, rfl, fun w m => run_loadVar_all ag44 (m.blk (i := 2) rfl) (by first | (simp; done) | (simp [ha1, ha2]; done) | (simp; omega)), rfl, ⟨_, _, rfl, rfl, rfl⟩⟩) ?_
    intro w' m
    simp only [decide_eq_false hb23, Bool.false_and]
    exact ⟨(), rfl, m.pick (is := []) rfl (by decide)⟩

theorem equal_ok (w : World) (aa ab : Option Addr) (na ca nb cb : Nat) (la lb : List UInt8) (ha : Rd w aa na 1 (la.map b8)) (hb : Rd w ab nb 1 (lb.map b8)) (hna : na ≤ 140737488355328) :
    Calls Try.prog 17 #[.slice aa na ca, .slice ab nb cb] w (Ret (fun _ : Unit => kb (la == lb)) (fun _ => Mem w [] [])) := by
  have hla := ha.len
  have hlb := hb.len
  refine calls_of Try.func17 rfl rfl (L := [(0, .slice aa na ca), (1, .slice ab nb cb)]) ⟨rfl, rfl, trivial⟩ (m := 26) (Nat.le_of_ble_eq_true rfl) (M := Mem w [] []) (Mem.refl w) ?_
  refine wc_seq ?_
  refine wc_region ?_
  refine wl_y (y_assign rfl) ?_
  refine wl_nil ?_
  refine aq_seq ?_
  refine wc_seq ?_
  refine wc_seq ?_
  refine wc_region ?_
  refine wl_y (y_move rfl) ?_
  refine wl_y (y_len_sl sl22 (m := na) rfl rfl) ?_
  refine wl_y (y_move rfl) ?_
  refine wl_y (y_len_sl sl22 (m := nb) rfl rfl) ?_
  refine wl_y (y_bin rfl rfl neq_i64) ?_
  refine wl_nil ?_
  refine aq_seq ?_
  refine wc_if rfl (fun hc1 => ?_) (fun hc1 => ?_)
  · have hb1 : ¬ ((na : Int) = (nb : Int)) := by simpa using hc1
    refine wc_seq ?_
    refine wc_region ?_
    refine wl_y (y_assign rfl) ?_
    refine wl_nil ?_
    refine aq_seq ?_
    refine wc_ret ?_
    refine aq_thru_ret ?_
    refine aq_return (.inl rfl) rfl (⟨_, _, rfl, rfl, rfl⟩) ?_
    intro w' m
    refine ⟨(), congrArg Ending.returned (congrArg kb ?_), m.pick (is := []) rfl List.nodup_nil⟩
    exact (ne_beq (by omega)).symm
  · have hb1 : (na : Int) = (nb : Int) := by simpa using hc1
    refine wc_skip ?_
    refine aq_seq ?_
    refine wc_seq ?_
    refine wc_seq ?_
    refine wc_region ?_
    refine wl_y (y_move rfl) ?_
    refine wl_y (y_len_sl sl22 (m := na) rfl rfl) ?_
    refine wl_y (y_move rfl) ?_
    refine wl_nil ?_
    refine aq_seq ?_
    refine wc_block ?_
    refine wc_loop (γ := Nat) (fun k => [(0, .slice aa na ca), (1, .slice ab nb cb), (12, ki ((na : Int))), (13, ki ((k : Int)))]) (fun k => Mem w [] []) (fun k => (k ≤ na) ∧ (la.take k = lb.take k)) (fun k => na - k) (0) ?_ ⟨rfl, rfl, rfl, rfl, trivial⟩ (fun _ h => h) ?_
    · exact ⟨by omega, by simp⟩
    · rintro k ⟨hk, ht⟩
      refine wc_seq ?_
      refine wc_region ?_
      refine wl_y (y_bin rfl rfl lss_i64) ?_
      refine wl_nil ?_
      refine aq_seq ?_
      refine wc_seq ?_
      refine wc_if rfl (fun hc2 => ?_) (fun hc2 => ?_)
      · have hb2 : (k : Int) < (na : Int) := by simpa using hc2
        refine wc_skip ?_
        refine aq_seq ?_
        refine wc_seq ?_
        refine wc_block ?_
        refine wc_seq ?_
        refine wc_region ?_
        refine wl_y (y_move rfl) ?_
        refine wl_y (y_assign rfl) ?_
        refine wl_nil ?_
        refine aq_seq ?_
        refine wc_seq ?_
        refine wc_drawM [(0, .q), (1, .q), (2, .q), (3, .q), (4, .q), (5, .q), (6, .q), (7, .q), (8, .q)] (by kernel_rfl) (by kernel_rfl) Mem.closed ?_
        refine wp_q rfl Mem.closed (fun _ h => h) Mem.closed rfl (q_of_yld (y_move rfl)) trivial ?_
        refine wp_q rfl Mem.closed (fun _ h => h) Mem.closed rfl (q_of_yld (y_move rfl)) trivial ?_
        refine wp_q rfl Mem.closed (fun _ h => h) Mem.closed rfl (q_of_yld (y_indexAddr_sl sl22 sz5 rfl rfl (by omega) (by omega) (fun w m => rd_isSome (m.rd0 ha) (by omega) (by decide)) k (by omega))) trivial ?_
        refine wp_q rfl Mem.closed (fun _ h => h) Mem.closed rfl (q_of_yld (y_load sc5 rfl (c_of (fun w m => m.rd0 ha) (map_get (gd 0 (by first | omega | (simp; omega))))))) trivial ?_
        refine wp_q rfl Mem.closed (fun _ h => h) Mem.closed rfl (q_of_yld (y_move rfl)) trivial ?_
        refine wp_q rfl Mem.closed (fun _ h => h) Mem.closed rfl (q_of_yld (y_move rfl)) trivial ?_
        refine wp_q rfl Mem.closed (fun _ h => h) Mem.closed rfl (q_of_yld (y_indexAddr_sl sl22 sz5 rfl rfl (by omega) (by omega) (fun w m => rd_isSome (m.rd0 hb) (by omega) (by decide)) k (by omega))) trivial ?_
        refine wp_q rfl Mem.closed (fun _ h => h) Mem.closed rfl (q_of_yld (y_load sc5 rfl (c_of (fun w m => m.rd0 hb) (map_get (gd 0 (by first | omega | (simp; omega))))))) trivial ?_
        refine wp_q rfl Mem.closed (fun _ h => h) Mem.closed rfl (q_of_yld (y_bin rfl rfl (neq_u8 (la.getD k 0) (lb.getD k 0)))) trivial ?_
        refine wp_nil ?_
        refine aq_seq ?_
        refine wc_if rfl (fun hc3 => ?_) (fun hc3 => ?_)
        · have hb3 : ¬ ((la.getD k 0) = (lb.getD k 0)) := by simpa using hc3
          refine wc_seq ?_
          refine wc_region ?_
          refine wl_y (y_assign rfl) ?_
          refine wl_nil ?_
          refine aq_seq ?_
          refine wc_ret ?_
          refine aq_blk_ret ?_
          refine aq_thru_ret ?_
          refine aq_thru_ret ?_
          refine aq_blk_ret ?_
          refine aq_thru_ret ?_
          refine aq_return (.inl rfl) rfl (⟨_, _, rfl, rfl, rfl⟩) ?_
          intro w' m
          refine ⟨(), congrArg Ending.returned (congrArg kb ?_), m.pick (is := []) rfl List.nodup_nil⟩
          exact (getD_ne_beq hb3).symm
        · have hb3 : (la.getD k 0) = (lb.getD k 0) := by simpa using hc3
          refine wc_skip ?_
          refine aq_blk_normal ?_
          refine aq_seq ?_
          refine wc_region ?_
          refine wl_y (y_bin rfl rfl (addn_i64 (a := k) (b := 1) (by omega))) ?_
          refine wl_y (y_move rfl) ?_
          refine wl_nil ?_
          refine aq_loop (k + 1) ?_ ?_ ⟨rfl, rfl, rfl, rfl, trivial⟩ (fun _ h => h)
          · exact ⟨by omega, take_succ_eq ht (by omega) (by omega) (by simpa using hc3)⟩
          · first | omega | (dsimp only; omega)
      · have hb2 : ¬ ((k : Int) < (na : Int)) := by simpa using hc2
        refine wc_exit ?_
        refine aq_thru_exit ?_
        refine aq_thru_exit ?_
        refine aq_blk_exit ?_
        refine aq_seq ?_
        refine wc_seq ?_
        refine wc_region ?_
        refine wl_y (y_assign rfl) ?_
        refine wl_nil ?_
        refine aq_seq ?_
        refine wc_ret ?_
        refine aq_return (.inl rfl) rfl (⟨_, _, rfl, rfl, rfl⟩) ?_
        intro w' m
        refine ⟨(), congrArg Ending.returned (congrArg kb ?_), m.pick (is := []) rfl List.nodup_nil⟩
        exact (take_all_beq (by omega) (by omega) ht).symm

theorem SameBytes_ok (w : World) (aa ab : Option Addr) (na ca nb cb : Nat) (la lb : List UInt8) (ha : Rd w aa na 1 (la.map b8)) (hb : Rd w ab nb 1 (lb.map b8)) (hna : na ≤ 140737488355328) :
    Calls Try.prog 10 #[.slice aa na ca, .slice ab nb cb] w (Ret (fun _ : Unit => kb (la == lb)) (fun _ => Mem w [] [])) := by
  have hla := ha.len
  have hlb := hb.len
  refine calls_of Try.func10 rfl rfl (L := [(0, .slice aa na ca), (1, .slice ab nb cb)]) ⟨rfl, rfl, trivial⟩ (m := 26) (Nat.le_of_ble_eq_true rfl) (M := Mem w [] []) (Mem.refl w) ?_
  refine wc_seq ?_
  refine wc_region ?_
  refine wl_y (y_assign rfl) ?_
  refine wl_nil ?_
  refine aq_seq ?_
  refine wc_seq ?_
  refine wc_seq ?_
  refine wc_region ?_
  refine wl_y (y_move rfl) ?_
  refine wl_y (y_len_sl sl22 (m := na) rfl rfl) ?_
  refine wl_y (y_move rfl) ?_
  refine wl_y (y_len_sl sl22 (m := nb) rfl rfl) ?_
  refine wl_y (y_bin rfl rfl neq_i64) ?_
  refine wl_nil ?_
  refine aq_seq ?_
  refine wc_if rfl (fun hc1 => ?_) (fun hc1 => ?_)
  · have hb1 : ¬ ((na : Int) = (nb : Int)) := by simpa using hc1
    refine wc_seq ?_
    refine wc_region ?_
    refine wl_y (y_assign rfl) ?_
    refine wl_nil ?_
    refine aq_seq ?_
    refine wc_ret ?_
    refine aq_thru_ret ?_
    refine aq_return (.inl rfl) rfl (⟨_, _, rfl, rfl, rfl⟩) ?_
    intro w' m
    refine ⟨(), congrArg Ending.returned (congrArg kb ?_), m.pick (is := []) rfl List.nodup_nil⟩
    exact (ne_beq (by omega)).symm
  · have hb1 : (na : Int) = (nb : Int) := by simpa using hc1
    refine wc_skip ?_
    refine aq_seq ?_
    refine wc_seq ?_
    refine wc_seq ?_
    refine wc_region ?_
    refine wl_y (y_assign rfl) ?_
    refine wl_nil ?_
    refine aq_seq ?_
    refine wc_block ?_
    refine wc_loop (γ := Nat) (fun k => [(0, .slice aa na ca), (1, .slice ab nb cb), (5, ki ((k : Int)))]) (fun k => Mem w [] []) (fun k => (k ≤ na) ∧ (la.take k = lb.take k)) (fun k => na - k) (0) ?_ ⟨rfl, rfl, rfl, trivial⟩ (fun _ h => h) ?_
    · exact ⟨by omega, by simp⟩
    · rintro k ⟨hk, ht⟩
      refine wc_seq ?_
      refine wc_seq ?_
      refine wc_region ?_
      refine wl_y (y_move rfl) ?_
      refine wl_y (y_move rfl) ?_
      refine wl_y (y_len_sl sl22 (m := na) rfl rfl) ?_
      refine wl_y (y_bin rfl rfl lss_i64) ?_
      refine wl_nil ?_
      refine aq_seq ?_
      refine wc_if rfl (fun hc2 => ?_) (fun hc2 => ?_)
      · have hb2 : (k : Int) < (na : Int) := by simpa using hc2
        refine wc_skip ?_
        refine aq_seq ?_
        refine wc_seq ?_
        refine wc_block ?_
        refine wc_seq ?_
        refine wc_drawM [(0, .q), (1, .q), (2, .q), (3, .q), (4, .q), (5, .q), (6, .q), (7, .q), (8, .q)] (by kernel_rfl) (by kernel_rfl) Mem.closed ?_
        refine wp_q rfl Mem.closed (fun _ h => h) Mem.closed rfl (q_of_yld (y_move rfl)) trivial ?_
        refine wp_q rfl Mem.closed (fun _ h => h) Mem.closed rfl (q_of_yld (y_move rfl)) trivial ?_
        refine wp_q rfl Mem.closed (fun _ h => h) Mem.closed rfl (q_of_yld (y_indexAddr_sl sl22 sz5 rfl rfl (by omega) (by omega) (fun w m => rd_isSome (m.rd0 ha) (by omega) (by decide)) k (by omega))) trivial ?_
        refine wp_q rfl Mem.closed (fun _ h => h) Mem.closed rfl (q_of_yld (y_load sc5 rfl (c_of (fun w m => m.rd0 ha) (map_get (gd 0 (by first | omega | (simp; omega))))))) trivial ?_
        refine wp_q rfl Mem.closed (fun _ h => h) Mem.closed rfl (q_of_yld (y_move rfl)) trivial ?_
        refine wp_q rfl Mem.closed (fun _ h => h) Mem.closed rfl (q_of_yld (y_move rfl)) trivial ?_
        refine wp_q rfl Mem.closed (fun _ h => h) Mem.closed rfl (q_of_yld (y_indexAddr_sl sl22 sz5 rfl rfl (by omega) (by omega) (fun w m => rd_isSome (m.rd0 hb) (by omega) (by decide)) k (by omega))) trivial ?_
        refine wp_q rfl Mem.closed (fun _ h => h) Mem.closed rfl (q_of_yld (y_load sc5 rfl (c_of (fun w m => m.rd0 hb) (map_get (gd 0 (by first | omega | (simp; omega))))))) trivial ?_
        refine wp_q rfl Mem.closed (fun _ h => h) Mem.closed rfl (q_of_yld (y_bin rfl rfl (neq_u8 (la.getD k 0) (lb.getD k 0)))) trivial ?_
        refine wp_nil ?_
        refine aq_seq ?_
        refine wc_if rfl (fun hc3 => ?_) (fun hc3 => ?_)
        · have hb3 : ¬ ((la.getD k 0) = (lb.getD k 0)) := by simpa using hc3
          refine wc_seq ?_
          refine wc_region ?_
          refine wl_y (y_assign rfl) ?_
          refine wl_nil ?_
          refine aq_seq ?_
          refine wc_ret ?_
          refine aq_blk_ret ?_
          refine aq_thru_ret ?_
          refine aq_thru_ret ?_
          refine aq_blk_ret ?_
          refine aq_thru_ret ?_
          refine aq_return (.inl rfl) rfl (⟨_, _, rfl, rfl, rfl⟩) ?_
          intro w' m
          refine ⟨(), congrArg Ending.returned (congrArg kb ?_), m.pick (is := []) rfl List.nodup_nil⟩
          exact (getD_ne_beq hb3).symm
        · have hb3 : (la.getD k 0) = (lb.getD k 0) := by simpa using hc3
          refine wc_skip ?_
          refine aq_blk_normal ?_
          refine aq_seq ?_
          refine wc_region ?_
          refine wl_y (y_move rfl) ?_
          refine wl_y (y_bin rfl rfl (addn_i64 (a := k) (b := 1) (by omega))) ?_
          refine wl_y (y_assign rfl) ?_
          refine wl_nil ?_
          refine aq_loop (k + 1) ?_ ?_ ⟨rfl, rfl, rfl, trivial⟩ (fun _ h => h)
          · exact ⟨by omega, take_succ_eq ht (by omega) (by omega) (by simpa using hc3)⟩
          · first | omega | (dsimp only; omega)
      · have hb2 : ¬ ((k : Int) < (na : Int)) := by simpa using hc2
        refine wc_exit ?_
        refine aq_thru_exit ?_
        refine aq_thru_exit ?_
        refine aq_blk_exit ?_
        refine aq_seq ?_
        refine wc_seq ?_
        refine wc_region ?_
        refine wl_y (y_assign rfl) ?_
        refine wl_nil ?_
        refine aq_seq ?_
        refine wc_ret ?_
        refine aq_return (.inl rfl) rfl (⟨_, _, rfl, rfl, rfl⟩) ?_
        intro w' m
        refine ⟨(), congrArg Ending.returned (congrArg kb ?_), m.pick (is := []) rfl List.nodup_nil⟩
        exact (take_all_beq (by omega) (by omega) ht).symm

theorem filled_ok (w : World) (ad : Option Addr) (n c : Nat) (hn : n ≤ 140737488355328) :
    Calls Try.prog 34 #[.slice ad n c] w (Ret (fun b : Nat => .slice (some ⟨b, 0, none⟩) ((16 - n % 16) % 16) ((16 - n % 16) % 16)) (fun b => Mem w [] [.sl (some ⟨b, 0, none⟩) ((16 - n % 16) % 16) ((16 - n % 16) % 16) 5 1 ((List.replicate ((16 - n % 16) % 16) 0).map b8)])) := by
  refine calls_of Try.func34 rfl rfl (L := [(0, .slice ad n c)]) ⟨rfl, trivial⟩ (m := 9) (Nat.le_of_ble_eq_true rfl) (M := Mem w [] []) (Mem.refl w) ?_
  refine wc_seq ?_
  refine wc_region ?_
  refine wl_y (y_assign rfl) ?_
  refine wl_nil ?_
  refine aq_seq ?_
  refine wc_seq ?_
  refine wc_region ?_
  refine wl_y (y_move rfl) ?_
  refine wl_y (y_len_sl sl22 (m := n) rfl rfl) ?_
  refine wl_y (y_bin rfl rfl (remn_i64 (a := n) (b := 16) (by omega))) ?_
  refine wl_y (y_bin rfl rfl (subn_i64 (a := 16) (b := (n % 16)) (by omega) (by omega))) ?_
  refine wl_y (y_bin rfl rfl (remn_i64 (a := (16 - (n % 16))) (b := 16) (by omega))) ?_
  refine wl_eff (e_makeSlm (f := b8) (z := 0) ((16 - (n % 16)) % 16) ((16 - (n % 16)) % 16) sl22 el5 rfl rfl rfl (by omega) (by omega) (by omega) (by omega) (by omega) (H' := fun b => [.sl (some ⟨b, 0, none⟩) ((16 - (n % 16)) % 16) ((16 - (n % 16)) % 16) 5 1 ((List.replicate ((16 - (n % 16)) % 16) 0).map b8)]) (fun _ => by rfl)) rfl trivial rfl ?_
  intro b1
  refine wl_y (y_assign rfl) ?_
  refine wl_nil ?_
  refine aq_seq ?_
  refine wc_ret ?_
  refine aq_return (.inl rfl) rfl (⟨_, _, rfl, rfl, rfl⟩) ?_
  intro w' m
  exact ⟨b1, rfl, m⟩

theorem eights_ok (w : World) (al : Option Addr) (nl cl : Nat) (l : List Nat) (hl : Rd w al nl 1 (l.map kn)) (hlt : ∀ x ∈ l, x < 4611686018427387904) (hnl : nl ≤ 1000) :
    Calls Try.prog 35 #[.slice al nl cl] w (Ret (fun r : Option Addr × Nat => .slice r.1 (8 * nl) r.2) (fun r => Mem w [] [.sl r.1 (8 * nl) r.2 5 1 ((eightsF l nl).map b8)])) := by
  have hll := hl.len
  refine calls_of Try.func35 rfl rfl (L := [(0, .slice al nl cl)]) ⟨rfl, trivial⟩ (m := 27) (Nat.le_of_ble_eq_true rfl) (M := Mem w [] []) (Mem.refl w) ?_
  refine wc_seq ?_
  refine wc_region ?_
  refine wl_y (y_assign rfl) ?_
  refine wl_nil ?_
  refine aq_seq ?_
  refine wc_seq ?_
  refine wc_seq ?_
  refine wc_region ?_
  refine wl_y (y_move rfl) ?_
  refine wl_y (y_len_sl sl84 (m := nl) rfl rfl) ?_
  refine wl_y (y_move rfl) ?_
  refine wl_nil ?_
  refine aq_seq ?_
  refine wc_block ?_
  refine wc_mem (fun _ h => h.nilsl 5 1) ?_
  refine wc_loop (γ := Nat × Option Addr × Nat) (fun ⟨i, ad, cp⟩ => [(2, .slice ad (8 * i) cp), (6, .slice al nl cl), (7, ki ((nl : Int))), (8, ki ((i : Int)))]) (fun ⟨i, ad, cp⟩ => Mem w [] [.sl ad (8 * i) cp 5 1 ((eightsF l i).map b8)]) (fun ⟨i, ad, cp⟩ => (i ≤ nl)) (fun ⟨i, ad, cp⟩ => nl - i) (⟨0, none, 0⟩) ?_ ⟨rfl, rfl, rfl, rfl, trivial⟩ (fun _ h => h) ?_
  · omega
  · rintro ⟨i, ad, cp⟩ hi
    change i ≤ nl at hi
    refine wc_seq ?_
    refine wc_region ?_
    refine wl_y (y_bin rfl rfl lss_i64) ?_
    refine wl_nil ?_
    refine aq_seq ?_
    refine wc_seq ?_
    refine wc_if rfl (fun hc1 => ?_) (fun hc1 => ?_)
    · have hb1 : (i : Int) < (nl : Int) := by simpa using hc1
      refine wc_skip ?_
      refine aq_seq ?_
      refine wc_seq ?_
      refine wc_block ?_
      refine wc_seq ?_
      refine wc_region ?_
      refine wl_y (y_indexAddr_sl sl84 sz3 rfl rfl (by omega) (by omega) (fun w m => rd_isSome (m.rd0 hl) (by omega) (by decide)) i (by omega)) ?_
      refine wl_y (y_load sc3 rfl (c_of (fun w m => m.rd0 hl) (map_get (gd 0 (by first | omega | (simp; omega)))))) ?_
      refine wl_y (y_assign rfl) ?_
      refine wl_nil ?_
      refine aq_seq ?_
      refine wc_seq ?_
      refine wc_region ?_
      refine wl_y (y_move rfl) ?_
      refine wl_nil ?_
      refine aq_seq ?_
      refine wc_block ?_
      refine wc_loop (γ := Nat × Option Addr × Nat) (fun ⟨k, bd, dp⟩ => [(2, .slice bd (8 * i + k) dp), (6, .slice al nl cl), (7, ki ((nl : Int))), (8, ki ((i : Int))), (4, ki (((l.getD i 0 : Nat) : Int))), (12, ki ((k : Int)))]) (fun ⟨k, bd, dp⟩ => Mem w [] [.sl bd (8 * i + k) dp 5 1 ((eightsF l i ++ eightF (l.getD i 0) k).map b8)]) (fun ⟨k, bd, dp⟩ => (k ≤ 8)) (fun ⟨k, bd, dp⟩ => 8 - k) (⟨0, ad, cp⟩) ?_ ⟨rfl, rfl, rfl, rfl, rfl, rfl, trivial⟩ (fun _ h => (by show Mem _ _ [.sl _ _ _ _ _ (List.map b8 (_ ++ []))] _; rw [List.append_nil]; exact h)) ?_
      · omega
      · rintro ⟨k, bd, dp⟩ hk
        change k ≤ 8 at hk
        have hx := getD_lt l i hlt
        refine wc_seq ?_
        refine wc_region ?_
        refine wl_y (y_bin rfl rfl lss_i64) ?_
        refine wl_nil ?_
        refine aq_seq ?_
        refine wc_seq ?_
        refine wc_if rfl (fun hc2 => ?_) (fun hc2 => ?_)
        · have hb2 : (k : Int) < 8 := by simpa using hc2
          refine wc_skip ?_
          refine aq_seq ?_
          refine wc_seq ?_
          refine wc_block ?_
          refine wc_seq ?_
          refine wc_region ?_
          refine wl_y (y_move rfl) ?_
          refine wl_y (y_assign rfl) ?_
          refine wl_nil ?_
          refine aq_seq ?_
          refine wc_region ?_
          refine wl_y (y_move rfl) ?_
          refine wl_y (y_move rfl) ?_
          refine wl_y (y_cv rfl us3 ui39 (congrArg (Value.int .u64) (cvn_u64 (l.getD i 0) (by omega)))) ?_
          refine wl_y (y_move rfl) ?_
          refine wl_y (y_bin rfl rfl (muln_i64 (a := 8) (b := k) (by omega))) ?_
          refine wl_y (y_bin rfl rfl (shr_u64 (UInt64.ofNat (l.getD i 0)) (q := .i64) (8 * k) (by omega) (by omega))) ?_
          refine wl_y (y_cv rfl us39 ui5 (congrArg (Value.int .u8) (cv_u64_u8 ((UInt64.ofNat (l.getD i 0)) >>> UInt64.ofNat (8 * k))))) ?_
          refine wl_eff (e_buildSlice (len := 1) [b8 (((UInt64.ofNat (l.getD i 0)) >>> UInt64.ofNat (8 * k)).toUInt8)] sl22 el5 rfl rfl rfl (by simp [Value.cells]) (by decide) [b8 (((UInt64.ofNat (l.getD i 0)) >>> UInt64.ofNat (8 * k)).toUInt8)] rfl) rfl trivial rfl ?_
          intro b1
          refine wl_eff (e_appendm (f := b8) (xs := (eightsF l i ++ eightF (l.getD i 0) k)) (news := ([((UInt64.ofNat (l.getD i 0)) >>> UInt64.ofNat (8 * k)).toUInt8] : List UInt8)) sl22 el5 rfl rfl rfl rfl (i := 1) rfl (fun w m => (m.rd_sl (i := 0) rfl : Rd _ _ 1 1 (([((UInt64.ofNat (l.getD i 0)) >>> UInt64.ofNat (8 * k)).toUInt8] : List UInt8).map b8))) (by omega) (by omega) ((8 * i + k) + 1) (by first | rfl | omega) (by first | rfl | simp) (fun _ => ⟨_, rfl, rfl⟩)) rfl trivial rfl ?_
          intro r2
          refine wl_y (y_assign rfl) ?_
          refine wl_nil ?_
          refine aq_blk_normal ?_
          refine aq_seq ?_
          refine wc_region ?_
          refine wl_y (y_bin rfl rfl (addn_i64 (a := k) (b := 1) (by omega))) ?_
          refine wl_y (y_move rfl) ?_
          refine wl_nil ?_
          rw [List.append_assoc]
          refine aq_loop (⟨k + 1, r2.1, r2.2⟩) ?_ ?_ ⟨rfl, rfl, rfl, rfl, rfl, rfl, trivial⟩ (fun _ h => (Mem.pick h (is := [1]) ⟨_, _, rfl, rfl, rfl⟩ (by decide)))
          · omega
          · first | omega | (dsimp only; omega)
        · have hb2 : ¬ ((k : Int) < 8) := by simpa using hc2
          have hk8 : k = 8 := by omega
          subst hk8
          refine wc_exit ?_
          refine aq_thru_exit ?_
          refine aq_thru_exit ?_
          refine aq_blk_exit ?_
          refine aq_blk_normal ?_
          refine aq_seq ?_
          refine wc_region ?_
          refine wl_y (y_bin rfl rfl (addn_i64 (a := i) (b := 1) (by omega))) ?_
          refine wl_y (y_move rfl) ?_
          refine wl_nil ?_
          refine aq_loop (⟨i + 1, bd, dp⟩) ?_ ?_ ⟨rfl, rfl, rfl, rfl, trivial⟩ (fun _ h => h)
          · omega
          · first | omega | (dsimp only; omega)
    · have hb1 : ¬ ((i : Int) < (nl : Int)) := by simpa using hc1
      refine wc_exit ?_
      refine aq_thru_exit ?_
      refine aq_thru_exit ?_
      refine aq_blk_exit ?_
      refine aq_seq ?_
      refine wc_seq ?_
      refine wc_region ?_
      refine wl_y (y_move rfl) ?_
      refine wl_y (y_assign rfl) ?_
      refine wl_nil ?_
      refine aq_seq ?_
      refine wc_ret ?_
      refine aq_return (.inl rfl) rfl (⟨_, _, rfl, rfl, rfl⟩) ?_
      intro w' m
      have hin : i = nl := by omega
      subst hin
      exact ⟨(ad, cp), rfl, m⟩

end Go.Proofs.Ytnkldldojalklaa
