/- Lemmas and contracts for the proof of this seat's statements (BkLook2F). No condition. -/
import Derived.Test.YtjibkjoaamchoaaGreatDoorEBk
import Derived.Test.YtjibkjoaamchoaaGreatDoorProg
import Derived.KernelRfl
import Derived.Test.YtjibkjoaamchoaaGreatDoorEPlaA
import Derived.Test.YtjibkjoaamchoaaGreatDoorEBkKeep2F
set_option linter.all false
namespace Go.Proofs.YtjibkjoaamchoaaGreatDoor
open Go.Mc
private theorem fd42_1 : fdB Tryz.prog 42 1 1 29 = true := by kernel_rfl
private theorem sz29 : szB Tryz.prog 29 1 = true := by kernel_rfl
private theorem sc29 : scB Tryz.prog 29 = true := by kernel_rfl
private theorem sl29 : slB Tryz.prog 29 67 = true := by kernel_rfl
private theorem sz67 : szB Tryz.prog 67 3 = true := by kernel_rfl
private theorem ag67 : agB Tryz.prog 67 3 = true := by kernel_rfl
private theorem zn67 : znB Tryz.prog 67 (.agg #[.slice none 0 0, .slice none 0 0, ki (0)]) := by unfold znB; kernel_rfl
private theorem fd67_1 : fdB Tryz.prog 67 1 1 22 = true := by kernel_rfl
private theorem sz22 : szB Tryz.prog 22 1 = true := by kernel_rfl
private theorem sc22 : scB Tryz.prog 22 = true := by kernel_rfl
private theorem sl22 : slB Tryz.prog 22 5 = true := by kernel_rfl
private theorem fd67_0 : fdB Tryz.prog 67 0 0 22 = true := by kernel_rfl
private theorem sz5 : szB Tryz.prog 5 1 = true := by kernel_rfl
private theorem sc5 : scB Tryz.prog 5 = true := by kernel_rfl
private theorem fd67_2 : fdB Tryz.prog 67 2 2 3 = true := by kernel_rfl
private theorem sz3 : szB Tryz.prog 3 1 = true := by kernel_rfl
private theorem sc3 : scB Tryz.prog 3 = true := by kernel_rfl
private theorem cf73 : cfB Tryz.prog 73 = true := by kernel_rfl
theorem lookB_2 (w : World) (own : List Nat) (bk : Nat) (ah : Option Addr) (hc : Nat) (a0 : Option Addr) (n0 c0 : Nat) (a1 : Option Addr) (n1 c1 : Nat) (ga0 : Option Addr) (gc0 : Nat) (ga1 : Option Addr) (gc1 : Nat) (T : List Ch) (hm : Mem w own (.blk bk (.cells (#[ki (2), .slice ah 2 hc, .slice none 0 0, .slice none 0 0, .slice none 0 0, .slice none 0 0, .slice none 0 0, .slice none 0 0, .slice none 0 0, .slice none 0 0, .slice none 0 0, .slice none 0 0, .slice none 0 0]) 42 (0, 0)) :: .sl ah 2 hc 67 3 ([.slice a0 n0 c0, .slice ga0 (n0 + 40) gc0, ki (1), .slice a1 n1 c1, .slice ga1 (n1 + 40) gc1, ki (2)] : List Value) :: T) w) (hl0 : ∀ w', Mem w own T w' → Rd w' a0 n0 1 ((List.replicate n0 (mkB 1)).map b8)) (hg0 : ∀ w', Mem w own T w' → Rd w' ga0 (n0 + 40) 1 ((List.replicate (n0 + 40) (mkB 1)).map b8)) (hl1 : ∀ w', Mem w own T w' → Rd w' a1 n1 1 ((List.replicate n1 (mkB 2)).map b8)) (hg1 : ∀ w', Mem w own T w' → Rd w' ga1 (n1 + 40) 1 ((List.replicate (n1 + 40) (mkB 2)).map b8)) (hb0 : n0 ≤ 140737488351232) (hb1 : n1 ≤ 140737488351232) :
    Calls Tryz.prog 43 #[.pointer (some ⟨bk, 0, none⟩)] w (Ret (fun _ : Unit => kb true) (fun _ => Mem w own [.blk bk (.cells (#[ki (2), .slice ah 2 hc, .slice none 0 0, .slice none 0 0, .slice none 0 0, .slice none 0 0, .slice none 0 0, .slice none 0 0, .slice none 0 0, .slice none 0 0, .slice none 0 0, .slice none 0 0, .slice none 0 0]) 42 (0, 0))])) := by
  refine calls_of Tryz.func43 rfl rfl (L := [(0, .pointer (some ⟨bk, 0, none⟩))]) ⟨rfl, trivial⟩ (m := 64) (Nat.le_of_ble_eq_true rfl) (M := Mem w own (.blk bk (.cells (#[ki (2), .slice ah 2 hc, .slice none 0 0, .slice none 0 0, .slice none 0 0, .slice none 0 0, .slice none 0 0, .slice none 0 0, .slice none 0 0, .slice none 0 0, .slice none 0 0, .slice none 0 0, .slice none 0 0]) 42 (0, 0)) :: .sl ah 2 hc 67 3 ([.slice a0 n0 c0, .slice ga0 (n0 + 40) gc0, ki (1), .slice a1 n1 c1, .slice ga1 (n1 + 40) gc1, ki (2)] : List Value) :: T)) (hm) ?_
  refine wc_seq ?_
  refine wc_region ?_
  refine wl_y (y_assign rfl) ?_
  refine wl_nil ?_
  refine aq_seq ?_
  refine wc_seq ?_
  refine wc_seq ?_
  refine wc_region ?_
  refine wl_y (y_assign rfl) ?_
  refine wl_nil ?_
  refine aq_seq ?_
  refine wc_block ?_
  refine wc_unroll (wh_round ?_)
  refine wc_seq ?_
  refine wc_seq ?_
  refine wc_region ?_
  refine wl_y (y_move rfl) ?_
  refine wl_y (y_move rfl) ?_
  refine wl_y (y_nilCheck rfl) ?_
  refine wl_y (y_fieldAddr fd42_1 sz29 rfl) ?_
  refine wl_y (y_load sc29 rfl (c_blk (i := 0) rfl rfl)) ?_
  refine wl_y (y_len_sl sl29 (m := 2) rfl rfl) ?_
  refine wl_y (y_bin rfl rfl (show bin .lss (ki 0) (ki 2) = some (kb true) from rfl)) ?_
  refine wl_nil ?_
  refine aq_seq ?_
  refine wc_then rfl ?_
  refine wc_skip ?_
  refine aq_seq ?_
  refine wc_seq ?_
  refine wc_block ?_
  refine wc_seq ?_
  refine wc_region ?_
  refine wl_y (y_move rfl) ?_
  refine wl_y (y_nilCheck rfl) ?_
  refine wl_y (y_fieldAddr fd42_1 sz29 rfl) ?_
  refine wl_y (y_load sc29 rfl (c_blk (i := 0) rfl rfl)) ?_
  refine wl_y (y_move rfl) ?_
  refine wl_y (y_indexAddr_sl sl29 sz67 rfl rfl (by omega) (by omega) (fun w m => rd_isSome ((m.rd_sl (i := 1) rfl)) (by omega) (by decide)) 0 (by omega)) ?_
  refine wl_y (y_loads (cs := [.slice a0 n0 c0, .slice ga0 (n0 + 40) gc0, ki (1)]) ag67 rfl rfl (fun w m => c_rdw (k := 0) (m.rd_sl (i := 1) rfl) rfl)) ?_
  refine wl_eff (e_alloc (cs := #[.slice none 0 0, .slice none 0 0, ki (0)]) zn67) rfl trivial rfl ?_
  intro b1
  refine wl_eff (e_storeall sz67 rfl rfl (i := 0) rfl rfl rfl (by simp [Value.oneCell']) rfl) rfl trivial rfl ?_
  intro _
  refine wl_nil ?_
  refine aq_seq ?_
  refine wc_seq ?_
  refine wc_seq ?_
  refine wc_region ?_
  refine wl_y (y_fieldAddr fd67_1 sz22 rfl) ?_
  refine wl_y (y_load sc22 rfl (c_blk (i := 0) rfl rfl)) ?_
  refine wl_y (y_len_sl sl22 (m := (n0 + 40)) rfl rfl) ?_
  refine wl_y (y_fieldAddr fd67_0 sz22 rfl) ?_
  refine wl_y (y_load sc22 rfl (c_blk (i := 0) rfl rfl)) ?_
  refine wl_y (y_len_sl sl22 (m := n0) rfl rfl) ?_
  refine wl_y (y_bin rfl rfl (addn_i64 (a := n0) (b := 40) (by omega))) ?_
  refine wl_y (y_bin rfl rfl neq_i64) ?_
  refine wl_re (t := 29) (v' := kb (false)) rfl (congrArg kb (bne_self_eq_false _)) ?_
  refine wl_nil ?_
  refine aq_seq ?_
  refine wc_else rfl ?_
  refine wc_skip ?_
  refine aq_seq ?_
  refine wc_seq ?_
  refine wc_region ?_
  refine wl_y (y_assign rfl) ?_
  refine wl_nil ?_
  refine aq_seq ?_
  refine wc_block ?_
  refine wc_loop (γ := Nat) (fun j => [(0, .pointer (some ⟨bk, 0, none⟩)), (3, ki (0)), (6, ki (0)), (7, .pointer (some ⟨bk, 0, none⟩)), (8, .pointer (some ⟨bk, 0, none⟩)), (9, .pointer (some ⟨bk, 1, none⟩)), (10, .slice ah 2 hc), (11, ki (2)), (12, kb (true)), (15, .pointer (some ⟨bk, 0, none⟩)), (16, .pointer (some ⟨bk, 0, none⟩)), (17, .pointer (some ⟨bk, 1, none⟩)), (18, .slice ah 2 hc), (19, ki (0)), (20, .pointer (some (adr ah (0)))), (21, .agg (#[.slice a0 n0 c0, .slice ga0 (n0 + 40) gc0, ki (1)])), (4, .pointer (some ⟨b1, 0, none⟩)), (22, .pointer (some ⟨b1, 1, none⟩)), (23, .slice ga0 (n0 + 40) gc0), (24, ki ((((n0 + 40) : Nat) : Int))), (25, .pointer (some ⟨b1, 0, none⟩)), (26, .slice a0 n0 c0), (27, ki ((n0 : Int))), (28, ki (((n0 + 40 : Nat) : Int))), (29, kb (false)), (5, ki ((j : Int)))]) (fun j => Mem w own (.blk b1 (.cells (#[.slice a0 n0 c0, .slice ga0 (n0 + 40) gc0, ki (1)]) 67 (0, 0)) :: .blk bk (.cells (#[ki (2), .slice ah 2 hc, .slice none 0 0, .slice none 0 0, .slice none 0 0, .slice none 0 0, .slice none 0 0, .slice none 0 0, .slice none 0 0, .slice none 0 0, .slice none 0 0, .slice none 0 0, .slice none 0 0]) 42 (0, 0)) :: .sl ah 2 hc 67 3 ([.slice a0 n0 c0, .slice ga0 (n0 + 40) gc0, ki (1), .slice a1 n1 c1, .slice ga1 (n1 + 40) gc1, ki (2)] : List Value) :: T)) (fun j => (j ≤ n0 + 40)) (fun j => n0 + 40 - j) (0) ?_ ⟨rfl, rfl, rfl, rfl, rfl, rfl, rfl, rfl, rfl, rfl, rfl, rfl, rfl, rfl, rfl, rfl, rfl, rfl, rfl, rfl, rfl, rfl, rfl, rfl, rfl, rfl, trivial⟩ (fun _ h => h) ?_
  · omega
  · rintro j hj
    refine wc_seq ?_
    refine wc_seq ?_
    refine wc_region ?_
    refine wl_y (y_move rfl) ?_
    refine wl_y (y_fieldAddr fd67_1 sz22 rfl) ?_
    refine wl_y (y_load sc22 rfl (c_blk (i := 0) rfl rfl)) ?_
    refine wl_y (y_len_sl sl22 (m := (n0 + 40)) rfl rfl) ?_
    refine wl_y (y_bin rfl rfl lss_i64) ?_
    refine wl_nil ?_
    refine aq_seq ?_
    refine wc_if rfl (fun hc1 => ?_) (fun hc1 => ?_)
    · have hb1 : (j : Int) < (((n0 + 40) : Nat) : Int) := by simpa using hc1
      refine wc_skip ?_
      refine aq_seq ?_
      refine wc_seq ?_
      refine wc_block ?_
      refine wc_seq ?_
      refine wc_drawM [(0, .q), (1, .q), (2, .q), (3, .q), (4, .q), (5, .q), (6, .q), (7, .q), (8, .q), (9, .q), (10, .q), (11, .q), (12, .q), (13, .q), (14, .q), (15, .q), (16, .q), (17, .q), (18, .q), (19, .q), (20, .q), (21, .q), (22, .q), (23, .q), (24, .q), (25, .q), (26, .q)] (by kernel_rfl) (by kernel_rfl) Mem.closed ?_
      refine wp_q rfl Mem.closed (fun _ h => h) Mem.closed rfl (q_of_yld (y_fieldAddr fd67_1 sz22 rfl)) trivial ?_
      refine wp_q rfl Mem.closed (fun _ h => h) Mem.closed rfl (q_of_yld (y_load sc22 rfl (c_blk (i := 0) rfl rfl))) trivial ?_
      refine wp_q rfl Mem.closed (fun _ h => h) Mem.closed rfl (q_of_yld (y_move rfl)) trivial ?_
      refine wp_q rfl Mem.closed (fun _ h => h) Mem.closed rfl (q_of_yld (y_indexAddr_sl sl22 sz5 rfl rfl (by omega) (by omega) (fun w m => rd_isSome ((hg0 _ (Mem.right (A := [_, _, _]) (B := T) m))) (by omega) (by decide)) j (by omega))) trivial ?_
      refine wp_q rfl Mem.closed (fun _ h => h) Mem.closed rfl (q_of_yld (y_load sc5 rfl (c_of (fun w m => (hg0 _ (Mem.right (A := [_, _, _]) (B := T) m))) (map_get (gd 0 (by first | omega | (simp; done) | (simp; omega))))))) trivial ?_
      refine wp_re (t := 41) (v' := b8 ((mkB 1))) rfl (congrArg b8 (rep_get (by omega))) ?_
      refine wp_q rfl Mem.closed (fun _ h => h) Mem.closed rfl (q_of_yld (y_fieldAddr fd67_2 sz3 rfl)) trivial ?_
      refine wp_q rfl Mem.closed (fun _ h => h) Mem.closed rfl (q_of_yld (y_load sc3 rfl (c_blk (i := 0) rfl rfl))) trivial ?_
      refine wp_q rfl Mem.closed (fun _ h => h) Mem.closed rfl (q_of_call cf73 rfl (fun w m => quiet_of_mem (isByte_ok w 1 (by decide)))) trivial ?_
      refine wp_q rfl Mem.closed (fun _ h => h) Mem.closed rfl (q_of_yld (y_not rfl)) trivial ?_
      refine wp_q rfl Mem.closed (fun _ h => h) Mem.closed rfl (q_of_yld (y_move rfl)) trivial ?_
      refine wp_q rfl Mem.closed (fun _ h => h) Mem.closed rfl (q_of_yld (y_move rfl)) ⟨_, rfl, rfl⟩ ?_
      refine wp_q rfl Mem.closed (fun _ h => h) Mem.closed rfl (q_of_yld (y_fieldAddr fd67_0 sz22 rfl)) ⟨_, rfl, rfl⟩ ?_
      refine wp_q rfl Mem.closed (fun _ h => h) Mem.closed rfl (q_of_yld (y_load sc22 rfl (c_blk (i := 0) rfl rfl))) ⟨_, rfl, rfl⟩ ?_
      refine wp_q rfl Mem.closed (fun _ h => h) Mem.closed rfl (q_of_yld (y_len_sl sl22 (m := n0) rfl rfl)) ⟨_, rfl, rfl⟩ ?_
      refine wp_q rfl Mem.closed (fun _ h => h) Mem.closed rfl (q_of_yld (y_bin rfl rfl lss_i64)) ⟨_, rfl, rfl⟩ ?_
      refine wp_bool (t := 51) rfl (fun hs47 => ?_) (fun hs47 => ?_)
      · have hb47 : (j : Int) < (n0 : Int) := by simpa using hs47
        refine wp_q rfl Mem.closed (fun _ h => h) Mem.closed rfl (q_of_yld (y_move rfl)) ⟨_, rfl, rfl⟩ ?_
        refine wp_q rfl Mem.closed (fun _ h => h) Mem.closed rfl (q_of_yld (y_fieldAddr fd67_0 sz22 rfl)) ⟨_, rfl, rfl⟩ ?_
        refine wp_q rfl Mem.closed (fun _ h => h) Mem.closed rfl (q_of_yld (y_load sc22 rfl (c_blk (i := 0) rfl rfl))) ⟨_, rfl, rfl⟩ ?_
        refine wp_q rfl Mem.closed (fun _ h => h) Mem.closed rfl (q_of_yld (y_move rfl)) ⟨_, rfl, rfl⟩ ?_
        refine wp_q rfl Mem.closed (fun _ h => h) Mem.closed rfl (q_of_yld (y_indexAddr_sl sl22 sz5 rfl rfl (by omega) (by omega) (fun w m => rd_isSome ((hl0 _ (Mem.right (A := [_, _, _]) (B := T) m))) (by omega) (by decide)) j (by omega))) ⟨_, rfl, rfl⟩ ?_
        refine wp_q rfl Mem.closed (fun _ h => h) Mem.closed rfl (q_of_yld (y_load sc5 rfl (c_of (fun w m => (hl0 _ (Mem.right (A := [_, _, _]) (B := T) m))) (map_get (gd 0 (by first | omega | (simp; done) | (simp; omega))))))) ⟨_, rfl, rfl⟩ ?_
        refine wp_re (t := 57) (v' := b8 ((mkB 1))) rfl (congrArg b8 (rep_get (by omega))) ?_
        refine wp_q rfl Mem.closed (fun _ h => h) Mem.closed rfl (q_of_yld (y_fieldAddr fd67_2 sz3 rfl)) ⟨_, rfl, rfl⟩ ?_
        refine wp_q rfl Mem.closed (fun _ h => h) Mem.closed rfl (q_of_yld (y_load sc3 rfl (c_blk (i := 0) rfl rfl))) ⟨_, rfl, rfl⟩ ?_
        refine wp_q rfl Mem.closed (fun _ h => h) Mem.closed rfl (q_of_call cf73 rfl (fun w m => quiet_of_mem (isByte_ok w 1 (by decide)))) ⟨_, rfl, rfl⟩ ?_
        refine wp_q rfl Mem.closed (fun _ h => h) Mem.closed rfl (q_of_yld (y_not rfl)) ⟨_, rfl, rfl⟩ ?_
        refine wp_q rfl Mem.closed (fun _ h => h) Mem.closed rfl (q_of_yld (y_pick (b := true) rfl rfl)) ⟨_, rfl, rfl⟩ ?_
        refine wp_q rfl Mem.closed (fun _ h => h) Mem.closed rfl (q_of_yld (y_pick (b := false) rfl rfl)) trivial ?_
        refine wp_nil ?_
        refine aq_seq ?_
        refine wc_else rfl ?_
        refine wc_skip ?_
        refine aq_blk_normal ?_
        refine aq_seq ?_
        refine wc_region ?_
        refine wl_y (y_move rfl) ?_
        refine wl_y (y_bin rfl rfl (addn_i64 (a := j) (b := 1) (by omega))) ?_
        refine wl_y (y_assign rfl) ?_
        refine wl_nil ?_
        refine aq_loop (j + 1) ?_ ?_ ⟨rfl, rfl, rfl, rfl, rfl, rfl, rfl, rfl, rfl, rfl, rfl, rfl, rfl, rfl, rfl, rfl, rfl, rfl, rfl, rfl, rfl, rfl, rfl, rfl, rfl, rfl, trivial⟩ (fun _ h => h)
        · omega
        · first | omega | (dsimp only; omega)
      · have hb47 : ¬ ((j : Int) < (n0 : Int)) := by simpa using hs47
        refine wp_q rfl Mem.closed (fun _ h => h) Mem.closed rfl (q_of_yld (y_move rfl)) ⟨_, rfl, rfl⟩ ?_
        refine wp_off rfl Mem.closed (fun _ h => h) Mem.closed rfl ⟨_, _, rfl, rfl, .inl rfl⟩ ?_
        refine wp_off rfl Mem.closed (fun _ h => h) Mem.closed rfl ⟨_, _, rfl, rfl, .inl rfl⟩ ?_
        refine wp_off rfl Mem.closed (fun _ h => h) Mem.closed rfl ⟨_, _, rfl, rfl, .inl rfl⟩ ?_
        refine wp_off rfl Mem.closed (fun _ h => h) Mem.closed rfl ⟨_, _, rfl, rfl, .inl rfl⟩ ?_
        refine wp_off rfl Mem.closed (fun _ h => h) Mem.closed rfl ⟨_, _, rfl, rfl, .inl rfl⟩ ?_
        refine wp_off rfl Mem.closed (fun _ h => h) Mem.closed rfl ⟨_, _, rfl, rfl, .inl rfl⟩ ?_
        refine wp_off rfl Mem.closed (fun _ h => h) Mem.closed rfl ⟨_, _, rfl, rfl, .inl rfl⟩ ?_
        refine wp_off rfl Mem.closed (fun _ h => h) Mem.closed rfl ⟨_, _, rfl, rfl, .inl rfl⟩ ?_
        refine wp_off rfl Mem.closed (fun _ h => h) Mem.closed rfl ⟨_, _, rfl, rfl, .inl rfl⟩ ?_
        refine wp_q rfl Mem.closed (fun _ h => h) Mem.closed rfl (q_of_yld (y_pick (b := false) rfl rfl)) ⟨_, rfl, rfl⟩ ?_
        refine wp_q rfl Mem.closed (fun _ h => h) Mem.closed rfl (q_of_yld (y_pick (b := false) rfl rfl)) trivial ?_
        refine wp_nil ?_
        refine aq_seq ?_
        refine wc_else rfl ?_
        refine wc_skip ?_
        refine aq_blk_normal ?_
        refine aq_seq ?_
        refine wc_region ?_
        refine wl_y (y_move rfl) ?_
        refine wl_y (y_bin rfl rfl (addn_i64 (a := j) (b := 1) (by omega))) ?_
        refine wl_y (y_assign rfl) ?_
        refine wl_nil ?_
        refine aq_loop (j + 1) ?_ ?_ ⟨rfl, rfl, rfl, rfl, rfl, rfl, rfl, rfl, rfl, rfl, rfl, rfl, rfl, rfl, rfl, rfl, rfl, rfl, rfl, rfl, rfl, rfl, rfl, rfl, rfl, rfl, trivial⟩ (fun _ h => h)
        · omega
        · first | omega | (dsimp only; omega)
    · have hb1 : ¬ ((j : Int) < (((n0 + 40) : Nat) : Int)) := by simpa using hc1
      refine wc_exit ?_
      refine aq_thru_exit ?_
      refine aq_thru_exit ?_
      refine aq_blk_exit ?_
      refine aq_blk_normal ?_
      refine aq_seq ?_
      refine wc_region ?_
      refine wl_y (y_move rfl) ?_
      refine wl_y (y_bin rfl rfl (show bin .add (ki 0) (ki 1) = some (ki 1) from rfl)) ?_
      refine wl_y (y_assign rfl) ?_
      refine wl_nil ?_
      refine aq_again (wh_round ?_)
      refine wc_seq ?_
      refine wc_seq ?_
      refine wc_region ?_
      refine wl_y (y_move rfl) ?_
      refine wl_y (y_move rfl) ?_
      refine wl_y (y_nilCheck rfl) ?_
      refine wl_y (y_fieldAddr fd42_1 sz29 rfl) ?_
      refine wl_y (y_load sc29 rfl (c_blk (i := 1) rfl rfl)) ?_
      refine wl_y (y_len_sl sl29 (m := 2) rfl rfl) ?_
      refine wl_y (y_bin rfl rfl (show bin .lss (ki 1) (ki 2) = some (kb true) from rfl)) ?_
      refine wl_nil ?_
      refine aq_seq ?_
      refine wc_then rfl ?_
      refine wc_skip ?_
      refine aq_seq ?_
      refine wc_seq ?_
      refine wc_block ?_
      refine wc_seq ?_
      refine wc_region ?_
      refine wl_y (y_move rfl) ?_
      refine wl_y (y_nilCheck rfl) ?_
      refine wl_y (y_fieldAddr fd42_1 sz29 rfl) ?_
      refine wl_y (y_load sc29 rfl (c_blk (i := 1) rfl rfl)) ?_
      refine wl_y (y_move rfl) ?_
      refine wl_y (y_indexAddr_sl sl29 sz67 rfl rfl (by omega) (by omega) (fun w m => rd_isSome ((m.rd_sl (i := 2) rfl)) (by omega) (by decide)) 3 (by omega)) ?_
      refine wl_y (y_loads (cs := [.slice a1 n1 c1, .slice ga1 (n1 + 40) gc1, ki (2)]) ag67 rfl rfl (fun w m => c_rdw (k := 3) (m.rd_sl (i := 2) rfl) rfl)) ?_
      refine wl_eff (e_alloc (cs := #[.slice none 0 0, .slice none 0 0, ki (0)]) zn67) rfl trivial rfl ?_
      intro b2
      refine wl_eff (e_storeall sz67 rfl rfl (i := 0) rfl rfl rfl (by simp [Value.oneCell']) rfl) rfl trivial rfl ?_
      intro _
      refine wl_nil ?_
      refine aq_seq ?_
      refine wc_seq ?_
      refine wc_seq ?_
      refine wc_region ?_
      refine wl_y (y_fieldAddr fd67_1 sz22 rfl) ?_
      refine wl_y (y_load sc22 rfl (c_blk (i := 0) rfl rfl)) ?_
      refine wl_y (y_len_sl sl22 (m := (n1 + 40)) rfl rfl) ?_
      refine wl_y (y_fieldAddr fd67_0 sz22 rfl) ?_
      refine wl_y (y_load sc22 rfl (c_blk (i := 0) rfl rfl)) ?_
      refine wl_y (y_len_sl sl22 (m := n1) rfl rfl) ?_
      refine wl_y (y_bin rfl rfl (addn_i64 (a := n1) (b := 40) (by omega))) ?_
      refine wl_y (y_bin rfl rfl neq_i64) ?_
      refine wl_re (t := 29) (v' := kb (false)) rfl (congrArg kb (bne_self_eq_false _)) ?_
      refine wl_nil ?_
      refine aq_seq ?_
      refine wc_else rfl ?_
      refine wc_skip ?_
      refine aq_seq ?_
      refine wc_seq ?_
      refine wc_region ?_
      refine wl_y (y_assign rfl) ?_
      refine wl_nil ?_
      refine aq_seq ?_
      refine wc_block ?_
      refine wc_loop (γ := Nat) (fun j => [(0, .pointer (some ⟨bk, 0, none⟩)), (3, ki (1)), (6, ki (1)), (7, .pointer (some ⟨bk, 0, none⟩)), (8, .pointer (some ⟨bk, 0, none⟩)), (9, .pointer (some ⟨bk, 1, none⟩)), (10, .slice ah 2 hc), (11, ki (2)), (12, kb (true)), (15, .pointer (some ⟨bk, 0, none⟩)), (16, .pointer (some ⟨bk, 0, none⟩)), (17, .pointer (some ⟨bk, 1, none⟩)), (18, .slice ah 2 hc), (19, ki (1)), (20, .pointer (some (adr ah (3)))), (21, .agg (#[.slice a1 n1 c1, .slice ga1 (n1 + 40) gc1, ki (2)])), (4, .pointer (some ⟨b2, 0, none⟩)), (22, .pointer (some ⟨b2, 1, none⟩)), (23, .slice ga1 (n1 + 40) gc1), (24, ki ((((n1 + 40) : Nat) : Int))), (25, .pointer (some ⟨b2, 0, none⟩)), (26, .slice a1 n1 c1), (27, ki ((n1 : Int))), (28, ki (((n1 + 40 : Nat) : Int))), (29, kb (false)), (5, ki ((j : Int))), (13, ki (0)), (14, ki (1))]) (fun j => Mem w own (.blk b2 (.cells (#[.slice a1 n1 c1, .slice ga1 (n1 + 40) gc1, ki (2)]) 67 (0, 0)) :: .blk b1 (.cells (#[.slice a0 n0 c0, .slice ga0 (n0 + 40) gc0, ki (1)]) 67 (0, 0)) :: .blk bk (.cells (#[ki (2), .slice ah 2 hc, .slice none 0 0, .slice none 0 0, .slice none 0 0, .slice none 0 0, .slice none 0 0, .slice none 0 0, .slice none 0 0, .slice none 0 0, .slice none 0 0, .slice none 0 0, .slice none 0 0]) 42 (0, 0)) :: .sl ah 2 hc 67 3 ([.slice a0 n0 c0, .slice ga0 (n0 + 40) gc0, ki (1), .slice a1 n1 c1, .slice ga1 (n1 + 40) gc1, ki (2)] : List Value) :: T)) (fun j => (j ≤ n1 + 40)) (fun j => n1 + 40 - j) (0) ?_ ⟨rfl, rfl, rfl, rfl, rfl, rfl, rfl, rfl, rfl, rfl, rfl, rfl, rfl, rfl, rfl, rfl, rfl, rfl, rfl, rfl, rfl, rfl, rfl, rfl, rfl, rfl, rfl, rfl, trivial⟩ (fun _ h => h) ?_
      · omega
      · rintro j hj
        refine wc_seq ?_
        refine wc_seq ?_
        refine wc_region ?_
        refine wl_y (y_move rfl) ?_
        refine wl_y (y_fieldAddr fd67_1 sz22 rfl) ?_
        refine wl_y (y_load sc22 rfl (c_blk (i := 0) rfl rfl)) ?_
        refine wl_y (y_len_sl sl22 (m := (n1 + 40)) rfl rfl) ?_
        refine wl_y (y_bin rfl rfl lss_i64) ?_
        refine wl_nil ?_
        refine aq_seq ?_
        refine wc_if rfl (fun hc2 => ?_) (fun hc2 => ?_)
        · have hb2 : (j : Int) < (((n1 + 40) : Nat) : Int) := by simpa using hc2
          refine wc_skip ?_
          refine aq_seq ?_
          refine wc_seq ?_
          refine wc_block ?_
          refine wc_seq ?_
          refine wc_drawM [(0, .q), (1, .q), (2, .q), (3, .q), (4, .q), (5, .q), (6, .q), (7, .q), (8, .q), (9, .q), (10, .q), (11, .q), (12, .q), (13, .q), (14, .q), (15, .q), (16, .q), (17, .q), (18, .q), (19, .q), (20, .q), (21, .q), (22, .q), (23, .q), (24, .q), (25, .q), (26, .q)] (by kernel_rfl) (by kernel_rfl) Mem.closed ?_
          refine wp_q rfl Mem.closed (fun _ h => h) Mem.closed rfl (q_of_yld (y_fieldAddr fd67_1 sz22 rfl)) trivial ?_
          refine wp_q rfl Mem.closed (fun _ h => h) Mem.closed rfl (q_of_yld (y_load sc22 rfl (c_blk (i := 0) rfl rfl))) trivial ?_
          refine wp_q rfl Mem.closed (fun _ h => h) Mem.closed rfl (q_of_yld (y_move rfl)) trivial ?_
          refine wp_q rfl Mem.closed (fun _ h => h) Mem.closed rfl (q_of_yld (y_indexAddr_sl sl22 sz5 rfl rfl (by omega) (by omega) (fun w m => rd_isSome ((hg1 _ (Mem.right (A := [_, _, _, _]) (B := T) m))) (by omega) (by decide)) j (by omega))) trivial ?_
          refine wp_q rfl Mem.closed (fun _ h => h) Mem.closed rfl (q_of_yld (y_load sc5 rfl (c_of (fun w m => (hg1 _ (Mem.right (A := [_, _, _, _]) (B := T) m))) (map_get (gd 0 (by first | omega | (simp; done) | (simp; omega))))))) trivial ?_
          refine wp_re (t := 41) (v' := b8 ((mkB 2))) rfl (congrArg b8 (rep_get (by omega))) ?_
          refine wp_q rfl Mem.closed (fun _ h => h) Mem.closed rfl (q_of_yld (y_fieldAddr fd67_2 sz3 rfl)) trivial ?_
          refine wp_q rfl Mem.closed (fun _ h => h) Mem.closed rfl (q_of_yld (y_load sc3 rfl (c_blk (i := 0) rfl rfl))) trivial ?_
          refine wp_q rfl Mem.closed (fun _ h => h) Mem.closed rfl (q_of_call cf73 rfl (fun w m => quiet_of_mem (isByte_ok w 2 (by decide)))) trivial ?_
          refine wp_q rfl Mem.closed (fun _ h => h) Mem.closed rfl (q_of_yld (y_not rfl)) trivial ?_
          refine wp_q rfl Mem.closed (fun _ h => h) Mem.closed rfl (q_of_yld (y_move rfl)) trivial ?_
          refine wp_q rfl Mem.closed (fun _ h => h) Mem.closed rfl (q_of_yld (y_move rfl)) ⟨_, rfl, rfl⟩ ?_
          refine wp_q rfl Mem.closed (fun _ h => h) Mem.closed rfl (q_of_yld (y_fieldAddr fd67_0 sz22 rfl)) ⟨_, rfl, rfl⟩ ?_
          refine wp_q rfl Mem.closed (fun _ h => h) Mem.closed rfl (q_of_yld (y_load sc22 rfl (c_blk (i := 0) rfl rfl))) ⟨_, rfl, rfl⟩ ?_
          refine wp_q rfl Mem.closed (fun _ h => h) Mem.closed rfl (q_of_yld (y_len_sl sl22 (m := n1) rfl rfl)) ⟨_, rfl, rfl⟩ ?_
          refine wp_q rfl Mem.closed (fun _ h => h) Mem.closed rfl (q_of_yld (y_bin rfl rfl lss_i64)) ⟨_, rfl, rfl⟩ ?_
          refine wp_bool (t := 51) rfl (fun hs110 => ?_) (fun hs110 => ?_)
          · have hb110 : (j : Int) < (n1 : Int) := by simpa using hs110
            refine wp_q rfl Mem.closed (fun _ h => h) Mem.closed rfl (q_of_yld (y_move rfl)) ⟨_, rfl, rfl⟩ ?_
            refine wp_q rfl Mem.closed (fun _ h => h) Mem.closed rfl (q_of_yld (y_fieldAddr fd67_0 sz22 rfl)) ⟨_, rfl, rfl⟩ ?_
            refine wp_q rfl Mem.closed (fun _ h => h) Mem.closed rfl (q_of_yld (y_load sc22 rfl (c_blk (i := 0) rfl rfl))) ⟨_, rfl, rfl⟩ ?_
            refine wp_q rfl Mem.closed (fun _ h => h) Mem.closed rfl (q_of_yld (y_move rfl)) ⟨_, rfl, rfl⟩ ?_
            refine wp_q rfl Mem.closed (fun _ h => h) Mem.closed rfl (q_of_yld (y_indexAddr_sl sl22 sz5 rfl rfl (by omega) (by omega) (fun w m => rd_isSome ((hl1 _ (Mem.right (A := [_, _, _, _]) (B := T) m))) (by omega) (by decide)) j (by omega))) ⟨_, rfl, rfl⟩ ?_
            refine wp_q rfl Mem.closed (fun _ h => h) Mem.closed rfl (q_of_yld (y_load sc5 rfl (c_of (fun w m => (hl1 _ (Mem.right (A := [_, _, _, _]) (B := T) m))) (map_get (gd 0 (by first | omega | (simp; done) | (simp; omega))))))) ⟨_, rfl, rfl⟩ ?_
            refine wp_re (t := 57) (v' := b8 ((mkB 2))) rfl (congrArg b8 (rep_get (by omega))) ?_
            refine wp_q rfl Mem.closed (fun _ h => h) Mem.closed rfl (q_of_yld (y_fieldAddr fd67_2 sz3 rfl)) ⟨_, rfl, rfl⟩ ?_
            refine wp_q rfl Mem.closed (fun _ h => h) Mem.closed rfl (q_of_yld (y_load sc3 rfl (c_blk (i := 0) rfl rfl))) ⟨_, rfl, rfl⟩ ?_
            refine wp_q rfl Mem.closed (fun _ h => h) Mem.closed rfl (q_of_call cf73 rfl (fun w m => quiet_of_mem (isByte_ok w 2 (by decide)))) ⟨_, rfl, rfl⟩ ?_
            refine wp_q rfl Mem.closed (fun _ h => h) Mem.closed rfl (q_of_yld (y_not rfl)) ⟨_, rfl, rfl⟩ ?_
            refine wp_q rfl Mem.closed (fun _ h => h) Mem.closed rfl (q_of_yld (y_pick (b := true) rfl rfl)) ⟨_, rfl, rfl⟩ ?_
            refine wp_q rfl Mem.closed (fun _ h => h) Mem.closed rfl (q_of_yld (y_pick (b := false) rfl rfl)) trivial ?_
            refine wp_nil ?_
            refine aq_seq ?_
            refine wc_else rfl ?_
            refine wc_skip ?_
            refine aq_blk_normal ?_
            refine aq_seq ?_
            refine wc_region ?_
            refine wl_y (y_move rfl) ?_
            refine wl_y (y_bin rfl rfl (addn_i64 (a := j) (b := 1) (by omega))) ?_
            refine wl_y (y_assign rfl) ?_
            refine wl_nil ?_
            refine aq_loop (j + 1) ?_ ?_ ⟨rfl, rfl, rfl, rfl, rfl, rfl, rfl, rfl, rfl, rfl, rfl, rfl, rfl, rfl, rfl, rfl, rfl, rfl, rfl, rfl, rfl, rfl, rfl, rfl, rfl, rfl, rfl, rfl, trivial⟩ (fun _ h => h)
            · omega
            · first | omega | (dsimp only; omega)
          · have hb110 : ¬ ((j : Int) < (n1 : Int)) := by simpa using hs110
            refine wp_q rfl Mem.closed (fun _ h => h) Mem.closed rfl (q_of_yld (y_move rfl)) ⟨_, rfl, rfl⟩ ?_
            refine wp_off rfl Mem.closed (fun _ h => h) Mem.closed rfl ⟨_, _, rfl, rfl, .inl rfl⟩ ?_
            refine wp_off rfl Mem.closed (fun _ h => h) Mem.closed rfl ⟨_, _, rfl, rfl, .inl rfl⟩ ?_
            refine wp_off rfl Mem.closed (fun _ h => h) Mem.closed rfl ⟨_, _, rfl, rfl, .inl rfl⟩ ?_
            refine wp_off rfl Mem.closed (fun _ h => h) Mem.closed rfl ⟨_, _, rfl, rfl, .inl rfl⟩ ?_
            refine wp_off rfl Mem.closed (fun _ h => h) Mem.closed rfl ⟨_, _, rfl, rfl, .inl rfl⟩ ?_
            refine wp_off rfl Mem.closed (fun _ h => h) Mem.closed rfl ⟨_, _, rfl, rfl, .inl rfl⟩ ?_
            refine wp_off rfl Mem.closed (fun _ h => h) Mem.closed rfl ⟨_, _, rfl, rfl, .inl rfl⟩ ?_
            refine wp_off rfl Mem.closed (fun _ h => h) Mem.closed rfl ⟨_, _, rfl, rfl, .inl rfl⟩ ?_
            refine wp_off rfl Mem.closed (fun _ h => h) Mem.closed rfl ⟨_, _, rfl, rfl, .inl rfl⟩ ?_
            refine wp_q rfl Mem.closed (fun _ h => h) Mem.closed rfl (q_of_yld (y_pick (b := false) rfl rfl)) ⟨_, rfl, rfl⟩ ?_
            refine wp_q rfl Mem.closed (fun _ h => h) Mem.closed rfl (q_of_yld (y_pick (b := false) rfl rfl)) trivial ?_
            refine wp_nil ?_
            refine aq_seq ?_
            refine wc_else rfl ?_
            refine wc_skip ?_
            refine aq_blk_normal ?_
            refine aq_seq ?_
            refine wc_region ?_
            refine wl_y (y_move rfl) ?_
            refine wl_y (y_bin rfl rfl (addn_i64 (a := j) (b := 1) (by omega))) ?_
            refine wl_y (y_assign rfl) ?_
            refine wl_nil ?_
            refine aq_loop (j + 1) ?_ ?_ ⟨rfl, rfl, rfl, rfl, rfl, rfl, rfl, rfl, rfl, rfl, rfl, rfl, rfl, rfl, rfl, rfl, rfl, rfl, rfl, rfl, rfl, rfl, rfl, rfl, rfl, rfl, rfl, rfl, trivial⟩ (fun _ h => h)
            · omega
            · first | omega | (dsimp only; omega)
        · have hb2 : ¬ ((j : Int) < (((n1 + 40) : Nat) : Int)) := by simpa using hc2
          refine wc_exit ?_
          refine aq_thru_exit ?_
          refine aq_thru_exit ?_
          refine aq_blk_exit ?_
          refine aq_blk_normal ?_
          refine aq_seq ?_
          refine wc_region ?_
          refine wl_y (y_move rfl) ?_
          refine wl_y (y_bin rfl rfl (show bin .add (ki 1) (ki 1) = some (ki 2) from rfl)) ?_
          refine wl_y (y_assign rfl) ?_
          refine wl_nil ?_
          refine aq_again (wh_round ?_)
          refine wc_seq ?_
          refine wc_seq ?_
          refine wc_region ?_
          refine wl_y (y_move rfl) ?_
          refine wl_y (y_move rfl) ?_
          refine wl_y (y_nilCheck rfl) ?_
          refine wl_y (y_fieldAddr fd42_1 sz29 rfl) ?_
          refine wl_y (y_load sc29 rfl (c_blk (i := 2) rfl rfl)) ?_
          refine wl_y (y_len_sl sl29 (m := 2) rfl rfl) ?_
          refine wl_y (y_bin rfl rfl (show bin .lss (ki 2) (ki 2) = some (kb false) from rfl)) ?_
          refine wl_nil ?_
          refine aq_seq ?_
          refine wc_else rfl ?_
          refine wc_exit ?_
          refine aq_thru_exit ?_
          refine aq_thru_exit ?_
          refine aq_blk_exit ?_
          refine aq_seq ?_
          refine wc_seq ?_
          refine wc_region ?_
          refine wl_y (y_assign rfl) ?_
          refine wl_nil ?_
          refine aq_seq ?_
          refine wc_ret ?_
          refine aq_return (.inl rfl) rfl (⟨_, _, rfl, rfl, rfl⟩) ?_
          intro w' m
          exact ⟨(), rfl, Mem.left (B := T) (Mem.pickT (A := [_, _, _, _]) (B := T) m (is := [2]) ⟨_, _, rfl, rfl, rfl⟩ (by decide))⟩

end Go.Proofs.YtjibkjoaamchoaaGreatDoor
