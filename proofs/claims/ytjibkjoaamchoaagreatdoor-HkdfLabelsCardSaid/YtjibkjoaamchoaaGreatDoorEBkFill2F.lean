/- Lemmas and contracts for the proof of this seat's statements (BkFill2F). No condition. -/
import Derived.Test.YtjibkjoaamchoaaGreatDoorEBk
import Derived.Test.YtjibkjoaamchoaaGreatDoorProg
import Derived.KernelRfl
import Derived.Test.YtjibkjoaamchoaaGreatDoorEPlaA
import Derived.Test.YtjibkjoaamchoaaGreatDoorEBkKeep2F
set_option linter.all false
namespace Go.Proofs.YtjibkjoaamchoaaGreatDoor
open Go.Mc
private theorem fd42_1 : fdB Tryz.prog 42 1 1 29 = true := by kernel_rfl
private theorem sz29 : szB Tryz.prog 29 1 = true := by kernel_rfl
private theorem sc29 : scB Tryz.prog 29 = true := by kernel_rfl
private theorem sl29 : slB Tryz.prog 29 67 = true := by kernel_rfl
private theorem sz67 : szB Tryz.prog 67 3 = true := by kernel_rfl
private theorem ag67 : agB Tryz.prog 67 3 = true := by kernel_rfl
private theorem zn67 : znB Tryz.prog 67 (.agg #[.slice none 0 0, .slice none 0 0, ki (0)]) := by unfold znB; kernel_rfl
private theorem fd67_0 : fdB Tryz.prog 67 0 0 22 = true := by kernel_rfl
private theorem sz22 : szB Tryz.prog 22 1 = true := by kernel_rfl
private theorem sc22 : scB Tryz.prog 22 = true := by kernel_rfl
private theorem sl22 : slB Tryz.prog 22 5 = true := by kernel_rfl
private theorem fd67_2 : fdB Tryz.prog 67 2 2 3 = true := by kernel_rfl
private theorem sz3 : szB Tryz.prog 3 1 = true := by kernel_rfl
private theorem sc3 : scB Tryz.prog 3 = true := by kernel_rfl
private theorem cf61 : cfB Tryz.prog 61 = true := by kernel_rfl
private theorem sz5 : szB Tryz.prog 5 1 = true := by kernel_rfl
theorem fillB_2 (w : World) (own : List Nat) (bk : Nat) (ah : Option Addr) (hc : Nat) (a0 : Option Addr) (n0 c0 : Nat) (a1 : Option Addr) (n1 c1 : Nat) (x0 : List UInt8) (x1 : List UInt8) (hm : Mem w own [.blk bk (.cells (#[ki (2), .slice ah 2 hc, .slice none 0 0, .slice none 0 0, .slice none 0 0, .slice none 0 0, .slice none 0 0, .slice none 0 0, .slice none 0 0, .slice none 0 0, .slice none 0 0, .slice none 0 0, .slice none 0 0]) 42 (0, 0)), .sl ah 2 hc 67 3 ([.slice a0 n0 c0, .slice none 0 0, ki (1), .slice a1 n1 c1, .slice none 0 0, ki (2)] : List Value), .sl a0 n0 c0 5 1 (x0.map b8), .sl a1 n1 c1 5 1 (x1.map b8)] w) (hb0 : n0 ≤ 140737488351232) (hb1 : n1 ≤ 140737488351232) :
    Calls Tryz.prog 19 #[.pointer (some ⟨bk, 0, none⟩)] w (Ret (fun _ : Unit => .tuple #[]) (fun _ => Mem w own [.blk bk (.cells (#[ki (2), .slice ah 2 hc, .slice none 0 0, .slice none 0 0, .slice none 0 0, .slice none 0 0, .slice none 0 0, .slice none 0 0, .slice none 0 0, .slice none 0 0, .slice none 0 0, .slice none 0 0, .slice none 0 0]) 42 (0, 0)), .sl ah 2 hc 67 3 ([.slice a0 n0 c0, .slice none 0 0, ki (1), .slice a1 n1 c1, .slice none 0 0, ki (2)] : List Value), .sl a0 n0 c0 5 1 ((List.replicate n0 (mkB 1)).map b8), .sl a1 n1 c1 5 1 ((List.replicate n1 (mkB 2)).map b8)])) := by
  have hl0 := (hm.rd_sl (i := 2) rfl : Rd _ _ n0 1 (x0.map b8)).len
  have hl1 := (hm.rd_sl (i := 3) rfl : Rd _ _ n1 1 (x1.map b8)).len
  refine calls_of Tryz.func19 rfl rfl (L := [(0, .pointer (some ⟨bk, 0, none⟩))]) ⟨rfl, trivial⟩ (m := 35) (Nat.le_of_ble_eq_true rfl) (M := Mem w own [.blk bk (.cells (#[ki (2), .slice ah 2 hc, .slice none 0 0, .slice none 0 0, .slice none 0 0, .slice none 0 0, .slice none 0 0, .slice none 0 0, .slice none 0 0, .slice none 0 0, .slice none 0 0, .slice none 0 0, .slice none 0 0]) 42 (0, 0)), .sl ah 2 hc 67 3 ([.slice a0 n0 c0, .slice none 0 0, ki (1), .slice a1 n1 c1, .slice none 0 0, ki (2)] : List Value), .sl a0 n0 c0 5 1 (x0.map b8), .sl a1 n1 c1 5 1 (x1.map b8)]) (hm) ?_
  refine wc_seq ?_
  refine wc_region ?_
  refine wl_y (y_assign rfl) ?_
  refine wl_nil ?_
  refine aq_seq ?_
  refine wc_block ?_
  refine wc_unroll (wh_round ?_)
  refine wc_seq ?_
  refine wc_seq ?_
  refine wc_region ?_
  refine wl_y (y_move rfl) ?_
  refine wl_y (y_move rfl) ?_
  refine wl_y (y_nilCheck rfl) ?_
  refine wl_y (y_fieldAddr fd42_1 sz29 rfl) ?_
  refine wl_y (y_load sc29 rfl (c_blk (i := 0) rfl rfl)) ?_
  refine wl_y (y_len_sl sl29 (m := 2) rfl rfl) ?_
  refine wl_y (y_bin rfl rfl (show bin .lss (ki 0) (ki 2) = some (kb true) from rfl)) ?_
  refine wl_nil ?_
  refine aq_seq ?_
  refine wc_then rfl ?_
  refine wc_skip ?_
  refine aq_seq ?_
  refine wc_seq ?_
  refine wc_block ?_
  refine wc_seq ?_
  refine wc_region ?_
  refine wl_y (y_move rfl) ?_
  refine wl_y (y_nilCheck rfl) ?_
  refine wl_y (y_fieldAddr fd42_1 sz29 rfl) ?_
  refine wl_y (y_load sc29 rfl (c_blk (i := 0) rfl rfl)) ?_
  refine wl_y (y_move rfl) ?_
  refine wl_y (y_indexAddr_sl sl29 sz67 rfl rfl (by omega) (by omega) (fun w m => rd_isSome ((m.rd_sl (i := 1) rfl)) (by omega) (by decide)) 0 (by omega)) ?_
  refine wl_y (y_loads (cs := [.slice a0 n0 c0, .slice none 0 0, ki (1)]) ag67 rfl rfl (fun w m => c_rdw (k := 0) (m.rd_sl (i := 1) rfl) rfl)) ?_
  refine wl_eff (e_alloc (cs := #[.slice none 0 0, .slice none 0 0, ki (0)]) zn67) rfl trivial rfl ?_
  intro b1
  refine wl_eff (e_storeall sz67 rfl rfl (i := 0) rfl rfl rfl (by simp [Value.oneCell']) rfl) rfl trivial rfl ?_
  intro _
  refine wl_nil ?_
  refine aq_seq ?_
  refine wc_seq ?_
  refine wc_region ?_
  refine wl_y (y_assign rfl) ?_
  refine wl_nil ?_
  refine aq_seq ?_
  refine wc_block ?_
  refine wc_loop (γ := Nat) (fun j0 => [(0, .pointer (some ⟨bk, 0, none⟩)), (2, ki (0)), (5, ki (0)), (6, .pointer (some ⟨bk, 0, none⟩)), (7, .pointer (some ⟨bk, 0, none⟩)), (8, .pointer (some ⟨bk, 1, none⟩)), (9, .slice ah 2 hc), (10, ki (2)), (11, kb (true)), (14, .pointer (some ⟨bk, 0, none⟩)), (15, .pointer (some ⟨bk, 0, none⟩)), (16, .pointer (some ⟨bk, 1, none⟩)), (17, .slice ah 2 hc), (18, ki (0)), (19, .pointer (some (adr ah (0)))), (20, .agg (#[.slice a0 n0 c0, .slice none 0 0, ki (1)])), (3, .pointer (some ⟨b1, 0, none⟩)), (4, ki ((j0 : Int)))]) (fun j0 => Mem w own [.blk b1 (.cells (#[.slice a0 n0 c0, .slice none 0 0, ki (1)]) 67 (0, 0)), .blk bk (.cells (#[ki (2), .slice ah 2 hc, .slice none 0 0, .slice none 0 0, .slice none 0 0, .slice none 0 0, .slice none 0 0, .slice none 0 0, .slice none 0 0, .slice none 0 0, .slice none 0 0, .slice none 0 0, .slice none 0 0]) 42 (0, 0)), .sl ah 2 hc 67 3 ([.slice a0 n0 c0, .slice none 0 0, ki (1), .slice a1 n1 c1, .slice none 0 0, ki (2)] : List Value), .sl a0 n0 c0 5 1 ((fillL x0 (mkB 1) j0).map b8), .sl a1 n1 c1 5 1 (x1.map b8)]) (fun j0 => (j0 ≤ n0)) (fun j0 => n0 - j0) (0) ?_ ⟨rfl, rfl, rfl, rfl, rfl, rfl, rfl, rfl, rfl, rfl, rfl, rfl, rfl, rfl, rfl, rfl, rfl, rfl, trivial⟩ (fun _ h => h) ?_
  · omega
  · rintro j0 hj
    refine wc_seq ?_
    refine wc_seq ?_
    refine wc_region ?_
    refine wl_y (y_move rfl) ?_
    refine wl_y (y_fieldAddr fd67_0 sz22 rfl) ?_
    refine wl_y (y_load sc22 rfl (c_blk (i := 0) rfl rfl)) ?_
    refine wl_y (y_len_sl sl22 (m := n0) rfl rfl) ?_
    refine wl_y (y_bin rfl rfl lss_i64) ?_
    refine wl_nil ?_
    refine aq_seq ?_
    refine wc_if rfl (fun hc1 => ?_) (fun hc1 => ?_)
    · have hb1 : (j0 : Int) < (n0 : Int) := by simpa using hc1
      refine wc_skip ?_
      refine aq_seq ?_
      refine wc_seq ?_
      refine wc_block ?_
      refine wc_drawM [(0, .q), (1, .q), (2, .q), (3, .q), (4, .q), (5, .q), (6, .q), (7, .l)] (by kernel_rfl) (by kernel_rfl) Mem.closed ?_
      refine wp_q rfl Mem.closed (fun _ h => h) Mem.closed rfl (q_of_yld (y_fieldAddr fd67_0 sz22 rfl)) trivial ?_
      refine wp_q rfl Mem.closed (fun _ h => h) Mem.closed rfl (q_of_yld (y_load sc22 rfl (c_blk (i := 0) rfl rfl))) trivial ?_
      refine wp_q rfl Mem.closed (fun _ h => h) Mem.closed rfl (q_of_yld (y_move rfl)) trivial ?_
      refine wp_q rfl Mem.closed (fun _ h => h) Mem.closed rfl (q_of_yld (y_fieldAddr fd67_2 sz3 rfl)) trivial ?_
      refine wp_q rfl Mem.closed (fun _ h => h) Mem.closed rfl (q_of_yld (y_load sc3 rfl (c_blk (i := 0) rfl rfl))) trivial ?_
      refine wp_q rfl Mem.closed (fun _ h => h) Mem.closed rfl (q_of_call cf61 rfl (fun w m => quiet_of_mem (markByte_ok w 1 (by decide)))) trivial ?_
      refine wp_q rfl Mem.closed (fun _ h => h) Mem.closed rfl (q_of_yld (y_indexAddr_sl sl22 sz5 rfl rfl (by omega) (by omega) (fun w m => rd_isSome ((m.rd_sl (i := 3) rfl : Rd _ _ n0 1 ((fillL x0 (mkB 1) j0).map b8))) (by omega) (by decide)) j0 (by omega))) trivial ?_
      refine wp_l rfl rfl rfl (e_store_slm (f := b8) sz5 (x' := (mkB 1)) rfl rfl (i := 3) rfl (by omega) ⟨_, rfl, ⟨_, rfl, ⟨_, rfl, rfl⟩⟩⟩) trivial ?_
      intro _
      refine aq_blk_normal ?_
      refine aq_seq ?_
      refine wc_region ?_
      refine wl_y (y_move rfl) ?_
      refine wl_y (y_bin rfl rfl (addn_i64 (a := j0) (b := 1) (by omega))) ?_
      refine wl_y (y_assign rfl) ?_
      refine wl_nil ?_
      rw [fillL_s (by omega)]
      refine aq_loop (j0 + 1) ?_ ?_ ⟨rfl, rfl, rfl, rfl, rfl, rfl, rfl, rfl, rfl, rfl, rfl, rfl, rfl, rfl, rfl, rfl, rfl, rfl, trivial⟩ (fun _ h => h)
      · omega
      · first | omega | (dsimp only; omega)
    · have hb1 : ¬ ((j0 : Int) < (n0 : Int)) := by simpa using hc1
      have hie : j0 = n0 := by omega
      subst hie
      refine wc_mem (M' := Mem w own [.blk b1 (.cells (#[.slice a0 j0 c0, .slice none 0 0, ki (1)]) 67 (0, 0)), .blk bk (.cells (#[ki (2), .slice ah 2 hc, .slice none 0 0, .slice none 0 0, .slice none 0 0, .slice none 0 0, .slice none 0 0, .slice none 0 0, .slice none 0 0, .slice none 0 0, .slice none 0 0, .slice none 0 0, .slice none 0 0]) 42 (0, 0)), .sl ah 2 hc 67 3 ([.slice a0 j0 c0, .slice none 0 0, ki (1), .slice a1 n1 c1, .slice none 0 0, ki (2)] : List Value), .sl a0 j0 c0 5 1 ((List.replicate j0 (mkB 1)).map b8), .sl a1 n1 c1 5 1 (x1.map b8)]) (fun w_ h_ => by have h2 : Mem w own [.blk b1 (.cells (#[.slice a0 j0 c0, .slice none 0 0, ki (1)]) 67 (0, 0)), .blk bk (.cells (#[ki (2), .slice ah 2 hc, .slice none 0 0, .slice none 0 0, .slice none 0 0, .slice none 0 0, .slice none 0 0, .slice none 0 0, .slice none 0 0, .slice none 0 0, .slice none 0 0, .slice none 0 0, .slice none 0 0]) 42 (0, 0)), .sl ah 2 hc 67 3 ([.slice a0 j0 c0, .slice none 0 0, ki (1), .slice a1 n1 c1, .slice none 0 0, ki (2)] : List Value), .sl a0 j0 c0 5 1 ((fillL x0 (mkB 1) j0).map b8), .sl a1 n1 c1 5 1 (x1.map b8)] w_ := h_; rw [fillL_n hl0] at h2; exact h2) ?_
      refine wc_exit ?_
      refine aq_thru_exit ?_
      refine aq_thru_exit ?_
      refine aq_blk_exit ?_
      refine aq_blk_normal ?_
      refine aq_seq ?_
      refine wc_region ?_
      refine wl_y (y_move rfl) ?_
      refine wl_y (y_bin rfl rfl (show bin .add (ki 0) (ki 1) = some (ki 1) from rfl)) ?_
      refine wl_y (y_assign rfl) ?_
      refine wl_nil ?_
      refine aq_again (wh_round ?_)
      refine wc_seq ?_
      refine wc_seq ?_
      refine wc_region ?_
      refine wl_y (y_move rfl) ?_
      refine wl_y (y_move rfl) ?_
      refine wl_y (y_nilCheck rfl) ?_
      refine wl_y (y_fieldAddr fd42_1 sz29 rfl) ?_
      refine wl_y (y_load sc29 rfl (c_blk (i := 1) rfl rfl)) ?_
      refine wl_y (y_len_sl sl29 (m := 2) rfl rfl) ?_
      refine wl_y (y_bin rfl rfl (show bin .lss (ki 1) (ki 2) = some (kb true) from rfl)) ?_
      refine wl_nil ?_
      refine aq_seq ?_
      refine wc_then rfl ?_
      refine wc_skip ?_
      refine aq_seq ?_
      refine wc_seq ?_
      refine wc_block ?_
      refine wc_seq ?_
      refine wc_region ?_
      refine wl_y (y_move rfl) ?_
      refine wl_y (y_nilCheck rfl) ?_
      refine wl_y (y_fieldAddr fd42_1 sz29 rfl) ?_
      refine wl_y (y_load sc29 rfl (c_blk (i := 1) rfl rfl)) ?_
      refine wl_y (y_move rfl) ?_
      refine wl_y (y_indexAddr_sl sl29 sz67 rfl rfl (by omega) (by omega) (fun w m => rd_isSome ((m.rd_sl (i := 2) rfl)) (by omega) (by decide)) 3 (by omega)) ?_
      refine wl_y (y_loads (cs := [.slice a1 n1 c1, .slice none 0 0, ki (2)]) ag67 rfl rfl (fun w m => c_rdw (k := 3) (m.rd_sl (i := 2) rfl) rfl)) ?_
      refine wl_eff (e_alloc (cs := #[.slice none 0 0, .slice none 0 0, ki (0)]) zn67) rfl trivial rfl ?_
      intro b2
      refine wl_eff (e_storeall sz67 rfl rfl (i := 0) rfl rfl rfl (by simp [Value.oneCell']) rfl) rfl trivial rfl ?_
      intro _
      refine wl_nil ?_
      refine aq_seq ?_
      refine wc_seq ?_
      refine wc_region ?_
      refine wl_y (y_assign rfl) ?_
      refine wl_nil ?_
      refine aq_seq ?_
      refine wc_block ?_
      refine wc_loop (γ := Nat) (fun j1 => [(0, .pointer (some ⟨bk, 0, none⟩)), (2, ki (1)), (5, ki (1)), (6, .pointer (some ⟨bk, 0, none⟩)), (7, .pointer (some ⟨bk, 0, none⟩)), (8, .pointer (some ⟨bk, 1, none⟩)), (9, .slice ah 2 hc), (10, ki (2)), (11, kb (true)), (14, .pointer (some ⟨bk, 0, none⟩)), (15, .pointer (some ⟨bk, 0, none⟩)), (16, .pointer (some ⟨bk, 1, none⟩)), (17, .slice ah 2 hc), (18, ki (1)), (19, .pointer (some (adr ah (3)))), (20, .agg (#[.slice a1 n1 c1, .slice none 0 0, ki (2)])), (3, .pointer (some ⟨b2, 0, none⟩)), (4, ki ((j1 : Int))), (12, ki (0)), (13, ki (1))]) (fun j1 => Mem w own [.blk b2 (.cells (#[.slice a1 n1 c1, .slice none 0 0, ki (2)]) 67 (0, 0)), .blk b1 (.cells (#[.slice a0 j0 c0, .slice none 0 0, ki (1)]) 67 (0, 0)), .blk bk (.cells (#[ki (2), .slice ah 2 hc, .slice none 0 0, .slice none 0 0, .slice none 0 0, .slice none 0 0, .slice none 0 0, .slice none 0 0, .slice none 0 0, .slice none 0 0, .slice none 0 0, .slice none 0 0, .slice none 0 0]) 42 (0, 0)), .sl ah 2 hc 67 3 ([.slice a0 j0 c0, .slice none 0 0, ki (1), .slice a1 n1 c1, .slice none 0 0, ki (2)] : List Value), .sl a0 j0 c0 5 1 ((List.replicate j0 (mkB 1)).map b8), .sl a1 n1 c1 5 1 ((fillL x1 (mkB 2) j1).map b8)]) (fun j1 => (j1 ≤ n1)) (fun j1 => n1 - j1) (0) ?_ ⟨rfl, rfl, rfl, rfl, rfl, rfl, rfl, rfl, rfl, rfl, rfl, rfl, rfl, rfl, rfl, rfl, rfl, rfl, rfl, rfl, trivial⟩ (fun _ h => h) ?_
      · omega
      · rintro j1 hj
        refine wc_seq ?_
        refine wc_seq ?_
        refine wc_region ?_
        refine wl_y (y_move rfl) ?_
        refine wl_y (y_fieldAddr fd67_0 sz22 rfl) ?_
        refine wl_y (y_load sc22 rfl (c_blk (i := 0) rfl rfl)) ?_
        refine wl_y (y_len_sl sl22 (m := n1) rfl rfl) ?_
        refine wl_y (y_bin rfl rfl lss_i64) ?_
        refine wl_nil ?_
        refine aq_seq ?_
        refine wc_if rfl (fun hc2 => ?_) (fun hc2 => ?_)
        · have hb2 : (j1 : Int) < (n1 : Int) := by simpa using hc2
          refine wc_skip ?_
          refine aq_seq ?_
          refine wc_seq ?_
          refine wc_block ?_
          refine wc_drawM [(0, .q), (1, .q), (2, .q), (3, .q), (4, .q), (5, .q), (6, .q), (7, .l)] (by kernel_rfl) (by kernel_rfl) Mem.closed ?_
          refine wp_q rfl Mem.closed (fun _ h => h) Mem.closed rfl (q_of_yld (y_fieldAddr fd67_0 sz22 rfl)) trivial ?_
          refine wp_q rfl Mem.closed (fun _ h => h) Mem.closed rfl (q_of_yld (y_load sc22 rfl (c_blk (i := 0) rfl rfl))) trivial ?_
          refine wp_q rfl Mem.closed (fun _ h => h) Mem.closed rfl (q_of_yld (y_move rfl)) trivial ?_
          refine wp_q rfl Mem.closed (fun _ h => h) Mem.closed rfl (q_of_yld (y_fieldAddr fd67_2 sz3 rfl)) trivial ?_
          refine wp_q rfl Mem.closed (fun _ h => h) Mem.closed rfl (q_of_yld (y_load sc3 rfl (c_blk (i := 0) rfl rfl))) trivial ?_
          refine wp_q rfl Mem.closed (fun _ h => h) Mem.closed rfl (q_of_call cf61 rfl (fun w m => quiet_of_mem (markByte_ok w 2 (by decide)))) trivial ?_
          refine wp_q rfl Mem.closed (fun _ h => h) Mem.closed rfl (q_of_yld (y_indexAddr_sl sl22 sz5 rfl rfl (by omega) (by omega) (fun w m => rd_isSome ((m.rd_sl (i := 5) rfl : Rd _ _ n1 1 ((fillL x1 (mkB 2) j1).map b8))) (by omega) (by decide)) j1 (by omega))) trivial ?_
          refine wp_l rfl rfl rfl (e_store_slm (f := b8) sz5 (x' := (mkB 2)) rfl rfl (i := 5) rfl (by omega) ⟨_, rfl, ⟨_, rfl, ⟨_, rfl, ⟨_, rfl, ⟨_, rfl, rfl⟩⟩⟩⟩⟩) trivial ?_
          intro _
          refine aq_blk_normal ?_
          refine aq_seq ?_
          refine wc_region ?_
          refine wl_y (y_move rfl) ?_
          refine wl_y (y_bin rfl rfl (addn_i64 (a := j1) (b := 1) (by omega))) ?_
          refine wl_y (y_assign rfl) ?_
          refine wl_nil ?_
          rw [fillL_s (by omega)]
          refine aq_loop (j1 + 1) ?_ ?_ ⟨rfl, rfl, rfl, rfl, rfl, rfl, rfl, rfl, rfl, rfl, rfl, rfl, rfl, rfl, rfl, rfl, rfl, rfl, rfl, rfl, trivial⟩ (fun _ h => h)
          · omega
          · first | omega | (dsimp only; omega)
        · have hb2 : ¬ ((j1 : Int) < (n1 : Int)) := by simpa using hc2
          have hie : j1 = n1 := by omega
          subst hie
          refine wc_mem (M' := Mem w own [.blk b2 (.cells (#[.slice a1 j1 c1, .slice none 0 0, ki (2)]) 67 (0, 0)), .blk b1 (.cells (#[.slice a0 j0 c0, .slice none 0 0, ki (1)]) 67 (0, 0)), .blk bk (.cells (#[ki (2), .slice ah 2 hc, .slice none 0 0, .slice none 0 0, .slice none 0 0, .slice none 0 0, .slice none 0 0, .slice none 0 0, .slice none 0 0, .slice none 0 0, .slice none 0 0, .slice none 0 0, .slice none 0 0]) 42 (0, 0)), .sl ah 2 hc 67 3 ([.slice a0 j0 c0, .slice none 0 0, ki (1), .slice a1 j1 c1, .slice none 0 0, ki (2)] : List Value), .sl a0 j0 c0 5 1 ((List.replicate j0 (mkB 1)).map b8), .sl a1 j1 c1 5 1 ((List.replicate j1 (mkB 2)).map b8)]) (fun w_ h_ => by have h2 : Mem w own [.blk b2 (.cells (#[.slice a1 j1 c1, .slice none 0 0, ki (2)]) 67 (0, 0)), .blk b1 (.cells (#[.slice a0 j0 c0, .slice none 0 0, ki (1)]) 67 (0, 0)), .blk bk (.cells (#[ki (2), .slice ah 2 hc, .slice none 0 0, .slice none 0 0, .slice none 0 0, .slice none 0 0, .slice none 0 0, .slice none 0 0, .slice none 0 0, .slice none 0 0, .slice none 0 0, .slice none 0 0, .slice none 0 0]) 42 (0, 0)), .sl ah 2 hc 67 3 ([.slice a0 j0 c0, .slice none 0 0, ki (1), .slice a1 j1 c1, .slice none 0 0, ki (2)] : List Value), .sl a0 j0 c0 5 1 ((List.replicate j0 (mkB 1)).map b8), .sl a1 j1 c1 5 1 ((fillL x1 (mkB 2) j1).map b8)] w_ := h_; rw [fillL_n hl1] at h2; exact h2) ?_
          refine wc_exit ?_
          refine aq_thru_exit ?_
          refine aq_thru_exit ?_
          refine aq_blk_exit ?_
          refine aq_blk_normal ?_
          refine aq_seq ?_
          refine wc_region ?_
          refine wl_y (y_move rfl) ?_
          refine wl_y (y_bin rfl rfl (show bin .add (ki 1) (ki 1) = some (ki 2) from rfl)) ?_
          refine wl_y (y_assign rfl) ?_
          refine wl_nil ?_
          refine aq_again (wh_round ?_)
          refine wc_seq ?_
          refine wc_seq ?_
          refine wc_region ?_
          refine wl_y (y_move rfl) ?_
          refine wl_y (y_move rfl) ?_
          refine wl_y (y_nilCheck rfl) ?_
          refine wl_y (y_fieldAddr fd42_1 sz29 rfl) ?_
          refine wl_y (y_load sc29 rfl (c_blk (i := 2) rfl rfl)) ?_
          refine wl_y (y_len_sl sl29 (m := 2) rfl rfl) ?_
          refine wl_y (y_bin rfl rfl (show bin .lss (ki 2) (ki 2) = some (kb false) from rfl)) ?_
          refine wl_nil ?_
          refine aq_seq ?_
          refine wc_else rfl ?_
          refine wc_exit ?_
          refine aq_thru_exit ?_
          refine aq_thru_exit ?_
          refine aq_blk_exit ?_
          refine aq_return (.inr rfl) rfl (rfl) ?_
          intro w' m
          exact ⟨(), rfl, (Mem.pick m (is := [2, 3, 4, 5]) ⟨_, _, rfl, rfl, ⟨_, _, rfl, rfl, ⟨_, _, rfl, rfl, ⟨_, _, rfl, rfl, rfl⟩⟩⟩⟩ (by decide))⟩

end Go.Proofs.YtjibkjoaamchoaaGreatDoor
