/- Lemmas and contracts for the proof of this seat's statements (BkGrow2F). No condition. -/
import Derived.Test.YtjibkjoaamchoaaGreatDoorEBk
import Derived.Test.YtjibkjoaamchoaaGreatDoorProg
import Derived.KernelRfl
import Derived.Test.YtjibkjoaamchoaaGreatDoorEPlaA
import Derived.Test.YtjibkjoaamchoaaGreatDoorEBkKeep2F
set_option linter.all false
namespace Go.Proofs.YtjibkjoaamchoaaGreatDoor
open Go.Mc
private theorem fd42_1 : fdB Tryz.prog 42 1 1 29 = true := by kernel_rfl
private theorem sz29 : szB Tryz.prog 29 1 = true := by kernel_rfl
private theorem sc29 : scB Tryz.prog 29 = true := by kernel_rfl
private theorem sl29 : slB Tryz.prog 29 67 = true := by kernel_rfl
private theorem sz67 : szB Tryz.prog 67 3 = true := by kernel_rfl
private theorem ag67 : agB Tryz.prog 67 3 = true := by kernel_rfl
private theorem zn67 : znB Tryz.prog 67 (.agg #[.slice none 0 0, .slice none 0 0, ki (0)]) := by unfold znB; kernel_rfl
private theorem fd67_0 : fdB Tryz.prog 67 0 0 22 = true := by kernel_rfl
private theorem sz22 : szB Tryz.prog 22 1 = true := by kernel_rfl
private theorem sc22 : scB Tryz.prog 22 = true := by kernel_rfl
private theorem fd67_2 : fdB Tryz.prog 67 2 2 3 = true := by kernel_rfl
private theorem sz3 : szB Tryz.prog 3 1 = true := by kernel_rfl
private theorem sc3 : scB Tryz.prog 3 = true := by kernel_rfl
private theorem cf61 : cfB Tryz.prog 61 = true := by kernel_rfl
private theorem sl22 : slB Tryz.prog 22 5 = true := by kernel_rfl
private theorem el5 : elB Tryz.prog 5 1 1 (b8 0) := elB_of (by kernel_rfl) (by kernel_rfl) (by unfold znB; kernel_rfl)
private theorem fd67_1 : fdB Tryz.prog 67 1 1 22 = true := by kernel_rfl
theorem growB_2 (w : World) (own : List Nat) (bk : Nat) (ah : Option Addr) (hc : Nat) (a0 : Option Addr) (n0 c0 : Nat) (a1 : Option Addr) (n1 c1 : Nat) (hm : Mem w own [.blk bk (.cells (#[ki (2), .slice ah 2 hc, .slice none 0 0, .slice none 0 0, .slice none 0 0, .slice none 0 0, .slice none 0 0, .slice none 0 0, .slice none 0 0, .slice none 0 0, .slice none 0 0, .slice none 0 0, .slice none 0 0]) 42 (0, 0)), .sl ah 2 hc 67 3 ([.slice a0 n0 c0, .slice none 0 0, ki (1), .slice a1 n1 c1, .slice none 0 0, ki (2)] : List Value), .sl a0 n0 c0 5 1 ((List.replicate n0 (mkB 1)).map b8), .sl a1 n1 c1 5 1 ((List.replicate n1 (mkB 2)).map b8)] w) (hb0 : n0 ≤ 140737488351232) (hb1 : n1 ≤ 140737488351232) :
    Calls Tryz.prog 31 #[.pointer (some ⟨bk, 0, none⟩)] w (Ret (fun _ : (Option Addr × Nat) × (Option Addr × Nat) => .tuple #[]) (fun r => Mem w own (.blk bk (.cells (#[ki (2), .slice ah 2 hc, .slice none 0 0, .slice none 0 0, .slice none 0 0, .slice none 0 0, .slice none 0 0, .slice none 0 0, .slice none 0 0, .slice none 0 0, .slice none 0 0, .slice none 0 0, .slice none 0 0]) 42 (0, 0)) :: .sl ah 2 hc 67 3 ([.slice a0 n0 c0, .slice (gA n0 c0 40 a0 (r.1.1)) (n0 + 40) (gC n0 c0 40 (r.1.2)), ki (1), .slice a1 n1 c1, .slice (gA n1 c1 40 a1 (r.2.1)) (n1 + 40) (gC n1 c1 40 (r.2.2)), ki (2)] : List Value) :: (gCh 5 a1 n1 c1 ((List.replicate n1 (mkB 2)).map b8) (r.2.1) (r.2.2) 40 (b8 (mkB 2)) ++ (gCh 5 a0 n0 c0 ((List.replicate n0 (mkB 1)).map b8) (r.1.1) (r.1.2) 40 (b8 (mkB 1)) ++ []))))) := by
  have hcp0 := hm.sl_le (i := 2) rfl
  have hcp1 := hm.sl_le (i := 3) rfl
  refine calls_of Tryz.func31 rfl rfl (L := [(0, .pointer (some ⟨bk, 0, none⟩))]) ⟨rfl, trivial⟩ (m := 42) (Nat.le_of_ble_eq_true rfl) (M := Mem w own [.blk bk (.cells (#[ki (2), .slice ah 2 hc, .slice none 0 0, .slice none 0 0, .slice none 0 0, .slice none 0 0, .slice none 0 0, .slice none 0 0, .slice none 0 0, .slice none 0 0, .slice none 0 0, .slice none 0 0, .slice none 0 0]) 42 (0, 0)), .sl ah 2 hc 67 3 ([.slice a0 n0 c0, .slice none 0 0, ki (1), .slice a1 n1 c1, .slice none 0 0, ki (2)] : List Value), .sl a0 n0 c0 5 1 ((List.replicate n0 (mkB 1)).map b8), .sl a1 n1 c1 5 1 ((List.replicate n1 (mkB 2)).map b8)]) (hm) ?_
  refine wc_seq ?_
  refine wc_region ?_
  refine wl_y (y_assign rfl) ?_
  refine wl_nil ?_
  refine aq_seq ?_
  refine wc_block ?_
  refine wc_unroll (wh_round ?_)
  refine wc_seq ?_
  refine wc_seq ?_
  refine wc_region ?_
  refine wl_y (y_move rfl) ?_
  refine wl_y (y_move rfl) ?_
  refine wl_y (y_nilCheck rfl) ?_
  refine wl_y (y_fieldAddr fd42_1 sz29 rfl) ?_
  refine wl_y (y_load sc29 rfl (c_blk (i := 0) rfl rfl)) ?_
  refine wl_y (y_len_sl sl29 (m := 2) rfl rfl) ?_
  refine wl_y (y_bin rfl rfl (show bin .lss (ki 0) (ki 2) = some (kb true) from rfl)) ?_
  refine wl_nil ?_
  refine aq_seq ?_
  refine wc_then rfl ?_
  refine wc_skip ?_
  refine aq_seq ?_
  refine wc_seq ?_
  refine wc_block ?_
  refine wc_seq ?_
  refine wc_region ?_
  refine wl_y (y_move rfl) ?_
  refine wl_y (y_nilCheck rfl) ?_
  refine wl_y (y_fieldAddr fd42_1 sz29 rfl) ?_
  refine wl_y (y_load sc29 rfl (c_blk (i := 0) rfl rfl)) ?_
  refine wl_y (y_move rfl) ?_
  refine wl_y (y_indexAddr_sl sl29 sz67 rfl rfl (by omega) (by omega) (fun w m => rd_isSome ((m.rd_sl (i := 1) rfl)) (by omega) (by decide)) 0 (by omega)) ?_
  refine wl_y (y_loads (cs := [.slice a0 n0 c0, .slice none 0 0, ki (1)]) ag67 rfl rfl (fun w m => c_rdw (k := 0) (m.rd_sl (i := 1) rfl) rfl)) ?_
  refine wl_eff (e_alloc (cs := #[.slice none 0 0, .slice none 0 0, ki (0)]) zn67) rfl trivial rfl ?_
  intro b1
  refine wl_eff (e_storeall sz67 rfl rfl (i := 0) rfl rfl rfl (by simp [Value.oneCell']) rfl) rfl trivial rfl ?_
  intro _
  refine wl_nil ?_
  refine aq_seq ?_
  refine wc_seq ?_
  refine wc_region ?_
  refine wl_mem (M' := Mem w own (.blk b1 (.cells (#[.slice a0 n0 c0, .slice none 0 0, ki (1)]) 67 (0, 0)) :: .blk bk (.cells (#[ki (2), .slice ah 2 hc, .slice none 0 0, .slice none 0 0, .slice none 0 0, .slice none 0 0, .slice none 0 0, .slice none 0 0, .slice none 0 0, .slice none 0 0, .slice none 0 0, .slice none 0 0, .slice none 0 0]) 42 (0, 0)) :: .sl ah 2 hc 67 3 ([.slice a0 n0 c0, .slice none 0 0, ki (1), .slice a1 n1 c1, .slice none 0 0, ki (2)] : List Value) :: .sl a1 n1 c1 5 1 ((List.replicate n1 (mkB 2)).map b8) :: (gCh 5 a0 n0 c0 ((List.replicate n0 (mkB 1)).map b8) none 0 0 (b8 (mkB 1)) ++ []))) (fun w_ h_ => Mem.g0 (A := [_, _, _, _]) (T := []) hcp0 (Mem.pick h_ (is := [0, 1, 2, 4, 3]) ⟨_, _, rfl, rfl, ⟨_, _, rfl, rfl, ⟨_, _, rfl, rfl, ⟨_, _, rfl, rfl, ⟨_, _, rfl, rfl, rfl⟩⟩⟩⟩⟩ (by decide))) ?_
  refine wl_y (y_fieldAddr fd67_0 sz22 rfl) ?_
  refine wl_y (y_load sc22 rfl (c_blk (i := 0) rfl rfl)) ?_
  refine wl_re (t := 23) (v' := .slice (gA n0 c0 0 a0 none) (n0 + 0) (gC n0 c0 0 0)) rfl (by rw [gA_0 hcp0, gC_0 hcp0]; rfl) ?_
  refine wl_y (y_assign rfl) ?_
  refine wl_nil ?_
  refine aq_seq ?_
  refine wc_seq ?_
  refine wc_seq ?_
  refine wc_region ?_
  refine wl_y (y_assign rfl) ?_
  refine wl_nil ?_
  refine aq_seq ?_
  refine wc_block ?_
  refine wc_loop (γ := Nat × Option Addr × Nat) (fun ⟨j, ad0, cp0⟩ => [(0, .pointer (some ⟨bk, 0, none⟩)), (2, ki (0)), (6, ki (0)), (7, .pointer (some ⟨bk, 0, none⟩)), (8, .pointer (some ⟨bk, 0, none⟩)), (9, .pointer (some ⟨bk, 1, none⟩)), (10, .slice ah 2 hc), (11, ki (2)), (12, kb (true)), (15, .pointer (some ⟨bk, 0, none⟩)), (16, .pointer (some ⟨bk, 0, none⟩)), (17, .pointer (some ⟨bk, 1, none⟩)), (18, .slice ah 2 hc), (19, ki (0)), (20, .pointer (some (adr ah (0)))), (21, .agg (#[.slice a0 n0 c0, .slice none 0 0, ki (1)])), (3, .pointer (some ⟨b1, 0, none⟩)), (22, .pointer (some ⟨b1, 0, none⟩)), (23, .slice (gA n0 c0 0 a0 none) (n0 + 0) (gC n0 c0 0 0)), (4, .slice (gA n0 c0 j a0 ad0) (n0 + j) (gC n0 c0 j cp0)), (5, ki ((j : Int)))]) (fun ⟨j, ad0, cp0⟩ => Mem w own (.blk b1 (.cells (#[.slice a0 n0 c0, .slice none 0 0, ki (1)]) 67 (0, 0)) :: .blk bk (.cells (#[ki (2), .slice ah 2 hc, .slice none 0 0, .slice none 0 0, .slice none 0 0, .slice none 0 0, .slice none 0 0, .slice none 0 0, .slice none 0 0, .slice none 0 0, .slice none 0 0, .slice none 0 0, .slice none 0 0]) 42 (0, 0)) :: .sl ah 2 hc 67 3 ([.slice a0 n0 c0, .slice none 0 0, ki (1), .slice a1 n1 c1, .slice none 0 0, ki (2)] : List Value) :: .sl a1 n1 c1 5 1 ((List.replicate n1 (mkB 2)).map b8) :: (gCh 5 a0 n0 c0 ((List.replicate n0 (mkB 1)).map b8) ad0 cp0 j (b8 (mkB 1)) ++ []))) (fun ⟨j, ad0, cp0⟩ => (j ≤ 40)) (fun ⟨j, ad0, cp0⟩ => 40 - j) (⟨0, none, 0⟩) ?_ ⟨rfl, rfl, rfl, rfl, rfl, rfl, rfl, rfl, rfl, rfl, rfl, rfl, rfl, rfl, rfl, rfl, rfl, rfl, rfl, rfl, rfl, trivial⟩ (fun _ h => h) ?_
  · omega
  · rintro ⟨j, ad0, cp0⟩ hj
    change j ≤ 40 at hj
    refine wc_seq ?_
    refine wc_seq ?_
    refine wc_region ?_
    refine wl_y (y_move rfl) ?_
    refine wl_y (y_bin rfl rfl lss_i64) ?_
    refine wl_nil ?_
    refine aq_seq ?_
    refine wc_if rfl (fun hc1 => ?_) (fun hc1 => ?_)
    · have hb1 : (j : Int) < 40 := by simpa using hc1
      refine wc_skip ?_
      refine aq_seq ?_
      refine wc_seq ?_
      refine wc_block ?_
      refine wc_region ?_
      refine wl_y (y_move rfl) ?_
      refine wl_y (y_fieldAddr fd67_2 sz3 rfl) ?_
      refine wl_y (y_load sc3 rfl (c_blk (i := 0) rfl rfl)) ?_
      refine wl_eff (e_call0 cf61 rfl (fun w m => markByte_ok w 1 (by decide))) rfl trivial rfl ?_
      intro _
      refine wl_eff (e_buildSlice (len := 1) [b8 ((mkB 1))] sl22 el5 rfl rfl rfl (by simp [Value.cells]) (by decide) [b8 ((mkB 1))] rfl) rfl trivial rfl ?_
      intro b2
      refine wl_eff (e_append_g (A := [.sl (some ⟨b2, 0, none⟩) 1 1 5 1 (([(mkB 1)] : List UInt8).map b8), .blk b1 (.cells (#[.slice a0 n0 c0, .slice none 0 0, ki (1)]) 67 (0, 0)), .blk bk (.cells (#[ki (2), .slice ah 2 hc, .slice none 0 0, .slice none 0 0, .slice none 0 0, .slice none 0 0, .slice none 0 0, .slice none 0 0, .slice none 0 0, .slice none 0 0, .slice none 0 0, .slice none 0 0, .slice none 0 0]) 42 (0, 0)), .sl ah 2 hc 67 3 ([.slice a0 n0 c0, .slice none 0 0, ki (1), .slice a1 n1 c1, .slice none 0 0, ki (2)] : List Value), .sl a1 n1 c1 5 1 ((List.replicate n1 (mkB 2)).map b8)]) (T := []) (E := 5) (j := j) (n := n0) (cap0 := c0) (ad0 := a0) (ad := ad0) (cap := cp0) (v := b8 (mkB 1)) (xs := (List.replicate n0 (mkB 1)).map b8) sl22 el5 rfl rfl rfl rfl (fun w m => m.rd_sl (i := 0) rfl) rfl (by omega) (by omega) (by simp)) rfl trivial rfl ?_
      intro r3
      refine wl_mem (M' := Mem w own (.sl (some ⟨b2, 0, none⟩) 1 1 5 1 (([(mkB 1)] : List UInt8).map b8) :: .blk b1 (.cells (#[.slice a0 n0 c0, .slice none 0 0, ki (1)]) 67 (0, 0)) :: .blk bk (.cells (#[ki (2), .slice ah 2 hc, .slice none 0 0, .slice none 0 0, .slice none 0 0, .slice none 0 0, .slice none 0 0, .slice none 0 0, .slice none 0 0, .slice none 0 0, .slice none 0 0, .slice none 0 0, .slice none 0 0]) 42 (0, 0)) :: .sl ah 2 hc 67 3 ([.slice a0 n0 c0, .slice none 0 0, ki (1), .slice a1 n1 c1, .slice none 0 0, ki (2)] : List Value) :: .sl a1 n1 c1 5 1 ((List.replicate n1 (mkB 2)).map b8) :: (gCh 5 a0 n0 c0 ((List.replicate n0 (mkB 1)).map b8) r3.1 r3.2 (j + 1) (b8 (mkB 1)) ++ []))) (fun _ h => h) ?_
      refine wl_y (y_assign rfl) ?_
      refine wl_nil ?_
      refine aq_blk_normal ?_
      refine aq_seq ?_
      refine wc_region ?_
      refine wl_y (y_move rfl) ?_
      refine wl_y (y_bin rfl rfl (addn_i64 (a := j) (b := 1) (by omega))) ?_
      refine wl_y (y_assign rfl) ?_
      refine wl_nil ?_
      refine aq_loop (⟨(j + 1), r3.1, r3.2⟩) ?_ ?_ ⟨rfl, rfl, rfl, rfl, rfl, rfl, rfl, rfl, rfl, rfl, rfl, rfl, rfl, rfl, rfl, rfl, rfl, rfl, rfl, rfl, rfl, trivial⟩ (fun _ h => (Mem.pickT (A := [_, _, _, _, _]) (B := (gCh 5 a0 n0 c0 ((List.replicate n0 (mkB 1)).map b8) r3.1 r3.2 (j + 1) (b8 (mkB 1)) ++ [])) h (is := [1, 2, 3, 4]) ⟨_, _, rfl, rfl, ⟨_, _, rfl, rfl, ⟨_, _, rfl, rfl, ⟨_, _, rfl, rfl, rfl⟩⟩⟩⟩ (by decide)))
      · omega
      · first | omega | (dsimp only; omega)
    · have hb1 : ¬ ((j : Int) < 40) := by simpa using hc1
      have hie : j = 40 := by omega
      subst hie
      refine wc_exit ?_
      refine aq_thru_exit ?_
      refine aq_thru_exit ?_
      refine aq_blk_exit ?_
      refine aq_seq ?_
      refine wc_region ?_
      refine wl_y (y_move rfl) ?_
      refine wl_y (y_nilCheck rfl) ?_
      refine wl_y (y_fieldAddr fd42_1 sz29 rfl) ?_
      refine wl_y (y_load sc29 rfl (c_blk (i := 1) rfl rfl)) ?_
      refine wl_y (y_move rfl) ?_
      refine wl_y (y_move rfl) ?_
      refine wl_y (y_indexAddr_sl sl29 sz67 rfl rfl (by omega) (by omega) (fun w m => rd_isSome ((m.rd_sl (i := 2) rfl)) (by omega) (by decide)) 0 (by omega)) ?_
      refine wl_y (y_fieldAddr' fd67_1 sz22 rfl) ?_
      refine wl_eff (e_store_slw (xs' := ([.slice a0 n0 c0, .slice (gA n0 c0 40 a0 ad0) (n0 + 40) (gC n0 c0 40 cp0), ki (1), .slice a1 n1 c1, .slice none 0 0, ki (2)] : List Value)) sz22 rfl rfl (i := 2) rfl rfl rfl rfl ⟨_, rfl, ⟨_, rfl, rfl⟩⟩) rfl trivial rfl ?_
      intro _
      refine wl_nil ?_
      refine aq_blk_normal ?_
      refine aq_seq ?_
      refine wc_region ?_
      refine wl_y (y_move rfl) ?_
      refine wl_y (y_bin rfl rfl (show bin .add (ki 0) (ki 1) = some (ki 1) from rfl)) ?_
      refine wl_y (y_assign rfl) ?_
      refine wl_nil ?_
      refine aq_again (wh_round ?_)
      refine wc_seq ?_
      refine wc_seq ?_
      refine wc_region ?_
      refine wl_y (y_move rfl) ?_
      refine wl_y (y_move rfl) ?_
      refine wl_y (y_nilCheck rfl) ?_
      refine wl_y (y_fieldAddr fd42_1 sz29 rfl) ?_
      refine wl_y (y_load sc29 rfl (c_blk (i := 1) rfl rfl)) ?_
      refine wl_y (y_len_sl sl29 (m := 2) rfl rfl) ?_
      refine wl_y (y_bin rfl rfl (show bin .lss (ki 1) (ki 2) = some (kb true) from rfl)) ?_
      refine wl_nil ?_
      refine aq_seq ?_
      refine wc_then rfl ?_
      refine wc_skip ?_
      refine aq_seq ?_
      refine wc_seq ?_
      refine wc_block ?_
      refine wc_seq ?_
      refine wc_region ?_
      refine wl_y (y_move rfl) ?_
      refine wl_y (y_nilCheck rfl) ?_
      refine wl_y (y_fieldAddr fd42_1 sz29 rfl) ?_
      refine wl_y (y_load sc29 rfl (c_blk (i := 1) rfl rfl)) ?_
      refine wl_y (y_move rfl) ?_
      refine wl_y (y_indexAddr_sl sl29 sz67 rfl rfl (by omega) (by omega) (fun w m => rd_isSome ((m.rd_sl (i := 2) rfl)) (by omega) (by decide)) 3 (by omega)) ?_
      refine wl_y (y_loads (cs := [.slice a1 n1 c1, .slice none 0 0, ki (2)]) ag67 rfl rfl (fun w m => c_rdw (k := 3) (m.rd_sl (i := 2) rfl) rfl)) ?_
      refine wl_eff (e_alloc (cs := #[.slice none 0 0, .slice none 0 0, ki (0)]) zn67) rfl trivial rfl ?_
      intro b4
      refine wl_eff (e_storeall sz67 rfl rfl (i := 0) rfl rfl rfl (by simp [Value.oneCell']) rfl) rfl trivial rfl ?_
      intro _
      refine wl_nil ?_
      refine aq_seq ?_
      refine wc_seq ?_
      refine wc_region ?_
      refine wl_mem (M' := Mem w own (.blk b4 (.cells (#[.slice a1 n1 c1, .slice none 0 0, ki (2)]) 67 (0, 0)) :: .blk b1 (.cells (#[.slice a0 n0 c0, .slice none 0 0, ki (1)]) 67 (0, 0)) :: .blk bk (.cells (#[ki (2), .slice ah 2 hc, .slice none 0 0, .slice none 0 0, .slice none 0 0, .slice none 0 0, .slice none 0 0, .slice none 0 0, .slice none 0 0, .slice none 0 0, .slice none 0 0, .slice none 0 0, .slice none 0 0]) 42 (0, 0)) :: .sl ah 2 hc 67 3 ([.slice a0 n0 c0, .slice (gA n0 c0 40 a0 ad0) (n0 + 40) (gC n0 c0 40 cp0), ki (1), .slice a1 n1 c1, .slice none 0 0, ki (2)] : List Value) :: (gCh 5 a1 n1 c1 ((List.replicate n1 (mkB 2)).map b8) none 0 0 (b8 (mkB 2)) ++ (gCh 5 a0 n0 c0 ((List.replicate n0 (mkB 1)).map b8) ad0 cp0 40 (b8 (mkB 1)) ++ [])))) (fun w_ h_ => Mem.g0 (A := [_, _, _, _]) (T := (gCh 5 a0 n0 c0 ((List.replicate n0 (mkB 1)).map b8) ad0 cp0 40 (b8 (mkB 1)) ++ [])) hcp1 h_) ?_
      refine wl_y (y_fieldAddr fd67_0 sz22 rfl) ?_
      refine wl_y (y_load sc22 rfl (c_blk (i := 0) rfl rfl)) ?_
      refine wl_re (t := 23) (v' := .slice (gA n1 c1 0 a1 none) (n1 + 0) (gC n1 c1 0 0)) rfl (by rw [gA_0 hcp1, gC_0 hcp1]; rfl) ?_
      refine wl_y (y_assign rfl) ?_
      refine wl_nil ?_
      refine aq_seq ?_
      refine wc_seq ?_
      refine wc_seq ?_
      refine wc_region ?_
      refine wl_y (y_assign rfl) ?_
      refine wl_nil ?_
      refine aq_seq ?_
      refine wc_block ?_
      refine wc_loop (γ := Nat × Option Addr × Nat) (fun ⟨j, ad1, cp1⟩ => [(0, .pointer (some ⟨bk, 0, none⟩)), (2, ki (1)), (6, ki (1)), (7, .pointer (some ⟨bk, 0, none⟩)), (8, .pointer (some ⟨bk, 0, none⟩)), (9, .pointer (some ⟨bk, 1, none⟩)), (10, .slice ah 2 hc), (11, ki (2)), (12, kb (true)), (15, .pointer (some ⟨bk, 0, none⟩)), (16, .pointer (some ⟨bk, 0, none⟩)), (17, .pointer (some ⟨bk, 1, none⟩)), (18, .slice ah 2 hc), (19, ki (1)), (20, .pointer (some (adr ah (3)))), (21, .agg (#[.slice a1 n1 c1, .slice none 0 0, ki (2)])), (3, .pointer (some ⟨b4, 0, none⟩)), (22, .pointer (some ⟨b4, 0, none⟩)), (23, .slice (gA n1 c1 0 a1 none) (n1 + 0) (gC n1 c1 0 0)), (4, .slice (gA n1 c1 j a1 ad1) (n1 + j) (gC n1 c1 j cp1)), (5, ki ((j : Int))), (34, .pointer (some ⟨bk, 0, none⟩)), (35, .pointer (some ⟨bk, 0, none⟩)), (36, .pointer (some ⟨bk, 1, none⟩)), (37, .slice ah 2 hc), (38, ki (0)), (39, .slice (gA n0 c0 40 a0 ad0) (n0 + 40) (gC n0 c0 40 cp0)), (40, .pointer (some (adr ah (0)))), (41, .pointer (some ((adr ah (0)).add 1))), (13, ki (0)), (14, ki (1))]) (fun ⟨j, ad1, cp1⟩ => Mem w own (.blk b4 (.cells (#[.slice a1 n1 c1, .slice none 0 0, ki (2)]) 67 (0, 0)) :: .blk b1 (.cells (#[.slice a0 n0 c0, .slice none 0 0, ki (1)]) 67 (0, 0)) :: .blk bk (.cells (#[ki (2), .slice ah 2 hc, .slice none 0 0, .slice none 0 0, .slice none 0 0, .slice none 0 0, .slice none 0 0, .slice none 0 0, .slice none 0 0, .slice none 0 0, .slice none 0 0, .slice none 0 0, .slice none 0 0]) 42 (0, 0)) :: .sl ah 2 hc 67 3 ([.slice a0 n0 c0, .slice (gA n0 c0 40 a0 ad0) (n0 + 40) (gC n0 c0 40 cp0), ki (1), .slice a1 n1 c1, .slice none 0 0, ki (2)] : List Value) :: (gCh 5 a1 n1 c1 ((List.replicate n1 (mkB 2)).map b8) ad1 cp1 j (b8 (mkB 2)) ++ (gCh 5 a0 n0 c0 ((List.replicate n0 (mkB 1)).map b8) ad0 cp0 40 (b8 (mkB 1)) ++ [])))) (fun ⟨j, ad1, cp1⟩ => (j ≤ 40)) (fun ⟨j, ad1, cp1⟩ => 40 - j) (⟨0, none, 0⟩) ?_ ⟨rfl, rfl, rfl, rfl, rfl, rfl, rfl, rfl, rfl, rfl, rfl, rfl, rfl, rfl, rfl, rfl, rfl, rfl, rfl, rfl, rfl, rfl, rfl, rfl, rfl, rfl, rfl, rfl, rfl, rfl, rfl, trivial⟩ (fun _ h => h) ?_
      · omega
      · rintro ⟨j, ad1, cp1⟩ hj
        change j ≤ 40 at hj
        refine wc_seq ?_
        refine wc_seq ?_
        refine wc_region ?_
        refine wl_y (y_move rfl) ?_
        refine wl_y (y_bin rfl rfl lss_i64) ?_
        refine wl_nil ?_
        refine aq_seq ?_
        refine wc_if rfl (fun hc2 => ?_) (fun hc2 => ?_)
        · have hb2 : (j : Int) < 40 := by simpa using hc2
          refine wc_skip ?_
          refine aq_seq ?_
          refine wc_seq ?_
          refine wc_block ?_
          refine wc_region ?_
          refine wl_y (y_move rfl) ?_
          refine wl_y (y_fieldAddr fd67_2 sz3 rfl) ?_
          refine wl_y (y_load sc3 rfl (c_blk (i := 0) rfl rfl)) ?_
          refine wl_eff (e_call0 cf61 rfl (fun w m => markByte_ok w 2 (by decide))) rfl trivial rfl ?_
          intro _
          refine wl_eff (e_buildSlice (len := 1) [b8 ((mkB 2))] sl22 el5 rfl rfl rfl (by simp [Value.cells]) (by decide) [b8 ((mkB 2))] rfl) rfl trivial rfl ?_
          intro b5
          refine wl_eff (e_append_g (A := [.sl (some ⟨b5, 0, none⟩) 1 1 5 1 (([(mkB 2)] : List UInt8).map b8), .blk b4 (.cells (#[.slice a1 n1 c1, .slice none 0 0, ki (2)]) 67 (0, 0)), .blk b1 (.cells (#[.slice a0 n0 c0, .slice none 0 0, ki (1)]) 67 (0, 0)), .blk bk (.cells (#[ki (2), .slice ah 2 hc, .slice none 0 0, .slice none 0 0, .slice none 0 0, .slice none 0 0, .slice none 0 0, .slice none 0 0, .slice none 0 0, .slice none 0 0, .slice none 0 0, .slice none 0 0, .slice none 0 0]) 42 (0, 0)), .sl ah 2 hc 67 3 ([.slice a0 n0 c0, .slice (gA n0 c0 40 a0 ad0) (n0 + 40) (gC n0 c0 40 cp0), ki (1), .slice a1 n1 c1, .slice none 0 0, ki (2)] : List Value)]) (T := (gCh 5 a0 n0 c0 ((List.replicate n0 (mkB 1)).map b8) ad0 cp0 40 (b8 (mkB 1)) ++ [])) (E := 5) (j := j) (n := n1) (cap0 := c1) (ad0 := a1) (ad := ad1) (cap := cp1) (v := b8 (mkB 2)) (xs := (List.replicate n1 (mkB 2)).map b8) sl22 el5 rfl rfl rfl rfl (fun w m => m.rd_sl (i := 0) rfl) rfl (by omega) (by omega) (by simp)) rfl trivial rfl ?_
          intro r6
          refine wl_mem (M' := Mem w own (.sl (some ⟨b5, 0, none⟩) 1 1 5 1 (([(mkB 2)] : List UInt8).map b8) :: .blk b4 (.cells (#[.slice a1 n1 c1, .slice none 0 0, ki (2)]) 67 (0, 0)) :: .blk b1 (.cells (#[.slice a0 n0 c0, .slice none 0 0, ki (1)]) 67 (0, 0)) :: .blk bk (.cells (#[ki (2), .slice ah 2 hc, .slice none 0 0, .slice none 0 0, .slice none 0 0, .slice none 0 0, .slice none 0 0, .slice none 0 0, .slice none 0 0, .slice none 0 0, .slice none 0 0, .slice none 0 0, .slice none 0 0]) 42 (0, 0)) :: .sl ah 2 hc 67 3 ([.slice a0 n0 c0, .slice (gA n0 c0 40 a0 ad0) (n0 + 40) (gC n0 c0 40 cp0), ki (1), .slice a1 n1 c1, .slice none 0 0, ki (2)] : List Value) :: (gCh 5 a1 n1 c1 ((List.replicate n1 (mkB 2)).map b8) r6.1 r6.2 (j + 1) (b8 (mkB 2)) ++ (gCh 5 a0 n0 c0 ((List.replicate n0 (mkB 1)).map b8) ad0 cp0 40 (b8 (mkB 1)) ++ [])))) (fun _ h => h) ?_
          refine wl_y (y_assign rfl) ?_
          refine wl_nil ?_
          refine aq_blk_normal ?_
          refine aq_seq ?_
          refine wc_region ?_
          refine wl_y (y_move rfl) ?_
          refine wl_y (y_bin rfl rfl (addn_i64 (a := j) (b := 1) (by omega))) ?_
          refine wl_y (y_assign rfl) ?_
          refine wl_nil ?_
          refine aq_loop (⟨(j + 1), r6.1, r6.2⟩) ?_ ?_ ⟨rfl, rfl, rfl, rfl, rfl, rfl, rfl, rfl, rfl, rfl, rfl, rfl, rfl, rfl, rfl, rfl, rfl, rfl, rfl, rfl, rfl, rfl, rfl, rfl, rfl, rfl, rfl, rfl, rfl, rfl, rfl, trivial⟩ (fun _ h => (Mem.pickT (A := [_, _, _, _, _]) (B := (gCh 5 a1 n1 c1 ((List.replicate n1 (mkB 2)).map b8) r6.1 r6.2 (j + 1) (b8 (mkB 2)) ++ (gCh 5 a0 n0 c0 ((List.replicate n0 (mkB 1)).map b8) ad0 cp0 40 (b8 (mkB 1)) ++ []))) h (is := [1, 2, 3, 4]) ⟨_, _, rfl, rfl, ⟨_, _, rfl, rfl, ⟨_, _, rfl, rfl, ⟨_, _, rfl, rfl, rfl⟩⟩⟩⟩ (by decide)))
          · omega
          · first | omega | (dsimp only; omega)
        · have hb2 : ¬ ((j : Int) < 40) := by simpa using hc2
          have hie : j = 40 := by omega
          subst hie
          refine wc_exit ?_
          refine aq_thru_exit ?_
          refine aq_thru_exit ?_
          refine aq_blk_exit ?_
          refine aq_seq ?_
          refine wc_region ?_
          refine wl_y (y_move rfl) ?_
          refine wl_y (y_nilCheck rfl) ?_
          refine wl_y (y_fieldAddr fd42_1 sz29 rfl) ?_
          refine wl_y (y_load sc29 rfl (c_blk (i := 2) rfl rfl)) ?_
          refine wl_y (y_move rfl) ?_
          refine wl_y (y_move rfl) ?_
          refine wl_y (y_indexAddr_sl sl29 sz67 rfl rfl (by omega) (by omega) (fun w m => rd_isSome ((m.rd_sl (i := 3) rfl)) (by omega) (by decide)) 3 (by omega)) ?_
          refine wl_y (y_fieldAddr' fd67_1 sz22 rfl) ?_
          refine wl_eff (e_store_slw (xs' := ([.slice a0 n0 c0, .slice (gA n0 c0 40 a0 ad0) (n0 + 40) (gC n0 c0 40 cp0), ki (1), .slice a1 n1 c1, .slice (gA n1 c1 40 a1 ad1) (n1 + 40) (gC n1 c1 40 cp1), ki (2)] : List Value)) sz22 rfl rfl (i := 3) rfl rfl rfl rfl ⟨_, rfl, ⟨_, rfl, ⟨_, rfl, rfl⟩⟩⟩) rfl trivial rfl ?_
          intro _
          refine wl_nil ?_
          refine aq_blk_normal ?_
          refine aq_seq ?_
          refine wc_region ?_
          refine wl_y (y_move rfl) ?_
          refine wl_y (y_bin rfl rfl (show bin .add (ki 1) (ki 1) = some (ki 2) from rfl)) ?_
          refine wl_y (y_assign rfl) ?_
          refine wl_nil ?_
          refine aq_again (wh_round ?_)
          refine wc_seq ?_
          refine wc_seq ?_
          refine wc_region ?_
          refine wl_y (y_move rfl) ?_
          refine wl_y (y_move rfl) ?_
          refine wl_y (y_nilCheck rfl) ?_
          refine wl_y (y_fieldAddr fd42_1 sz29 rfl) ?_
          refine wl_y (y_load sc29 rfl (c_blk (i := 2) rfl rfl)) ?_
          refine wl_y (y_len_sl sl29 (m := 2) rfl rfl) ?_
          refine wl_y (y_bin rfl rfl (show bin .lss (ki 2) (ki 2) = some (kb false) from rfl)) ?_
          refine wl_nil ?_
          refine aq_seq ?_
          refine wc_else rfl ?_
          refine wc_exit ?_
          refine aq_thru_exit ?_
          refine aq_thru_exit ?_
          refine aq_blk_exit ?_
          refine aq_return (.inr rfl) rfl (rfl) ?_
          intro w' m
          exact ⟨((ad0, cp0), (ad1, cp1)), rfl, (Mem.pickT (A := [_, _, _, _]) (B := (gCh 5 a1 n1 c1 ((List.replicate n1 (mkB 2)).map b8) ad1 cp1 40 (b8 (mkB 2)) ++ (gCh 5 a0 n0 c0 ((List.replicate n0 (mkB 1)).map b8) ad0 cp0 40 (b8 (mkB 1)) ++ []))) m (is := [2, 3]) ⟨_, _, rfl, rfl, ⟨_, _, rfl, rfl, rfl⟩⟩ (by decide))⟩

end Go.Proofs.YtjibkjoaamchoaaGreatDoor
