/- Lemmas and contracts for the proof of this seat's statements (BkApart2F). No condition. -/
import Derived.Test.YtjibkjoaamchoaaGreatDoorEBk
import Derived.Test.YtjibkjoaamchoaaGreatDoorProg
import Derived.KernelRfl
import Derived.Test.YtjibkjoaamchoaaGreatDoorEPlaA
import Derived.Test.YtjibkjoaamchoaaGreatDoorEBkFill2F
import Derived.Test.YtjibkjoaamchoaaGreatDoorEBkGrow2F
import Derived.Test.YtjibkjoaamchoaaGreatDoorEBkLook2F
import Derived.Test.YtjibkjoaamchoaaGreatDoorEBkNo2F
set_option linter.all false
namespace Go.Proofs.YtjibkjoaamchoaaGreatDoor
open Go.Mc
private theorem cf19 : cfB Tryz.prog 19 = true := by kernel_rfl
private theorem cf20 : cfB Tryz.prog 20 = true := by kernel_rfl
private theorem cf21 : cfB Tryz.prog 21 = true := by kernel_rfl
private theorem cf22 : cfB Tryz.prog 22 = true := by kernel_rfl
private theorem cf23 : cfB Tryz.prog 23 = true := by kernel_rfl
private theorem cf24 : cfB Tryz.prog 24 = true := by kernel_rfl
private theorem cf25 : cfB Tryz.prog 25 = true := by kernel_rfl
private theorem cf26 : cfB Tryz.prog 26 = true := by kernel_rfl
private theorem cf27 : cfB Tryz.prog 27 = true := by kernel_rfl
private theorem cf28 : cfB Tryz.prog 28 = true := by kernel_rfl
private theorem cf29 : cfB Tryz.prog 29 = true := by kernel_rfl
private theorem cf30 : cfB Tryz.prog 30 = true := by kernel_rfl
private theorem cf31 : cfB Tryz.prog 31 = true := by kernel_rfl
private theorem cf32 : cfB Tryz.prog 32 = true := by kernel_rfl
private theorem cf33 : cfB Tryz.prog 33 = true := by kernel_rfl
private theorem cf34 : cfB Tryz.prog 34 = true := by kernel_rfl
private theorem cf35 : cfB Tryz.prog 35 = true := by kernel_rfl
private theorem cf36 : cfB Tryz.prog 36 = true := by kernel_rfl
private theorem cf37 : cfB Tryz.prog 37 = true := by kernel_rfl
private theorem cf38 : cfB Tryz.prog 38 = true := by kernel_rfl
private theorem cf39 : cfB Tryz.prog 39 = true := by kernel_rfl
private theorem cf40 : cfB Tryz.prog 40 = true := by kernel_rfl
private theorem cf41 : cfB Tryz.prog 41 = true := by kernel_rfl
private theorem cf42 : cfB Tryz.prog 42 = true := by kernel_rfl
private theorem cf43 : cfB Tryz.prog 43 = true := by kernel_rfl
private theorem cf44 : cfB Tryz.prog 44 = true := by kernel_rfl
private theorem cf45 : cfB Tryz.prog 45 = true := by kernel_rfl
private theorem cf46 : cfB Tryz.prog 46 = true := by kernel_rfl
private theorem cf47 : cfB Tryz.prog 47 = true := by kernel_rfl
private theorem cf48 : cfB Tryz.prog 48 = true := by kernel_rfl
private theorem cf49 : cfB Tryz.prog 49 = true := by kernel_rfl
private theorem cf50 : cfB Tryz.prog 50 = true := by kernel_rfl
private theorem cf51 : cfB Tryz.prog 51 = true := by kernel_rfl
private theorem cf52 : cfB Tryz.prog 52 = true := by kernel_rfl
private theorem cf53 : cfB Tryz.prog 53 = true := by kernel_rfl
private theorem cf54 : cfB Tryz.prog 54 = true := by kernel_rfl
set_option maxHeartbeats 1000000 in
theorem apart_2 (w : World) (own : List Nat) (bk : Nat) (ah : Option Addr) (hc : Nat) (a0 : Option Addr) (n0 c0 : Nat) (a1 : Option Addr) (n1 c1 : Nat) (x0 : List UInt8) (x1 : List UInt8) (hm : Mem w own [.blk bk (.cells (#[ki (2), .slice ah 2 hc, .slice none 0 0, .slice none 0 0, .slice none 0 0, .slice none 0 0, .slice none 0 0, .slice none 0 0, .slice none 0 0, .slice none 0 0, .slice none 0 0, .slice none 0 0, .slice none 0 0]) 42 (0, 0)), .sl ah 2 hc 67 3 ([.slice a0 n0 c0, .slice none 0 0, ki (1), .slice a1 n1 c1, .slice none 0 0, ki (2)] : List Value), .sl a0 n0 c0 5 1 (x0.map b8), .sl a1 n1 c1 5 1 (x1.map b8)] w) (hb0 : n0 ≤ 140737488351232) (hb1 : n1 ≤ 140737488351232) :
    Calls Tryz.prog 12 #[.pointer (some ⟨bk, 0, none⟩)] w (Ret (fun _ : Unit => kb true) (fun _ => Mem w own [])) := by
  refine calls_of Tryz.func12 rfl rfl (L := [(0, .pointer (some ⟨bk, 0, none⟩))]) ⟨rfl, trivial⟩ (m := 97) (Nat.le_of_ble_eq_true rfl) (M := Mem w own [.blk bk (.cells (#[ki (2), .slice ah 2 hc, .slice none 0 0, .slice none 0 0, .slice none 0 0, .slice none 0 0, .slice none 0 0, .slice none 0 0, .slice none 0 0, .slice none 0 0, .slice none 0 0, .slice none 0 0, .slice none 0 0]) 42 (0, 0)), .sl ah 2 hc 67 3 ([.slice a0 n0 c0, .slice none 0 0, ki (1), .slice a1 n1 c1, .slice none 0 0, ki (2)] : List Value), .sl a0 n0 c0 5 1 (x0.map b8), .sl a1 n1 c1 5 1 (x1.map b8)]) (hm) ?_
  refine wc_seq ?_
  refine wc_region ?_
  refine wl_y (y_assign rfl) ?_
  refine wl_nil ?_
  refine aq_seq ?_
  refine wc_seq ?_
  refine wc_region ?_
  refine wl_y (y_move rfl) ?_
  refine wl_eff (e_callA cf19 rfl (fun w m => fillB_2 w _ bk ah hc a0 n0 c0 a1 n1 c1 x0 x1 (Mem.restart0 m) (by omega) (by omega))) rfl trivial rfl ?_
  intro _
  refine wl_nil ?_
  refine aq_seq ?_
  refine wc_seq ?_
  refine wc_region ?_
  refine wl_y (y_move rfl) ?_
  refine wl_eff (e_callP [.blk bk (.cells (#[ki (2), .slice ah 2 hc, .slice none 0 0, .slice none 0 0, .slice none 0 0, .slice none 0 0, .slice none 0 0, .slice none 0 0, .slice none 0 0, .slice none 0 0, .slice none 0 0, .slice none 0 0, .slice none 0 0]) 42 (0, 0))] [.sl ah 2 hc 67 3 ([.slice a0 n0 c0, .slice none 0 0, ki (1), .slice a1 n1 c1, .slice none 0 0, ki (2)] : List Value), .sl a0 n0 c0 5 1 ((List.replicate n0 (mkB 1)).map b8), .sl a1 n1 c1 5 1 ((List.replicate n1 (mkB 2)).map b8)] cf20 rfl (fun w m => fillNumber_no w _ bk 2 ah 2 hc (Mem.restart (A := [_]) (B := [.sl ah 2 hc 67 3 ([.slice a0 n0 c0, .slice none 0 0, ki (1), .slice a1 n1 c1, .slice none 0 0, ki (2)] : List Value), .sl a0 n0 c0 5 1 ((List.replicate n0 (mkB 1)).map b8), .sl a1 n1 c1 5 1 ((List.replicate n1 (mkB 2)).map b8)]) m))) rfl trivial rfl ?_
  intro _
  refine wl_nil ?_
  refine aq_seq ?_
  refine wc_seq ?_
  refine wc_region ?_
  refine wl_y (y_move rfl) ?_
  refine wl_eff (e_callP [.blk bk (.cells (#[ki (2), .slice ah 2 hc, .slice none 0 0, .slice none 0 0, .slice none 0 0, .slice none 0 0, .slice none 0 0, .slice none 0 0, .slice none 0 0, .slice none 0 0, .slice none 0 0, .slice none 0 0, .slice none 0 0]) 42 (0, 0))] [.sl ah 2 hc 67 3 ([.slice a0 n0 c0, .slice none 0 0, ki (1), .slice a1 n1 c1, .slice none 0 0, ki (2)] : List Value), .sl a0 n0 c0 5 1 ((List.replicate n0 (mkB 1)).map b8), .sl a1 n1 c1 5 1 ((List.replicate n1 (mkB 2)).map b8)] cf21 rfl (fun w m => fillInt_no w _ bk 2 ah 2 hc (Mem.restart (A := [_]) (B := [.sl ah 2 hc 67 3 ([.slice a0 n0 c0, .slice none 0 0, ki (1), .slice a1 n1 c1, .slice none 0 0, ki (2)] : List Value), .sl a0 n0 c0 5 1 ((List.replicate n0 (mkB 1)).map b8), .sl a1 n1 c1 5 1 ((List.replicate n1 (mkB 2)).map b8)]) m))) rfl trivial rfl ?_
  intro _
  refine wl_nil ?_
  refine aq_seq ?_
  refine wc_seq ?_
  refine wc_region ?_
  refine wl_y (y_move rfl) ?_
  refine wl_eff (e_callP [.blk bk (.cells (#[ki (2), .slice ah 2 hc, .slice none 0 0, .slice none 0 0, .slice none 0 0, .slice none 0 0, .slice none 0 0, .slice none 0 0, .slice none 0 0, .slice none 0 0, .slice none 0 0, .slice none 0 0, .slice none 0 0]) 42 (0, 0))] [.sl ah 2 hc 67 3 ([.slice a0 n0 c0, .slice none 0 0, ki (1), .slice a1 n1 c1, .slice none 0 0, ki (2)] : List Value), .sl a0 n0 c0 5 1 ((List.replicate n0 (mkB 1)).map b8), .sl a1 n1 c1 5 1 ((List.replicate n1 (mkB 2)).map b8)] cf22 rfl (fun w m => fillText_no w _ bk 2 ah 2 hc (Mem.restart (A := [_]) (B := [.sl ah 2 hc 67 3 ([.slice a0 n0 c0, .slice none 0 0, ki (1), .slice a1 n1 c1, .slice none 0 0, ki (2)] : List Value), .sl a0 n0 c0 5 1 ((List.replicate n0 (mkB 1)).map b8), .sl a1 n1 c1 5 1 ((List.replicate n1 (mkB 2)).map b8)]) m))) rfl trivial rfl ?_
  intro _
  refine wl_nil ?_
  refine aq_seq ?_
  refine wc_seq ?_
  refine wc_region ?_
  refine wl_y (y_move rfl) ?_
  refine wl_eff (e_callP [.blk bk (.cells (#[ki (2), .slice ah 2 hc, .slice none 0 0, .slice none 0 0, .slice none 0 0, .slice none 0 0, .slice none 0 0, .slice none 0 0, .slice none 0 0, .slice none 0 0, .slice none 0 0, .slice none 0 0, .slice none 0 0]) 42 (0, 0))] [.sl ah 2 hc 67 3 ([.slice a0 n0 c0, .slice none 0 0, ki (1), .slice a1 n1 c1, .slice none 0 0, ki (2)] : List Value), .sl a0 n0 c0 5 1 ((List.replicate n0 (mkB 1)).map b8), .sl a1 n1 c1 5 1 ((List.replicate n1 (mkB 2)).map b8)] cf23 rfl (fun w m => fillBlob_no w _ bk 2 ah 2 hc (Mem.restart (A := [_]) (B := [.sl ah 2 hc 67 3 ([.slice a0 n0 c0, .slice none 0 0, ki (1), .slice a1 n1 c1, .slice none 0 0, ki (2)] : List Value), .sl a0 n0 c0 5 1 ((List.replicate n0 (mkB 1)).map b8), .sl a1 n1 c1 5 1 ((List.replicate n1 (mkB 2)).map b8)]) m))) rfl trivial rfl ?_
  intro _
  refine wl_nil ?_
  refine aq_seq ?_
  refine wc_seq ?_
  refine wc_region ?_
  refine wl_y (y_move rfl) ?_
  refine wl_eff (e_callP [.blk bk (.cells (#[ki (2), .slice ah 2 hc, .slice none 0 0, .slice none 0 0, .slice none 0 0, .slice none 0 0, .slice none 0 0, .slice none 0 0, .slice none 0 0, .slice none 0 0, .slice none 0 0, .slice none 0 0, .slice none 0 0]) 42 (0, 0))] [.sl ah 2 hc 67 3 ([.slice a0 n0 c0, .slice none 0 0, ki (1), .slice a1 n1 c1, .slice none 0 0, ki (2)] : List Value), .sl a0 n0 c0 5 1 ((List.replicate n0 (mkB 1)).map b8), .sl a1 n1 c1 5 1 ((List.replicate n1 (mkB 2)).map b8)] cf24 rfl (fun w m => fillRange_no w _ bk 2 ah 2 hc (Mem.restart (A := [_]) (B := [.sl ah 2 hc 67 3 ([.slice a0 n0 c0, .slice none 0 0, ki (1), .slice a1 n1 c1, .slice none 0 0, ki (2)] : List Value), .sl a0 n0 c0 5 1 ((List.replicate n0 (mkB 1)).map b8), .sl a1 n1 c1 5 1 ((List.replicate n1 (mkB 2)).map b8)]) m))) rfl trivial rfl ?_
  intro _
  refine wl_nil ?_
  refine aq_seq ?_
  refine wc_seq ?_
  refine wc_region ?_
  refine wl_y (y_move rfl) ?_
  refine wl_eff (e_callP [.blk bk (.cells (#[ki (2), .slice ah 2 hc, .slice none 0 0, .slice none 0 0, .slice none 0 0, .slice none 0 0, .slice none 0 0, .slice none 0 0, .slice none 0 0, .slice none 0 0, .slice none 0 0, .slice none 0 0, .slice none 0 0]) 42 (0, 0))] [.sl ah 2 hc 67 3 ([.slice a0 n0 c0, .slice none 0 0, ki (1), .slice a1 n1 c1, .slice none 0 0, ki (2)] : List Value), .sl a0 n0 c0 5 1 ((List.replicate n0 (mkB 1)).map b8), .sl a1 n1 c1 5 1 ((List.replicate n1 (mkB 2)).map b8)] cf25 rfl (fun w m => fillFrame_no w _ bk 2 ah 2 hc (Mem.restart (A := [_]) (B := [.sl ah 2 hc 67 3 ([.slice a0 n0 c0, .slice none 0 0, ki (1), .slice a1 n1 c1, .slice none 0 0, ki (2)] : List Value), .sl a0 n0 c0 5 1 ((List.replicate n0 (mkB 1)).map b8), .sl a1 n1 c1 5 1 ((List.replicate n1 (mkB 2)).map b8)]) m))) rfl trivial rfl ?_
  intro _
  refine wl_nil ?_
  refine aq_seq ?_
  refine wc_seq ?_
  refine wc_region ?_
  refine wl_y (y_move rfl) ?_
  refine wl_eff (e_callP [.blk bk (.cells (#[ki (2), .slice ah 2 hc, .slice none 0 0, .slice none 0 0, .slice none 0 0, .slice none 0 0, .slice none 0 0, .slice none 0 0, .slice none 0 0, .slice none 0 0, .slice none 0 0, .slice none 0 0, .slice none 0 0]) 42 (0, 0))] [.sl ah 2 hc 67 3 ([.slice a0 n0 c0, .slice none 0 0, ki (1), .slice a1 n1 c1, .slice none 0 0, ki (2)] : List Value), .sl a0 n0 c0 5 1 ((List.replicate n0 (mkB 1)).map b8), .sl a1 n1 c1 5 1 ((List.replicate n1 (mkB 2)).map b8)] cf26 rfl (fun w m => fillField_no w _ bk 2 ah 2 hc (Mem.restart (A := [_]) (B := [.sl ah 2 hc 67 3 ([.slice a0 n0 c0, .slice none 0 0, ki (1), .slice a1 n1 c1, .slice none 0 0, ki (2)] : List Value), .sl a0 n0 c0 5 1 ((List.replicate n0 (mkB 1)).map b8), .sl a1 n1 c1 5 1 ((List.replicate n1 (mkB 2)).map b8)]) m))) rfl trivial rfl ?_
  intro _
  refine wl_nil ?_
  refine aq_seq ?_
  refine wc_seq ?_
  refine wc_region ?_
  refine wl_y (y_move rfl) ?_
  refine wl_eff (e_callP [.blk bk (.cells (#[ki (2), .slice ah 2 hc, .slice none 0 0, .slice none 0 0, .slice none 0 0, .slice none 0 0, .slice none 0 0, .slice none 0 0, .slice none 0 0, .slice none 0 0, .slice none 0 0, .slice none 0 0, .slice none 0 0]) 42 (0, 0))] [.sl ah 2 hc 67 3 ([.slice a0 n0 c0, .slice none 0 0, ki (1), .slice a1 n1 c1, .slice none 0 0, ki (2)] : List Value), .sl a0 n0 c0 5 1 ((List.replicate n0 (mkB 1)).map b8), .sl a1 n1 c1 5 1 ((List.replicate n1 (mkB 2)).map b8)] cf27 rfl (fun w m => fillMessage_no w _ bk 2 ah 2 hc (Mem.restart (A := [_]) (B := [.sl ah 2 hc 67 3 ([.slice a0 n0 c0, .slice none 0 0, ki (1), .slice a1 n1 c1, .slice none 0 0, ki (2)] : List Value), .sl a0 n0 c0 5 1 ((List.replicate n0 (mkB 1)).map b8), .sl a1 n1 c1 5 1 ((List.replicate n1 (mkB 2)).map b8)]) m))) rfl trivial rfl ?_
  intro _
  refine wl_nil ?_
  refine aq_seq ?_
  refine wc_seq ?_
  refine wc_region ?_
  refine wl_y (y_move rfl) ?_
  refine wl_eff (e_callP [.blk bk (.cells (#[ki (2), .slice ah 2 hc, .slice none 0 0, .slice none 0 0, .slice none 0 0, .slice none 0 0, .slice none 0 0, .slice none 0 0, .slice none 0 0, .slice none 0 0, .slice none 0 0, .slice none 0 0, .slice none 0 0]) 42 (0, 0))] [.sl ah 2 hc 67 3 ([.slice a0 n0 c0, .slice none 0 0, ki (1), .slice a1 n1 c1, .slice none 0 0, ki (2)] : List Value), .sl a0 n0 c0 5 1 ((List.replicate n0 (mkB 1)).map b8), .sl a1 n1 c1 5 1 ((List.replicate n1 (mkB 2)).map b8)] cf28 rfl (fun w m => fillRule_no w _ bk 2 ah 2 hc (Mem.restart (A := [_]) (B := [.sl ah 2 hc 67 3 ([.slice a0 n0 c0, .slice none 0 0, ki (1), .slice a1 n1 c1, .slice none 0 0, ki (2)] : List Value), .sl a0 n0 c0 5 1 ((List.replicate n0 (mkB 1)).map b8), .sl a1 n1 c1 5 1 ((List.replicate n1 (mkB 2)).map b8)]) m))) rfl trivial rfl ?_
  intro _
  refine wl_nil ?_
  refine aq_seq ?_
  refine wc_seq ?_
  refine wc_region ?_
  refine wl_y (y_move rfl) ?_
  refine wl_eff (e_callP [.blk bk (.cells (#[ki (2), .slice ah 2 hc, .slice none 0 0, .slice none 0 0, .slice none 0 0, .slice none 0 0, .slice none 0 0, .slice none 0 0, .slice none 0 0, .slice none 0 0, .slice none 0 0, .slice none 0 0, .slice none 0 0]) 42 (0, 0))] [.sl ah 2 hc 67 3 ([.slice a0 n0 c0, .slice none 0 0, ki (1), .slice a1 n1 c1, .slice none 0 0, ki (2)] : List Value), .sl a0 n0 c0 5 1 ((List.replicate n0 (mkB 1)).map b8), .sl a1 n1 c1 5 1 ((List.replicate n1 (mkB 2)).map b8)] cf29 rfl (fun w m => fillEvent_no w _ bk 2 ah 2 hc (Mem.restart (A := [_]) (B := [.sl ah 2 hc 67 3 ([.slice a0 n0 c0, .slice none 0 0, ki (1), .slice a1 n1 c1, .slice none 0 0, ki (2)] : List Value), .sl a0 n0 c0 5 1 ((List.replicate n0 (mkB 1)).map b8), .sl a1 n1 c1 5 1 ((List.replicate n1 (mkB 2)).map b8)]) m))) rfl trivial rfl ?_
  intro _
  refine wl_nil ?_
  refine aq_seq ?_
  refine wc_seq ?_
  refine wc_region ?_
  refine wl_y (y_move rfl) ?_
  refine wl_eff (e_callP [.blk bk (.cells (#[ki (2), .slice ah 2 hc, .slice none 0 0, .slice none 0 0, .slice none 0 0, .slice none 0 0, .slice none 0 0, .slice none 0 0, .slice none 0 0, .slice none 0 0, .slice none 0 0, .slice none 0 0, .slice none 0 0]) 42 (0, 0))] [.sl ah 2 hc 67 3 ([.slice a0 n0 c0, .slice none 0 0, ki (1), .slice a1 n1 c1, .slice none 0 0, ki (2)] : List Value), .sl a0 n0 c0 5 1 ((List.replicate n0 (mkB 1)).map b8), .sl a1 n1 c1 5 1 ((List.replicate n1 (mkB 2)).map b8)] cf30 rfl (fun w m => fillReply_no w _ bk 2 ah 2 hc (Mem.restart (A := [_]) (B := [.sl ah 2 hc 67 3 ([.slice a0 n0 c0, .slice none 0 0, ki (1), .slice a1 n1 c1, .slice none 0 0, ki (2)] : List Value), .sl a0 n0 c0 5 1 ((List.replicate n0 (mkB 1)).map b8), .sl a1 n1 c1 5 1 ((List.replicate n1 (mkB 2)).map b8)]) m))) rfl trivial rfl ?_
  intro _
  refine wl_nil ?_
  refine aq_seq ?_
  refine wc_seq ?_
  refine wc_region ?_
  refine wl_y (y_move rfl) ?_
  refine wl_eff (e_callA cf31 rfl (fun w m => growB_2 w _ bk ah hc a0 n0 c0 a1 n1 c1 (Mem.restart0 m) (by omega) (by omega))) rfl trivial rfl ?_
  intro r1
  refine wl_nil ?_
  refine aq_seq ?_
  refine wc_seq ?_
  refine wc_region ?_
  refine wl_y (y_move rfl) ?_
  refine wl_eff (e_callP [.blk bk (.cells (#[ki (2), .slice ah 2 hc, .slice none 0 0, .slice none 0 0, .slice none 0 0, .slice none 0 0, .slice none 0 0, .slice none 0 0, .slice none 0 0, .slice none 0 0, .slice none 0 0, .slice none 0 0, .slice none 0 0]) 42 (0, 0))] (.sl ah 2 hc 67 3 ([.slice a0 n0 c0, .slice (gA n0 c0 40 a0 (r1.1.1)) (n0 + 40) (gC n0 c0 40 (r1.1.2)), ki (1), .slice a1 n1 c1, .slice (gA n1 c1 40 a1 (r1.2.1)) (n1 + 40) (gC n1 c1 40 (r1.2.2)), ki (2)] : List Value) :: (gCh 5 a1 n1 c1 ((List.replicate n1 (mkB 2)).map b8) (r1.2.1) (r1.2.2) 40 (b8 (mkB 2)) ++ (gCh 5 a0 n0 c0 ((List.replicate n0 (mkB 1)).map b8) (r1.1.1) (r1.1.2) 40 (b8 (mkB 1)) ++ []))) cf32 rfl (fun w m => growNumber_no w _ bk 2 ah 2 hc (Mem.restart (A := [_]) (B := (.sl ah 2 hc 67 3 ([.slice a0 n0 c0, .slice (gA n0 c0 40 a0 (r1.1.1)) (n0 + 40) (gC n0 c0 40 (r1.1.2)), ki (1), .slice a1 n1 c1, .slice (gA n1 c1 40 a1 (r1.2.1)) (n1 + 40) (gC n1 c1 40 (r1.2.2)), ki (2)] : List Value) :: (gCh 5 a1 n1 c1 ((List.replicate n1 (mkB 2)).map b8) (r1.2.1) (r1.2.2) 40 (b8 (mkB 2)) ++ (gCh 5 a0 n0 c0 ((List.replicate n0 (mkB 1)).map b8) (r1.1.1) (r1.1.2) 40 (b8 (mkB 1)) ++ [])))) m))) rfl trivial rfl ?_
  intro _
  refine wl_nil ?_
  refine aq_seq ?_
  refine wc_seq ?_
  refine wc_region ?_
  refine wl_y (y_move rfl) ?_
  refine wl_eff (e_callP [.blk bk (.cells (#[ki (2), .slice ah 2 hc, .slice none 0 0, .slice none 0 0, .slice none 0 0, .slice none 0 0, .slice none 0 0, .slice none 0 0, .slice none 0 0, .slice none 0 0, .slice none 0 0, .slice none 0 0, .slice none 0 0]) 42 (0, 0))] (.sl ah 2 hc 67 3 ([.slice a0 n0 c0, .slice (gA n0 c0 40 a0 (r1.1.1)) (n0 + 40) (gC n0 c0 40 (r1.1.2)), ki (1), .slice a1 n1 c1, .slice (gA n1 c1 40 a1 (r1.2.1)) (n1 + 40) (gC n1 c1 40 (r1.2.2)), ki (2)] : List Value) :: (gCh 5 a1 n1 c1 ((List.replicate n1 (mkB 2)).map b8) (r1.2.1) (r1.2.2) 40 (b8 (mkB 2)) ++ (gCh 5 a0 n0 c0 ((List.replicate n0 (mkB 1)).map b8) (r1.1.1) (r1.1.2) 40 (b8 (mkB 1)) ++ []))) cf33 rfl (fun w m => growInt_no w _ bk 2 ah 2 hc (Mem.restart (A := [_]) (B := (.sl ah 2 hc 67 3 ([.slice a0 n0 c0, .slice (gA n0 c0 40 a0 (r1.1.1)) (n0 + 40) (gC n0 c0 40 (r1.1.2)), ki (1), .slice a1 n1 c1, .slice (gA n1 c1 40 a1 (r1.2.1)) (n1 + 40) (gC n1 c1 40 (r1.2.2)), ki (2)] : List Value) :: (gCh 5 a1 n1 c1 ((List.replicate n1 (mkB 2)).map b8) (r1.2.1) (r1.2.2) 40 (b8 (mkB 2)) ++ (gCh 5 a0 n0 c0 ((List.replicate n0 (mkB 1)).map b8) (r1.1.1) (r1.1.2) 40 (b8 (mkB 1)) ++ [])))) m))) rfl trivial rfl ?_
  intro _
  refine wl_nil ?_
  refine aq_seq ?_
  refine wc_seq ?_
  refine wc_region ?_
  refine wl_y (y_move rfl) ?_
  refine wl_eff (e_callP [.blk bk (.cells (#[ki (2), .slice ah 2 hc, .slice none 0 0, .slice none 0 0, .slice none 0 0, .slice none 0 0, .slice none 0 0, .slice none 0 0, .slice none 0 0, .slice none 0 0, .slice none 0 0, .slice none 0 0, .slice none 0 0]) 42 (0, 0))] (.sl ah 2 hc 67 3 ([.slice a0 n0 c0, .slice (gA n0 c0 40 a0 (r1.1.1)) (n0 + 40) (gC n0 c0 40 (r1.1.2)), ki (1), .slice a1 n1 c1, .slice (gA n1 c1 40 a1 (r1.2.1)) (n1 + 40) (gC n1 c1 40 (r1.2.2)), ki (2)] : List Value) :: (gCh 5 a1 n1 c1 ((List.replicate n1 (mkB 2)).map b8) (r1.2.1) (r1.2.2) 40 (b8 (mkB 2)) ++ (gCh 5 a0 n0 c0 ((List.replicate n0 (mkB 1)).map b8) (r1.1.1) (r1.1.2) 40 (b8 (mkB 1)) ++ []))) cf34 rfl (fun w m => growText_no w _ bk 2 ah 2 hc (Mem.restart (A := [_]) (B := (.sl ah 2 hc 67 3 ([.slice a0 n0 c0, .slice (gA n0 c0 40 a0 (r1.1.1)) (n0 + 40) (gC n0 c0 40 (r1.1.2)), ki (1), .slice a1 n1 c1, .slice (gA n1 c1 40 a1 (r1.2.1)) (n1 + 40) (gC n1 c1 40 (r1.2.2)), ki (2)] : List Value) :: (gCh 5 a1 n1 c1 ((List.replicate n1 (mkB 2)).map b8) (r1.2.1) (r1.2.2) 40 (b8 (mkB 2)) ++ (gCh 5 a0 n0 c0 ((List.replicate n0 (mkB 1)).map b8) (r1.1.1) (r1.1.2) 40 (b8 (mkB 1)) ++ [])))) m))) rfl trivial rfl ?_
  intro _
  refine wl_nil ?_
  refine aq_seq ?_
  refine wc_seq ?_
  refine wc_region ?_
  refine wl_y (y_move rfl) ?_
  refine wl_eff (e_callP [.blk bk (.cells (#[ki (2), .slice ah 2 hc, .slice none 0 0, .slice none 0 0, .slice none 0 0, .slice none 0 0, .slice none 0 0, .slice none 0 0, .slice none 0 0, .slice none 0 0, .slice none 0 0, .slice none 0 0, .slice none 0 0]) 42 (0, 0))] (.sl ah 2 hc 67 3 ([.slice a0 n0 c0, .slice (gA n0 c0 40 a0 (r1.1.1)) (n0 + 40) (gC n0 c0 40 (r1.1.2)), ki (1), .slice a1 n1 c1, .slice (gA n1 c1 40 a1 (r1.2.1)) (n1 + 40) (gC n1 c1 40 (r1.2.2)), ki (2)] : List Value) :: (gCh 5 a1 n1 c1 ((List.replicate n1 (mkB 2)).map b8) (r1.2.1) (r1.2.2) 40 (b8 (mkB 2)) ++ (gCh 5 a0 n0 c0 ((List.replicate n0 (mkB 1)).map b8) (r1.1.1) (r1.1.2) 40 (b8 (mkB 1)) ++ []))) cf35 rfl (fun w m => growBlob_no w _ bk 2 ah 2 hc (Mem.restart (A := [_]) (B := (.sl ah 2 hc 67 3 ([.slice a0 n0 c0, .slice (gA n0 c0 40 a0 (r1.1.1)) (n0 + 40) (gC n0 c0 40 (r1.1.2)), ki (1), .slice a1 n1 c1, .slice (gA n1 c1 40 a1 (r1.2.1)) (n1 + 40) (gC n1 c1 40 (r1.2.2)), ki (2)] : List Value) :: (gCh 5 a1 n1 c1 ((List.replicate n1 (mkB 2)).map b8) (r1.2.1) (r1.2.2) 40 (b8 (mkB 2)) ++ (gCh 5 a0 n0 c0 ((List.replicate n0 (mkB 1)).map b8) (r1.1.1) (r1.1.2) 40 (b8 (mkB 1)) ++ [])))) m))) rfl trivial rfl ?_
  intro _
  refine wl_nil ?_
  refine aq_seq ?_
  refine wc_seq ?_
  refine wc_region ?_
  refine wl_y (y_move rfl) ?_
  refine wl_eff (e_callP [.blk bk (.cells (#[ki (2), .slice ah 2 hc, .slice none 0 0, .slice none 0 0, .slice none 0 0, .slice none 0 0, .slice none 0 0, .slice none 0 0, .slice none 0 0, .slice none 0 0, .slice none 0 0, .slice none 0 0, .slice none 0 0]) 42 (0, 0))] (.sl ah 2 hc 67 3 ([.slice a0 n0 c0, .slice (gA n0 c0 40 a0 (r1.1.1)) (n0 + 40) (gC n0 c0 40 (r1.1.2)), ki (1), .slice a1 n1 c1, .slice (gA n1 c1 40 a1 (r1.2.1)) (n1 + 40) (gC n1 c1 40 (r1.2.2)), ki (2)] : List Value) :: (gCh 5 a1 n1 c1 ((List.replicate n1 (mkB 2)).map b8) (r1.2.1) (r1.2.2) 40 (b8 (mkB 2)) ++ (gCh 5 a0 n0 c0 ((List.replicate n0 (mkB 1)).map b8) (r1.1.1) (r1.1.2) 40 (b8 (mkB 1)) ++ []))) cf36 rfl (fun w m => growRange_no w _ bk 2 ah 2 hc (Mem.restart (A := [_]) (B := (.sl ah 2 hc 67 3 ([.slice a0 n0 c0, .slice (gA n0 c0 40 a0 (r1.1.1)) (n0 + 40) (gC n0 c0 40 (r1.1.2)), ki (1), .slice a1 n1 c1, .slice (gA n1 c1 40 a1 (r1.2.1)) (n1 + 40) (gC n1 c1 40 (r1.2.2)), ki (2)] : List Value) :: (gCh 5 a1 n1 c1 ((List.replicate n1 (mkB 2)).map b8) (r1.2.1) (r1.2.2) 40 (b8 (mkB 2)) ++ (gCh 5 a0 n0 c0 ((List.replicate n0 (mkB 1)).map b8) (r1.1.1) (r1.1.2) 40 (b8 (mkB 1)) ++ [])))) m))) rfl trivial rfl ?_
  intro _
  refine wl_nil ?_
  refine aq_seq ?_
  refine wc_seq ?_
  refine wc_region ?_
  refine wl_y (y_move rfl) ?_
  refine wl_eff (e_callP [.blk bk (.cells (#[ki (2), .slice ah 2 hc, .slice none 0 0, .slice none 0 0, .slice none 0 0, .slice none 0 0, .slice none 0 0, .slice none 0 0, .slice none 0 0, .slice none 0 0, .slice none 0 0, .slice none 0 0, .slice none 0 0]) 42 (0, 0))] (.sl ah 2 hc 67 3 ([.slice a0 n0 c0, .slice (gA n0 c0 40 a0 (r1.1.1)) (n0 + 40) (gC n0 c0 40 (r1.1.2)), ki (1), .slice a1 n1 c1, .slice (gA n1 c1 40 a1 (r1.2.1)) (n1 + 40) (gC n1 c1 40 (r1.2.2)), ki (2)] : List Value) :: (gCh 5 a1 n1 c1 ((List.replicate n1 (mkB 2)).map b8) (r1.2.1) (r1.2.2) 40 (b8 (mkB 2)) ++ (gCh 5 a0 n0 c0 ((List.replicate n0 (mkB 1)).map b8) (r1.1.1) (r1.1.2) 40 (b8 (mkB 1)) ++ []))) cf37 rfl (fun w m => growFrame_no w _ bk 2 ah 2 hc (Mem.restart (A := [_]) (B := (.sl ah 2 hc 67 3 ([.slice a0 n0 c0, .slice (gA n0 c0 40 a0 (r1.1.1)) (n0 + 40) (gC n0 c0 40 (r1.1.2)), ki (1), .slice a1 n1 c1, .slice (gA n1 c1 40 a1 (r1.2.1)) (n1 + 40) (gC n1 c1 40 (r1.2.2)), ki (2)] : List Value) :: (gCh 5 a1 n1 c1 ((List.replicate n1 (mkB 2)).map b8) (r1.2.1) (r1.2.2) 40 (b8 (mkB 2)) ++ (gCh 5 a0 n0 c0 ((List.replicate n0 (mkB 1)).map b8) (r1.1.1) (r1.1.2) 40 (b8 (mkB 1)) ++ [])))) m))) rfl trivial rfl ?_
  intro _
  refine wl_nil ?_
  refine aq_seq ?_
  refine wc_seq ?_
  refine wc_region ?_
  refine wl_y (y_move rfl) ?_
  refine wl_eff (e_callP [.blk bk (.cells (#[ki (2), .slice ah 2 hc, .slice none 0 0, .slice none 0 0, .slice none 0 0, .slice none 0 0, .slice none 0 0, .slice none 0 0, .slice none 0 0, .slice none 0 0, .slice none 0 0, .slice none 0 0, .slice none 0 0]) 42 (0, 0))] (.sl ah 2 hc 67 3 ([.slice a0 n0 c0, .slice (gA n0 c0 40 a0 (r1.1.1)) (n0 + 40) (gC n0 c0 40 (r1.1.2)), ki (1), .slice a1 n1 c1, .slice (gA n1 c1 40 a1 (r1.2.1)) (n1 + 40) (gC n1 c1 40 (r1.2.2)), ki (2)] : List Value) :: (gCh 5 a1 n1 c1 ((List.replicate n1 (mkB 2)).map b8) (r1.2.1) (r1.2.2) 40 (b8 (mkB 2)) ++ (gCh 5 a0 n0 c0 ((List.replicate n0 (mkB 1)).map b8) (r1.1.1) (r1.1.2) 40 (b8 (mkB 1)) ++ []))) cf38 rfl (fun w m => growField_no w _ bk 2 ah 2 hc (Mem.restart (A := [_]) (B := (.sl ah 2 hc 67 3 ([.slice a0 n0 c0, .slice (gA n0 c0 40 a0 (r1.1.1)) (n0 + 40) (gC n0 c0 40 (r1.1.2)), ki (1), .slice a1 n1 c1, .slice (gA n1 c1 40 a1 (r1.2.1)) (n1 + 40) (gC n1 c1 40 (r1.2.2)), ki (2)] : List Value) :: (gCh 5 a1 n1 c1 ((List.replicate n1 (mkB 2)).map b8) (r1.2.1) (r1.2.2) 40 (b8 (mkB 2)) ++ (gCh 5 a0 n0 c0 ((List.replicate n0 (mkB 1)).map b8) (r1.1.1) (r1.1.2) 40 (b8 (mkB 1)) ++ [])))) m))) rfl trivial rfl ?_
  intro _
  refine wl_nil ?_
  refine aq_seq ?_
  refine wc_seq ?_
  refine wc_region ?_
  refine wl_y (y_move rfl) ?_
  refine wl_eff (e_callP [.blk bk (.cells (#[ki (2), .slice ah 2 hc, .slice none 0 0, .slice none 0 0, .slice none 0 0, .slice none 0 0, .slice none 0 0, .slice none 0 0, .slice none 0 0, .slice none 0 0, .slice none 0 0, .slice none 0 0, .slice none 0 0]) 42 (0, 0))] (.sl ah 2 hc 67 3 ([.slice a0 n0 c0, .slice (gA n0 c0 40 a0 (r1.1.1)) (n0 + 40) (gC n0 c0 40 (r1.1.2)), ki (1), .slice a1 n1 c1, .slice (gA n1 c1 40 a1 (r1.2.1)) (n1 + 40) (gC n1 c1 40 (r1.2.2)), ki (2)] : List Value) :: (gCh 5 a1 n1 c1 ((List.replicate n1 (mkB 2)).map b8) (r1.2.1) (r1.2.2) 40 (b8 (mkB 2)) ++ (gCh 5 a0 n0 c0 ((List.replicate n0 (mkB 1)).map b8) (r1.1.1) (r1.1.2) 40 (b8 (mkB 1)) ++ []))) cf39 rfl (fun w m => growMessage_no w _ bk 2 ah 2 hc (Mem.restart (A := [_]) (B := (.sl ah 2 hc 67 3 ([.slice a0 n0 c0, .slice (gA n0 c0 40 a0 (r1.1.1)) (n0 + 40) (gC n0 c0 40 (r1.1.2)), ki (1), .slice a1 n1 c1, .slice (gA n1 c1 40 a1 (r1.2.1)) (n1 + 40) (gC n1 c1 40 (r1.2.2)), ki (2)] : List Value) :: (gCh 5 a1 n1 c1 ((List.replicate n1 (mkB 2)).map b8) (r1.2.1) (r1.2.2) 40 (b8 (mkB 2)) ++ (gCh 5 a0 n0 c0 ((List.replicate n0 (mkB 1)).map b8) (r1.1.1) (r1.1.2) 40 (b8 (mkB 1)) ++ [])))) m))) rfl trivial rfl ?_
  intro _
  refine wl_nil ?_
  refine aq_seq ?_
  refine wc_seq ?_
  refine wc_region ?_
  refine wl_y (y_move rfl) ?_
  refine wl_eff (e_callP [.blk bk (.cells (#[ki (2), .slice ah 2 hc, .slice none 0 0, .slice none 0 0, .slice none 0 0, .slice none 0 0, .slice none 0 0, .slice none 0 0, .slice none 0 0, .slice none 0 0, .slice none 0 0, .slice none 0 0, .slice none 0 0]) 42 (0, 0))] (.sl ah 2 hc 67 3 ([.slice a0 n0 c0, .slice (gA n0 c0 40 a0 (r1.1.1)) (n0 + 40) (gC n0 c0 40 (r1.1.2)), ki (1), .slice a1 n1 c1, .slice (gA n1 c1 40 a1 (r1.2.1)) (n1 + 40) (gC n1 c1 40 (r1.2.2)), ki (2)] : List Value) :: (gCh 5 a1 n1 c1 ((List.replicate n1 (mkB 2)).map b8) (r1.2.1) (r1.2.2) 40 (b8 (mkB 2)) ++ (gCh 5 a0 n0 c0 ((List.replicate n0 (mkB 1)).map b8) (r1.1.1) (r1.1.2) 40 (b8 (mkB 1)) ++ []))) cf40 rfl (fun w m => growRule_no w _ bk 2 ah 2 hc (Mem.restart (A := [_]) (B := (.sl ah 2 hc 67 3 ([.slice a0 n0 c0, .slice (gA n0 c0 40 a0 (r1.1.1)) (n0 + 40) (gC n0 c0 40 (r1.1.2)), ki (1), .slice a1 n1 c1, .slice (gA n1 c1 40 a1 (r1.2.1)) (n1 + 40) (gC n1 c1 40 (r1.2.2)), ki (2)] : List Value) :: (gCh 5 a1 n1 c1 ((List.replicate n1 (mkB 2)).map b8) (r1.2.1) (r1.2.2) 40 (b8 (mkB 2)) ++ (gCh 5 a0 n0 c0 ((List.replicate n0 (mkB 1)).map b8) (r1.1.1) (r1.1.2) 40 (b8 (mkB 1)) ++ [])))) m))) rfl trivial rfl ?_
  intro _
  refine wl_nil ?_
  refine aq_seq ?_
  refine wc_seq ?_
  refine wc_region ?_
  refine wl_y (y_move rfl) ?_
  refine wl_eff (e_callP [.blk bk (.cells (#[ki (2), .slice ah 2 hc, .slice none 0 0, .slice none 0 0, .slice none 0 0, .slice none 0 0, .slice none 0 0, .slice none 0 0, .slice none 0 0, .slice none 0 0, .slice none 0 0, .slice none 0 0, .slice none 0 0]) 42 (0, 0))] (.sl ah 2 hc 67 3 ([.slice a0 n0 c0, .slice (gA n0 c0 40 a0 (r1.1.1)) (n0 + 40) (gC n0 c0 40 (r1.1.2)), ki (1), .slice a1 n1 c1, .slice (gA n1 c1 40 a1 (r1.2.1)) (n1 + 40) (gC n1 c1 40 (r1.2.2)), ki (2)] : List Value) :: (gCh 5 a1 n1 c1 ((List.replicate n1 (mkB 2)).map b8) (r1.2.1) (r1.2.2) 40 (b8 (mkB 2)) ++ (gCh 5 a0 n0 c0 ((List.replicate n0 (mkB 1)).map b8) (r1.1.1) (r1.1.2) 40 (b8 (mkB 1)) ++ []))) cf41 rfl (fun w m => growEvent_no w _ bk 2 ah 2 hc (Mem.restart (A := [_]) (B := (.sl ah 2 hc 67 3 ([.slice a0 n0 c0, .slice (gA n0 c0 40 a0 (r1.1.1)) (n0 + 40) (gC n0 c0 40 (r1.1.2)), ki (1), .slice a1 n1 c1, .slice (gA n1 c1 40 a1 (r1.2.1)) (n1 + 40) (gC n1 c1 40 (r1.2.2)), ki (2)] : List Value) :: (gCh 5 a1 n1 c1 ((List.replicate n1 (mkB 2)).map b8) (r1.2.1) (r1.2.2) 40 (b8 (mkB 2)) ++ (gCh 5 a0 n0 c0 ((List.replicate n0 (mkB 1)).map b8) (r1.1.1) (r1.1.2) 40 (b8 (mkB 1)) ++ [])))) m))) rfl trivial rfl ?_
  intro _
  refine wl_nil ?_
  refine aq_seq ?_
  refine wc_seq ?_
  refine wc_region ?_
  refine wl_y (y_move rfl) ?_
  refine wl_eff (e_callP [.blk bk (.cells (#[ki (2), .slice ah 2 hc, .slice none 0 0, .slice none 0 0, .slice none 0 0, .slice none 0 0, .slice none 0 0, .slice none 0 0, .slice none 0 0, .slice none 0 0, .slice none 0 0, .slice none 0 0, .slice none 0 0]) 42 (0, 0))] (.sl ah 2 hc 67 3 ([.slice a0 n0 c0, .slice (gA n0 c0 40 a0 (r1.1.1)) (n0 + 40) (gC n0 c0 40 (r1.1.2)), ki (1), .slice a1 n1 c1, .slice (gA n1 c1 40 a1 (r1.2.1)) (n1 + 40) (gC n1 c1 40 (r1.2.2)), ki (2)] : List Value) :: (gCh 5 a1 n1 c1 ((List.replicate n1 (mkB 2)).map b8) (r1.2.1) (r1.2.2) 40 (b8 (mkB 2)) ++ (gCh 5 a0 n0 c0 ((List.replicate n0 (mkB 1)).map b8) (r1.1.1) (r1.1.2) 40 (b8 (mkB 1)) ++ []))) cf42 rfl (fun w m => growReply_no w _ bk 2 ah 2 hc (Mem.restart (A := [_]) (B := (.sl ah 2 hc 67 3 ([.slice a0 n0 c0, .slice (gA n0 c0 40 a0 (r1.1.1)) (n0 + 40) (gC n0 c0 40 (r1.1.2)), ki (1), .slice a1 n1 c1, .slice (gA n1 c1 40 a1 (r1.2.1)) (n1 + 40) (gC n1 c1 40 (r1.2.2)), ki (2)] : List Value) :: (gCh 5 a1 n1 c1 ((List.replicate n1 (mkB 2)).map b8) (r1.2.1) (r1.2.2) 40 (b8 (mkB 2)) ++ (gCh 5 a0 n0 c0 ((List.replicate n0 (mkB 1)).map b8) (r1.1.1) (r1.1.2) 40 (b8 (mkB 1)) ++ [])))) m))) rfl trivial rfl ?_
  intro _
  refine wl_nil ?_
  refine aq_seq ?_
  refine wc_seq ?_
  refine wc_region ?_
  refine wl_y (y_move rfl) ?_
  refine wl_eff (e_callA cf43 rfl (fun w m => lookB_2 w _ bk ah hc a0 n0 c0 a1 n1 c1 (gA n0 c0 40 a0 (r1.1.1)) (gC n0 c0 40 (r1.1.2)) (gA n1 c1 40 a1 (r1.2.1)) (gC n1 c1 40 (r1.2.2)) (gCh 5 a1 n1 c1 ((List.replicate n1 (mkB 2)).map b8) (r1.2.1) (r1.2.2) 40 (b8 (mkB 2)) ++ (gCh 5 a0 n0 c0 ((List.replicate n0 (mkB 1)).map b8) (r1.1.1) (r1.1.2) 40 (b8 (mkB 1)) ++ [])) (Mem.restart0 m) (fun w_ m_ => g_lb (Mem.right m_)) (fun w_ m_ => g_lg (Mem.right m_)) (fun w_ m_ => g_lb m_) (fun w_ m_ => g_lg m_) (by omega) (by omega))) rfl trivial rfl ?_
  intro _
  refine wl_y (y_move rfl) ?_
  refine wl_y (y_move rfl) ?_ (hg := ⟨_, rfl, rfl⟩)
  refine wl_eff (e_callP [.blk bk (.cells (#[ki (2), .slice ah 2 hc, .slice none 0 0, .slice none 0 0, .slice none 0 0, .slice none 0 0, .slice none 0 0, .slice none 0 0, .slice none 0 0, .slice none 0 0, .slice none 0 0, .slice none 0 0, .slice none 0 0]) 42 (0, 0))] [] cf44 rfl (fun w m => lookNumber_no w _ bk 2 ah 2 hc (Mem.restart (A := [_]) (B := []) m))) rfl ⟨_, rfl, rfl⟩ rfl ?_
  intro _
  refine wl_y (y_pick (b := true) rfl rfl) ?_
  refine wl_y (y_move rfl) ?_
  refine wl_y (y_move rfl) ?_ (hg := ⟨_, rfl, rfl⟩)
  refine wl_eff (e_callP [.blk bk (.cells (#[ki (2), .slice ah 2 hc, .slice none 0 0, .slice none 0 0, .slice none 0 0, .slice none 0 0, .slice none 0 0, .slice none 0 0, .slice none 0 0, .slice none 0 0, .slice none 0 0, .slice none 0 0, .slice none 0 0]) 42 (0, 0))] [] cf45 rfl (fun w m => lookInt_no w _ bk 2 ah 2 hc (Mem.restart (A := [_]) (B := []) m))) rfl ⟨_, rfl, rfl⟩ rfl ?_
  intro _
  refine wl_y (y_pick (b := true) rfl rfl) ?_
  refine wl_y (y_move rfl) ?_
  refine wl_y (y_move rfl) ?_ (hg := ⟨_, rfl, rfl⟩)
  refine wl_eff (e_callP [.blk bk (.cells (#[ki (2), .slice ah 2 hc, .slice none 0 0, .slice none 0 0, .slice none 0 0, .slice none 0 0, .slice none 0 0, .slice none 0 0, .slice none 0 0, .slice none 0 0, .slice none 0 0, .slice none 0 0, .slice none 0 0]) 42 (0, 0))] [] cf46 rfl (fun w m => lookText_no w _ bk 2 ah 2 hc (Mem.restart (A := [_]) (B := []) m))) rfl ⟨_, rfl, rfl⟩ rfl ?_
  intro _
  refine wl_y (y_pick (b := true) rfl rfl) ?_
  refine wl_y (y_move rfl) ?_
  refine wl_y (y_move rfl) ?_ (hg := ⟨_, rfl, rfl⟩)
  refine wl_eff (e_callP [.blk bk (.cells (#[ki (2), .slice ah 2 hc, .slice none 0 0, .slice none 0 0, .slice none 0 0, .slice none 0 0, .slice none 0 0, .slice none 0 0, .slice none 0 0, .slice none 0 0, .slice none 0 0, .slice none 0 0, .slice none 0 0]) 42 (0, 0))] [] cf47 rfl (fun w m => lookBlob_no w _ bk 2 ah 2 hc (Mem.restart (A := [_]) (B := []) m))) rfl ⟨_, rfl, rfl⟩ rfl ?_
  intro _
  refine wl_y (y_pick (b := true) rfl rfl) ?_
  refine wl_y (y_move rfl) ?_
  refine wl_y (y_move rfl) ?_ (hg := ⟨_, rfl, rfl⟩)
  refine wl_eff (e_callP [.blk bk (.cells (#[ki (2), .slice ah 2 hc, .slice none 0 0, .slice none 0 0, .slice none 0 0, .slice none 0 0, .slice none 0 0, .slice none 0 0, .slice none 0 0, .slice none 0 0, .slice none 0 0, .slice none 0 0, .slice none 0 0]) 42 (0, 0))] [] cf48 rfl (fun w m => lookRange_no w _ bk 2 ah 2 hc (Mem.restart (A := [_]) (B := []) m))) rfl ⟨_, rfl, rfl⟩ rfl ?_
  intro _
  refine wl_y (y_pick (b := true) rfl rfl) ?_
  refine wl_y (y_move rfl) ?_
  refine wl_y (y_move rfl) ?_ (hg := ⟨_, rfl, rfl⟩)
  refine wl_eff (e_callP [.blk bk (.cells (#[ki (2), .slice ah 2 hc, .slice none 0 0, .slice none 0 0, .slice none 0 0, .slice none 0 0, .slice none 0 0, .slice none 0 0, .slice none 0 0, .slice none 0 0, .slice none 0 0, .slice none 0 0, .slice none 0 0]) 42 (0, 0))] [] cf49 rfl (fun w m => lookFrame_no w _ bk 2 ah 2 hc (Mem.restart (A := [_]) (B := []) m))) rfl ⟨_, rfl, rfl⟩ rfl ?_
  intro _
  refine wl_y (y_pick (b := true) rfl rfl) ?_
  refine wl_y (y_move rfl) ?_
  refine wl_y (y_move rfl) ?_ (hg := ⟨_, rfl, rfl⟩)
  refine wl_eff (e_callP [.blk bk (.cells (#[ki (2), .slice ah 2 hc, .slice none 0 0, .slice none 0 0, .slice none 0 0, .slice none 0 0, .slice none 0 0, .slice none 0 0, .slice none 0 0, .slice none 0 0, .slice none 0 0, .slice none 0 0, .slice none 0 0]) 42 (0, 0))] [] cf50 rfl (fun w m => lookField_no w _ bk 2 ah 2 hc (Mem.restart (A := [_]) (B := []) m))) rfl ⟨_, rfl, rfl⟩ rfl ?_
  intro _
  refine wl_y (y_pick (b := true) rfl rfl) ?_
  refine wl_y (y_move rfl) ?_
  refine wl_y (y_move rfl) ?_ (hg := ⟨_, rfl, rfl⟩)
  refine wl_eff (e_callP [.blk bk (.cells (#[ki (2), .slice ah 2 hc, .slice none 0 0, .slice none 0 0, .slice none 0 0, .slice none 0 0, .slice none 0 0, .slice none 0 0, .slice none 0 0, .slice none 0 0, .slice none 0 0, .slice none 0 0, .slice none 0 0]) 42 (0, 0))] [] cf51 rfl (fun w m => lookMessage_no w _ bk 2 ah 2 hc (Mem.restart (A := [_]) (B := []) m))) rfl ⟨_, rfl, rfl⟩ rfl ?_
  intro _
  refine wl_y (y_pick (b := true) rfl rfl) ?_
  refine wl_y (y_move rfl) ?_
  refine wl_y (y_move rfl) ?_ (hg := ⟨_, rfl, rfl⟩)
  refine wl_eff (e_callP [.blk bk (.cells (#[ki (2), .slice ah 2 hc, .slice none 0 0, .slice none 0 0, .slice none 0 0, .slice none 0 0, .slice none 0 0, .slice none 0 0, .slice none 0 0, .slice none 0 0, .slice none 0 0, .slice none 0 0, .slice none 0 0]) 42 (0, 0))] [] cf52 rfl (fun w m => lookRule_no w _ bk 2 ah 2 hc (Mem.restart (A := [_]) (B := []) m))) rfl ⟨_, rfl, rfl⟩ rfl ?_
  intro _
  refine wl_y (y_pick (b := true) rfl rfl) ?_
  refine wl_y (y_move rfl) ?_
  refine wl_y (y_move rfl) ?_ (hg := ⟨_, rfl, rfl⟩)
  refine wl_eff (e_callP [.blk bk (.cells (#[ki (2), .slice ah 2 hc, .slice none 0 0, .slice none 0 0, .slice none 0 0, .slice none 0 0, .slice none 0 0, .slice none 0 0, .slice none 0 0, .slice none 0 0, .slice none 0 0, .slice none 0 0, .slice none 0 0]) 42 (0, 0))] [] cf53 rfl (fun w m => lookEvent_no w _ bk 2 ah 2 hc (Mem.restart (A := [_]) (B := []) m))) rfl ⟨_, rfl, rfl⟩ rfl ?_
  intro _
  refine wl_y (y_pick (b := true) rfl rfl) ?_
  refine wl_y (y_move rfl) ?_
  refine wl_y (y_move rfl) ?_ (hg := ⟨_, rfl, rfl⟩)
  refine wl_eff (e_callP [.blk bk (.cells (#[ki (2), .slice ah 2 hc, .slice none 0 0, .slice none 0 0, .slice none 0 0, .slice none 0 0, .slice none 0 0, .slice none 0 0, .slice none 0 0, .slice none 0 0, .slice none 0 0, .slice none 0 0, .slice none 0 0]) 42 (0, 0))] [] cf54 rfl (fun w m => lookReply_no w _ bk 2 ah 2 hc (Mem.restart (A := [_]) (B := []) m))) rfl ⟨_, rfl, rfl⟩ rfl ?_
  intro _
  refine wl_y (y_pick (b := true) rfl rfl) ?_
  refine wl_y (y_assign rfl) ?_
  refine wl_nil ?_
  refine aq_seq ?_
  refine wc_ret ?_
  refine aq_return (.inl rfl) rfl (⟨_, _, rfl, rfl, rfl⟩) ?_
  intro w' m
  exact ⟨(), rfl, m.pick (is := []) rfl (by decide)⟩

end Go.Proofs.YtjibkjoaamchoaaGreatDoor
