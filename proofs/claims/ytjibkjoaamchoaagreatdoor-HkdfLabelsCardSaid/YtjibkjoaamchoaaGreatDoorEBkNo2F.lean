/- Lemmas and contracts for the proof of this seat's statements (BkNo2F). No condition. -/
import Derived.Test.YtjibkjoaamchoaaGreatDoorEBk
import Derived.Test.YtjibkjoaamchoaaGreatDoorProg
import Derived.KernelRfl
import Derived.Test.YtjibkjoaamchoaaGreatDoorEPlaA
set_option linter.all false
namespace Go.Proofs.YtjibkjoaamchoaaGreatDoor
open Go.Mc
private theorem fd42_2 : fdB Tryz.prog 42 2 2 30 = true := by kernel_rfl
private theorem sz30 : szB Tryz.prog 30 1 = true := by kernel_rfl
private theorem sc30 : scB Tryz.prog 30 = true := by kernel_rfl
private theorem sl30 : slB Tryz.prog 30 71 = true := by kernel_rfl
private theorem fd42_3 : fdB Tryz.prog 42 3 3 31 = true := by kernel_rfl
private theorem sz31 : szB Tryz.prog 31 1 = true := by kernel_rfl
private theorem sc31 : scB Tryz.prog 31 = true := by kernel_rfl
private theorem sl31 : slB Tryz.prog 31 76 = true := by kernel_rfl
private theorem fd42_4 : fdB Tryz.prog 42 4 4 32 = true := by kernel_rfl
private theorem sz32 : szB Tryz.prog 32 1 = true := by kernel_rfl
private theorem sc32 : scB Tryz.prog 32 = true := by kernel_rfl
private theorem sl32 : slB Tryz.prog 32 80 = true := by kernel_rfl
private theorem fd42_5 : fdB Tryz.prog 42 5 5 33 = true := by kernel_rfl
private theorem sz33 : szB Tryz.prog 33 1 = true := by kernel_rfl
private theorem sc33 : scB Tryz.prog 33 = true := by kernel_rfl
private theorem sl33 : slB Tryz.prog 33 83 = true := by kernel_rfl
private theorem fd42_6 : fdB Tryz.prog 42 6 6 34 = true := by kernel_rfl
private theorem sz34 : szB Tryz.prog 34 1 = true := by kernel_rfl
private theorem sc34 : scB Tryz.prog 34 = true := by kernel_rfl
private theorem sl34 : slB Tryz.prog 34 87 = true := by kernel_rfl
private theorem fd42_7 : fdB Tryz.prog 42 7 7 35 = true := by kernel_rfl
private theorem sz35 : szB Tryz.prog 35 1 = true := by kernel_rfl
private theorem sc35 : scB Tryz.prog 35 = true := by kernel_rfl
private theorem sl35 : slB Tryz.prog 35 93 = true := by kernel_rfl
private theorem fd42_8 : fdB Tryz.prog 42 8 8 36 = true := by kernel_rfl
private theorem sz36 : szB Tryz.prog 36 1 = true := by kernel_rfl
private theorem sc36 : scB Tryz.prog 36 = true := by kernel_rfl
private theorem sl36 : slB Tryz.prog 36 100 = true := by kernel_rfl
private theorem fd42_9 : fdB Tryz.prog 42 9 9 37 = true := by kernel_rfl
private theorem sz37 : szB Tryz.prog 37 1 = true := by kernel_rfl
private theorem sc37 : scB Tryz.prog 37 = true := by kernel_rfl
private theorem sl37 : slB Tryz.prog 37 106 = true := by kernel_rfl
private theorem fd42_10 : fdB Tryz.prog 42 10 10 38 = true := by kernel_rfl
private theorem sz38 : szB Tryz.prog 38 1 = true := by kernel_rfl
private theorem sc38 : scB Tryz.prog 38 = true := by kernel_rfl
private theorem sl38 : slB Tryz.prog 38 112 = true := by kernel_rfl
private theorem fd42_11 : fdB Tryz.prog 42 11 11 39 = true := by kernel_rfl
private theorem sz39 : szB Tryz.prog 39 1 = true := by kernel_rfl
private theorem sc39 : scB Tryz.prog 39 = true := by kernel_rfl
private theorem sl39 : slB Tryz.prog 39 118 = true := by kernel_rfl
private theorem fd42_12 : fdB Tryz.prog 42 12 12 40 = true := by kernel_rfl
private theorem sz40 : szB Tryz.prog 40 1 = true := by kernel_rfl
private theorem sc40 : scB Tryz.prog 40 = true := by kernel_rfl
private theorem sl40 : slB Tryz.prog 40 125 = true := by kernel_rfl
theorem fillNumber_no (w : World) (own : List Nat) (bk k : Nat) (ah : Option Addr) (m hc : Nat) (hm : Mem w own [.blk bk (.cells (#[ki ((k : Int)), .slice ah m hc, .slice none 0 0, .slice none 0 0, .slice none 0 0, .slice none 0 0, .slice none 0 0, .slice none 0 0, .slice none 0 0, .slice none 0 0, .slice none 0 0, .slice none 0 0, .slice none 0 0]) 42 (0, 0))] w) :
    Calls Tryz.prog 20 #[.pointer (some ⟨bk, 0, none⟩)] w (Ret (fun _ : Unit => .tuple #[]) (fun _ => Mem w own [.blk bk (.cells (#[ki ((k : Int)), .slice ah m hc, .slice none 0 0, .slice none 0 0, .slice none 0 0, .slice none 0 0, .slice none 0 0, .slice none 0 0, .slice none 0 0, .slice none 0 0, .slice none 0 0, .slice none 0 0, .slice none 0 0]) 42 (0, 0))])) := by
  refine calls_of Tryz.func20 rfl rfl (L := [(0, .pointer (some ⟨bk, 0, none⟩))]) ⟨rfl, trivial⟩ (m := 35) (Nat.le_of_ble_eq_true rfl) (M := Mem w own [.blk bk (.cells (#[ki ((k : Int)), .slice ah m hc, .slice none 0 0, .slice none 0 0, .slice none 0 0, .slice none 0 0, .slice none 0 0, .slice none 0 0, .slice none 0 0, .slice none 0 0, .slice none 0 0, .slice none 0 0, .slice none 0 0]) 42 (0, 0))]) (hm) ?_
  refine wc_seq ?_
  refine wc_region ?_
  refine wl_y (y_assign rfl) ?_
  refine wl_nil ?_
  refine aq_seq ?_
  refine wc_block ?_
  refine wc_unroll (wh_round ?_)
  refine wc_seq ?_
  refine wc_seq ?_
  refine wc_region ?_
  refine wl_y (y_move rfl) ?_
  refine wl_y (y_move rfl) ?_
  refine wl_y (y_nilCheck rfl) ?_
  refine wl_y (y_fieldAddr fd42_2 sz30 rfl) ?_
  refine wl_y (y_load sc30 rfl (c_blk (i := 0) rfl rfl)) ?_
  refine wl_y (y_len_sl sl30 (m := 0) rfl rfl) ?_
  refine wl_y (y_bin rfl rfl (show bin .lss (ki 0) (ki 0) = some (kb false) from rfl)) ?_
  refine wl_nil ?_
  refine aq_seq ?_
  refine wc_else rfl ?_
  refine wc_exit ?_
  refine aq_thru_exit ?_
  refine aq_thru_exit ?_
  refine aq_blk_exit ?_
  refine aq_return (.inr rfl) rfl (rfl) ?_
  intro w' m
  exact ⟨(), rfl, m⟩

theorem fillInt_no (w : World) (own : List Nat) (bk k : Nat) (ah : Option Addr) (m hc : Nat) (hm : Mem w own [.blk bk (.cells (#[ki ((k : Int)), .slice ah m hc, .slice none 0 0, .slice none 0 0, .slice none 0 0, .slice none 0 0, .slice none 0 0, .slice none 0 0, .slice none 0 0, .slice none 0 0, .slice none 0 0, .slice none 0 0, .slice none 0 0]) 42 (0, 0))] w) :
    Calls Tryz.prog 21 #[.pointer (some ⟨bk, 0, none⟩)] w (Ret (fun _ : Unit => .tuple #[]) (fun _ => Mem w own [.blk bk (.cells (#[ki ((k : Int)), .slice ah m hc, .slice none 0 0, .slice none 0 0, .slice none 0 0, .slice none 0 0, .slice none 0 0, .slice none 0 0, .slice none 0 0, .slice none 0 0, .slice none 0 0, .slice none 0 0, .slice none 0 0]) 42 (0, 0))])) := by
  refine calls_of Tryz.func21 rfl rfl (L := [(0, .pointer (some ⟨bk, 0, none⟩))]) ⟨rfl, trivial⟩ (m := 35) (Nat.le_of_ble_eq_true rfl) (M := Mem w own [.blk bk (.cells (#[ki ((k : Int)), .slice ah m hc, .slice none 0 0, .slice none 0 0, .slice none 0 0, .slice none 0 0, .slice none 0 0, .slice none 0 0, .slice none 0 0, .slice none 0 0, .slice none 0 0, .slice none 0 0, .slice none 0 0]) 42 (0, 0))]) (hm) ?_
  refine wc_seq ?_
  refine wc_region ?_
  refine wl_y (y_assign rfl) ?_
  refine wl_nil ?_
  refine aq_seq ?_
  refine wc_block ?_
  refine wc_unroll (wh_round ?_)
  refine wc_seq ?_
  refine wc_seq ?_
  refine wc_region ?_
  refine wl_y (y_move rfl) ?_
  refine wl_y (y_move rfl) ?_
  refine wl_y (y_nilCheck rfl) ?_
  refine wl_y (y_fieldAddr fd42_3 sz31 rfl) ?_
  refine wl_y (y_load sc31 rfl (c_blk (i := 0) rfl rfl)) ?_
  refine wl_y (y_len_sl sl31 (m := 0) rfl rfl) ?_
  refine wl_y (y_bin rfl rfl (show bin .lss (ki 0) (ki 0) = some (kb false) from rfl)) ?_
  refine wl_nil ?_
  refine aq_seq ?_
  refine wc_else rfl ?_
  refine wc_exit ?_
  refine aq_thru_exit ?_
  refine aq_thru_exit ?_
  refine aq_blk_exit ?_
  refine aq_return (.inr rfl) rfl (rfl) ?_
  intro w' m
  exact ⟨(), rfl, m⟩

theorem fillText_no (w : World) (own : List Nat) (bk k : Nat) (ah : Option Addr) (m hc : Nat) (hm : Mem w own [.blk bk (.cells (#[ki ((k : Int)), .slice ah m hc, .slice none 0 0, .slice none 0 0, .slice none 0 0, .slice none 0 0, .slice none 0 0, .slice none 0 0, .slice none 0 0, .slice none 0 0, .slice none 0 0, .slice none 0 0, .slice none 0 0]) 42 (0, 0))] w) :
    Calls Tryz.prog 22 #[.pointer (some ⟨bk, 0, none⟩)] w (Ret (fun _ : Unit => .tuple #[]) (fun _ => Mem w own [.blk bk (.cells (#[ki ((k : Int)), .slice ah m hc, .slice none 0 0, .slice none 0 0, .slice none 0 0, .slice none 0 0, .slice none 0 0, .slice none 0 0, .slice none 0 0, .slice none 0 0, .slice none 0 0, .slice none 0 0, .slice none 0 0]) 42 (0, 0))])) := by
  refine calls_of Tryz.func22 rfl rfl (L := [(0, .pointer (some ⟨bk, 0, none⟩))]) ⟨rfl, trivial⟩ (m := 35) (Nat.le_of_ble_eq_true rfl) (M := Mem w own [.blk bk (.cells (#[ki ((k : Int)), .slice ah m hc, .slice none 0 0, .slice none 0 0, .slice none 0 0, .slice none 0 0, .slice none 0 0, .slice none 0 0, .slice none 0 0, .slice none 0 0, .slice none 0 0, .slice none 0 0, .slice none 0 0]) 42 (0, 0))]) (hm) ?_
  refine wc_seq ?_
  refine wc_region ?_
  refine wl_y (y_assign rfl) ?_
  refine wl_nil ?_
  refine aq_seq ?_
  refine wc_block ?_
  refine wc_unroll (wh_round ?_)
  refine wc_seq ?_
  refine wc_seq ?_
  refine wc_region ?_
  refine wl_y (y_move rfl) ?_
  refine wl_y (y_move rfl) ?_
  refine wl_y (y_nilCheck rfl) ?_
  refine wl_y (y_fieldAddr fd42_4 sz32 rfl) ?_
  refine wl_y (y_load sc32 rfl (c_blk (i := 0) rfl rfl)) ?_
  refine wl_y (y_len_sl sl32 (m := 0) rfl rfl) ?_
  refine wl_y (y_bin rfl rfl (show bin .lss (ki 0) (ki 0) = some (kb false) from rfl)) ?_
  refine wl_nil ?_
  refine aq_seq ?_
  refine wc_else rfl ?_
  refine wc_exit ?_
  refine aq_thru_exit ?_
  refine aq_thru_exit ?_
  refine aq_blk_exit ?_
  refine aq_return (.inr rfl) rfl (rfl) ?_
  intro w' m
  exact ⟨(), rfl, m⟩

theorem fillBlob_no (w : World) (own : List Nat) (bk k : Nat) (ah : Option Addr) (m hc : Nat) (hm : Mem w own [.blk bk (.cells (#[ki ((k : Int)), .slice ah m hc, .slice none 0 0, .slice none 0 0, .slice none 0 0, .slice none 0 0, .slice none 0 0, .slice none 0 0, .slice none 0 0, .slice none 0 0, .slice none 0 0, .slice none 0 0, .slice none 0 0]) 42 (0, 0))] w) :
    Calls Tryz.prog 23 #[.pointer (some ⟨bk, 0, none⟩)] w (Ret (fun _ : Unit => .tuple #[]) (fun _ => Mem w own [.blk bk (.cells (#[ki ((k : Int)), .slice ah m hc, .slice none 0 0, .slice none 0 0, .slice none 0 0, .slice none 0 0, .slice none 0 0, .slice none 0 0, .slice none 0 0, .slice none 0 0, .slice none 0 0, .slice none 0 0, .slice none 0 0]) 42 (0, 0))])) := by
  refine calls_of Tryz.func23 rfl rfl (L := [(0, .pointer (some ⟨bk, 0, none⟩))]) ⟨rfl, trivial⟩ (m := 35) (Nat.le_of_ble_eq_true rfl) (M := Mem w own [.blk bk (.cells (#[ki ((k : Int)), .slice ah m hc, .slice none 0 0, .slice none 0 0, .slice none 0 0, .slice none 0 0, .slice none 0 0, .slice none 0 0, .slice none 0 0, .slice none 0 0, .slice none 0 0, .slice none 0 0, .slice none 0 0]) 42 (0, 0))]) (hm) ?_
  refine wc_seq ?_
  refine wc_region ?_
  refine wl_y (y_assign rfl) ?_
  refine wl_nil ?_
  refine aq_seq ?_
  refine wc_block ?_
  refine wc_unroll (wh_round ?_)
  refine wc_seq ?_
  refine wc_seq ?_
  refine wc_region ?_
  refine wl_y (y_move rfl) ?_
  refine wl_y (y_move rfl) ?_
  refine wl_y (y_nilCheck rfl) ?_
  refine wl_y (y_fieldAddr fd42_5 sz33 rfl) ?_
  refine wl_y (y_load sc33 rfl (c_blk (i := 0) rfl rfl)) ?_
  refine wl_y (y_len_sl sl33 (m := 0) rfl rfl) ?_
  refine wl_y (y_bin rfl rfl (show bin .lss (ki 0) (ki 0) = some (kb false) from rfl)) ?_
  refine wl_nil ?_
  refine aq_seq ?_
  refine wc_else rfl ?_
  refine wc_exit ?_
  refine aq_thru_exit ?_
  refine aq_thru_exit ?_
  refine aq_blk_exit ?_
  refine aq_return (.inr rfl) rfl (rfl) ?_
  intro w' m
  exact ⟨(), rfl, m⟩

theorem fillRange_no (w : World) (own : List Nat) (bk k : Nat) (ah : Option Addr) (m hc : Nat) (hm : Mem w own [.blk bk (.cells (#[ki ((k : Int)), .slice ah m hc, .slice none 0 0, .slice none 0 0, .slice none 0 0, .slice none 0 0, .slice none 0 0, .slice none 0 0, .slice none 0 0, .slice none 0 0, .slice none 0 0, .slice none 0 0, .slice none 0 0]) 42 (0, 0))] w) :
    Calls Tryz.prog 24 #[.pointer (some ⟨bk, 0, none⟩)] w (Ret (fun _ : Unit => .tuple #[]) (fun _ => Mem w own [.blk bk (.cells (#[ki ((k : Int)), .slice ah m hc, .slice none 0 0, .slice none 0 0, .slice none 0 0, .slice none 0 0, .slice none 0 0, .slice none 0 0, .slice none 0 0, .slice none 0 0, .slice none 0 0, .slice none 0 0, .slice none 0 0]) 42 (0, 0))])) := by
  refine calls_of Tryz.func24 rfl rfl (L := [(0, .pointer (some ⟨bk, 0, none⟩))]) ⟨rfl, trivial⟩ (m := 35) (Nat.le_of_ble_eq_true rfl) (M := Mem w own [.blk bk (.cells (#[ki ((k : Int)), .slice ah m hc, .slice none 0 0, .slice none 0 0, .slice none 0 0, .slice none 0 0, .slice none 0 0, .slice none 0 0, .slice none 0 0, .slice none 0 0, .slice none 0 0, .slice none 0 0, .slice none 0 0]) 42 (0, 0))]) (hm) ?_
  refine wc_seq ?_
  refine wc_region ?_
  refine wl_y (y_assign rfl) ?_
  refine wl_nil ?_
  refine aq_seq ?_
  refine wc_block ?_
  refine wc_unroll (wh_round ?_)
  refine wc_seq ?_
  refine wc_seq ?_
  refine wc_region ?_
  refine wl_y (y_move rfl) ?_
  refine wl_y (y_move rfl) ?_
  refine wl_y (y_nilCheck rfl) ?_
  refine wl_y (y_fieldAddr fd42_6 sz34 rfl) ?_
  refine wl_y (y_load sc34 rfl (c_blk (i := 0) rfl rfl)) ?_
  refine wl_y (y_len_sl sl34 (m := 0) rfl rfl) ?_
  refine wl_y (y_bin rfl rfl (show bin .lss (ki 0) (ki 0) = some (kb false) from rfl)) ?_
  refine wl_nil ?_
  refine aq_seq ?_
  refine wc_else rfl ?_
  refine wc_exit ?_
  refine aq_thru_exit ?_
  refine aq_thru_exit ?_
  refine aq_blk_exit ?_
  refine aq_return (.inr rfl) rfl (rfl) ?_
  intro w' m
  exact ⟨(), rfl, m⟩

theorem fillFrame_no (w : World) (own : List Nat) (bk k : Nat) (ah : Option Addr) (m hc : Nat) (hm : Mem w own [.blk bk (.cells (#[ki ((k : Int)), .slice ah m hc, .slice none 0 0, .slice none 0 0, .slice none 0 0, .slice none 0 0, .slice none 0 0, .slice none 0 0, .slice none 0 0, .slice none 0 0, .slice none 0 0, .slice none 0 0, .slice none 0 0]) 42 (0, 0))] w) :
    Calls Tryz.prog 25 #[.pointer (some ⟨bk, 0, none⟩)] w (Ret (fun _ : Unit => .tuple #[]) (fun _ => Mem w own [.blk bk (.cells (#[ki ((k : Int)), .slice ah m hc, .slice none 0 0, .slice none 0 0, .slice none 0 0, .slice none 0 0, .slice none 0 0, .slice none 0 0, .slice none 0 0, .slice none 0 0, .slice none 0 0, .slice none 0 0, .slice none 0 0]) 42 (0, 0))])) := by
  refine calls_of Tryz.func25 rfl rfl (L := [(0, .pointer (some ⟨bk, 0, none⟩))]) ⟨rfl, trivial⟩ (m := 35) (Nat.le_of_ble_eq_true rfl) (M := Mem w own [.blk bk (.cells (#[ki ((k : Int)), .slice ah m hc, .slice none 0 0, .slice none 0 0, .slice none 0 0, .slice none 0 0, .slice none 0 0, .slice none 0 0, .slice none 0 0, .slice none 0 0, .slice none 0 0, .slice none 0 0, .slice none 0 0]) 42 (0, 0))]) (hm) ?_
  refine wc_seq ?_
  refine wc_region ?_
  refine wl_y (y_assign rfl) ?_
  refine wl_nil ?_
  refine aq_seq ?_
  refine wc_block ?_
  refine wc_unroll (wh_round ?_)
  refine wc_seq ?_
  refine wc_seq ?_
  refine wc_region ?_
  refine wl_y (y_move rfl) ?_
  refine wl_y (y_move rfl) ?_
  refine wl_y (y_nilCheck rfl) ?_
  refine wl_y (y_fieldAddr fd42_7 sz35 rfl) ?_
  refine wl_y (y_load sc35 rfl (c_blk (i := 0) rfl rfl)) ?_
  refine wl_y (y_len_sl sl35 (m := 0) rfl rfl) ?_
  refine wl_y (y_bin rfl rfl (show bin .lss (ki 0) (ki 0) = some (kb false) from rfl)) ?_
  refine wl_nil ?_
  refine aq_seq ?_
  refine wc_else rfl ?_
  refine wc_exit ?_
  refine aq_thru_exit ?_
  refine aq_thru_exit ?_
  refine aq_blk_exit ?_
  refine aq_return (.inr rfl) rfl (rfl) ?_
  intro w' m
  exact ⟨(), rfl, m⟩

theorem fillField_no (w : World) (own : List Nat) (bk k : Nat) (ah : Option Addr) (m hc : Nat) (hm : Mem w own [.blk bk (.cells (#[ki ((k : Int)), .slice ah m hc, .slice none 0 0, .slice none 0 0, .slice none 0 0, .slice none 0 0, .slice none 0 0, .slice none 0 0, .slice none 0 0, .slice none 0 0, .slice none 0 0, .slice none 0 0, .slice none 0 0]) 42 (0, 0))] w) :
    Calls Tryz.prog 26 #[.pointer (some ⟨bk, 0, none⟩)] w (Ret (fun _ : Unit => .tuple #[]) (fun _ => Mem w own [.blk bk (.cells (#[ki ((k : Int)), .slice ah m hc, .slice none 0 0, .slice none 0 0, .slice none 0 0, .slice none 0 0, .slice none 0 0, .slice none 0 0, .slice none 0 0, .slice none 0 0, .slice none 0 0, .slice none 0 0, .slice none 0 0]) 42 (0, 0))])) := by
  refine calls_of Tryz.func26 rfl rfl (L := [(0, .pointer (some ⟨bk, 0, none⟩))]) ⟨rfl, trivial⟩ (m := 35) (Nat.le_of_ble_eq_true rfl) (M := Mem w own [.blk bk (.cells (#[ki ((k : Int)), .slice ah m hc, .slice none 0 0, .slice none 0 0, .slice none 0 0, .slice none 0 0, .slice none 0 0, .slice none 0 0, .slice none 0 0, .slice none 0 0, .slice none 0 0, .slice none 0 0, .slice none 0 0]) 42 (0, 0))]) (hm) ?_
  refine wc_seq ?_
  refine wc_region ?_
  refine wl_y (y_assign rfl) ?_
  refine wl_nil ?_
  refine aq_seq ?_
  refine wc_block ?_
  refine wc_unroll (wh_round ?_)
  refine wc_seq ?_
  refine wc_seq ?_
  refine wc_region ?_
  refine wl_y (y_move rfl) ?_
  refine wl_y (y_move rfl) ?_
  refine wl_y (y_nilCheck rfl) ?_
  refine wl_y (y_fieldAddr fd42_8 sz36 rfl) ?_
  refine wl_y (y_load sc36 rfl (c_blk (i := 0) rfl rfl)) ?_
  refine wl_y (y_len_sl sl36 (m := 0) rfl rfl) ?_
  refine wl_y (y_bin rfl rfl (show bin .lss (ki 0) (ki 0) = some (kb false) from rfl)) ?_
  refine wl_nil ?_
  refine aq_seq ?_
  refine wc_else rfl ?_
  refine wc_exit ?_
  refine aq_thru_exit ?_
  refine aq_thru_exit ?_
  refine aq_blk_exit ?_
  refine aq_return (.inr rfl) rfl (rfl) ?_
  intro w' m
  exact ⟨(), rfl, m⟩

theorem fillMessage_no (w : World) (own : List Nat) (bk k : Nat) (ah : Option Addr) (m hc : Nat) (hm : Mem w own [.blk bk (.cells (#[ki ((k : Int)), .slice ah m hc, .slice none 0 0, .slice none 0 0, .slice none 0 0, .slice none 0 0, .slice none 0 0, .slice none 0 0, .slice none 0 0, .slice none 0 0, .slice none 0 0, .slice none 0 0, .slice none 0 0]) 42 (0, 0))] w) :
    Calls Tryz.prog 27 #[.pointer (some ⟨bk, 0, none⟩)] w (Ret (fun _ : Unit => .tuple #[]) (fun _ => Mem w own [.blk bk (.cells (#[ki ((k : Int)), .slice ah m hc, .slice none 0 0, .slice none 0 0, .slice none 0 0, .slice none 0 0, .slice none 0 0, .slice none 0 0, .slice none 0 0, .slice none 0 0, .slice none 0 0, .slice none 0 0, .slice none 0 0]) 42 (0, 0))])) := by
  refine calls_of Tryz.func27 rfl rfl (L := [(0, .pointer (some ⟨bk, 0, none⟩))]) ⟨rfl, trivial⟩ (m := 35) (Nat.le_of_ble_eq_true rfl) (M := Mem w own [.blk bk (.cells (#[ki ((k : Int)), .slice ah m hc, .slice none 0 0, .slice none 0 0, .slice none 0 0, .slice none 0 0, .slice none 0 0, .slice none 0 0, .slice none 0 0, .slice none 0 0, .slice none 0 0, .slice none 0 0, .slice none 0 0]) 42 (0, 0))]) (hm) ?_
  refine wc_seq ?_
  refine wc_region ?_
  refine wl_y (y_assign rfl) ?_
  refine wl_nil ?_
  refine aq_seq ?_
  refine wc_block ?_
  refine wc_unroll (wh_round ?_)
  refine wc_seq ?_
  refine wc_seq ?_
  refine wc_region ?_
  refine wl_y (y_move rfl) ?_
  refine wl_y (y_move rfl) ?_
  refine wl_y (y_nilCheck rfl) ?_
  refine wl_y (y_fieldAddr fd42_9 sz37 rfl) ?_
  refine wl_y (y_load sc37 rfl (c_blk (i := 0) rfl rfl)) ?_
  refine wl_y (y_len_sl sl37 (m := 0) rfl rfl) ?_
  refine wl_y (y_bin rfl rfl (show bin .lss (ki 0) (ki 0) = some (kb false) from rfl)) ?_
  refine wl_nil ?_
  refine aq_seq ?_
  refine wc_else rfl ?_
  refine wc_exit ?_
  refine aq_thru_exit ?_
  refine aq_thru_exit ?_
  refine aq_blk_exit ?_
  refine aq_return (.inr rfl) rfl (rfl) ?_
  intro w' m
  exact ⟨(), rfl, m⟩

theorem fillRule_no (w : World) (own : List Nat) (bk k : Nat) (ah : Option Addr) (m hc : Nat) (hm : Mem w own [.blk bk (.cells (#[ki ((k : Int)), .slice ah m hc, .slice none 0 0, .slice none 0 0, .slice none 0 0, .slice none 0 0, .slice none 0 0, .slice none 0 0, .slice none 0 0, .slice none 0 0, .slice none 0 0, .slice none 0 0, .slice none 0 0]) 42 (0, 0))] w) :
    Calls Tryz.prog 28 #[.pointer (some ⟨bk, 0, none⟩)] w (Ret (fun _ : Unit => .tuple #[]) (fun _ => Mem w own [.blk bk (.cells (#[ki ((k : Int)), .slice ah m hc, .slice none 0 0, .slice none 0 0, .slice none 0 0, .slice none 0 0, .slice none 0 0, .slice none 0 0, .slice none 0 0, .slice none 0 0, .slice none 0 0, .slice none 0 0, .slice none 0 0]) 42 (0, 0))])) := by
  refine calls_of Tryz.func28 rfl rfl (L := [(0, .pointer (some ⟨bk, 0, none⟩))]) ⟨rfl, trivial⟩ (m := 35) (Nat.le_of_ble_eq_true rfl) (M := Mem w own [.blk bk (.cells (#[ki ((k : Int)), .slice ah m hc, .slice none 0 0, .slice none 0 0, .slice none 0 0, .slice none 0 0, .slice none 0 0, .slice none 0 0, .slice none 0 0, .slice none 0 0, .slice none 0 0, .slice none 0 0, .slice none 0 0]) 42 (0, 0))]) (hm) ?_
  refine wc_seq ?_
  refine wc_region ?_
  refine wl_y (y_assign rfl) ?_
  refine wl_nil ?_
  refine aq_seq ?_
  refine wc_block ?_
  refine wc_unroll (wh_round ?_)
  refine wc_seq ?_
  refine wc_seq ?_
  refine wc_region ?_
  refine wl_y (y_move rfl) ?_
  refine wl_y (y_move rfl) ?_
  refine wl_y (y_nilCheck rfl) ?_
  refine wl_y (y_fieldAddr fd42_10 sz38 rfl) ?_
  refine wl_y (y_load sc38 rfl (c_blk (i := 0) rfl rfl)) ?_
  refine wl_y (y_len_sl sl38 (m := 0) rfl rfl) ?_
  refine wl_y (y_bin rfl rfl (show bin .lss (ki 0) (ki 0) = some (kb false) from rfl)) ?_
  refine wl_nil ?_
  refine aq_seq ?_
  refine wc_else rfl ?_
  refine wc_exit ?_
  refine aq_thru_exit ?_
  refine aq_thru_exit ?_
  refine aq_blk_exit ?_
  refine aq_return (.inr rfl) rfl (rfl) ?_
  intro w' m
  exact ⟨(), rfl, m⟩

theorem fillEvent_no (w : World) (own : List Nat) (bk k : Nat) (ah : Option Addr) (m hc : Nat) (hm : Mem w own [.blk bk (.cells (#[ki ((k : Int)), .slice ah m hc, .slice none 0 0, .slice none 0 0, .slice none 0 0, .slice none 0 0, .slice none 0 0, .slice none 0 0, .slice none 0 0, .slice none 0 0, .slice none 0 0, .slice none 0 0, .slice none 0 0]) 42 (0, 0))] w) :
    Calls Tryz.prog 29 #[.pointer (some ⟨bk, 0, none⟩)] w (Ret (fun _ : Unit => .tuple #[]) (fun _ => Mem w own [.blk bk (.cells (#[ki ((k : Int)), .slice ah m hc, .slice none 0 0, .slice none 0 0, .slice none 0 0, .slice none 0 0, .slice none 0 0, .slice none 0 0, .slice none 0 0, .slice none 0 0, .slice none 0 0, .slice none 0 0, .slice none 0 0]) 42 (0, 0))])) := by
  refine calls_of Tryz.func29 rfl rfl (L := [(0, .pointer (some ⟨bk, 0, none⟩))]) ⟨rfl, trivial⟩ (m := 35) (Nat.le_of_ble_eq_true rfl) (M := Mem w own [.blk bk (.cells (#[ki ((k : Int)), .slice ah m hc, .slice none 0 0, .slice none 0 0, .slice none 0 0, .slice none 0 0, .slice none 0 0, .slice none 0 0, .slice none 0 0, .slice none 0 0, .slice none 0 0, .slice none 0 0, .slice none 0 0]) 42 (0, 0))]) (hm) ?_
  refine wc_seq ?_
  refine wc_region ?_
  refine wl_y (y_assign rfl) ?_
  refine wl_nil ?_
  refine aq_seq ?_
  refine wc_block ?_
  refine wc_unroll (wh_round ?_)
  refine wc_seq ?_
  refine wc_seq ?_
  refine wc_region ?_
  refine wl_y (y_move rfl) ?_
  refine wl_y (y_move rfl) ?_
  refine wl_y (y_nilCheck rfl) ?_
  refine wl_y (y_fieldAddr fd42_11 sz39 rfl) ?_
  refine wl_y (y_load sc39 rfl (c_blk (i := 0) rfl rfl)) ?_
  refine wl_y (y_len_sl sl39 (m := 0) rfl rfl) ?_
  refine wl_y (y_bin rfl rfl (show bin .lss (ki 0) (ki 0) = some (kb false) from rfl)) ?_
  refine wl_nil ?_
  refine aq_seq ?_
  refine wc_else rfl ?_
  refine wc_exit ?_
  refine aq_thru_exit ?_
  refine aq_thru_exit ?_
  refine aq_blk_exit ?_
  refine aq_return (.inr rfl) rfl (rfl) ?_
  intro w' m
  exact ⟨(), rfl, m⟩

theorem fillReply_no (w : World) (own : List Nat) (bk k : Nat) (ah : Option Addr) (m hc : Nat) (hm : Mem w own [.blk bk (.cells (#[ki ((k : Int)), .slice ah m hc, .slice none 0 0, .slice none 0 0, .slice none 0 0, .slice none 0 0, .slice none 0 0, .slice none 0 0, .slice none 0 0, .slice none 0 0, .slice none 0 0, .slice none 0 0, .slice none 0 0]) 42 (0, 0))] w) :
    Calls Tryz.prog 30 #[.pointer (some ⟨bk, 0, none⟩)] w (Ret (fun _ : Unit => .tuple #[]) (fun _ => Mem w own [.blk bk (.cells (#[ki ((k : Int)), .slice ah m hc, .slice none 0 0, .slice none 0 0, .slice none 0 0, .slice none 0 0, .slice none 0 0, .slice none 0 0, .slice none 0 0, .slice none 0 0, .slice none 0 0, .slice none 0 0, .slice none 0 0]) 42 (0, 0))])) := by
  refine calls_of Tryz.func30 rfl rfl (L := [(0, .pointer (some ⟨bk, 0, none⟩))]) ⟨rfl, trivial⟩ (m := 35) (Nat.le_of_ble_eq_true rfl) (M := Mem w own [.blk bk (.cells (#[ki ((k : Int)), .slice ah m hc, .slice none 0 0, .slice none 0 0, .slice none 0 0, .slice none 0 0, .slice none 0 0, .slice none 0 0, .slice none 0 0, .slice none 0 0, .slice none 0 0, .slice none 0 0, .slice none 0 0]) 42 (0, 0))]) (hm) ?_
  refine wc_seq ?_
  refine wc_region ?_
  refine wl_y (y_assign rfl) ?_
  refine wl_nil ?_
  refine aq_seq ?_
  refine wc_block ?_
  refine wc_unroll (wh_round ?_)
  refine wc_seq ?_
  refine wc_seq ?_
  refine wc_region ?_
  refine wl_y (y_move rfl) ?_
  refine wl_y (y_move rfl) ?_
  refine wl_y (y_nilCheck rfl) ?_
  refine wl_y (y_fieldAddr fd42_12 sz40 rfl) ?_
  refine wl_y (y_load sc40 rfl (c_blk (i := 0) rfl rfl)) ?_
  refine wl_y (y_len_sl sl40 (m := 0) rfl rfl) ?_
  refine wl_y (y_bin rfl rfl (show bin .lss (ki 0) (ki 0) = some (kb false) from rfl)) ?_
  refine wl_nil ?_
  refine aq_seq ?_
  refine wc_else rfl ?_
  refine wc_exit ?_
  refine aq_thru_exit ?_
  refine aq_thru_exit ?_
  refine aq_blk_exit ?_
  refine aq_return (.inr rfl) rfl (rfl) ?_
  intro w' m
  exact ⟨(), rfl, m⟩

theorem growNumber_no (w : World) (own : List Nat) (bk k : Nat) (ah : Option Addr) (m hc : Nat) (hm : Mem w own [.blk bk (.cells (#[ki ((k : Int)), .slice ah m hc, .slice none 0 0, .slice none 0 0, .slice none 0 0, .slice none 0 0, .slice none 0 0, .slice none 0 0, .slice none 0 0, .slice none 0 0, .slice none 0 0, .slice none 0 0, .slice none 0 0]) 42 (0, 0))] w) :
    Calls Tryz.prog 32 #[.pointer (some ⟨bk, 0, none⟩)] w (Ret (fun _ : Unit => .tuple #[]) (fun _ => Mem w own [.blk bk (.cells (#[ki ((k : Int)), .slice ah m hc, .slice none 0 0, .slice none 0 0, .slice none 0 0, .slice none 0 0, .slice none 0 0, .slice none 0 0, .slice none 0 0, .slice none 0 0, .slice none 0 0, .slice none 0 0, .slice none 0 0]) 42 (0, 0))])) := by
  refine calls_of Tryz.func32 rfl rfl (L := [(0, .pointer (some ⟨bk, 0, none⟩))]) ⟨rfl, trivial⟩ (m := 42) (Nat.le_of_ble_eq_true rfl) (M := Mem w own [.blk bk (.cells (#[ki ((k : Int)), .slice ah m hc, .slice none 0 0, .slice none 0 0, .slice none 0 0, .slice none 0 0, .slice none 0 0, .slice none 0 0, .slice none 0 0, .slice none 0 0, .slice none 0 0, .slice none 0 0, .slice none 0 0]) 42 (0, 0))]) (hm) ?_
  refine wc_seq ?_
  refine wc_region ?_
  refine wl_y (y_assign rfl) ?_
  refine wl_nil ?_
  refine aq_seq ?_
  refine wc_block ?_
  refine wc_unroll (wh_round ?_)
  refine wc_seq ?_
  refine wc_seq ?_
  refine wc_region ?_
  refine wl_y (y_move rfl) ?_
  refine wl_y (y_move rfl) ?_
  refine wl_y (y_nilCheck rfl) ?_
  refine wl_y (y_fieldAddr fd42_2 sz30 rfl) ?_
  refine wl_y (y_load sc30 rfl (c_blk (i := 0) rfl rfl)) ?_
  refine wl_y (y_len_sl sl30 (m := 0) rfl rfl) ?_
  refine wl_y (y_bin rfl rfl (show bin .lss (ki 0) (ki 0) = some (kb false) from rfl)) ?_
  refine wl_nil ?_
  refine aq_seq ?_
  refine wc_else rfl ?_
  refine wc_exit ?_
  refine aq_thru_exit ?_
  refine aq_thru_exit ?_
  refine aq_blk_exit ?_
  refine aq_return (.inr rfl) rfl (rfl) ?_
  intro w' m
  exact ⟨(), rfl, m⟩

theorem growInt_no (w : World) (own : List Nat) (bk k : Nat) (ah : Option Addr) (m hc : Nat) (hm : Mem w own [.blk bk (.cells (#[ki ((k : Int)), .slice ah m hc, .slice none 0 0, .slice none 0 0, .slice none 0 0, .slice none 0 0, .slice none 0 0, .slice none 0 0, .slice none 0 0, .slice none 0 0, .slice none 0 0, .slice none 0 0, .slice none 0 0]) 42 (0, 0))] w) :
    Calls Tryz.prog 33 #[.pointer (some ⟨bk, 0, none⟩)] w (Ret (fun _ : Unit => .tuple #[]) (fun _ => Mem w own [.blk bk (.cells (#[ki ((k : Int)), .slice ah m hc, .slice none 0 0, .slice none 0 0, .slice none 0 0, .slice none 0 0, .slice none 0 0, .slice none 0 0, .slice none 0 0, .slice none 0 0, .slice none 0 0, .slice none 0 0, .slice none 0 0]) 42 (0, 0))])) := by
  refine calls_of Tryz.func33 rfl rfl (L := [(0, .pointer (some ⟨bk, 0, none⟩))]) ⟨rfl, trivial⟩ (m := 42) (Nat.le_of_ble_eq_true rfl) (M := Mem w own [.blk bk (.cells (#[ki ((k : Int)), .slice ah m hc, .slice none 0 0, .slice none 0 0, .slice none 0 0, .slice none 0 0, .slice none 0 0, .slice none 0 0, .slice none 0 0, .slice none 0 0, .slice none 0 0, .slice none 0 0, .slice none 0 0]) 42 (0, 0))]) (hm) ?_
  refine wc_seq ?_
  refine wc_region ?_
  refine wl_y (y_assign rfl) ?_
  refine wl_nil ?_
  refine aq_seq ?_
  refine wc_block ?_
  refine wc_unroll (wh_round ?_)
  refine wc_seq ?_
  refine wc_seq ?_
  refine wc_region ?_
  refine wl_y (y_move rfl) ?_
  refine wl_y (y_move rfl) ?_
  refine wl_y (y_nilCheck rfl) ?_
  refine wl_y (y_fieldAddr fd42_3 sz31 rfl) ?_
  refine wl_y (y_load sc31 rfl (c_blk (i := 0) rfl rfl)) ?_
  refine wl_y (y_len_sl sl31 (m := 0) rfl rfl) ?_
  refine wl_y (y_bin rfl rfl (show bin .lss (ki 0) (ki 0) = some (kb false) from rfl)) ?_
  refine wl_nil ?_
  refine aq_seq ?_
  refine wc_else rfl ?_
  refine wc_exit ?_
  refine aq_thru_exit ?_
  refine aq_thru_exit ?_
  refine aq_blk_exit ?_
  refine aq_return (.inr rfl) rfl (rfl) ?_
  intro w' m
  exact ⟨(), rfl, m⟩

theorem growText_no (w : World) (own : List Nat) (bk k : Nat) (ah : Option Addr) (m hc : Nat) (hm : Mem w own [.blk bk (.cells (#[ki ((k : Int)), .slice ah m hc, .slice none 0 0, .slice none 0 0, .slice none 0 0, .slice none 0 0, .slice none 0 0, .slice none 0 0, .slice none 0 0, .slice none 0 0, .slice none 0 0, .slice none 0 0, .slice none 0 0]) 42 (0, 0))] w) :
    Calls Tryz.prog 34 #[.pointer (some ⟨bk, 0, none⟩)] w (Ret (fun _ : Unit => .tuple #[]) (fun _ => Mem w own [.blk bk (.cells (#[ki ((k : Int)), .slice ah m hc, .slice none 0 0, .slice none 0 0, .slice none 0 0, .slice none 0 0, .slice none 0 0, .slice none 0 0, .slice none 0 0, .slice none 0 0, .slice none 0 0, .slice none 0 0, .slice none 0 0]) 42 (0, 0))])) := by
  refine calls_of Tryz.func34 rfl rfl (L := [(0, .pointer (some ⟨bk, 0, none⟩))]) ⟨rfl, trivial⟩ (m := 42) (Nat.le_of_ble_eq_true rfl) (M := Mem w own [.blk bk (.cells (#[ki ((k : Int)), .slice ah m hc, .slice none 0 0, .slice none 0 0, .slice none 0 0, .slice none 0 0, .slice none 0 0, .slice none 0 0, .slice none 0 0, .slice none 0 0, .slice none 0 0, .slice none 0 0, .slice none 0 0]) 42 (0, 0))]) (hm) ?_
  refine wc_seq ?_
  refine wc_region ?_
  refine wl_y (y_assign rfl) ?_
  refine wl_nil ?_
  refine aq_seq ?_
  refine wc_block ?_
  refine wc_unroll (wh_round ?_)
  refine wc_seq ?_
  refine wc_seq ?_
  refine wc_region ?_
  refine wl_y (y_move rfl) ?_
  refine wl_y (y_move rfl) ?_
  refine wl_y (y_nilCheck rfl) ?_
  refine wl_y (y_fieldAddr fd42_4 sz32 rfl) ?_
  refine wl_y (y_load sc32 rfl (c_blk (i := 0) rfl rfl)) ?_
  refine wl_y (y_len_sl sl32 (m := 0) rfl rfl) ?_
  refine wl_y (y_bin rfl rfl (show bin .lss (ki 0) (ki 0) = some (kb false) from rfl)) ?_
  refine wl_nil ?_
  refine aq_seq ?_
  refine wc_else rfl ?_
  refine wc_exit ?_
  refine aq_thru_exit ?_
  refine aq_thru_exit ?_
  refine aq_blk_exit ?_
  refine aq_return (.inr rfl) rfl (rfl) ?_
  intro w' m
  exact ⟨(), rfl, m⟩

theorem growBlob_no (w : World) (own : List Nat) (bk k : Nat) (ah : Option Addr) (m hc : Nat) (hm : Mem w own [.blk bk (.cells (#[ki ((k : Int)), .slice ah m hc, .slice none 0 0, .slice none 0 0, .slice none 0 0, .slice none 0 0, .slice none 0 0, .slice none 0 0, .slice none 0 0, .slice none 0 0, .slice none 0 0, .slice none 0 0, .slice none 0 0]) 42 (0, 0))] w) :
    Calls Tryz.prog 35 #[.pointer (some ⟨bk, 0, none⟩)] w (Ret (fun _ : Unit => .tuple #[]) (fun _ => Mem w own [.blk bk (.cells (#[ki ((k : Int)), .slice ah m hc, .slice none 0 0, .slice none 0 0, .slice none 0 0, .slice none 0 0, .slice none 0 0, .slice none 0 0, .slice none 0 0, .slice none 0 0, .slice none 0 0, .slice none 0 0, .slice none 0 0]) 42 (0, 0))])) := by
  refine calls_of Tryz.func35 rfl rfl (L := [(0, .pointer (some ⟨bk, 0, none⟩))]) ⟨rfl, trivial⟩ (m := 42) (Nat.le_of_ble_eq_true rfl) (M := Mem w own [.blk bk (.cells (#[ki ((k : Int)), .slice ah m hc, .slice none 0 0, .slice none 0 0, .slice none 0 0, .slice none 0 0, .slice none 0 0, .slice none 0 0, .slice none 0 0, .slice none 0 0, .slice none 0 0, .slice none 0 0, .slice none 0 0]) 42 (0, 0))]) (hm) ?_
  refine wc_seq ?_
  refine wc_region ?_
  refine wl_y (y_assign rfl) ?_
  refine wl_nil ?_
  refine aq_seq ?_
  refine wc_block ?_
  refine wc_unroll (wh_round ?_)
  refine wc_seq ?_
  refine wc_seq ?_
  refine wc_region ?_
  refine wl_y (y_move rfl) ?_
  refine wl_y (y_move rfl) ?_
  refine wl_y (y_nilCheck rfl) ?_
  refine wl_y (y_fieldAddr fd42_5 sz33 rfl) ?_
  refine wl_y (y_load sc33 rfl (c_blk (i := 0) rfl rfl)) ?_
  refine wl_y (y_len_sl sl33 (m := 0) rfl rfl) ?_
  refine wl_y (y_bin rfl rfl (show bin .lss (ki 0) (ki 0) = some (kb false) from rfl)) ?_
  refine wl_nil ?_
  refine aq_seq ?_
  refine wc_else rfl ?_
  refine wc_exit ?_
  refine aq_thru_exit ?_
  refine aq_thru_exit ?_
  refine aq_blk_exit ?_
  refine aq_return (.inr rfl) rfl (rfl) ?_
  intro w' m
  exact ⟨(), rfl, m⟩

theorem growRange_no (w : World) (own : List Nat) (bk k : Nat) (ah : Option Addr) (m hc : Nat) (hm : Mem w own [.blk bk (.cells (#[ki ((k : Int)), .slice ah m hc, .slice none 0 0, .slice none 0 0, .slice none 0 0, .slice none 0 0, .slice none 0 0, .slice none 0 0, .slice none 0 0, .slice none 0 0, .slice none 0 0, .slice none 0 0, .slice none 0 0]) 42 (0, 0))] w) :
    Calls Tryz.prog 36 #[.pointer (some ⟨bk, 0, none⟩)] w (Ret (fun _ : Unit => .tuple #[]) (fun _ => Mem w own [.blk bk (.cells (#[ki ((k : Int)), .slice ah m hc, .slice none 0 0, .slice none 0 0, .slice none 0 0, .slice none 0 0, .slice none 0 0, .slice none 0 0, .slice none 0 0, .slice none 0 0, .slice none 0 0, .slice none 0 0, .slice none 0 0]) 42 (0, 0))])) := by
  refine calls_of Tryz.func36 rfl rfl (L := [(0, .pointer (some ⟨bk, 0, none⟩))]) ⟨rfl, trivial⟩ (m := 42) (Nat.le_of_ble_eq_true rfl) (M := Mem w own [.blk bk (.cells (#[ki ((k : Int)), .slice ah m hc, .slice none 0 0, .slice none 0 0, .slice none 0 0, .slice none 0 0, .slice none 0 0, .slice none 0 0, .slice none 0 0, .slice none 0 0, .slice none 0 0, .slice none 0 0, .slice none 0 0]) 42 (0, 0))]) (hm) ?_
  refine wc_seq ?_
  refine wc_region ?_
  refine wl_y (y_assign rfl) ?_
  refine wl_nil ?_
  refine aq_seq ?_
  refine wc_block ?_
  refine wc_unroll (wh_round ?_)
  refine wc_seq ?_
  refine wc_seq ?_
  refine wc_region ?_
  refine wl_y (y_move rfl) ?_
  refine wl_y (y_move rfl) ?_
  refine wl_y (y_nilCheck rfl) ?_
  refine wl_y (y_fieldAddr fd42_6 sz34 rfl) ?_
  refine wl_y (y_load sc34 rfl (c_blk (i := 0) rfl rfl)) ?_
  refine wl_y (y_len_sl sl34 (m := 0) rfl rfl) ?_
  refine wl_y (y_bin rfl rfl (show bin .lss (ki 0) (ki 0) = some (kb false) from rfl)) ?_
  refine wl_nil ?_
  refine aq_seq ?_
  refine wc_else rfl ?_
  refine wc_exit ?_
  refine aq_thru_exit ?_
  refine aq_thru_exit ?_
  refine aq_blk_exit ?_
  refine aq_return (.inr rfl) rfl (rfl) ?_
  intro w' m
  exact ⟨(), rfl, m⟩

theorem growFrame_no (w : World) (own : List Nat) (bk k : Nat) (ah : Option Addr) (m hc : Nat) (hm : Mem w own [.blk bk (.cells (#[ki ((k : Int)), .slice ah m hc, .slice none 0 0, .slice none 0 0, .slice none 0 0, .slice none 0 0, .slice none 0 0, .slice none 0 0, .slice none 0 0, .slice none 0 0, .slice none 0 0, .slice none 0 0, .slice none 0 0]) 42 (0, 0))] w) :
    Calls Tryz.prog 37 #[.pointer (some ⟨bk, 0, none⟩)] w (Ret (fun _ : Unit => .tuple #[]) (fun _ => Mem w own [.blk bk (.cells (#[ki ((k : Int)), .slice ah m hc, .slice none 0 0, .slice none 0 0, .slice none 0 0, .slice none 0 0, .slice none 0 0, .slice none 0 0, .slice none 0 0, .slice none 0 0, .slice none 0 0, .slice none 0 0, .slice none 0 0]) 42 (0, 0))])) := by
  refine calls_of Tryz.func37 rfl rfl (L := [(0, .pointer (some ⟨bk, 0, none⟩))]) ⟨rfl, trivial⟩ (m := 42) (Nat.le_of_ble_eq_true rfl) (M := Mem w own [.blk bk (.cells (#[ki ((k : Int)), .slice ah m hc, .slice none 0 0, .slice none 0 0, .slice none 0 0, .slice none 0 0, .slice none 0 0, .slice none 0 0, .slice none 0 0, .slice none 0 0, .slice none 0 0, .slice none 0 0, .slice none 0 0]) 42 (0, 0))]) (hm) ?_
  refine wc_seq ?_
  refine wc_region ?_
  refine wl_y (y_assign rfl) ?_
  refine wl_nil ?_
  refine aq_seq ?_
  refine wc_block ?_
  refine wc_unroll (wh_round ?_)
  refine wc_seq ?_
  refine wc_seq ?_
  refine wc_region ?_
  refine wl_y (y_move rfl) ?_
  refine wl_y (y_move rfl) ?_
  refine wl_y (y_nilCheck rfl) ?_
  refine wl_y (y_fieldAddr fd42_7 sz35 rfl) ?_
  refine wl_y (y_load sc35 rfl (c_blk (i := 0) rfl rfl)) ?_
  refine wl_y (y_len_sl sl35 (m := 0) rfl rfl) ?_
  refine wl_y (y_bin rfl rfl (show bin .lss (ki 0) (ki 0) = some (kb false) from rfl)) ?_
  refine wl_nil ?_
  refine aq_seq ?_
  refine wc_else rfl ?_
  refine wc_exit ?_
  refine aq_thru_exit ?_
  refine aq_thru_exit ?_
  refine aq_blk_exit ?_
  refine aq_return (.inr rfl) rfl (rfl) ?_
  intro w' m
  exact ⟨(), rfl, m⟩

theorem growField_no (w : World) (own : List Nat) (bk k : Nat) (ah : Option Addr) (m hc : Nat) (hm : Mem w own [.blk bk (.cells (#[ki ((k : Int)), .slice ah m hc, .slice none 0 0, .slice none 0 0, .slice none 0 0, .slice none 0 0, .slice none 0 0, .slice none 0 0, .slice none 0 0, .slice none 0 0, .slice none 0 0, .slice none 0 0, .slice none 0 0]) 42 (0, 0))] w) :
    Calls Tryz.prog 38 #[.pointer (some ⟨bk, 0, none⟩)] w (Ret (fun _ : Unit => .tuple #[]) (fun _ => Mem w own [.blk bk (.cells (#[ki ((k : Int)), .slice ah m hc, .slice none 0 0, .slice none 0 0, .slice none 0 0, .slice none 0 0, .slice none 0 0, .slice none 0 0, .slice none 0 0, .slice none 0 0, .slice none 0 0, .slice none 0 0, .slice none 0 0]) 42 (0, 0))])) := by
  refine calls_of Tryz.func38 rfl rfl (L := [(0, .pointer (some ⟨bk, 0, none⟩))]) ⟨rfl, trivial⟩ (m := 42) (Nat.le_of_ble_eq_true rfl) (M := Mem w own [.blk bk (.cells (#[ki ((k : Int)), .slice ah m hc, .slice none 0 0, .slice none 0 0, .slice none 0 0, .slice none 0 0, .slice none 0 0, .slice none 0 0, .slice none 0 0, .slice none 0 0, .slice none 0 0, .slice none 0 0, .slice none 0 0]) 42 (0, 0))]) (hm) ?_
  refine wc_seq ?_
  refine wc_region ?_
  refine wl_y (y_assign rfl) ?_
  refine wl_nil ?_
  refine aq_seq ?_
  refine wc_block ?_
  refine wc_unroll (wh_round ?_)
  refine wc_seq ?_
  refine wc_seq ?_
  refine wc_region ?_
  refine wl_y (y_move rfl) ?_
  refine wl_y (y_move rfl) ?_
  refine wl_y (y_nilCheck rfl) ?_
  refine wl_y (y_fieldAddr fd42_8 sz36 rfl) ?_
  refine wl_y (y_load sc36 rfl (c_blk (i := 0) rfl rfl)) ?_
  refine wl_y (y_len_sl sl36 (m := 0) rfl rfl) ?_
  refine wl_y (y_bin rfl rfl (show bin .lss (ki 0) (ki 0) = some (kb false) from rfl)) ?_
  refine wl_nil ?_
  refine aq_seq ?_
  refine wc_else rfl ?_
  refine wc_exit ?_
  refine aq_thru_exit ?_
  refine aq_thru_exit ?_
  refine aq_blk_exit ?_
  refine aq_return (.inr rfl) rfl (rfl) ?_
  intro w' m
  exact ⟨(), rfl, m⟩

theorem growMessage_no (w : World) (own : List Nat) (bk k : Nat) (ah : Option Addr) (m hc : Nat) (hm : Mem w own [.blk bk (.cells (#[ki ((k : Int)), .slice ah m hc, .slice none 0 0, .slice none 0 0, .slice none 0 0, .slice none 0 0, .slice none 0 0, .slice none 0 0, .slice none 0 0, .slice none 0 0, .slice none 0 0, .slice none 0 0, .slice none 0 0]) 42 (0, 0))] w) :
    Calls Tryz.prog 39 #[.pointer (some ⟨bk, 0, none⟩)] w (Ret (fun _ : Unit => .tuple #[]) (fun _ => Mem w own [.blk bk (.cells (#[ki ((k : Int)), .slice ah m hc, .slice none 0 0, .slice none 0 0, .slice none 0 0, .slice none 0 0, .slice none 0 0, .slice none 0 0, .slice none 0 0, .slice none 0 0, .slice none 0 0, .slice none 0 0, .slice none 0 0]) 42 (0, 0))])) := by
  refine calls_of Tryz.func39 rfl rfl (L := [(0, .pointer (some ⟨bk, 0, none⟩))]) ⟨rfl, trivial⟩ (m := 42) (Nat.le_of_ble_eq_true rfl) (M := Mem w own [.blk bk (.cells (#[ki ((k : Int)), .slice ah m hc, .slice none 0 0, .slice none 0 0, .slice none 0 0, .slice none 0 0, .slice none 0 0, .slice none 0 0, .slice none 0 0, .slice none 0 0, .slice none 0 0, .slice none 0 0, .slice none 0 0]) 42 (0, 0))]) (hm) ?_
  refine wc_seq ?_
  refine wc_region ?_
  refine wl_y (y_assign rfl) ?_
  refine wl_nil ?_
  refine aq_seq ?_
  refine wc_block ?_
  refine wc_unroll (wh_round ?_)
  refine wc_seq ?_
  refine wc_seq ?_
  refine wc_region ?_
  refine wl_y (y_move rfl) ?_
  refine wl_y (y_move rfl) ?_
  refine wl_y (y_nilCheck rfl) ?_
  refine wl_y (y_fieldAddr fd42_9 sz37 rfl) ?_
  refine wl_y (y_load sc37 rfl (c_blk (i := 0) rfl rfl)) ?_
  refine wl_y (y_len_sl sl37 (m := 0) rfl rfl) ?_
  refine wl_y (y_bin rfl rfl (show bin .lss (ki 0) (ki 0) = some (kb false) from rfl)) ?_
  refine wl_nil ?_
  refine aq_seq ?_
  refine wc_else rfl ?_
  refine wc_exit ?_
  refine aq_thru_exit ?_
  refine aq_thru_exit ?_
  refine aq_blk_exit ?_
  refine aq_return (.inr rfl) rfl (rfl) ?_
  intro w' m
  exact ⟨(), rfl, m⟩

theorem growRule_no (w : World) (own : List Nat) (bk k : Nat) (ah : Option Addr) (m hc : Nat) (hm : Mem w own [.blk bk (.cells (#[ki ((k : Int)), .slice ah m hc, .slice none 0 0, .slice none 0 0, .slice none 0 0, .slice none 0 0, .slice none 0 0, .slice none 0 0, .slice none 0 0, .slice none 0 0, .slice none 0 0, .slice none 0 0, .slice none 0 0]) 42 (0, 0))] w) :
    Calls Tryz.prog 40 #[.pointer (some ⟨bk, 0, none⟩)] w (Ret (fun _ : Unit => .tuple #[]) (fun _ => Mem w own [.blk bk (.cells (#[ki ((k : Int)), .slice ah m hc, .slice none 0 0, .slice none 0 0, .slice none 0 0, .slice none 0 0, .slice none 0 0, .slice none 0 0, .slice none 0 0, .slice none 0 0, .slice none 0 0, .slice none 0 0, .slice none 0 0]) 42 (0, 0))])) := by
  refine calls_of Tryz.func40 rfl rfl (L := [(0, .pointer (some ⟨bk, 0, none⟩))]) ⟨rfl, trivial⟩ (m := 42) (Nat.le_of_ble_eq_true rfl) (M := Mem w own [.blk bk (.cells (#[ki ((k : Int)), .slice ah m hc, .slice none 0 0, .slice none 0 0, .slice none 0 0, .slice none 0 0, .slice none 0 0, .slice none 0 0, .slice none 0 0, .slice none 0 0, .slice none 0 0, .slice none 0 0, .slice none 0 0]) 42 (0, 0))]) (hm) ?_
  refine wc_seq ?_
  refine wc_region ?_
  refine wl_y (y_assign rfl) ?_
  refine wl_nil ?_
  refine aq_seq ?_
  refine wc_block ?_
  refine wc_unroll (wh_round ?_)
  refine wc_seq ?_
  refine wc_seq ?_
  refine wc_region ?_
  refine wl_y (y_move rfl) ?_
  refine wl_y (y_move rfl) ?_
  refine wl_y (y_nilCheck rfl) ?_
  refine wl_y (y_fieldAddr fd42_10 sz38 rfl) ?_
  refine wl_y (y_load sc38 rfl (c_blk (i := 0) rfl rfl)) ?_
  refine wl_y (y_len_sl sl38 (m := 0) rfl rfl) ?_
  refine wl_y (y_bin rfl rfl (show bin .lss (ki 0) (ki 0) = some (kb false) from rfl)) ?_
  refine wl_nil ?_
  refine aq_seq ?_
  refine wc_else rfl ?_
  refine wc_exit ?_
  refine aq_thru_exit ?_
  refine aq_thru_exit ?_
  refine aq_blk_exit ?_
  refine aq_return (.inr rfl) rfl (rfl) ?_
  intro w' m
  exact ⟨(), rfl, m⟩

theorem growEvent_no (w : World) (own : List Nat) (bk k : Nat) (ah : Option Addr) (m hc : Nat) (hm : Mem w own [.blk bk (.cells (#[ki ((k : Int)), .slice ah m hc, .slice none 0 0, .slice none 0 0, .slice none 0 0, .slice none 0 0, .slice none 0 0, .slice none 0 0, .slice none 0 0, .slice none 0 0, .slice none 0 0, .slice none 0 0, .slice none 0 0]) 42 (0, 0))] w) :
    Calls Tryz.prog 41 #[.pointer (some ⟨bk, 0, none⟩)] w (Ret (fun _ : Unit => .tuple #[]) (fun _ => Mem w own [.blk bk (.cells (#[ki ((k : Int)), .slice ah m hc, .slice none 0 0, .slice none 0 0, .slice none 0 0, .slice none 0 0, .slice none 0 0, .slice none 0 0, .slice none 0 0, .slice none 0 0, .slice none 0 0, .slice none 0 0, .slice none 0 0]) 42 (0, 0))])) := by
  refine calls_of Tryz.func41 rfl rfl (L := [(0, .pointer (some ⟨bk, 0, none⟩))]) ⟨rfl, trivial⟩ (m := 42) (Nat.le_of_ble_eq_true rfl) (M := Mem w own [.blk bk (.cells (#[ki ((k : Int)), .slice ah m hc, .slice none 0 0, .slice none 0 0, .slice none 0 0, .slice none 0 0, .slice none 0 0, .slice none 0 0, .slice none 0 0, .slice none 0 0, .slice none 0 0, .slice none 0 0, .slice none 0 0]) 42 (0, 0))]) (hm) ?_
  refine wc_seq ?_
  refine wc_region ?_
  refine wl_y (y_assign rfl) ?_
  refine wl_nil ?_
  refine aq_seq ?_
  refine wc_block ?_
  refine wc_unroll (wh_round ?_)
  refine wc_seq ?_
  refine wc_seq ?_
  refine wc_region ?_
  refine wl_y (y_move rfl) ?_
  refine wl_y (y_move rfl) ?_
  refine wl_y (y_nilCheck rfl) ?_
  refine wl_y (y_fieldAddr fd42_11 sz39 rfl) ?_
  refine wl_y (y_load sc39 rfl (c_blk (i := 0) rfl rfl)) ?_
  refine wl_y (y_len_sl sl39 (m := 0) rfl rfl) ?_
  refine wl_y (y_bin rfl rfl (show bin .lss (ki 0) (ki 0) = some (kb false) from rfl)) ?_
  refine wl_nil ?_
  refine aq_seq ?_
  refine wc_else rfl ?_
  refine wc_exit ?_
  refine aq_thru_exit ?_
  refine aq_thru_exit ?_
  refine aq_blk_exit ?_
  refine aq_return (.inr rfl) rfl (rfl) ?_
  intro w' m
  exact ⟨(), rfl, m⟩

theorem growReply_no (w : World) (own : List Nat) (bk k : Nat) (ah : Option Addr) (m hc : Nat) (hm : Mem w own [.blk bk (.cells (#[ki ((k : Int)), .slice ah m hc, .slice none 0 0, .slice none 0 0, .slice none 0 0, .slice none 0 0, .slice none 0 0, .slice none 0 0, .slice none 0 0, .slice none 0 0, .slice none 0 0, .slice none 0 0, .slice none 0 0]) 42 (0, 0))] w) :
    Calls Tryz.prog 42 #[.pointer (some ⟨bk, 0, none⟩)] w (Ret (fun _ : Unit => .tuple #[]) (fun _ => Mem w own [.blk bk (.cells (#[ki ((k : Int)), .slice ah m hc, .slice none 0 0, .slice none 0 0, .slice none 0 0, .slice none 0 0, .slice none 0 0, .slice none 0 0, .slice none 0 0, .slice none 0 0, .slice none 0 0, .slice none 0 0, .slice none 0 0]) 42 (0, 0))])) := by
  refine calls_of Tryz.func42 rfl rfl (L := [(0, .pointer (some ⟨bk, 0, none⟩))]) ⟨rfl, trivial⟩ (m := 42) (Nat.le_of_ble_eq_true rfl) (M := Mem w own [.blk bk (.cells (#[ki ((k : Int)), .slice ah m hc, .slice none 0 0, .slice none 0 0, .slice none 0 0, .slice none 0 0, .slice none 0 0, .slice none 0 0, .slice none 0 0, .slice none 0 0, .slice none 0 0, .slice none 0 0, .slice none 0 0]) 42 (0, 0))]) (hm) ?_
  refine wc_seq ?_
  refine wc_region ?_
  refine wl_y (y_assign rfl) ?_
  refine wl_nil ?_
  refine aq_seq ?_
  refine wc_block ?_
  refine wc_unroll (wh_round ?_)
  refine wc_seq ?_
  refine wc_seq ?_
  refine wc_region ?_
  refine wl_y (y_move rfl) ?_
  refine wl_y (y_move rfl) ?_
  refine wl_y (y_nilCheck rfl) ?_
  refine wl_y (y_fieldAddr fd42_12 sz40 rfl) ?_
  refine wl_y (y_load sc40 rfl (c_blk (i := 0) rfl rfl)) ?_
  refine wl_y (y_len_sl sl40 (m := 0) rfl rfl) ?_
  refine wl_y (y_bin rfl rfl (show bin .lss (ki 0) (ki 0) = some (kb false) from rfl)) ?_
  refine wl_nil ?_
  refine aq_seq ?_
  refine wc_else rfl ?_
  refine wc_exit ?_
  refine aq_thru_exit ?_
  refine aq_thru_exit ?_
  refine aq_blk_exit ?_
  refine aq_return (.inr rfl) rfl (rfl) ?_
  intro w' m
  exact ⟨(), rfl, m⟩

theorem lookNumber_no (w : World) (own : List Nat) (bk k : Nat) (ah : Option Addr) (m hc : Nat) (hm : Mem w own [.blk bk (.cells (#[ki ((k : Int)), .slice ah m hc, .slice none 0 0, .slice none 0 0, .slice none 0 0, .slice none 0 0, .slice none 0 0, .slice none 0 0, .slice none 0 0, .slice none 0 0, .slice none 0 0, .slice none 0 0, .slice none 0 0]) 42 (0, 0))] w) :
    Calls Tryz.prog 44 #[.pointer (some ⟨bk, 0, none⟩)] w (Ret (fun _ : Unit => kb true) (fun _ => Mem w own [.blk bk (.cells (#[ki ((k : Int)), .slice ah m hc, .slice none 0 0, .slice none 0 0, .slice none 0 0, .slice none 0 0, .slice none 0 0, .slice none 0 0, .slice none 0 0, .slice none 0 0, .slice none 0 0, .slice none 0 0, .slice none 0 0]) 42 (0, 0))])) := by
  refine calls_of Tryz.func44 rfl rfl (L := [(0, .pointer (some ⟨bk, 0, none⟩))]) ⟨rfl, trivial⟩ (m := 64) (Nat.le_of_ble_eq_true rfl) (M := Mem w own [.blk bk (.cells (#[ki ((k : Int)), .slice ah m hc, .slice none 0 0, .slice none 0 0, .slice none 0 0, .slice none 0 0, .slice none 0 0, .slice none 0 0, .slice none 0 0, .slice none 0 0, .slice none 0 0, .slice none 0 0, .slice none 0 0]) 42 (0, 0))]) (hm) ?_
  refine wc_seq ?_
  refine wc_region ?_
  refine wl_y (y_assign rfl) ?_
  refine wl_nil ?_
  refine aq_seq ?_
  refine wc_seq ?_
  refine wc_seq ?_
  refine wc_region ?_
  refine wl_y (y_assign rfl) ?_
  refine wl_nil ?_
  refine aq_seq ?_
  refine wc_block ?_
  refine wc_unroll (wh_round ?_)
  refine wc_seq ?_
  refine wc_seq ?_
  refine wc_region ?_
  refine wl_y (y_move rfl) ?_
  refine wl_y (y_move rfl) ?_
  refine wl_y (y_nilCheck rfl) ?_
  refine wl_y (y_fieldAddr fd42_2 sz30 rfl) ?_
  refine wl_y (y_load sc30 rfl (c_blk (i := 0) rfl rfl)) ?_
  refine wl_y (y_len_sl sl30 (m := 0) rfl rfl) ?_
  refine wl_y (y_bin rfl rfl (show bin .lss (ki 0) (ki 0) = some (kb false) from rfl)) ?_
  refine wl_nil ?_
  refine aq_seq ?_
  refine wc_else rfl ?_
  refine wc_exit ?_
  refine aq_thru_exit ?_
  refine aq_thru_exit ?_
  refine aq_blk_exit ?_
  refine aq_seq ?_
  refine wc_seq ?_
  refine wc_region ?_
  refine wl_y (y_assign rfl) ?_
  refine wl_nil ?_
  refine aq_seq ?_
  refine wc_ret ?_
  refine aq_return (.inl rfl) rfl (⟨_, _, rfl, rfl, rfl⟩) ?_
  intro w' m
  exact ⟨(), rfl, m⟩

theorem lookInt_no (w : World) (own : List Nat) (bk k : Nat) (ah : Option Addr) (m hc : Nat) (hm : Mem w own [.blk bk (.cells (#[ki ((k : Int)), .slice ah m hc, .slice none 0 0, .slice none 0 0, .slice none 0 0, .slice none 0 0, .slice none 0 0, .slice none 0 0, .slice none 0 0, .slice none 0 0, .slice none 0 0, .slice none 0 0, .slice none 0 0]) 42 (0, 0))] w) :
    Calls Tryz.prog 45 #[.pointer (some ⟨bk, 0, none⟩)] w (Ret (fun _ : Unit => kb true) (fun _ => Mem w own [.blk bk (.cells (#[ki ((k : Int)), .slice ah m hc, .slice none 0 0, .slice none 0 0, .slice none 0 0, .slice none 0 0, .slice none 0 0, .slice none 0 0, .slice none 0 0, .slice none 0 0, .slice none 0 0, .slice none 0 0, .slice none 0 0]) 42 (0, 0))])) := by
  refine calls_of Tryz.func45 rfl rfl (L := [(0, .pointer (some ⟨bk, 0, none⟩))]) ⟨rfl, trivial⟩ (m := 64) (Nat.le_of_ble_eq_true rfl) (M := Mem w own [.blk bk (.cells (#[ki ((k : Int)), .slice ah m hc, .slice none 0 0, .slice none 0 0, .slice none 0 0, .slice none 0 0, .slice none 0 0, .slice none 0 0, .slice none 0 0, .slice none 0 0, .slice none 0 0, .slice none 0 0, .slice none 0 0]) 42 (0, 0))]) (hm) ?_
  refine wc_seq ?_
  refine wc_region ?_
  refine wl_y (y_assign rfl) ?_
  refine wl_nil ?_
  refine aq_seq ?_
  refine wc_seq ?_
  refine wc_seq ?_
  refine wc_region ?_
  refine wl_y (y_assign rfl) ?_
  refine wl_nil ?_
  refine aq_seq ?_
  refine wc_block ?_
  refine wc_unroll (wh_round ?_)
  refine wc_seq ?_
  refine wc_seq ?_
  refine wc_region ?_
  refine wl_y (y_move rfl) ?_
  refine wl_y (y_move rfl) ?_
  refine wl_y (y_nilCheck rfl) ?_
  refine wl_y (y_fieldAddr fd42_3 sz31 rfl) ?_
  refine wl_y (y_load sc31 rfl (c_blk (i := 0) rfl rfl)) ?_
  refine wl_y (y_len_sl sl31 (m := 0) rfl rfl) ?_
  refine wl_y (y_bin rfl rfl (show bin .lss (ki 0) (ki 0) = some (kb false) from rfl)) ?_
  refine wl_nil ?_
  refine aq_seq ?_
  refine wc_else rfl ?_
  refine wc_exit ?_
  refine aq_thru_exit ?_
  refine aq_thru_exit ?_
  refine aq_blk_exit ?_
  refine aq_seq ?_
  refine wc_seq ?_
  refine wc_region ?_
  refine wl_y (y_assign rfl) ?_
  refine wl_nil ?_
  refine aq_seq ?_
  refine wc_ret ?_
  refine aq_return (.inl rfl) rfl (⟨_, _, rfl, rfl, rfl⟩) ?_
  intro w' m
  exact ⟨(), rfl, m⟩

theorem lookText_no (w : World) (own : List Nat) (bk k : Nat) (ah : Option Addr) (m hc : Nat) (hm : Mem w own [.blk bk (.cells (#[ki ((k : Int)), .slice ah m hc, .slice none 0 0, .slice none 0 0, .slice none 0 0, .slice none 0 0, .slice none 0 0, .slice none 0 0, .slice none 0 0, .slice none 0 0, .slice none 0 0, .slice none 0 0, .slice none 0 0]) 42 (0, 0))] w) :
    Calls Tryz.prog 46 #[.pointer (some ⟨bk, 0, none⟩)] w (Ret (fun _ : Unit => kb true) (fun _ => Mem w own [.blk bk (.cells (#[ki ((k : Int)), .slice ah m hc, .slice none 0 0, .slice none 0 0, .slice none 0 0, .slice none 0 0, .slice none 0 0, .slice none 0 0, .slice none 0 0, .slice none 0 0, .slice none 0 0, .slice none 0 0, .slice none 0 0]) 42 (0, 0))])) := by
  refine calls_of Tryz.func46 rfl rfl (L := [(0, .pointer (some ⟨bk, 0, none⟩))]) ⟨rfl, trivial⟩ (m := 64) (Nat.le_of_ble_eq_true rfl) (M := Mem w own [.blk bk (.cells (#[ki ((k : Int)), .slice ah m hc, .slice none 0 0, .slice none 0 0, .slice none 0 0, .slice none 0 0, .slice none 0 0, .slice none 0 0, .slice none 0 0, .slice none 0 0, .slice none 0 0, .slice none 0 0, .slice none 0 0]) 42 (0, 0))]) (hm) ?_
  refine wc_seq ?_
  refine wc_region ?_
  refine wl_y (y_assign rfl) ?_
  refine wl_nil ?_
  refine aq_seq ?_
  refine wc_seq ?_
  refine wc_seq ?_
  refine wc_region ?_
  refine wl_y (y_assign rfl) ?_
  refine wl_nil ?_
  refine aq_seq ?_
  refine wc_block ?_
  refine wc_unroll (wh_round ?_)
  refine wc_seq ?_
  refine wc_seq ?_
  refine wc_region ?_
  refine wl_y (y_move rfl) ?_
  refine wl_y (y_move rfl) ?_
  refine wl_y (y_nilCheck rfl) ?_
  refine wl_y (y_fieldAddr fd42_4 sz32 rfl) ?_
  refine wl_y (y_load sc32 rfl (c_blk (i := 0) rfl rfl)) ?_
  refine wl_y (y_len_sl sl32 (m := 0) rfl rfl) ?_
  refine wl_y (y_bin rfl rfl (show bin .lss (ki 0) (ki 0) = some (kb false) from rfl)) ?_
  refine wl_nil ?_
  refine aq_seq ?_
  refine wc_else rfl ?_
  refine wc_exit ?_
  refine aq_thru_exit ?_
  refine aq_thru_exit ?_
  refine aq_blk_exit ?_
  refine aq_seq ?_
  refine wc_seq ?_
  refine wc_region ?_
  refine wl_y (y_assign rfl) ?_
  refine wl_nil ?_
  refine aq_seq ?_
  refine wc_ret ?_
  refine aq_return (.inl rfl) rfl (⟨_, _, rfl, rfl, rfl⟩) ?_
  intro w' m
  exact ⟨(), rfl, m⟩

theorem lookBlob_no (w : World) (own : List Nat) (bk k : Nat) (ah : Option Addr) (m hc : Nat) (hm : Mem w own [.blk bk (.cells (#[ki ((k : Int)), .slice ah m hc, .slice none 0 0, .slice none 0 0, .slice none 0 0, .slice none 0 0, .slice none 0 0, .slice none 0 0, .slice none 0 0, .slice none 0 0, .slice none 0 0, .slice none 0 0, .slice none 0 0]) 42 (0, 0))] w) :
    Calls Tryz.prog 47 #[.pointer (some ⟨bk, 0, none⟩)] w (Ret (fun _ : Unit => kb true) (fun _ => Mem w own [.blk bk (.cells (#[ki ((k : Int)), .slice ah m hc, .slice none 0 0, .slice none 0 0, .slice none 0 0, .slice none 0 0, .slice none 0 0, .slice none 0 0, .slice none 0 0, .slice none 0 0, .slice none 0 0, .slice none 0 0, .slice none 0 0]) 42 (0, 0))])) := by
  refine calls_of Tryz.func47 rfl rfl (L := [(0, .pointer (some ⟨bk, 0, none⟩))]) ⟨rfl, trivial⟩ (m := 64) (Nat.le_of_ble_eq_true rfl) (M := Mem w own [.blk bk (.cells (#[ki ((k : Int)), .slice ah m hc, .slice none 0 0, .slice none 0 0, .slice none 0 0, .slice none 0 0, .slice none 0 0, .slice none 0 0, .slice none 0 0, .slice none 0 0, .slice none 0 0, .slice none 0 0, .slice none 0 0]) 42 (0, 0))]) (hm) ?_
  refine wc_seq ?_
  refine wc_region ?_
  refine wl_y (y_assign rfl) ?_
  refine wl_nil ?_
  refine aq_seq ?_
  refine wc_seq ?_
  refine wc_seq ?_
  refine wc_region ?_
  refine wl_y (y_assign rfl) ?_
  refine wl_nil ?_
  refine aq_seq ?_
  refine wc_block ?_
  refine wc_unroll (wh_round ?_)
  refine wc_seq ?_
  refine wc_seq ?_
  refine wc_region ?_
  refine wl_y (y_move rfl) ?_
  refine wl_y (y_move rfl) ?_
  refine wl_y (y_nilCheck rfl) ?_
  refine wl_y (y_fieldAddr fd42_5 sz33 rfl) ?_
  refine wl_y (y_load sc33 rfl (c_blk (i := 0) rfl rfl)) ?_
  refine wl_y (y_len_sl sl33 (m := 0) rfl rfl) ?_
  refine wl_y (y_bin rfl rfl (show bin .lss (ki 0) (ki 0) = some (kb false) from rfl)) ?_
  refine wl_nil ?_
  refine aq_seq ?_
  refine wc_else rfl ?_
  refine wc_exit ?_
  refine aq_thru_exit ?_
  refine aq_thru_exit ?_
  refine aq_blk_exit ?_
  refine aq_seq ?_
  refine wc_seq ?_
  refine wc_region ?_
  refine wl_y (y_assign rfl) ?_
  refine wl_nil ?_
  refine aq_seq ?_
  refine wc_ret ?_
  refine aq_return (.inl rfl) rfl (⟨_, _, rfl, rfl, rfl⟩) ?_
  intro w' m
  exact ⟨(), rfl, m⟩

theorem lookRange_no (w : World) (own : List Nat) (bk k : Nat) (ah : Option Addr) (m hc : Nat) (hm : Mem w own [.blk bk (.cells (#[ki ((k : Int)), .slice ah m hc, .slice none 0 0, .slice none 0 0, .slice none 0 0, .slice none 0 0, .slice none 0 0, .slice none 0 0, .slice none 0 0, .slice none 0 0, .slice none 0 0, .slice none 0 0, .slice none 0 0]) 42 (0, 0))] w) :
    Calls Tryz.prog 48 #[.pointer (some ⟨bk, 0, none⟩)] w (Ret (fun _ : Unit => kb true) (fun _ => Mem w own [.blk bk (.cells (#[ki ((k : Int)), .slice ah m hc, .slice none 0 0, .slice none 0 0, .slice none 0 0, .slice none 0 0, .slice none 0 0, .slice none 0 0, .slice none 0 0, .slice none 0 0, .slice none 0 0, .slice none 0 0, .slice none 0 0]) 42 (0, 0))])) := by
  refine calls_of Tryz.func48 rfl rfl (L := [(0, .pointer (some ⟨bk, 0, none⟩))]) ⟨rfl, trivial⟩ (m := 64) (Nat.le_of_ble_eq_true rfl) (M := Mem w own [.blk bk (.cells (#[ki ((k : Int)), .slice ah m hc, .slice none 0 0, .slice none 0 0, .slice none 0 0, .slice none 0 0, .slice none 0 0, .slice none 0 0, .slice none 0 0, .slice none 0 0, .slice none 0 0, .slice none 0 0, .slice none 0 0]) 42 (0, 0))]) (hm) ?_
  refine wc_seq ?_
  refine wc_region ?_
  refine wl_y (y_assign rfl) ?_
  refine wl_nil ?_
  refine aq_seq ?_
  refine wc_seq ?_
  refine wc_seq ?_
  refine wc_region ?_
  refine wl_y (y_assign rfl) ?_
  refine wl_nil ?_
  refine aq_seq ?_
  refine wc_block ?_
  refine wc_unroll (wh_round ?_)
  refine wc_seq ?_
  refine wc_seq ?_
  refine wc_region ?_
  refine wl_y (y_move rfl) ?_
  refine wl_y (y_move rfl) ?_
  refine wl_y (y_nilCheck rfl) ?_
  refine wl_y (y_fieldAddr fd42_6 sz34 rfl) ?_
  refine wl_y (y_load sc34 rfl (c_blk (i := 0) rfl rfl)) ?_
  refine wl_y (y_len_sl sl34 (m := 0) rfl rfl) ?_
  refine wl_y (y_bin rfl rfl (show bin .lss (ki 0) (ki 0) = some (kb false) from rfl)) ?_
  refine wl_nil ?_
  refine aq_seq ?_
  refine wc_else rfl ?_
  refine wc_exit ?_
  refine aq_thru_exit ?_
  refine aq_thru_exit ?_
  refine aq_blk_exit ?_
  refine aq_seq ?_
  refine wc_seq ?_
  refine wc_region ?_
  refine wl_y (y_assign rfl) ?_
  refine wl_nil ?_
  refine aq_seq ?_
  refine wc_ret ?_
  refine aq_return (.inl rfl) rfl (⟨_, _, rfl, rfl, rfl⟩) ?_
  intro w' m
  exact ⟨(), rfl, m⟩

theorem lookFrame_no (w : World) (own : List Nat) (bk k : Nat) (ah : Option Addr) (m hc : Nat) (hm : Mem w own [.blk bk (.cells (#[ki ((k : Int)), .slice ah m hc, .slice none 0 0, .slice none 0 0, .slice none 0 0, .slice none 0 0, .slice none 0 0, .slice none 0 0, .slice none 0 0, .slice none 0 0, .slice none 0 0, .slice none 0 0, .slice none 0 0]) 42 (0, 0))] w) :
    Calls Tryz.prog 49 #[.pointer (some ⟨bk, 0, none⟩)] w (Ret (fun _ : Unit => kb true) (fun _ => Mem w own [.blk bk (.cells (#[ki ((k : Int)), .slice ah m hc, .slice none 0 0, .slice none 0 0, .slice none 0 0, .slice none 0 0, .slice none 0 0, .slice none 0 0, .slice none 0 0, .slice none 0 0, .slice none 0 0, .slice none 0 0, .slice none 0 0]) 42 (0, 0))])) := by
  refine calls_of Tryz.func49 rfl rfl (L := [(0, .pointer (some ⟨bk, 0, none⟩))]) ⟨rfl, trivial⟩ (m := 64) (Nat.le_of_ble_eq_true rfl) (M := Mem w own [.blk bk (.cells (#[ki ((k : Int)), .slice ah m hc, .slice none 0 0, .slice none 0 0, .slice none 0 0, .slice none 0 0, .slice none 0 0, .slice none 0 0, .slice none 0 0, .slice none 0 0, .slice none 0 0, .slice none 0 0, .slice none 0 0]) 42 (0, 0))]) (hm) ?_
  refine wc_seq ?_
  refine wc_region ?_
  refine wl_y (y_assign rfl) ?_
  refine wl_nil ?_
  refine aq_seq ?_
  refine wc_seq ?_
  refine wc_seq ?_
  refine wc_region ?_
  refine wl_y (y_assign rfl) ?_
  refine wl_nil ?_
  refine aq_seq ?_
  refine wc_block ?_
  refine wc_unroll (wh_round ?_)
  refine wc_seq ?_
  refine wc_seq ?_
  refine wc_region ?_
  refine wl_y (y_move rfl) ?_
  refine wl_y (y_move rfl) ?_
  refine wl_y (y_nilCheck rfl) ?_
  refine wl_y (y_fieldAddr fd42_7 sz35 rfl) ?_
  refine wl_y (y_load sc35 rfl (c_blk (i := 0) rfl rfl)) ?_
  refine wl_y (y_len_sl sl35 (m := 0) rfl rfl) ?_
  refine wl_y (y_bin rfl rfl (show bin .lss (ki 0) (ki 0) = some (kb false) from rfl)) ?_
  refine wl_nil ?_
  refine aq_seq ?_
  refine wc_else rfl ?_
  refine wc_exit ?_
  refine aq_thru_exit ?_
  refine aq_thru_exit ?_
  refine aq_blk_exit ?_
  refine aq_seq ?_
  refine wc_seq ?_
  refine wc_region ?_
  refine wl_y (y_assign rfl) ?_
  refine wl_nil ?_
  refine aq_seq ?_
  refine wc_ret ?_
  refine aq_return (.inl rfl) rfl (⟨_, _, rfl, rfl, rfl⟩) ?_
  intro w' m
  exact ⟨(), rfl, m⟩

theorem lookField_no (w : World) (own : List Nat) (bk k : Nat) (ah : Option Addr) (m hc : Nat) (hm : Mem w own [.blk bk (.cells (#[ki ((k : Int)), .slice ah m hc, .slice none 0 0, .slice none 0 0, .slice none 0 0, .slice none 0 0, .slice none 0 0, .slice none 0 0, .slice none 0 0, .slice none 0 0, .slice none 0 0, .slice none 0 0, .slice none 0 0]) 42 (0, 0))] w) :
    Calls Tryz.prog 50 #[.pointer (some ⟨bk, 0, none⟩)] w (Ret (fun _ : Unit => kb true) (fun _ => Mem w own [.blk bk (.cells (#[ki ((k : Int)), .slice ah m hc, .slice none 0 0, .slice none 0 0, .slice none 0 0, .slice none 0 0, .slice none 0 0, .slice none 0 0, .slice none 0 0, .slice none 0 0, .slice none 0 0, .slice none 0 0, .slice none 0 0]) 42 (0, 0))])) := by
  refine calls_of Tryz.func50 rfl rfl (L := [(0, .pointer (some ⟨bk, 0, none⟩))]) ⟨rfl, trivial⟩ (m := 64) (Nat.le_of_ble_eq_true rfl) (M := Mem w own [.blk bk (.cells (#[ki ((k : Int)), .slice ah m hc, .slice none 0 0, .slice none 0 0, .slice none 0 0, .slice none 0 0, .slice none 0 0, .slice none 0 0, .slice none 0 0, .slice none 0 0, .slice none 0 0, .slice none 0 0, .slice none 0 0]) 42 (0, 0))]) (hm) ?_
  refine wc_seq ?_
  refine wc_region ?_
  refine wl_y (y_assign rfl) ?_
  refine wl_nil ?_
  refine aq_seq ?_
  refine wc_seq ?_
  refine wc_seq ?_
  refine wc_region ?_
  refine wl_y (y_assign rfl) ?_
  refine wl_nil ?_
  refine aq_seq ?_
  refine wc_block ?_
  refine wc_unroll (wh_round ?_)
  refine wc_seq ?_
  refine wc_seq ?_
  refine wc_region ?_
  refine wl_y (y_move rfl) ?_
  refine wl_y (y_move rfl) ?_
  refine wl_y (y_nilCheck rfl) ?_
  refine wl_y (y_fieldAddr fd42_8 sz36 rfl) ?_
  refine wl_y (y_load sc36 rfl (c_blk (i := 0) rfl rfl)) ?_
  refine wl_y (y_len_sl sl36 (m := 0) rfl rfl) ?_
  refine wl_y (y_bin rfl rfl (show bin .lss (ki 0) (ki 0) = some (kb false) from rfl)) ?_
  refine wl_nil ?_
  refine aq_seq ?_
  refine wc_else rfl ?_
  refine wc_exit ?_
  refine aq_thru_exit ?_
  refine aq_thru_exit ?_
  refine aq_blk_exit ?_
  refine aq_seq ?_
  refine wc_seq ?_
  refine wc_region ?_
  refine wl_y (y_assign rfl) ?_
  refine wl_nil ?_
  refine aq_seq ?_
  refine wc_ret ?_
  refine aq_return (.inl rfl) rfl (⟨_, _, rfl, rfl, rfl⟩) ?_
  intro w' m
  exact ⟨(), rfl, m⟩

theorem lookMessage_no (w : World) (own : List Nat) (bk k : Nat) (ah : Option Addr) (m hc : Nat) (hm : Mem w own [.blk bk (.cells (#[ki ((k : Int)), .slice ah m hc, .slice none 0 0, .slice none 0 0, .slice none 0 0, .slice none 0 0, .slice none 0 0, .slice none 0 0, .slice none 0 0, .slice none 0 0, .slice none 0 0, .slice none 0 0, .slice none 0 0]) 42 (0, 0))] w) :
    Calls Tryz.prog 51 #[.pointer (some ⟨bk, 0, none⟩)] w (Ret (fun _ : Unit => kb true) (fun _ => Mem w own [.blk bk (.cells (#[ki ((k : Int)), .slice ah m hc, .slice none 0 0, .slice none 0 0, .slice none 0 0, .slice none 0 0, .slice none 0 0, .slice none 0 0, .slice none 0 0, .slice none 0 0, .slice none 0 0, .slice none 0 0, .slice none 0 0]) 42 (0, 0))])) := by
  refine calls_of Tryz.func51 rfl rfl (L := [(0, .pointer (some ⟨bk, 0, none⟩))]) ⟨rfl, trivial⟩ (m := 64) (Nat.le_of_ble_eq_true rfl) (M := Mem w own [.blk bk (.cells (#[ki ((k : Int)), .slice ah m hc, .slice none 0 0, .slice none 0 0, .slice none 0 0, .slice none 0 0, .slice none 0 0, .slice none 0 0, .slice none 0 0, .slice none 0 0, .slice none 0 0, .slice none 0 0, .slice none 0 0]) 42 (0, 0))]) (hm) ?_
  refine wc_seq ?_
  refine wc_region ?_
  refine wl_y (y_assign rfl) ?_
  refine wl_nil ?_
  refine aq_seq ?_
  refine wc_seq ?_
  refine wc_seq ?_
  refine wc_region ?_
  refine wl_y (y_assign rfl) ?_
  refine wl_nil ?_
  refine aq_seq ?_
  refine wc_block ?_
  refine wc_unroll (wh_round ?_)
  refine wc_seq ?_
  refine wc_seq ?_
  refine wc_region ?_
  refine wl_y (y_move rfl) ?_
  refine wl_y (y_move rfl) ?_
  refine wl_y (y_nilCheck rfl) ?_
  refine wl_y (y_fieldAddr fd42_9 sz37 rfl) ?_
  refine wl_y (y_load sc37 rfl (c_blk (i := 0) rfl rfl)) ?_
  refine wl_y (y_len_sl sl37 (m := 0) rfl rfl) ?_
  refine wl_y (y_bin rfl rfl (show bin .lss (ki 0) (ki 0) = some (kb false) from rfl)) ?_
  refine wl_nil ?_
  refine aq_seq ?_
  refine wc_else rfl ?_
  refine wc_exit ?_
  refine aq_thru_exit ?_
  refine aq_thru_exit ?_
  refine aq_blk_exit ?_
  refine aq_seq ?_
  refine wc_seq ?_
  refine wc_region ?_
  refine wl_y (y_assign rfl) ?_
  refine wl_nil ?_
  refine aq_seq ?_
  refine wc_ret ?_
  refine aq_return (.inl rfl) rfl (⟨_, _, rfl, rfl, rfl⟩) ?_
  intro w' m
  exact ⟨(), rfl, m⟩

theorem lookRule_no (w : World) (own : List Nat) (bk k : Nat) (ah : Option Addr) (m hc : Nat) (hm : Mem w own [.blk bk (.cells (#[ki ((k : Int)), .slice ah m hc, .slice none 0 0, .slice none 0 0, .slice none 0 0, .slice none 0 0, .slice none 0 0, .slice none 0 0, .slice none 0 0, .slice none 0 0, .slice none 0 0, .slice none 0 0, .slice none 0 0]) 42 (0, 0))] w) :
    Calls Tryz.prog 52 #[.pointer (some ⟨bk, 0, none⟩)] w (Ret (fun _ : Unit => kb true) (fun _ => Mem w own [.blk bk (.cells (#[ki ((k : Int)), .slice ah m hc, .slice none 0 0, .slice none 0 0, .slice none 0 0, .slice none 0 0, .slice none 0 0, .slice none 0 0, .slice none 0 0, .slice none 0 0, .slice none 0 0, .slice none 0 0, .slice none 0 0]) 42 (0, 0))])) := by
  refine calls_of Tryz.func52 rfl rfl (L := [(0, .pointer (some ⟨bk, 0, none⟩))]) ⟨rfl, trivial⟩ (m := 64) (Nat.le_of_ble_eq_true rfl) (M := Mem w own [.blk bk (.cells (#[ki ((k : Int)), .slice ah m hc, .slice none 0 0, .slice none 0 0, .slice none 0 0, .slice none 0 0, .slice none 0 0, .slice none 0 0, .slice none 0 0, .slice none 0 0, .slice none 0 0, .slice none 0 0, .slice none 0 0]) 42 (0, 0))]) (hm) ?_
  refine wc_seq ?_
  refine wc_region ?_
  refine wl_y (y_assign rfl) ?_
  refine wl_nil ?_
  refine aq_seq ?_
  refine wc_seq ?_
  refine wc_seq ?_
  refine wc_region ?_
  refine wl_y (y_assign rfl) ?_
  refine wl_nil ?_
  refine aq_seq ?_
  refine wc_block ?_
  refine wc_unroll (wh_round ?_)
  refine wc_seq ?_
  refine wc_seq ?_
  refine wc_region ?_
  refine wl_y (y_move rfl) ?_
  refine wl_y (y_move rfl) ?_
  refine wl_y (y_nilCheck rfl) ?_
  refine wl_y (y_fieldAddr fd42_10 sz38 rfl) ?_
  refine wl_y (y_load sc38 rfl (c_blk (i := 0) rfl rfl)) ?_
  refine wl_y (y_len_sl sl38 (m := 0) rfl rfl) ?_
  refine wl_y (y_bin rfl rfl (show bin .lss (ki 0) (ki 0) = some (kb false) from rfl)) ?_
  refine wl_nil ?_
  refine aq_seq ?_
  refine wc_else rfl ?_
  refine wc_exit ?_
  refine aq_thru_exit ?_
  refine aq_thru_exit ?_
  refine aq_blk_exit ?_
  refine aq_seq ?_
  refine wc_seq ?_
  refine wc_region ?_
  refine wl_y (y_assign rfl) ?_
  refine wl_nil ?_
  refine aq_seq ?_
  refine wc_ret ?_
  refine aq_return (.inl rfl) rfl (⟨_, _, rfl, rfl, rfl⟩) ?_
  intro w' m
  exact ⟨(), rfl, m⟩

theorem lookEvent_no (w : World) (own : List Nat) (bk k : Nat) (ah : Option Addr) (m hc : Nat) (hm : Mem w own [.blk bk (.cells (#[ki ((k : Int)), .slice ah m hc, .slice none 0 0, .slice none 0 0, .slice none 0 0, .slice none 0 0, .slice none 0 0, .slice none 0 0, .slice none 0 0, .slice none 0 0, .slice none 0 0, .slice none 0 0, .slice none 0 0]) 42 (0, 0))] w) :
    Calls Tryz.prog 53 #[.pointer (some ⟨bk, 0, none⟩)] w (Ret (fun _ : Unit => kb true) (fun _ => Mem w own [.blk bk (.cells (#[ki ((k : Int)), .slice ah m hc, .slice none 0 0, .slice none 0 0, .slice none 0 0, .slice none 0 0, .slice none 0 0, .slice none 0 0, .slice none 0 0, .slice none 0 0, .slice none 0 0, .slice none 0 0, .slice none 0 0]) 42 (0, 0))])) := by
  refine calls_of Tryz.func53 rfl rfl (L := [(0, .pointer (some ⟨bk, 0, none⟩))]) ⟨rfl, trivial⟩ (m := 64) (Nat.le_of_ble_eq_true rfl) (M := Mem w own [.blk bk (.cells (#[ki ((k : Int)), .slice ah m hc, .slice none 0 0, .slice none 0 0, .slice none 0 0, .slice none 0 0, .slice none 0 0, .slice none 0 0, .slice none 0 0, .slice none 0 0, .slice none 0 0, .slice none 0 0, .slice none 0 0]) 42 (0, 0))]) (hm) ?_
  refine wc_seq ?_
  refine wc_region ?_
  refine wl_y (y_assign rfl) ?_
  refine wl_nil ?_
  refine aq_seq ?_
  refine wc_seq ?_
  refine wc_seq ?_
  refine wc_region ?_
  refine wl_y (y_assign rfl) ?_
  refine wl_nil ?_
  refine aq_seq ?_
  refine wc_block ?_
  refine wc_unroll (wh_round ?_)
  refine wc_seq ?_
  refine wc_seq ?_
  refine wc_region ?_
  refine wl_y (y_move rfl) ?_
  refine wl_y (y_move rfl) ?_
  refine wl_y (y_nilCheck rfl) ?_
  refine wl_y (y_fieldAddr fd42_11 sz39 rfl) ?_
  refine wl_y (y_load sc39 rfl (c_blk (i := 0) rfl rfl)) ?_
  refine wl_y (y_len_sl sl39 (m := 0) rfl rfl) ?_
  refine wl_y (y_bin rfl rfl (show bin .lss (ki 0) (ki 0) = some (kb false) from rfl)) ?_
  refine wl_nil ?_
  refine aq_seq ?_
  refine wc_else rfl ?_
  refine wc_exit ?_
  refine aq_thru_exit ?_
  refine aq_thru_exit ?_
  refine aq_blk_exit ?_
  refine aq_seq ?_
  refine wc_seq ?_
  refine wc_region ?_
  refine wl_y (y_assign rfl) ?_
  refine wl_nil ?_
  refine aq_seq ?_
  refine wc_ret ?_
  refine aq_return (.inl rfl) rfl (⟨_, _, rfl, rfl, rfl⟩) ?_
  intro w' m
  exact ⟨(), rfl, m⟩

theorem lookReply_no (w : World) (own : List Nat) (bk k : Nat) (ah : Option Addr) (m hc : Nat) (hm : Mem w own [.blk bk (.cells (#[ki ((k : Int)), .slice ah m hc, .slice none 0 0, .slice none 0 0, .slice none 0 0, .slice none 0 0, .slice none 0 0, .slice none 0 0, .slice none 0 0, .slice none 0 0, .slice none 0 0, .slice none 0 0, .slice none 0 0]) 42 (0, 0))] w) :
    Calls Tryz.prog 54 #[.pointer (some ⟨bk, 0, none⟩)] w (Ret (fun _ : Unit => kb true) (fun _ => Mem w own [.blk bk (.cells (#[ki ((k : Int)), .slice ah m hc, .slice none 0 0, .slice none 0 0, .slice none 0 0, .slice none 0 0, .slice none 0 0, .slice none 0 0, .slice none 0 0, .slice none 0 0, .slice none 0 0, .slice none 0 0, .slice none 0 0]) 42 (0, 0))])) := by
  refine calls_of Tryz.func54 rfl rfl (L := [(0, .pointer (some ⟨bk, 0, none⟩))]) ⟨rfl, trivial⟩ (m := 64) (Nat.le_of_ble_eq_true rfl) (M := Mem w own [.blk bk (.cells (#[ki ((k : Int)), .slice ah m hc, .slice none 0 0, .slice none 0 0, .slice none 0 0, .slice none 0 0, .slice none 0 0, .slice none 0 0, .slice none 0 0, .slice none 0 0, .slice none 0 0, .slice none 0 0, .slice none 0 0]) 42 (0, 0))]) (hm) ?_
  refine wc_seq ?_
  refine wc_region ?_
  refine wl_y (y_assign rfl) ?_
  refine wl_nil ?_
  refine aq_seq ?_
  refine wc_seq ?_
  refine wc_seq ?_
  refine wc_region ?_
  refine wl_y (y_assign rfl) ?_
  refine wl_nil ?_
  refine aq_seq ?_
  refine wc_block ?_
  refine wc_unroll (wh_round ?_)
  refine wc_seq ?_
  refine wc_seq ?_
  refine wc_region ?_
  refine wl_y (y_move rfl) ?_
  refine wl_y (y_move rfl) ?_
  refine wl_y (y_nilCheck rfl) ?_
  refine wl_y (y_fieldAddr fd42_12 sz40 rfl) ?_
  refine wl_y (y_load sc40 rfl (c_blk (i := 0) rfl rfl)) ?_
  refine wl_y (y_len_sl sl40 (m := 0) rfl rfl) ?_
  refine wl_y (y_bin rfl rfl (show bin .lss (ki 0) (ki 0) = some (kb false) from rfl)) ?_
  refine wl_nil ?_
  refine aq_seq ?_
  refine wc_else rfl ?_
  refine wc_exit ?_
  refine aq_thru_exit ?_
  refine aq_thru_exit ?_
  refine aq_blk_exit ?_
  refine aq_seq ?_
  refine wc_seq ?_
  refine wc_region ?_
  refine wl_y (y_assign rfl) ?_
  refine wl_nil ?_
  refine aq_seq ?_
  refine wc_ret ?_
  refine aq_return (.inl rfl) rfl (⟨_, _, rfl, rfl, rfl⟩) ?_
  intro w' m
  exact ⟨(), rfl, m⟩

end Go.Proofs.YtjibkjoaamchoaaGreatDoor
