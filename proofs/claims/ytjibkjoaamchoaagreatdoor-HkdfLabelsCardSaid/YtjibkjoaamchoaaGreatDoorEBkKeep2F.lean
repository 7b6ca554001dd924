/- Lemmas and contracts for the proof of this seat's statements (BkKeep2F). No condition. -/
import Derived.Test.YtjibkjoaamchoaaGreatDoorEBk
import Derived.Test.YtjibkjoaamchoaaGreatDoorProg
import Derived.KernelRfl
import Derived.Test.YtjibkjoaamchoaaGreatDoorEPlaA
set_option linter.all false
namespace Go.Proofs.YtjibkjoaamchoaaGreatDoor
open Go.Mc
private theorem us3 : (Tryz.prog.underlying 3).isSome = true := by kernel_rfl
private theorem ui5 : Tryz.prog.underlying 5 = some (.int .u8) := by kernel_rfl
private theorem fd42_0 : fdB Tryz.prog 42 0 0 3 = true := by kernel_rfl
private theorem sz3 : szB Tryz.prog 3 1 = true := by kernel_rfl
private theorem sc3 : scB Tryz.prog 3 = true := by kernel_rfl
private theorem fd42_1 : fdB Tryz.prog 42 1 1 29 = true := by kernel_rfl
private theorem sz29 : szB Tryz.prog 29 1 = true := by kernel_rfl
private theorem sc29 : scB Tryz.prog 29 = true := by kernel_rfl
private theorem st67 : stB Tryz.prog 67 [(0, 1), (1, 1), (2, 1)] := by unfold stB; kernel_rfl
private theorem zn67 : znB Tryz.prog 67 (.agg #[.slice none 0 0, .slice none 0 0, ki (0)]) := by unfold znB; kernel_rfl
private theorem sl29 : slB Tryz.prog 29 67 = true := by kernel_rfl
private theorem el67 : elB Tryz.prog 67 3 56 (.agg #[.slice none 0 0, .slice none 0 0, ki (0)]) := elB_of (by kernel_rfl) (by kernel_rfl) (by unfold znB; kernel_rfl)
private theorem cf18 : cfB Tryz.prog 18 = true := by kernel_rfl
theorem markByte_ok (w : World) (n : Nat) (hn : n ≤ 1000000) :
    Calls Tryz.prog 61 #[ki ((n : Int))] w (Ret (fun _ : Unit => b8 (mkB n)) (fun _ => Mem w [] [])) := by
  refine calls_of Tryz.func61 rfl rfl (L := [(0, ki ((n : Int)))]) ⟨rfl, trivial⟩ (m := 7) (Nat.le_of_ble_eq_true rfl) (M := Mem w [] []) (Mem.refl w) ?_
  refine wc_seq ?_
  refine wc_region ?_
  refine wl_y (y_assign rfl) ?_
  refine wl_nil ?_
  refine aq_seq ?_
  refine wc_seq ?_
  refine wc_region ?_
  refine wl_y (y_move rfl) ?_
  refine wl_y (y_bin rfl rfl (remn_i64 (a := n) (b := 250) (by omega))) ?_
  refine wl_y (y_bin rfl rfl (addn_i64 (a := 1) (b := (n % 250)) (by omega))) ?_
  refine wl_y (y_cv rfl us3 ui5 (congrArg (Value.int .u8) (cvn_u8 (1 + (n % 250)) (by omega)))) ?_
  refine wl_y (y_assign rfl) ?_
  refine wl_nil ?_
  refine aq_seq ?_
  refine wc_ret ?_
  refine aq_return (.inl rfl) rfl (⟨_, _, rfl, rfl, rfl⟩) ?_
  intro w' m
  exact ⟨(), rfl, m.pick (is := []) rfl (by decide)⟩

theorem isByte_ok (w : World) (n : Nat) (hn : n ≤ 1000000) :
    Calls Tryz.prog 73 #[b8 ((mkB n)), ki ((n : Int))] w (Ret (fun _ : Unit => kb true) (fun _ => Mem w [] [])) := by
  refine calls_of Tryz.func73 rfl rfl (L := [(0, b8 ((mkB n))), (1, ki ((n : Int)))]) ⟨rfl, rfl, trivial⟩ (m := 11) (Nat.le_of_ble_eq_true rfl) (M := Mem w [] []) (Mem.refl w) ?_
  refine wc_seq ?_
  refine wc_region ?_
  refine wl_y (y_assign rfl) ?_
  refine wl_nil ?_
  refine aq_seq ?_
  refine wc_seq ?_
  refine wc_region ?_
  refine wl_y (y_move rfl) ?_
  refine wl_y (y_move rfl) ?_
  refine wl_y (y_bin rfl rfl (remn_i64 (a := n) (b := 250) (by omega))) ?_
  refine wl_y (y_bin rfl rfl (addn_i64 (a := 1) (b := (n % 250)) (by omega))) ?_
  refine wl_y (y_cv rfl us3 ui5 (congrArg (Value.int .u8) (cvn_u8 (1 + (n % 250)) (by omega)))) ?_
  refine wl_y (y_bin rfl rfl (eql_u8 (mkB n) (UInt8.ofNat (1 + (n % 250))))) ?_
  refine wl_re (t := 10) (v' := kb (true)) rfl (congrArg kb (beq_self_eq_true (mkB n))) ?_
  refine wl_y (y_assign rfl) ?_
  refine wl_nil ?_
  refine aq_seq ?_
  refine wc_ret ?_
  refine aq_return (.inl rfl) rfl (⟨_, _, rfl, rfl, rfl⟩) ?_
  intro w' m
  exact ⟨(), rfl, m.pick (is := []) rfl (by decide)⟩

theorem keepB0_ok (w : World) (own : List Nat) (bk : Nat)  (a0 : Option Addr) (n0 c0 : Nat) (hm : Mem w own [.blk bk (.cells (#[ki (0), .slice none 0 0, .slice none 0 0, .slice none 0 0, .slice none 0 0, .slice none 0 0, .slice none 0 0, .slice none 0 0, .slice none 0 0, .slice none 0 0, .slice none 0 0, .slice none 0 0, .slice none 0 0]) 42 (0, 0))] w) :
    Calls Tryz.prog 18 #[.pointer (some ⟨bk, 0, none⟩), .slice a0 n0 c0] w (Ret (fun _ : Option Addr × Nat => .tuple #[]) (fun r => Mem w own [.blk bk (.cells (#[ki (1), .slice r.1 1 r.2, .slice none 0 0, .slice none 0 0, .slice none 0 0, .slice none 0 0, .slice none 0 0, .slice none 0 0, .slice none 0 0, .slice none 0 0, .slice none 0 0, .slice none 0 0, .slice none 0 0]) 42 (0, 0)), .sl r.1 1 r.2 67 3 ([.slice a0 n0 c0, .slice none 0 0, ki (1)] : List Value)])) := by
  refine calls_of Tryz.func18 rfl rfl (L := [(0, .pointer (some ⟨bk, 0, none⟩)), (1, .slice a0 n0 c0)]) ⟨rfl, rfl, trivial⟩ (m := 26) (Nat.le_of_ble_eq_true rfl) (M := Mem w own [.blk bk (.cells (#[ki (0), .slice none 0 0, .slice none 0 0, .slice none 0 0, .slice none 0 0, .slice none 0 0, .slice none 0 0, .slice none 0 0, .slice none 0 0, .slice none 0 0, .slice none 0 0, .slice none 0 0, .slice none 0 0]) 42 (0, 0))]) (hm) ?_
  refine wc_seq ?_
  refine wc_region ?_
  refine wl_y (y_move rfl) ?_
  refine wl_y (y_nilCheck rfl) ?_
  refine wl_y (y_fieldAddr fd42_0 sz3 rfl) ?_
  refine wl_y (y_load sc3 rfl (c_blk (i := 0) rfl rfl)) ?_
  refine wl_y (y_bin rfl rfl (show bin .add (ki 0) (ki 1) = some (ki 1) from rfl)) ?_
  refine wl_y (y_nilCheck rfl) ?_
  refine wl_y (y_fieldAddr fd42_0 sz3 rfl) ?_
  refine wl_eff (e_store1 sz3 rfl rfl (i := 0) rfl rfl (by first | decide | simp) rfl) rfl trivial rfl ?_
  intro _
  refine wl_nil ?_
  refine aq_seq ?_
  refine wc_drawTC (.st 0 .q (.st 1 .q (.st 2 .q (.st 3 .q (.st 4 .q (.st 5 .q (.st 6 .q (.st 7 .q (.st 8 .q (.st 9 .q (.st 10 .q (.st 11 .e (.st 12 .e (.st 13 .q (.st 14 .q (.st 15 .l .nil)))))))))))))))) (Mem w own [.blk bk (.cells (#[ki (1), .slice none 0 0, .slice none 0 0, .slice none 0 0, .slice none 0 0, .slice none 0 0, .slice none 0 0, .slice none 0 0, .slice none 0 0, .slice none 0 0, .slice none 0 0, .slice none 0 0, .slice none 0 0]) 42 (0, 0))]) (by kernel_rfl) (by kernel_rfl) Mem.closed ?_
  refine wt_q rfl Mem.closed (fun _ h => h) Mem.closed rfl (q_of_yld (y_move rfl)) trivial ?_
  refine wt_q rfl Mem.closed (fun _ h => h) Mem.closed rfl (q_of_yld (y_move rfl)) trivial ?_
  refine wt_q rfl Mem.closed (fun _ h => h) Mem.closed rfl (q_of_yld (y_nilCheck rfl)) trivial ?_
  refine wt_q rfl Mem.closed (fun _ h => h) Mem.closed rfl (q_of_yld (y_fieldAddr fd42_1 sz29 rfl)) trivial ?_
  refine wt_q rfl Mem.closed (fun _ h => h) Mem.closed rfl (q_of_yld (y_load sc29 rfl (c_blk (i := 0) rfl rfl))) trivial ?_
  refine wt_q rfl Mem.closed (fun _ h => h) Mem.closed rfl (q_of_yld (y_move rfl)) trivial ?_
  refine wt_q rfl Mem.closed (fun _ h => h) Mem.closed rfl (q_of_yld (y_move rfl)) trivial ?_
  refine wt_q rfl Mem.closed (fun _ h => h) Mem.closed rfl (q_of_yld (y_nilCheck rfl)) trivial ?_
  refine wt_q rfl Mem.closed (fun _ h => h) Mem.closed rfl (q_of_yld (y_fieldAddr fd42_0 sz3 rfl)) trivial ?_
  refine wt_q rfl Mem.closed (fun _ h => h) Mem.closed rfl (q_of_yld (y_load sc3 rfl (c_blk (i := 0) rfl rfl))) trivial ?_
  refine wt_q rfl Mem.closed (fun _ h => h) Mem.closed rfl (q_of_yld (y_build_st (cs := #[.slice a0 n0 c0, .slice none 0 0, ki (1)]) [(0, .slice a0 n0 c0), (2, ki (1))] st67 zn67 rfl (by kernel_rfl))) trivial ?_
  refine wt_e (fun _ => _) rfl rfl rfl (e_buildSlice (len := 1) [.agg (#[.slice a0 n0 c0, .slice none 0 0, ki (1)])] sl29 el67 rfl rfl rfl (by simp [Value.cells]) (by decide) [.slice a0 n0 c0, .slice none 0 0, ki (1)] rfl) trivial (fun _ => Mem.closed) (fun _ _ h => h) (fun _ _ h => (Mem.pick h (is := [1]) ⟨_, _, rfl, rfl, rfl⟩ (by decide))) (fun _ => Mem.closed) ?_
  intro b1
  refine wt_mem (fun _ h => h.nilsl 67 3) ?_
  refine wt_e (fun _ => _) rfl rfl rfl (e_append (xs := ([] : List Value)) (news := ([.slice a0 n0 c0, .slice none 0 0, ki (1)] : List Value)) sl29 el67 rfl (by decide) rfl rfl rfl (i := 0) rfl (fun w m => (m.rd_sl (i := 1) rfl)) (one_all rfl) (by decide) (by decide) (fun _ => rfl)) trivial (fun _ => Mem.closed) (fun _ _ h => h) (fun _ _ h => (Mem.pick h (is := [2]) ⟨_, _, rfl, rfl, rfl⟩ (by decide))) (fun _ => Mem.closed) ?_
  intro r2
  refine wt_q rfl Mem.closed (fun _ h => (Mem.pick h (is := [2]) ⟨_, _, rfl, rfl, rfl⟩ (by decide))) Mem.closed rfl (q_of_yld (y_nilCheck rfl)) trivial ?_
  refine wt_q rfl Mem.closed (fun _ h => (Mem.pick h (is := [2]) ⟨_, _, rfl, rfl, rfl⟩ (by decide))) Mem.closed rfl (q_of_yld (y_fieldAddr fd42_1 sz29 rfl)) trivial ?_
  refine wt_l rfl rfl rfl (e_store1 sz29 rfl rfl (i := 2) rfl rfl (by first | decide | simp) ⟨_, rfl, ⟨_, rfl, rfl⟩⟩) trivial ?_
  intro _
  refine aq_return (.inr rfl) rfl (rfl) ?_
  intro w' m
  exact ⟨(r2.1, r2.2), rfl, (Mem.pick m (is := [2, 0]) ⟨_, _, rfl, rfl, ⟨_, _, rfl, rfl, rfl⟩⟩ (by decide))⟩

theorem keepB1_ok (w : World) (own : List Nat) (bk : Nat) (ah : Option Addr) (hc : Nat) (a0 : Option Addr) (n0 c0 : Nat) (a1 : Option Addr) (n1 c1 : Nat) (hm : Mem w own [.blk bk (.cells (#[ki (1), .slice ah 1 hc, .slice none 0 0, .slice none 0 0, .slice none 0 0, .slice none 0 0, .slice none 0 0, .slice none 0 0, .slice none 0 0, .slice none 0 0, .slice none 0 0, .slice none 0 0, .slice none 0 0]) 42 (0, 0)), .sl ah 1 hc 67 3 ([.slice a0 n0 c0, .slice none 0 0, ki (1)] : List Value)] w) :
    Calls Tryz.prog 18 #[.pointer (some ⟨bk, 0, none⟩), .slice a1 n1 c1] w (Ret (fun _ : Option Addr × Nat => .tuple #[]) (fun r => Mem w own [.blk bk (.cells (#[ki (2), .slice r.1 2 r.2, .slice none 0 0, .slice none 0 0, .slice none 0 0, .slice none 0 0, .slice none 0 0, .slice none 0 0, .slice none 0 0, .slice none 0 0, .slice none 0 0, .slice none 0 0, .slice none 0 0]) 42 (0, 0)), .sl r.1 2 r.2 67 3 ([.slice a0 n0 c0, .slice none 0 0, ki (1), .slice a1 n1 c1, .slice none 0 0, ki (2)] : List Value)])) := by
  refine calls_of Tryz.func18 rfl rfl (L := [(0, .pointer (some ⟨bk, 0, none⟩)), (1, .slice a1 n1 c1)]) ⟨rfl, rfl, trivial⟩ (m := 26) (Nat.le_of_ble_eq_true rfl) (M := Mem w own [.blk bk (.cells (#[ki (1), .slice ah 1 hc, .slice none 0 0, .slice none 0 0, .slice none 0 0, .slice none 0 0, .slice none 0 0, .slice none 0 0, .slice none 0 0, .slice none 0 0, .slice none 0 0, .slice none 0 0, .slice none 0 0]) 42 (0, 0)), .sl ah 1 hc 67 3 ([.slice a0 n0 c0, .slice none 0 0, ki (1)] : List Value)]) (hm) ?_
  refine wc_seq ?_
  refine wc_region ?_
  refine wl_y (y_move rfl) ?_
  refine wl_y (y_nilCheck rfl) ?_
  refine wl_y (y_fieldAddr fd42_0 sz3 rfl) ?_
  refine wl_y (y_load sc3 rfl (c_blk (i := 0) rfl rfl)) ?_
  refine wl_y (y_bin rfl rfl (show bin .add (ki 1) (ki 1) = some (ki 2) from rfl)) ?_
  refine wl_y (y_nilCheck rfl) ?_
  refine wl_y (y_fieldAddr fd42_0 sz3 rfl) ?_
  refine wl_eff (e_store1 sz3 rfl rfl (i := 0) rfl rfl (by first | decide | simp) rfl) rfl trivial rfl ?_
  intro _
  refine wl_nil ?_
  refine aq_seq ?_
  refine wc_drawTC (.st 0 .q (.st 1 .q (.st 2 .q (.st 3 .q (.st 4 .q (.st 5 .q (.st 6 .q (.st 7 .q (.st 8 .q (.st 9 .q (.st 10 .q (.st 11 .e (.st 12 .e (.st 13 .q (.st 14 .q (.st 15 .l .nil)))))))))))))))) (Mem w own [.blk bk (.cells (#[ki (2), .slice ah 1 hc, .slice none 0 0, .slice none 0 0, .slice none 0 0, .slice none 0 0, .slice none 0 0, .slice none 0 0, .slice none 0 0, .slice none 0 0, .slice none 0 0, .slice none 0 0, .slice none 0 0]) 42 (0, 0))]) (by kernel_rfl) (by kernel_rfl) Mem.closed ?_
  refine wt_q rfl Mem.closed (fun _ h => (Mem.pick h (is := [0]) ⟨_, _, rfl, rfl, rfl⟩ (by decide))) Mem.closed rfl (q_of_yld (y_move rfl)) trivial ?_
  refine wt_q rfl Mem.closed (fun _ h => (Mem.pick h (is := [0]) ⟨_, _, rfl, rfl, rfl⟩ (by decide))) Mem.closed rfl (q_of_yld (y_move rfl)) trivial ?_
  refine wt_q rfl Mem.closed (fun _ h => (Mem.pick h (is := [0]) ⟨_, _, rfl, rfl, rfl⟩ (by decide))) Mem.closed rfl (q_of_yld (y_nilCheck rfl)) trivial ?_
  refine wt_q rfl Mem.closed (fun _ h => (Mem.pick h (is := [0]) ⟨_, _, rfl, rfl, rfl⟩ (by decide))) Mem.closed rfl (q_of_yld (y_fieldAddr fd42_1 sz29 rfl)) trivial ?_
  refine wt_q rfl Mem.closed (fun _ h => (Mem.pick h (is := [0]) ⟨_, _, rfl, rfl, rfl⟩ (by decide))) Mem.closed rfl (q_of_yld (y_load sc29 rfl (c_blk (i := 0) rfl rfl))) trivial ?_
  refine wt_q rfl Mem.closed (fun _ h => (Mem.pick h (is := [0]) ⟨_, _, rfl, rfl, rfl⟩ (by decide))) Mem.closed rfl (q_of_yld (y_move rfl)) trivial ?_
  refine wt_q rfl Mem.closed (fun _ h => (Mem.pick h (is := [0]) ⟨_, _, rfl, rfl, rfl⟩ (by decide))) Mem.closed rfl (q_of_yld (y_move rfl)) trivial ?_
  refine wt_q rfl Mem.closed (fun _ h => (Mem.pick h (is := [0]) ⟨_, _, rfl, rfl, rfl⟩ (by decide))) Mem.closed rfl (q_of_yld (y_nilCheck rfl)) trivial ?_
  refine wt_q rfl Mem.closed (fun _ h => (Mem.pick h (is := [0]) ⟨_, _, rfl, rfl, rfl⟩ (by decide))) Mem.closed rfl (q_of_yld (y_fieldAddr fd42_0 sz3 rfl)) trivial ?_
  refine wt_q rfl Mem.closed (fun _ h => (Mem.pick h (is := [0]) ⟨_, _, rfl, rfl, rfl⟩ (by decide))) Mem.closed rfl (q_of_yld (y_load sc3 rfl (c_blk (i := 0) rfl rfl))) trivial ?_
  refine wt_q rfl Mem.closed (fun _ h => (Mem.pick h (is := [0]) ⟨_, _, rfl, rfl, rfl⟩ (by decide))) Mem.closed rfl (q_of_yld (y_build_st (cs := #[.slice a1 n1 c1, .slice none 0 0, ki (2)]) [(0, .slice a1 n1 c1), (2, ki (2))] st67 zn67 rfl (by kernel_rfl))) trivial ?_
  refine wt_e (fun _ => _) rfl rfl rfl (e_buildSlice (len := 1) [.agg (#[.slice a1 n1 c1, .slice none 0 0, ki (2)])] sl29 el67 rfl rfl rfl (by simp [Value.cells]) (by decide) [.slice a1 n1 c1, .slice none 0 0, ki (2)] rfl) trivial (fun _ => Mem.closed) (fun _ _ h => h) (fun _ _ h => (Mem.pick h (is := [1]) ⟨_, _, rfl, rfl, rfl⟩ (by decide))) (fun _ => Mem.closed) ?_
  intro b1
  refine wt_e (fun _ => _) rfl rfl rfl (e_append (xs := ([.slice a0 n0 c0, .slice none 0 0, ki (1)] : List Value)) (news := ([.slice a1 n1 c1, .slice none 0 0, ki (2)] : List Value)) sl29 el67 rfl (by decide) rfl rfl rfl (i := 2) rfl (fun w m => (m.rd_sl (i := 0) rfl)) (one_all rfl) (by decide) (by decide) (fun _ => ⟨_, rfl, ⟨_, rfl, rfl⟩⟩)) trivial (fun _ => Mem.closed) (fun _ _ h => h) (fun _ _ h => (Mem.pick h (is := [1]) ⟨_, _, rfl, rfl, rfl⟩ (by decide))) (fun _ => Mem.closed) ?_
  intro r2
  refine wt_q rfl Mem.closed (fun _ h => (Mem.pick h (is := [1]) ⟨_, _, rfl, rfl, rfl⟩ (by decide))) Mem.closed rfl (q_of_yld (y_nilCheck rfl)) trivial ?_
  refine wt_q rfl Mem.closed (fun _ h => (Mem.pick h (is := [1]) ⟨_, _, rfl, rfl, rfl⟩ (by decide))) Mem.closed rfl (q_of_yld (y_fieldAddr fd42_1 sz29 rfl)) trivial ?_
  refine wt_l rfl rfl rfl (e_store1 sz29 rfl rfl (i := 1) rfl rfl (by first | decide | simp) ⟨_, rfl, rfl⟩) trivial ?_
  intro _
  refine aq_return (.inr rfl) rfl (rfl) ?_
  intro w' m
  exact ⟨(r2.1, r2.2), rfl, (Mem.pick m (is := [1, 2]) ⟨_, _, rfl, rfl, ⟨_, _, rfl, rfl, rfl⟩⟩ (by decide))⟩

theorem bkBytes0_ok (w : World) (own : List Nat) (bk : Nat)  (a0 : Option Addr) (n0 c0 : Nat) (hm : Mem w own [.blk bk (.cells (#[ki (0), .slice none 0 0, .slice none 0 0, .slice none 0 0, .slice none 0 0, .slice none 0 0, .slice none 0 0, .slice none 0 0, .slice none 0 0, .slice none 0 0, .slice none 0 0, .slice none 0 0, .slice none 0 0]) 42 (0, 0))] w) :
    Calls Tryz.prog 11 #[.pointer (some ⟨bk, 0, none⟩), .slice a0 n0 c0] w (Ret (fun _ : Option Addr × Nat => .tuple #[]) (fun r => Mem w own [.blk bk (.cells (#[ki (1), .slice r.1 1 r.2, .slice none 0 0, .slice none 0 0, .slice none 0 0, .slice none 0 0, .slice none 0 0, .slice none 0 0, .slice none 0 0, .slice none 0 0, .slice none 0 0, .slice none 0 0, .slice none 0 0]) 42 (0, 0)), .sl r.1 1 r.2 67 3 ([.slice a0 n0 c0, .slice none 0 0, ki (1)] : List Value)])) := by
  refine calls_of Tryz.func11 rfl rfl (L := [(0, .pointer (some ⟨bk, 0, none⟩)), (1, .slice a0 n0 c0)]) ⟨rfl, rfl, trivial⟩ (m := 7) (Nat.le_of_ble_eq_true rfl) (M := Mem w own [.blk bk (.cells (#[ki (0), .slice none 0 0, .slice none 0 0, .slice none 0 0, .slice none 0 0, .slice none 0 0, .slice none 0 0, .slice none 0 0, .slice none 0 0, .slice none 0 0, .slice none 0 0, .slice none 0 0, .slice none 0 0]) 42 (0, 0))]) (hm) ?_
  refine wc_region ?_
  refine wl_y (y_move rfl) ?_
  refine wl_y (y_move rfl) ?_
  refine wl_eff (e_callM [0] [.blk bk (.cells (#[ki (0), .slice none 0 0, .slice none 0 0, .slice none 0 0, .slice none 0 0, .slice none 0 0, .slice none 0 0, .slice none 0 0, .slice none 0 0, .slice none 0 0, .slice none 0 0, .slice none 0 0, .slice none 0 0]) 42 (0, 0))] [] ⟨_, _, rfl, rfl, rfl⟩ (by decide) cf18 rfl (List.flatMap Ch.keys [.blk bk (.cells (#[ki (0), .slice none 0 0, .slice none 0 0, .slice none 0 0, .slice none 0 0, .slice none 0 0, .slice none 0 0, .slice none 0 0, .slice none 0 0, .slice none 0 0, .slice none 0 0, .slice none 0 0, .slice none 0 0]) 42 (0, 0))]) rfl (fun w m => keepB0_ok w _ bk  a0 n0 c0 (Mem.restart (A := [_]) (B := []) m))) rfl trivial rfl ?_
  intro r1
  refine wl_nil ?_
  refine aq_return (.inr rfl) rfl (rfl) ?_
  intro w' m
  exact ⟨(r1.1, r1.2), rfl, m⟩

theorem bkBytes1_ok (w : World) (own : List Nat) (bk : Nat) (ah : Option Addr) (hc : Nat) (a0 : Option Addr) (n0 c0 : Nat) (a1 : Option Addr) (n1 c1 : Nat) (hm : Mem w own [.blk bk (.cells (#[ki (1), .slice ah 1 hc, .slice none 0 0, .slice none 0 0, .slice none 0 0, .slice none 0 0, .slice none 0 0, .slice none 0 0, .slice none 0 0, .slice none 0 0, .slice none 0 0, .slice none 0 0, .slice none 0 0]) 42 (0, 0)), .sl ah 1 hc 67 3 ([.slice a0 n0 c0, .slice none 0 0, ki (1)] : List Value)] w) :
    Calls Tryz.prog 11 #[.pointer (some ⟨bk, 0, none⟩), .slice a1 n1 c1] w (Ret (fun _ : Option Addr × Nat => .tuple #[]) (fun r => Mem w own [.blk bk (.cells (#[ki (2), .slice r.1 2 r.2, .slice none 0 0, .slice none 0 0, .slice none 0 0, .slice none 0 0, .slice none 0 0, .slice none 0 0, .slice none 0 0, .slice none 0 0, .slice none 0 0, .slice none 0 0, .slice none 0 0]) 42 (0, 0)), .sl r.1 2 r.2 67 3 ([.slice a0 n0 c0, .slice none 0 0, ki (1), .slice a1 n1 c1, .slice none 0 0, ki (2)] : List Value)])) := by
  refine calls_of Tryz.func11 rfl rfl (L := [(0, .pointer (some ⟨bk, 0, none⟩)), (1, .slice a1 n1 c1)]) ⟨rfl, rfl, trivial⟩ (m := 7) (Nat.le_of_ble_eq_true rfl) (M := Mem w own [.blk bk (.cells (#[ki (1), .slice ah 1 hc, .slice none 0 0, .slice none 0 0, .slice none 0 0, .slice none 0 0, .slice none 0 0, .slice none 0 0, .slice none 0 0, .slice none 0 0, .slice none 0 0, .slice none 0 0, .slice none 0 0]) 42 (0, 0)), .sl ah 1 hc 67 3 ([.slice a0 n0 c0, .slice none 0 0, ki (1)] : List Value)]) (hm) ?_
  refine wc_region ?_
  refine wl_y (y_move rfl) ?_
  refine wl_y (y_move rfl) ?_
  refine wl_eff (e_callM [0, 1] [.blk bk (.cells (#[ki (1), .slice ah 1 hc, .slice none 0 0, .slice none 0 0, .slice none 0 0, .slice none 0 0, .slice none 0 0, .slice none 0 0, .slice none 0 0, .slice none 0 0, .slice none 0 0, .slice none 0 0, .slice none 0 0]) 42 (0, 0)), .sl ah 1 hc 67 3 ([.slice a0 n0 c0, .slice none 0 0, ki (1)] : List Value)] [] ⟨_, _, rfl, rfl, ⟨_, _, rfl, rfl, rfl⟩⟩ (by decide) cf18 rfl (List.flatMap Ch.keys [.blk bk (.cells (#[ki (1), .slice ah 1 hc, .slice none 0 0, .slice none 0 0, .slice none 0 0, .slice none 0 0, .slice none 0 0, .slice none 0 0, .slice none 0 0, .slice none 0 0, .slice none 0 0, .slice none 0 0, .slice none 0 0]) 42 (0, 0)), .sl ah 1 hc 67 3 ([.slice a0 n0 c0, .slice none 0 0, ki (1)] : List Value)]) rfl (fun w m => keepB1_ok w _ bk ah hc a0 n0 c0 a1 n1 c1 (Mem.restart (A := [_, _]) (B := []) m))) rfl trivial rfl ?_
  intro r1
  refine wl_nil ?_
  refine aq_return (.inr rfl) rfl (rfl) ?_
  intro w' m
  exact ⟨(r1.1, r1.2), rfl, m⟩

end Go.Proofs.YtjibkjoaamchoaaGreatDoor
