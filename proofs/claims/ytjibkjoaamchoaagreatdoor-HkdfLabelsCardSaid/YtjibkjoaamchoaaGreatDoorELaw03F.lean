/- Lemmas and contracts for the proof of this seat's statements (Law03F). No condition. -/
import Derived.Test.YtjibkjoaamchoaaGreatDoorEBk
import Derived.Test.YtjibkjoaamchoaaGreatDoorProg
import Derived.KernelRfl
import Derived.Test.YtjibkjoaamchoaaGreatDoorEPlaA
import Derived.Test.YtjibkjoaamchoaaGreatDoorENeg03F
import Derived.Test.YtjibkjoaamchoaaGreatDoorESame2F
import Derived.Test.YtjibkjoaamchoaaGreatDoorETwinF
import Derived.Test.YtjibkjoaamchoaaGreatDoorEBkApart2F
set_option linter.all false
namespace Go.Proofs.YtjibkjoaamchoaaGreatDoor
open Go.Mc
private theorem sl50 : slB Tryz.prog 50 22 = true := by kernel_rfl
private theorem sz22 : szB Tryz.prog 22 1 = true := by kernel_rfl
private theorem sc22 : scB Tryz.prog 22 = true := by kernel_rfl
private theorem sl22 : slB Tryz.prog 22 5 = true := by kernel_rfl
private theorem el22 : elB Tryz.prog 22 1 24 (.slice none 0 0) := elB_of (by kernel_rfl) (by kernel_rfl) (by unfold znB; kernel_rfl)
private theorem cf5 : cfB Tryz.prog 5 = true := by kernel_rfl
private theorem cf6 : cfB Tryz.prog 6 = true := by kernel_rfl
private theorem cf7 : cfB Tryz.prog 7 = true := by kernel_rfl
private theorem cf8 : cfB Tryz.prog 8 = true := by kernel_rfl
private theorem cf9 : cfB Tryz.prog 9 = true := by kernel_rfl
private theorem cf10 : cfB Tryz.prog 10 = true := by kernel_rfl
private theorem st42 : stB Tryz.prog 42 [(0, 1), (1, 1), (2, 1), (3, 1), (4, 1), (5, 1), (6, 1), (7, 1), (8, 1), (9, 1), (10, 1), (11, 1), (12, 1)] := by unfold stB; kernel_rfl
private theorem zn42 : znB Tryz.prog 42 (.agg #[ki (0), .slice none 0 0, .slice none 0 0, .slice none 0 0, .slice none 0 0, .slice none 0 0, .slice none 0 0, .slice none 0 0, .slice none 0 0, .slice none 0 0, .slice none 0 0, .slice none 0 0, .slice none 0 0]) := by unfold znB; kernel_rfl
private theorem sz42 : szB Tryz.prog 42 13 = true := by kernel_rfl
private theorem cf11 : cfB Tryz.prog 11 = true := by kernel_rfl
private theorem cf12 : cfB Tryz.prog 12 = true := by kernel_rfl
private theorem fd47_1 : fdB Tryz.prog 47 1 1 22 = true := by kernel_rfl
private theorem fd47_0 : fdB Tryz.prog 47 0 0 9 = true := by kernel_rfl
private theorem sz9 : szB Tryz.prog 9 1 = true := by kernel_rfl
private theorem sc9 : scB Tryz.prog 9 = true := by kernel_rfl
private theorem fd47_2 : fdB Tryz.prog 47 2 2 3 = true := by kernel_rfl
private theorem sz3 : szB Tryz.prog 3 1 = true := by kernel_rfl
private theorem sc3 : scB Tryz.prog 3 = true := by kernel_rfl
private theorem cf13 : cfB Tryz.prog 13 = true := by kernel_rfl
private theorem cf14 : cfB Tryz.prog 14 = true := by kernel_rfl
theorem great_ok (w : World) (al a0 a1 : Option Addr) (n0 c0 n1 c1 : Nat) (x0 x1 : List UInt8) (hal : Rd w al 2 1 (([(a0, n0, c0, x0), (a1, n1, c1, x1)] : List Pc).map pv)) (h0 : n0 ≤ 140737488351232) (h1 : n1 ≤ 140737488351232) :
    Calls Tryz.prog 5 #[.slice al 2 2] w (Ret (fun _ : Unit => kb (grF n0 n1)) (fun _ => Mem w [] [])) := by
  refine calls_of Tryz.func5 rfl rfl (L := [(0, .slice al 2 2)]) ⟨rfl, trivial⟩ (m := 20) (Nat.le_of_ble_eq_true rfl) (M := Mem w [] []) (Mem.refl w) ?_
  refine wc_seq ?_
  refine wc_region ?_
  refine wl_y (y_assign rfl) ?_
  refine wl_nil ?_
  refine aq_seq ?_
  refine wc_seq ?_
  refine wc_region ?_
  refine wl_y (y_assign rfl) ?_
  refine wl_nil ?_
  refine aq_seq ?_
  refine wc_seq ?_
  refine wc_seq ?_
  refine wc_region ?_
  refine wl_y (y_assign rfl) ?_
  refine wl_nil ?_
  refine aq_seq ?_
  refine wc_block ?_
  refine wc_unroll (wh_round ?_)
  refine wc_seq ?_
  refine wc_seq ?_
  refine wc_region ?_
  refine wl_y (y_move rfl) ?_
  refine wl_y (y_move rfl) ?_
  refine wl_y (y_len_sl sl50 (m := 2) rfl rfl) ?_
  refine wl_y (y_bin rfl rfl (show bin .lss (ki 0) (ki 2) = some (kb true) from rfl)) ?_
  refine wl_nil ?_
  refine aq_seq ?_
  refine wc_then rfl ?_
  refine wc_skip ?_
  refine aq_seq ?_
  refine wc_seq ?_
  refine wc_block ?_
  refine wc_seq ?_
  refine wc_region ?_
  refine wl_y (y_move rfl) ?_
  refine wl_y (y_move rfl) ?_
  refine wl_y (y_move rfl) ?_
  refine wl_y (y_indexAddr_sl sl50 sz22 rfl rfl (by omega) (by omega) (fun w m => rd_isSome (m.rd0 hal) (by omega) (by decide)) 0 (by omega)) ?_
  refine wl_y (y_load sc22 rfl (c_of (fun w m => m.rd0 hal) (map_get (gd (none, 0, 0, []) (by first | omega | (simp; done) | (simp [*]; done) | (simp; omega)))))) ?_
  refine wl_re (t := 15) (v' := .slice a0 n0 c0) rfl (rfl) ?_
  refine wl_y (y_len_sl sl22 (m := n0) rfl rfl) ?_
  refine wl_y (y_bin rfl rfl (addn_i64 (a := 0) (b := n0) (by omega))) ?_
  refine wl_y (y_assign rfl) ?_
  refine wl_nil ?_
  refine aq_seq ?_
  refine wc_seq ?_
  refine wc_region ?_
  refine wl_y (y_move rfl) ?_
  refine wl_y (y_bin rfl rfl gtr_i64) ?_
  refine wl_nil ?_
  refine aq_seq ?_
  refine wc_if rfl (fun hc1 => ?_) (fun hc1 => ?_)
  · have hb1 : ((0 + n0 : Nat) : Int) > 3145728 := by simpa using hc1
    refine wc_seq ?_
    refine wc_region ?_
    refine wl_y (y_assign rfl) ?_
    refine wl_nil ?_
    refine aq_seq ?_
    refine wc_ret ?_
    refine aq_blk_ret ?_
    refine aq_thru_ret ?_
    refine aq_thru_ret ?_
    refine aq_blk_ret ?_
    refine aq_thru_ret ?_
    refine aq_return (.inl rfl) rfl (⟨_, _, rfl, rfl, rfl⟩) ?_
    intro w' m
    rw [grF_1 (by omega)]
    exact ⟨(), rfl, m.pick (is := []) rfl List.nodup_nil⟩
  · have hb1 : ¬ (((0 + n0 : Nat) : Int) > 3145728) := by simpa using hc1
    refine wc_skip ?_
    refine aq_blk_normal ?_
    refine aq_seq ?_
    refine wc_region ?_
    refine wl_y (y_move rfl) ?_
    refine wl_y (y_bin rfl rfl (show bin .add (ki 0) (ki 1) = some (ki 1) from rfl)) ?_
    refine wl_y (y_assign rfl) ?_
    refine wl_nil ?_
    refine aq_again (wh_round ?_)
    refine wc_seq ?_
    refine wc_seq ?_
    refine wc_region ?_
    refine wl_y (y_move rfl) ?_
    refine wl_y (y_move rfl) ?_
    refine wl_y (y_len_sl sl50 (m := 2) rfl rfl) ?_
    refine wl_y (y_bin rfl rfl (show bin .lss (ki 1) (ki 2) = some (kb true) from rfl)) ?_
    refine wl_nil ?_
    refine aq_seq ?_
    refine wc_then rfl ?_
    refine wc_skip ?_
    refine aq_seq ?_
    refine wc_seq ?_
    refine wc_block ?_
    refine wc_seq ?_
    refine wc_region ?_
    refine wl_y (y_move rfl) ?_
    refine wl_y (y_move rfl) ?_
    refine wl_y (y_move rfl) ?_
    refine wl_y (y_indexAddr_sl sl50 sz22 rfl rfl (by omega) (by omega) (fun w m => rd_isSome (m.rd0 hal) (by omega) (by decide)) 1 (by omega)) ?_
    refine wl_y (y_load sc22 rfl (c_of (fun w m => m.rd0 hal) (map_get (gd (none, 0, 0, []) (by first | omega | (simp; done) | (simp [*]; done) | (simp; omega)))))) ?_
    refine wl_re (t := 15) (v' := .slice a1 n1 c1) rfl (rfl) ?_
    refine wl_y (y_len_sl sl22 (m := n1) rfl rfl) ?_
    refine wl_y (y_bin rfl rfl (addn_i64 (a := (0 + n0)) (b := n1) (by omega))) ?_
    refine wl_y (y_assign rfl) ?_
    refine wl_nil ?_
    refine aq_seq ?_
    refine wc_seq ?_
    refine wc_region ?_
    refine wl_y (y_move rfl) ?_
    refine wl_y (y_bin rfl rfl gtr_i64) ?_
    refine wl_nil ?_
    refine aq_seq ?_
    refine wc_if rfl (fun hc2 => ?_) (fun hc2 => ?_)
    · have hb2 : (((0 + n0) + n1 : Nat) : Int) > 3145728 := by simpa using hc2
      refine wc_seq ?_
      refine wc_region ?_
      refine wl_y (y_assign rfl) ?_
      refine wl_nil ?_
      refine aq_seq ?_
      refine wc_ret ?_
      refine aq_blk_ret ?_
      refine aq_thru_ret ?_
      refine aq_thru_ret ?_
      refine aq_blk_ret ?_
      refine aq_thru_ret ?_
      refine aq_return (.inl rfl) rfl (⟨_, _, rfl, rfl, rfl⟩) ?_
      intro w' m
      rw [grF_2 (by omega)]
      exact ⟨(), rfl, m.pick (is := []) rfl List.nodup_nil⟩
    · have hb2 : ¬ ((((0 + n0) + n1 : Nat) : Int) > 3145728) := by simpa using hc2
      refine wc_skip ?_
      refine aq_blk_normal ?_
      refine aq_seq ?_
      refine wc_region ?_
      refine wl_y (y_move rfl) ?_
      refine wl_y (y_bin rfl rfl (show bin .add (ki 1) (ki 1) = some (ki 2) from rfl)) ?_
      refine wl_y (y_assign rfl) ?_
      refine wl_nil ?_
      refine aq_again (wh_round ?_)
      refine wc_seq ?_
      refine wc_seq ?_
      refine wc_region ?_
      refine wl_y (y_move rfl) ?_
      refine wl_y (y_move rfl) ?_
      refine wl_y (y_len_sl sl50 (m := 2) rfl rfl) ?_
      refine wl_y (y_bin rfl rfl (show bin .lss (ki 2) (ki 2) = some (kb false) from rfl)) ?_
      refine wl_nil ?_
      refine aq_seq ?_
      refine wc_else rfl ?_
      refine wc_exit ?_
      refine aq_thru_exit ?_
      refine aq_thru_exit ?_
      refine aq_blk_exit ?_
      refine aq_seq ?_
      refine wc_seq ?_
      refine wc_region ?_
      refine wl_y (y_assign rfl) ?_
      refine wl_nil ?_
      refine aq_seq ?_
      refine wc_ret ?_
      refine aq_return (.inl rfl) rfl (⟨_, _, rfl, rfl, rfl⟩) ?_
      intro w' m
      rw [grF_0 (by omega)]
      exact ⟨(), rfl, m.pick (is := []) rfl List.nodup_nil⟩

attribute [local irreducible] grF exO laO exN exE laN laE

set_option maxHeartbeats 1000000 in
theorem law03e_ok (w : World) (ak ai : Option Addr) (nk ck ni ci : Nat) (lk li : List UInt8) (n : Nat) (hn : n ≤ 9223372036854775807) (hk : Rd w ak nk 1 (lk.map b8)) (hi : Rd w ai ni 1 (li.map b8)) (hck : nk ≤ ck) (hci : ni ≤ ci) (hnk : nk ≤ 140737488351232) (hni : ni ≤ 140737488351232) :
    Calls Tryz.prog 3 #[.slice ak nk ck, .slice ai ni ci, ki ((n : Int))] w (Ret (fun _ : Unit => kb true) (fun _ => Mem w [] [])) := by
  have hlk := hk.len
  have hli := hi.len
  have hxn := exN_bd nk ni n
  refine calls_of Tryz.func3 rfl rfl (L := [(0, .slice ak nk ck), (1, .slice ai ni ci), (2, ki ((n : Int)))]) ⟨rfl, rfl, rfl, trivial⟩ (m := 90) (Nat.le_of_ble_eq_true rfl) (M := Mem w [] []) (Mem.refl w) ?_
  refine wc_seq ?_
  refine wc_region ?_
  refine wl_y (y_assign rfl) ?_
  refine wl_nil ?_
  refine aq_seq ?_
  refine wc_seq ?_
  refine wc_seq ?_
  refine wc_region ?_
  refine wl_y (y_move rfl) ?_
  refine wl_y (y_move rfl) ?_
  refine wl_eff (e_buildSlice (len := 2) [.slice ak nk ck, .slice ai ni ci] sl50 el22 rfl rfl rfl (by simp [Value.cells]) (by decide) [.slice ak nk ck, .slice ai ni ci] rfl) rfl trivial rfl ?_
  intro b1
  refine wl_eff (e_call0 cf5 rfl (fun w m => great_ok w (some ⟨b1, 0, none⟩) ak ai nk ck ni ci lk li ((m.rd_sl (i := 0) rfl : Rd _ _ 2 1 (([(ak, nk, ck, lk), (ai, ni, ci, li)] : List Pc).map pv))) (by omega) (by omega))) rfl trivial rfl ?_
  intro _
  refine wl_bool (t := 19) rfl (fun hs5 => ?_) (fun hs5 => ?_)
  · have hb5 : grF nk ni = true := by simpa using hs5
    refine wl_y (y_move rfl) ?_
    refine wl_off ⟨_, _, rfl, rfl, .inl rfl⟩ rfl ?_
    refine wl_off ⟨_, _, rfl, rfl, .inl rfl⟩ rfl ?_
    refine wl_off ⟨_, _, rfl, rfl, .inl rfl⟩ rfl ?_
    refine wl_off ⟨_, _, rfl, rfl, .inr rfl⟩ rfl ?_
    refine wl_off ⟨_, _, rfl, rfl, .inr rfl⟩ rfl ?_
    refine wl_off ⟨_, _, rfl, rfl, .inr rfl⟩ rfl ?_
    refine wl_off ⟨_, _, rfl, rfl, .inr rfl⟩ rfl ?_
    refine wl_off ⟨_, _, rfl, rfl, .inr rfl⟩ rfl ?_
    refine wl_off ⟨_, _, rfl, rfl, .inr rfl⟩ rfl ?_
    refine wl_off ⟨_, _, rfl, rfl, .inl rfl⟩ rfl ?_
    refine wl_y (y_pick (b := true) rfl rfl) ?_
    refine wl_nil ?_
    refine aq_seq ?_
    refine wc_then rfl ?_
    refine wc_seq ?_
    refine wc_region ?_
    refine wl_y (y_assign rfl) ?_
    refine wl_nil ?_
    refine aq_seq ?_
    refine wc_ret ?_
    refine aq_thru_ret ?_
    refine aq_return (.inl rfl) rfl (⟨_, _, rfl, rfl, rfl⟩) ?_
    intro w' m
    exact ⟨(), rfl, m.pick (is := []) rfl (by decide)⟩
  · have hb5 : grF nk ni = false := by simpa using hs5
    have hgr : nk + ni ≤ 3145728 := grF_out (by assumption)
    refine wl_y (y_move rfl) ?_
    refine wl_y (y_move rfl) ?_ (hg := ⟨_, rfl, rfl⟩)
    refine wl_y (y_bin rfl rfl gtr_i64) ?_ (hg := ⟨_, rfl, rfl⟩)
    refine wl_bool (t := 22) rfl (fun hs8 => ?_) (fun hs8 => ?_)
    · have hb8 : (n : Int) > 200 := by simpa using hs8
      refine wl_y (y_move rfl) ?_ (hg := ⟨_, rfl, rfl⟩)
      refine wl_y (y_move rfl) ?_ (hg := ⟨_, rfl, rfl⟩)
      refine wl_y (y_len_sl sl22 (m := nk) rfl rfl) ?_ (hg := ⟨_, rfl, rfl⟩)
      refine wl_y (y_move rfl) ?_ (hg := ⟨_, rfl, rfl⟩)
      refine wl_y (y_len_sl sl22 (m := ni) rfl rfl) ?_ (hg := ⟨_, rfl, rfl⟩)
      refine wl_y (y_bin rfl rfl (addn_i64 (a := nk) (b := ni) (by omega))) ?_ (hg := ⟨_, rfl, rfl⟩)
      refine wl_y (y_bin rfl rfl gtr_i64) ?_ (hg := ⟨_, rfl, rfl⟩)
      refine wl_y (y_pick (b := true) rfl rfl) ?_ (hg := ⟨_, rfl, rfl⟩)
      refine wl_y (y_pick (b := false) rfl rfl) ?_
      refine wl_nil ?_
      refine aq_seq ?_
      refine wc_if rfl (fun hc1 => ?_) (fun hc1 => ?_)
      · have hb1 : ((nk + ni : Nat) : Int) > 5000 := by simpa using hc1
        refine wc_seq ?_
        refine wc_region ?_
        refine wl_y (y_assign rfl) ?_
        refine wl_nil ?_
        refine aq_seq ?_
        refine wc_ret ?_
        refine aq_thru_ret ?_
        refine aq_return (.inl rfl) rfl (⟨_, _, rfl, rfl, rfl⟩) ?_
        intro w' m
        exact ⟨(), rfl, m.pick (is := []) rfl (by decide)⟩
      · have hb1 : ¬ (((nk + ni : Nat) : Int) > 5000) := by simpa using hc1
        refine wc_skip ?_
        refine aq_seq ?_
        refine wc_seq ?_
        refine wc_region ?_
        refine wl_y (y_move rfl) ?_
        refine wl_eff (e_call0 cf6 rfl (fun w m => twin_ok w ak nk ck lk (m.rd0 hk) (by omega))) rfl trivial rfl ?_
        intro r2
        refine wl_use (p := nk + 1 ≤ r2.2) (fun w m => m.sl_le (i := 0) rfl) (fun hcp_r2 => ?_)
        refine wl_y (y_assign rfl) ?_
        refine wl_nil ?_
        refine aq_seq ?_
        refine wc_seq ?_
        refine wc_region ?_
        refine wl_y (y_move rfl) ?_
        refine wl_eff (e_call0 cf6 rfl (fun w m => twin_ok w ai ni ci li (m.rd0 hi) (by omega))) rfl trivial rfl ?_
        intro r3
        refine wl_use (p := ni + 1 ≤ r3.2) (fun w m => m.sl_le (i := 0) rfl) (fun hcp_r3 => ?_)
        refine wl_y (y_assign rfl) ?_
        refine wl_nil ?_
        refine aq_seq ?_
        refine wc_seq ?_
        refine wc_region ?_
        refine wl_y (y_move rfl) ?_
        refine wl_y (y_move rfl) ?_
        refine wl_y (y_move rfl) ?_
        refine wl_eff (e_call0 cf7 rfl (fun w m => expand_ok w r2.1 r3.1 nk r2.2 ni r3.2 lk li n ((Mem.rd_twin m (i := 1) rfl)) ((Mem.rd_twin m (i := 0) rfl)) (by omega) (by omega))) rfl trivial rfl ?_
        intro r4
        refine wl_y (y_move rfl) ?_
        refine wl_y (y_extract rfl rfl) ?_
        refine wl_y (y_extract rfl rfl) ?_
        refine wl_y (y_assign rfl) ?_
        refine wl_y (y_assign rfl) ?_
        refine wl_nil ?_
        refine aq_seq ?_
        refine wc_seq ?_
        refine wc_region ?_
        refine wl_y (y_move rfl) ?_
        refine wl_y (y_move rfl) ?_
        refine wl_y (y_move rfl) ?_
        refine wl_eff (e_call0 cf7 rfl (fun w m => expand_ok w r2.1 r3.1 nk r2.2 ni r3.2 lk li n ((Mem.rd_twin m (i := 2) rfl)) ((Mem.rd_twin m (i := 1) rfl)) (by omega) (by omega))) rfl trivial rfl ?_
        intro r5
        refine wl_y (y_move rfl) ?_
        refine wl_y (y_extract rfl rfl) ?_
        refine wl_y (y_extract rfl rfl) ?_
        refine wl_y (y_assign rfl) ?_
        refine wl_y (y_assign rfl) ?_
        refine wl_nil ?_
        refine aq_seq ?_
        refine wc_seq ?_
        refine wc_region ?_
        refine wl_y (y_move rfl) ?_
        refine wl_y (y_move rfl) ?_
        refine wl_y (y_move rfl) ?_
        refine wl_eff (e_call0 cf8 rfl (fun w m => rexpand_ok w ak ai nk ck ni ci lk li n (m.rd0 hk) (m.rd0 hi) (by omega))) rfl trivial rfl ?_
        intro r6
        refine wl_y (y_move rfl) ?_
        refine wl_y (y_extract rfl rfl) ?_
        refine wl_y (y_extract rfl rfl) ?_
        refine wl_y (y_assign rfl) ?_
        refine wl_y (y_assign rfl) ?_
        refine wl_nil ?_
        refine aq_seq ?_
        refine wc_seq ?_
        refine wc_seq ?_
        refine wc_region ?_
        refine wl_y (y_move rfl) ?_
        refine wl_y (y_move rfl) ?_
        refine wl_eff (e_call0 cf9 rfl (fun w m => SameBytes_ok w r4.1 r6.1 (exN nk ni n) r4.2 (exN nk ni n) r6.2 (exO lk nk li ni n) (exO lk nk li ni n) ((m.rd_sl (i := 2) rfl : Rd _ _ (exN nk ni n) 1 ((exO lk nk li ni n).map b8))) ((m.rd_sl (i := 0) rfl : Rd _ _ (exN nk ni n) 1 ((exO lk nk li ni n).map b8))) (by omega))) rfl trivial rfl ?_
        intro _
        refine wl_re (t := 59) (v' := kb (true)) rfl (congrArg kb (beq_self_eq_true _)) ?_
        refine wl_y (y_not rfl) ?_
        refine wl_y (y_move rfl) ?_
        refine wl_y (y_move rfl) ?_ (hg := ⟨_, rfl, rfl⟩)
        refine wl_y (y_move rfl) ?_ (hg := ⟨_, rfl, rfl⟩)
        refine wl_eff (e_call0 cf9 rfl (fun w m => SameBytes_ok w r5.1 r6.1 (exN nk ni n) r5.2 (exN nk ni n) r6.2 (exO lk nk li ni n) (exO lk nk li ni n) ((m.rd_sl (i := 1) rfl : Rd _ _ (exN nk ni n) 1 ((exO lk nk li ni n).map b8))) ((m.rd_sl (i := 0) rfl : Rd _ _ (exN nk ni n) 1 ((exO lk nk li ni n).map b8))) (by omega))) rfl ⟨_, rfl, rfl⟩ rfl ?_
        intro _
        refine wl_re (t := 64) (v' := kb (true)) rfl (congrArg kb (beq_self_eq_true _)) ?_
        refine wl_y (y_not rfl) ?_ (hg := ⟨_, rfl, rfl⟩)
        refine wl_y (y_pick (b := false) rfl rfl) ?_
        refine wl_y (y_move rfl) ?_
        refine wl_y (y_move rfl) ?_ (hg := ⟨_, rfl, rfl⟩)
        refine wl_y (y_move rfl) ?_ (hg := ⟨_, rfl, rfl⟩)
        refine wl_y (y_bin rfl rfl neq_i64) ?_ (hg := ⟨_, rfl, rfl⟩)
        refine wl_re (t := 70) (v' := kb (false)) rfl (by first | exact congrArg kb (bne_self_eq_false _) | rfl) ?_
        refine wl_y (y_pick (b := false) rfl rfl) ?_
        refine wl_y (y_move rfl) ?_
        refine wl_y (y_move rfl) ?_ (hg := ⟨_, rfl, rfl⟩)
        refine wl_y (y_move rfl) ?_ (hg := ⟨_, rfl, rfl⟩)
        refine wl_eff (e_call0 cf10 rfl (fun w m => left_ok w r2.1 ak nk r2.2 ck lk (m.rd_sl (i := 4) rfl : Rd _ _ (nk + 1) 1 ((lk ++ [77]).map b8)) (m.sl_le (i := 4) rfl) (m.rd0 hk) (by omega))) rfl ⟨_, rfl, rfl⟩ rfl ?_
        intro _
        refine wl_y (y_not rfl) ?_ (hg := ⟨_, rfl, rfl⟩)
        refine wl_y (y_pick (b := false) rfl rfl) ?_
        refine wl_y (y_move rfl) ?_
        refine wl_y (y_move rfl) ?_ (hg := ⟨_, rfl, rfl⟩)
        refine wl_y (y_move rfl) ?_ (hg := ⟨_, rfl, rfl⟩)
        refine wl_eff (e_call0 cf10 rfl (fun w m => left_ok w r3.1 ai ni r3.2 ci li (m.rd_sl (i := 3) rfl : Rd _ _ (ni + 1) 1 ((li ++ [77]).map b8)) (m.sl_le (i := 3) rfl) (m.rd0 hi) (by omega))) rfl ⟨_, rfl, rfl⟩ rfl ?_
        intro _
        refine wl_y (y_not rfl) ?_ (hg := ⟨_, rfl, rfl⟩)
        refine wl_y (y_pick (b := false) rfl rfl) ?_
        refine wl_nil ?_
        refine aq_seq ?_
        refine wc_else rfl ?_
        refine wc_skip ?_
        refine aq_seq ?_
        refine wc_seq ?_
        refine wc_region ?_
        refine wl_y (y_build_st (cs := #[ki (0), .slice none 0 0, .slice none 0 0, .slice none 0 0, .slice none 0 0, .slice none 0 0, .slice none 0 0, .slice none 0 0, .slice none 0 0, .slice none 0 0, .slice none 0 0, .slice none 0 0, .slice none 0 0]) [] st42 zn42 rfl (by kernel_rfl)) ?_
        refine wl_eff (e_alloc (cs := #[ki (0), .slice none 0 0, .slice none 0 0, .slice none 0 0, .slice none 0 0, .slice none 0 0, .slice none 0 0, .slice none 0 0, .slice none 0 0, .slice none 0 0, .slice none 0 0, .slice none 0 0, .slice none 0 0]) zn42) rfl trivial rfl ?_
        intro b7
        refine wl_eff (e_storeall sz42 rfl rfl (i := 0) rfl rfl rfl (by simp [Value.oneCell']) rfl) rfl trivial rfl ?_
        intro _
        refine wl_nil ?_
        refine aq_seq ?_
        refine wc_seq ?_
        refine wc_region ?_
        refine wl_y (y_move rfl) ?_
        refine wl_eff (e_callM [0, 1, 2, 3, 4, 5, 6] [.blk b7 (.cells (#[ki (0), .slice none 0 0, .slice none 0 0, .slice none 0 0, .slice none 0 0, .slice none 0 0, .slice none 0 0, .slice none 0 0, .slice none 0 0, .slice none 0 0, .slice none 0 0, .slice none 0 0, .slice none 0 0]) 42 (0, 0))] [.sl r6.1 (exN nk ni n) r6.2 5 1 ((exO lk nk li ni n).map b8), .sl r5.1 (exN nk ni n) r5.2 5 1 ((exO lk nk li ni n).map b8), .sl r4.1 (exN nk ni n) r4.2 5 1 ((exO lk nk li ni n).map b8), .sl r3.1 (ni + 1) r3.2 5 1 ((li ++ [77]).map b8), .sl r2.1 (nk + 1) r2.2 5 1 ((lk ++ [77]).map b8), .sl (some ⟨b1, 0, none⟩) 2 2 22 1 (([(ak, nk, ck, lk), (ai, ni, ci, li)] : List Pc).map pv)] ⟨_, _, rfl, rfl, ⟨_, _, rfl, rfl, ⟨_, _, rfl, rfl, ⟨_, _, rfl, rfl, ⟨_, _, rfl, rfl, ⟨_, _, rfl, rfl, ⟨_, _, rfl, rfl, rfl⟩⟩⟩⟩⟩⟩⟩ (by decide) cf11 rfl (List.flatMap Ch.keys [.blk b7 (.cells (#[ki (0), .slice none 0 0, .slice none 0 0, .slice none 0 0, .slice none 0 0, .slice none 0 0, .slice none 0 0, .slice none 0 0, .slice none 0 0, .slice none 0 0, .slice none 0 0, .slice none 0 0, .slice none 0 0]) 42 (0, 0))]) rfl (fun w m => bkBytes0_ok w _ b7  r4.1 (exN nk ni n) r4.2 (Mem.restart (A := [_]) (B := [_, _, _, _, _, _]) m))) rfl trivial rfl ?_
        intro r8
        refine wl_nil ?_
        refine aq_seq ?_
        refine wc_seq ?_
        refine wc_region ?_
        refine wl_y (y_move rfl) ?_
        refine wl_eff (e_callM [0, 1, 2, 3, 4, 5, 6, 7] [.blk b7 (.cells (#[ki (1), .slice r8.1 1 r8.2, .slice none 0 0, .slice none 0 0, .slice none 0 0, .slice none 0 0, .slice none 0 0, .slice none 0 0, .slice none 0 0, .slice none 0 0, .slice none 0 0, .slice none 0 0, .slice none 0 0]) 42 (0, 0)), .sl r8.1 1 r8.2 67 3 ([.slice r4.1 (exN nk ni n) r4.2, .slice none 0 0, ki (1)] : List Value)] [.sl r6.1 (exN nk ni n) r6.2 5 1 ((exO lk nk li ni n).map b8), .sl r5.1 (exN nk ni n) r5.2 5 1 ((exO lk nk li ni n).map b8), .sl r4.1 (exN nk ni n) r4.2 5 1 ((exO lk nk li ni n).map b8), .sl r3.1 (ni + 1) r3.2 5 1 ((li ++ [77]).map b8), .sl r2.1 (nk + 1) r2.2 5 1 ((lk ++ [77]).map b8), .sl (some ⟨b1, 0, none⟩) 2 2 22 1 (([(ak, nk, ck, lk), (ai, ni, ci, li)] : List Pc).map pv)] ⟨_, _, rfl, rfl, ⟨_, _, rfl, rfl, ⟨_, _, rfl, rfl, ⟨_, _, rfl, rfl, ⟨_, _, rfl, rfl, ⟨_, _, rfl, rfl, ⟨_, _, rfl, rfl, ⟨_, _, rfl, rfl, rfl⟩⟩⟩⟩⟩⟩⟩⟩ (by decide) cf11 rfl (List.flatMap Ch.keys [.blk b7 (.cells (#[ki (1), .slice r8.1 1 r8.2, .slice none 0 0, .slice none 0 0, .slice none 0 0, .slice none 0 0, .slice none 0 0, .slice none 0 0, .slice none 0 0, .slice none 0 0, .slice none 0 0, .slice none 0 0, .slice none 0 0]) 42 (0, 0)), .sl r8.1 1 r8.2 67 3 ([.slice r4.1 (exN nk ni n) r4.2, .slice none 0 0, ki (1)] : List Value)]) rfl (fun w m => bkBytes1_ok w _ b7 r8.1 r8.2 r4.1 (exN nk ni n) r4.2 r5.1 (exN nk ni n) r5.2 (Mem.restart (A := [_, _]) (B := [_, _, _, _, _, _]) m))) rfl trivial rfl ?_
        intro r9
        refine wl_nil ?_
        refine aq_seq ?_
        refine wc_seq ?_
        refine wc_region ?_
        refine wl_eff (e_callM [0, 1, 4, 3, 2, 5, 6, 7] [.blk b7 (.cells (#[ki (2), .slice r9.1 2 r9.2, .slice none 0 0, .slice none 0 0, .slice none 0 0, .slice none 0 0, .slice none 0 0, .slice none 0 0, .slice none 0 0, .slice none 0 0, .slice none 0 0, .slice none 0 0, .slice none 0 0]) 42 (0, 0)), .sl r9.1 2 r9.2 67 3 ([.slice r4.1 (exN nk ni n) r4.2, .slice none 0 0, ki (1), .slice r5.1 (exN nk ni n) r5.2, .slice none 0 0, ki (2)] : List Value), .sl r4.1 (exN nk ni n) r4.2 5 1 ((exO lk nk li ni n).map b8), .sl r5.1 (exN nk ni n) r5.2 5 1 ((exO lk nk li ni n).map b8)] [.sl r6.1 (exN nk ni n) r6.2 5 1 ((exO lk nk li ni n).map b8), .sl r3.1 (ni + 1) r3.2 5 1 ((li ++ [77]).map b8), .sl r2.1 (nk + 1) r2.2 5 1 ((lk ++ [77]).map b8), .sl (some ⟨b1, 0, none⟩) 2 2 22 1 (([(ak, nk, ck, lk), (ai, ni, ci, li)] : List Pc).map pv)] ⟨_, _, rfl, rfl, ⟨_, _, rfl, rfl, ⟨_, _, rfl, rfl, ⟨_, _, rfl, rfl, ⟨_, _, rfl, rfl, ⟨_, _, rfl, rfl, ⟨_, _, rfl, rfl, ⟨_, _, rfl, rfl, rfl⟩⟩⟩⟩⟩⟩⟩⟩ (by decide) cf12 rfl (List.flatMap Ch.keys [.blk b7 (.cells (#[ki (2), .slice r9.1 2 r9.2, .slice none 0 0, .slice none 0 0, .slice none 0 0, .slice none 0 0, .slice none 0 0, .slice none 0 0, .slice none 0 0, .slice none 0 0, .slice none 0 0, .slice none 0 0, .slice none 0 0]) 42 (0, 0)), .sl r9.1 2 r9.2 67 3 ([.slice r4.1 (exN nk ni n) r4.2, .slice none 0 0, ki (1), .slice r5.1 (exN nk ni n) r5.2, .slice none 0 0, ki (2)] : List Value), .sl r4.1 (exN nk ni n) r4.2 5 1 ((exO lk nk li ni n).map b8), .sl r5.1 (exN nk ni n) r5.2 5 1 ((exO lk nk li ni n).map b8)]) rfl (fun w m => apart_2 w _ b7 r9.1 r9.2 r4.1 (exN nk ni n) r4.2 r5.1 (exN nk ni n) r5.2 (exO lk nk li ni n) (exO lk nk li ni n) (Mem.restart (A := [_, _, _, _]) (B := [_, _, _, _]) m) (by omega) (by omega))) rfl trivial rfl ?_
        intro _
        refine wl_y (y_assign rfl) ?_
        refine wl_nil ?_
        refine aq_seq ?_
        refine wc_ret ?_
        refine aq_return (.inl rfl) rfl (⟨_, _, rfl, rfl, rfl⟩) ?_
        intro w' m
        exact ⟨(), rfl, m.pick (is := []) rfl (by decide)⟩
    · have hb8 : ¬ ((n : Int) > 200) := by simpa using hs8
      refine wl_y (y_move rfl) ?_ (hg := ⟨_, rfl, rfl⟩)
      refine wl_off ⟨_, _, rfl, rfl, .inl rfl⟩ rfl ?_
      refine wl_off ⟨_, _, rfl, rfl, .inl rfl⟩ rfl ?_
      refine wl_off ⟨_, _, rfl, rfl, .inl rfl⟩ rfl ?_
      refine wl_off ⟨_, _, rfl, rfl, .inl rfl⟩ rfl ?_
      refine wl_off ⟨_, _, rfl, rfl, .inl rfl⟩ rfl ?_
      refine wl_off ⟨_, _, rfl, rfl, .inl rfl⟩ rfl ?_
      refine wl_y (y_pick (b := false) rfl rfl) ?_ (hg := ⟨_, rfl, rfl⟩)
      refine wl_y (y_pick (b := false) rfl rfl) ?_
      refine wl_nil ?_
      refine aq_seq ?_
      refine wc_else rfl ?_
      refine wc_skip ?_
      refine aq_seq ?_
      refine wc_seq ?_
      refine wc_region ?_
      refine wl_y (y_move rfl) ?_
      refine wl_eff (e_call0 cf6 rfl (fun w m => twin_ok w ak nk ck lk (m.rd0 hk) (by omega))) rfl trivial rfl ?_
      intro r10
      refine wl_use (p := nk + 1 ≤ r10.2) (fun w m => m.sl_le (i := 0) rfl) (fun hcp_r10 => ?_)
      refine wl_y (y_assign rfl) ?_
      refine wl_nil ?_
      refine aq_seq ?_
      refine wc_seq ?_
      refine wc_region ?_
      refine wl_y (y_move rfl) ?_
      refine wl_eff (e_call0 cf6 rfl (fun w m => twin_ok w ai ni ci li (m.rd0 hi) (by omega))) rfl trivial rfl ?_
      intro r11
      refine wl_use (p := ni + 1 ≤ r11.2) (fun w m => m.sl_le (i := 0) rfl) (fun hcp_r11 => ?_)
      refine wl_y (y_assign rfl) ?_
      refine wl_nil ?_
      refine aq_seq ?_
      refine wc_seq ?_
      refine wc_region ?_
      refine wl_y (y_move rfl) ?_
      refine wl_y (y_move rfl) ?_
      refine wl_y (y_move rfl) ?_
      refine wl_eff (e_call0 cf7 rfl (fun w m => expand_ok w r10.1 r11.1 nk r10.2 ni r11.2 lk li n ((Mem.rd_twin m (i := 1) rfl)) ((Mem.rd_twin m (i := 0) rfl)) (by omega) (by omega))) rfl trivial rfl ?_
      intro r12
      refine wl_y (y_move rfl) ?_
      refine wl_y (y_extract rfl rfl) ?_
      refine wl_y (y_extract rfl rfl) ?_
      refine wl_y (y_assign rfl) ?_
      refine wl_y (y_assign rfl) ?_
      refine wl_nil ?_
      refine aq_seq ?_
      refine wc_seq ?_
      refine wc_region ?_
      refine wl_y (y_move rfl) ?_
      refine wl_y (y_move rfl) ?_
      refine wl_y (y_move rfl) ?_
      refine wl_eff (e_call0 cf7 rfl (fun w m => expand_ok w r10.1 r11.1 nk r10.2 ni r11.2 lk li n ((Mem.rd_twin m (i := 2) rfl)) ((Mem.rd_twin m (i := 1) rfl)) (by omega) (by omega))) rfl trivial rfl ?_
      intro r13
      refine wl_y (y_move rfl) ?_
      refine wl_y (y_extract rfl rfl) ?_
      refine wl_y (y_extract rfl rfl) ?_
      refine wl_y (y_assign rfl) ?_
      refine wl_y (y_assign rfl) ?_
      refine wl_nil ?_
      refine aq_seq ?_
      refine wc_seq ?_
      refine wc_region ?_
      refine wl_y (y_move rfl) ?_
      refine wl_y (y_move rfl) ?_
      refine wl_y (y_move rfl) ?_
      refine wl_eff (e_call0 cf8 rfl (fun w m => rexpand_ok w ak ai nk ck ni ci lk li n (m.rd0 hk) (m.rd0 hi) (by omega))) rfl trivial rfl ?_
      intro r14
      refine wl_y (y_move rfl) ?_
      refine wl_y (y_extract rfl rfl) ?_
      refine wl_y (y_extract rfl rfl) ?_
      refine wl_y (y_assign rfl) ?_
      refine wl_y (y_assign rfl) ?_
      refine wl_nil ?_
      refine aq_seq ?_
      refine wc_seq ?_
      refine wc_seq ?_
      refine wc_region ?_
      refine wl_y (y_move rfl) ?_
      refine wl_y (y_move rfl) ?_
      refine wl_eff (e_call0 cf9 rfl (fun w m => SameBytes_ok w r12.1 r14.1 (exN nk ni n) r12.2 (exN nk ni n) r14.2 (exO lk nk li ni n) (exO lk nk li ni n) ((m.rd_sl (i := 2) rfl : Rd _ _ (exN nk ni n) 1 ((exO lk nk li ni n).map b8))) ((m.rd_sl (i := 0) rfl : Rd _ _ (exN nk ni n) 1 ((exO lk nk li ni n).map b8))) (by omega))) rfl trivial rfl ?_
      intro _
      refine wl_re (t := 59) (v' := kb (true)) rfl (congrArg kb (beq_self_eq_true _)) ?_
      refine wl_y (y_not rfl) ?_
      refine wl_y (y_move rfl) ?_
      refine wl_y (y_move rfl) ?_ (hg := ⟨_, rfl, rfl⟩)
      refine wl_y (y_move rfl) ?_ (hg := ⟨_, rfl, rfl⟩)
      refine wl_eff (e_call0 cf9 rfl (fun w m => SameBytes_ok w r13.1 r14.1 (exN nk ni n) r13.2 (exN nk ni n) r14.2 (exO lk nk li ni n) (exO lk nk li ni n) ((m.rd_sl (i := 1) rfl : Rd _ _ (exN nk ni n) 1 ((exO lk nk li ni n).map b8))) ((m.rd_sl (i := 0) rfl : Rd _ _ (exN nk ni n) 1 ((exO lk nk li ni n).map b8))) (by omega))) rfl ⟨_, rfl, rfl⟩ rfl ?_
      intro _
      refine wl_re (t := 64) (v' := kb (true)) rfl (congrArg kb (beq_self_eq_true _)) ?_
      refine wl_y (y_not rfl) ?_ (hg := ⟨_, rfl, rfl⟩)
      refine wl_y (y_pick (b := false) rfl rfl) ?_
      refine wl_y (y_move rfl) ?_
      refine wl_y (y_move rfl) ?_ (hg := ⟨_, rfl, rfl⟩)
      refine wl_y (y_move rfl) ?_ (hg := ⟨_, rfl, rfl⟩)
      refine wl_y (y_bin rfl rfl neq_i64) ?_ (hg := ⟨_, rfl, rfl⟩)
      refine wl_re (t := 70) (v' := kb (false)) rfl (by first | exact congrArg kb (bne_self_eq_false _) | rfl) ?_
      refine wl_y (y_pick (b := false) rfl rfl) ?_
      refine wl_y (y_move rfl) ?_
      refine wl_y (y_move rfl) ?_ (hg := ⟨_, rfl, rfl⟩)
      refine wl_y (y_move rfl) ?_ (hg := ⟨_, rfl, rfl⟩)
      refine wl_eff (e_call0 cf10 rfl (fun w m => left_ok w r10.1 ak nk r10.2 ck lk (m.rd_sl (i := 4) rfl : Rd _ _ (nk + 1) 1 ((lk ++ [77]).map b8)) (m.sl_le (i := 4) rfl) (m.rd0 hk) (by omega))) rfl ⟨_, rfl, rfl⟩ rfl ?_
      intro _
      refine wl_y (y_not rfl) ?_ (hg := ⟨_, rfl, rfl⟩)
      refine wl_y (y_pick (b := false) rfl rfl) ?_
      refine wl_y (y_move rfl) ?_
      refine wl_y (y_move rfl) ?_ (hg := ⟨_, rfl, rfl⟩)
      refine wl_y (y_move rfl) ?_ (hg := ⟨_, rfl, rfl⟩)
      refine wl_eff (e_call0 cf10 rfl (fun w m => left_ok w r11.1 ai ni r11.2 ci li (m.rd_sl (i := 3) rfl : Rd _ _ (ni + 1) 1 ((li ++ [77]).map b8)) (m.sl_le (i := 3) rfl) (m.rd0 hi) (by omega))) rfl ⟨_, rfl, rfl⟩ rfl ?_
      intro _
      refine wl_y (y_not rfl) ?_ (hg := ⟨_, rfl, rfl⟩)
      refine wl_y (y_pick (b := false) rfl rfl) ?_
      refine wl_nil ?_
      refine aq_seq ?_
      refine wc_else rfl ?_
      refine wc_skip ?_
      refine aq_seq ?_
      refine wc_seq ?_
      refine wc_region ?_
      refine wl_y (y_build_st (cs := #[ki (0), .slice none 0 0, .slice none 0 0, .slice none 0 0, .slice none 0 0, .slice none 0 0, .slice none 0 0, .slice none 0 0, .slice none 0 0, .slice none 0 0, .slice none 0 0, .slice none 0 0, .slice none 0 0]) [] st42 zn42 rfl (by kernel_rfl)) ?_
      refine wl_eff (e_alloc (cs := #[ki (0), .slice none 0 0, .slice none 0 0, .slice none 0 0, .slice none 0 0, .slice none 0 0, .slice none 0 0, .slice none 0 0, .slice none 0 0, .slice none 0 0, .slice none 0 0, .slice none 0 0, .slice none 0 0]) zn42) rfl trivial rfl ?_
      intro b15
      refine wl_eff (e_storeall sz42 rfl rfl (i := 0) rfl rfl rfl (by simp [Value.oneCell']) rfl) rfl trivial rfl ?_
      intro _
      refine wl_nil ?_
      refine aq_seq ?_
      refine wc_seq ?_
      refine wc_region ?_
      refine wl_y (y_move rfl) ?_
      refine wl_eff (e_callM [0, 1, 2, 3, 4, 5, 6] [.blk b15 (.cells (#[ki (0), .slice none 0 0, .slice none 0 0, .slice none 0 0, .slice none 0 0, .slice none 0 0, .slice none 0 0, .slice none 0 0, .slice none 0 0, .slice none 0 0, .slice none 0 0, .slice none 0 0, .slice none 0 0]) 42 (0, 0))] [.sl r14.1 (exN nk ni n) r14.2 5 1 ((exO lk nk li ni n).map b8), .sl r13.1 (exN nk ni n) r13.2 5 1 ((exO lk nk li ni n).map b8), .sl r12.1 (exN nk ni n) r12.2 5 1 ((exO lk nk li ni n).map b8), .sl r11.1 (ni + 1) r11.2 5 1 ((li ++ [77]).map b8), .sl r10.1 (nk + 1) r10.2 5 1 ((lk ++ [77]).map b8), .sl (some ⟨b1, 0, none⟩) 2 2 22 1 (([(ak, nk, ck, lk), (ai, ni, ci, li)] : List Pc).map pv)] ⟨_, _, rfl, rfl, ⟨_, _, rfl, rfl, ⟨_, _, rfl, rfl, ⟨_, _, rfl, rfl, ⟨_, _, rfl, rfl, ⟨_, _, rfl, rfl, ⟨_, _, rfl, rfl, rfl⟩⟩⟩⟩⟩⟩⟩ (by decide) cf11 rfl (List.flatMap Ch.keys [.blk b15 (.cells (#[ki (0), .slice none 0 0, .slice none 0 0, .slice none 0 0, .slice none 0 0, .slice none 0 0, .slice none 0 0, .slice none 0 0, .slice none 0 0, .slice none 0 0, .slice none 0 0, .slice none 0 0, .slice none 0 0]) 42 (0, 0))]) rfl (fun w m => bkBytes0_ok w _ b15  r12.1 (exN nk ni n) r12.2 (Mem.restart (A := [_]) (B := [_, _, _, _, _, _]) m))) rfl trivial rfl ?_
      intro r16
      refine wl_nil ?_
      refine aq_seq ?_
      refine wc_seq ?_
      refine wc_region ?_
      refine wl_y (y_move rfl) ?_
      refine wl_eff (e_callM [0, 1, 2, 3, 4, 5, 6, 7] [.blk b15 (.cells (#[ki (1), .slice r16.1 1 r16.2, .slice none 0 0, .slice none 0 0, .slice none 0 0, .slice none 0 0, .slice none 0 0, .slice none 0 0, .slice none 0 0, .slice none 0 0, .slice none 0 0, .slice none 0 0, .slice none 0 0]) 42 (0, 0)), .sl r16.1 1 r16.2 67 3 ([.slice r12.1 (exN nk ni n) r12.2, .slice none 0 0, ki (1)] : List Value)] [.sl r14.1 (exN nk ni n) r14.2 5 1 ((exO lk nk li ni n).map b8), .sl r13.1 (exN nk ni n) r13.2 5 1 ((exO lk nk li ni n).map b8), .sl r12.1 (exN nk ni n) r12.2 5 1 ((exO lk nk li ni n).map b8), .sl r11.1 (ni + 1) r11.2 5 1 ((li ++ [77]).map b8), .sl r10.1 (nk + 1) r10.2 5 1 ((lk ++ [77]).map b8), .sl (some ⟨b1, 0, none⟩) 2 2 22 1 (([(ak, nk, ck, lk), (ai, ni, ci, li)] : List Pc).map pv)] ⟨_, _, rfl, rfl, ⟨_, _, rfl, rfl, ⟨_, _, rfl, rfl, ⟨_, _, rfl, rfl, ⟨_, _, rfl, rfl, ⟨_, _, rfl, rfl, ⟨_, _, rfl, rfl, ⟨_, _, rfl, rfl, rfl⟩⟩⟩⟩⟩⟩⟩⟩ (by decide) cf11 rfl (List.flatMap Ch.keys [.blk b15 (.cells (#[ki (1), .slice r16.1 1 r16.2, .slice none 0 0, .slice none 0 0, .slice none 0 0, .slice none 0 0, .slice none 0 0, .slice none 0 0, .slice none 0 0, .slice none 0 0, .slice none 0 0, .slice none 0 0, .slice none 0 0]) 42 (0, 0)), .sl r16.1 1 r16.2 67 3 ([.slice r12.1 (exN nk ni n) r12.2, .slice none 0 0, ki (1)] : List Value)]) rfl (fun w m => bkBytes1_ok w _ b15 r16.1 r16.2 r12.1 (exN nk ni n) r12.2 r13.1 (exN nk ni n) r13.2 (Mem.restart (A := [_, _]) (B := [_, _, _, _, _, _]) m))) rfl trivial rfl ?_
      intro r17
      refine wl_nil ?_
      refine aq_seq ?_
      refine wc_seq ?_
      refine wc_region ?_
      refine wl_eff (e_callM [0, 1, 4, 3, 2, 5, 6, 7] [.blk b15 (.cells (#[ki (2), .slice r17.1 2 r17.2, .slice none 0 0, .slice none 0 0, .slice none 0 0, .slice none 0 0, .slice none 0 0, .slice none 0 0, .slice none 0 0, .slice none 0 0, .slice none 0 0, .slice none 0 0, .slice none 0 0]) 42 (0, 0)), .sl r17.1 2 r17.2 67 3 ([.slice r12.1 (exN nk ni n) r12.2, .slice none 0 0, ki (1), .slice r13.1 (exN nk ni n) r13.2, .slice none 0 0, ki (2)] : List Value), .sl r12.1 (exN nk ni n) r12.2 5 1 ((exO lk nk li ni n).map b8), .sl r13.1 (exN nk ni n) r13.2 5 1 ((exO lk nk li ni n).map b8)] [.sl r14.1 (exN nk ni n) r14.2 5 1 ((exO lk nk li ni n).map b8), .sl r11.1 (ni + 1) r11.2 5 1 ((li ++ [77]).map b8), .sl r10.1 (nk + 1) r10.2 5 1 ((lk ++ [77]).map b8), .sl (some ⟨b1, 0, none⟩) 2 2 22 1 (([(ak, nk, ck, lk), (ai, ni, ci, li)] : List Pc).map pv)] ⟨_, _, rfl, rfl, ⟨_, _, rfl, rfl, ⟨_, _, rfl, rfl, ⟨_, _, rfl, rfl, ⟨_, _, rfl, rfl, ⟨_, _, rfl, rfl, ⟨_, _, rfl, rfl, ⟨_, _, rfl, rfl, rfl⟩⟩⟩⟩⟩⟩⟩⟩ (by decide) cf12 rfl (List.flatMap Ch.keys [.blk b15 (.cells (#[ki (2), .slice r17.1 2 r17.2, .slice none 0 0, .slice none 0 0, .slice none 0 0, .slice none 0 0, .slice none 0 0, .slice none 0 0, .slice none 0 0, .slice none 0 0, .slice none 0 0, .slice none 0 0, .slice none 0 0]) 42 (0, 0)), .sl r17.1 2 r17.2 67 3 ([.slice r12.1 (exN nk ni n) r12.2, .slice none 0 0, ki (1), .slice r13.1 (exN nk ni n) r13.2, .slice none 0 0, ki (2)] : List Value), .sl r12.1 (exN nk ni n) r12.2 5 1 ((exO lk nk li ni n).map b8), .sl r13.1 (exN nk ni n) r13.2 5 1 ((exO lk nk li ni n).map b8)]) rfl (fun w m => apart_2 w _ b15 r17.1 r17.2 r12.1 (exN nk ni n) r12.2 r13.1 (exN nk ni n) r13.2 (exO lk nk li ni n) (exO lk nk li ni n) (Mem.restart (A := [_, _, _, _]) (B := [_, _, _, _]) m) (by omega) (by omega))) rfl trivial rfl ?_
      intro _
      refine wl_y (y_assign rfl) ?_
      refine wl_nil ?_
      refine aq_seq ?_
      refine wc_ret ?_
      refine aq_return (.inl rfl) rfl (⟨_, _, rfl, rfl, rfl⟩) ?_
      intro w' m
      exact ⟨(), rfl, m.pick (is := []) rfl (by decide)⟩

set_option maxHeartbeats 1000000 in
theorem law03l_ok (w : World) (ak ai : Option Addr) (nk ck ni ci : Nat) (lk li : List UInt8) (n : Nat) (hn : n ≤ 9223372036854775807) (hk : Rd w ak nk 1 (lk.map b8)) (hi : Rd w ai ni 1 (li.map b8)) (hck : nk ≤ ck) (hci : ni ≤ ci) (hnk : nk ≤ 140737488351232) (hni : ni ≤ 140737488351232) (ln : List UInt8) (nn : Nat) (hln : ln.length = nn) :
    Calls Tryz.prog 4 #[.slice ak nk ck, .agg (#[.string (bs ln), .slice ai ni ci, ki ((n : Int))])] w (Ret (fun _ : Unit => kb true) (fun _ => Mem w [] [])) := by
  have hlk := hk.len
  have hli := hi.len
  have hxn := laN_bd nk nn ni n
  refine calls_of Tryz.func4 rfl rfl (L := [(0, .slice ak nk ck), (1, .agg (#[.string (bs ln), .slice ai ni ci, ki ((n : Int))]))]) ⟨rfl, rfl, trivial⟩ (m := 99) (Nat.le_of_ble_eq_true rfl) (M := Mem w [] []) (Mem.refl w) ?_
  refine wc_seq ?_
  refine wc_region ?_
  refine wl_eff (e_box (cs := #[.string (bs ln), .slice ai ni ci, ki ((n : Int))]) rfl) rfl trivial rfl ?_
  intro b1
  refine wl_y (y_assign rfl) ?_
  refine wl_nil ?_
  refine aq_seq ?_
  refine wc_seq ?_
  refine wc_seq ?_
  refine wc_region ?_
  refine wl_y (y_move rfl) ?_
  refine wl_y (y_fieldAddr fd47_1 sz22 rfl) ?_
  refine wl_y (y_load sc22 rfl (c_blk (i := 0) rfl rfl)) ?_
  refine wl_eff (e_buildSlice (len := 2) [.slice ak nk ck, .slice ai ni ci] sl50 el22 rfl rfl rfl (by simp [Value.cells]) (by decide) [.slice ak nk ck, .slice ai ni ci] rfl) rfl trivial rfl ?_
  intro b2
  refine wl_eff (e_call0 cf5 rfl (fun w m => great_ok w (some ⟨b2, 0, none⟩) ak ai nk ck ni ci lk li ((m.rd_sl (i := 0) rfl : Rd _ _ 2 1 (([(ak, nk, ck, lk), (ai, ni, ci, li)] : List Pc).map pv))) (by omega) (by omega))) rfl trivial rfl ?_
  intro _
  refine wl_bool (t := 18) rfl (fun hs7 => ?_) (fun hs7 => ?_)
  · have hb7 : grF nk ni = true := by simpa using hs7
    refine wl_y (y_move rfl) ?_
    refine wl_off ⟨_, _, rfl, rfl, .inl rfl⟩ rfl ?_
    refine wl_off ⟨_, _, rfl, rfl, .inl rfl⟩ rfl ?_
    refine wl_off ⟨_, _, rfl, rfl, .inl rfl⟩ rfl ?_
    refine wl_off ⟨_, _, rfl, rfl, .inl rfl⟩ rfl ?_
    refine wl_off ⟨_, _, rfl, rfl, .inr rfl⟩ rfl ?_
    refine wl_off ⟨_, _, rfl, rfl, .inr rfl⟩ rfl ?_
    refine wl_off ⟨_, _, rfl, rfl, .inr rfl⟩ rfl ?_
    refine wl_off ⟨_, _, rfl, rfl, .inl rfl⟩ rfl ?_
    refine wl_y (y_pick (b := true) rfl rfl) ?_
    refine wl_nil ?_
    refine aq_seq ?_
    refine wc_then rfl ?_
    refine wc_seq ?_
    refine wc_region ?_
    refine wl_y (y_assign rfl) ?_
    refine wl_nil ?_
    refine aq_seq ?_
    refine wc_ret ?_
    refine aq_thru_ret ?_
    refine aq_return (.inl rfl) rfl (⟨_, _, rfl, rfl, rfl⟩) ?_
    intro w' m
    exact ⟨(), rfl, m.pick (is := []) rfl (by decide)⟩
  · have hb7 : grF nk ni = false := by simpa using hs7
    have hgr : nk + ni ≤ 3145728 := grF_out (by assumption)
    refine wl_y (y_move rfl) ?_
    refine wl_y (y_move rfl) ?_ (hg := ⟨_, rfl, rfl⟩)
    refine wl_y (y_len_sl sl22 (m := nk) rfl rfl) ?_ (hg := ⟨_, rfl, rfl⟩)
    refine wl_y (y_bin rfl rfl gtr_i64) ?_ (hg := ⟨_, rfl, rfl⟩)
    refine wl_bool (t := 22) rfl (fun hs11 => ?_) (fun hs11 => ?_)
    · have hb11 : (nk : Int) > 5000 := by simpa using hs11
      refine wl_y (y_move rfl) ?_ (hg := ⟨_, rfl, rfl⟩)
      refine wl_y (y_move rfl) ?_ (hg := ⟨_, rfl, rfl⟩)
      refine wl_y (y_len_sl sl22 (m := nk) rfl rfl) ?_ (hg := ⟨_, rfl, rfl⟩)
      refine wl_y (y_bin rfl rfl leq_i64) ?_ (hg := ⟨_, rfl, rfl⟩)
      refine wl_y (y_pick (b := true) rfl rfl) ?_ (hg := ⟨_, rfl, rfl⟩)
      refine wl_y (y_pick (b := false) rfl rfl) ?_
      refine wl_nil ?_
      refine aq_seq ?_
      refine wc_if rfl (fun hc1 => ?_) (fun hc1 => ?_)
      · have hb1 : (nk : Int) ≤ 1048576 := by simpa using hc1
        refine wc_seq ?_
        refine wc_region ?_
        refine wl_y (y_assign rfl) ?_
        refine wl_nil ?_
        refine aq_seq ?_
        refine wc_ret ?_
        refine aq_thru_ret ?_
        refine aq_return (.inl rfl) rfl (⟨_, _, rfl, rfl, rfl⟩) ?_
        intro w' m
        exact ⟨(), rfl, m.pick (is := []) rfl (by decide)⟩
      · have hb1 : ¬ ((nk : Int) ≤ 1048576) := by simpa using hc1
        refine wc_skip ?_
        refine aq_seq ?_
        refine wc_seq ?_
        refine wc_region ?_
        refine wl_y (y_move rfl) ?_
        refine wl_eff (e_call0 cf6 rfl (fun w m => twin_ok w ak nk ck lk (m.rd0 hk) (by omega))) rfl trivial rfl ?_
        intro r3
        refine wl_use (p := nk + 1 ≤ r3.2) (fun w m => m.sl_le (i := 0) rfl) (fun hcp_r3 => ?_)
        refine wl_y (y_assign rfl) ?_
        refine wl_nil ?_
        refine aq_seq ?_
        refine wc_seq ?_
        refine wc_region ?_
        refine wl_y (y_fieldAddr fd47_1 sz22 rfl) ?_
        refine wl_y (y_load sc22 rfl (c_blk (i := 2) rfl rfl)) ?_
        refine wl_eff (e_call0 cf6 rfl (fun w m => twin_ok w ai ni ci li (m.rd0 hi) (by omega))) rfl trivial rfl ?_
        intro r4
        refine wl_use (p := ni + 1 ≤ r4.2) (fun w m => m.sl_le (i := 0) rfl) (fun hcp_r4 => ?_)
        refine wl_y (y_assign rfl) ?_
        refine wl_nil ?_
        refine aq_seq ?_
        refine wc_seq ?_
        refine wc_region ?_
        refine wl_y (y_move rfl) ?_
        refine wl_y (y_fieldAddr fd47_0 sz9 rfl) ?_
        refine wl_y (y_load sc9 rfl (c_blk (i := 3) rfl rfl)) ?_
        refine wl_y (y_move rfl) ?_
        refine wl_y (y_fieldAddr fd47_2 sz3 rfl) ?_
        refine wl_y (y_load sc3 rfl (c_blk (i := 3) rfl rfl)) ?_
        refine wl_eff (e_call0 cf13 rfl (fun w m => label_ok w r3.1 r4.1 nk r3.2 ni r4.2 lk li ln nn n ((Mem.rd_twin m (i := 1) rfl)) ((Mem.rd_twin m (i := 0) rfl)) (by omega) (by first | omega | (simp; done) | (simp [*]; done) | (simp; omega)) (by omega))) rfl trivial rfl ?_
        intro r5
        refine wl_y (y_move rfl) ?_
        refine wl_y (y_extract rfl rfl) ?_
        refine wl_y (y_extract rfl rfl) ?_
        refine wl_y (y_assign rfl) ?_
        refine wl_y (y_assign rfl) ?_
        refine wl_nil ?_
        refine aq_seq ?_
        refine wc_seq ?_
        refine wc_region ?_
        refine wl_y (y_move rfl) ?_
        refine wl_y (y_fieldAddr fd47_0 sz9 rfl) ?_
        refine wl_y (y_load sc9 rfl (c_blk (i := 4) rfl rfl)) ?_
        refine wl_y (y_move rfl) ?_
        refine wl_y (y_fieldAddr fd47_2 sz3 rfl) ?_
        refine wl_y (y_load sc3 rfl (c_blk (i := 4) rfl rfl)) ?_
        refine wl_eff (e_call0 cf13 rfl (fun w m => label_ok w r3.1 r4.1 nk r3.2 ni r4.2 lk li ln nn n ((Mem.rd_twin m (i := 2) rfl)) ((Mem.rd_twin m (i := 1) rfl)) (by omega) (by first | omega | (simp; done) | (simp [*]; done) | (simp; omega)) (by omega))) rfl trivial rfl ?_
        intro r6
        refine wl_y (y_move rfl) ?_
        refine wl_y (y_extract rfl rfl) ?_
        refine wl_y (y_extract rfl rfl) ?_
        refine wl_y (y_assign rfl) ?_
        refine wl_y (y_assign rfl) ?_
        refine wl_nil ?_
        refine aq_seq ?_
        refine wc_seq ?_
        refine wc_region ?_
        refine wl_y (y_move rfl) ?_
        refine wl_y (y_fieldAddr fd47_0 sz9 rfl) ?_
        refine wl_y (y_load sc9 rfl (c_blk (i := 5) rfl rfl)) ?_
        refine wl_y (y_fieldAddr fd47_1 sz22 rfl) ?_
        refine wl_y (y_load sc22 rfl (c_blk (i := 5) rfl rfl)) ?_
        refine wl_y (y_fieldAddr fd47_2 sz3 rfl) ?_
        refine wl_y (y_load sc3 rfl (c_blk (i := 5) rfl rfl)) ?_
        refine wl_eff (e_call0 cf14 rfl (fun w m => rlabel_ok w ak ai nk ck ni ci lk li ln nn n (m.rd0 hk) (m.rd0 hi) (by first | omega | (simp; done) | (simp [*]; done) | (simp; omega)) (by omega))) rfl trivial rfl ?_
        intro r7
        refine wl_y (y_move rfl) ?_
        refine wl_y (y_extract rfl rfl) ?_
        refine wl_y (y_extract rfl rfl) ?_
        refine wl_y (y_assign rfl) ?_
        refine wl_y (y_assign rfl) ?_
        refine wl_nil ?_
        refine aq_seq ?_
        refine wc_seq ?_
        refine wc_seq ?_
        refine wc_region ?_
        refine wl_y (y_move rfl) ?_
        refine wl_y (y_move rfl) ?_
        refine wl_eff (e_call0 cf9 rfl (fun w m => SameBytes_ok w r5.1 r7.1 (laN nk nn ni n) r5.2 (laN nk nn ni n) r7.2 (laO lk nk ln nn li ni n) (laO lk nk ln nn li ni n) ((m.rd_sl (i := 2) rfl : Rd _ _ (laN nk nn ni n) 1 ((laO lk nk ln nn li ni n).map b8))) ((m.rd_sl (i := 0) rfl : Rd _ _ (laN nk nn ni n) 1 ((laO lk nk ln nn li ni n).map b8))) (by omega))) rfl trivial rfl ?_
        intro _
        refine wl_re (t := 67) (v' := kb (true)) rfl (congrArg kb (beq_self_eq_true _)) ?_
        refine wl_y (y_not rfl) ?_
        refine wl_y (y_move rfl) ?_
        refine wl_y (y_move rfl) ?_ (hg := ⟨_, rfl, rfl⟩)
        refine wl_y (y_move rfl) ?_ (hg := ⟨_, rfl, rfl⟩)
        refine wl_eff (e_call0 cf9 rfl (fun w m => SameBytes_ok w r6.1 r7.1 (laN nk nn ni n) r6.2 (laN nk nn ni n) r7.2 (laO lk nk ln nn li ni n) (laO lk nk ln nn li ni n) ((m.rd_sl (i := 1) rfl : Rd _ _ (laN nk nn ni n) 1 ((laO lk nk ln nn li ni n).map b8))) ((m.rd_sl (i := 0) rfl : Rd _ _ (laN nk nn ni n) 1 ((laO lk nk ln nn li ni n).map b8))) (by omega))) rfl ⟨_, rfl, rfl⟩ rfl ?_
        intro _
        refine wl_re (t := 72) (v' := kb (true)) rfl (congrArg kb (beq_self_eq_true _)) ?_
        refine wl_y (y_not rfl) ?_ (hg := ⟨_, rfl, rfl⟩)
        refine wl_y (y_pick (b := false) rfl rfl) ?_
        refine wl_y (y_move rfl) ?_
        refine wl_y (y_move rfl) ?_ (hg := ⟨_, rfl, rfl⟩)
        refine wl_y (y_move rfl) ?_ (hg := ⟨_, rfl, rfl⟩)
        refine wl_y (y_bin rfl rfl neq_i64) ?_ (hg := ⟨_, rfl, rfl⟩)
        refine wl_re (t := 78) (v' := kb (false)) rfl (by first | exact congrArg kb (bne_self_eq_false _) | rfl) ?_
        refine wl_y (y_pick (b := false) rfl rfl) ?_
        refine wl_y (y_move rfl) ?_
        refine wl_y (y_move rfl) ?_ (hg := ⟨_, rfl, rfl⟩)
        refine wl_y (y_move rfl) ?_ (hg := ⟨_, rfl, rfl⟩)
        refine wl_eff (e_call0 cf10 rfl (fun w m => left_ok w r3.1 ak nk r3.2 ck lk (m.rd_sl (i := 4) rfl : Rd _ _ (nk + 1) 1 ((lk ++ [77]).map b8)) (m.sl_le (i := 4) rfl) (m.rd0 hk) (by omega))) rfl ⟨_, rfl, rfl⟩ rfl ?_
        intro _
        refine wl_y (y_not rfl) ?_ (hg := ⟨_, rfl, rfl⟩)
        refine wl_y (y_pick (b := false) rfl rfl) ?_
        refine wl_y (y_move rfl) ?_
        refine wl_y (y_move rfl) ?_ (hg := ⟨_, rfl, rfl⟩)
        refine wl_y (y_fieldAddr fd47_1 sz22 rfl) ?_ (hg := ⟨_, rfl, rfl⟩)
        refine wl_y (y_load sc22 rfl (c_blk (i := 6) rfl rfl)) ?_ (hg := ⟨_, rfl, rfl⟩)
        refine wl_eff (e_call0 cf10 rfl (fun w m => left_ok w r4.1 ai ni r4.2 ci li (m.rd_sl (i := 3) rfl : Rd _ _ (ni + 1) 1 ((li ++ [77]).map b8)) (m.sl_le (i := 3) rfl) (m.rd0 hi) (by omega))) rfl ⟨_, rfl, rfl⟩ rfl ?_
        intro _
        refine wl_y (y_not rfl) ?_ (hg := ⟨_, rfl, rfl⟩)
        refine wl_y (y_pick (b := false) rfl rfl) ?_
        refine wl_nil ?_
        refine aq_seq ?_
        refine wc_else rfl ?_
        refine wc_skip ?_
        refine aq_seq ?_
        refine wc_seq ?_
        refine wc_region ?_
        refine wl_y (y_build_st (cs := #[ki (0), .slice none 0 0, .slice none 0 0, .slice none 0 0, .slice none 0 0, .slice none 0 0, .slice none 0 0, .slice none 0 0, .slice none 0 0, .slice none 0 0, .slice none 0 0, .slice none 0 0, .slice none 0 0]) [] st42 zn42 rfl (by kernel_rfl)) ?_
        refine wl_eff (e_alloc (cs := #[ki (0), .slice none 0 0, .slice none 0 0, .slice none 0 0, .slice none 0 0, .slice none 0 0, .slice none 0 0, .slice none 0 0, .slice none 0 0, .slice none 0 0, .slice none 0 0, .slice none 0 0, .slice none 0 0]) zn42) rfl trivial rfl ?_
        intro b8_
        refine wl_eff (e_storeall sz42 rfl rfl (i := 0) rfl rfl rfl (by simp [Value.oneCell']) rfl) rfl trivial rfl ?_
        intro _
        refine wl_nil ?_
        refine aq_seq ?_
        refine wc_seq ?_
        refine wc_region ?_
        refine wl_y (y_move rfl) ?_
        refine wl_eff (e_callM [0, 1, 2, 3, 4, 5, 6, 7] [.blk b8_ (.cells (#[ki (0), .slice none 0 0, .slice none 0 0, .slice none 0 0, .slice none 0 0, .slice none 0 0, .slice none 0 0, .slice none 0 0, .slice none 0 0, .slice none 0 0, .slice none 0 0, .slice none 0 0, .slice none 0 0]) 42 (0, 0))] [.sl r7.1 (laN nk nn ni n) r7.2 5 1 ((laO lk nk ln nn li ni n).map b8), .sl r6.1 (laN nk nn ni n) r6.2 5 1 ((laO lk nk ln nn li ni n).map b8), .sl r5.1 (laN nk nn ni n) r5.2 5 1 ((laO lk nk ln nn li ni n).map b8), .sl r4.1 (ni + 1) r4.2 5 1 ((li ++ [77]).map b8), .sl r3.1 (nk + 1) r3.2 5 1 ((lk ++ [77]).map b8), .sl (some ⟨b2, 0, none⟩) 2 2 22 1 (([(ak, nk, ck, lk), (ai, ni, ci, li)] : List Pc).map pv), .blk b1 (.cells (#[.string (bs ln), .slice ai ni ci, ki ((n : Int))]) 47 (0, 0))] ⟨_, _, rfl, rfl, ⟨_, _, rfl, rfl, ⟨_, _, rfl, rfl, ⟨_, _, rfl, rfl, ⟨_, _, rfl, rfl, ⟨_, _, rfl, rfl, ⟨_, _, rfl, rfl, ⟨_, _, rfl, rfl, rfl⟩⟩⟩⟩⟩⟩⟩⟩ (by decide) cf11 rfl (List.flatMap Ch.keys [.blk b8_ (.cells (#[ki (0), .slice none 0 0, .slice none 0 0, .slice none 0 0, .slice none 0 0, .slice none 0 0, .slice none 0 0, .slice none 0 0, .slice none 0 0, .slice none 0 0, .slice none 0 0, .slice none 0 0, .slice none 0 0]) 42 (0, 0))]) rfl (fun w m => bkBytes0_ok w _ b8_  r5.1 (laN nk nn ni n) r5.2 (Mem.restart (A := [_]) (B := [_, _, _, _, _, _, _]) m))) rfl trivial rfl ?_
        intro r9
        refine wl_nil ?_
        refine aq_seq ?_
        refine wc_seq ?_
        refine wc_region ?_
        refine wl_y (y_move rfl) ?_
        refine wl_eff (e_callM [0, 1, 2, 3, 4, 5, 6, 7, 8] [.blk b8_ (.cells (#[ki (1), .slice r9.1 1 r9.2, .slice none 0 0, .slice none 0 0, .slice none 0 0, .slice none 0 0, .slice none 0 0, .slice none 0 0, .slice none 0 0, .slice none 0 0, .slice none 0 0, .slice none 0 0, .slice none 0 0]) 42 (0, 0)), .sl r9.1 1 r9.2 67 3 ([.slice r5.1 (laN nk nn ni n) r5.2, .slice none 0 0, ki (1)] : List Value)] [.sl r7.1 (laN nk nn ni n) r7.2 5 1 ((laO lk nk ln nn li ni n).map b8), .sl r6.1 (laN nk nn ni n) r6.2 5 1 ((laO lk nk ln nn li ni n).map b8), .sl r5.1 (laN nk nn ni n) r5.2 5 1 ((laO lk nk ln nn li ni n).map b8), .sl r4.1 (ni + 1) r4.2 5 1 ((li ++ [77]).map b8), .sl r3.1 (nk + 1) r3.2 5 1 ((lk ++ [77]).map b8), .sl (some ⟨b2, 0, none⟩) 2 2 22 1 (([(ak, nk, ck, lk), (ai, ni, ci, li)] : List Pc).map pv), .blk b1 (.cells (#[.string (bs ln), .slice ai ni ci, ki ((n : Int))]) 47 (0, 0))] ⟨_, _, rfl, rfl, ⟨_, _, rfl, rfl, ⟨_, _, rfl, rfl, ⟨_, _, rfl, rfl, ⟨_, _, rfl, rfl, ⟨_, _, rfl, rfl, ⟨_, _, rfl, rfl, ⟨_, _, rfl, rfl, ⟨_, _, rfl, rfl, rfl⟩⟩⟩⟩⟩⟩⟩⟩⟩ (by decide) cf11 rfl (List.flatMap Ch.keys [.blk b8_ (.cells (#[ki (1), .slice r9.1 1 r9.2, .slice none 0 0, .slice none 0 0, .slice none 0 0, .slice none 0 0, .slice none 0 0, .slice none 0 0, .slice none 0 0, .slice none 0 0, .slice none 0 0, .slice none 0 0, .slice none 0 0]) 42 (0, 0)), .sl r9.1 1 r9.2 67 3 ([.slice r5.1 (laN nk nn ni n) r5.2, .slice none 0 0, ki (1)] : List Value)]) rfl (fun w m => bkBytes1_ok w _ b8_ r9.1 r9.2 r5.1 (laN nk nn ni n) r5.2 r6.1 (laN nk nn ni n) r6.2 (Mem.restart (A := [_, _]) (B := [_, _, _, _, _, _, _]) m))) rfl trivial rfl ?_
        intro r10
        refine wl_nil ?_
        refine aq_seq ?_
        refine wc_seq ?_
        refine wc_region ?_
        refine wl_eff (e_callM [0, 1, 4, 3, 2, 5, 6, 7, 8] [.blk b8_ (.cells (#[ki (2), .slice r10.1 2 r10.2, .slice none 0 0, .slice none 0 0, .slice none 0 0, .slice none 0 0, .slice none 0 0, .slice none 0 0, .slice none 0 0, .slice none 0 0, .slice none 0 0, .slice none 0 0, .slice none 0 0]) 42 (0, 0)), .sl r10.1 2 r10.2 67 3 ([.slice r5.1 (laN nk nn ni n) r5.2, .slice none 0 0, ki (1), .slice r6.1 (laN nk nn ni n) r6.2, .slice none 0 0, ki (2)] : List Value), .sl r5.1 (laN nk nn ni n) r5.2 5 1 ((laO lk nk ln nn li ni n).map b8), .sl r6.1 (laN nk nn ni n) r6.2 5 1 ((laO lk nk ln nn li ni n).map b8)] [.sl r7.1 (laN nk nn ni n) r7.2 5 1 ((laO lk nk ln nn li ni n).map b8), .sl r4.1 (ni + 1) r4.2 5 1 ((li ++ [77]).map b8), .sl r3.1 (nk + 1) r3.2 5 1 ((lk ++ [77]).map b8), .sl (some ⟨b2, 0, none⟩) 2 2 22 1 (([(ak, nk, ck, lk), (ai, ni, ci, li)] : List Pc).map pv), .blk b1 (.cells (#[.string (bs ln), .slice ai ni ci, ki ((n : Int))]) 47 (0, 0))] ⟨_, _, rfl, rfl, ⟨_, _, rfl, rfl, ⟨_, _, rfl, rfl, ⟨_, _, rfl, rfl, ⟨_, _, rfl, rfl, ⟨_, _, rfl, rfl, ⟨_, _, rfl, rfl, ⟨_, _, rfl, rfl, ⟨_, _, rfl, rfl, rfl⟩⟩⟩⟩⟩⟩⟩⟩⟩ (by decide) cf12 rfl (List.flatMap Ch.keys [.blk b8_ (.cells (#[ki (2), .slice r10.1 2 r10.2, .slice none 0 0, .slice none 0 0, .slice none 0 0, .slice none 0 0, .slice none 0 0, .slice none 0 0, .slice none 0 0, .slice none 0 0, .slice none 0 0, .slice none 0 0, .slice none 0 0]) 42 (0, 0)), .sl r10.1 2 r10.2 67 3 ([.slice r5.1 (laN nk nn ni n) r5.2, .slice none 0 0, ki (1), .slice r6.1 (laN nk nn ni n) r6.2, .slice none 0 0, ki (2)] : List Value), .sl r5.1 (laN nk nn ni n) r5.2 5 1 ((laO lk nk ln nn li ni n).map b8), .sl r6.1 (laN nk nn ni n) r6.2 5 1 ((laO lk nk ln nn li ni n).map b8)]) rfl (fun w m => apart_2 w _ b8_ r10.1 r10.2 r5.1 (laN nk nn ni n) r5.2 r6.1 (laN nk nn ni n) r6.2 (laO lk nk ln nn li ni n) (laO lk nk ln nn li ni n) (Mem.restart (A := [_, _, _, _]) (B := [_, _, _, _, _]) m) (by omega) (by omega))) rfl trivial rfl ?_
        intro _
        refine wl_y (y_assign rfl) ?_
        refine wl_nil ?_
        refine aq_seq ?_
        refine wc_ret ?_
        refine aq_return (.inl rfl) rfl (⟨_, _, rfl, rfl, rfl⟩) ?_
        intro w' m
        exact ⟨(), rfl, m.pick (is := []) rfl (by decide)⟩
    · have hb11 : ¬ ((nk : Int) > 5000) := by simpa using hs11
      refine wl_y (y_move rfl) ?_ (hg := ⟨_, rfl, rfl⟩)
      refine wl_off ⟨_, _, rfl, rfl, .inl rfl⟩ rfl ?_
      refine wl_off ⟨_, _, rfl, rfl, .inl rfl⟩ rfl ?_
      refine wl_off ⟨_, _, rfl, rfl, .inl rfl⟩ rfl ?_
      refine wl_y (y_pick (b := false) rfl rfl) ?_ (hg := ⟨_, rfl, rfl⟩)
      refine wl_y (y_pick (b := false) rfl rfl) ?_
      refine wl_nil ?_
      refine aq_seq ?_
      refine wc_else rfl ?_
      refine wc_skip ?_
      refine aq_seq ?_
      refine wc_seq ?_
      refine wc_region ?_
      refine wl_y (y_move rfl) ?_
      refine wl_eff (e_call0 cf6 rfl (fun w m => twin_ok w ak nk ck lk (m.rd0 hk) (by omega))) rfl trivial rfl ?_
      intro r11
      refine wl_use (p := nk + 1 ≤ r11.2) (fun w m => m.sl_le (i := 0) rfl) (fun hcp_r11 => ?_)
      refine wl_y (y_assign rfl) ?_
      refine wl_nil ?_
      refine aq_seq ?_
      refine wc_seq ?_
      refine wc_region ?_
      refine wl_y (y_fieldAddr fd47_1 sz22 rfl) ?_
      refine wl_y (y_load sc22 rfl (c_blk (i := 2) rfl rfl)) ?_
      refine wl_eff (e_call0 cf6 rfl (fun w m => twin_ok w ai ni ci li (m.rd0 hi) (by omega))) rfl trivial rfl ?_
      intro r12
      refine wl_use (p := ni + 1 ≤ r12.2) (fun w m => m.sl_le (i := 0) rfl) (fun hcp_r12 => ?_)
      refine wl_y (y_assign rfl) ?_
      refine wl_nil ?_
      refine aq_seq ?_
      refine wc_seq ?_
      refine wc_region ?_
      refine wl_y (y_move rfl) ?_
      refine wl_y (y_fieldAddr fd47_0 sz9 rfl) ?_
      refine wl_y (y_load sc9 rfl (c_blk (i := 3) rfl rfl)) ?_
      refine wl_y (y_move rfl) ?_
      refine wl_y (y_fieldAddr fd47_2 sz3 rfl) ?_
      refine wl_y (y_load sc3 rfl (c_blk (i := 3) rfl rfl)) ?_
      refine wl_eff (e_call0 cf13 rfl (fun w m => label_ok w r11.1 r12.1 nk r11.2 ni r12.2 lk li ln nn n ((Mem.rd_twin m (i := 1) rfl)) ((Mem.rd_twin m (i := 0) rfl)) (by omega) (by first | omega | (simp; done) | (simp [*]; done) | (simp; omega)) (by omega))) rfl trivial rfl ?_
      intro r13
      refine wl_y (y_move rfl) ?_
      refine wl_y (y_extract rfl rfl) ?_
      refine wl_y (y_extract rfl rfl) ?_
      refine wl_y (y_assign rfl) ?_
      refine wl_y (y_assign rfl) ?_
      refine wl_nil ?_
      refine aq_seq ?_
      refine wc_seq ?_
      refine wc_region ?_
      refine wl_y (y_move rfl) ?_
      refine wl_y (y_fieldAddr fd47_0 sz9 rfl) ?_
      refine wl_y (y_load sc9 rfl (c_blk (i := 4) rfl rfl)) ?_
      refine wl_y (y_move rfl) ?_
      refine wl_y (y_fieldAddr fd47_2 sz3 rfl) ?_
      refine wl_y (y_load sc3 rfl (c_blk (i := 4) rfl rfl)) ?_
      refine wl_eff (e_call0 cf13 rfl (fun w m => label_ok w r11.1 r12.1 nk r11.2 ni r12.2 lk li ln nn n ((Mem.rd_twin m (i := 2) rfl)) ((Mem.rd_twin m (i := 1) rfl)) (by omega) (by first | omega | (simp; done) | (simp [*]; done) | (simp; omega)) (by omega))) rfl trivial rfl ?_
      intro r14
      refine wl_y (y_move rfl) ?_
      refine wl_y (y_extract rfl rfl) ?_
      refine wl_y (y_extract rfl rfl) ?_
      refine wl_y (y_assign rfl) ?_
      refine wl_y (y_assign rfl) ?_
      refine wl_nil ?_
      refine aq_seq ?_
      refine wc_seq ?_
      refine wc_region ?_
      refine wl_y (y_move rfl) ?_
      refine wl_y (y_fieldAddr fd47_0 sz9 rfl) ?_
      refine wl_y (y_load sc9 rfl (c_blk (i := 5) rfl rfl)) ?_
      refine wl_y (y_fieldAddr fd47_1 sz22 rfl) ?_
      refine wl_y (y_load sc22 rfl (c_blk (i := 5) rfl rfl)) ?_
      refine wl_y (y_fieldAddr fd47_2 sz3 rfl) ?_
      refine wl_y (y_load sc3 rfl (c_blk (i := 5) rfl rfl)) ?_
      refine wl_eff (e_call0 cf14 rfl (fun w m => rlabel_ok w ak ai nk ck ni ci lk li ln nn n (m.rd0 hk) (m.rd0 hi) (by first | omega | (simp; done) | (simp [*]; done) | (simp; omega)) (by omega))) rfl trivial rfl ?_
      intro r15
      refine wl_y (y_move rfl) ?_
      refine wl_y (y_extract rfl rfl) ?_
      refine wl_y (y_extract rfl rfl) ?_
      refine wl_y (y_assign rfl) ?_
      refine wl_y (y_assign rfl) ?_
      refine wl_nil ?_
      refine aq_seq ?_
      refine wc_seq ?_
      refine wc_seq ?_
      refine wc_region ?_
      refine wl_y (y_move rfl) ?_
      refine wl_y (y_move rfl) ?_
      refine wl_eff (e_call0 cf9 rfl (fun w m => SameBytes_ok w r13.1 r15.1 (laN nk nn ni n) r13.2 (laN nk nn ni n) r15.2 (laO lk nk ln nn li ni n) (laO lk nk ln nn li ni n) ((m.rd_sl (i := 2) rfl : Rd _ _ (laN nk nn ni n) 1 ((laO lk nk ln nn li ni n).map b8))) ((m.rd_sl (i := 0) rfl : Rd _ _ (laN nk nn ni n) 1 ((laO lk nk ln nn li ni n).map b8))) (by omega))) rfl trivial rfl ?_
      intro _
      refine wl_re (t := 67) (v' := kb (true)) rfl (congrArg kb (beq_self_eq_true _)) ?_
      refine wl_y (y_not rfl) ?_
      refine wl_y (y_move rfl) ?_
      refine wl_y (y_move rfl) ?_ (hg := ⟨_, rfl, rfl⟩)
      refine wl_y (y_move rfl) ?_ (hg := ⟨_, rfl, rfl⟩)
      refine wl_eff (e_call0 cf9 rfl (fun w m => SameBytes_ok w r14.1 r15.1 (laN nk nn ni n) r14.2 (laN nk nn ni n) r15.2 (laO lk nk ln nn li ni n) (laO lk nk ln nn li ni n) ((m.rd_sl (i := 1) rfl : Rd _ _ (laN nk nn ni n) 1 ((laO lk nk ln nn li ni n).map b8))) ((m.rd_sl (i := 0) rfl : Rd _ _ (laN nk nn ni n) 1 ((laO lk nk ln nn li ni n).map b8))) (by omega))) rfl ⟨_, rfl, rfl⟩ rfl ?_
      intro _
      refine wl_re (t := 72) (v' := kb (true)) rfl (congrArg kb (beq_self_eq_true _)) ?_
      refine wl_y (y_not rfl) ?_ (hg := ⟨_, rfl, rfl⟩)
      refine wl_y (y_pick (b := false) rfl rfl) ?_
      refine wl_y (y_move rfl) ?_
      refine wl_y (y_move rfl) ?_ (hg := ⟨_, rfl, rfl⟩)
      refine wl_y (y_move rfl) ?_ (hg := ⟨_, rfl, rfl⟩)
      refine wl_y (y_bin rfl rfl neq_i64) ?_ (hg := ⟨_, rfl, rfl⟩)
      refine wl_re (t := 78) (v' := kb (false)) rfl (by first | exact congrArg kb (bne_self_eq_false _) | rfl) ?_
      refine wl_y (y_pick (b := false) rfl rfl) ?_
      refine wl_y (y_move rfl) ?_
      refine wl_y (y_move rfl) ?_ (hg := ⟨_, rfl, rfl⟩)
      refine wl_y (y_move rfl) ?_ (hg := ⟨_, rfl, rfl⟩)
      refine wl_eff (e_call0 cf10 rfl (fun w m => left_ok w r11.1 ak nk r11.2 ck lk (m.rd_sl (i := 4) rfl : Rd _ _ (nk + 1) 1 ((lk ++ [77]).map b8)) (m.sl_le (i := 4) rfl) (m.rd0 hk) (by omega))) rfl ⟨_, rfl, rfl⟩ rfl ?_
      intro _
      refine wl_y (y_not rfl) ?_ (hg := ⟨_, rfl, rfl⟩)
      refine wl_y (y_pick (b := false) rfl rfl) ?_
      refine wl_y (y_move rfl) ?_
      refine wl_y (y_move rfl) ?_ (hg := ⟨_, rfl, rfl⟩)
      refine wl_y (y_fieldAddr fd47_1 sz22 rfl) ?_ (hg := ⟨_, rfl, rfl⟩)
      refine wl_y (y_load sc22 rfl (c_blk (i := 6) rfl rfl)) ?_ (hg := ⟨_, rfl, rfl⟩)
      refine wl_eff (e_call0 cf10 rfl (fun w m => left_ok w r12.1 ai ni r12.2 ci li (m.rd_sl (i := 3) rfl : Rd _ _ (ni + 1) 1 ((li ++ [77]).map b8)) (m.sl_le (i := 3) rfl) (m.rd0 hi) (by omega))) rfl ⟨_, rfl, rfl⟩ rfl ?_
      intro _
      refine wl_y (y_not rfl) ?_ (hg := ⟨_, rfl, rfl⟩)
      refine wl_y (y_pick (b := false) rfl rfl) ?_
      refine wl_nil ?_
      refine aq_seq ?_
      refine wc_else rfl ?_
      refine wc_skip ?_
      refine aq_seq ?_
      refine wc_seq ?_
      refine wc_region ?_
      refine wl_y (y_build_st (cs := #[ki (0), .slice none 0 0, .slice none 0 0, .slice none 0 0, .slice none 0 0, .slice none 0 0, .slice none 0 0, .slice none 0 0, .slice none 0 0, .slice none 0 0, .slice none 0 0, .slice none 0 0, .slice none 0 0]) [] st42 zn42 rfl (by kernel_rfl)) ?_
      refine wl_eff (e_alloc (cs := #[ki (0), .slice none 0 0, .slice none 0 0, .slice none 0 0, .slice none 0 0, .slice none 0 0, .slice none 0 0, .slice none 0 0, .slice none 0 0, .slice none 0 0, .slice none 0 0, .slice none 0 0, .slice none 0 0]) zn42) rfl trivial rfl ?_
      intro b16
      refine wl_eff (e_storeall sz42 rfl rfl (i := 0) rfl rfl rfl (by simp [Value.oneCell']) rfl) rfl trivial rfl ?_
      intro _
      refine wl_nil ?_
      refine aq_seq ?_
      refine wc_seq ?_
      refine wc_region ?_
      refine wl_y (y_move rfl) ?_
      refine wl_eff (e_callM [0, 1, 2, 3, 4, 5, 6, 7] [.blk b16 (.cells (#[ki (0), .slice none 0 0, .slice none 0 0, .slice none 0 0, .slice none 0 0, .slice none 0 0, .slice none 0 0, .slice none 0 0, .slice none 0 0, .slice none 0 0, .slice none 0 0, .slice none 0 0, .slice none 0 0]) 42 (0, 0))] [.sl r15.1 (laN nk nn ni n) r15.2 5 1 ((laO lk nk ln nn li ni n).map b8), .sl r14.1 (laN nk nn ni n) r14.2 5 1 ((laO lk nk ln nn li ni n).map b8), .sl r13.1 (laN nk nn ni n) r13.2 5 1 ((laO lk nk ln nn li ni n).map b8), .sl r12.1 (ni + 1) r12.2 5 1 ((li ++ [77]).map b8), .sl r11.1 (nk + 1) r11.2 5 1 ((lk ++ [77]).map b8), .sl (some ⟨b2, 0, none⟩) 2 2 22 1 (([(ak, nk, ck, lk), (ai, ni, ci, li)] : List Pc).map pv), .blk b1 (.cells (#[.string (bs ln), .slice ai ni ci, ki ((n : Int))]) 47 (0, 0))] ⟨_, _, rfl, rfl, ⟨_, _, rfl, rfl, ⟨_, _, rfl, rfl, ⟨_, _, rfl, rfl, ⟨_, _, rfl, rfl, ⟨_, _, rfl, rfl, ⟨_, _, rfl, rfl, ⟨_, _, rfl, rfl, rfl⟩⟩⟩⟩⟩⟩⟩⟩ (by decide) cf11 rfl (List.flatMap Ch.keys [.blk b16 (.cells (#[ki (0), .slice none 0 0, .slice none 0 0, .slice none 0 0, .slice none 0 0, .slice none 0 0, .slice none 0 0, .slice none 0 0, .slice none 0 0, .slice none 0 0, .slice none 0 0, .slice none 0 0, .slice none 0 0]) 42 (0, 0))]) rfl (fun w m => bkBytes0_ok w _ b16  r13.1 (laN nk nn ni n) r13.2 (Mem.restart (A := [_]) (B := [_, _, _, _, _, _, _]) m))) rfl trivial rfl ?_
      intro r17
      refine wl_nil ?_
      refine aq_seq ?_
      refine wc_seq ?_
      refine wc_region ?_
      refine wl_y (y_move rfl) ?_
      refine wl_eff (e_callM [0, 1, 2, 3, 4, 5, 6, 7, 8] [.blk b16 (.cells (#[ki (1), .slice r17.1 1 r17.2, .slice none 0 0, .slice none 0 0, .slice none 0 0, .slice none 0 0, .slice none 0 0, .slice none 0 0, .slice none 0 0, .slice none 0 0, .slice none 0 0, .slice none 0 0, .slice none 0 0]) 42 (0, 0)), .sl r17.1 1 r17.2 67 3 ([.slice r13.1 (laN nk nn ni n) r13.2, .slice none 0 0, ki (1)] : List Value)] [.sl r15.1 (laN nk nn ni n) r15.2 5 1 ((laO lk nk ln nn li ni n).map b8), .sl r14.1 (laN nk nn ni n) r14.2 5 1 ((laO lk nk ln nn li ni n).map b8), .sl r13.1 (laN nk nn ni n) r13.2 5 1 ((laO lk nk ln nn li ni n).map b8), .sl r12.1 (ni + 1) r12.2 5 1 ((li ++ [77]).map b8), .sl r11.1 (nk + 1) r11.2 5 1 ((lk ++ [77]).map b8), .sl (some ⟨b2, 0, none⟩) 2 2 22 1 (([(ak, nk, ck, lk), (ai, ni, ci, li)] : List Pc).map pv), .blk b1 (.cells (#[.string (bs ln), .slice ai ni ci, ki ((n : Int))]) 47 (0, 0))] ⟨_, _, rfl, rfl, ⟨_, _, rfl, rfl, ⟨_, _, rfl, rfl, ⟨_, _, rfl, rfl, ⟨_, _, rfl, rfl, ⟨_, _, rfl, rfl, ⟨_, _, rfl, rfl, ⟨_, _, rfl, rfl, ⟨_, _, rfl, rfl, rfl⟩⟩⟩⟩⟩⟩⟩⟩⟩ (by decide) cf11 rfl (List.flatMap Ch.keys [.blk b16 (.cells (#[ki (1), .slice r17.1 1 r17.2, .slice none 0 0, .slice none 0 0, .slice none 0 0, .slice none 0 0, .slice none 0 0, .slice none 0 0, .slice none 0 0, .slice none 0 0, .slice none 0 0, .slice none 0 0, .slice none 0 0]) 42 (0, 0)), .sl r17.1 1 r17.2 67 3 ([.slice r13.1 (laN nk nn ni n) r13.2, .slice none 0 0, ki (1)] : List Value)]) rfl (fun w m => bkBytes1_ok w _ b16 r17.1 r17.2 r13.1 (laN nk nn ni n) r13.2 r14.1 (laN nk nn ni n) r14.2 (Mem.restart (A := [_, _]) (B := [_, _, _, _, _, _, _]) m))) rfl trivial rfl ?_
      intro r18
      refine wl_nil ?_
      refine aq_seq ?_
      refine wc_seq ?_
      refine wc_region ?_
      refine wl_eff (e_callM [0, 1, 4, 3, 2, 5, 6, 7, 8] [.blk b16 (.cells (#[ki (2), .slice r18.1 2 r18.2, .slice none 0 0, .slice none 0 0, .slice none 0 0, .slice none 0 0, .slice none 0 0, .slice none 0 0, .slice none 0 0, .slice none 0 0, .slice none 0 0, .slice none 0 0, .slice none 0 0]) 42 (0, 0)), .sl r18.1 2 r18.2 67 3 ([.slice r13.1 (laN nk nn ni n) r13.2, .slice none 0 0, ki (1), .slice r14.1 (laN nk nn ni n) r14.2, .slice none 0 0, ki (2)] : List Value), .sl r13.1 (laN nk nn ni n) r13.2 5 1 ((laO lk nk ln nn li ni n).map b8), .sl r14.1 (laN nk nn ni n) r14.2 5 1 ((laO lk nk ln nn li ni n).map b8)] [.sl r15.1 (laN nk nn ni n) r15.2 5 1 ((laO lk nk ln nn li ni n).map b8), .sl r12.1 (ni + 1) r12.2 5 1 ((li ++ [77]).map b8), .sl r11.1 (nk + 1) r11.2 5 1 ((lk ++ [77]).map b8), .sl (some ⟨b2, 0, none⟩) 2 2 22 1 (([(ak, nk, ck, lk), (ai, ni, ci, li)] : List Pc).map pv), .blk b1 (.cells (#[.string (bs ln), .slice ai ni ci, ki ((n : Int))]) 47 (0, 0))] ⟨_, _, rfl, rfl, ⟨_, _, rfl, rfl, ⟨_, _, rfl, rfl, ⟨_, _, rfl, rfl, ⟨_, _, rfl, rfl, ⟨_, _, rfl, rfl, ⟨_, _, rfl, rfl, ⟨_, _, rfl, rfl, ⟨_, _, rfl, rfl, rfl⟩⟩⟩⟩⟩⟩⟩⟩⟩ (by decide) cf12 rfl (List.flatMap Ch.keys [.blk b16 (.cells (#[ki (2), .slice r18.1 2 r18.2, .slice none 0 0, .slice none 0 0, .slice none 0 0, .slice none 0 0, .slice none 0 0, .slice none 0 0, .slice none 0 0, .slice none 0 0, .slice none 0 0, .slice none 0 0, .slice none 0 0]) 42 (0, 0)), .sl r18.1 2 r18.2 67 3 ([.slice r13.1 (laN nk nn ni n) r13.2, .slice none 0 0, ki (1), .slice r14.1 (laN nk nn ni n) r14.2, .slice none 0 0, ki (2)] : List Value), .sl r13.1 (laN nk nn ni n) r13.2 5 1 ((laO lk nk ln nn li ni n).map b8), .sl r14.1 (laN nk nn ni n) r14.2 5 1 ((laO lk nk ln nn li ni n).map b8)]) rfl (fun w m => apart_2 w _ b16 r18.1 r18.2 r13.1 (laN nk nn ni n) r13.2 r14.1 (laN nk nn ni n) r14.2 (laO lk nk ln nn li ni n) (laO lk nk ln nn li ni n) (Mem.restart (A := [_, _, _, _]) (B := [_, _, _, _, _]) m) (by omega) (by omega))) rfl trivial rfl ?_
      intro _
      refine wl_y (y_assign rfl) ?_
      refine wl_nil ?_
      refine aq_seq ?_
      refine wc_ret ?_
      refine aq_return (.inl rfl) rfl (⟨_, _, rfl, rfl, rfl⟩) ?_
      intro w' m
      exact ⟨(), rfl, m.pick (is := []) rfl (by decide)⟩

set_option maxHeartbeats 1000000 in
theorem law03e_neg (w : World) (ak ai : Option Addr) (nk ck ni ci : Nat) (lk li : List UInt8) (k : Int) (hk0 : k < 0) (hk : Rd w ak nk 1 (lk.map b8)) (hi : Rd w ai ni 1 (li.map b8)) (hck : nk ≤ ck) (hci : ni ≤ ci) (hnk : nk ≤ 140737488351232) (hni : ni ≤ 140737488351232) :
    Calls Tryz.prog 3 #[.slice ak nk ck, .slice ai ni ci, ki (k)] w (Ret (fun _ : Unit => kb true) (fun _ => Mem w [] [])) := by
  have hlk := hk.len
  have hli := hi.len
  refine calls_of Tryz.func3 rfl rfl (L := [(0, .slice ak nk ck), (1, .slice ai ni ci), (2, ki (k))]) ⟨rfl, rfl, rfl, trivial⟩ (m := 90) (Nat.le_of_ble_eq_true rfl) (M := Mem w [] []) (Mem.refl w) ?_
  refine wc_seq ?_
  refine wc_region ?_
  refine wl_y (y_assign rfl) ?_
  refine wl_nil ?_
  refine aq_seq ?_
  refine wc_seq ?_
  refine wc_seq ?_
  refine wc_region ?_
  refine wl_y (y_move rfl) ?_
  refine wl_y (y_move rfl) ?_
  refine wl_eff (e_buildSlice (len := 2) [.slice ak nk ck, .slice ai ni ci] sl50 el22 rfl rfl rfl (by simp [Value.cells]) (by decide) [.slice ak nk ck, .slice ai ni ci] rfl) rfl trivial rfl ?_
  intro b1
  refine wl_eff (e_call0 cf5 rfl (fun w m => great_ok w (some ⟨b1, 0, none⟩) ak ai nk ck ni ci lk li ((m.rd_sl (i := 0) rfl : Rd _ _ 2 1 (([(ak, nk, ck, lk), (ai, ni, ci, li)] : List Pc).map pv))) (by omega) (by omega))) rfl trivial rfl ?_
  intro _
  refine wl_bool (t := 19) rfl (fun hs5 => ?_) (fun hs5 => ?_)
  · have hb5 : grF nk ni = true := by simpa using hs5
    refine wl_y (y_move rfl) ?_
    refine wl_off ⟨_, _, rfl, rfl, .inl rfl⟩ rfl ?_
    refine wl_off ⟨_, _, rfl, rfl, .inl rfl⟩ rfl ?_
    refine wl_off ⟨_, _, rfl, rfl, .inl rfl⟩ rfl ?_
    refine wl_off ⟨_, _, rfl, rfl, .inr rfl⟩ rfl ?_
    refine wl_off ⟨_, _, rfl, rfl, .inr rfl⟩ rfl ?_
    refine wl_off ⟨_, _, rfl, rfl, .inr rfl⟩ rfl ?_
    refine wl_off ⟨_, _, rfl, rfl, .inr rfl⟩ rfl ?_
    refine wl_off ⟨_, _, rfl, rfl, .inr rfl⟩ rfl ?_
    refine wl_off ⟨_, _, rfl, rfl, .inr rfl⟩ rfl ?_
    refine wl_off ⟨_, _, rfl, rfl, .inl rfl⟩ rfl ?_
    refine wl_y (y_pick (b := true) rfl rfl) ?_
    refine wl_nil ?_
    refine aq_seq ?_
    refine wc_then rfl ?_
    refine wc_seq ?_
    refine wc_region ?_
    refine wl_y (y_assign rfl) ?_
    refine wl_nil ?_
    refine aq_seq ?_
    refine wc_ret ?_
    refine aq_thru_ret ?_
    refine aq_return (.inl rfl) rfl (⟨_, _, rfl, rfl, rfl⟩) ?_
    intro w' m
    exact ⟨(), rfl, m.pick (is := []) rfl (by decide)⟩
  · have hb5 : grF nk ni = false := by simpa using hs5
    have hgr : nk + ni ≤ 3145728 := grF_out (by assumption)
    refine wl_y (y_move rfl) ?_
    refine wl_y (y_move rfl) ?_ (hg := ⟨_, rfl, rfl⟩)
    refine wl_y (y_bin rfl rfl gtr_i64) ?_ (hg := ⟨_, rfl, rfl⟩)
    refine wl_re (t := 22) (v' := kb (false)) rfl (congrArg kb (decide_eq_false (by omega))) ?_
    refine wl_y (y_move rfl) ?_ (hg := ⟨_, rfl, rfl⟩)
    refine wl_off ⟨_, _, rfl, rfl, .inl rfl⟩ rfl ?_
    refine wl_off ⟨_, _, rfl, rfl, .inl rfl⟩ rfl ?_
    refine wl_off ⟨_, _, rfl, rfl, .inl rfl⟩ rfl ?_
    refine wl_off ⟨_, _, rfl, rfl, .inl rfl⟩ rfl ?_
    refine wl_off ⟨_, _, rfl, rfl, .inl rfl⟩ rfl ?_
    refine wl_off ⟨_, _, rfl, rfl, .inl rfl⟩ rfl ?_
    refine wl_y (y_pick (b := false) rfl rfl) ?_ (hg := ⟨_, rfl, rfl⟩)
    refine wl_y (y_pick (b := false) rfl rfl) ?_
    refine wl_nil ?_
    refine aq_seq ?_
    refine wc_else rfl ?_
    refine wc_skip ?_
    refine aq_seq ?_
    refine wc_seq ?_
    refine wc_region ?_
    refine wl_y (y_move rfl) ?_
    refine wl_eff (e_call0 cf6 rfl (fun w m => twin_ok w ak nk ck lk (m.rd0 hk) (by omega))) rfl trivial rfl ?_
    intro r2
    refine wl_use (p := nk + 1 ≤ r2.2) (fun w m => m.sl_le (i := 0) rfl) (fun hcp_r2 => ?_)
    refine wl_y (y_assign rfl) ?_
    refine wl_nil ?_
    refine aq_seq ?_
    refine wc_seq ?_
    refine wc_region ?_
    refine wl_y (y_move rfl) ?_
    refine wl_eff (e_call0 cf6 rfl (fun w m => twin_ok w ai ni ci li (m.rd0 hi) (by omega))) rfl trivial rfl ?_
    intro r3
    refine wl_use (p := ni + 1 ≤ r3.2) (fun w m => m.sl_le (i := 0) rfl) (fun hcp_r3 => ?_)
    refine wl_y (y_assign rfl) ?_
    refine wl_nil ?_
    refine aq_seq ?_
    refine wc_seq ?_
    refine wc_region ?_
    refine wl_y (y_move rfl) ?_
    refine wl_y (y_move rfl) ?_
    refine wl_y (y_move rfl) ?_
    refine wl_eff (e_call0 cf7 rfl (fun w m => expand_neg w r2.1 r3.1 nk r2.2 ni r3.2 k hk0)) rfl trivial rfl ?_
    intro r4
    refine wl_y (y_move rfl) ?_
    refine wl_y (y_extract rfl rfl) ?_
    refine wl_y (y_extract rfl rfl) ?_
    refine wl_y (y_assign rfl) ?_
    refine wl_y (y_assign rfl) ?_
    refine wl_nil ?_
    refine aq_seq ?_
    refine wc_seq ?_
    refine wc_region ?_
    refine wl_y (y_move rfl) ?_
    refine wl_y (y_move rfl) ?_
    refine wl_y (y_move rfl) ?_
    refine wl_eff (e_call0 cf7 rfl (fun w m => expand_neg w r2.1 r3.1 nk r2.2 ni r3.2 k hk0)) rfl trivial rfl ?_
    intro r5
    refine wl_y (y_move rfl) ?_
    refine wl_y (y_extract rfl rfl) ?_
    refine wl_y (y_extract rfl rfl) ?_
    refine wl_y (y_assign rfl) ?_
    refine wl_y (y_assign rfl) ?_
    refine wl_nil ?_
    refine aq_seq ?_
    refine wc_seq ?_
    refine wc_region ?_
    refine wl_y (y_move rfl) ?_
    refine wl_y (y_move rfl) ?_
    refine wl_y (y_move rfl) ?_
    refine wl_eff (e_call0 cf8 rfl (fun w m => rexpand_neg w ak ai nk ck ni ci k hk0)) rfl trivial rfl ?_
    intro r6
    refine wl_y (y_move rfl) ?_
    refine wl_y (y_extract rfl rfl) ?_
    refine wl_y (y_extract rfl rfl) ?_
    refine wl_y (y_assign rfl) ?_
    refine wl_y (y_assign rfl) ?_
    refine wl_nil ?_
    refine aq_seq ?_
    refine wc_seq ?_
    refine wc_seq ?_
    refine wc_region ?_
    refine wl_y (y_move rfl) ?_
    refine wl_y (y_move rfl) ?_
    refine wl_eff (e_call0 cf9 rfl (fun w m => SameBytes_ok w r4.1 r6.1 0 r4.2 0 r6.2 ([] : List UInt8) ([] : List UInt8) ((m.rd_sl (i := 2) rfl : Rd _ _ 0 1 (([] : List UInt8).map b8))) ((m.rd_sl (i := 0) rfl : Rd _ _ 0 1 (([] : List UInt8).map b8))) (by omega))) rfl trivial rfl ?_
    intro _
    refine wl_re (t := 59) (v' := kb (true)) rfl (congrArg kb (beq_self_eq_true _)) ?_
    refine wl_y (y_not rfl) ?_
    refine wl_y (y_move rfl) ?_
    refine wl_y (y_move rfl) ?_ (hg := ⟨_, rfl, rfl⟩)
    refine wl_y (y_move rfl) ?_ (hg := ⟨_, rfl, rfl⟩)
    refine wl_eff (e_call0 cf9 rfl (fun w m => SameBytes_ok w r5.1 r6.1 0 r5.2 0 r6.2 ([] : List UInt8) ([] : List UInt8) ((m.rd_sl (i := 1) rfl : Rd _ _ 0 1 (([] : List UInt8).map b8))) ((m.rd_sl (i := 0) rfl : Rd _ _ 0 1 (([] : List UInt8).map b8))) (by omega))) rfl ⟨_, rfl, rfl⟩ rfl ?_
    intro _
    refine wl_re (t := 64) (v' := kb (true)) rfl (congrArg kb (beq_self_eq_true _)) ?_
    refine wl_y (y_not rfl) ?_ (hg := ⟨_, rfl, rfl⟩)
    refine wl_y (y_pick (b := false) rfl rfl) ?_
    refine wl_y (y_move rfl) ?_
    refine wl_y (y_move rfl) ?_ (hg := ⟨_, rfl, rfl⟩)
    refine wl_y (y_move rfl) ?_ (hg := ⟨_, rfl, rfl⟩)
    refine wl_y (y_bin rfl rfl (show bin .neq (ki 1) (ki 1) = some (kb false) from rfl)) ?_ (hg := ⟨_, rfl, rfl⟩)
    refine wl_re (t := 70) (v' := kb (false)) rfl (by first | exact congrArg kb (bne_self_eq_false _) | rfl) ?_
    refine wl_y (y_pick (b := false) rfl rfl) ?_
    refine wl_y (y_move rfl) ?_
    refine wl_y (y_move rfl) ?_ (hg := ⟨_, rfl, rfl⟩)
    refine wl_y (y_move rfl) ?_ (hg := ⟨_, rfl, rfl⟩)
    refine wl_eff (e_call0 cf10 rfl (fun w m => left_ok w r2.1 ak nk r2.2 ck lk (m.rd_sl (i := 4) rfl : Rd _ _ (nk + 1) 1 ((lk ++ [77]).map b8)) (m.sl_le (i := 4) rfl) (m.rd0 hk) (by omega))) rfl ⟨_, rfl, rfl⟩ rfl ?_
    intro _
    refine wl_y (y_not rfl) ?_ (hg := ⟨_, rfl, rfl⟩)
    refine wl_y (y_pick (b := false) rfl rfl) ?_
    refine wl_y (y_move rfl) ?_
    refine wl_y (y_move rfl) ?_ (hg := ⟨_, rfl, rfl⟩)
    refine wl_y (y_move rfl) ?_ (hg := ⟨_, rfl, rfl⟩)
    refine wl_eff (e_call0 cf10 rfl (fun w m => left_ok w r3.1 ai ni r3.2 ci li (m.rd_sl (i := 3) rfl : Rd _ _ (ni + 1) 1 ((li ++ [77]).map b8)) (m.sl_le (i := 3) rfl) (m.rd0 hi) (by omega))) rfl ⟨_, rfl, rfl⟩ rfl ?_
    intro _
    refine wl_y (y_not rfl) ?_ (hg := ⟨_, rfl, rfl⟩)
    refine wl_y (y_pick (b := false) rfl rfl) ?_
    refine wl_nil ?_
    refine aq_seq ?_
    refine wc_else rfl ?_
    refine wc_skip ?_
    refine aq_seq ?_
    refine wc_seq ?_
    refine wc_region ?_
    refine wl_y (y_build_st (cs := #[ki (0), .slice none 0 0, .slice none 0 0, .slice none 0 0, .slice none 0 0, .slice none 0 0, .slice none 0 0, .slice none 0 0, .slice none 0 0, .slice none 0 0, .slice none 0 0, .slice none 0 0, .slice none 0 0]) [] st42 zn42 rfl (by kernel_rfl)) ?_
    refine wl_eff (e_alloc (cs := #[ki (0), .slice none 0 0, .slice none 0 0, .slice none 0 0, .slice none 0 0, .slice none 0 0, .slice none 0 0, .slice none 0 0, .slice none 0 0, .slice none 0 0, .slice none 0 0, .slice none 0 0, .slice none 0 0]) zn42) rfl trivial rfl ?_
    intro b7
    refine wl_eff (e_storeall sz42 rfl rfl (i := 0) rfl rfl rfl (by simp [Value.oneCell']) rfl) rfl trivial rfl ?_
    intro _
    refine wl_nil ?_
    refine aq_seq ?_
    refine wc_seq ?_
    refine wc_region ?_
    refine wl_y (y_move rfl) ?_
    refine wl_eff (e_callM [0, 1, 2, 3, 4, 5, 6] [.blk b7 (.cells (#[ki (0), .slice none 0 0, .slice none 0 0, .slice none 0 0, .slice none 0 0, .slice none 0 0, .slice none 0 0, .slice none 0 0, .slice none 0 0, .slice none 0 0, .slice none 0 0, .slice none 0 0, .slice none 0 0]) 42 (0, 0))] [.sl r6.1 0 r6.2 5 1 (([] : List UInt8).map b8), .sl r5.1 0 r5.2 5 1 (([] : List UInt8).map b8), .sl r4.1 0 r4.2 5 1 (([] : List UInt8).map b8), .sl r3.1 (ni + 1) r3.2 5 1 ((li ++ [77]).map b8), .sl r2.1 (nk + 1) r2.2 5 1 ((lk ++ [77]).map b8), .sl (some ⟨b1, 0, none⟩) 2 2 22 1 (([(ak, nk, ck, lk), (ai, ni, ci, li)] : List Pc).map pv)] ⟨_, _, rfl, rfl, ⟨_, _, rfl, rfl, ⟨_, _, rfl, rfl, ⟨_, _, rfl, rfl, ⟨_, _, rfl, rfl, ⟨_, _, rfl, rfl, ⟨_, _, rfl, rfl, rfl⟩⟩⟩⟩⟩⟩⟩ (by decide) cf11 rfl (List.flatMap Ch.keys [.blk b7 (.cells (#[ki (0), .slice none 0 0, .slice none 0 0, .slice none 0 0, .slice none 0 0, .slice none 0 0, .slice none 0 0, .slice none 0 0, .slice none 0 0, .slice none 0 0, .slice none 0 0, .slice none 0 0, .slice none 0 0]) 42 (0, 0))]) rfl (fun w m => bkBytes0_ok w _ b7  r4.1 0 r4.2 (Mem.restart (A := [_]) (B := [_, _, _, _, _, _]) m))) rfl trivial rfl ?_
    intro r8
    refine wl_nil ?_
    refine aq_seq ?_
    refine wc_seq ?_
    refine wc_region ?_
    refine wl_y (y_move rfl) ?_
    refine wl_eff (e_callM [0, 1, 2, 3, 4, 5, 6, 7] [.blk b7 (.cells (#[ki (1), .slice r8.1 1 r8.2, .slice none 0 0, .slice none 0 0, .slice none 0 0, .slice none 0 0, .slice none 0 0, .slice none 0 0, .slice none 0 0, .slice none 0 0, .slice none 0 0, .slice none 0 0, .slice none 0 0]) 42 (0, 0)), .sl r8.1 1 r8.2 67 3 ([.slice r4.1 0 r4.2, .slice none 0 0, ki (1)] : List Value)] [.sl r6.1 0 r6.2 5 1 (([] : List UInt8).map b8), .sl r5.1 0 r5.2 5 1 (([] : List UInt8).map b8), .sl r4.1 0 r4.2 5 1 (([] : List UInt8).map b8), .sl r3.1 (ni + 1) r3.2 5 1 ((li ++ [77]).map b8), .sl r2.1 (nk + 1) r2.2 5 1 ((lk ++ [77]).map b8), .sl (some ⟨b1, 0, none⟩) 2 2 22 1 (([(ak, nk, ck, lk), (ai, ni, ci, li)] : List Pc).map pv)] ⟨_, _, rfl, rfl, ⟨_, _, rfl, rfl, ⟨_, _, rfl, rfl, ⟨_, _, rfl, rfl, ⟨_, _, rfl, rfl, ⟨_, _, rfl, rfl, ⟨_, _, rfl, rfl, ⟨_, _, rfl, rfl, rfl⟩⟩⟩⟩⟩⟩⟩⟩ (by decide) cf11 rfl (List.flatMap Ch.keys [.blk b7 (.cells (#[ki (1), .slice r8.1 1 r8.2, .slice none 0 0, .slice none 0 0, .slice none 0 0, .slice none 0 0, .slice none 0 0, .slice none 0 0, .slice none 0 0, .slice none 0 0, .slice none 0 0, .slice none 0 0, .slice none 0 0]) 42 (0, 0)), .sl r8.1 1 r8.2 67 3 ([.slice r4.1 0 r4.2, .slice none 0 0, ki (1)] : List Value)]) rfl (fun w m => bkBytes1_ok w _ b7 r8.1 r8.2 r4.1 0 r4.2 r5.1 0 r5.2 (Mem.restart (A := [_, _]) (B := [_, _, _, _, _, _]) m))) rfl trivial rfl ?_
    intro r9
    refine wl_nil ?_
    refine aq_seq ?_
    refine wc_seq ?_
    refine wc_region ?_
    refine wl_eff (e_callM [0, 1, 4, 3, 2, 5, 6, 7] [.blk b7 (.cells (#[ki (2), .slice r9.1 2 r9.2, .slice none 0 0, .slice none 0 0, .slice none 0 0, .slice none 0 0, .slice none 0 0, .slice none 0 0, .slice none 0 0, .slice none 0 0, .slice none 0 0, .slice none 0 0, .slice none 0 0]) 42 (0, 0)), .sl r9.1 2 r9.2 67 3 ([.slice r4.1 0 r4.2, .slice none 0 0, ki (1), .slice r5.1 0 r5.2, .slice none 0 0, ki (2)] : List Value), .sl r4.1 0 r4.2 5 1 (([] : List UInt8).map b8), .sl r5.1 0 r5.2 5 1 (([] : List UInt8).map b8)] [.sl r6.1 0 r6.2 5 1 (([] : List UInt8).map b8), .sl r3.1 (ni + 1) r3.2 5 1 ((li ++ [77]).map b8), .sl r2.1 (nk + 1) r2.2 5 1 ((lk ++ [77]).map b8), .sl (some ⟨b1, 0, none⟩) 2 2 22 1 (([(ak, nk, ck, lk), (ai, ni, ci, li)] : List Pc).map pv)] ⟨_, _, rfl, rfl, ⟨_, _, rfl, rfl, ⟨_, _, rfl, rfl, ⟨_, _, rfl, rfl, ⟨_, _, rfl, rfl, ⟨_, _, rfl, rfl, ⟨_, _, rfl, rfl, ⟨_, _, rfl, rfl, rfl⟩⟩⟩⟩⟩⟩⟩⟩ (by decide) cf12 rfl (List.flatMap Ch.keys [.blk b7 (.cells (#[ki (2), .slice r9.1 2 r9.2, .slice none 0 0, .slice none 0 0, .slice none 0 0, .slice none 0 0, .slice none 0 0, .slice none 0 0, .slice none 0 0, .slice none 0 0, .slice none 0 0, .slice none 0 0, .slice none 0 0]) 42 (0, 0)), .sl r9.1 2 r9.2 67 3 ([.slice r4.1 0 r4.2, .slice none 0 0, ki (1), .slice r5.1 0 r5.2, .slice none 0 0, ki (2)] : List Value), .sl r4.1 0 r4.2 5 1 (([] : List UInt8).map b8), .sl r5.1 0 r5.2 5 1 (([] : List UInt8).map b8)]) rfl (fun w m => apart_2 w _ b7 r9.1 r9.2 r4.1 0 r4.2 r5.1 0 r5.2 ([] : List UInt8) ([] : List UInt8) (Mem.restart (A := [_, _, _, _]) (B := [_, _, _, _]) m) (by omega) (by omega))) rfl trivial rfl ?_
    intro _
    refine wl_y (y_assign rfl) ?_
    refine wl_nil ?_
    refine aq_seq ?_
    refine wc_ret ?_
    refine aq_return (.inl rfl) rfl (⟨_, _, rfl, rfl, rfl⟩) ?_
    intro w' m
    exact ⟨(), rfl, m.pick (is := []) rfl (by decide)⟩

set_option maxHeartbeats 1000000 in
theorem law03l_neg (w : World) (ak ai : Option Addr) (nk ck ni ci : Nat) (lk li : List UInt8) (k : Int) (hk0 : k < 0) (hk : Rd w ak nk 1 (lk.map b8)) (hi : Rd w ai ni 1 (li.map b8)) (hck : nk ≤ ck) (hci : ni ≤ ci) (hnk : nk ≤ 140737488351232) (hni : ni ≤ 140737488351232) (ln : List UInt8) (nn : Nat) (hln : ln.length = nn) :
    Calls Tryz.prog 4 #[.slice ak nk ck, .agg (#[.string (bs ln), .slice ai ni ci, ki (k)])] w (Ret (fun _ : Unit => kb true) (fun _ => Mem w [] [])) := by
  have hlk := hk.len
  have hli := hi.len
  refine calls_of Tryz.func4 rfl rfl (L := [(0, .slice ak nk ck), (1, .agg (#[.string (bs ln), .slice ai ni ci, ki (k)]))]) ⟨rfl, rfl, trivial⟩ (m := 99) (Nat.le_of_ble_eq_true rfl) (M := Mem w [] []) (Mem.refl w) ?_
  refine wc_seq ?_
  refine wc_region ?_
  refine wl_eff (e_box (cs := #[.string (bs ln), .slice ai ni ci, ki (k)]) rfl) rfl trivial rfl ?_
  intro b1
  refine wl_y (y_assign rfl) ?_
  refine wl_nil ?_
  refine aq_seq ?_
  refine wc_seq ?_
  refine wc_seq ?_
  refine wc_region ?_
  refine wl_y (y_move rfl) ?_
  refine wl_y (y_fieldAddr fd47_1 sz22 rfl) ?_
  refine wl_y (y_load sc22 rfl (c_blk (i := 0) rfl rfl)) ?_
  refine wl_eff (e_buildSlice (len := 2) [.slice ak nk ck, .slice ai ni ci] sl50 el22 rfl rfl rfl (by simp [Value.cells]) (by decide) [.slice ak nk ck, .slice ai ni ci] rfl) rfl trivial rfl ?_
  intro b2
  refine wl_eff (e_call0 cf5 rfl (fun w m => great_ok w (some ⟨b2, 0, none⟩) ak ai nk ck ni ci lk li ((m.rd_sl (i := 0) rfl : Rd _ _ 2 1 (([(ak, nk, ck, lk), (ai, ni, ci, li)] : List Pc).map pv))) (by omega) (by omega))) rfl trivial rfl ?_
  intro _
  refine wl_bool (t := 18) rfl (fun hs7 => ?_) (fun hs7 => ?_)
  · have hb7 : grF nk ni = true := by simpa using hs7
    refine wl_y (y_move rfl) ?_
    refine wl_off ⟨_, _, rfl, rfl, .inl rfl⟩ rfl ?_
    refine wl_off ⟨_, _, rfl, rfl, .inl rfl⟩ rfl ?_
    refine wl_off ⟨_, _, rfl, rfl, .inl rfl⟩ rfl ?_
    refine wl_off ⟨_, _, rfl, rfl, .inl rfl⟩ rfl ?_
    refine wl_off ⟨_, _, rfl, rfl, .inr rfl⟩ rfl ?_
    refine wl_off ⟨_, _, rfl, rfl, .inr rfl⟩ rfl ?_
    refine wl_off ⟨_, _, rfl, rfl, .inr rfl⟩ rfl ?_
    refine wl_off ⟨_, _, rfl, rfl, .inl rfl⟩ rfl ?_
    refine wl_y (y_pick (b := true) rfl rfl) ?_
    refine wl_nil ?_
    refine aq_seq ?_
    refine wc_then rfl ?_
    refine wc_seq ?_
    refine wc_region ?_
    refine wl_y (y_assign rfl) ?_
    refine wl_nil ?_
    refine aq_seq ?_
    refine wc_ret ?_
    refine aq_thru_ret ?_
    refine aq_return (.inl rfl) rfl (⟨_, _, rfl, rfl, rfl⟩) ?_
    intro w' m
    exact ⟨(), rfl, m.pick (is := []) rfl (by decide)⟩
  · have hb7 : grF nk ni = false := by simpa using hs7
    have hgr : nk + ni ≤ 3145728 := grF_out (by assumption)
    refine wl_y (y_move rfl) ?_
    refine wl_y (y_move rfl) ?_ (hg := ⟨_, rfl, rfl⟩)
    refine wl_y (y_len_sl sl22 (m := nk) rfl rfl) ?_ (hg := ⟨_, rfl, rfl⟩)
    refine wl_y (y_bin rfl rfl gtr_i64) ?_ (hg := ⟨_, rfl, rfl⟩)
    refine wl_bool (t := 22) rfl (fun hs11 => ?_) (fun hs11 => ?_)
    · have hb11 : (nk : Int) > 5000 := by simpa using hs11
      refine wl_y (y_move rfl) ?_ (hg := ⟨_, rfl, rfl⟩)
      refine wl_y (y_move rfl) ?_ (hg := ⟨_, rfl, rfl⟩)
      refine wl_y (y_len_sl sl22 (m := nk) rfl rfl) ?_ (hg := ⟨_, rfl, rfl⟩)
      refine wl_y (y_bin rfl rfl leq_i64) ?_ (hg := ⟨_, rfl, rfl⟩)
      refine wl_y (y_pick (b := true) rfl rfl) ?_ (hg := ⟨_, rfl, rfl⟩)
      refine wl_y (y_pick (b := false) rfl rfl) ?_
      refine wl_nil ?_
      refine aq_seq ?_
      refine wc_if rfl (fun hc1 => ?_) (fun hc1 => ?_)
      · have hb1 : (nk : Int) ≤ 1048576 := by simpa using hc1
        refine wc_seq ?_
        refine wc_region ?_
        refine wl_y (y_assign rfl) ?_
        refine wl_nil ?_
        refine aq_seq ?_
        refine wc_ret ?_
        refine aq_thru_ret ?_
        refine aq_return (.inl rfl) rfl (⟨_, _, rfl, rfl, rfl⟩) ?_
        intro w' m
        exact ⟨(), rfl, m.pick (is := []) rfl (by decide)⟩
      · have hb1 : ¬ ((nk : Int) ≤ 1048576) := by simpa using hc1
        refine wc_skip ?_
        refine aq_seq ?_
        refine wc_seq ?_
        refine wc_region ?_
        refine wl_y (y_move rfl) ?_
        refine wl_eff (e_call0 cf6 rfl (fun w m => twin_ok w ak nk ck lk (m.rd0 hk) (by omega))) rfl trivial rfl ?_
        intro r3
        refine wl_use (p := nk + 1 ≤ r3.2) (fun w m => m.sl_le (i := 0) rfl) (fun hcp_r3 => ?_)
        refine wl_y (y_assign rfl) ?_
        refine wl_nil ?_
        refine aq_seq ?_
        refine wc_seq ?_
        refine wc_region ?_
        refine wl_y (y_fieldAddr fd47_1 sz22 rfl) ?_
        refine wl_y (y_load sc22 rfl (c_blk (i := 2) rfl rfl)) ?_
        refine wl_eff (e_call0 cf6 rfl (fun w m => twin_ok w ai ni ci li (m.rd0 hi) (by omega))) rfl trivial rfl ?_
        intro r4
        refine wl_use (p := ni + 1 ≤ r4.2) (fun w m => m.sl_le (i := 0) rfl) (fun hcp_r4 => ?_)
        refine wl_y (y_assign rfl) ?_
        refine wl_nil ?_
        refine aq_seq ?_
        refine wc_seq ?_
        refine wc_region ?_
        refine wl_y (y_move rfl) ?_
        refine wl_y (y_fieldAddr fd47_0 sz9 rfl) ?_
        refine wl_y (y_load sc9 rfl (c_blk (i := 3) rfl rfl)) ?_
        refine wl_y (y_move rfl) ?_
        refine wl_y (y_fieldAddr fd47_2 sz3 rfl) ?_
        refine wl_y (y_load sc3 rfl (c_blk (i := 3) rfl rfl)) ?_
        refine wl_eff (e_call0 cf13 rfl (fun w m => label_neg w r3.1 r4.1 nk r3.2 ni r4.2 ln nn k hk0 (by first | omega | (simp; done) | (simp [*]; done) | (simp; omega)))) rfl trivial rfl ?_
        intro r5
        refine wl_y (y_move rfl) ?_
        refine wl_y (y_extract rfl rfl) ?_
        refine wl_y (y_extract rfl rfl) ?_
        refine wl_y (y_assign rfl) ?_
        refine wl_y (y_assign rfl) ?_
        refine wl_nil ?_
        refine aq_seq ?_
        refine wc_seq ?_
        refine wc_region ?_
        refine wl_y (y_move rfl) ?_
        refine wl_y (y_fieldAddr fd47_0 sz9 rfl) ?_
        refine wl_y (y_load sc9 rfl (c_blk (i := 4) rfl rfl)) ?_
        refine wl_y (y_move rfl) ?_
        refine wl_y (y_fieldAddr fd47_2 sz3 rfl) ?_
        refine wl_y (y_load sc3 rfl (c_blk (i := 4) rfl rfl)) ?_
        refine wl_eff (e_call0 cf13 rfl (fun w m => label_neg w r3.1 r4.1 nk r3.2 ni r4.2 ln nn k hk0 (by first | omega | (simp; done) | (simp [*]; done) | (simp; omega)))) rfl trivial rfl ?_
        intro r6
        refine wl_y (y_move rfl) ?_
        refine wl_y (y_extract rfl rfl) ?_
        refine wl_y (y_extract rfl rfl) ?_
        refine wl_y (y_assign rfl) ?_
        refine wl_y (y_assign rfl) ?_
        refine wl_nil ?_
        refine aq_seq ?_
        refine wc_seq ?_
        refine wc_region ?_
        refine wl_y (y_move rfl) ?_
        refine wl_y (y_fieldAddr fd47_0 sz9 rfl) ?_
        refine wl_y (y_load sc9 rfl (c_blk (i := 5) rfl rfl)) ?_
        refine wl_y (y_fieldAddr fd47_1 sz22 rfl) ?_
        refine wl_y (y_load sc22 rfl (c_blk (i := 5) rfl rfl)) ?_
        refine wl_y (y_fieldAddr fd47_2 sz3 rfl) ?_
        refine wl_y (y_load sc3 rfl (c_blk (i := 5) rfl rfl)) ?_
        refine wl_eff (e_call0 cf14 rfl (fun w m => rlabel_neg w ak ai nk ck ni ci ln nn k hk0 (by first | omega | (simp; done) | (simp [*]; done) | (simp; omega)))) rfl trivial rfl ?_
        intro r7
        refine wl_y (y_move rfl) ?_
        refine wl_y (y_extract rfl rfl) ?_
        refine wl_y (y_extract rfl rfl) ?_
        refine wl_y (y_assign rfl) ?_
        refine wl_y (y_assign rfl) ?_
        refine wl_nil ?_
        refine aq_seq ?_
        refine wc_seq ?_
        refine wc_seq ?_
        refine wc_region ?_
        refine wl_y (y_move rfl) ?_
        refine wl_y (y_move rfl) ?_
        refine wl_eff (e_call0 cf9 rfl (fun w m => SameBytes_ok w r5.1 r7.1 0 r5.2 0 r7.2 ([] : List UInt8) ([] : List UInt8) ((m.rd_sl (i := 2) rfl : Rd _ _ 0 1 (([] : List UInt8).map b8))) ((m.rd_sl (i := 0) rfl : Rd _ _ 0 1 (([] : List UInt8).map b8))) (by omega))) rfl trivial rfl ?_
        intro _
        refine wl_re (t := 67) (v' := kb (true)) rfl (congrArg kb (beq_self_eq_true _)) ?_
        refine wl_y (y_not rfl) ?_
        refine wl_y (y_move rfl) ?_
        refine wl_y (y_move rfl) ?_ (hg := ⟨_, rfl, rfl⟩)
        refine wl_y (y_move rfl) ?_ (hg := ⟨_, rfl, rfl⟩)
        refine wl_eff (e_call0 cf9 rfl (fun w m => SameBytes_ok w r6.1 r7.1 0 r6.2 0 r7.2 ([] : List UInt8) ([] : List UInt8) ((m.rd_sl (i := 1) rfl : Rd _ _ 0 1 (([] : List UInt8).map b8))) ((m.rd_sl (i := 0) rfl : Rd _ _ 0 1 (([] : List UInt8).map b8))) (by omega))) rfl ⟨_, rfl, rfl⟩ rfl ?_
        intro _
        refine wl_re (t := 72) (v' := kb (true)) rfl (congrArg kb (beq_self_eq_true _)) ?_
        refine wl_y (y_not rfl) ?_ (hg := ⟨_, rfl, rfl⟩)
        refine wl_y (y_pick (b := false) rfl rfl) ?_
        refine wl_y (y_move rfl) ?_
        refine wl_y (y_move rfl) ?_ (hg := ⟨_, rfl, rfl⟩)
        refine wl_y (y_move rfl) ?_ (hg := ⟨_, rfl, rfl⟩)
        refine wl_y (y_bin rfl rfl (show bin .neq (ki 1) (ki 1) = some (kb false) from rfl)) ?_ (hg := ⟨_, rfl, rfl⟩)
        refine wl_re (t := 78) (v' := kb (false)) rfl (by first | exact congrArg kb (bne_self_eq_false _) | rfl) ?_
        refine wl_y (y_pick (b := false) rfl rfl) ?_
        refine wl_y (y_move rfl) ?_
        refine wl_y (y_move rfl) ?_ (hg := ⟨_, rfl, rfl⟩)
        refine wl_y (y_move rfl) ?_ (hg := ⟨_, rfl, rfl⟩)
        refine wl_eff (e_call0 cf10 rfl (fun w m => left_ok w r3.1 ak nk r3.2 ck lk (m.rd_sl (i := 4) rfl : Rd _ _ (nk + 1) 1 ((lk ++ [77]).map b8)) (m.sl_le (i := 4) rfl) (m.rd0 hk) (by omega))) rfl ⟨_, rfl, rfl⟩ rfl ?_
        intro _
        refine wl_y (y_not rfl) ?_ (hg := ⟨_, rfl, rfl⟩)
        refine wl_y (y_pick (b := false) rfl rfl) ?_
        refine wl_y (y_move rfl) ?_
        refine wl_y (y_move rfl) ?_ (hg := ⟨_, rfl, rfl⟩)
        refine wl_y (y_fieldAddr fd47_1 sz22 rfl) ?_ (hg := ⟨_, rfl, rfl⟩)
        refine wl_y (y_load sc22 rfl (c_blk (i := 6) rfl rfl)) ?_ (hg := ⟨_, rfl, rfl⟩)
        refine wl_eff (e_call0 cf10 rfl (fun w m => left_ok w r4.1 ai ni r4.2 ci li (m.rd_sl (i := 3) rfl : Rd _ _ (ni + 1) 1 ((li ++ [77]).map b8)) (m.sl_le (i := 3) rfl) (m.rd0 hi) (by omega))) rfl ⟨_, rfl, rfl⟩ rfl ?_
        intro _
        refine wl_y (y_not rfl) ?_ (hg := ⟨_, rfl, rfl⟩)
        refine wl_y (y_pick (b := false) rfl rfl) ?_
        refine wl_nil ?_
        refine aq_seq ?_
        refine wc_else rfl ?_
        refine wc_skip ?_
        refine aq_seq ?_
        refine wc_seq ?_
        refine wc_region ?_
        refine wl_y (y_build_st (cs := #[ki (0), .slice none 0 0, .slice none 0 0, .slice none 0 0, .slice none 0 0, .slice none 0 0, .slice none 0 0, .slice none 0 0, .slice none 0 0, .slice none 0 0, .slice none 0 0, .slice none 0 0, .slice none 0 0]) [] st42 zn42 rfl (by kernel_rfl)) ?_
        refine wl_eff (e_alloc (cs := #[ki (0), .slice none 0 0, .slice none 0 0, .slice none 0 0, .slice none 0 0, .slice none 0 0, .slice none 0 0, .slice none 0 0, .slice none 0 0, .slice none 0 0, .slice none 0 0, .slice none 0 0, .slice none 0 0]) zn42) rfl trivial rfl ?_
        intro b8_
        refine wl_eff (e_storeall sz42 rfl rfl (i := 0) rfl rfl rfl (by simp [Value.oneCell']) rfl) rfl trivial rfl ?_
        intro _
        refine wl_nil ?_
        refine aq_seq ?_
        refine wc_seq ?_
        refine wc_region ?_
        refine wl_y (y_move rfl) ?_
        refine wl_eff (e_callM [0, 1, 2, 3, 4, 5, 6, 7] [.blk b8_ (.cells (#[ki (0), .slice none 0 0, .slice none 0 0, .slice none 0 0, .slice none 0 0, .slice none 0 0, .slice none 0 0, .slice none 0 0, .slice none 0 0, .slice none 0 0, .slice none 0 0, .slice none 0 0, .slice none 0 0]) 42 (0, 0))] [.sl r7.1 0 r7.2 5 1 (([] : List UInt8).map b8), .sl r6.1 0 r6.2 5 1 (([] : List UInt8).map b8), .sl r5.1 0 r5.2 5 1 (([] : List UInt8).map b8), .sl r4.1 (ni + 1) r4.2 5 1 ((li ++ [77]).map b8), .sl r3.1 (nk + 1) r3.2 5 1 ((lk ++ [77]).map b8), .sl (some ⟨b2, 0, none⟩) 2 2 22 1 (([(ak, nk, ck, lk), (ai, ni, ci, li)] : List Pc).map pv), .blk b1 (.cells (#[.string (bs ln), .slice ai ni ci, ki (k)]) 47 (0, 0))] ⟨_, _, rfl, rfl, ⟨_, _, rfl, rfl, ⟨_, _, rfl, rfl, ⟨_, _, rfl, rfl, ⟨_, _, rfl, rfl, ⟨_, _, rfl, rfl, ⟨_, _, rfl, rfl, ⟨_, _, rfl, rfl, rfl⟩⟩⟩⟩⟩⟩⟩⟩ (by decide) cf11 rfl (List.flatMap Ch.keys [.blk b8_ (.cells (#[ki (0), .slice none 0 0, .slice none 0 0, .slice none 0 0, .slice none 0 0, .slice none 0 0, .slice none 0 0, .slice none 0 0, .slice none 0 0, .slice none 0 0, .slice none 0 0, .slice none 0 0, .slice none 0 0]) 42 (0, 0))]) rfl (fun w m => bkBytes0_ok w _ b8_  r5.1 0 r5.2 (Mem.restart (A := [_]) (B := [_, _, _, _, _, _, _]) m))) rfl trivial rfl ?_
        intro r9
        refine wl_nil ?_
        refine aq_seq ?_
        refine wc_seq ?_
        refine wc_region ?_
        refine wl_y (y_move rfl) ?_
        refine wl_eff (e_callM [0, 1, 2, 3, 4, 5, 6, 7, 8] [.blk b8_ (.cells (#[ki (1), .slice r9.1 1 r9.2, .slice none 0 0, .slice none 0 0, .slice none 0 0, .slice none 0 0, .slice none 0 0, .slice none 0 0, .slice none 0 0, .slice none 0 0, .slice none 0 0, .slice none 0 0, .slice none 0 0]) 42 (0, 0)), .sl r9.1 1 r9.2 67 3 ([.slice r5.1 0 r5.2, .slice none 0 0, ki (1)] : List Value)] [.sl r7.1 0 r7.2 5 1 (([] : List UInt8).map b8), .sl r6.1 0 r6.2 5 1 (([] : List UInt8).map b8), .sl r5.1 0 r5.2 5 1 (([] : List UInt8).map b8), .sl r4.1 (ni + 1) r4.2 5 1 ((li ++ [77]).map b8), .sl r3.1 (nk + 1) r3.2 5 1 ((lk ++ [77]).map b8), .sl (some ⟨b2, 0, none⟩) 2 2 22 1 (([(ak, nk, ck, lk), (ai, ni, ci, li)] : List Pc).map pv), .blk b1 (.cells (#[.string (bs ln), .slice ai ni ci, ki (k)]) 47 (0, 0))] ⟨_, _, rfl, rfl, ⟨_, _, rfl, rfl, ⟨_, _, rfl, rfl, ⟨_, _, rfl, rfl, ⟨_, _, rfl, rfl, ⟨_, _, rfl, rfl, ⟨_, _, rfl, rfl, ⟨_, _, rfl, rfl, ⟨_, _, rfl, rfl, rfl⟩⟩⟩⟩⟩⟩⟩⟩⟩ (by decide) cf11 rfl (List.flatMap Ch.keys [.blk b8_ (.cells (#[ki (1), .slice r9.1 1 r9.2, .slice none 0 0, .slice none 0 0, .slice none 0 0, .slice none 0 0, .slice none 0 0, .slice none 0 0, .slice none 0 0, .slice none 0 0, .slice none 0 0, .slice none 0 0, .slice none 0 0]) 42 (0, 0)), .sl r9.1 1 r9.2 67 3 ([.slice r5.1 0 r5.2, .slice none 0 0, ki (1)] : List Value)]) rfl (fun w m => bkBytes1_ok w _ b8_ r9.1 r9.2 r5.1 0 r5.2 r6.1 0 r6.2 (Mem.restart (A := [_, _]) (B := [_, _, _, _, _, _, _]) m))) rfl trivial rfl ?_
        intro r10
        refine wl_nil ?_
        refine aq_seq ?_
        refine wc_seq ?_
        refine wc_region ?_
        refine wl_eff (e_callM [0, 1, 4, 3, 2, 5, 6, 7, 8] [.blk b8_ (.cells (#[ki (2), .slice r10.1 2 r10.2, .slice none 0 0, .slice none 0 0, .slice none 0 0, .slice none 0 0, .slice none 0 0, .slice none 0 0, .slice none 0 0, .slice none 0 0, .slice none 0 0, .slice none 0 0, .slice none 0 0]) 42 (0, 0)), .sl r10.1 2 r10.2 67 3 ([.slice r5.1 0 r5.2, .slice none 0 0, ki (1), .slice r6.1 0 r6.2, .slice none 0 0, ki (2)] : List Value), .sl r5.1 0 r5.2 5 1 (([] : List UInt8).map b8), .sl r6.1 0 r6.2 5 1 (([] : List UInt8).map b8)] [.sl r7.1 0 r7.2 5 1 (([] : List UInt8).map b8), .sl r4.1 (ni + 1) r4.2 5 1 ((li ++ [77]).map b8), .sl r3.1 (nk + 1) r3.2 5 1 ((lk ++ [77]).map b8), .sl (some ⟨b2, 0, none⟩) 2 2 22 1 (([(ak, nk, ck, lk), (ai, ni, ci, li)] : List Pc).map pv), .blk b1 (.cells (#[.string (bs ln), .slice ai ni ci, ki (k)]) 47 (0, 0))] ⟨_, _, rfl, rfl, ⟨_, _, rfl, rfl, ⟨_, _, rfl, rfl, ⟨_, _, rfl, rfl, ⟨_, _, rfl, rfl, ⟨_, _, rfl, rfl, ⟨_, _, rfl, rfl, ⟨_, _, rfl, rfl, ⟨_, _, rfl, rfl, rfl⟩⟩⟩⟩⟩⟩⟩⟩⟩ (by decide) cf12 rfl (List.flatMap Ch.keys [.blk b8_ (.cells (#[ki (2), .slice r10.1 2 r10.2, .slice none 0 0, .slice none 0 0, .slice none 0 0, .slice none 0 0, .slice none 0 0, .slice none 0 0, .slice none 0 0, .slice none 0 0, .slice none 0 0, .slice none 0 0, .slice none 0 0]) 42 (0, 0)), .sl r10.1 2 r10.2 67 3 ([.slice r5.1 0 r5.2, .slice none 0 0, ki (1), .slice r6.1 0 r6.2, .slice none 0 0, ki (2)] : List Value), .sl r5.1 0 r5.2 5 1 (([] : List UInt8).map b8), .sl r6.1 0 r6.2 5 1 (([] : List UInt8).map b8)]) rfl (fun w m => apart_2 w _ b8_ r10.1 r10.2 r5.1 0 r5.2 r6.1 0 r6.2 ([] : List UInt8) ([] : List UInt8) (Mem.restart (A := [_, _, _, _]) (B := [_, _, _, _, _]) m) (by omega) (by omega))) rfl trivial rfl ?_
        intro _
        refine wl_y (y_assign rfl) ?_
        refine wl_nil ?_
        refine aq_seq ?_
        refine wc_ret ?_
        refine aq_return (.inl rfl) rfl (⟨_, _, rfl, rfl, rfl⟩) ?_
        intro w' m
        exact ⟨(), rfl, m.pick (is := []) rfl (by decide)⟩
    · have hb11 : ¬ ((nk : Int) > 5000) := by simpa using hs11
      refine wl_y (y_move rfl) ?_ (hg := ⟨_, rfl, rfl⟩)
      refine wl_off ⟨_, _, rfl, rfl, .inl rfl⟩ rfl ?_
      refine wl_off ⟨_, _, rfl, rfl, .inl rfl⟩ rfl ?_
      refine wl_off ⟨_, _, rfl, rfl, .inl rfl⟩ rfl ?_
      refine wl_y (y_pick (b := false) rfl rfl) ?_ (hg := ⟨_, rfl, rfl⟩)
      refine wl_y (y_pick (b := false) rfl rfl) ?_
      refine wl_nil ?_
      refine aq_seq ?_
      refine wc_else rfl ?_
      refine wc_skip ?_
      refine aq_seq ?_
      refine wc_seq ?_
      refine wc_region ?_
      refine wl_y (y_move rfl) ?_
      refine wl_eff (e_call0 cf6 rfl (fun w m => twin_ok w ak nk ck lk (m.rd0 hk) (by omega))) rfl trivial rfl ?_
      intro r11
      refine wl_use (p := nk + 1 ≤ r11.2) (fun w m => m.sl_le (i := 0) rfl) (fun hcp_r11 => ?_)
      refine wl_y (y_assign rfl) ?_
      refine wl_nil ?_
      refine aq_seq ?_
      refine wc_seq ?_
      refine wc_region ?_
      refine wl_y (y_fieldAddr fd47_1 sz22 rfl) ?_
      refine wl_y (y_load sc22 rfl (c_blk (i := 2) rfl rfl)) ?_
      refine wl_eff (e_call0 cf6 rfl (fun w m => twin_ok w ai ni ci li (m.rd0 hi) (by omega))) rfl trivial rfl ?_
      intro r12
      refine wl_use (p := ni + 1 ≤ r12.2) (fun w m => m.sl_le (i := 0) rfl) (fun hcp_r12 => ?_)
      refine wl_y (y_assign rfl) ?_
      refine wl_nil ?_
      refine aq_seq ?_
      refine wc_seq ?_
      refine wc_region ?_
      refine wl_y (y_move rfl) ?_
      refine wl_y (y_fieldAddr fd47_0 sz9 rfl) ?_
      refine wl_y (y_load sc9 rfl (c_blk (i := 3) rfl rfl)) ?_
      refine wl_y (y_move rfl) ?_
      refine wl_y (y_fieldAddr fd47_2 sz3 rfl) ?_
      refine wl_y (y_load sc3 rfl (c_blk (i := 3) rfl rfl)) ?_
      refine wl_eff (e_call0 cf13 rfl (fun w m => label_neg w r11.1 r12.1 nk r11.2 ni r12.2 ln nn k hk0 (by first | omega | (simp; done) | (simp [*]; done) | (simp; omega)))) rfl trivial rfl ?_
      intro r13
      refine wl_y (y_move rfl) ?_
      refine wl_y (y_extract rfl rfl) ?_
      refine wl_y (y_extract rfl rfl) ?_
      refine wl_y (y_assign rfl) ?_
      refine wl_y (y_assign rfl) ?_
      refine wl_nil ?_
      refine aq_seq ?_
      refine wc_seq ?_
      refine wc_region ?_
      refine wl_y (y_move rfl) ?_
      refine wl_y (y_fieldAddr fd47_0 sz9 rfl) ?_
      refine wl_y (y_load sc9 rfl (c_blk (i := 4) rfl rfl)) ?_
      refine wl_y (y_move rfl) ?_
      refine wl_y (y_fieldAddr fd47_2 sz3 rfl) ?_
      refine wl_y (y_load sc3 rfl (c_blk (i := 4) rfl rfl)) ?_
      refine wl_eff (e_call0 cf13 rfl (fun w m => label_neg w r11.1 r12.1 nk r11.2 ni r12.2 ln nn k hk0 (by first | omega | (simp; done) | (simp [*]; done) | (simp; omega)))) rfl trivial rfl ?_
      intro r14
      refine wl_y (y_move rfl) ?_
      refine wl_y (y_extract rfl rfl) ?_
      refine wl_y (y_extract rfl rfl) ?_
      refine wl_y (y_assign rfl) ?_
      refine wl_y (y_assign rfl) ?_
      refine wl_nil ?_
      refine aq_seq ?_
      refine wc_seq ?_
      refine wc_region ?_
      refine wl_y (y_move rfl) ?_
      refine wl_y (y_fieldAddr fd47_0 sz9 rfl) ?_
      refine wl_y (y_load sc9 rfl (c_blk (i := 5) rfl rfl)) ?_
      refine wl_y (y_fieldAddr fd47_1 sz22 rfl) ?_
      refine wl_y (y_load sc22 rfl (c_blk (i := 5) rfl rfl)) ?_
      refine wl_y (y_fieldAddr fd47_2 sz3 rfl) ?_
      refine wl_y (y_load sc3 rfl (c_blk (i := 5) rfl rfl)) ?_
      refine wl_eff (e_call0 cf14 rfl (fun w m => rlabel_neg w ak ai nk ck ni ci ln nn k hk0 (by first | omega | (simp; done) | (simp [*]; done) | (simp; omega)))) rfl trivial rfl ?_
      intro r15
      refine wl_y (y_move rfl) ?_
      refine wl_y (y_extract rfl rfl) ?_
      refine wl_y (y_extract rfl rfl) ?_
      refine wl_y (y_assign rfl) ?_
      refine wl_y (y_assign rfl) ?_
      refine wl_nil ?_
      refine aq_seq ?_
      refine wc_seq ?_
      refine wc_seq ?_
      refine wc_region ?_
      refine wl_y (y_move rfl) ?_
      refine wl_y (y_move rfl) ?_
      refine wl_eff (e_call0 cf9 rfl (fun w m => SameBytes_ok w r13.1 r15.1 0 r13.2 0 r15.2 ([] : List UInt8) ([] : List UInt8) ((m.rd_sl (i := 2) rfl : Rd _ _ 0 1 (([] : List UInt8).map b8))) ((m.rd_sl (i := 0) rfl : Rd _ _ 0 1 (([] : List UInt8).map b8))) (by omega))) rfl trivial rfl ?_
      intro _
      refine wl_re (t := 67) (v' := kb (true)) rfl (congrArg kb (beq_self_eq_true _)) ?_
      refine wl_y (y_not rfl) ?_
      refine wl_y (y_move rfl) ?_
      refine wl_y (y_move rfl) ?_ (hg := ⟨_, rfl, rfl⟩)
      refine wl_y (y_move rfl) ?_ (hg := ⟨_, rfl, rfl⟩)
      refine wl_eff (e_call0 cf9 rfl (fun w m => SameBytes_ok w r14.1 r15.1 0 r14.2 0 r15.2 ([] : List UInt8) ([] : List UInt8) ((m.rd_sl (i := 1) rfl : Rd _ _ 0 1 (([] : List UInt8).map b8))) ((m.rd_sl (i := 0) rfl : Rd _ _ 0 1 (([] : List UInt8).map b8))) (by omega))) rfl ⟨_, rfl, rfl⟩ rfl ?_
      intro _
      refine wl_re (t := 72) (v' := kb (true)) rfl (congrArg kb (beq_self_eq_true _)) ?_
      refine wl_y (y_not rfl) ?_ (hg := ⟨_, rfl, rfl⟩)
      refine wl_y (y_pick (b := false) rfl rfl) ?_
      refine wl_y (y_move rfl) ?_
      refine wl_y (y_move rfl) ?_ (hg := ⟨_, rfl, rfl⟩)
      refine wl_y (y_move rfl) ?_ (hg := ⟨_, rfl, rfl⟩)
      refine wl_y (y_bin rfl rfl (show bin .neq (ki 1) (ki 1) = some (kb false) from rfl)) ?_ (hg := ⟨_, rfl, rfl⟩)
      refine wl_re (t := 78) (v' := kb (false)) rfl (by first | exact congrArg kb (bne_self_eq_false _) | rfl) ?_
      refine wl_y (y_pick (b := false) rfl rfl) ?_
      refine wl_y (y_move rfl) ?_
      refine wl_y (y_move rfl) ?_ (hg := ⟨_, rfl, rfl⟩)
      refine wl_y (y_move rfl) ?_ (hg := ⟨_, rfl, rfl⟩)
      refine wl_eff (e_call0 cf10 rfl (fun w m => left_ok w r11.1 ak nk r11.2 ck lk (m.rd_sl (i := 4) rfl : Rd _ _ (nk + 1) 1 ((lk ++ [77]).map b8)) (m.sl_le (i := 4) rfl) (m.rd0 hk) (by omega))) rfl ⟨_, rfl, rfl⟩ rfl ?_
      intro _
      refine wl_y (y_not rfl) ?_ (hg := ⟨_, rfl, rfl⟩)
      refine wl_y (y_pick (b := false) rfl rfl) ?_
      refine wl_y (y_move rfl) ?_
      refine wl_y (y_move rfl) ?_ (hg := ⟨_, rfl, rfl⟩)
      refine wl_y (y_fieldAddr fd47_1 sz22 rfl) ?_ (hg := ⟨_, rfl, rfl⟩)
      refine wl_y (y_load sc22 rfl (c_blk (i := 6) rfl rfl)) ?_ (hg := ⟨_, rfl, rfl⟩)
      refine wl_eff (e_call0 cf10 rfl (fun w m => left_ok w r12.1 ai ni r12.2 ci li (m.rd_sl (i := 3) rfl : Rd _ _ (ni + 1) 1 ((li ++ [77]).map b8)) (m.sl_le (i := 3) rfl) (m.rd0 hi) (by omega))) rfl ⟨_, rfl, rfl⟩ rfl ?_
      intro _
      refine wl_y (y_not rfl) ?_ (hg := ⟨_, rfl, rfl⟩)
      refine wl_y (y_pick (b := false) rfl rfl) ?_
      refine wl_nil ?_
      refine aq_seq ?_
      refine wc_else rfl ?_
      refine wc_skip ?_
      refine aq_seq ?_
      refine wc_seq ?_
      refine wc_region ?_
      refine wl_y (y_build_st (cs := #[ki (0), .slice none 0 0, .slice none 0 0, .slice none 0 0, .slice none 0 0, .slice none 0 0, .slice none 0 0, .slice none 0 0, .slice none 0 0, .slice none 0 0, .slice none 0 0, .slice none 0 0, .slice none 0 0]) [] st42 zn42 rfl (by kernel_rfl)) ?_
      refine wl_eff (e_alloc (cs := #[ki (0), .slice none 0 0, .slice none 0 0, .slice none 0 0, .slice none 0 0, .slice none 0 0, .slice none 0 0, .slice none 0 0, .slice none 0 0, .slice none 0 0, .slice none 0 0, .slice none 0 0, .slice none 0 0]) zn42) rfl trivial rfl ?_
      intro b16
      refine wl_eff (e_storeall sz42 rfl rfl (i := 0) rfl rfl rfl (by simp [Value.oneCell']) rfl) rfl trivial rfl ?_
      intro _
      refine wl_nil ?_
      refine aq_seq ?_
      refine wc_seq ?_
      refine wc_region ?_
      refine wl_y (y_move rfl) ?_
      refine wl_eff (e_callM [0, 1, 2, 3, 4, 5, 6, 7] [.blk b16 (.cells (#[ki (0), .slice none 0 0, .slice none 0 0, .slice none 0 0, .slice none 0 0, .slice none 0 0, .slice none 0 0, .slice none 0 0, .slice none 0 0, .slice none 0 0, .slice none 0 0, .slice none 0 0, .slice none 0 0]) 42 (0, 0))] [.sl r15.1 0 r15.2 5 1 (([] : List UInt8).map b8), .sl r14.1 0 r14.2 5 1 (([] : List UInt8).map b8), .sl r13.1 0 r13.2 5 1 (([] : List UInt8).map b8), .sl r12.1 (ni + 1) r12.2 5 1 ((li ++ [77]).map b8), .sl r11.1 (nk + 1) r11.2 5 1 ((lk ++ [77]).map b8), .sl (some ⟨b2, 0, none⟩) 2 2 22 1 (([(ak, nk, ck, lk), (ai, ni, ci, li)] : List Pc).map pv), .blk b1 (.cells (#[.string (bs ln), .slice ai ni ci, ki (k)]) 47 (0, 0))] ⟨_, _, rfl, rfl, ⟨_, _, rfl, rfl, ⟨_, _, rfl, rfl, ⟨_, _, rfl, rfl, ⟨_, _, rfl, rfl, ⟨_, _, rfl, rfl, ⟨_, _, rfl, rfl, ⟨_, _, rfl, rfl, rfl⟩⟩⟩⟩⟩⟩⟩⟩ (by decide) cf11 rfl (List.flatMap Ch.keys [.blk b16 (.cells (#[ki (0), .slice none 0 0, .slice none 0 0, .slice none 0 0, .slice none 0 0, .slice none 0 0, .slice none 0 0, .slice none 0 0, .slice none 0 0, .slice none 0 0, .slice none 0 0, .slice none 0 0, .slice none 0 0]) 42 (0, 0))]) rfl (fun w m => bkBytes0_ok w _ b16  r13.1 0 r13.2 (Mem.restart (A := [_]) (B := [_, _, _, _, _, _, _]) m))) rfl trivial rfl ?_
      intro r17
      refine wl_nil ?_
      refine aq_seq ?_
      refine wc_seq ?_
      refine wc_region ?_
      refine wl_y (y_move rfl) ?_
      refine wl_eff (e_callM [0, 1, 2, 3, 4, 5, 6, 7, 8] [.blk b16 (.cells (#[ki (1), .slice r17.1 1 r17.2, .slice none 0 0, .slice none 0 0, .slice none 0 0, .slice none 0 0, .slice none 0 0, .slice none 0 0, .slice none 0 0, .slice none 0 0, .slice none 0 0, .slice none 0 0, .slice none 0 0]) 42 (0, 0)), .sl r17.1 1 r17.2 67 3 ([.slice r13.1 0 r13.2, .slice none 0 0, ki (1)] : List Value)] [.sl r15.1 0 r15.2 5 1 (([] : List UInt8).map b8), .sl r14.1 0 r14.2 5 1 (([] : List UInt8).map b8), .sl r13.1 0 r13.2 5 1 (([] : List UInt8).map b8), .sl r12.1 (ni + 1) r12.2 5 1 ((li ++ [77]).map b8), .sl r11.1 (nk + 1) r11.2 5 1 ((lk ++ [77]).map b8), .sl (some ⟨b2, 0, none⟩) 2 2 22 1 (([(ak, nk, ck, lk), (ai, ni, ci, li)] : List Pc).map pv), .blk b1 (.cells (#[.string (bs ln), .slice ai ni ci, ki (k)]) 47 (0, 0))] ⟨_, _, rfl, rfl, ⟨_, _, rfl, rfl, ⟨_, _, rfl, rfl, ⟨_, _, rfl, rfl, ⟨_, _, rfl, rfl, ⟨_, _, rfl, rfl, ⟨_, _, rfl, rfl, ⟨_, _, rfl, rfl, ⟨_, _, rfl, rfl, rfl⟩⟩⟩⟩⟩⟩⟩⟩⟩ (by decide) cf11 rfl (List.flatMap Ch.keys [.blk b16 (.cells (#[ki (1), .slice r17.1 1 r17.2, .slice none 0 0, .slice none 0 0, .slice none 0 0, .slice none 0 0, .slice none 0 0, .slice none 0 0, .slice none 0 0, .slice none 0 0, .slice none 0 0, .slice none 0 0, .slice none 0 0]) 42 (0, 0)), .sl r17.1 1 r17.2 67 3 ([.slice r13.1 0 r13.2, .slice none 0 0, ki (1)] : List Value)]) rfl (fun w m => bkBytes1_ok w _ b16 r17.1 r17.2 r13.1 0 r13.2 r14.1 0 r14.2 (Mem.restart (A := [_, _]) (B := [_, _, _, _, _, _, _]) m))) rfl trivial rfl ?_
      intro r18
      refine wl_nil ?_
      refine aq_seq ?_
      refine wc_seq ?_
      refine wc_region ?_
      refine wl_eff (e_callM [0, 1, 4, 3, 2, 5, 6, 7, 8] [.blk b16 (.cells (#[ki (2), .slice r18.1 2 r18.2, .slice none 0 0, .slice none 0 0, .slice none 0 0, .slice none 0 0, .slice none 0 0, .slice none 0 0, .slice none 0 0, .slice none 0 0, .slice none 0 0, .slice none 0 0, .slice none 0 0]) 42 (0, 0)), .sl r18.1 2 r18.2 67 3 ([.slice r13.1 0 r13.2, .slice none 0 0, ki (1), .slice r14.1 0 r14.2, .slice none 0 0, ki (2)] : List Value), .sl r13.1 0 r13.2 5 1 (([] : List UInt8).map b8), .sl r14.1 0 r14.2 5 1 (([] : List UInt8).map b8)] [.sl r15.1 0 r15.2 5 1 (([] : List UInt8).map b8), .sl r12.1 (ni + 1) r12.2 5 1 ((li ++ [77]).map b8), .sl r11.1 (nk + 1) r11.2 5 1 ((lk ++ [77]).map b8), .sl (some ⟨b2, 0, none⟩) 2 2 22 1 (([(ak, nk, ck, lk), (ai, ni, ci, li)] : List Pc).map pv), .blk b1 (.cells (#[.string (bs ln), .slice ai ni ci, ki (k)]) 47 (0, 0))] ⟨_, _, rfl, rfl, ⟨_, _, rfl, rfl, ⟨_, _, rfl, rfl, ⟨_, _, rfl, rfl, ⟨_, _, rfl, rfl, ⟨_, _, rfl, rfl, ⟨_, _, rfl, rfl, ⟨_, _, rfl, rfl, ⟨_, _, rfl, rfl, rfl⟩⟩⟩⟩⟩⟩⟩⟩⟩ (by decide) cf12 rfl (List.flatMap Ch.keys [.blk b16 (.cells (#[ki (2), .slice r18.1 2 r18.2, .slice none 0 0, .slice none 0 0, .slice none 0 0, .slice none 0 0, .slice none 0 0, .slice none 0 0, .slice none 0 0, .slice none 0 0, .slice none 0 0, .slice none 0 0, .slice none 0 0]) 42 (0, 0)), .sl r18.1 2 r18.2 67 3 ([.slice r13.1 0 r13.2, .slice none 0 0, ki (1), .slice r14.1 0 r14.2, .slice none 0 0, ki (2)] : List Value), .sl r13.1 0 r13.2 5 1 (([] : List UInt8).map b8), .sl r14.1 0 r14.2 5 1 (([] : List UInt8).map b8)]) rfl (fun w m => apart_2 w _ b16 r18.1 r18.2 r13.1 0 r13.2 r14.1 0 r14.2 ([] : List UInt8) ([] : List UInt8) (Mem.restart (A := [_, _, _, _]) (B := [_, _, _, _, _]) m) (by omega) (by omega))) rfl trivial rfl ?_
      intro _
      refine wl_y (y_assign rfl) ?_
      refine wl_nil ?_
      refine aq_seq ?_
      refine wc_ret ?_
      refine aq_return (.inl rfl) rfl (⟨_, _, rfl, rfl, rfl⟩) ?_
      intro w' m
      exact ⟨(), rfl, m.pick (is := []) rfl (by decide)⟩

theorem law03e_any (w : World) (ak ai : Option Addr) (nk ck ni ci : Nat) (lk li : List UInt8) (z : Int) (hz : z ≤ 9223372036854775807) (hk : Rd w ak nk 1 (lk.map b8)) (hi : Rd w ai ni 1 (li.map b8)) (hck : nk ≤ ck) (hci : ni ≤ ci) (hnk : nk ≤ 140737488351232) (hni : ni ≤ 140737488351232) : Calls Tryz.prog 3 #[.slice ak nk ck, .slice ai ni ci, ki z] w (Ret (fun _ : Unit => kb true) (fun _ => Mem w [] [])) := by
  by_cases h : z < 0
  · exact law03e_neg w ak ai nk ck ni ci lk li z h hk hi hck hci hnk hni
  · obtain ⟨n, rfl⟩ := Int.eq_ofNat_of_zero_le (Int.not_lt.1 h)
    exact law03e_ok w ak ai nk ck ni ci lk li n (by omega) hk hi hck hci hnk hni

theorem law03l_any (w : World) (ak ai : Option Addr) (nk ck ni ci : Nat) (lk li : List UInt8) (z : Int) (hz : z ≤ 9223372036854775807) (hk : Rd w ak nk 1 (lk.map b8)) (hi : Rd w ai ni 1 (li.map b8)) (hck : nk ≤ ck) (hci : ni ≤ ci) (hnk : nk ≤ 140737488351232) (hni : ni ≤ 140737488351232) (ln : List UInt8) (nn : Nat) (hln : ln.length = nn) : Calls Tryz.prog 4 #[.slice ak nk ck, .agg #[.string (bs ln), .slice ai ni ci, ki z]] w (Ret (fun _ : Unit => kb true) (fun _ => Mem w [] [])) := by
  by_cases h : z < 0
  · exact law03l_neg w ak ai nk ck ni ci lk li z h hk hi hck hci hnk hni ln nn hln
  · obtain ⟨n, rfl⟩ := Int.eq_ofNat_of_zero_le (Int.not_lt.1 h)
    exact law03l_ok w ak ai nk ck ni ci lk li n (by omega) hk hi hck hci hnk hni ln nn hln

end Go.Proofs.YtjibkjoaamchoaaGreatDoor
