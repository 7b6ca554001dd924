/- Lemmas and contracts for the proof of this seat's statements (TwinF). No condition. -/
import Derived.Test.YtjibkjoaamchoaaGreatDoorEBk
import Derived.Test.YtjibkjoaamchoaaGreatDoorProg
import Derived.KernelRfl
import Derived.Test.YtjibkjoaamchoaaGreatDoorEPlaA
set_option linter.all false
namespace Go.Proofs.YtjibkjoaamchoaaGreatDoor
open Go.Mc
private theorem sl22 : slB Tryz.prog 22 5 = true := by kernel_rfl
private theorem el5 : elB Tryz.prog 5 1 1 (b8 (0)) := elB_of (by kernel_rfl) (by kernel_rfl) (by unfold znB; kernel_rfl)
private theorem sz5 : szB Tryz.prog 5 1 = true := by kernel_rfl
private theorem sc5 : scB Tryz.prog 5 = true := by kernel_rfl
theorem twin_ok (w : World) (ab : Option Addr) (nb cb : Nat) (xs : List UInt8) (hb : Rd w ab nb 1 (xs.map b8)) (hnb : nb ≤ 140737488351232) :
    Calls Tryz.prog 6 #[.slice ab nb cb] w (Ret (fun r : Option Addr × Nat => .slice r.1 nb r.2) (fun r => Mem w [] [.sl r.1 (nb + 1) r.2 5 1 ((xs ++ [77]).map b8)])) := by
  have hlb := hb.len
  refine calls_of Tryz.func6 rfl rfl (L := [(0, .slice ab nb cb)]) ⟨rfl, trivial⟩ (m := 28) (Nat.le_of_ble_eq_true rfl) (M := Mem w [] []) (Mem.refl w) ?_
  refine wc_seq ?_
  refine wc_region ?_
  refine wl_y (y_assign rfl) ?_
  refine wl_nil ?_
  refine aq_seq ?_
  refine wc_seq ?_
  refine wc_region ?_
  refine wl_y (y_move rfl) ?_
  refine wl_y (y_len_sl sl22 (m := nb) rfl rfl) ?_
  refine wl_y (y_bin rfl rfl (addn_i64 (a := nb) (b := 1) (by omega))) ?_
  refine wl_eff (e_makeSlm (f := b8) (z := 0) 0 (nb + 1) sl22 el5 rfl rfl rfl (by omega) (by omega) (by omega) (by omega) (by omega) (H' := fun b => [.sl (some ⟨b, 0, none⟩) 0 (nb + 1) 5 1 (([]).map b8)]) (fun _ => by simp)) rfl trivial rfl ?_
  intro b1
  refine wl_y (y_assign rfl) ?_
  refine wl_nil ?_
  refine aq_seq ?_
  refine wc_seq ?_
  refine wc_seq ?_
  refine wc_region ?_
  refine wl_y (y_assign rfl) ?_
  refine wl_nil ?_
  refine aq_seq ?_
  refine wc_block ?_
  refine wc_loop (γ := Nat × Option Addr × Nat) (fun ⟨i, ad, dp⟩ => [(0, .slice ab nb cb), (2, .slice none 0 0), (3, .slice ad i dp), (4, ki ((i : Int)))]) (fun ⟨i, ad, dp⟩ => Mem w [] [.sl ad i dp 5 1 ((xs.take i).map b8)]) (fun ⟨i, ad, dp⟩ => (i ≤ nb)) (fun ⟨i, ad, dp⟩ => nb - i) (⟨0, (some ⟨b1, 0, none⟩), (nb + 1)⟩) ?_ ⟨rfl, rfl, rfl, rfl, trivial⟩ (fun _ h => h) ?_
  · omega
  · rintro ⟨i, ad, dp⟩ hi
    change i ≤ nb at hi
    refine wc_seq ?_
    refine wc_seq ?_
    refine wc_region ?_
    refine wl_y (y_move rfl) ?_
    refine wl_y (y_move rfl) ?_
    refine wl_y (y_len_sl sl22 (m := nb) rfl rfl) ?_
    refine wl_y (y_bin rfl rfl lss_i64) ?_
    refine wl_nil ?_
    refine aq_seq ?_
    refine wc_if rfl (fun hc1 => ?_) (fun hc1 => ?_)
    · have hb1 : (i : Int) < (nb : Int) := by simpa using hc1
      refine wc_skip ?_
      refine aq_seq ?_
      refine wc_seq ?_
      refine wc_block ?_
      refine wc_region ?_
      refine wl_y (y_move rfl) ?_
      refine wl_y (y_move rfl) ?_
      refine wl_y (y_move rfl) ?_
      refine wl_y (y_indexAddr_sl sl22 sz5 rfl rfl (by omega) (by omega) (fun w m => rd_isSome (m.rd0 hb) (by omega) (by decide)) i (by omega)) ?_
      refine wl_y (y_load sc5 rfl (c_of (fun w m => m.rd0 hb) (map_get (gd 0 (by first | omega | (simp; omega)))))) ?_
      refine wl_eff (e_buildSlice (len := 1) [b8 (xs.getD i 0)] sl22 el5 rfl rfl rfl (by simp [Value.cells]) (by decide) [b8 (xs.getD i 0)] rfl) rfl trivial rfl ?_
      intro b2
      refine wl_eff (e_appendm (f := b8) (xs := (xs.take i)) (news := ([xs.getD i 0] : List UInt8)) sl22 el5 rfl rfl rfl rfl (i := 1) rfl (fun w m => (m.rd_sl (i := 0) rfl : Rd _ _ 1 1 (([xs.getD i 0] : List UInt8).map b8))) (by omega) (by omega) (i + 1) (by first | rfl | omega) (by first | rfl | simp) (fun _ => ⟨_, rfl, rfl⟩)) rfl trivial rfl ?_
      intro r3
      refine wl_y (y_assign rfl) ?_
      refine wl_nil ?_
      refine aq_blk_normal ?_
      refine aq_seq ?_
      refine wc_region ?_
      refine wl_y (y_move rfl) ?_
      refine wl_y (y_bin rfl rfl (addn_i64 (a := i) (b := 1) (by omega))) ?_
      refine wl_y (y_assign rfl) ?_
      refine wl_nil ?_
      rw [take_snoc (by omega)]
      refine aq_loop (⟨i + 1, r3.1, r3.2⟩) ?_ ?_ ⟨rfl, rfl, rfl, rfl, trivial⟩ (fun _ h => (Mem.pick h (is := [1]) ⟨_, _, rfl, rfl, rfl⟩ (by decide)))
      · omega
      · first | omega | (dsimp only; omega)
    · have hb1 : ¬ ((i : Int) < (nb : Int)) := by simpa using hc1
      have hie : i = nb := by omega
      have hxt : xs.take nb = xs := List.take_of_length_le (by omega)
      subst hie
      refine wc_mem (M' := Mem w [] [.sl ad i dp 5 1 (xs.map b8)]) (fun w_ h_ => by have h2 : Mem w [] [.sl ad i dp 5 1 ((xs.take i).map b8)] w_ := h_; rw [hxt] at h2; exact h2) ?_
      refine wc_exit ?_
      refine aq_thru_exit ?_
      refine aq_thru_exit ?_
      refine aq_blk_exit ?_
      refine aq_seq ?_
      refine wc_seq ?_
      refine wc_region ?_
      refine wl_y (y_move rfl) ?_
      refine wl_eff (e_buildSlice (len := 1) [b8 (77)] sl22 el5 rfl rfl rfl (by simp [Value.cells]) (by decide) [b8 (77)] rfl) rfl trivial rfl ?_
      intro b4
      refine wl_eff (e_appendm (f := b8) (xs := xs) (news := ([77] : List UInt8)) sl22 el5 rfl rfl rfl rfl (i := 1) rfl (fun w m => (m.rd_sl (i := 0) rfl : Rd _ _ 1 1 (([77] : List UInt8).map b8))) (by omega) (by omega) (i + 1) (by first | rfl | omega) (by first | rfl | simp) (fun _ => ⟨_, rfl, rfl⟩)) rfl trivial rfl ?_
      intro r5
      refine wl_y (y_move rfl) ?_
      refine wl_y (y_len_sl sl22 (m := i) rfl rfl) ?_
      refine wl_use (p := i + 1 ≤ r5.2) (fun w m => m.sl_le (i := 1) rfl) (fun hcp => ?_)
      refine wl_y (y_slice_sl0 sl22 sz5 rfl i ⟨_, _, rfl, by first | rfl | omega⟩ rfl (by omega)) ?_
      refine wl_y (y_assign rfl) ?_
      refine wl_nil ?_
      refine aq_seq ?_
      refine wc_ret ?_
      refine aq_return (.inl rfl) rfl (⟨_, _, rfl, rfl, rfl⟩) ?_
      intro w' m
      exact ⟨(r5.1, r5.2), rfl, (Mem.pick m (is := [1]) ⟨_, _, rfl, rfl, rfl⟩ (by decide))⟩

theorem left_ok (w : World) (at_ ab : Option Addr) (nb ct cb : Nat) (xs : List UInt8) (ht : Rd w at_ (nb + 1) 1 ((xs ++ [77]).map b8)) (hct : nb + 1 ≤ ct) (hb : Rd w ab nb 1 (xs.map b8)) (hnb : nb ≤ 140737488351232) :
    Calls Tryz.prog 10 #[.slice at_ nb ct, .slice ab nb cb] w (Ret (fun _ : Unit => kb true) (fun _ => Mem w [] [])) := by
  have hlb := hb.len
  refine calls_of Tryz.func10 rfl rfl (L := [(0, .slice at_ nb ct), (1, .slice ab nb cb)]) ⟨rfl, rfl, trivial⟩ (m := 45) (Nat.le_of_ble_eq_true rfl) (M := Mem w [] []) (Mem.refl w) ?_
  refine wc_seq ?_
  refine wc_region ?_
  refine wl_y (y_assign rfl) ?_
  refine wl_nil ?_
  refine aq_seq ?_
  refine wc_seq ?_
  refine wc_seq ?_
  refine wc_region ?_
  refine wl_y (y_move rfl) ?_
  refine wl_y (y_len_sl sl22 (m := nb) rfl rfl) ?_
  refine wl_y (y_move rfl) ?_
  refine wl_y (y_len_sl sl22 (m := nb) rfl rfl) ?_
  refine wl_y (y_bin rfl rfl neq_i64) ?_
  refine wl_re (t := 11) (v' := kb (false)) rfl (congrArg kb (bne_self_eq_false _)) ?_
  refine wl_y (y_move rfl) ?_
  refine wl_y (y_move rfl) ?_ (hg := ⟨_, rfl, rfl⟩)
  refine wl_y (y_cap_sl sl22 (cap := ct) rfl rfl) ?_ (hg := ⟨_, rfl, rfl⟩)
  refine wl_y (y_move rfl) ?_ (hg := ⟨_, rfl, rfl⟩)
  refine wl_y (y_len_sl sl22 (m := nb) rfl rfl) ?_ (hg := ⟨_, rfl, rfl⟩)
  refine wl_y (y_bin rfl rfl leq_i64) ?_ (hg := ⟨_, rfl, rfl⟩)
  refine wl_re (t := 17) (v' := kb (false)) rfl (congrArg kb (decide_eq_false (by omega))) ?_
  refine wl_y (y_pick (b := false) rfl rfl) ?_
  refine wl_nil ?_
  refine aq_seq ?_
  refine wc_else rfl ?_
  refine wc_skip ?_
  refine aq_seq ?_
  refine wc_seq ?_
  refine wc_seq ?_
  refine wc_region ?_
  refine wl_y (y_assign rfl) ?_
  refine wl_nil ?_
  refine aq_seq ?_
  refine wc_block ?_
  refine wc_loop (γ := Nat) (fun i => [(0, .slice at_ nb ct), (1, .slice ab nb cb), (5, ki ((i : Int)))]) (fun i => Mem w [] []) (fun i => (i ≤ nb)) (fun i => nb - i) (0) ?_ ⟨rfl, rfl, rfl, trivial⟩ (fun _ h => h) ?_
  · omega
  · rintro i hi
    refine wc_seq ?_
    refine wc_seq ?_
    refine wc_region ?_
    refine wl_y (y_move rfl) ?_
    refine wl_y (y_move rfl) ?_
    refine wl_y (y_len_sl sl22 (m := nb) rfl rfl) ?_
    refine wl_y (y_bin rfl rfl lss_i64) ?_
    refine wl_nil ?_
    refine aq_seq ?_
    refine wc_if rfl (fun hc1 => ?_) (fun hc1 => ?_)
    · have hb1 : (i : Int) < (nb : Int) := by simpa using hc1
      refine wc_skip ?_
      refine aq_seq ?_
      refine wc_seq ?_
      refine wc_block ?_
      refine wc_seq ?_
      refine wc_drawM [(0, .q), (1, .q), (2, .q), (3, .q), (4, .q), (5, .q), (6, .q), (7, .q), (8, .q)] (by kernel_rfl) (by kernel_rfl) Mem.closed ?_
      refine wp_q rfl Mem.closed (fun _ h => h) Mem.closed rfl (q_of_yld (y_move rfl)) trivial ?_
      refine wp_q rfl Mem.closed (fun _ h => h) Mem.closed rfl (q_of_yld (y_move rfl)) trivial ?_
      refine wp_q rfl Mem.closed (fun _ h => h) Mem.closed rfl (q_of_yld (y_indexAddr_sl sl22 sz5 rfl rfl (by omega) (by omega) (fun w m => rd_isSome ((m.rd0 ht).pre1 (k := nb) (by omega)) (by omega) (by decide)) i (by omega))) trivial ?_
      refine wp_q rfl Mem.closed (fun _ h => h) Mem.closed rfl (q_of_yld (y_load sc5 rfl (c_of (fun w m => (m.rd0 ht).pre1 (k := nb) (by omega)) (map_get (gd 0 (by first | omega | (simp; omega))))))) trivial ?_
      refine wp_q rfl Mem.closed (fun _ h => h) Mem.closed rfl (q_of_yld (y_move rfl)) trivial ?_
      refine wp_q rfl Mem.closed (fun _ h => h) Mem.closed rfl (q_of_yld (y_move rfl)) trivial ?_
      refine wp_q rfl Mem.closed (fun _ h => h) Mem.closed rfl (q_of_yld (y_indexAddr_sl sl22 sz5 rfl rfl (by omega) (by omega) (fun w m => rd_isSome (m.rd0 hb) (by omega) (by decide)) i (by omega))) trivial ?_
      refine wp_q rfl Mem.closed (fun _ h => h) Mem.closed rfl (q_of_yld (y_load sc5 rfl (c_of (fun w m => m.rd0 hb) (map_get (gd 0 (by first | omega | (simp; omega))))))) trivial ?_
      refine wp_q rfl Mem.closed (fun _ h => h) Mem.closed rfl (q_of_yld (y_bin rfl rfl (neq_u8 (((xs ++ [77]).take nb).getD i 0) (xs.getD i 0)))) trivial ?_
      refine wp_re (t := 33) (v' := kb (false)) rfl (congrArg kb (by rw [twin_get hlb (by omega)]; exact bne_self_eq_false _)) ?_
      refine wp_nil ?_
      refine aq_seq ?_
      refine wc_else rfl ?_
      refine wc_skip ?_
      refine aq_blk_normal ?_
      refine aq_seq ?_
      refine wc_region ?_
      refine wl_y (y_move rfl) ?_
      refine wl_y (y_bin rfl rfl (addn_i64 (a := i) (b := 1) (by omega))) ?_
      refine wl_y (y_assign rfl) ?_
      refine wl_nil ?_
      refine aq_loop (i + 1) ?_ ?_ ⟨rfl, rfl, rfl, trivial⟩ (fun _ h => h)
      · omega
      · first | omega | (dsimp only; omega)
    · have hb1 : ¬ ((i : Int) < (nb : Int)) := by simpa using hc1
      have hie : i = nb := by omega
      refine wc_exit ?_
      refine aq_thru_exit ?_
      refine aq_thru_exit ?_
      refine aq_blk_exit ?_
      refine aq_seq ?_
      refine wc_seq ?_
      refine wc_region ?_
      refine wl_y (y_move rfl) ?_
      refine wl_y (y_move rfl) ?_
      refine wl_y (y_len_sl sl22 (m := nb) rfl rfl) ?_
      refine wl_y (y_bin rfl rfl (addn_i64 (a := nb) (b := 1) (by omega))) ?_
      refine wl_y (y_slice_sl0 sl22 sz5 rfl (nb + 1) ⟨_, _, rfl, by first | rfl | omega⟩ rfl (by omega)) ?_
      refine wl_y (y_move rfl) ?_
      refine wl_y (y_len_sl sl22 (m := nb) rfl rfl) ?_
      refine wl_y (y_indexAddr_sl sl22 sz5 rfl rfl (by omega) (by omega) (fun w m => rd_isSome ((m.rd0 ht).pre1 (k := (nb + 1)) (by omega)) (by omega) (by decide)) nb (by omega)) ?_
      refine wl_y (y_load sc5 rfl (c_of (fun w m => (m.rd0 ht).pre1 (k := (nb + 1)) (by omega)) (map_get (gd 0 (by first | omega | (simp; omega)))))) ?_
      refine wl_re (t := 42) (v' := b8 (77)) rfl (congrArg b8 (twin_last hlb)) ?_
      refine wl_y (y_assign rfl) ?_
      refine wl_nil ?_
      refine aq_seq ?_
      refine wc_seq ?_
      refine wc_region ?_
      refine wl_y (y_move rfl) ?_
      refine wl_y (y_bin rfl rfl (show bin .eql (b8 77) (b8 77) = some (kb true) from rfl)) ?_
      refine wl_re (t := 44) (v' := kb (true)) rfl (rfl) ?_
      refine wl_y (y_assign rfl) ?_
      refine wl_nil ?_
      refine aq_seq ?_
      refine wc_ret ?_
      refine aq_return (.inl rfl) rfl (⟨_, _, rfl, rfl, rfl⟩) ?_
      intro w' m
      exact ⟨(), rfl, m.pick (is := []) rfl (by decide)⟩

end Go.Proofs.YtjibkjoaamchoaaGreatDoor
