/- Lemmas and contracts for the proof of this seat's statements (HkdfF). No condition. -/
import Derived.Test.YtjibkjoaamchoaaGreatDoorEBk
import Derived.Test.YtjibkjoaamchoaaGreatDoorProg
import Derived.KernelRfl
import Derived.Test.YtjibkjoaamchoaaGreatDoorEPlaA
import Derived.Test.YtjibkjoaamchoaaGreatDoorECatF
import Derived.Test.YtjibkjoaamchoaaGreatDoorERef2F
set_option linter.all false
namespace Go.Proofs.YtjibkjoaamchoaaGreatDoor
open Go.Mc
private theorem zn53 : znB Tryz.prog 53 (.agg (arr b8 (List.replicate 64 0))) := by unfold znB; kernel_rfl
private theorem sl22 : slB Tryz.prog 22 5 = true := by kernel_rfl
private theorem cf56 : cfB Tryz.prog 56 = true := by kernel_rfl
private theorem zn56 : znB Tryz.prog 56 (.agg (arr b8 (List.replicate 32 0))) := by unfold znB; kernel_rfl
private theorem sz56 : szB Tryz.prog 56 32 = true := by kernel_rfl
private theorem ar56 : arB Tryz.prog 56 32 5 = true := by kernel_rfl
private theorem sz5 : szB Tryz.prog 5 1 = true := by kernel_rfl
private theorem ar53 : arB Tryz.prog 53 64 5 = true := by kernel_rfl
private theorem ag53 : agB Tryz.prog 53 64 = true := by kernel_rfl
private theorem sz53 : szB Tryz.prog 53 64 = true := by kernel_rfl
private theorem sc5 : scB Tryz.prog 5 = true := by kernel_rfl
private theorem sl50 : slB Tryz.prog 50 22 = true := by kernel_rfl
private theorem el22 : elB Tryz.prog 22 1 24 (.slice none 0 0) := elB_of (by kernel_rfl) (by kernel_rfl) (by unfold znB; kernel_rfl)
private theorem cf55 : cfB Tryz.prog 55 = true := by kernel_rfl
private theorem ag56 : agB Tryz.prog 56 32 = true := by kernel_rfl
attribute [local irreducible] shaF

theorem hof_ok (w : World) (ab : Option Addr) (nb cb : Nat) (lb : List UInt8) (hb : Rd w ab nb 1 (lb.map b8)) (hc : nb ≤ cb) (hnb : nb ≤ 1048576) :
    Calls Tryz.prog 15 #[.slice ab nb cb] w (Ret (fun _ : Unit => .agg (arr b8 (keyF lb nb))) (fun _ => Mem w [] [])) := by
  have hlb := hb.len
  have hkl := keyF_len hlb
  refine calls_of Tryz.func15 rfl rfl (L := [(0, .slice ab nb cb)]) ⟨rfl, trivial⟩ (m := 18) (Nat.le_of_ble_eq_true rfl) (M := Mem w [] []) (Mem.refl w) ?_
  refine wc_seq ?_
  refine wc_region ?_
  refine wl_eff (e_alloc (cs := arr b8 (List.replicate 64 0)) zn53) rfl trivial rfl ?_
  intro b1
  refine wl_nil ?_
  refine aq_seq ?_
  refine wc_seq ?_
  refine wc_seq ?_
  refine wc_region ?_
  refine wl_y (y_move rfl) ?_
  refine wl_y (y_len_sl sl22 (m := nb) rfl rfl) ?_
  refine wl_y (y_bin rfl rfl gtr_i64) ?_
  refine wl_nil ?_
  refine aq_seq ?_
  refine wc_if rfl (fun hc1 => ?_) (fun hc1 => ?_)
  · have hb1 : (nb : Int) > 64 := by simpa using hc1
    have hke : keyF lb nb = _ := if_pos (show 64 < nb by omega)
    refine wc_seq ?_
    refine wc_region ?_
    refine wl_y (y_move rfl) ?_
    refine wl_eff (e_call0 cf56 rfl (fun w m => sum_ok w ab nb cb lb (m.rd0 hb) (by omega))) rfl trivial rfl ?_
    intro _
    rw [sumO_0 lb (nb := nb) (by omega), sumE_0 (nb := nb) (by omega)]
    refine wl_y (y_move rfl) ?_
    refine wl_y (y_extract rfl rfl) ?_
    refine wl_y (y_extract rfl rfl) ?_
    refine wl_eff (e_alloc (cs := arr b8 (List.replicate 32 0)) zn56) rfl trivial rfl ?_
    intro b2
    refine wl_eff (e_storeall sz56 rfl rfl (i := 0) rfl (by first | (simp; done) | (simp [*]; done) | (simp; omega) | rfl) (by first | (simp; done) | (simp [*]; done) | (simp; omega) | rfl) (arr_one _) rfl) rfl trivial rfl ?_
    intro _
    refine wl_y (y_assign rfl) ?_
    refine wl_nil ?_
    refine aq_seq ?_
    refine wc_region ?_
    refine wl_y (y_slice_ar0 ar56 sz5 rfl 32 rfl rfl (by omega)) ?_
    refine wl_y (y_assign rfl) ?_
    refine wl_nil ?_
    refine aq_seq ?_
    refine wc_seq ?_
    refine wc_region ?_
    refine wl_y (y_slice_ar0 ar53 sz5 rfl 64 rfl rfl (by omega)) ?_
    refine wl_y (y_move rfl) ?_
    refine wl_eff (e_copy_blk (f := b8) (l := (List.replicate 64 0)) (news := (shaF lb nb)) sl22 sz5 rfl rfl rfl (i := 1) rfl (by first | omega | (simp; done) | (simp [*]; done) | (simp; omega)) (fun w m => (Mem.rd_arrn (f := b8) (xs := (shaF lb nb)) m (i := 0) rfl (n := 32) (by first | omega | (simp; done) | (simp [*]; done) | (simp; omega)))) ⟨_, rfl, rfl⟩) rfl trivial rfl ?_
    intro _
    refine wl_nil ?_
    refine aq_seq ?_
    refine wc_seq ?_
    refine wc_region ?_
    refine wl_y (y_loadall ag53 rfl (i := 1) rfl (by first | (simp; done) | (simp [*]; done) | (simp; omega) | rfl)) ?_
    refine wl_eff (e_storeall sz53 rfl rfl (i := 1) rfl (by first | (simp; done) | (simp [*]; done) | (simp; omega) | rfl) (by first | (simp; done) | (simp [*]; done) | (simp; omega) | rfl) (arr_one _) ⟨_, rfl, rfl⟩) rfl trivial rfl ?_
    intro _
    refine wl_nil ?_
    refine aq_seq ?_
    refine wc_ret ?_
    refine aq_return (.inl rfl) rfl (⟨_, _, _, rfl, fun w m => run_loadVar_all ag53 (m.blk (i := 1) rfl) (by first | (simp; done) | (simp [*]; done) | (simp; omega) | rfl), rfl, rfl⟩) ?_
    intro w' m
    rw [hke]
    exact ⟨(), rfl, m.pick (is := []) rfl (by decide)⟩
  · have hb1 : ¬ ((nb : Int) > 64) := by simpa using hc1
    have hke : keyF lb nb = _ := if_neg (show ¬ 64 < nb by omega)
    refine wc_skip ?_
    refine aq_seq ?_
    refine wc_seq ?_
    refine wc_region ?_
    refine wl_y (y_slice_ar0 ar53 sz5 rfl 64 rfl rfl (by omega)) ?_
    refine wl_y (y_move rfl) ?_
    refine wl_eff (e_copy_blk (f := b8) (l := (List.replicate 64 0)) (news := lb) sl22 sz5 rfl rfl rfl (i := 0) rfl (by first | omega | (simp; done) | (simp [*]; done) | (simp; omega)) (fun w m => m.rd0 hb) rfl) rfl trivial rfl ?_
    intro _
    refine wl_nil ?_
    refine aq_seq ?_
    refine wc_seq ?_
    refine wc_region ?_
    refine wl_y (y_loadall ag53 rfl (i := 0) rfl (by first | (simp; done) | (simp [*]; done) | (simp; omega) | rfl)) ?_
    refine wl_eff (e_storeall sz53 rfl rfl (i := 0) rfl (by first | (simp; done) | (simp [*]; done) | (simp; omega) | rfl) (by first | (simp; done) | (simp [*]; done) | (simp; omega) | rfl) (arr_one _) rfl) rfl trivial rfl ?_
    intro _
    refine wl_nil ?_
    refine aq_seq ?_
    refine wc_ret ?_
    refine aq_return (.inl rfl) rfl (⟨_, _, _, rfl, fun w m => run_loadVar_all ag53 (m.blk (i := 0) rfl) (by first | (simp; done) | (simp [*]; done) | (simp; omega) | rfl), rfl, rfl⟩) ?_
    intro w' m
    rw [hke]
    exact ⟨(), rfl, m.pick (is := []) rfl (by decide)⟩

attribute [local irreducible] keyF ipF opF

set_option maxHeartbeats 1000000 in
theorem mac_ok (w : World) (key : List UInt8) (al : Option Addr) (nl cl : Nat) (pcs : List Pc) (hk : key.length = 64) (hl : Rd w al nl 1 (pcs.map pv)) (hps : ∀ p ∈ pcs, Rd w p.1 p.2.1 1 (p.2.2.2.map b8)) (hnl : nl ≤ 900) (hsz : sumN pcs nl ≤ 1048512) :
    Calls Tryz.prog 58 #[.agg (arr b8 key), .slice al nl cl] w (Ret (fun _ : Unit => .agg (arr b8 (macF key (flatN pcs nl) (sumN pcs nl)))) (fun _ => Mem w [] [])) := by
  have hll := hl.len
  refine calls_of Tryz.func58 rfl rfl (L := [(0, .agg (arr b8 key)), (1, .slice al nl cl)]) ⟨rfl, rfl, trivial⟩ (m := 44) (Nat.le_of_ble_eq_true rfl) (M := Mem w [] []) (Mem.refl w) ?_
  refine wc_seq ?_
  refine wc_region ?_
  refine wl_eff (e_box (cs := arr b8 key) rfl) rfl trivial rfl ?_
  intro b1
  refine wl_eff (e_alloc (cs := arr b8 (List.replicate 32 0)) zn56) rfl trivial rfl ?_
  intro b2
  refine wl_nil ?_
  refine aq_seq ?_
  refine wc_seq ?_
  refine wc_drawT (.st 0 .q (.st 1 .q (.f2 2 3 (.st 3 .e (.st 4 .e (.st 5 .l .nil))) (.st 2 .e (.st 4 .e (.st 5 .l .nil)))))) (by kernel_rfl) (by kernel_rfl) Mem.closed ?_
  refine wt_q rfl Mem.closed (fun _ h => h) Mem.closed rfl (q_of_yld (y_loadall ag53 rfl (i := 1) rfl (by first | (simp; done) | (simp [*]; done) | (simp; omega)))) trivial ?_
  refine wt_q rfl Mem.closed (fun _ h => h) Mem.closed rfl (q_of_yld (y_loadall ag53 rfl (i := 1) rfl (by first | (simp; done) | (simp [*]; done) | (simp; omega)))) trivial ?_
  refine wt_f2 rfl rfl rfl (e_alloc (cs := arr b8 (List.replicate 64 0)) zn53) trivial (fun _ _ h => (Mem.pick h (is := [1, 2]) ⟨_, _, rfl, rfl, ⟨_, _, rfl, rfl, rfl⟩⟩ (by decide))) (fun _ => Mem.closed) rfl rfl rfl (e_alloc (cs := arr b8 (List.replicate 64 0)) zn53) trivial (fun _ _ h => (Mem.pick h (is := [1, 2]) ⟨_, _, rfl, rfl, ⟨_, _, rfl, rfl, rfl⟩⟩ (by decide))) (fun _ => Mem.closed) Mem.closed ?_ ?_
  · intro b3
    refine wt_e (fun _ => _) rfl rfl rfl (e_alloc (cs := arr b8 (List.replicate 64 0)) zn53) trivial (fun _ => Mem.closed) (fun _ _ h => h) (fun _ _ h => (Mem.pick h (is := [2, 3]) ⟨_, _, rfl, rfl, ⟨_, _, rfl, rfl, rfl⟩⟩ (by decide))) (fun _ => Mem.closed) ?_
    intro b5
    refine wt_e (fun _ => _) rfl rfl rfl (e_storeall sz53 rfl rfl (i := 1) rfl (by first | (simp; done) | (simp [*]; done) | (simp; omega)) (by first | (simp; done) | (simp [*]; done) | (simp; omega)) (arr_one _) ⟨_, rfl, rfl⟩) trivial (fun _ => Mem.closed) (fun _ _ h => h) (fun _ _ h => (Mem.pick h (is := [2, 3]) ⟨_, _, rfl, rfl, ⟨_, _, rfl, rfl, rfl⟩⟩ (by decide))) (fun _ => Mem.closed) ?_
    intro _
    refine wt_l rfl rfl rfl (e_storeall sz53 rfl rfl (i := 0) rfl (by first | (simp; done) | (simp [*]; done) | (simp; omega)) (by first | (simp; done) | (simp [*]; done) | (simp; omega)) (arr_one _) rfl) trivial ?_
    intro _
    refine aq_seq ?_
    refine wc_seq ?_
    refine wc_seq ?_
    refine wc_region ?_
    refine wl_y (y_move rfl) ?_
    refine wl_nil ?_
    refine aq_seq ?_
    refine wc_block ?_
    refine wc_loop (γ := Nat) (fun i => [(1, .slice al nl cl), (4, .pointer (some ⟨b2, 0, none⟩)), (5, .pointer (some ⟨b3, 0, none⟩)), (6, .pointer (some ⟨b5, 0, none⟩)), (12, ki ((i : Int)))]) (fun i => Mem w [] [.blk b5 (.cells (arr b8 (xorK key 92 i)) 53 (0, 0)), .blk b3 (.cells (arr b8 (xorK key 54 i)) 53 (0, 0)), .blk b2 (.cells (arr b8 (List.replicate 32 0)) 56 (0, 0)), .blk b1 (.cells (arr b8 key) 53 (0, 0))]) (fun i => (i ≤ 64)) (fun i => 64 - i) (0) ?_ ⟨rfl, rfl, rfl, rfl, rfl, trivial⟩ (fun _ h => h) ?_
    · omega
    · rintro i hi
      refine wc_seq ?_
      refine wc_region ?_
      refine wl_y (y_bin rfl rfl lss_i64) ?_
      refine wl_nil ?_
      refine aq_seq ?_
      refine wc_seq ?_
      refine wc_if rfl (fun hc1 => ?_) (fun hc1 => ?_)
      · have hb1 : (i : Int) < 64 := by simpa using hc1
        refine wc_skip ?_
        refine aq_seq ?_
        refine wc_seq ?_
        refine wc_block ?_
        refine wc_seq ?_
        refine wc_region ?_
        refine wl_y (y_move rfl) ?_
        refine wl_y (y_assign rfl) ?_
        refine wl_nil ?_
        refine aq_seq ?_
        refine wc_seq ?_
        refine wc_region ?_
        refine wl_y (y_move rfl) ?_
        refine wl_y (y_indexAddr_ar ar53 sz5 rfl rfl (by omega) (by omega) i (by omega)) ?_
        refine wl_y (y_load sc5 rfl (c_blk (i := 1) rfl (arr_get (gd 0 (by first | omega | (simp [hk]; done) | (simp [hk]; omega) | (simp; omega)))))) ?_
        refine wl_y (y_bin rfl rfl (xor_u8 ((xorK key 54 i).getD i 0) 54)) ?_
        refine wl_y (y_indexAddr_ar ar53 sz5 rfl rfl (by omega) (by omega) i (by omega)) ?_
        refine wl_eff (e_store_arr (f := b8) sz5 rfl (x' := (((xorK key 54 i).getD i 0) ^^^ 54)) rfl (i := 1) rfl (by first | omega | (simp [hk]; done) | (simp [hk]; omega) | (simp; omega)) ⟨_, rfl, rfl⟩) rfl trivial rfl ?_
        intro _
        refine wl_nil ?_
        refine aq_seq ?_
        refine wc_region ?_
        refine wl_y (y_move rfl) ?_
        refine wl_y (y_indexAddr_ar ar53 sz5 rfl rfl (by omega) (by omega) i (by omega)) ?_
        refine wl_y (y_load sc5 rfl (c_blk (i := 0) rfl (arr_get (gd 0 (by first | omega | (simp [hk]; done) | (simp [hk]; omega) | (simp; omega)))))) ?_
        refine wl_y (y_bin rfl rfl (xor_u8 ((xorK key 92 i).getD i 0) 92)) ?_
        refine wl_y (y_indexAddr_ar ar53 sz5 rfl rfl (by omega) (by omega) i (by omega)) ?_
        refine wl_eff (e_store_arr (f := b8) sz5 rfl (x' := (((xorK key 92 i).getD i 0) ^^^ 92)) rfl (i := 0) rfl (by first | omega | (simp [hk]; done) | (simp [hk]; omega) | (simp; omega)) rfl) rfl trivial rfl ?_
        intro _
        refine wl_nil ?_
        refine aq_blk_normal ?_
        refine aq_seq ?_
        refine wc_region ?_
        refine wl_y (y_bin rfl rfl (addn_i64 (a := i) (b := 1) (by omega))) ?_
        refine wl_y (y_move rfl) ?_
        refine wl_nil ?_
        refine aq_loop (i + 1) ?_ ?_ ⟨rfl, rfl, rfl, rfl, rfl, trivial⟩ (fun _ h => h)
        · omega
        · first | omega | (dsimp only; omega)
      · have hb1 : ¬ ((i : Int) < 64) := by simpa using hc1
        have hie : i = 64 := by omega
        subst hie
        refine wc_mem (M' := Mem w [] [.blk b5 (.cells (arr b8 (xorK key 92 64)) 53 (0, 0)), .blk b3 (.cells (arr b8 (ipF key)) 53 (0, 0)), .blk b2 (.cells (arr b8 (List.replicate 32 0)) 56 (0, 0)), .blk b1 (.cells (arr b8 key) 53 (0, 0))]) (fun w_ h_ => by have h2 : Mem w [] [.blk b5 (.cells (arr b8 (xorK key 92 64)) 53 (0, 0)), .blk b3 (.cells (arr b8 (xorK key 54 64)) 53 (0, 0)), .blk b2 (.cells (arr b8 (List.replicate 32 0)) 56 (0, 0)), .blk b1 (.cells (arr b8 key) 53 (0, 0))] w_ := h_; rw [ip_eq] at h2; exact h2) ?_
        refine wc_mem (M' := Mem w [] [.blk b5 (.cells (arr b8 (opF key)) 53 (0, 0)), .blk b3 (.cells (arr b8 (ipF key)) 53 (0, 0)), .blk b2 (.cells (arr b8 (List.replicate 32 0)) 56 (0, 0)), .blk b1 (.cells (arr b8 key) 53 (0, 0))]) (fun w_ h_ => by have h2 : Mem w [] [.blk b5 (.cells (arr b8 (xorK key 92 64)) 53 (0, 0)), .blk b3 (.cells (arr b8 (ipF key)) 53 (0, 0)), .blk b2 (.cells (arr b8 (List.replicate 32 0)) 56 (0, 0)), .blk b1 (.cells (arr b8 key) 53 (0, 0))] w_ := h_; rw [op_eq] at h2; exact h2) ?_
        have hil := ip_len key
        have hol := op_len key
        refine wc_exit ?_
        refine aq_thru_exit ?_
        refine aq_thru_exit ?_
        refine aq_blk_exit ?_
        refine aq_seq ?_
        refine wc_seq ?_
        refine wc_region ?_
        refine wl_y (y_slice_ar0 ar53 sz5 rfl 64 rfl rfl (by omega)) ?_
        refine wl_eff (e_buildSlice (len := 1) [.slice (some ⟨b3, 0, none⟩) 64 64] sl50 el22 rfl rfl rfl (by simp [Value.cells]) (by decide) [.slice (some ⟨b3, 0, none⟩) 64 64] rfl) rfl trivial rfl ?_
        intro b6
        refine wl_y (y_move rfl) ?_
        refine wl_eff (e_appendm (f := pv) (xs := ([((some ⟨b3, 0, none⟩), 64, 64, (ipF key))] : List Pc)) (news := pcs) sl50 el22 rfl rfl rfl rfl (i := 0) rfl (fun w m => m.rd0 hl) (by omega) (by omega) (1 + nl) (by first | rfl | omega) (by first | rfl | simp) (fun _ => rfl)) rfl trivial rfl ?_
        intro r7
        refine wl_eff (e_call0 cf55 rfl (fun w m => concat_ok w r7.1 (1 + nl) r7.2 (([((some ⟨b3, 0, none⟩), 64, 64, (ipF key))] : List Pc) ++ pcs) ((m.rd_sl (i := 0) rfl : Rd _ _ (1 + nl) 1 ((([((some ⟨b3, 0, none⟩), 64, 64, (ipF key))] : List Pc) ++ pcs).map pv))) (List.forall_mem_cons.2 ⟨(Mem.rd_arrn (f := b8) (xs := (ipF key)) m (i := 2) rfl (n := 64) (by first | omega | (simp [hk]; done) | (simp [hk]; omega) | (simp; omega))), (fun p h => m.rd0 (hps p h))⟩) (by omega) (by rw [sum_cons]; show 64 + _ ≤ _; omega))) rfl trivial rfl ?_
        intro r8
        rw [sum_cons, flat_cons]
        refine wl_eff (e_call0 cf56 rfl (fun w m => sum_ok w r8.1 (64 + sumN pcs nl) r8.2 ((ipF key) ++ flatN pcs nl) ((m.rd_sl (i := 0) rfl : Rd _ _ (64 + sumN pcs nl) 1 (((ipF key) ++ flatN pcs nl).map b8))) (m.sl_le (i := 0) rfl))) rfl trivial rfl ?_
        intro _
        rw [sumO_0 ((ipF key) ++ flatN pcs nl) (nb := (64 + sumN pcs nl)) (by omega), sumE_0 (nb := (64 + sumN pcs nl)) (by omega)]
        refine wl_y (y_move rfl) ?_
        refine wl_y (y_extract rfl rfl) ?_
        refine wl_y (y_extract rfl rfl) ?_
        refine wl_eff (e_alloc (cs := arr b8 (List.replicate 32 0)) zn56) rfl trivial rfl ?_
        intro b9
        refine wl_eff (e_storeall sz56 rfl rfl (i := 0) rfl (by first | (simp; done) | (simp [*]; done) | (simp; omega)) (by first | (simp; done) | (simp [*]; done) | (simp; omega)) (arr_one _) rfl) rfl trivial rfl ?_
        intro _
        refine wl_y (y_assign rfl) ?_
        refine wl_nil ?_
        refine aq_seq ?_
        refine wc_seq ?_
        refine wc_drawTC (.st 0 .q (.st 1 .q (.st 2 .e (.st 3 .e (.st 4 .e (.st 5 .q (.st 6 .q (.st 7 .q (.st 8 .e .nil))))))))) (Mem w [] [.sl r8.1 (64 + sumN pcs nl) r8.2 5 1 (((ipF key) ++ flatN pcs nl).map b8), .sl r7.1 (1 + nl) r7.2 22 1 ((([((some ⟨b3, 0, none⟩), 64, 64, (ipF key))] : List Pc) ++ pcs).map pv), .blk b5 (.cells (arr b8 (opF key)) 53 (0, 0)), .blk b3 (.cells (arr b8 (ipF key)) 53 (0, 0)), .blk b2 (.cells (arr b8 (List.replicate 32 0)) 56 (0, 0)), .blk b1 (.cells (arr b8 key) 53 (0, 0))]) (by kernel_rfl) (by kernel_rfl) Mem.closed ?_
        refine wt_q rfl Mem.closed (fun _ h => (Mem.pick h (is := [1, 2, 3, 4, 5, 6]) ⟨_, _, rfl, rfl, ⟨_, _, rfl, rfl, ⟨_, _, rfl, rfl, ⟨_, _, rfl, rfl, ⟨_, _, rfl, rfl, ⟨_, _, rfl, rfl, rfl⟩⟩⟩⟩⟩⟩ (by decide))) Mem.closed rfl (q_of_yld (y_slice_ar0 ar53 sz5 rfl 64 rfl rfl (by omega))) trivial ?_
        refine wt_q rfl Mem.closed (fun _ h => (Mem.pick h (is := [1, 2, 3, 4, 5, 6]) ⟨_, _, rfl, rfl, ⟨_, _, rfl, rfl, ⟨_, _, rfl, rfl, ⟨_, _, rfl, rfl, ⟨_, _, rfl, rfl, ⟨_, _, rfl, rfl, rfl⟩⟩⟩⟩⟩⟩ (by decide))) Mem.closed rfl (q_of_yld (y_slice_ar0 ar56 sz5 rfl 32 rfl rfl (by omega))) trivial ?_
        refine wt_e (fun _ => _) rfl rfl rfl (e_buildSlice (len := 2) [.slice (some ⟨b5, 0, none⟩) 64 64, .slice (some ⟨b9, 0, none⟩) 32 32] sl50 el22 rfl rfl rfl (by simp [Value.cells]) (by decide) [.slice (some ⟨b5, 0, none⟩) 64 64, .slice (some ⟨b9, 0, none⟩) 32 32] rfl) trivial (fun _ => Mem.closed) (fun _ _ h => h) (fun _ _ h => (Mem.pick h (is := [2, 3, 4, 5, 6, 7]) ⟨_, _, rfl, rfl, ⟨_, _, rfl, rfl, ⟨_, _, rfl, rfl, ⟨_, _, rfl, rfl, ⟨_, _, rfl, rfl, ⟨_, _, rfl, rfl, rfl⟩⟩⟩⟩⟩⟩ (by decide))) (fun _ => Mem.closed) ?_
        intro b10
        refine wt_e (fun _ => _) rfl rfl rfl (e_call0 cf55 rfl (fun w m => concat_ok w (some ⟨b10, 0, none⟩) 2 2 ([((some ⟨b5, 0, none⟩), 64, 64, (opF key)), ((some ⟨b9, 0, none⟩), 32, 32, (shaF ((ipF key) ++ flatN pcs nl) (64 + sumN pcs nl)))] : List Pc) ((m.rd_sl (i := 0) rfl : Rd _ _ 2 1 (([((some ⟨b5, 0, none⟩), 64, 64, (opF key)), ((some ⟨b9, 0, none⟩), 32, 32, (shaF ((ipF key) ++ flatN pcs nl) (64 + sumN pcs nl)))] : List Pc).map pv))) (List.forall_mem_cons.2 ⟨(Mem.rd_arrn (f := b8) (xs := (opF key)) m (i := 4) rfl (n := 64) (by first | omega | (simp [hk]; done) | (simp [hk]; omega) | (simp; omega))), (List.forall_mem_cons.2 ⟨(Mem.rd_arrn (f := b8) (xs := (shaF ((ipF key) ++ flatN pcs nl) (64 + sumN pcs nl))) m (i := 1) rfl (n := 32) (by first | omega | (simp [hk]; done) | (simp [hk]; omega) | (simp; omega))), (fun _ h => nomatch h)⟩)⟩) (by omega) (by show ((0 + 64) + 32) ≤ _; omega))) trivial (fun _ => Mem.closed) (fun _ _ h => h) (fun _ _ h => (Mem.pick h (is := [3, 4, 5, 6, 7, 8]) ⟨_, _, rfl, rfl, ⟨_, _, rfl, rfl, ⟨_, _, rfl, rfl, ⟨_, _, rfl, rfl, ⟨_, _, rfl, rfl, ⟨_, _, rfl, rfl, rfl⟩⟩⟩⟩⟩⟩ (by decide))) (fun _ => Mem.closed) ?_
        intro r11
        refine wt_e (fun _ => _) rfl rfl rfl (e_call0 cf56 rfl (fun w m => sum_ok w r11.1 ((0 + 64) + 32) r11.2 ((([] : List UInt8) ++ (opF key)) ++ (shaF ((ipF key) ++ flatN pcs nl) (64 + sumN pcs nl))) ((m.rd_sl (i := 0) rfl : Rd _ _ ((0 + 64) + 32) 1 (((([] : List UInt8) ++ (opF key)) ++ (shaF ((ipF key) ++ flatN pcs nl) (64 + sumN pcs nl))).map b8))) (m.sl_le (i := 0) rfl))) trivial (fun _ => Mem.closed) (fun _ _ h => h) (fun _ _ h => (Mem.pick h (is := [3, 4, 5, 6, 7, 8]) ⟨_, _, rfl, rfl, ⟨_, _, rfl, rfl, ⟨_, _, rfl, rfl, ⟨_, _, rfl, rfl, ⟨_, _, rfl, rfl, ⟨_, _, rfl, rfl, rfl⟩⟩⟩⟩⟩⟩ (by decide))) (fun _ => Mem.closed) ?_
        intro _
        rw [sumO_0 ((([] : List UInt8) ++ (opF key)) ++ (shaF ((ipF key) ++ flatN pcs nl) (64 + sumN pcs nl))) (nb := ((0 + 64) + 32)) (by omega), sumE_0 (nb := ((0 + 64) + 32)) (by omega)]
        refine wt_q rfl Mem.closed (fun _ h => (Mem.pick h (is := [3, 4, 5, 6, 7, 8]) ⟨_, _, rfl, rfl, ⟨_, _, rfl, rfl, ⟨_, _, rfl, rfl, ⟨_, _, rfl, rfl, ⟨_, _, rfl, rfl, ⟨_, _, rfl, rfl, rfl⟩⟩⟩⟩⟩⟩ (by decide))) Mem.closed rfl (q_of_yld (y_move rfl)) trivial ?_
        refine wt_q rfl Mem.closed (fun _ h => (Mem.pick h (is := [3, 4, 5, 6, 7, 8]) ⟨_, _, rfl, rfl, ⟨_, _, rfl, rfl, ⟨_, _, rfl, rfl, ⟨_, _, rfl, rfl, ⟨_, _, rfl, rfl, ⟨_, _, rfl, rfl, rfl⟩⟩⟩⟩⟩⟩ (by decide))) Mem.closed rfl (q_of_yld (y_extract rfl rfl)) trivial ?_
        refine wt_q rfl Mem.closed (fun _ h => (Mem.pick h (is := [3, 4, 5, 6, 7, 8]) ⟨_, _, rfl, rfl, ⟨_, _, rfl, rfl, ⟨_, _, rfl, rfl, ⟨_, _, rfl, rfl, ⟨_, _, rfl, rfl, ⟨_, _, rfl, rfl, rfl⟩⟩⟩⟩⟩⟩ (by decide))) Mem.closed rfl (q_of_yld (y_extract rfl rfl)) trivial ?_
        refine wt_e (fun _ => _) rfl rfl rfl (e_storeall sz56 rfl rfl (i := 2) rfl (by first | (simp; done) | (simp [*]; done) | (simp; omega)) (by first | (simp; done) | (simp [*]; done) | (simp; omega)) (arr_one _) ⟨_, rfl, ⟨_, rfl, rfl⟩⟩) trivial (fun _ => Mem.closed) (fun _ _ h => h) (fun _ _ h => (Mem.pick h (is := [3, 4, 5, 6, 7, 8]) ⟨_, _, rfl, rfl, ⟨_, _, rfl, rfl, ⟨_, _, rfl, rfl, ⟨_, _, rfl, rfl, ⟨_, _, rfl, rfl, ⟨_, _, rfl, rfl, rfl⟩⟩⟩⟩⟩⟩ (by decide))) (fun _ => Mem.closed) ?_
        intro _
        refine wt_nil ?_
        refine aq_seq ?_
        refine wc_seq ?_
        refine wc_region ?_
        refine wl_y (y_loadall ag56 rfl (i := 2) rfl (by first | (simp; done) | (simp [*]; done) | (simp; omega))) ?_
        refine wl_eff (e_storeall sz56 rfl rfl (i := 7) rfl (by first | (simp; done) | (simp [*]; done) | (simp; omega)) (by first | (simp; done) | (simp [*]; done) | (simp; omega)) (arr_one _) ⟨_, rfl, ⟨_, rfl, ⟨_, rfl, ⟨_, rfl, ⟨_, rfl, ⟨_, rfl, ⟨_, rfl, rfl⟩⟩⟩⟩⟩⟩⟩) rfl trivial rfl ?_
        intro _
        refine wl_nil ?_
        refine aq_seq ?_
        refine wc_ret ?_
        refine aq_return (.inl rfl) rfl (⟨_, _, _, rfl, fun w m => run_loadVar_all ag56 (m.blk (i := 7) rfl) (by first | (simp; done) | (simp [*]; done) | (simp; omega)), rfl, rfl⟩) ?_
        intro w' m
        exact ⟨(), rfl, m.pick (is := []) rfl (by decide)⟩
  · intro b4
    refine wt_e (fun _ => _) rfl rfl rfl (e_alloc (cs := arr b8 (List.replicate 64 0)) zn53) trivial (fun _ => Mem.closed) (fun _ _ h => h) (fun _ _ h => (Mem.pick h (is := [2, 3]) ⟨_, _, rfl, rfl, ⟨_, _, rfl, rfl, rfl⟩⟩ (by decide))) (fun _ => Mem.closed) ?_
    intro b12
    refine wt_e (fun _ => _) rfl rfl rfl (e_storeall sz53 rfl rfl (i := 0) rfl (by first | (simp; done) | (simp [*]; done) | (simp; omega)) (by first | (simp; done) | (simp [*]; done) | (simp; omega)) (arr_one _) rfl) trivial (fun _ => Mem.closed) (fun _ _ h => h) (fun _ _ h => (Mem.pick h (is := [2, 3]) ⟨_, _, rfl, rfl, ⟨_, _, rfl, rfl, rfl⟩⟩ (by decide))) (fun _ => Mem.closed) ?_
    intro _
    refine wt_l rfl rfl rfl (e_storeall sz53 rfl rfl (i := 1) rfl (by first | (simp; done) | (simp [*]; done) | (simp; omega)) (by first | (simp; done) | (simp [*]; done) | (simp; omega)) (arr_one _) ⟨_, rfl, rfl⟩) trivial ?_
    intro _
    refine aq_seq ?_
    refine wc_seq ?_
    refine wc_seq ?_
    refine wc_region ?_
    refine wl_y (y_move rfl) ?_
    refine wl_nil ?_
    refine aq_seq ?_
    refine wc_block ?_
    refine wc_loop (γ := Nat) (fun i => [(1, .slice al nl cl), (4, .pointer (some ⟨b2, 0, none⟩)), (6, .pointer (some ⟨b4, 0, none⟩)), (5, .pointer (some ⟨b12, 0, none⟩)), (12, ki ((i : Int)))]) (fun i => Mem w [] [.blk b12 (.cells (arr b8 (xorK key 54 i)) 53 (0, 0)), .blk b4 (.cells (arr b8 (xorK key 92 i)) 53 (0, 0)), .blk b2 (.cells (arr b8 (List.replicate 32 0)) 56 (0, 0)), .blk b1 (.cells (arr b8 key) 53 (0, 0))]) (fun i => (i ≤ 64)) (fun i => 64 - i) (0) ?_ ⟨rfl, rfl, rfl, rfl, rfl, trivial⟩ (fun _ h => h) ?_
    · omega
    · rintro i hi
      refine wc_seq ?_
      refine wc_region ?_
      refine wl_y (y_bin rfl rfl lss_i64) ?_
      refine wl_nil ?_
      refine aq_seq ?_
      refine wc_seq ?_
      refine wc_if rfl (fun hc1 => ?_) (fun hc1 => ?_)
      · have hb1 : (i : Int) < 64 := by simpa using hc1
        refine wc_skip ?_
        refine aq_seq ?_
        refine wc_seq ?_
        refine wc_block ?_
        refine wc_seq ?_
        refine wc_region ?_
        refine wl_y (y_move rfl) ?_
        refine wl_y (y_assign rfl) ?_
        refine wl_nil ?_
        refine aq_seq ?_
        refine wc_seq ?_
        refine wc_region ?_
        refine wl_y (y_move rfl) ?_
        refine wl_y (y_indexAddr_ar ar53 sz5 rfl rfl (by omega) (by omega) i (by omega)) ?_
        refine wl_y (y_load sc5 rfl (c_blk (i := 0) rfl (arr_get (gd 0 (by first | omega | (simp [hk]; done) | (simp [hk]; omega) | (simp; omega)))))) ?_
        refine wl_y (y_bin rfl rfl (xor_u8 ((xorK key 54 i).getD i 0) 54)) ?_
        refine wl_y (y_indexAddr_ar ar53 sz5 rfl rfl (by omega) (by omega) i (by omega)) ?_
        refine wl_eff (e_store_arr (f := b8) sz5 rfl (x' := (((xorK key 54 i).getD i 0) ^^^ 54)) rfl (i := 0) rfl (by first | omega | (simp [hk]; done) | (simp [hk]; omega) | (simp; omega)) rfl) rfl trivial rfl ?_
        intro _
        refine wl_nil ?_
        refine aq_seq ?_
        refine wc_region ?_
        refine wl_y (y_move rfl) ?_
        refine wl_y (y_indexAddr_ar ar53 sz5 rfl rfl (by omega) (by omega) i (by omega)) ?_
        refine wl_y (y_load sc5 rfl (c_blk (i := 1) rfl (arr_get (gd 0 (by first | omega | (simp [hk]; done) | (simp [hk]; omega) | (simp; omega)))))) ?_
        refine wl_y (y_bin rfl rfl (xor_u8 ((xorK key 92 i).getD i 0) 92)) ?_
        refine wl_y (y_indexAddr_ar ar53 sz5 rfl rfl (by omega) (by omega) i (by omega)) ?_
        refine wl_eff (e_store_arr (f := b8) sz5 rfl (x' := (((xorK key 92 i).getD i 0) ^^^ 92)) rfl (i := 1) rfl (by first | omega | (simp [hk]; done) | (simp [hk]; omega) | (simp; omega)) ⟨_, rfl, rfl⟩) rfl trivial rfl ?_
        intro _
        refine wl_nil ?_
        refine aq_blk_normal ?_
        refine aq_seq ?_
        refine wc_region ?_
        refine wl_y (y_bin rfl rfl (addn_i64 (a := i) (b := 1) (by omega))) ?_
        refine wl_y (y_move rfl) ?_
        refine wl_nil ?_
        refine aq_loop (i + 1) ?_ ?_ ⟨rfl, rfl, rfl, rfl, rfl, trivial⟩ (fun _ h => h)
        · omega
        · first | omega | (dsimp only; omega)
      · have hb1 : ¬ ((i : Int) < 64) := by simpa using hc1
        have hie : i = 64 := by omega
        subst hie
        refine wc_mem (M' := Mem w [] [.blk b12 (.cells (arr b8 (ipF key)) 53 (0, 0)), .blk b4 (.cells (arr b8 (xorK key 92 64)) 53 (0, 0)), .blk b2 (.cells (arr b8 (List.replicate 32 0)) 56 (0, 0)), .blk b1 (.cells (arr b8 key) 53 (0, 0))]) (fun w_ h_ => by have h2 : Mem w [] [.blk b12 (.cells (arr b8 (xorK key 54 64)) 53 (0, 0)), .blk b4 (.cells (arr b8 (xorK key 92 64)) 53 (0, 0)), .blk b2 (.cells (arr b8 (List.replicate 32 0)) 56 (0, 0)), .blk b1 (.cells (arr b8 key) 53 (0, 0))] w_ := h_; rw [ip_eq] at h2; exact h2) ?_
        refine wc_mem (M' := Mem w [] [.blk b12 (.cells (arr b8 (ipF key)) 53 (0, 0)), .blk b4 (.cells (arr b8 (opF key)) 53 (0, 0)), .blk b2 (.cells (arr b8 (List.replicate 32 0)) 56 (0, 0)), .blk b1 (.cells (arr b8 key) 53 (0, 0))]) (fun w_ h_ => by have h2 : Mem w [] [.blk b12 (.cells (arr b8 (ipF key)) 53 (0, 0)), .blk b4 (.cells (arr b8 (xorK key 92 64)) 53 (0, 0)), .blk b2 (.cells (arr b8 (List.replicate 32 0)) 56 (0, 0)), .blk b1 (.cells (arr b8 key) 53 (0, 0))] w_ := h_; rw [op_eq] at h2; exact h2) ?_
        have hil := ip_len key
        have hol := op_len key
        refine wc_exit ?_
        refine aq_thru_exit ?_
        refine aq_thru_exit ?_
        refine aq_blk_exit ?_
        refine aq_seq ?_
        refine wc_seq ?_
        refine wc_region ?_
        refine wl_y (y_slice_ar0 ar53 sz5 rfl 64 rfl rfl (by omega)) ?_
        refine wl_eff (e_buildSlice (len := 1) [.slice (some ⟨b12, 0, none⟩) 64 64] sl50 el22 rfl rfl rfl (by simp [Value.cells]) (by decide) [.slice (some ⟨b12, 0, none⟩) 64 64] rfl) rfl trivial rfl ?_
        intro b13
        refine wl_y (y_move rfl) ?_
        refine wl_eff (e_appendm (f := pv) (xs := ([((some ⟨b12, 0, none⟩), 64, 64, (ipF key))] : List Pc)) (news := pcs) sl50 el22 rfl rfl rfl rfl (i := 0) rfl (fun w m => m.rd0 hl) (by omega) (by omega) (1 + nl) (by first | rfl | omega) (by first | rfl | simp) (fun _ => rfl)) rfl trivial rfl ?_
        intro r14
        refine wl_eff (e_call0 cf55 rfl (fun w m => concat_ok w r14.1 (1 + nl) r14.2 (([((some ⟨b12, 0, none⟩), 64, 64, (ipF key))] : List Pc) ++ pcs) ((m.rd_sl (i := 0) rfl : Rd _ _ (1 + nl) 1 ((([((some ⟨b12, 0, none⟩), 64, 64, (ipF key))] : List Pc) ++ pcs).map pv))) (List.forall_mem_cons.2 ⟨(Mem.rd_arrn (f := b8) (xs := (ipF key)) m (i := 1) rfl (n := 64) (by first | omega | (simp [hk]; done) | (simp [hk]; omega) | (simp; omega))), (fun p h => m.rd0 (hps p h))⟩) (by omega) (by rw [sum_cons]; show 64 + _ ≤ _; omega))) rfl trivial rfl ?_
        intro r15
        rw [sum_cons, flat_cons]
        refine wl_eff (e_call0 cf56 rfl (fun w m => sum_ok w r15.1 (64 + sumN pcs nl) r15.2 ((ipF key) ++ flatN pcs nl) ((m.rd_sl (i := 0) rfl : Rd _ _ (64 + sumN pcs nl) 1 (((ipF key) ++ flatN pcs nl).map b8))) (m.sl_le (i := 0) rfl))) rfl trivial rfl ?_
        intro _
        rw [sumO_0 ((ipF key) ++ flatN pcs nl) (nb := (64 + sumN pcs nl)) (by omega), sumE_0 (nb := (64 + sumN pcs nl)) (by omega)]
        refine wl_y (y_move rfl) ?_
        refine wl_y (y_extract rfl rfl) ?_
        refine wl_y (y_extract rfl rfl) ?_
        refine wl_eff (e_alloc (cs := arr b8 (List.replicate 32 0)) zn56) rfl trivial rfl ?_
        intro b16
        refine wl_eff (e_storeall sz56 rfl rfl (i := 0) rfl (by first | (simp; done) | (simp [*]; done) | (simp; omega)) (by first | (simp; done) | (simp [*]; done) | (simp; omega)) (arr_one _) rfl) rfl trivial rfl ?_
        intro _
        refine wl_y (y_assign rfl) ?_
        refine wl_nil ?_
        refine aq_seq ?_
        refine wc_seq ?_
        refine wc_drawTC (.st 0 .q (.st 1 .q (.st 2 .e (.st 3 .e (.st 4 .e (.st 5 .q (.st 6 .q (.st 7 .q (.st 8 .e .nil))))))))) (Mem w [] [.sl r15.1 (64 + sumN pcs nl) r15.2 5 1 (((ipF key) ++ flatN pcs nl).map b8), .sl r14.1 (1 + nl) r14.2 22 1 ((([((some ⟨b12, 0, none⟩), 64, 64, (ipF key))] : List Pc) ++ pcs).map pv), .blk b12 (.cells (arr b8 (ipF key)) 53 (0, 0)), .blk b4 (.cells (arr b8 (opF key)) 53 (0, 0)), .blk b2 (.cells (arr b8 (List.replicate 32 0)) 56 (0, 0)), .blk b1 (.cells (arr b8 key) 53 (0, 0))]) (by kernel_rfl) (by kernel_rfl) Mem.closed ?_
        refine wt_q rfl Mem.closed (fun _ h => (Mem.pick h (is := [1, 2, 3, 4, 5, 6]) ⟨_, _, rfl, rfl, ⟨_, _, rfl, rfl, ⟨_, _, rfl, rfl, ⟨_, _, rfl, rfl, ⟨_, _, rfl, rfl, ⟨_, _, rfl, rfl, rfl⟩⟩⟩⟩⟩⟩ (by decide))) Mem.closed rfl (q_of_yld (y_slice_ar0 ar53 sz5 rfl 64 rfl rfl (by omega))) trivial ?_
        refine wt_q rfl Mem.closed (fun _ h => (Mem.pick h (is := [1, 2, 3, 4, 5, 6]) ⟨_, _, rfl, rfl, ⟨_, _, rfl, rfl, ⟨_, _, rfl, rfl, ⟨_, _, rfl, rfl, ⟨_, _, rfl, rfl, ⟨_, _, rfl, rfl, rfl⟩⟩⟩⟩⟩⟩ (by decide))) Mem.closed rfl (q_of_yld (y_slice_ar0 ar56 sz5 rfl 32 rfl rfl (by omega))) trivial ?_
        refine wt_e (fun _ => _) rfl rfl rfl (e_buildSlice (len := 2) [.slice (some ⟨b4, 0, none⟩) 64 64, .slice (some ⟨b16, 0, none⟩) 32 32] sl50 el22 rfl rfl rfl (by simp [Value.cells]) (by decide) [.slice (some ⟨b4, 0, none⟩) 64 64, .slice (some ⟨b16, 0, none⟩) 32 32] rfl) trivial (fun _ => Mem.closed) (fun _ _ h => h) (fun _ _ h => (Mem.pick h (is := [2, 3, 4, 5, 6, 7]) ⟨_, _, rfl, rfl, ⟨_, _, rfl, rfl, ⟨_, _, rfl, rfl, ⟨_, _, rfl, rfl, ⟨_, _, rfl, rfl, ⟨_, _, rfl, rfl, rfl⟩⟩⟩⟩⟩⟩ (by decide))) (fun _ => Mem.closed) ?_
        intro b17
        refine wt_e (fun _ => _) rfl rfl rfl (e_call0 cf55 rfl (fun w m => concat_ok w (some ⟨b17, 0, none⟩) 2 2 ([((some ⟨b4, 0, none⟩), 64, 64, (opF key)), ((some ⟨b16, 0, none⟩), 32, 32, (shaF ((ipF key) ++ flatN pcs nl) (64 + sumN pcs nl)))] : List Pc) ((m.rd_sl (i := 0) rfl : Rd _ _ 2 1 (([((some ⟨b4, 0, none⟩), 64, 64, (opF key)), ((some ⟨b16, 0, none⟩), 32, 32, (shaF ((ipF key) ++ flatN pcs nl) (64 + sumN pcs nl)))] : List Pc).map pv))) (List.forall_mem_cons.2 ⟨(Mem.rd_arrn (f := b8) (xs := (opF key)) m (i := 5) rfl (n := 64) (by first | omega | (simp [hk]; done) | (simp [hk]; omega) | (simp; omega))), (List.forall_mem_cons.2 ⟨(Mem.rd_arrn (f := b8) (xs := (shaF ((ipF key) ++ flatN pcs nl) (64 + sumN pcs nl))) m (i := 1) rfl (n := 32) (by first | omega | (simp [hk]; done) | (simp [hk]; omega) | (simp; omega))), (fun _ h => nomatch h)⟩)⟩) (by omega) (by show ((0 + 64) + 32) ≤ _; omega))) trivial (fun _ => Mem.closed) (fun _ _ h => h) (fun _ _ h => (Mem.pick h (is := [3, 4, 5, 6, 7, 8]) ⟨_, _, rfl, rfl, ⟨_, _, rfl, rfl, ⟨_, _, rfl, rfl, ⟨_, _, rfl, rfl, ⟨_, _, rfl, rfl, ⟨_, _, rfl, rfl, rfl⟩⟩⟩⟩⟩⟩ (by decide))) (fun _ => Mem.closed) ?_
        intro r18
        refine wt_e (fun _ => _) rfl rfl rfl (e_call0 cf56 rfl (fun w m => sum_ok w r18.1 ((0 + 64) + 32) r18.2 ((([] : List UInt8) ++ (opF key)) ++ (shaF ((ipF key) ++ flatN pcs nl) (64 + sumN pcs nl))) ((m.rd_sl (i := 0) rfl : Rd _ _ ((0 + 64) + 32) 1 (((([] : List UInt8) ++ (opF key)) ++ (shaF ((ipF key) ++ flatN pcs nl) (64 + sumN pcs nl))).map b8))) (m.sl_le (i := 0) rfl))) trivial (fun _ => Mem.closed) (fun _ _ h => h) (fun _ _ h => (Mem.pick h (is := [3, 4, 5, 6, 7, 8]) ⟨_, _, rfl, rfl, ⟨_, _, rfl, rfl, ⟨_, _, rfl, rfl, ⟨_, _, rfl, rfl, ⟨_, _, rfl, rfl, ⟨_, _, rfl, rfl, rfl⟩⟩⟩⟩⟩⟩ (by decide))) (fun _ => Mem.closed) ?_
        intro _
        rw [sumO_0 ((([] : List UInt8) ++ (opF key)) ++ (shaF ((ipF key) ++ flatN pcs nl) (64 + sumN pcs nl))) (nb := ((0 + 64) + 32)) (by omega), sumE_0 (nb := ((0 + 64) + 32)) (by omega)]
        refine wt_q rfl Mem.closed (fun _ h => (Mem.pick h (is := [3, 4, 5, 6, 7, 8]) ⟨_, _, rfl, rfl, ⟨_, _, rfl, rfl, ⟨_, _, rfl, rfl, ⟨_, _, rfl, rfl, ⟨_, _, rfl, rfl, ⟨_, _, rfl, rfl, rfl⟩⟩⟩⟩⟩⟩ (by decide))) Mem.closed rfl (q_of_yld (y_move rfl)) trivial ?_
        refine wt_q rfl Mem.closed (fun _ h => (Mem.pick h (is := [3, 4, 5, 6, 7, 8]) ⟨_, _, rfl, rfl, ⟨_, _, rfl, rfl, ⟨_, _, rfl, rfl, ⟨_, _, rfl, rfl, ⟨_, _, rfl, rfl, ⟨_, _, rfl, rfl, rfl⟩⟩⟩⟩⟩⟩ (by decide))) Mem.closed rfl (q_of_yld (y_extract rfl rfl)) trivial ?_
        refine wt_q rfl Mem.closed (fun _ h => (Mem.pick h (is := [3, 4, 5, 6, 7, 8]) ⟨_, _, rfl, rfl, ⟨_, _, rfl, rfl, ⟨_, _, rfl, rfl, ⟨_, _, rfl, rfl, ⟨_, _, rfl, rfl, ⟨_, _, rfl, rfl, rfl⟩⟩⟩⟩⟩⟩ (by decide))) Mem.closed rfl (q_of_yld (y_extract rfl rfl)) trivial ?_
        refine wt_e (fun _ => _) rfl rfl rfl (e_storeall sz56 rfl rfl (i := 2) rfl (by first | (simp; done) | (simp [*]; done) | (simp; omega)) (by first | (simp; done) | (simp [*]; done) | (simp; omega)) (arr_one _) ⟨_, rfl, ⟨_, rfl, rfl⟩⟩) trivial (fun _ => Mem.closed) (fun _ _ h => h) (fun _ _ h => (Mem.pick h (is := [3, 4, 5, 6, 7, 8]) ⟨_, _, rfl, rfl, ⟨_, _, rfl, rfl, ⟨_, _, rfl, rfl, ⟨_, _, rfl, rfl, ⟨_, _, rfl, rfl, ⟨_, _, rfl, rfl, rfl⟩⟩⟩⟩⟩⟩ (by decide))) (fun _ => Mem.closed) ?_
        intro _
        refine wt_nil ?_
        refine aq_seq ?_
        refine wc_seq ?_
        refine wc_region ?_
        refine wl_y (y_loadall ag56 rfl (i := 2) rfl (by first | (simp; done) | (simp [*]; done) | (simp; omega))) ?_
        refine wl_eff (e_storeall sz56 rfl rfl (i := 7) rfl (by first | (simp; done) | (simp [*]; done) | (simp; omega)) (by first | (simp; done) | (simp [*]; done) | (simp; omega)) (arr_one _) ⟨_, rfl, ⟨_, rfl, ⟨_, rfl, ⟨_, rfl, ⟨_, rfl, ⟨_, rfl, ⟨_, rfl, rfl⟩⟩⟩⟩⟩⟩⟩) rfl trivial rfl ?_
        intro _
        refine wl_nil ?_
        refine aq_seq ?_
        refine wc_ret ?_
        refine aq_return (.inl rfl) rfl (⟨_, _, _, rfl, fun w m => run_loadVar_all ag56 (m.blk (i := 7) rfl) (by first | (simp; done) | (simp [*]; done) | (simp; omega)), rfl, rfl⟩) ?_
        intro w' m
        exact ⟨(), rfl, m.pick (is := []) rfl (by decide)⟩

attribute [local irreducible] macF

end Go.Proofs.YtjibkjoaamchoaaGreatDoor
