/- Lemmas and contracts for the proof of this seat's statements (Same2F). No condition. -/
import Derived.Test.YtjibkjoaamchoaaGreatDoorEBk
import Derived.Test.YtjibkjoaamchoaaGreatDoorProg
import Derived.KernelRfl
import Derived.Test.YtjibkjoaamchoaaGreatDoorEPlaA
set_option linter.all false
namespace Go.Proofs.YtjibkjoaamchoaaGreatDoor
open Go.Mc
private theorem sl22 : slB Tryz.prog 22 5 = true := by kernel_rfl
private theorem sz5 : szB Tryz.prog 5 1 = true := by kernel_rfl
private theorem sc5 : scB Tryz.prog 5 = true := by kernel_rfl
theorem SameBytes_ok (w : World) (aa ab : Option Addr) (na ca nb cb : Nat) (la lb : List UInt8) (ha : Rd w aa na 1 (la.map b8)) (hb : Rd w ab nb 1 (lb.map b8)) (hna : na ≤ 140737488355328) :
    Calls Tryz.prog 9 #[.slice aa na ca, .slice ab nb cb] w (Ret (fun _ : Unit => kb (la == lb)) (fun _ => Mem w [] [])) := by
  have hla := ha.len
  have hlb := hb.len
  refine calls_of Tryz.func9 rfl rfl (L := [(0, .slice aa na ca), (1, .slice ab nb cb)]) ⟨rfl, rfl, trivial⟩ (m := 26) (Nat.le_of_ble_eq_true rfl) (M := Mem w [] []) (Mem.refl w) ?_
  refine wc_seq ?_
  refine wc_region ?_
  refine wl_y (y_assign rfl) ?_
  refine wl_nil ?_
  refine aq_seq ?_
  refine wc_seq ?_
  refine wc_seq ?_
  refine wc_region ?_
  refine wl_y (y_move rfl) ?_
  refine wl_y (y_len_sl sl22 (m := na) rfl rfl) ?_
  refine wl_y (y_move rfl) ?_
  refine wl_y (y_len_sl sl22 (m := nb) rfl rfl) ?_
  refine wl_y (y_bin rfl rfl neq_i64) ?_
  refine wl_nil ?_
  refine aq_seq ?_
  refine wc_if rfl (fun hc1 => ?_) (fun hc1 => ?_)
  · have hb1 : ¬ ((na : Int) = (nb : Int)) := by simpa using hc1
    refine wc_seq ?_
    refine wc_region ?_
    refine wl_y (y_assign rfl) ?_
    refine wl_nil ?_
    refine aq_seq ?_
    refine wc_ret ?_
    refine aq_thru_ret ?_
    refine aq_return (.inl rfl) rfl (⟨_, _, rfl, rfl, rfl⟩) ?_
    intro w' m
    refine ⟨(), congrArg Ending.returned (congrArg kb ?_), m.pick (is := []) rfl List.nodup_nil⟩
    exact (ne_beq (by omega)).symm
  · have hb1 : (na : Int) = (nb : Int) := by simpa using hc1
    refine wc_skip ?_
    refine aq_seq ?_
    refine wc_seq ?_
    refine wc_seq ?_
    refine wc_region ?_
    refine wl_y (y_assign rfl) ?_
    refine wl_nil ?_
    refine aq_seq ?_
    refine wc_block ?_
    refine wc_loop (γ := Nat) (fun k => [(0, .slice aa na ca), (1, .slice ab nb cb), (5, ki ((k : Int)))]) (fun k => Mem w [] []) (fun k => (k ≤ na) ∧ (la.take k = lb.take k)) (fun k => na - k) (0) ?_ ⟨rfl, rfl, rfl, trivial⟩ (fun _ h => h) ?_
    · exact ⟨by omega, by simp⟩
    · rintro k ⟨hk, ht⟩
      refine wc_seq ?_
      refine wc_seq ?_
      refine wc_region ?_
      refine wl_y (y_move rfl) ?_
      refine wl_y (y_move rfl) ?_
      refine wl_y (y_len_sl sl22 (m := na) rfl rfl) ?_
      refine wl_y (y_bin rfl rfl lss_i64) ?_
      refine wl_nil ?_
      refine aq_seq ?_
      refine wc_if rfl (fun hc2 => ?_) (fun hc2 => ?_)
      · have hb2 : (k : Int) < (na : Int) := by simpa using hc2
        refine wc_skip ?_
        refine aq_seq ?_
        refine wc_seq ?_
        refine wc_block ?_
        refine wc_seq ?_
        refine wc_drawM [(0, .q), (1, .q), (2, .q), (3, .q), (4, .q), (5, .q), (6, .q), (7, .q), (8, .q)] (by kernel_rfl) (by kernel_rfl) Mem.closed ?_
        refine wp_q rfl Mem.closed (fun _ h => h) Mem.closed rfl (q_of_yld (y_move rfl)) trivial ?_
        refine wp_q rfl Mem.closed (fun _ h => h) Mem.closed rfl (q_of_yld (y_move rfl)) trivial ?_
        refine wp_q rfl Mem.closed (fun _ h => h) Mem.closed rfl (q_of_yld (y_indexAddr_sl sl22 sz5 rfl rfl (by omega) (by omega) (fun w m => rd_isSome (m.rd0 ha) (by omega) (by decide)) k (by omega))) trivial ?_
        refine wp_q rfl Mem.closed (fun _ h => h) Mem.closed rfl (q_of_yld (y_load sc5 rfl (c_of (fun w m => m.rd0 ha) (map_get (gd 0 (by first | omega | (simp; omega))))))) trivial ?_
        refine wp_q rfl Mem.closed (fun _ h => h) Mem.closed rfl (q_of_yld (y_move rfl)) trivial ?_
        refine wp_q rfl Mem.closed (fun _ h => h) Mem.closed rfl (q_of_yld (y_move rfl)) trivial ?_
        refine wp_q rfl Mem.closed (fun _ h => h) Mem.closed rfl (q_of_yld (y_indexAddr_sl sl22 sz5 rfl rfl (by omega) (by omega) (fun w m => rd_isSome (m.rd0 hb) (by omega) (by decide)) k (by omega))) trivial ?_
        refine wp_q rfl Mem.closed (fun _ h => h) Mem.closed rfl (q_of_yld (y_load sc5 rfl (c_of (fun w m => m.rd0 hb) (map_get (gd 0 (by first | omega | (simp; omega))))))) trivial ?_
        refine wp_q rfl Mem.closed (fun _ h => h) Mem.closed rfl (q_of_yld (y_bin rfl rfl (neq_u8 (la.getD k 0) (lb.getD k 0)))) trivial ?_
        refine wp_nil ?_
        refine aq_seq ?_
        refine wc_if rfl (fun hc3 => ?_) (fun hc3 => ?_)
        · have hb3 : ¬ ((la.getD k 0) = (lb.getD k 0)) := by simpa using hc3
          refine wc_seq ?_
          refine wc_region ?_
          refine wl_y (y_assign rfl) ?_
          refine wl_nil ?_
          refine aq_seq ?_
          refine wc_ret ?_
          refine aq_blk_ret ?_
          refine aq_thru_ret ?_
          refine aq_thru_ret ?_
          refine aq_blk_ret ?_
          refine aq_thru_ret ?_
          refine aq_return (.inl rfl) rfl (⟨_, _, rfl, rfl, rfl⟩) ?_
          intro w' m
          refine ⟨(), congrArg Ending.returned (congrArg kb ?_), m.pick (is := []) rfl List.nodup_nil⟩
          exact (getD_ne_beq hb3).symm
        · have hb3 : (la.getD k 0) = (lb.getD k 0) := by simpa using hc3
          refine wc_skip ?_
          refine aq_blk_normal ?_
          refine aq_seq ?_
          refine wc_region ?_
          refine wl_y (y_move rfl) ?_
          refine wl_y (y_bin rfl rfl (addn_i64 (a := k) (b := 1) (by omega))) ?_
          refine wl_y (y_assign rfl) ?_
          refine wl_nil ?_
          refine aq_loop (k + 1) ?_ ?_ ⟨rfl, rfl, rfl, trivial⟩ (fun _ h => h)
          · exact ⟨by omega, take_succ_eq ht (by omega) (by omega) (by simpa using hc3)⟩
          · first | omega | (dsimp only; omega)
      · have hb2 : ¬ ((k : Int) < (na : Int)) := by simpa using hc2
        refine wc_exit ?_
        refine aq_thru_exit ?_
        refine aq_thru_exit ?_
        refine aq_blk_exit ?_
        refine aq_seq ?_
        refine wc_seq ?_
        refine wc_region ?_
        refine wl_y (y_assign rfl) ?_
        refine wl_nil ?_
        refine aq_seq ?_
        refine wc_ret ?_
        refine aq_return (.inl rfl) rfl (⟨_, _, rfl, rfl, rfl⟩) ?_
        intro w' m
        refine ⟨(), congrArg Ending.returned (congrArg kb ?_), m.pick (is := []) rfl List.nodup_nil⟩
        exact (take_all_beq (by omega) (by omega) ht).symm

end Go.Proofs.YtjibkjoaamchoaaGreatDoor
