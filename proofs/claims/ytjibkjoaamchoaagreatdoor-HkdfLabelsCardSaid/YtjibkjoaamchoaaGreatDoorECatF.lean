/- Lemmas and contracts for the proof of this seat's statements (CatF). No condition. -/
import Derived.Test.YtjibkjoaamchoaaGreatDoorEBk
import Derived.Test.YtjibkjoaamchoaaGreatDoorProg
import Derived.KernelRfl
import Derived.Test.YtjibkjoaamchoaaGreatDoorEPlaA
set_option linter.all false
namespace Go.Proofs.YtjibkjoaamchoaaGreatDoor
open Go.Mc
private theorem sl22 : slB Tryz.prog 22 5 = true := by kernel_rfl
private theorem sz5 : szB Tryz.prog 5 1 = true := by kernel_rfl
private theorem el5 : elB Tryz.prog 5 1 1 (b8 (0)) := elB_of (by kernel_rfl) (by kernel_rfl) (by unfold znB; kernel_rfl)
private theorem ui3 : Tryz.prog.underlying 3 = some (.int .i64) := by kernel_rfl
private theorem sl50 : slB Tryz.prog 50 22 = true := by kernel_rfl
private theorem sz22 : szB Tryz.prog 22 1 = true := by kernel_rfl
private theorem sc22 : scB Tryz.prog 22 = true := by kernel_rfl
private theorem cf85 : cfB Tryz.prog 85 = true := by kernel_rfl
theorem grow_ok (w : World) (n : Nat) (hn : n ≤ 70368744177664) :
    Calls Tryz.prog 85 #[.slice none 0 0, ki ((n : Int))] w (Ret (fun r : Option Addr × Nat => .slice r.1 0 r.2) (fun r => Mem w [] [.sl r.1 0 r.2 5 1 []])) := by
  refine calls_of Tryz.func85 rfl rfl (L := [(0, .slice none 0 0), (1, ki ((n : Int)))]) ⟨rfl, rfl, trivial⟩ (m := 27) (Nat.le_of_ble_eq_true rfl) (M := Mem w [] []) (Mem.refl w) ?_
  refine wc_seq ?_
  refine wc_region ?_
  refine wl_y (y_assign rfl) ?_
  refine wl_nil ?_
  refine aq_seq ?_
  refine wc_seq ?_
  refine wc_seq ?_
  refine wc_region ?_
  refine wl_y (y_move rfl) ?_
  refine wl_y (y_bin rfl rfl lss_i64) ?_
  refine wl_nil ?_
  refine aq_seq ?_
  have hd1 : (decide ((n : Int) < 0)) = false := by exact decide_eq_false (by omega)
  refine wc_else' rfl hd1 ?_
  refine wc_skip ?_
  refine aq_seq ?_
  refine wc_seq ?_
  refine wc_seq ?_
  refine wc_region ?_
  refine wl_y (y_move rfl) ?_
  refine wl_y (y_move rfl) ?_
  refine wl_y (y_cap_sl sl22 (cap := 0) rfl rfl) ?_
  refine wl_y (y_move rfl) ?_
  refine wl_y (y_len_sl sl22 (m := 0) rfl rfl) ?_
  refine wl_y (y_bin rfl rfl (show bin .sub (ki 0) (ki 0) = some (ki 0) from rfl)) ?_
  refine wl_y (y_bin rfl rfl (subn_i64 (a := n) (b := 0) (by omega) (by omega))) ?_
  refine wl_y (y_assign rfl) ?_
  refine wl_nil ?_
  refine aq_seq ?_
  refine wc_seq ?_
  refine wc_region ?_
  refine wl_y (y_move rfl) ?_
  refine wl_y (y_bin rfl rfl gtr_i64) ?_
  refine wl_nil ?_
  refine aq_seq ?_
  refine wc_if rfl (fun hc2 => ?_) (fun hc2 => ?_)
  · have hb2 : ((n - 0 : Nat) : Int) > 0 := by simpa using hc2
    refine wc_region ?_
    refine wl_y (y_move rfl) ?_
    refine wl_y (y_move rfl) ?_
    refine wl_y (y_cap_sl sl22 (cap := 0) rfl rfl) ?_
    refine wl_y (y_slice_sl0 sl22 sz5 rfl 0 ⟨_, _, rfl, by first | rfl | omega⟩ rfl (by omega)) ?_
    refine wl_y (y_move rfl) ?_
    refine wl_eff (e_appendz (f := b8) (m := (n - 0)) (z' := 0) sl22 el5 rfl ui3 rfl rfl rfl (by omega) (by omega) (by omega)) rfl trivial rfl ?_
    intro r1
    refine wl_y (y_move rfl) ?_
    refine wl_y (y_len_sl sl22 (m := 0) rfl rfl) ?_
    refine wl_y (y_slice_sl0 sl22 sz5 rfl 0 ⟨_, _, rfl, by first | rfl | omega⟩ rfl (by omega)) ?_
    refine wl_y (y_assign rfl) ?_
    refine wl_nil ?_
    refine aq_seq ?_
    refine wc_seq ?_
    refine wc_region ?_
    refine wl_y (y_move rfl) ?_
    refine wl_y (y_assign rfl) ?_
    refine wl_nil ?_
    refine aq_seq ?_
    refine wc_ret ?_
    refine aq_return (.inl rfl) rfl (⟨_, _, rfl, rfl, rfl⟩) ?_
    intro w' m
    exact ⟨r1, rfl, (m).shrink 0 (by omega)⟩
  · have hb2 : ¬ (((n - 0 : Nat) : Int) > 0) := by simpa using hc2
    refine wc_skip ?_
    refine aq_seq ?_
    refine wc_seq ?_
    refine wc_region ?_
    refine wl_y (y_move rfl) ?_
    refine wl_y (y_assign rfl) ?_
    refine wl_nil ?_
    refine aq_seq ?_
    refine wc_ret ?_
    refine aq_return (.inl rfl) rfl (⟨_, _, rfl, rfl, rfl⟩) ?_
    intro w' m
    exact ⟨(none, 0), rfl, m.nilsl 5 1⟩

theorem concat_ok (w : World) (al : Option Addr) (nl cl : Nat) (pcs : List Pc) (hl : Rd w al nl 1 (pcs.map pv)) (hps : ∀ p ∈ pcs, Rd w p.1 p.2.1 1 (p.2.2.2.map b8)) (hnl : nl ≤ 1000) (hsz : sumN pcs nl ≤ 70368744177664) :
    Calls Tryz.prog 55 #[.slice al nl cl] w (Ret (fun r : Option Addr × Nat => .slice r.1 (sumN pcs nl) r.2) (fun r => Mem w [] [.sl r.1 (sumN pcs nl) r.2 5 1 ((flatN pcs nl).map b8)])) := by
  have hll := hl.len
  have hp := pcs_get hps
  refine calls_of Tryz.func55 rfl rfl (L := [(0, .slice al nl cl)]) ⟨rfl, trivial⟩ (m := 36) (Nat.le_of_ble_eq_true rfl) (M := Mem w [] []) (Mem.refl w) ?_
  refine wc_seq ?_
  refine wc_region ?_
  refine wl_y (y_assign rfl) ?_
  refine wl_nil ?_
  refine aq_seq ?_
  refine wc_seq ?_
  refine wc_region ?_
  refine wl_y (y_assign rfl) ?_
  refine wl_nil ?_
  refine aq_seq ?_
  refine wc_seq ?_
  refine wc_seq ?_
  refine wc_region ?_
  refine wl_y (y_move rfl) ?_
  refine wl_y (y_len_sl sl50 (m := nl) rfl rfl) ?_
  refine wl_y (y_move rfl) ?_
  refine wl_nil ?_
  refine aq_seq ?_
  refine wc_block ?_
  refine wc_loop (γ := Nat) (fun i => [(0, .slice al nl cl), (2, .slice none 0 0), (3, ki ((((sumN pcs i) : Nat) : Int))), (9, .slice al nl cl), (10, ki ((nl : Int))), (11, ki ((i : Int)))]) (fun i => Mem w [] []) (fun i => (i ≤ nl)) (fun i => nl - i) (0) ?_ ⟨rfl, rfl, rfl, rfl, rfl, rfl, trivial⟩ (fun _ h => h) ?_
  · omega
  · rintro i hi
    have hmono := fun h : i + 1 ≤ nl => sumN_le pcs h
    have hsu : sumN pcs (i + 1) = sumN pcs i + (pcs.getD i (none, 0, 0, [])).2.1 := rfl
    refine wc_seq ?_
    refine wc_region ?_
    refine wl_y (y_bin rfl rfl lss_i64) ?_
    refine wl_nil ?_
    refine aq_seq ?_
    refine wc_seq ?_
    refine wc_if rfl (fun hc1 => ?_) (fun hc1 => ?_)
    · have hb1 : (i : Int) < (nl : Int) := by simpa using hc1
      refine wc_skip ?_
      refine aq_seq ?_
      refine wc_seq ?_
      refine wc_block ?_
      refine wc_seq ?_
      refine wc_region ?_
      refine wl_y (y_indexAddr_sl sl50 sz22 rfl rfl (by omega) (by omega) (fun w m => rd_isSome (m.rd0 hl) (by omega) (by decide)) i (by omega)) ?_
      refine wl_y (y_load sc22 rfl (c_of (fun w m => m.rd0 hl) (map_get (gd (none, 0, 0, []) (by first | omega | (simp; omega)))))) ?_
      refine wl_y (y_assign rfl) ?_
      refine wl_nil ?_
      refine aq_seq ?_
      refine wc_seq ?_
      refine wc_region ?_
      refine wl_y (y_move rfl) ?_
      refine wl_y (y_move rfl) ?_
      refine wl_y (y_len_sl sl22 (m := ((pcs.getD i (none, 0, 0, [])).2.1)) rfl rfl) ?_
      refine wl_y (y_bin rfl rfl (addn_i64 (a := (sumN pcs i)) (b := ((pcs.getD i (none, 0, 0, [])).2.1)) (by omega))) ?_
      refine wl_y (y_assign rfl) ?_
      refine wl_nil ?_
      refine aq_seq ?_
      refine wc_seq ?_
      refine wc_region ?_
      refine wl_y (y_move rfl) ?_
      refine wl_y (y_bin rfl rfl lss_i64) ?_
      refine wl_nil ?_
      refine aq_seq ?_
      have hd2 : (decide ((((sumN pcs i) + ((pcs.getD i (none, 0, 0, [])).2.1) : Nat) : Int) < 0)) = false := by exact decide_eq_false (by omega)
      refine wc_else' rfl hd2 ?_
      refine wc_skip ?_
      refine aq_blk_normal ?_
      refine aq_seq ?_
      refine wc_region ?_
      refine wl_y (y_bin rfl rfl (addn_i64 (a := i) (b := 1) (by omega))) ?_
      refine wl_y (y_move rfl) ?_
      refine wl_nil ?_
      refine aq_loop (i + 1) ?_ ?_ ⟨rfl, rfl, rfl, rfl, rfl, rfl, trivial⟩ (fun _ h => h)
      · omega
      · first | omega | (dsimp only; omega)
    · have hb1 : ¬ ((i : Int) < (nl : Int)) := by simpa using hc1
      have hin : nl = i := by omega
      subst hin
      refine wc_exit ?_
      refine aq_thru_exit ?_
      refine aq_thru_exit ?_
      refine aq_blk_exit ?_
      refine aq_seq ?_
      refine wc_seq ?_
      refine wc_region ?_
      refine wl_y (y_move rfl) ?_
      refine wl_eff (e_call0 cf85 rfl (fun w m => grow_ok w (sumN pcs nl) (by omega))) rfl trivial rfl ?_
      intro r1
      refine wl_y (y_assign rfl) ?_
      refine wl_nil ?_
      refine aq_seq ?_
      refine wc_seq ?_
      refine wc_seq ?_
      refine wc_region ?_
      refine wl_y (y_move rfl) ?_
      refine wl_y (y_len_sl sl50 (m := nl) rfl rfl) ?_
      refine wl_y (y_move rfl) ?_
      refine wl_nil ?_
      refine aq_seq ?_
      refine wc_block ?_
      refine wc_loop (γ := Nat × Option Addr × Nat) (fun ⟨j, ad, cp⟩ => [(2, .slice none 0 0), (6, .slice ad (sumN pcs j) cp), (25, .slice al nl cl), (26, ki ((nl : Int))), (27, ki ((j : Int)))]) (fun ⟨j, ad, cp⟩ => Mem w [] [.sl ad (sumN pcs j) cp 5 1 ((flatN pcs j).map b8)]) (fun ⟨j, ad, cp⟩ => (j ≤ nl)) (fun ⟨j, ad, cp⟩ => nl - j) (⟨0, r1.1, r1.2⟩) ?_ ⟨rfl, rfl, rfl, rfl, rfl, trivial⟩ (fun _ h => h) ?_
      · omega
      · rintro ⟨j, ad, cp⟩ hj
        change j ≤ nl at hj
        have hmono := fun h : j + 1 ≤ nl => sumN_le pcs h
        have hsu : sumN pcs (j + 1) = sumN pcs j + (pcs.getD j (none, 0, 0, [])).2.1 := rfl
        refine wc_seq ?_
        refine wc_region ?_
        refine wl_y (y_bin rfl rfl lss_i64) ?_
        refine wl_nil ?_
        refine aq_seq ?_
        refine wc_seq ?_
        refine wc_if rfl (fun hc3 => ?_) (fun hc3 => ?_)
        · have hb3 : (j : Int) < (nl : Int) := by simpa using hc3
          refine wc_skip ?_
          refine aq_seq ?_
          refine wc_seq ?_
          refine wc_block ?_
          refine wc_seq ?_
          refine wc_region ?_
          refine wl_y (y_indexAddr_sl sl50 sz22 rfl rfl (by omega) (by omega) (fun w m => rd_isSome (m.rd0 hl) (by omega) (by decide)) j (by omega)) ?_
          refine wl_y (y_load sc22 rfl (c_of (fun w m => m.rd0 hl) (map_get (gd (none, 0, 0, []) (by first | omega | (simp; omega)))))) ?_
          refine wl_y (y_assign rfl) ?_
          refine wl_nil ?_
          refine aq_seq ?_
          refine wc_region ?_
          refine wl_y (y_move rfl) ?_
          refine wl_y (y_move rfl) ?_
          refine wl_eff (e_appendm (f := b8) (xs := (flatN pcs j)) (news := ((pcs.getD j (none, 0, 0, [])).2.2.2)) sl22 el5 rfl rfl rfl rfl (i := 0) rfl (fun w m => m.rd0 (hp j)) (by omega) (by omega) ((sumN pcs j) + ((pcs.getD j (none, 0, 0, [])).2.1)) (by first | rfl | omega) (by first | rfl | simp) (fun _ => rfl)) rfl trivial rfl ?_
          intro r2
          refine wl_y (y_assign rfl) ?_
          refine wl_nil ?_
          refine aq_blk_normal ?_
          refine aq_seq ?_
          refine wc_region ?_
          refine wl_y (y_bin rfl rfl (addn_i64 (a := j) (b := 1) (by omega))) ?_
          refine wl_y (y_move rfl) ?_
          refine wl_nil ?_
          refine aq_loop (⟨j + 1, r2.1, r2.2⟩) ?_ ?_ ⟨rfl, rfl, rfl, rfl, rfl, trivial⟩ (fun _ h => h)
          · omega
          · first | omega | (dsimp only; omega)
        · have hb3 : ¬ ((j : Int) < (nl : Int)) := by simpa using hc3
          refine wc_exit ?_
          refine aq_thru_exit ?_
          refine aq_thru_exit ?_
          refine aq_blk_exit ?_
          refine aq_seq ?_
          refine wc_seq ?_
          refine wc_region ?_
          refine wl_y (y_move rfl) ?_
          refine wl_y (y_assign rfl) ?_
          refine wl_nil ?_
          refine aq_seq ?_
          refine wc_ret ?_
          refine aq_return (.inl rfl) rfl (⟨_, _, rfl, rfl, rfl⟩) ?_
          intro w' m
          have hjn : j = nl := by omega
          subst hjn
          exact ⟨(ad, cp), rfl, m⟩

end Go.Proofs.YtjibkjoaamchoaaGreatDoor
