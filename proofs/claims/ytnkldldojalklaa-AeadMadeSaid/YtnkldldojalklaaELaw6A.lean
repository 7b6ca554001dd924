/- Lemmas and contracts for the proof of this seat's statements (Law6A). No condition. -/
import Derived.Test.YtnkldldojalklaaEPar2
import Derived.Test.YtnkldldojalklaaProg
import Derived.KernelRfl
import Derived.Test.YtnkldldojalklaaESeaA
set_option linter.all false
namespace Go.Proofs.Ytnkldldojalklaa
open Go.Mc
private theorem fd24_2 : fdB Try.prog 24 2 2 22 = true := by kernel_rfl
private theorem sz22 : szB Try.prog 22 1 = true := by kernel_rfl
private theorem sc22 : scB Try.prog 22 = true := by kernel_rfl
private theorem sl22 : slB Try.prog 22 5 = true := by kernel_rfl
private theorem fd24_0 : fdB Try.prog 24 0 0 22 = true := by kernel_rfl
private theorem fd24_1 : fdB Try.prog 24 1 1 22 = true := by kernel_rfl
def greatP (nk nn np nb : Nat) : Prop := (nb + np > 50000 ∧ nb ≤ 1048576 ∧ np ≤ 1048592) ∨ nb + np > 4194304 ∨ nk + nn > 100000
instance (nk nn np nb : Nat) : Decidable (greatP nk nn np nb) := by unfold greatP; infer_instance

theorem great_ok (w : World) (ak an ap ab : Option Addr) (nk ck nn cn np cp nb cb : Nat) (h1 : nk ≤ 140737488355328) (h2 : nn ≤ 140737488355328) (h3 : np ≤ 140737488355328) (h4 : nb ≤ 140737488355328) :
    Calls Try.prog 7 #[.agg (#[.slice ak nk ck, .slice an nn cn, .slice ab nb cb]), .slice ap np cp] w (Ret (fun _ : Unit => kb (decide (greatP nk nn np nb))) (fun _ => Mem w [] [])) := by
  refine calls_of Try.func7 rfl rfl (L := [(0, .agg (#[.slice ak nk ck, .slice an nn cn, .slice ab nb cb])), (1, .slice ap np cp)]) ⟨rfl, rfl, trivial⟩ (m := 39) (Nat.le_of_ble_eq_true rfl) (M := Mem w [] []) (Mem.refl w) ?_
  refine wc_seq ?_
  refine wc_region ?_
  refine wl_eff (e_box (cs := #[.slice ak nk ck, .slice an nn cn, .slice ab nb cb]) rfl) rfl trivial rfl ?_
  intro b1
  refine wl_y (y_assign rfl) ?_
  refine wl_nil ?_
  refine aq_seq ?_
  refine wc_seq ?_
  refine wc_region ?_
  refine wl_y (y_fieldAddr fd24_2 sz22 rfl) ?_
  refine wl_y (y_load sc22 rfl (c_blk (i := 0) rfl rfl)) ?_
  refine wl_y (y_len_sl sl22 (m := nb) rfl rfl) ?_
  refine wl_y (y_move rfl) ?_
  refine wl_y (y_len_sl sl22 (m := np) rfl rfl) ?_
  refine wl_y (y_bin rfl rfl (addn_i64 (a := nb) (b := np) (by omega))) ?_
  refine wl_y (y_assign rfl) ?_
  refine wl_nil ?_
  refine aq_seq ?_
  refine wc_seq ?_
  refine wc_region ?_
  refine wl_y (y_move rfl) ?_
  refine wl_y (y_bin rfl rfl gtr_i64) ?_
  refine wl_y (y_move rfl) ?_
  refine wl_bool (t := 14) rfl (fun hs12 => ?_) (fun hs12 => ?_)
  · have hb12 : ((nb + np : Nat) : Int) > 50000 := by simpa using hs12
    refine wl_y (y_fieldAddr fd24_2 sz22 rfl) ?_ (hg := ⟨_, rfl, rfl⟩)
    refine wl_y (y_load sc22 rfl (c_blk (i := 0) rfl rfl)) ?_ (hg := ⟨_, rfl, rfl⟩)
    refine wl_y (y_len_sl sl22 (m := nb) rfl rfl) ?_ (hg := ⟨_, rfl, rfl⟩)
    refine wl_y (y_bin rfl rfl leq_i64) ?_ (hg := ⟨_, rfl, rfl⟩)
    refine wl_y (y_pick (b := true) rfl rfl) ?_
    refine wl_y (y_move rfl) ?_
    refine wl_bool (t := 20) rfl (fun hs18 => ?_) (fun hs18 => ?_)
    · have hb18 : (nb : Int) ≤ 1048576 := by simpa using hs18
      refine wl_y (y_move rfl) ?_ (hg := ⟨_, rfl, rfl⟩)
      refine wl_y (y_len_sl sl22 (m := np) rfl rfl) ?_ (hg := ⟨_, rfl, rfl⟩)
      refine wl_y (y_bin rfl rfl leq_i64) ?_ (hg := ⟨_, rfl, rfl⟩)
      refine wl_y (y_pick (b := true) rfl rfl) ?_
      refine wl_y (y_move rfl) ?_
      refine wl_bool (t := 25) rfl (fun hs23 => ?_) (fun hs23 => ?_)
      · have hb23 : (np : Int) ≤ 1048592 := by simpa using hs23
        refine wl_off ⟨_, _, rfl, rfl, .inl rfl⟩ rfl ?_
        refine wl_off ⟨_, _, rfl, rfl, .inl rfl⟩ rfl ?_
        refine wl_y (y_pick (b := true) rfl rfl) ?_
        refine wl_y (y_move rfl) ?_
        refine wl_off ⟨_, _, rfl, rfl, .inl rfl⟩ rfl ?_
        refine wl_off ⟨_, _, rfl, rfl, .inl rfl⟩ rfl ?_
        refine wl_off ⟨_, _, rfl, rfl, .inl rfl⟩ rfl ?_
        refine wl_off ⟨_, _, rfl, rfl, .inl rfl⟩ rfl ?_
        refine wl_off ⟨_, _, rfl, rfl, .inl rfl⟩ rfl ?_
        refine wl_off ⟨_, _, rfl, rfl, .inl rfl⟩ rfl ?_
        refine wl_off ⟨_, _, rfl, rfl, .inl rfl⟩ rfl ?_
        refine wl_off ⟨_, _, rfl, rfl, .inl rfl⟩ rfl ?_
        refine wl_y (y_pick (b := true) rfl rfl) ?_
        refine wl_y (y_assign rfl) ?_
        refine wl_nil ?_
        refine aq_seq ?_
        refine wc_ret ?_
        refine aq_return (.inl rfl) rfl (⟨_, _, rfl, rfl, rfl⟩) ?_
        intro w' m
        refine ⟨(), congrArg Ending.returned (congrArg kb ?_), m.pick (is := []) rfl List.nodup_nil⟩
        unfold greatP
        first | exact (decide_eq_true (by omega)).symm | exact (decide_eq_false (by omega)).symm | exact decide_eq_decide.2 (by omega)
      · have hb23 : ¬ ((np : Int) ≤ 1048592) := by simpa using hs23
        refine wl_y (y_move rfl) ?_ (hg := ⟨_, rfl, rfl⟩)
        refine wl_y (y_bin rfl rfl gtr_i64) ?_ (hg := ⟨_, rfl, rfl⟩)
        refine wl_y (y_pick (b := false) rfl rfl) ?_
        refine wl_y (y_move rfl) ?_
        refine wl_bool (t := 29) rfl (fun hs27 => ?_) (fun hs27 => ?_)
        · have hb27 : ((nb + np : Nat) : Int) > 4194304 := by simpa using hs27
          refine wl_off ⟨_, _, rfl, rfl, .inl rfl⟩ rfl ?_
          refine wl_off ⟨_, _, rfl, rfl, .inl rfl⟩ rfl ?_
          refine wl_off ⟨_, _, rfl, rfl, .inl rfl⟩ rfl ?_
          refine wl_off ⟨_, _, rfl, rfl, .inl rfl⟩ rfl ?_
          refine wl_off ⟨_, _, rfl, rfl, .inl rfl⟩ rfl ?_
          refine wl_off ⟨_, _, rfl, rfl, .inl rfl⟩ rfl ?_
          refine wl_off ⟨_, _, rfl, rfl, .inl rfl⟩ rfl ?_
          refine wl_off ⟨_, _, rfl, rfl, .inl rfl⟩ rfl ?_
          refine wl_y (y_pick (b := true) rfl rfl) ?_
          refine wl_y (y_assign rfl) ?_
          refine wl_nil ?_
          refine aq_seq ?_
          refine wc_ret ?_
          refine aq_return (.inl rfl) rfl (⟨_, _, rfl, rfl, rfl⟩) ?_
          intro w' m
          refine ⟨(), congrArg Ending.returned (congrArg kb ?_), m.pick (is := []) rfl List.nodup_nil⟩
          unfold greatP
          first | exact (decide_eq_true (by omega)).symm | exact (decide_eq_false (by omega)).symm | exact decide_eq_decide.2 (by omega)
        · have hb27 : ¬ (((nb + np : Nat) : Int) > 4194304) := by simpa using hs27
          refine wl_y (y_fieldAddr fd24_0 sz22 rfl) ?_ (hg := ⟨_, rfl, rfl⟩)
          refine wl_y (y_load sc22 rfl (c_blk (i := 0) rfl rfl)) ?_ (hg := ⟨_, rfl, rfl⟩)
          refine wl_y (y_len_sl sl22 (m := nk) rfl rfl) ?_ (hg := ⟨_, rfl, rfl⟩)
          refine wl_y (y_fieldAddr fd24_1 sz22 rfl) ?_ (hg := ⟨_, rfl, rfl⟩)
          refine wl_y (y_load sc22 rfl (c_blk (i := 0) rfl rfl)) ?_ (hg := ⟨_, rfl, rfl⟩)
          refine wl_y (y_len_sl sl22 (m := nn) rfl rfl) ?_ (hg := ⟨_, rfl, rfl⟩)
          refine wl_y (y_bin rfl rfl (addn_i64 (a := nk) (b := nn) (by omega))) ?_ (hg := ⟨_, rfl, rfl⟩)
          refine wl_y (y_bin rfl rfl gtr_i64) ?_ (hg := ⟨_, rfl, rfl⟩)
          refine wl_y (y_pick (b := false) rfl rfl) ?_
          refine wl_y (y_assign rfl) ?_
          refine wl_nil ?_
          refine aq_seq ?_
          refine wc_ret ?_
          refine aq_return (.inl rfl) rfl (⟨_, _, rfl, rfl, rfl⟩) ?_
          intro w' m
          refine ⟨(), congrArg Ending.returned (congrArg kb ?_), m.pick (is := []) rfl List.nodup_nil⟩
          unfold greatP
          first | exact (decide_eq_true (by omega)).symm | exact (decide_eq_false (by omega)).symm | exact decide_eq_decide.2 (by omega)
    · have hb18 : ¬ ((nb : Int) ≤ 1048576) := by simpa using hs18
      refine wl_off ⟨_, _, rfl, rfl, .inl rfl⟩ rfl ?_
      refine wl_off ⟨_, _, rfl, rfl, .inl rfl⟩ rfl ?_
      refine wl_off ⟨_, _, rfl, rfl, .inl rfl⟩ rfl ?_
      refine wl_y (y_pick (b := false) rfl rfl) ?_
      refine wl_y (y_move rfl) ?_
      refine wl_y (y_move rfl) ?_ (hg := ⟨_, rfl, rfl⟩)
      refine wl_y (y_bin rfl rfl gtr_i64) ?_ (hg := ⟨_, rfl, rfl⟩)
      refine wl_y (y_pick (b := false) rfl rfl) ?_
      refine wl_y (y_move rfl) ?_
      refine wl_bool (t := 29) rfl (fun hs27 => ?_) (fun hs27 => ?_)
      · have hb27 : ((nb + np : Nat) : Int) > 4194304 := by simpa using hs27
        refine wl_off ⟨_, _, rfl, rfl, .inl rfl⟩ rfl ?_
        refine wl_off ⟨_, _, rfl, rfl, .inl rfl⟩ rfl ?_
        refine wl_off ⟨_, _, rfl, rfl, .inl rfl⟩ rfl ?_
        refine wl_off ⟨_, _, rfl, rfl, .inl rfl⟩ rfl ?_
        refine wl_off ⟨_, _, rfl, rfl, .inl rfl⟩ rfl ?_
        refine wl_off ⟨_, _, rfl, rfl, .inl rfl⟩ rfl ?_
        refine wl_off ⟨_, _, rfl, rfl, .inl rfl⟩ rfl ?_
        refine wl_off ⟨_, _, rfl, rfl, .inl rfl⟩ rfl ?_
        refine wl_y (y_pick (b := true) rfl rfl) ?_
        refine wl_y (y_assign rfl) ?_
        refine wl_nil ?_
        refine aq_seq ?_
        refine wc_ret ?_
        refine aq_return (.inl rfl) rfl (⟨_, _, rfl, rfl, rfl⟩) ?_
        intro w' m
        refine ⟨(), congrArg Ending.returned (congrArg kb ?_), m.pick (is := []) rfl List.nodup_nil⟩
        unfold greatP
        first | exact (decide_eq_true (by omega)).symm | exact (decide_eq_false (by omega)).symm | exact decide_eq_decide.2 (by omega)
      · have hb27 : ¬ (((nb + np : Nat) : Int) > 4194304) := by simpa using hs27
        refine wl_y (y_fieldAddr fd24_0 sz22 rfl) ?_ (hg := ⟨_, rfl, rfl⟩)
        refine wl_y (y_load sc22 rfl (c_blk (i := 0) rfl rfl)) ?_ (hg := ⟨_, rfl, rfl⟩)
        refine wl_y (y_len_sl sl22 (m := nk) rfl rfl) ?_ (hg := ⟨_, rfl, rfl⟩)
        refine wl_y (y_fieldAddr fd24_1 sz22 rfl) ?_ (hg := ⟨_, rfl, rfl⟩)
        refine wl_y (y_load sc22 rfl (c_blk (i := 0) rfl rfl)) ?_ (hg := ⟨_, rfl, rfl⟩)
        refine wl_y (y_len_sl sl22 (m := nn) rfl rfl) ?_ (hg := ⟨_, rfl, rfl⟩)
        refine wl_y (y_bin rfl rfl (addn_i64 (a := nk) (b := nn) (by omega))) ?_ (hg := ⟨_, rfl, rfl⟩)
        refine wl_y (y_bin rfl rfl gtr_i64) ?_ (hg := ⟨_, rfl, rfl⟩)
        refine wl_y (y_pick (b := false) rfl rfl) ?_
        refine wl_y (y_assign rfl) ?_
        refine wl_nil ?_
        refine aq_seq ?_
        refine wc_ret ?_
        refine aq_return (.inl rfl) rfl (⟨_, _, rfl, rfl, rfl⟩) ?_
        intro w' m
        refine ⟨(), congrArg Ending.returned (congrArg kb ?_), m.pick (is := []) rfl List.nodup_nil⟩
        unfold greatP
        first | exact (decide_eq_true (by omega)).symm | exact (decide_eq_false (by omega)).symm | exact decide_eq_decide.2 (by omega)
  · have hb12 : ¬ (((nb + np : Nat) : Int) > 50000) := by simpa using hs12
    refine wl_off ⟨_, _, rfl, rfl, .inl rfl⟩ rfl ?_
    refine wl_off ⟨_, _, rfl, rfl, .inl rfl⟩ rfl ?_
    refine wl_off ⟨_, _, rfl, rfl, .inl rfl⟩ rfl ?_
    refine wl_off ⟨_, _, rfl, rfl, .inl rfl⟩ rfl ?_
    refine wl_y (y_pick (b := false) rfl rfl) ?_
    refine wl_y (y_move rfl) ?_
    refine wl_off ⟨_, _, rfl, rfl, .inl rfl⟩ rfl ?_
    refine wl_off ⟨_, _, rfl, rfl, .inl rfl⟩ rfl ?_
    refine wl_off ⟨_, _, rfl, rfl, .inl rfl⟩ rfl ?_
    refine wl_y (y_pick (b := false) rfl rfl) ?_
    refine wl_y (y_move rfl) ?_
    refine wl_y (y_move rfl) ?_ (hg := ⟨_, rfl, rfl⟩)
    refine wl_y (y_bin rfl rfl gtr_i64) ?_ (hg := ⟨_, rfl, rfl⟩)
    refine wl_y (y_pick (b := false) rfl rfl) ?_
    refine wl_y (y_move rfl) ?_
    refine wl_bool (t := 29) rfl (fun hs27 => ?_) (fun hs27 => ?_)
    · have hb27 : ((nb + np : Nat) : Int) > 4194304 := by simpa using hs27
      refine wl_off ⟨_, _, rfl, rfl, .inl rfl⟩ rfl ?_
      refine wl_off ⟨_, _, rfl, rfl, .inl rfl⟩ rfl ?_
      refine wl_off ⟨_, _, rfl, rfl, .inl rfl⟩ rfl ?_
      refine wl_off ⟨_, _, rfl, rfl, .inl rfl⟩ rfl ?_
      refine wl_off ⟨_, _, rfl, rfl, .inl rfl⟩ rfl ?_
      refine wl_off ⟨_, _, rfl, rfl, .inl rfl⟩ rfl ?_
      refine wl_off ⟨_, _, rfl, rfl, .inl rfl⟩ rfl ?_
      refine wl_off ⟨_, _, rfl, rfl, .inl rfl⟩ rfl ?_
      refine wl_y (y_pick (b := true) rfl rfl) ?_
      refine wl_y (y_assign rfl) ?_
      refine wl_nil ?_
      refine aq_seq ?_
      refine wc_ret ?_
      refine aq_return (.inl rfl) rfl (⟨_, _, rfl, rfl, rfl⟩) ?_
      intro w' m
      refine ⟨(), congrArg Ending.returned (congrArg kb ?_), m.pick (is := []) rfl List.nodup_nil⟩
      unfold greatP
      first | exact (decide_eq_true (by omega)).symm | exact (decide_eq_false (by omega)).symm | exact decide_eq_decide.2 (by omega)
    · have hb27 : ¬ (((nb + np : Nat) : Int) > 4194304) := by simpa using hs27
      refine wl_y (y_fieldAddr fd24_0 sz22 rfl) ?_ (hg := ⟨_, rfl, rfl⟩)
      refine wl_y (y_load sc22 rfl (c_blk (i := 0) rfl rfl)) ?_ (hg := ⟨_, rfl, rfl⟩)
      refine wl_y (y_len_sl sl22 (m := nk) rfl rfl) ?_ (hg := ⟨_, rfl, rfl⟩)
      refine wl_y (y_fieldAddr fd24_1 sz22 rfl) ?_ (hg := ⟨_, rfl, rfl⟩)
      refine wl_y (y_load sc22 rfl (c_blk (i := 0) rfl rfl)) ?_ (hg := ⟨_, rfl, rfl⟩)
      refine wl_y (y_len_sl sl22 (m := nn) rfl rfl) ?_ (hg := ⟨_, rfl, rfl⟩)
      refine wl_y (y_bin rfl rfl (addn_i64 (a := nk) (b := nn) (by omega))) ?_ (hg := ⟨_, rfl, rfl⟩)
      refine wl_y (y_bin rfl rfl gtr_i64) ?_ (hg := ⟨_, rfl, rfl⟩)
      refine wl_y (y_pick (b := false) rfl rfl) ?_
      refine wl_y (y_assign rfl) ?_
      refine wl_nil ?_
      refine aq_seq ?_
      refine wc_ret ?_
      refine aq_return (.inl rfl) rfl (⟨_, _, rfl, rfl, rfl⟩) ?_
      intro w' m
      refine ⟨(), congrArg Ending.returned (congrArg kb ?_), m.pick (is := []) rfl List.nodup_nil⟩
      unfold greatP
      first | exact (decide_eq_true (by omega)).symm | exact (decide_eq_false (by omega)).symm | exact decide_eq_decide.2 (by omega)

end Go.Proofs.Ytnkldldojalklaa
