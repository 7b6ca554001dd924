/- Lemmas and contracts for the proof of this seat's statements (Neg03F). No condition. -/
import Derived.Test.YtjibkjoaamchoaaGreatDoorEBk
import Derived.Test.YtjibkjoaamchoaaGreatDoorProg
import Derived.KernelRfl
import Derived.Test.YtjibkjoaamchoaaGreatDoorEPlaA
import Derived.Test.YtjibkjoaamchoaaGreatDoorERef3F
set_option linter.all false
namespace Go.Proofs.YtjibkjoaamchoaaGreatDoor
open Go.Mc
private theorem sc3 : scB Tryz.prog 3 = true := by kernel_rfl
private theorem ut9 : Tryz.prog.underlying 9 = some .string := by kernel_rfl
private theorem sl22 : slB Tryz.prog 22 5 = true := by kernel_rfl
theorem expand_neg (w : World) (ak ai : Option Addr) (nk ck ni ci : Nat) (k : Int) (hk : k < 0) :
    Calls Tryz.prog 7 #[.slice ak nk ck, .slice ai ni ci, ki (k)] w (Ret (fun r : Option Addr × Nat => .tuple #[.slice r.1 0 r.2, ki 1]) (fun r => Mem w [] [.sl r.1 0 r.2 5 1 (([] : List UInt8).map b8)])) := by
  refine calls_ofM Tryz.func7 rfl rfl (L := [(0, .slice ak nk ck), (1, .slice ai ni ci), (2, ki (k))]) ⟨rfl, rfl, rfl, trivial⟩ (m := 47) (Nat.le_of_ble_eq_true rfl) (M := Mem w [] []) (Mem.refl w) ?_
  refine wc_seq ?_
  refine wc_region ?_
  refine wl_eff (e_box (cs := #[ki (k)]) rfl) rfl trivial rfl ?_
  intro b1
  refine wl_y (y_assign rfl) ?_
  refine wl_y (y_assign rfl) ?_
  refine wl_nil ?_
  refine aq_seq ?_
  refine wc_seq ?_
  refine wc_block ?_
  refine wc_seq ?_
  refine wc_region ?_
  refine wl_y (y_load sc3 rfl (c_blk (i := 0) rfl rfl)) ?_
  refine wl_y (y_bin rfl rfl lss_i64) ?_
  refine wl_re (t := 12) (v' := kb (true)) rfl (congrArg kb (decide_eq_true (by omega))) ?_
  refine wl_y (y_move rfl) ?_
  refine wl_off ⟨_, _, rfl, rfl, .inl rfl⟩ rfl ?_
  refine wl_off ⟨_, _, rfl, rfl, .inl rfl⟩ rfl ?_
  refine wl_y (y_pick (b := true) rfl rfl) ?_
  refine wl_y (y_assign rfl) ?_
  refine wl_nil ?_
  refine aq_seq ?_
  refine wc_then rfl ?_
  refine wc_seq ?_
  refine wc_region ?_
  refine wl_y (y_assign rfl) ?_
  refine wl_y (y_assign rfl) ?_
  refine wl_nil ?_
  refine aq_seq ?_
  refine wc_ret ?_
  refine aq_blk_ret ?_
  refine aq_thru_ret ?_
  refine aq_returnM0 (.inl rfl) rfl (⟨_, _, rfl, rfl, ⟨_, _, rfl, rfl, rfl⟩⟩) ?_
  intro w' m
  exact ⟨(none, 0), rfl, (m.pick (is := []) rfl List.nodup_nil).nilsl 5 1⟩

theorem rexpand_neg (w : World) (ak ai : Option Addr) (nk ck ni ci : Nat) (k : Int) (hk : k < 0) :
    Calls Tryz.prog 8 #[.slice ak nk ck, .slice ai ni ci, ki (k)] w (Ret (fun r : Option Addr × Nat => .tuple #[.slice r.1 0 r.2, ki 1]) (fun r => Mem w [] [.sl r.1 0 r.2 5 1 (([] : List UInt8).map b8)])) := by
  refine calls_of Tryz.func8 rfl rfl (L := [(0, .slice ak nk ck), (1, .slice ai ni ci), (2, ki (k))]) ⟨rfl, rfl, rfl, trivial⟩ (m := 52) (Nat.le_of_ble_eq_true rfl) (M := Mem w [] []) (Mem.refl w) ?_
  refine wc_seq ?_
  refine wc_region ?_
  refine wl_y (y_assign rfl) ?_
  refine wl_y (y_assign rfl) ?_
  refine wl_nil ?_
  refine aq_seq ?_
  refine wc_seq ?_
  refine wc_seq ?_
  refine wc_region ?_
  refine wl_y (y_move rfl) ?_
  refine wl_y (y_bin rfl rfl lss_i64) ?_
  refine wl_re (t := 13) (v' := kb (true)) rfl (congrArg kb (decide_eq_true (by omega))) ?_
  refine wl_y (y_move rfl) ?_
  refine wl_off ⟨_, _, rfl, rfl, .inl rfl⟩ rfl ?_
  refine wl_off ⟨_, _, rfl, rfl, .inl rfl⟩ rfl ?_
  refine wl_y (y_pick (b := true) rfl rfl) ?_
  refine wl_nil ?_
  refine aq_seq ?_
  refine wc_then rfl ?_
  refine wc_seq ?_
  refine wc_region ?_
  refine wl_y (y_assign rfl) ?_
  refine wl_y (y_assign rfl) ?_
  refine wl_nil ?_
  refine aq_seq ?_
  refine wc_ret ?_
  refine aq_thru_ret ?_
  refine aq_return (.inl rfl) rfl (⟨_, _, rfl, rfl, ⟨_, _, rfl, rfl, rfl⟩⟩) ?_
  intro w' m
  exact ⟨(none, 0), rfl, (m.pick (is := []) rfl List.nodup_nil).nilsl 5 1⟩

theorem label_neg (w : World) (ak ac : Option Addr) (nk ck nc cc : Nat) (ln : List UInt8) (nn : Nat) (k : Int) (hk : k < 0) (hln : ln.length = nn) :
    Calls Tryz.prog 13 #[.slice ak nk ck, .string (bs ln), .slice ac nc cc, ki (k)] w (Ret (fun r : Option Addr × Nat => .tuple #[.slice r.1 0 r.2, ki 1]) (fun r => Mem w [] [.sl r.1 0 r.2 5 1 (([] : List UInt8).map b8)])) := by
  refine calls_of Tryz.func13 rfl rfl (L := [(0, .slice ak nk ck), (1, .string (bs ln)), (2, .slice ac nc cc), (3, ki (k))]) ⟨rfl, rfl, rfl, rfl, trivial⟩ (m := 53) (Nat.le_of_ble_eq_true rfl) (M := Mem w [] []) (Mem.refl w) ?_
  refine wc_seq ?_
  refine wc_region ?_
  refine wl_y (y_assign rfl) ?_
  refine wl_y (y_assign rfl) ?_
  refine wl_nil ?_
  refine aq_seq ?_
  refine wc_seq ?_
  refine wc_seq ?_
  refine wc_region ?_
  refine wl_y (y_move rfl) ?_
  refine wl_y (y_len_str (l := ln) (m := nn) ut9 rfl rfl (by first | omega | (simp; done) | (simp [*]; done) | (simp; omega))) ?_
  refine wl_y (y_bin rfl rfl gtr_i64) ?_
  refine wl_bool (t := 13) rfl (fun hs5 => ?_) (fun hs5 => ?_)
  · have hb5 : (nn : Int) > 249 := by simpa using hs5
    refine wl_y (y_move rfl) ?_
    refine wl_off ⟨_, _, rfl, rfl, .inl rfl⟩ rfl ?_
    refine wl_off ⟨_, _, rfl, rfl, .inl rfl⟩ rfl ?_
    refine wl_off ⟨_, _, rfl, rfl, .inl rfl⟩ rfl ?_
    refine wl_y (y_pick (b := true) rfl rfl) ?_
    refine wl_y (y_move rfl) ?_
    refine wl_off ⟨_, _, rfl, rfl, .inl rfl⟩ rfl ?_
    refine wl_off ⟨_, _, rfl, rfl, .inl rfl⟩ rfl ?_
    refine wl_y (y_pick (b := true) rfl rfl) ?_
    refine wl_y (y_move rfl) ?_
    refine wl_off ⟨_, _, rfl, rfl, .inl rfl⟩ rfl ?_
    refine wl_off ⟨_, _, rfl, rfl, .inl rfl⟩ rfl ?_
    refine wl_y (y_pick (b := true) rfl rfl) ?_
    refine wl_nil ?_
    refine aq_seq ?_
    refine wc_then rfl ?_
    refine wc_seq ?_
    refine wc_region ?_
    refine wl_y (y_assign rfl) ?_
    refine wl_y (y_assign rfl) ?_
    refine wl_nil ?_
    refine aq_seq ?_
    refine wc_ret ?_
    refine aq_thru_ret ?_
    refine aq_return (.inl rfl) rfl (⟨_, _, rfl, rfl, ⟨_, _, rfl, rfl, rfl⟩⟩) ?_
    intro w' m
    exact ⟨(none, 0), rfl, (m.pick (is := []) rfl List.nodup_nil).nilsl 5 1⟩
  · have hb5 : ¬ ((nn : Int) > 249) := by simpa using hs5
    refine wl_y (y_move rfl) ?_
    refine wl_y (y_move rfl) ?_ (hg := ⟨_, rfl, rfl⟩)
    refine wl_y (y_len_sl sl22 (m := nc) rfl rfl) ?_ (hg := ⟨_, rfl, rfl⟩)
    refine wl_y (y_bin rfl rfl gtr_i64) ?_ (hg := ⟨_, rfl, rfl⟩)
    refine wl_bool (t := 17) rfl (fun hs9 => ?_) (fun hs9 => ?_)
    · have hb9 : (nc : Int) > 255 := by simpa using hs9
      refine wl_y (y_pick (b := false) rfl rfl) ?_
      refine wl_y (y_move rfl) ?_
      refine wl_off ⟨_, _, rfl, rfl, .inl rfl⟩ rfl ?_
      refine wl_off ⟨_, _, rfl, rfl, .inl rfl⟩ rfl ?_
      refine wl_y (y_pick (b := true) rfl rfl) ?_
      refine wl_y (y_move rfl) ?_
      refine wl_off ⟨_, _, rfl, rfl, .inl rfl⟩ rfl ?_
      refine wl_off ⟨_, _, rfl, rfl, .inl rfl⟩ rfl ?_
      refine wl_y (y_pick (b := true) rfl rfl) ?_
      refine wl_nil ?_
      refine aq_seq ?_
      refine wc_then rfl ?_
      refine wc_seq ?_
      refine wc_region ?_
      refine wl_y (y_assign rfl) ?_
      refine wl_y (y_assign rfl) ?_
      refine wl_nil ?_
      refine aq_seq ?_
      refine wc_ret ?_
      refine aq_thru_ret ?_
      refine aq_return (.inl rfl) rfl (⟨_, _, rfl, rfl, ⟨_, _, rfl, rfl, rfl⟩⟩) ?_
      intro w' m
      exact ⟨(none, 0), rfl, (m.pick (is := []) rfl List.nodup_nil).nilsl 5 1⟩
    · have hb9 : ¬ ((nc : Int) > 255) := by simpa using hs9
      refine wl_y (y_pick (b := false) rfl rfl) ?_
      refine wl_y (y_move rfl) ?_
      refine wl_y (y_move rfl) ?_ (hg := ⟨_, rfl, rfl⟩)
      refine wl_y (y_bin rfl rfl lss_i64) ?_ (hg := ⟨_, rfl, rfl⟩)
      refine wl_re (t := 21) (v' := kb (true)) rfl (congrArg kb (decide_eq_true (by omega))) ?_
      refine wl_y (y_pick (b := false) rfl rfl) ?_
      refine wl_y (y_move rfl) ?_
      refine wl_off ⟨_, _, rfl, rfl, .inl rfl⟩ rfl ?_
      refine wl_off ⟨_, _, rfl, rfl, .inl rfl⟩ rfl ?_
      refine wl_y (y_pick (b := true) rfl rfl) ?_
      refine wl_nil ?_
      refine aq_seq ?_
      refine wc_then rfl ?_
      refine wc_seq ?_
      refine wc_region ?_
      refine wl_y (y_assign rfl) ?_
      refine wl_y (y_assign rfl) ?_
      refine wl_nil ?_
      refine aq_seq ?_
      refine wc_ret ?_
      refine aq_thru_ret ?_
      refine aq_return (.inl rfl) rfl (⟨_, _, rfl, rfl, ⟨_, _, rfl, rfl, rfl⟩⟩) ?_
      intro w' m
      exact ⟨(none, 0), rfl, (m.pick (is := []) rfl List.nodup_nil).nilsl 5 1⟩

theorem rlabel_neg (w : World) (ak ac : Option Addr) (nk ck nc cc : Nat) (ln : List UInt8) (nn : Nat) (k : Int) (hk : k < 0) (hln : ln.length = nn) :
    Calls Tryz.prog 14 #[.slice ak nk ck, .string (bs ln), .slice ac nc cc, ki (k)] w (Ret (fun r : Option Addr × Nat => .tuple #[.slice r.1 0 r.2, ki 1]) (fun r => Mem w [] [.sl r.1 0 r.2 5 1 (([] : List UInt8).map b8)])) := by
  refine calls_of Tryz.func14 rfl rfl (L := [(0, .slice ak nk ck), (1, .string (bs ln)), (2, .slice ac nc cc), (3, ki (k))]) ⟨rfl, rfl, rfl, rfl, trivial⟩ (m := 57) (Nat.le_of_ble_eq_true rfl) (M := Mem w [] []) (Mem.refl w) ?_
  refine wc_seq ?_
  refine wc_region ?_
  refine wl_y (y_assign rfl) ?_
  refine wl_y (y_assign rfl) ?_
  refine wl_nil ?_
  refine aq_seq ?_
  refine wc_seq ?_
  refine wc_seq ?_
  refine wc_region ?_
  refine wl_y (y_move rfl) ?_
  refine wl_y (y_len_str (l := ln) (m := nn) ut9 rfl rfl (by first | omega | (simp; done) | (simp [*]; done) | (simp; omega))) ?_
  refine wl_y (y_bin rfl rfl gtr_i64) ?_
  refine wl_bool (t := 13) rfl (fun hs5 => ?_) (fun hs5 => ?_)
  · have hb5 : (nn : Int) > 249 := by simpa using hs5
    refine wl_y (y_move rfl) ?_
    refine wl_off ⟨_, _, rfl, rfl, .inl rfl⟩ rfl ?_
    refine wl_off ⟨_, _, rfl, rfl, .inl rfl⟩ rfl ?_
    refine wl_off ⟨_, _, rfl, rfl, .inl rfl⟩ rfl ?_
    refine wl_y (y_pick (b := true) rfl rfl) ?_
    refine wl_y (y_move rfl) ?_
    refine wl_off ⟨_, _, rfl, rfl, .inl rfl⟩ rfl ?_
    refine wl_off ⟨_, _, rfl, rfl, .inl rfl⟩ rfl ?_
    refine wl_y (y_pick (b := true) rfl rfl) ?_
    refine wl_y (y_move rfl) ?_
    refine wl_off ⟨_, _, rfl, rfl, .inl rfl⟩ rfl ?_
    refine wl_off ⟨_, _, rfl, rfl, .inl rfl⟩ rfl ?_
    refine wl_y (y_pick (b := true) rfl rfl) ?_
    refine wl_nil ?_
    refine aq_seq ?_
    refine wc_then rfl ?_
    refine wc_seq ?_
    refine wc_region ?_
    refine wl_y (y_assign rfl) ?_
    refine wl_y (y_assign rfl) ?_
    refine wl_nil ?_
    refine aq_seq ?_
    refine wc_ret ?_
    refine aq_thru_ret ?_
    refine aq_return (.inl rfl) rfl (⟨_, _, rfl, rfl, ⟨_, _, rfl, rfl, rfl⟩⟩) ?_
    intro w' m
    exact ⟨(none, 0), rfl, (m.pick (is := []) rfl List.nodup_nil).nilsl 5 1⟩
  · have hb5 : ¬ ((nn : Int) > 249) := by simpa using hs5
    refine wl_y (y_move rfl) ?_
    refine wl_y (y_move rfl) ?_ (hg := ⟨_, rfl, rfl⟩)
    refine wl_y (y_len_sl sl22 (m := nc) rfl rfl) ?_ (hg := ⟨_, rfl, rfl⟩)
    refine wl_y (y_bin rfl rfl gtr_i64) ?_ (hg := ⟨_, rfl, rfl⟩)
    refine wl_bool (t := 17) rfl (fun hs9 => ?_) (fun hs9 => ?_)
    · have hb9 : (nc : Int) > 255 := by simpa using hs9
      refine wl_y (y_pick (b := false) rfl rfl) ?_
      refine wl_y (y_move rfl) ?_
      refine wl_off ⟨_, _, rfl, rfl, .inl rfl⟩ rfl ?_
      refine wl_off ⟨_, _, rfl, rfl, .inl rfl⟩ rfl ?_
      refine wl_y (y_pick (b := true) rfl rfl) ?_
      refine wl_y (y_move rfl) ?_
      refine wl_off ⟨_, _, rfl, rfl, .inl rfl⟩ rfl ?_
      refine wl_off ⟨_, _, rfl, rfl, .inl rfl⟩ rfl ?_
      refine wl_y (y_pick (b := true) rfl rfl) ?_
      refine wl_nil ?_
      refine aq_seq ?_
      refine wc_then rfl ?_
      refine wc_seq ?_
      refine wc_region ?_
      refine wl_y (y_assign rfl) ?_
      refine wl_y (y_assign rfl) ?_
      refine wl_nil ?_
      refine aq_seq ?_
      refine wc_ret ?_
      refine aq_thru_ret ?_
      refine aq_return (.inl rfl) rfl (⟨_, _, rfl, rfl, ⟨_, _, rfl, rfl, rfl⟩⟩) ?_
      intro w' m
      exact ⟨(none, 0), rfl, (m.pick (is := []) rfl List.nodup_nil).nilsl 5 1⟩
    · have hb9 : ¬ ((nc : Int) > 255) := by simpa using hs9
      refine wl_y (y_pick (b := false) rfl rfl) ?_
      refine wl_y (y_move rfl) ?_
      refine wl_y (y_move rfl) ?_ (hg := ⟨_, rfl, rfl⟩)
      refine wl_y (y_bin rfl rfl lss_i64) ?_ (hg := ⟨_, rfl, rfl⟩)
      refine wl_re (t := 21) (v' := kb (true)) rfl (congrArg kb (decide_eq_true (by omega))) ?_
      refine wl_y (y_pick (b := false) rfl rfl) ?_
      refine wl_y (y_move rfl) ?_
      refine wl_off ⟨_, _, rfl, rfl, .inl rfl⟩ rfl ?_
      refine wl_off ⟨_, _, rfl, rfl, .inl rfl⟩ rfl ?_
      refine wl_y (y_pick (b := true) rfl rfl) ?_
      refine wl_nil ?_
      refine aq_seq ?_
      refine wc_then rfl ?_
      refine wc_seq ?_
      refine wc_region ?_
      refine wl_y (y_assign rfl) ?_
      refine wl_y (y_assign rfl) ?_
      refine wl_nil ?_
      refine aq_seq ?_
      refine wc_ret ?_
      refine aq_thru_ret ?_
      refine aq_return (.inl rfl) rfl (⟨_, _, rfl, rfl, ⟨_, _, rfl, rfl, rfl⟩⟩) ?_
      intro w' m
      exact ⟨(none, 0), rfl, (m.pick (is := []) rfl List.nodup_nil).nilsl 5 1⟩

end Go.Proofs.YtjibkjoaamchoaaGreatDoor
