/- Lemmas and contracts for the proof of this seat's statements (Hkdf3F). No condition. -/
import Derived.Test.YtjibkjoaamchoaaGreatDoorEBk
import Derived.Test.YtjibkjoaamchoaaGreatDoorProg
import Derived.KernelRfl
import Derived.Test.YtjibkjoaamchoaaGreatDoorEPlaA
import Derived.Test.YtjibkjoaamchoaaGreatDoorEHkdf2F
set_option linter.all false
namespace Go.Proofs.YtjibkjoaamchoaaGreatDoor
open Go.Mc
private theorem ut9 : Tryz.prog.underlying 9 = some .string := by kernel_rfl
private theorem sl22 : slB Tryz.prog 22 5 = true := by kernel_rfl
private theorem us3 : (Tryz.prog.underlying 3).isSome = true := by kernel_rfl
private theorem ui5 : Tryz.prog.underlying 5 = some (.int .u8) := by kernel_rfl
private theorem el5 : elB Tryz.prog 5 1 1 (b8 (0)) := elB_of (by kernel_rfl) (by kernel_rfl) (by unfold znB; kernel_rfl)
private theorem ub5 : Tryz.prog.underlying 5 = some (.int .u8) := by kernel_rfl
private theorem sl50 : slB Tryz.prog 50 22 = true := by kernel_rfl
private theorem el22 : elB Tryz.prog 22 1 24 (.slice none 0 0) := elB_of (by kernel_rfl) (by kernel_rfl) (by unfold znB; kernel_rfl)
private theorem cf55 : cfB Tryz.prog 55 = true := by kernel_rfl
private theorem cf7 : cfB Tryz.prog 7 = true := by kernel_rfl
attribute [local irreducible] macF keyF exTo exO

theorem label_ok (w : World) (ak ac : Option Addr) (nk ck nc cc : Nat) (lk lc ln : List UInt8) (nn : Nat) (n : Nat) (hk : Rd w ak nk 1 (lk.map b8)) (hc : Rd w ac nc 1 (lc.map b8)) (hck : nk ≤ ck) (hln : ln.length = nn) (hn : n ≤ 9223372036854775807) :
    Calls Tryz.prog 13 #[.slice ak nk ck, .string (bs ln), .slice ac nc cc, ki ((n : Int))] w (Ret (fun r : Option Addr × Nat => .tuple #[.slice r.1 (laN nk nn nc n) r.2, ki (laE nk nn nc n : Nat)]) (fun r => Mem w [] [.sl r.1 (laN nk nn nc n) r.2 5 1 ((laO lk nk ln nn lc nc n).map b8)])) := by
  have hlk := hk.len
  have hlc := hc.len
  refine calls_of Tryz.func13 rfl rfl (L := [(0, .slice ak nk ck), (1, .string (bs ln)), (2, .slice ac nc cc), (3, ki ((n : Int)))]) ⟨rfl, rfl, rfl, rfl, trivial⟩ (m := 53) (Nat.le_of_ble_eq_true rfl) (M := Mem w [] []) (Mem.refl w) ?_
  refine wc_seq ?_
  refine wc_region ?_
  refine wl_y (y_assign rfl) ?_
  refine wl_y (y_assign rfl) ?_
  refine wl_nil ?_
  refine aq_seq ?_
  refine wc_seq ?_
  refine wc_seq ?_
  refine wc_region ?_
  refine wl_y (y_move rfl) ?_
  refine wl_y (y_len_str (l := ln) (m := nn) ut9 rfl rfl (by first | omega | (simp; done) | (simp [*]; done) | (simp; omega))) ?_
  refine wl_y (y_bin rfl rfl gtr_i64) ?_
  refine wl_bool (t := 13) rfl (fun hs5 => ?_) (fun hs5 => ?_)
  · have hb5 : (nn : Int) > 249 := by simpa using hs5
    have hbad : 249 < nn ∨ 255 < nc ∨ 8160 < n := .inl (by omega)
    have he := laE_1 (nk := nk) hbad
    have h2 := laN_1 (nk := nk) hbad
    have h3 := laO_1 (nk := nk) lk ln lc hbad
    refine wl_y (y_move rfl) ?_
    refine wl_off ⟨_, _, rfl, rfl, .inl rfl⟩ rfl ?_
    refine wl_off ⟨_, _, rfl, rfl, .inl rfl⟩ rfl ?_
    refine wl_off ⟨_, _, rfl, rfl, .inl rfl⟩ rfl ?_
    refine wl_y (y_pick (b := true) rfl rfl) ?_
    refine wl_y (y_move rfl) ?_
    refine wl_off ⟨_, _, rfl, rfl, .inl rfl⟩ rfl ?_
    refine wl_off ⟨_, _, rfl, rfl, .inl rfl⟩ rfl ?_
    refine wl_y (y_pick (b := true) rfl rfl) ?_
    refine wl_y (y_move rfl) ?_
    refine wl_off ⟨_, _, rfl, rfl, .inl rfl⟩ rfl ?_
    refine wl_off ⟨_, _, rfl, rfl, .inl rfl⟩ rfl ?_
    refine wl_y (y_pick (b := true) rfl rfl) ?_
    refine wl_nil ?_
    refine aq_seq ?_
    refine wc_then rfl ?_
    refine wc_seq ?_
    refine wc_region ?_
    refine wl_y (y_assign rfl) ?_
    refine wl_y (y_assign rfl) ?_
    refine wl_nil ?_
    refine aq_seq ?_
    refine wc_ret ?_
    refine aq_thru_ret ?_
    refine aq_return (.inl rfl) rfl (⟨_, _, rfl, rfl, ⟨_, _, rfl, rfl, rfl⟩⟩) ?_
    intro w' m
    rw [he, h2, h3]
    exact ⟨(none, 0), rfl, (m.pick (is := []) rfl List.nodup_nil).nilsl 5 1⟩
  · have hb5 : ¬ ((nn : Int) > 249) := by simpa using hs5
    refine wl_y (y_move rfl) ?_
    refine wl_y (y_move rfl) ?_ (hg := ⟨_, rfl, rfl⟩)
    refine wl_y (y_len_sl sl22 (m := nc) rfl rfl) ?_ (hg := ⟨_, rfl, rfl⟩)
    refine wl_y (y_bin rfl rfl gtr_i64) ?_ (hg := ⟨_, rfl, rfl⟩)
    refine wl_bool (t := 17) rfl (fun hs9 => ?_) (fun hs9 => ?_)
    · have hb9 : (nc : Int) > 255 := by simpa using hs9
      have hbad : 249 < nn ∨ 255 < nc ∨ 8160 < n := .inr (.inl (by omega))
      have he := laE_1 (nk := nk) hbad
      have h2 := laN_1 (nk := nk) hbad
      have h3 := laO_1 (nk := nk) lk ln lc hbad
      refine wl_y (y_pick (b := false) rfl rfl) ?_
      refine wl_y (y_move rfl) ?_
      refine wl_off ⟨_, _, rfl, rfl, .inl rfl⟩ rfl ?_
      refine wl_off ⟨_, _, rfl, rfl, .inl rfl⟩ rfl ?_
      refine wl_y (y_pick (b := true) rfl rfl) ?_
      refine wl_y (y_move rfl) ?_
      refine wl_off ⟨_, _, rfl, rfl, .inl rfl⟩ rfl ?_
      refine wl_off ⟨_, _, rfl, rfl, .inl rfl⟩ rfl ?_
      refine wl_y (y_pick (b := true) rfl rfl) ?_
      refine wl_nil ?_
      refine aq_seq ?_
      refine wc_then rfl ?_
      refine wc_seq ?_
      refine wc_region ?_
      refine wl_y (y_assign rfl) ?_
      refine wl_y (y_assign rfl) ?_
      refine wl_nil ?_
      refine aq_seq ?_
      refine wc_ret ?_
      refine aq_thru_ret ?_
      refine aq_return (.inl rfl) rfl (⟨_, _, rfl, rfl, ⟨_, _, rfl, rfl, rfl⟩⟩) ?_
      intro w' m
      rw [he, h2, h3]
      exact ⟨(none, 0), rfl, (m.pick (is := []) rfl List.nodup_nil).nilsl 5 1⟩
    · have hb9 : ¬ ((nc : Int) > 255) := by simpa using hs9
      refine wl_y (y_pick (b := false) rfl rfl) ?_
      refine wl_y (y_move rfl) ?_
      refine wl_y (y_move rfl) ?_ (hg := ⟨_, rfl, rfl⟩)
      refine wl_y (y_bin rfl rfl lss_i64) ?_ (hg := ⟨_, rfl, rfl⟩)
      refine wl_re (t := 21) (v' := kb (false)) rfl (congrArg kb (decide_eq_false (by omega))) ?_
      refine wl_y (y_pick (b := false) rfl rfl) ?_
      refine wl_y (y_move rfl) ?_
      refine wl_y (y_move rfl) ?_ (hg := ⟨_, rfl, rfl⟩)
      refine wl_y (y_bin rfl rfl gtr_i64) ?_ (hg := ⟨_, rfl, rfl⟩)
      refine wl_y (y_pick (b := false) rfl rfl) ?_
      refine wl_nil ?_
      refine aq_seq ?_
      refine wc_if rfl (fun hc1 => ?_) (fun hc1 => ?_)
      · have hb1 : (n : Int) > 8160 := by simpa using hc1
        have hbad : 249 < nn ∨ 255 < nc ∨ 8160 < n := .inr (.inr (by omega))
        have he := laE_1 (nk := nk) hbad
        have h2 := laN_1 (nk := nk) hbad
        have h3 := laO_1 (nk := nk) lk ln lc hbad
        refine wc_seq ?_
        refine wc_region ?_
        refine wl_y (y_assign rfl) ?_
        refine wl_y (y_assign rfl) ?_
        refine wl_nil ?_
        refine aq_seq ?_
        refine wc_ret ?_
        refine aq_thru_ret ?_
        refine aq_return (.inl rfl) rfl (⟨_, _, rfl, rfl, ⟨_, _, rfl, rfl, rfl⟩⟩) ?_
        intro w' m
        rw [he, h2, h3]
        exact ⟨(none, 0), rfl, (m.pick (is := []) rfl List.nodup_nil).nilsl 5 1⟩
      · have hb1 : ¬ ((n : Int) > 8160) := by simpa using hc1
        have hgood : ¬ (249 < nn ∨ 255 < nc ∨ 8160 < n) := by omega
        have he := laE_0 (nk := nk) hgood
        have h2 := laN_0 (nk := nk) hgood
        have h3 := laO_0 (nk := nk) lk ln lc hgood
        refine wc_skip ?_
        refine aq_seq ?_
        refine wc_seq ?_
        refine wc_region ?_
        refine wl_y (y_move rfl) ?_
        refine wl_y (y_add_str (a := ([116, 108, 115, 49, 51, 32] : List UInt8)) (b := ln) rfl rfl (by first | omega | (simp; done) | (simp [*]; done) | (simp; omega))) ?_
        refine wl_y (y_assign rfl) ?_
        refine wl_nil ?_
        refine aq_seq ?_
        refine wc_seq ?_
        refine wc_region ?_
        refine wl_y (y_move rfl) ?_
        refine wl_y (y_bin rfl rfl (shrn_i64 (a := n) (k := 8) (by omega))) ?_
        refine wl_y (y_cv rfl us3 ui5 (congrArg (Value.int .u8) (cvn_u8 (n / 2 ^ 8) (by omega)))) ?_
        refine wl_y (y_move rfl) ?_
        refine wl_y (y_cv rfl us3 ui5 (congrArg (Value.int .u8) (cvn_u8 n (by omega)))) ?_
        refine wl_y (y_move rfl) ?_
        refine wl_y (y_len_str (l := (([116, 108, 115, 49, 51, 32] : List UInt8) ++ ln)) (m := (6 + nn)) ut9 rfl rfl (by first | omega | (simp; done) | (simp [*]; done) | (simp; omega))) ?_
        refine wl_y (y_cv rfl us3 ui5 (congrArg (Value.int .u8) (cvn_u8 (6 + nn) (by omega)))) ?_
        refine wl_eff (e_buildSlice (len := 3) [b8 (UInt8.ofNat (n / 2 ^ 8)), b8 (UInt8.ofNat n), b8 (UInt8.ofNat (6 + nn))] sl22 el5 rfl rfl rfl (by simp [Value.cells]) (by decide) [b8 (UInt8.ofNat (n / 2 ^ 8)), b8 (UInt8.ofNat n), b8 (UInt8.ofNat (6 + nn))] rfl) rfl trivial rfl ?_
        intro b1
        refine wl_y (y_move rfl) ?_
        refine wl_eff (e_conv_str (l := (([116, 108, 115, 49, 51, 32] : List UInt8) ++ ln)) (n := (6 + nn)) ut9 sl22 ub5 rfl (by first | omega | (simp; done) | (simp [*]; done) | (simp; omega))) rfl trivial rfl ?_
        intro q2
        refine wl_y (y_move rfl) ?_
        refine wl_y (y_len_sl sl22 (m := nc) rfl rfl) ?_
        refine wl_y (y_cv rfl us3 ui5 (congrArg (Value.int .u8) (cvn_u8 nc (by omega)))) ?_
        refine wl_eff (e_buildSlice (len := 1) [b8 (UInt8.ofNat nc)] sl22 el5 rfl rfl rfl (by simp [Value.cells]) (by decide) [b8 (UInt8.ofNat nc)] rfl) rfl trivial rfl ?_
        intro b3
        refine wl_y (y_move rfl) ?_
        refine wl_eff (e_buildSlice (len := 4) [.slice (some ⟨b1, 0, none⟩) 3 3, .slice (some ⟨q2.1, 0, none⟩) (6 + nn) q2.2.1, .slice (some ⟨b3, 0, none⟩) 1 1, .slice ac nc cc] sl50 el22 rfl rfl rfl (by simp [Value.cells]) (by decide) [.slice (some ⟨b1, 0, none⟩) 3 3, .slice (some ⟨q2.1, 0, none⟩) (6 + nn) q2.2.1, .slice (some ⟨b3, 0, none⟩) 1 1, .slice ac nc cc] rfl) rfl trivial rfl ?_
        intro b4
        refine wl_eff (e_call0 cf55 rfl (fun w m => concat_ok w (some ⟨b4, 0, none⟩) 4 4 ([((some ⟨b1, 0, none⟩), 3, 3, ([UInt8.ofNat (n / 2 ^ 8), UInt8.ofNat n, UInt8.ofNat (6 + nn)] : List UInt8)), ((some ⟨q2.1, 0, none⟩), (6 + nn), q2.2.1, (([116, 108, 115, 49, 51, 32] : List UInt8) ++ ln)), ((some ⟨b3, 0, none⟩), 1, 1, ([UInt8.ofNat nc] : List UInt8)), (ac, nc, cc, lc)] : List Pc) ((m.rd_sl (i := 0) rfl : Rd _ _ 4 1 (([((some ⟨b1, 0, none⟩), 3, 3, ([UInt8.ofNat (n / 2 ^ 8), UInt8.ofNat n, UInt8.ofNat (6 + nn)] : List UInt8)), ((some ⟨q2.1, 0, none⟩), (6 + nn), q2.2.1, (([116, 108, 115, 49, 51, 32] : List UInt8) ++ ln)), ((some ⟨b3, 0, none⟩), 1, 1, ([UInt8.ofNat nc] : List UInt8)), (ac, nc, cc, lc)] : List Pc).map pv))) (List.forall_mem_cons.2 ⟨(m.rd_sl (i := 3) rfl : Rd _ _ 3 1 (([UInt8.ofNat (n / 2 ^ 8), UInt8.ofNat n, UInt8.ofNat (6 + nn)] : List UInt8).map b8)), (List.forall_mem_cons.2 ⟨(m.rd_pre (xs := (([116, 108, 115, 49, 51, 32] : List UInt8) ++ ln)) (i := 2) rfl (by first | omega | (simp; done) | (simp [*]; done) | (simp; omega))), (List.forall_mem_cons.2 ⟨(m.rd_sl (i := 1) rfl : Rd _ _ 1 1 (([UInt8.ofNat nc] : List UInt8).map b8)), (List.forall_mem_cons.2 ⟨m.rd0 hc, (fun _ h => nomatch h)⟩)⟩)⟩)⟩) (by omega) (by show ((((0 + 3) + (6 + nn)) + 1) + nc) ≤ _; omega))) rfl trivial rfl ?_
        intro r5
        refine wl_y (y_assign rfl) ?_
        refine wl_nil ?_
        refine aq_seq ?_
        refine wc_seq ?_
        refine wc_region ?_
        refine wl_y (y_move rfl) ?_
        refine wl_y (y_move rfl) ?_
        refine wl_y (y_move rfl) ?_
        refine wl_eff (e_call0 cf7 rfl (fun w m => expand_ok w ak r5.1 nk ck ((((0 + 3) + (6 + nn)) + 1) + nc) r5.2 lk ((((([] : List UInt8) ++ ([UInt8.ofNat (n / 2 ^ 8), UInt8.ofNat n, UInt8.ofNat (6 + nn)] : List UInt8)) ++ (([116, 108, 115, 49, 51, 32] : List UInt8) ++ ln)) ++ ([UInt8.ofNat nc] : List UInt8)) ++ lc) n (m.rd0 hk) ((m.rd_sl (i := 0) rfl : Rd _ _ ((((0 + 3) + (6 + nn)) + 1) + nc) 1 (((((([] : List UInt8) ++ ([UInt8.ofNat (n / 2 ^ 8), UInt8.ofNat n, UInt8.ofNat (6 + nn)] : List UInt8)) ++ (([116, 108, 115, 49, 51, 32] : List UInt8) ++ ln)) ++ ([UInt8.ofNat nc] : List UInt8)) ++ lc).map b8))) (by omega) (by omega))) rfl trivial rfl ?_
        intro r6
        refine wl_y (y_extract rfl rfl) ?_
        refine wl_y (y_extract rfl rfl) ?_
        refine wl_y (y_assign rfl) ?_
        refine wl_y (y_assign rfl) ?_
        refine wl_nil ?_
        refine aq_seq ?_
        refine wc_ret ?_
        refine aq_return (.inl rfl) rfl (⟨_, _, rfl, rfl, ⟨_, _, rfl, rfl, rfl⟩⟩) ?_
        intro w' m
        rw [he, h2, h3]
        exact ⟨(r6.1, r6.2), rfl, (Mem.pick m (is := [0]) ⟨_, _, rfl, rfl, rfl⟩ (by decide))⟩

end Go.Proofs.YtjibkjoaamchoaaGreatDoor
