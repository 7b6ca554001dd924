/- Lemmas and contracts for the proof of this seat's statements (Ref3F). No condition. -/
import Derived.Test.YtjibkjoaamchoaaGreatDoorEBk
import Derived.Test.YtjibkjoaamchoaaGreatDoorProg
import Derived.KernelRfl
import Derived.Test.YtjibkjoaamchoaaGreatDoorEPlaA
import Derived.Test.YtjibkjoaamchoaaGreatDoorEHkdf3F
set_option linter.all false
namespace Go.Proofs.YtjibkjoaamchoaaGreatDoor
open Go.Mc
private theorem sl22 : slB Tryz.prog 22 5 = true := by kernel_rfl
private theorem cf59 : cfB Tryz.prog 59 = true := by kernel_rfl
private theorem zn56 : znB Tryz.prog 56 (.agg (arr b8 (List.replicate 32 0))) := by unfold znB; kernel_rfl
private theorem sz56 : szB Tryz.prog 56 32 = true := by kernel_rfl
private theorem ar56 : arB Tryz.prog 56 32 5 = true := by kernel_rfl
private theorem sz5 : szB Tryz.prog 5 1 = true := by kernel_rfl
private theorem sc5 : scB Tryz.prog 5 = true := by kernel_rfl
private theorem el5 : elB Tryz.prog 5 1 1 (b8 (0)) := elB_of (by kernel_rfl) (by kernel_rfl) (by unfold znB; kernel_rfl)
private theorem cf60 : cfB Tryz.prog 60 = true := by kernel_rfl
private theorem ag56 : agB Tryz.prog 56 32 = true := by kernel_rfl
private theorem us3 : (Tryz.prog.underlying 3).isSome = true := by kernel_rfl
private theorem ui5 : Tryz.prog.underlying 5 = some (.int .u8) := by kernel_rfl
private theorem cf17 : cfB Tryz.prog 17 = true := by kernel_rfl
private theorem ut9 : Tryz.prog.underlying 9 = some .string := by kernel_rfl
private theorem ub5 : Tryz.prog.underlying 5 = some (.int .u8) := by kernel_rfl
private theorem cf8 : cfB Tryz.prog 8 = true := by kernel_rfl
attribute [local irreducible] shaF keyF ipF opF

theorem pad_ok (w : World) (ab : Option Addr) (nb cb : Nat) (lb : List UInt8) (x : UInt8) (hb : Rd w ab nb 1 (lb.map b8)) (hnb : nb ≤ 1048576) :
    Calls Tryz.prog 60 #[.slice ab nb cb, b8 (x)] w (Ret (fun r : Option Addr × Nat => .slice r.1 64 r.2) (fun r => Mem w [] [.sl r.1 64 r.2 5 1 ((pxF (keyF lb nb) x).map b8)])) := by
  have hlb := hb.len
  refine calls_of Tryz.func60 rfl rfl (L := [(0, .slice ab nb cb), (1, b8 (x))]) ⟨rfl, rfl, trivial⟩ (m := 42) (Nat.le_of_ble_eq_true rfl) (M := Mem w [] []) (Mem.refl w) ?_
  refine wc_seq ?_
  refine wc_region ?_
  refine wl_y (y_assign rfl) ?_
  refine wl_nil ?_
  refine aq_seq ?_
  refine wc_seq ?_
  refine wc_region ?_
  refine wl_y (y_move rfl) ?_
  refine wl_y (y_assign rfl) ?_
  refine wl_nil ?_
  refine aq_seq ?_
  refine wc_seq ?_
  refine wc_seq ?_
  refine wc_region ?_
  refine wl_y (y_move rfl) ?_
  refine wl_y (y_len_sl sl22 (m := nb) rfl rfl) ?_
  refine wl_y (y_bin rfl rfl gtr_i64) ?_
  refine wl_nil ?_
  refine aq_seq ?_
  refine wc_if rfl (fun hc1 => ?_) (fun hc1 => ?_)
  · have hb1 : (nb : Int) > 64 := by simpa using hc1
    refine wc_seq ?_
    refine wc_region ?_
    refine wl_y (y_move rfl) ?_
    refine wl_eff (e_call0 cf59 rfl (fun w m => rsum_ok w ab nb cb lb (m.rd0 hb))) rfl trivial rfl ?_
    intro _
    rw [sumO_0 lb (nb := nb) (by omega), sumE_0 (nb := nb) (by omega)]
    refine wl_y (y_move rfl) ?_
    refine wl_y (y_extract rfl rfl) ?_
    refine wl_y (y_extract rfl rfl) ?_
    refine wl_eff (e_alloc (cs := arr b8 (List.replicate 32 0)) zn56) rfl trivial rfl ?_
    intro b1
    refine wl_eff (e_storeall sz56 rfl rfl (i := 0) rfl (by first | (simp; done) | (simp [*]; done) | (simp; omega) | rfl) (by first | (simp; done) | (simp [*]; done) | (simp; omega) | rfl) (arr_one _) rfl) rfl trivial rfl ?_
    intro _
    refine wl_y (y_assign rfl) ?_
    refine wl_nil ?_
    refine aq_seq ?_
    refine wc_region ?_
    refine wl_y (y_slice_ar0 ar56 sz5 rfl 32 rfl rfl (by omega)) ?_
    refine wl_y (y_assign rfl) ?_
    refine wl_nil ?_
    refine aq_seq ?_
    refine wc_seq ?_
    refine wc_region ?_
    refine wl_y (y_assign rfl) ?_
    refine wl_nil ?_
    refine aq_seq ?_
    refine wc_seq ?_
    refine wc_seq ?_
    refine wc_region ?_
    refine wl_y (y_assign rfl) ?_
    refine wl_nil ?_
    refine aq_seq ?_
    refine wc_block ?_
    refine wc_mem (fun _ h => h.nilsl 5 1) ?_
    refine wc_loop (γ := Nat × Option Addr × Nat) (fun ⟨i, ad, dp⟩ => [(1, b8 (x)), (4, .slice none 0 0), (5, .slice (some ⟨b1, 0, none⟩) 32 32), (8, .slice ad i dp), (9, ki ((i : Int)))]) (fun ⟨i, ad, dp⟩ => Mem w [] [.sl ad i dp 5 1 ((pdTo (shaF lb nb) 32 x i).map b8), .blk b1 (.cells (arr b8 (shaF lb nb)) 56 (0, 0))]) (fun ⟨i, ad, dp⟩ => (i ≤ 64)) (fun ⟨i, ad, dp⟩ => 64 - i) (⟨0, none, 0⟩) ?_ ⟨rfl, rfl, rfl, rfl, rfl, trivial⟩ (fun _ h => h) ?_
    · omega
    · rintro ⟨i, ad, dp⟩ hi
      change i ≤ 64 at hi
      refine wc_seq ?_
      refine wc_seq ?_
      refine wc_region ?_
      refine wl_y (y_move rfl) ?_
      refine wl_y (y_bin rfl rfl lss_i64) ?_
      refine wl_nil ?_
      refine aq_seq ?_
      refine wc_if rfl (fun hc2 => ?_) (fun hc2 => ?_)
      · have hb2 : (i : Int) < 64 := by simpa using hc2
        refine wc_skip ?_
        refine aq_seq ?_
        refine wc_seq ?_
        refine wc_block ?_
        refine wc_seq ?_
        refine wc_region ?_
        refine wl_y (y_move rfl) ?_
        refine wl_y (y_move rfl) ?_
        refine wl_y (y_len_sl sl22 (m := 32) rfl rfl) ?_
        refine wl_y (y_bin rfl rfl lss_i64) ?_
        refine wl_nil ?_
        refine aq_seq ?_
        refine wc_if rfl (fun hc3 => ?_) (fun hc3 => ?_)
        · have hb3 : (i : Int) < 32 := by simpa using hc3
          refine wc_region ?_
          refine wl_y (y_move rfl) ?_
          refine wl_y (y_move rfl) ?_
          refine wl_y (y_move rfl) ?_
          refine wl_y (y_indexAddr_slb sl22 sz5 rfl rfl (by omega) (by omega) i (by omega)) ?_
          refine wl_y (y_load sc5 rfl (c_blk (i := 1) rfl (arr_get (gd 0 (by first | omega | (simp; done) | (simp [*]; done) | (simp; omega)))))) ?_
          refine wl_y (y_move rfl) ?_
          refine wl_y (y_bin rfl rfl (xor_u8 ((shaF lb nb).getD i 0) x)) ?_
          refine wl_eff (e_buildSlice (len := 1) [b8 ((((shaF lb nb).getD i 0) ^^^ x))] sl22 el5 rfl rfl rfl (by simp [Value.cells]) (by decide) [b8 ((((shaF lb nb).getD i 0) ^^^ x))] rfl) rfl trivial rfl ?_
          intro b2
          refine wl_eff (e_appendm (f := b8) (xs := (pdTo (shaF lb nb) 32 x i)) (news := ([(((shaF lb nb).getD i 0) ^^^ x)] : List UInt8)) sl22 el5 rfl rfl rfl rfl (i := 1) rfl (fun w m => (m.rd_sl (i := 0) rfl : Rd _ _ 1 1 (([(((shaF lb nb).getD i 0) ^^^ x)] : List UInt8).map b8))) (by omega) (by omega) (i + 1) (by first | rfl | omega) (by first | rfl | simp) (fun _ => ⟨_, rfl, rfl⟩)) rfl trivial rfl ?_
          intro r3
          refine wl_y (y_assign rfl) ?_
          refine wl_nil ?_
          refine aq_blk_normal ?_
          refine aq_seq ?_
          refine wc_region ?_
          refine wl_y (y_move rfl) ?_
          refine wl_y (y_bin rfl rfl (addn_i64 (a := i) (b := 1) (by omega))) ?_
          refine wl_y (y_assign rfl) ?_
          refine wl_nil ?_
          have hfx : (pdTo (shaF lb nb) 32 x i) ++ ([(((shaF lb nb).getD i 0) ^^^ x)] : List UInt8) = pdTo (shaF lb nb) 32 x (i + 1) := by show _ = pdTo (shaF lb nb) 32 x i ++ [if i < 32 then _ else _]; rw [if_pos (by omega)]
          rw [hfx]
          refine aq_loop (⟨i + 1, r3.1, r3.2⟩) ?_ ?_ ⟨rfl, rfl, rfl, rfl, rfl, trivial⟩ (fun _ h => (Mem.pick h (is := [1, 2]) ⟨_, _, rfl, rfl, ⟨_, _, rfl, rfl, rfl⟩⟩ (by decide)))
          · omega
          · first | omega | (dsimp only; omega)
        · have hb3 : ¬ ((i : Int) < 32) := by simpa using hc3
          refine wc_region ?_
          refine wl_y (y_move rfl) ?_
          refine wl_y (y_move rfl) ?_
          refine wl_eff (e_buildSlice (len := 1) [b8 (x)] sl22 el5 rfl rfl rfl (by simp [Value.cells]) (by decide) [b8 (x)] rfl) rfl trivial rfl ?_
          intro b4
          refine wl_eff (e_appendm (f := b8) (xs := (pdTo (shaF lb nb) 32 x i)) (news := ([x] : List UInt8)) sl22 el5 rfl rfl rfl rfl (i := 1) rfl (fun w m => (m.rd_sl (i := 0) rfl : Rd _ _ 1 1 (([x] : List UInt8).map b8))) (by omega) (by omega) (i + 1) (by first | rfl | omega) (by first | rfl | simp) (fun _ => ⟨_, rfl, rfl⟩)) rfl trivial rfl ?_
          intro r5
          refine wl_y (y_assign rfl) ?_
          refine wl_nil ?_
          refine aq_blk_normal ?_
          refine aq_seq ?_
          refine wc_region ?_
          refine wl_y (y_move rfl) ?_
          refine wl_y (y_bin rfl rfl (addn_i64 (a := i) (b := 1) (by omega))) ?_
          refine wl_y (y_assign rfl) ?_
          refine wl_nil ?_
          have hfx : (pdTo (shaF lb nb) 32 x i) ++ ([x] : List UInt8) = pdTo (shaF lb nb) 32 x (i + 1) := by show _ = pdTo (shaF lb nb) 32 x i ++ [if i < 32 then _ else _]; rw [if_neg (by omega)]
          rw [hfx]
          refine aq_loop (⟨i + 1, r5.1, r5.2⟩) ?_ ?_ ⟨rfl, rfl, rfl, rfl, rfl, trivial⟩ (fun _ h => (Mem.pick h (is := [1, 2]) ⟨_, _, rfl, rfl, ⟨_, _, rfl, rfl, rfl⟩⟩ (by decide)))
          · omega
          · first | omega | (dsimp only; omega)
      · have hb2 : ¬ ((i : Int) < 64) := by simpa using hc2
        refine wc_exit ?_
        refine aq_thru_exit ?_
        refine aq_thru_exit ?_
        refine aq_blk_exit ?_
        refine aq_seq ?_
        refine wc_seq ?_
        refine wc_region ?_
        refine wl_y (y_move rfl) ?_
        refine wl_y (y_assign rfl) ?_
        refine wl_nil ?_
        refine aq_seq ?_
        refine wc_ret ?_
        refine aq_return (.inl rfl) rfl (⟨_, _, rfl, rfl, rfl⟩) ?_
        intro w' m
        have hie : i = 64 := by omega
        subst hie
        exact ⟨(ad, dp), rfl, pad_long x hlb (by omega) ▸ (Mem.pick m (is := [0]) ⟨_, _, rfl, rfl, rfl⟩ (by decide))⟩
  · have hb1 : ¬ ((nb : Int) > 64) := by simpa using hc1
    refine wc_skip ?_
    refine aq_seq ?_
    refine wc_seq ?_
    refine wc_region ?_
    refine wl_y (y_assign rfl) ?_
    refine wl_nil ?_
    refine aq_seq ?_
    refine wc_seq ?_
    refine wc_seq ?_
    refine wc_region ?_
    refine wl_y (y_assign rfl) ?_
    refine wl_nil ?_
    refine aq_seq ?_
    refine wc_block ?_
    refine wc_mem (fun _ h => h.nilsl 5 1) ?_
    refine wc_loop (γ := Nat × Option Addr × Nat) (fun ⟨i, ad, dp⟩ => [(1, b8 (x)), (4, .slice none 0 0), (5, .slice ab nb cb), (8, .slice ad i dp), (9, ki ((i : Int)))]) (fun ⟨i, ad, dp⟩ => Mem w [] [.sl ad i dp 5 1 ((pdTo lb nb x i).map b8)]) (fun ⟨i, ad, dp⟩ => (i ≤ 64)) (fun ⟨i, ad, dp⟩ => 64 - i) (⟨0, none, 0⟩) ?_ ⟨rfl, rfl, rfl, rfl, rfl, trivial⟩ (fun _ h => h) ?_
    · omega
    · rintro ⟨i, ad, dp⟩ hi
      change i ≤ 64 at hi
      refine wc_seq ?_
      refine wc_seq ?_
      refine wc_region ?_
      refine wl_y (y_move rfl) ?_
      refine wl_y (y_bin rfl rfl lss_i64) ?_
      refine wl_nil ?_
      refine aq_seq ?_
      refine wc_if rfl (fun hc4 => ?_) (fun hc4 => ?_)
      · have hb4 : (i : Int) < 64 := by simpa using hc4
        refine wc_skip ?_
        refine aq_seq ?_
        refine wc_seq ?_
        refine wc_block ?_
        refine wc_seq ?_
        refine wc_region ?_
        refine wl_y (y_move rfl) ?_
        refine wl_y (y_move rfl) ?_
        refine wl_y (y_len_sl sl22 (m := nb) rfl rfl) ?_
        refine wl_y (y_bin rfl rfl lss_i64) ?_
        refine wl_nil ?_
        refine aq_seq ?_
        refine wc_if rfl (fun hc5 => ?_) (fun hc5 => ?_)
        · have hb5 : (i : Int) < (nb : Int) := by simpa using hc5
          refine wc_region ?_
          refine wl_y (y_move rfl) ?_
          refine wl_y (y_move rfl) ?_
          refine wl_y (y_move rfl) ?_
          refine wl_y (y_indexAddr_sl sl22 sz5 rfl rfl (by omega) (by omega) (fun w m => rd_isSome (m.rd0 hb) (by omega) (by decide)) i (by omega)) ?_
          refine wl_y (y_load sc5 rfl (c_of (fun w m => m.rd0 hb) (map_get (gd 0 (by first | omega | (simp; done) | (simp [*]; done) | (simp; omega)))))) ?_
          refine wl_y (y_move rfl) ?_
          refine wl_y (y_bin rfl rfl (xor_u8 (lb.getD i 0) x)) ?_
          refine wl_eff (e_buildSlice (len := 1) [b8 (((lb.getD i 0) ^^^ x))] sl22 el5 rfl rfl rfl (by simp [Value.cells]) (by decide) [b8 (((lb.getD i 0) ^^^ x))] rfl) rfl trivial rfl ?_
          intro b6
          refine wl_eff (e_appendm (f := b8) (xs := (pdTo lb nb x i)) (news := ([((lb.getD i 0) ^^^ x)] : List UInt8)) sl22 el5 rfl rfl rfl rfl (i := 1) rfl (fun w m => (m.rd_sl (i := 0) rfl : Rd _ _ 1 1 (([((lb.getD i 0) ^^^ x)] : List UInt8).map b8))) (by omega) (by omega) (i + 1) (by first | rfl | omega) (by first | rfl | simp) (fun _ => ⟨_, rfl, rfl⟩)) rfl trivial rfl ?_
          intro r7
          refine wl_y (y_assign rfl) ?_
          refine wl_nil ?_
          refine aq_blk_normal ?_
          refine aq_seq ?_
          refine wc_region ?_
          refine wl_y (y_move rfl) ?_
          refine wl_y (y_bin rfl rfl (addn_i64 (a := i) (b := 1) (by omega))) ?_
          refine wl_y (y_assign rfl) ?_
          refine wl_nil ?_
          have hfx : (pdTo lb nb x i) ++ ([((lb.getD i 0) ^^^ x)] : List UInt8) = pdTo lb nb x (i + 1) := by show _ = pdTo lb nb x i ++ [if i < nb then _ else _]; rw [if_pos (by omega)]
          rw [hfx]
          refine aq_loop (⟨i + 1, r7.1, r7.2⟩) ?_ ?_ ⟨rfl, rfl, rfl, rfl, rfl, trivial⟩ (fun _ h => (Mem.pick h (is := [1]) ⟨_, _, rfl, rfl, rfl⟩ (by decide)))
          · omega
          · first | omega | (dsimp only; omega)
        · have hb5 : ¬ ((i : Int) < (nb : Int)) := by simpa using hc5
          refine wc_region ?_
          refine wl_y (y_move rfl) ?_
          refine wl_y (y_move rfl) ?_
          refine wl_eff (e_buildSlice (len := 1) [b8 (x)] sl22 el5 rfl rfl rfl (by simp [Value.cells]) (by decide) [b8 (x)] rfl) rfl trivial rfl ?_
          intro b8_
          refine wl_eff (e_appendm (f := b8) (xs := (pdTo lb nb x i)) (news := ([x] : List UInt8)) sl22 el5 rfl rfl rfl rfl (i := 1) rfl (fun w m => (m.rd_sl (i := 0) rfl : Rd _ _ 1 1 (([x] : List UInt8).map b8))) (by omega) (by omega) (i + 1) (by first | rfl | omega) (by first | rfl | simp) (fun _ => ⟨_, rfl, rfl⟩)) rfl trivial rfl ?_
          intro r9
          refine wl_y (y_assign rfl) ?_
          refine wl_nil ?_
          refine aq_blk_normal ?_
          refine aq_seq ?_
          refine wc_region ?_
          refine wl_y (y_move rfl) ?_
          refine wl_y (y_bin rfl rfl (addn_i64 (a := i) (b := 1) (by omega))) ?_
          refine wl_y (y_assign rfl) ?_
          refine wl_nil ?_
          have hfx : (pdTo lb nb x i) ++ ([x] : List UInt8) = pdTo lb nb x (i + 1) := by show _ = pdTo lb nb x i ++ [if i < nb then _ else _]; rw [if_neg (by omega)]
          rw [hfx]
          refine aq_loop (⟨i + 1, r9.1, r9.2⟩) ?_ ?_ ⟨rfl, rfl, rfl, rfl, rfl, trivial⟩ (fun _ h => (Mem.pick h (is := [1]) ⟨_, _, rfl, rfl, rfl⟩ (by decide)))
          · omega
          · first | omega | (dsimp only; omega)
      · have hb4 : ¬ ((i : Int) < 64) := by simpa using hc4
        refine wc_exit ?_
        refine aq_thru_exit ?_
        refine aq_thru_exit ?_
        refine aq_blk_exit ?_
        refine aq_seq ?_
        refine wc_seq ?_
        refine wc_region ?_
        refine wl_y (y_move rfl) ?_
        refine wl_y (y_assign rfl) ?_
        refine wl_nil ?_
        refine aq_seq ?_
        refine wc_ret ?_
        refine aq_return (.inl rfl) rfl (⟨_, _, rfl, rfl, rfl⟩) ?_
        intro w' m
        have hie : i = 64 := by omega
        subst hie
        exact ⟨(ad, dp), rfl, pad_short x hlb (by omega) ▸ m⟩

attribute [local irreducible] pxF

set_option maxHeartbeats 1000000 in
theorem rmac_ok (w : World) (ak ab : Option Addr) (nk ck nb cb : Nat) (lk lb : List UInt8) (hk : Rd w ak nk 1 (lk.map b8)) (hb : Rd w ab nb 1 (lb.map b8)) (hnk : nk ≤ 1048576) (hnb : nb ≤ 1048512) :
    Calls Tryz.prog 17 #[.slice ak nk ck, .slice ab nb cb] w (Ret (fun _ : Unit => .agg (arr b8 (macF (keyF lk nk) lb nb))) (fun _ => Mem w [] [])) := by
  have hlk := hk.len
  have hlb := hb.len
  have hkl := keyF_len hlk
  have hil := ip_len (keyF lk nk)
  have hol := op_len (keyF lk nk)
  refine calls_of Tryz.func17 rfl rfl (L := [(0, .slice ak nk ck), (1, .slice ab nb cb)]) ⟨rfl, rfl, trivial⟩ (m := 26) (Nat.le_of_ble_eq_true rfl) (M := Mem w [] []) (Mem.refl w) ?_
  refine wc_seq ?_
  refine wc_region ?_
  refine wl_eff (e_alloc (cs := arr b8 (List.replicate 32 0)) zn56) rfl trivial rfl ?_
  intro b1
  refine wl_nil ?_
  refine aq_seq ?_
  refine wc_seq ?_
  refine wc_region ?_
  refine wl_y (y_move rfl) ?_
  refine wl_eff (e_call0 cf60 rfl (fun w m => pad_ok w ak nk ck lk 54 (m.rd0 hk) (by omega))) rfl trivial rfl ?_
  intro r2
  rw [px_54]
  refine wl_y (y_move rfl) ?_
  refine wl_eff (e_appendm (f := b8) (xs := (ipF (keyF lk nk))) (news := lb) sl22 el5 rfl rfl rfl rfl (i := 0) rfl (fun w m => m.rd0 hb) (by omega) (by omega) (64 + nb) (by first | rfl | omega) (by first | rfl | simp) (fun _ => rfl)) rfl trivial rfl ?_
  intro r3
  refine wl_eff (e_call0 cf59 rfl (fun w m => rsum_ok w r3.1 (64 + nb) r3.2 ((ipF (keyF lk nk)) ++ lb) ((m.rd_sl (i := 0) rfl : Rd _ _ (64 + nb) 1 (((ipF (keyF lk nk)) ++ lb).map b8))))) rfl trivial rfl ?_
  intro _
  rw [sumO_0 ((ipF (keyF lk nk)) ++ lb) (nb := (64 + nb)) (by omega), sumE_0 (nb := (64 + nb)) (by omega)]
  refine wl_y (y_move rfl) ?_
  refine wl_y (y_extract rfl rfl) ?_
  refine wl_y (y_extract rfl rfl) ?_
  refine wl_eff (e_alloc (cs := arr b8 (List.replicate 32 0)) zn56) rfl trivial rfl ?_
  intro b4
  refine wl_eff (e_storeall sz56 rfl rfl (i := 0) rfl (by first | (simp; done) | (simp [*]; done) | (simp; omega) | rfl) (by first | (simp; done) | (simp [*]; done) | (simp; omega) | rfl) (arr_one _) rfl) rfl trivial rfl ?_
  intro _
  refine wl_y (y_assign rfl) ?_
  refine wl_nil ?_
  refine aq_seq ?_
  refine wc_seq ?_
  refine wc_drawT (.st 0 .q (.st 2 .q (.f2 1 8 (.f2 3 8 (.f2 4 8 (.st 5 .q (.st 6 .q (.st 7 .q (.st 8 .e (.st 9 .e (.st 10 .q .nil)))))) (.st 4 .e (.st 5 .q (.st 6 .q (.st 7 .q (.st 9 .e (.st 10 .q .nil))))))) (.st 3 .e (.st 4 .e (.st 5 .q (.st 6 .q (.st 7 .q (.st 9 .e (.st 10 .q .nil)))))))) (.st 1 .e (.st 3 .e (.st 4 .e (.st 5 .q (.st 6 .q (.st 7 .q (.st 9 .e (.st 10 .q .nil))))))))))) (by kernel_rfl) (by kernel_rfl) Mem.closed ?_
  refine wt_q rfl Mem.closed (fun _ h => h) Mem.closed rfl (q_of_yld (y_move rfl)) trivial ?_
  refine wt_q rfl Mem.closed (fun _ h => h) Mem.closed rfl (q_of_yld (y_slice_ar0 ar56 sz5 rfl 32 rfl rfl (by omega))) trivial ?_
  refine wt_f2 rfl rfl rfl (e_call0 cf60 rfl (fun w m => pad_ok w ak nk ck lk 92 (m.rd0 hk) (by omega))) trivial (fun _ _ h => (Mem.pick h (is := [1, 2, 3]) ⟨_, _, rfl, rfl, ⟨_, _, rfl, rfl, ⟨_, _, rfl, rfl, rfl⟩⟩⟩ (by decide))) (fun _ => Mem.closed) rfl rfl rfl (e_alloc (cs := arr b8 (List.replicate 32 0)) zn56) trivial (fun _ _ h => (Mem.pick h (is := [1, 2, 3]) ⟨_, _, rfl, rfl, ⟨_, _, rfl, rfl, ⟨_, _, rfl, rfl, rfl⟩⟩⟩ (by decide))) (fun _ => Mem.closed) Mem.closed ?_ ?_
  · intro r5
    rw [px_92]
    refine wt_f2 rfl rfl rfl (e_appendm (f := b8) (xs := (opF (keyF lk nk))) (news := (shaF ((ipF (keyF lk nk)) ++ lb) (64 + nb))) sl22 el5 rfl rfl rfl rfl (i := 0) rfl (fun w m => (Mem.rd_arrn (f := b8) (xs := (shaF ((ipF (keyF lk nk)) ++ lb) (64 + nb))) m (i := 1) rfl (n := 32) (by first | omega | (simp; done) | (simp [*]; done) | (simp; omega)))) (by omega) (by omega) 96 (by first | rfl | omega) (by first | rfl | simp) (fun _ => rfl)) trivial (fun _ _ h => (Mem.pick h (is := [1, 2, 3]) ⟨_, _, rfl, rfl, ⟨_, _, rfl, rfl, ⟨_, _, rfl, rfl, rfl⟩⟩⟩ (by decide))) (fun _ => Mem.closed) rfl rfl rfl (e_alloc (cs := arr b8 (List.replicate 32 0)) zn56) trivial (fun _ _ h => (Mem.pick h (is := [2, 3, 4]) ⟨_, _, rfl, rfl, ⟨_, _, rfl, rfl, ⟨_, _, rfl, rfl, rfl⟩⟩⟩ (by decide))) (fun _ => Mem.closed) Mem.closed ?_ ?_
    · intro r7
      refine wt_f2 rfl rfl rfl (e_call0 cf59 rfl (fun w m => rsum_ok w r7.1 96 r7.2 ((opF (keyF lk nk)) ++ (shaF ((ipF (keyF lk nk)) ++ lb) (64 + nb))) ((m.rd_sl (i := 0) rfl : Rd _ _ 96 1 (((opF (keyF lk nk)) ++ (shaF ((ipF (keyF lk nk)) ++ lb) (64 + nb))).map b8))))) trivial (fun _ _ h => (Mem.pick h (is := [1, 2, 3]) ⟨_, _, rfl, rfl, ⟨_, _, rfl, rfl, ⟨_, _, rfl, rfl, rfl⟩⟩⟩ (by decide))) (fun _ => Mem.closed) rfl rfl rfl (e_alloc (cs := arr b8 (List.replicate 32 0)) zn56) trivial (fun _ _ h => (Mem.pick h (is := [2, 3, 4]) ⟨_, _, rfl, rfl, ⟨_, _, rfl, rfl, ⟨_, _, rfl, rfl, rfl⟩⟩⟩ (by decide))) (fun _ => Mem.closed) Mem.closed ?_ ?_
      · intro _
        rw [sumO_0 ((opF (keyF lk nk)) ++ (shaF ((ipF (keyF lk nk)) ++ lb) (64 + nb))) (nb := 96) (by omega), sumE_0 (nb := 96) (by omega)]
        refine wt_q rfl Mem.closed (fun _ h => (Mem.pick h (is := [1, 2, 3]) ⟨_, _, rfl, rfl, ⟨_, _, rfl, rfl, ⟨_, _, rfl, rfl, rfl⟩⟩⟩ (by decide))) Mem.closed rfl (q_of_yld (y_move rfl)) trivial ?_
        refine wt_q rfl Mem.closed (fun _ h => (Mem.pick h (is := [1, 2, 3]) ⟨_, _, rfl, rfl, ⟨_, _, rfl, rfl, ⟨_, _, rfl, rfl, rfl⟩⟩⟩ (by decide))) Mem.closed rfl (q_of_yld (y_extract rfl rfl)) trivial ?_
        refine wt_q rfl Mem.closed (fun _ h => (Mem.pick h (is := [1, 2, 3]) ⟨_, _, rfl, rfl, ⟨_, _, rfl, rfl, ⟨_, _, rfl, rfl, rfl⟩⟩⟩ (by decide))) Mem.closed rfl (q_of_yld (y_extract rfl rfl)) trivial ?_
        refine wt_e (fun _ => _) rfl rfl rfl (e_alloc (cs := arr b8 (List.replicate 32 0)) zn56) trivial (fun _ => Mem.closed) (fun _ _ h => h) (fun _ _ h => (Mem.pick h (is := [2, 3, 4]) ⟨_, _, rfl, rfl, ⟨_, _, rfl, rfl, ⟨_, _, rfl, rfl, rfl⟩⟩⟩ (by decide))) (fun _ => Mem.closed) ?_
        intro b10
        refine wt_e (fun _ => _) rfl rfl rfl (e_storeall sz56 rfl rfl (i := 0) rfl (by first | (simp; done) | (simp [*]; done) | (simp; omega) | rfl) (by first | (simp; done) | (simp [*]; done) | (simp; omega) | rfl) (arr_one _) rfl) trivial (fun _ => Mem.closed) (fun _ _ h => h) (fun _ _ h => (Mem.pick h (is := [2, 3, 4]) ⟨_, _, rfl, rfl, ⟨_, _, rfl, rfl, ⟨_, _, rfl, rfl, rfl⟩⟩⟩ (by decide))) (fun _ => Mem.closed) ?_
        intro _
        refine wt_q rfl Mem.closed (fun _ h => (Mem.pick h (is := [2, 3, 4]) ⟨_, _, rfl, rfl, ⟨_, _, rfl, rfl, ⟨_, _, rfl, rfl, rfl⟩⟩⟩ (by decide))) Mem.closed rfl (q_of_yld (y_assign rfl)) trivial ?_
        refine wt_nil ?_
        refine aq_seq ?_
        refine wc_seq ?_
        refine wc_region ?_
        refine wl_y (y_loadall ag56 rfl (i := 0) rfl (by first | (simp; done) | (simp [*]; done) | (simp; omega) | rfl)) ?_
        refine wl_eff (e_storeall sz56 rfl rfl (i := 4) rfl (by first | (simp; done) | (simp [*]; done) | (simp; omega) | rfl) (by first | (simp; done) | (simp [*]; done) | (simp; omega) | rfl) (arr_one _) ⟨_, rfl, ⟨_, rfl, ⟨_, rfl, ⟨_, rfl, rfl⟩⟩⟩⟩) rfl trivial rfl ?_
        intro _
        refine wl_nil ?_
        refine aq_seq ?_
        refine wc_ret ?_
        refine aq_return (.inl rfl) rfl (⟨_, _, _, rfl, fun w m => run_loadVar_all ag56 (m.blk (i := 4) rfl) (by first | (simp; done) | (simp [*]; done) | (simp; omega) | rfl), rfl, rfl⟩) ?_
        intro w' m
        rw [← macR_eq]
        exact ⟨(), rfl, m.pick (is := []) rfl (by decide)⟩
      · intro b9
        refine wt_e (fun _ => _) rfl rfl rfl (e_call0 cf59 rfl (fun w m => rsum_ok w r7.1 96 r7.2 ((opF (keyF lk nk)) ++ (shaF ((ipF (keyF lk nk)) ++ lb) (64 + nb))) ((m.rd_sl (i := 1) rfl : Rd _ _ 96 1 (((opF (keyF lk nk)) ++ (shaF ((ipF (keyF lk nk)) ++ lb) (64 + nb))).map b8))))) trivial (fun _ => Mem.closed) (fun _ _ h => h) (fun _ _ h => (Mem.pick h (is := [2, 3, 4]) ⟨_, _, rfl, rfl, ⟨_, _, rfl, rfl, ⟨_, _, rfl, rfl, rfl⟩⟩⟩ (by decide))) (fun _ => Mem.closed) ?_
        intro _
        rw [sumO_0 ((opF (keyF lk nk)) ++ (shaF ((ipF (keyF lk nk)) ++ lb) (64 + nb))) (nb := 96) (by omega), sumE_0 (nb := 96) (by omega)]
        refine wt_q rfl Mem.closed (fun _ h => (Mem.pick h (is := [2, 3, 4]) ⟨_, _, rfl, rfl, ⟨_, _, rfl, rfl, ⟨_, _, rfl, rfl, rfl⟩⟩⟩ (by decide))) Mem.closed rfl (q_of_yld (y_move rfl)) trivial ?_
        refine wt_q rfl Mem.closed (fun _ h => (Mem.pick h (is := [2, 3, 4]) ⟨_, _, rfl, rfl, ⟨_, _, rfl, rfl, ⟨_, _, rfl, rfl, rfl⟩⟩⟩ (by decide))) Mem.closed rfl (q_of_yld (y_extract rfl rfl)) trivial ?_
        refine wt_q rfl Mem.closed (fun _ h => (Mem.pick h (is := [2, 3, 4]) ⟨_, _, rfl, rfl, ⟨_, _, rfl, rfl, ⟨_, _, rfl, rfl, rfl⟩⟩⟩ (by decide))) Mem.closed rfl (q_of_yld (y_extract rfl rfl)) trivial ?_
        refine wt_e (fun _ => _) rfl rfl rfl (e_storeall sz56 rfl rfl (i := 0) rfl (by first | (simp; done) | (simp [*]; done) | (simp; omega) | rfl) (by first | (simp; done) | (simp [*]; done) | (simp; omega) | rfl) (arr_one _) rfl) trivial (fun _ => Mem.closed) (fun _ _ h => h) (fun _ _ h => (Mem.pick h (is := [2, 3, 4]) ⟨_, _, rfl, rfl, ⟨_, _, rfl, rfl, ⟨_, _, rfl, rfl, rfl⟩⟩⟩ (by decide))) (fun _ => Mem.closed) ?_
        intro _
        refine wt_q rfl Mem.closed (fun _ h => (Mem.pick h (is := [2, 3, 4]) ⟨_, _, rfl, rfl, ⟨_, _, rfl, rfl, ⟨_, _, rfl, rfl, rfl⟩⟩⟩ (by decide))) Mem.closed rfl (q_of_yld (y_assign rfl)) trivial ?_
        refine wt_nil ?_
        refine aq_seq ?_
        refine wc_seq ?_
        refine wc_region ?_
        refine wl_y (y_loadall ag56 rfl (i := 0) rfl (by first | (simp; done) | (simp [*]; done) | (simp; omega) | rfl)) ?_
        refine wl_eff (e_storeall sz56 rfl rfl (i := 4) rfl (by first | (simp; done) | (simp [*]; done) | (simp; omega) | rfl) (by first | (simp; done) | (simp [*]; done) | (simp; omega) | rfl) (arr_one _) ⟨_, rfl, ⟨_, rfl, ⟨_, rfl, ⟨_, rfl, rfl⟩⟩⟩⟩) rfl trivial rfl ?_
        intro _
        refine wl_nil ?_
        refine aq_seq ?_
        refine wc_ret ?_
        refine aq_return (.inl rfl) rfl (⟨_, _, _, rfl, fun w m => run_loadVar_all ag56 (m.blk (i := 4) rfl) (by first | (simp; done) | (simp [*]; done) | (simp; omega) | rfl), rfl, rfl⟩) ?_
        intro w' m
        rw [← macR_eq]
        exact ⟨(), rfl, m.pick (is := []) rfl (by decide)⟩
    · intro b8_
      refine wt_e (fun _ => _) rfl rfl rfl (e_appendm (f := b8) (xs := (opF (keyF lk nk))) (news := (shaF ((ipF (keyF lk nk)) ++ lb) (64 + nb))) sl22 el5 rfl rfl rfl rfl (i := 1) rfl (fun w m => (Mem.rd_arrn (f := b8) (xs := (shaF ((ipF (keyF lk nk)) ++ lb) (64 + nb))) m (i := 2) rfl (n := 32) (by first | omega | (simp; done) | (simp [*]; done) | (simp; omega)))) (by omega) (by omega) 96 (by first | rfl | omega) (by first | rfl | simp) (fun _ => ⟨_, rfl, rfl⟩)) trivial (fun _ => Mem.closed) (fun _ _ h => h) (fun _ _ h => (Mem.pick h (is := [2, 3, 4]) ⟨_, _, rfl, rfl, ⟨_, _, rfl, rfl, ⟨_, _, rfl, rfl, rfl⟩⟩⟩ (by decide))) (fun _ => Mem.closed) ?_
      intro r11
      refine wt_e (fun _ => _) rfl rfl rfl (e_call0 cf59 rfl (fun w m => rsum_ok w r11.1 96 r11.2 ((opF (keyF lk nk)) ++ (shaF ((ipF (keyF lk nk)) ++ lb) (64 + nb))) ((m.rd_sl (i := 1) rfl : Rd _ _ 96 1 (((opF (keyF lk nk)) ++ (shaF ((ipF (keyF lk nk)) ++ lb) (64 + nb))).map b8))))) trivial (fun _ => Mem.closed) (fun _ _ h => h) (fun _ _ h => (Mem.pick h (is := [2, 3, 4]) ⟨_, _, rfl, rfl, ⟨_, _, rfl, rfl, ⟨_, _, rfl, rfl, rfl⟩⟩⟩ (by decide))) (fun _ => Mem.closed) ?_
      intro _
      rw [sumO_0 ((opF (keyF lk nk)) ++ (shaF ((ipF (keyF lk nk)) ++ lb) (64 + nb))) (nb := 96) (by omega), sumE_0 (nb := 96) (by omega)]
      refine wt_q rfl Mem.closed (fun _ h => (Mem.pick h (is := [2, 3, 4]) ⟨_, _, rfl, rfl, ⟨_, _, rfl, rfl, ⟨_, _, rfl, rfl, rfl⟩⟩⟩ (by decide))) Mem.closed rfl (q_of_yld (y_move rfl)) trivial ?_
      refine wt_q rfl Mem.closed (fun _ h => (Mem.pick h (is := [2, 3, 4]) ⟨_, _, rfl, rfl, ⟨_, _, rfl, rfl, ⟨_, _, rfl, rfl, rfl⟩⟩⟩ (by decide))) Mem.closed rfl (q_of_yld (y_extract rfl rfl)) trivial ?_
      refine wt_q rfl Mem.closed (fun _ h => (Mem.pick h (is := [2, 3, 4]) ⟨_, _, rfl, rfl, ⟨_, _, rfl, rfl, ⟨_, _, rfl, rfl, rfl⟩⟩⟩ (by decide))) Mem.closed rfl (q_of_yld (y_extract rfl rfl)) trivial ?_
      refine wt_e (fun _ => _) rfl rfl rfl (e_storeall sz56 rfl rfl (i := 0) rfl (by first | (simp; done) | (simp [*]; done) | (simp; omega) | rfl) (by first | (simp; done) | (simp [*]; done) | (simp; omega) | rfl) (arr_one _) rfl) trivial (fun _ => Mem.closed) (fun _ _ h => h) (fun _ _ h => (Mem.pick h (is := [2, 3, 4]) ⟨_, _, rfl, rfl, ⟨_, _, rfl, rfl, ⟨_, _, rfl, rfl, rfl⟩⟩⟩ (by decide))) (fun _ => Mem.closed) ?_
      intro _
      refine wt_q rfl Mem.closed (fun _ h => (Mem.pick h (is := [2, 3, 4]) ⟨_, _, rfl, rfl, ⟨_, _, rfl, rfl, ⟨_, _, rfl, rfl, rfl⟩⟩⟩ (by decide))) Mem.closed rfl (q_of_yld (y_assign rfl)) trivial ?_
      refine wt_nil ?_
      refine aq_seq ?_
      refine wc_seq ?_
      refine wc_region ?_
      refine wl_y (y_loadall ag56 rfl (i := 0) rfl (by first | (simp; done) | (simp [*]; done) | (simp; omega) | rfl)) ?_
      refine wl_eff (e_storeall sz56 rfl rfl (i := 4) rfl (by first | (simp; done) | (simp [*]; done) | (simp; omega) | rfl) (by first | (simp; done) | (simp [*]; done) | (simp; omega) | rfl) (arr_one _) ⟨_, rfl, ⟨_, rfl, ⟨_, rfl, ⟨_, rfl, rfl⟩⟩⟩⟩) rfl trivial rfl ?_
      intro _
      refine wl_nil ?_
      refine aq_seq ?_
      refine wc_ret ?_
      refine aq_return (.inl rfl) rfl (⟨_, _, _, rfl, fun w m => run_loadVar_all ag56 (m.blk (i := 4) rfl) (by first | (simp; done) | (simp [*]; done) | (simp; omega) | rfl), rfl, rfl⟩) ?_
      intro w' m
      rw [← macR_eq]
      exact ⟨(), rfl, m.pick (is := []) rfl (by decide)⟩
  · intro b6
    refine wt_e (fun _ => _) rfl rfl rfl (e_call0 cf60 rfl (fun w m => pad_ok w ak nk ck lk 92 (m.rd0 hk) (by omega))) trivial (fun _ => Mem.closed) (fun _ _ h => h) (fun _ _ h => (Mem.pick h (is := [2, 3, 4]) ⟨_, _, rfl, rfl, ⟨_, _, rfl, rfl, ⟨_, _, rfl, rfl, rfl⟩⟩⟩ (by decide))) (fun _ => Mem.closed) ?_
    intro r12
    rw [px_92]
    refine wt_e (fun _ => _) rfl rfl rfl (e_appendm (f := b8) (xs := (opF (keyF lk nk))) (news := (shaF ((ipF (keyF lk nk)) ++ lb) (64 + nb))) sl22 el5 rfl rfl rfl rfl (i := 0) rfl (fun w m => (Mem.rd_arrn (f := b8) (xs := (shaF ((ipF (keyF lk nk)) ++ lb) (64 + nb))) m (i := 2) rfl (n := 32) (by first | omega | (simp; done) | (simp [*]; done) | (simp; omega)))) (by omega) (by omega) 96 (by first | rfl | omega) (by first | rfl | simp) (fun _ => rfl)) trivial (fun _ => Mem.closed) (fun _ _ h => h) (fun _ _ h => (Mem.pick h (is := [2, 3, 4]) ⟨_, _, rfl, rfl, ⟨_, _, rfl, rfl, ⟨_, _, rfl, rfl, rfl⟩⟩⟩ (by decide))) (fun _ => Mem.closed) ?_
    intro r13
    refine wt_e (fun _ => _) rfl rfl rfl (e_call0 cf59 rfl (fun w m => rsum_ok w r13.1 96 r13.2 ((opF (keyF lk nk)) ++ (shaF ((ipF (keyF lk nk)) ++ lb) (64 + nb))) ((m.rd_sl (i := 0) rfl : Rd _ _ 96 1 (((opF (keyF lk nk)) ++ (shaF ((ipF (keyF lk nk)) ++ lb) (64 + nb))).map b8))))) trivial (fun _ => Mem.closed) (fun _ _ h => h) (fun _ _ h => (Mem.pick h (is := [2, 3, 4]) ⟨_, _, rfl, rfl, ⟨_, _, rfl, rfl, ⟨_, _, rfl, rfl, rfl⟩⟩⟩ (by decide))) (fun _ => Mem.closed) ?_
    intro _
    rw [sumO_0 ((opF (keyF lk nk)) ++ (shaF ((ipF (keyF lk nk)) ++ lb) (64 + nb))) (nb := 96) (by omega), sumE_0 (nb := 96) (by omega)]
    refine wt_q rfl Mem.closed (fun _ h => (Mem.pick h (is := [2, 3, 4]) ⟨_, _, rfl, rfl, ⟨_, _, rfl, rfl, ⟨_, _, rfl, rfl, rfl⟩⟩⟩ (by decide))) Mem.closed rfl (q_of_yld (y_move rfl)) trivial ?_
    refine wt_q rfl Mem.closed (fun _ h => (Mem.pick h (is := [2, 3, 4]) ⟨_, _, rfl, rfl, ⟨_, _, rfl, rfl, ⟨_, _, rfl, rfl, rfl⟩⟩⟩ (by decide))) Mem.closed rfl (q_of_yld (y_extract rfl rfl)) trivial ?_
    refine wt_q rfl Mem.closed (fun _ h => (Mem.pick h (is := [2, 3, 4]) ⟨_, _, rfl, rfl, ⟨_, _, rfl, rfl, ⟨_, _, rfl, rfl, rfl⟩⟩⟩ (by decide))) Mem.closed rfl (q_of_yld (y_extract rfl rfl)) trivial ?_
    refine wt_e (fun _ => _) rfl rfl rfl (e_storeall sz56 rfl rfl (i := 1) rfl (by first | (simp; done) | (simp [*]; done) | (simp; omega) | rfl) (by first | (simp; done) | (simp [*]; done) | (simp; omega) | rfl) (arr_one _) ⟨_, rfl, rfl⟩) trivial (fun _ => Mem.closed) (fun _ _ h => h) (fun _ _ h => (Mem.pick h (is := [2, 3, 4]) ⟨_, _, rfl, rfl, ⟨_, _, rfl, rfl, ⟨_, _, rfl, rfl, rfl⟩⟩⟩ (by decide))) (fun _ => Mem.closed) ?_
    intro _
    refine wt_q rfl Mem.closed (fun _ h => (Mem.pick h (is := [2, 3, 4]) ⟨_, _, rfl, rfl, ⟨_, _, rfl, rfl, ⟨_, _, rfl, rfl, rfl⟩⟩⟩ (by decide))) Mem.closed rfl (q_of_yld (y_assign rfl)) trivial ?_
    refine wt_nil ?_
    refine aq_seq ?_
    refine wc_seq ?_
    refine wc_region ?_
    refine wl_y (y_loadall ag56 rfl (i := 1) rfl (by first | (simp; done) | (simp [*]; done) | (simp; omega) | rfl)) ?_
    refine wl_eff (e_storeall sz56 rfl rfl (i := 4) rfl (by first | (simp; done) | (simp [*]; done) | (simp; omega) | rfl) (by first | (simp; done) | (simp [*]; done) | (simp; omega) | rfl) (arr_one _) ⟨_, rfl, ⟨_, rfl, ⟨_, rfl, ⟨_, rfl, rfl⟩⟩⟩⟩) rfl trivial rfl ?_
    intro _
    refine wl_nil ?_
    refine aq_seq ?_
    refine wc_ret ?_
    refine aq_return (.inl rfl) rfl (⟨_, _, _, rfl, fun w m => run_loadVar_all ag56 (m.blk (i := 4) rfl) (by first | (simp; done) | (simp [*]; done) | (simp; omega) | rfl), rfl, rfl⟩) ?_
    intro w' m
    rw [← macR_eq]
    exact ⟨(), rfl, m.pick (is := []) rfl (by decide)⟩

attribute [local irreducible] macF

theorem rexpand_ok (w : World) (ak ai : Option Addr) (nk ck ni ci : Nat) (lk li : List UInt8) (n : Nat) (hk : Rd w ak nk 1 (lk.map b8)) (hi : Rd w ai ni 1 (li.map b8)) (hn : n ≤ 9223372036854775807) :
    Calls Tryz.prog 8 #[.slice ak nk ck, .slice ai ni ci, ki ((n : Int))] w (Ret (fun r : Option Addr × Nat => .tuple #[.slice r.1 (exN nk ni n) r.2, ki (exE nk ni n : Nat)]) (fun r => Mem w [] [.sl r.1 (exN nk ni n) r.2 5 1 ((exO lk nk li ni n).map b8)])) := by
  have hlk := hk.len
  have hli := hi.len
  refine calls_of Tryz.func8 rfl rfl (L := [(0, .slice ak nk ck), (1, .slice ai ni ci), (2, ki ((n : Int)))]) ⟨rfl, rfl, rfl, trivial⟩ (m := 52) (Nat.le_of_ble_eq_true rfl) (M := Mem w [] []) (Mem.refl w) ?_
  refine wc_seq ?_
  refine wc_region ?_
  refine wl_y (y_assign rfl) ?_
  refine wl_y (y_assign rfl) ?_
  refine wl_nil ?_
  refine aq_seq ?_
  refine wc_seq ?_
  refine wc_seq ?_
  refine wc_region ?_
  refine wl_y (y_move rfl) ?_
  refine wl_y (y_bin rfl rfl lss_i64) ?_
  refine wl_re (t := 13) (v' := kb (false)) rfl (congrArg kb (decide_eq_false (by omega))) ?_
  refine wl_y (y_move rfl) ?_
  refine wl_y (y_move rfl) ?_ (hg := ⟨_, rfl, rfl⟩)
  refine wl_y (y_bin rfl rfl gtr_i64) ?_ (hg := ⟨_, rfl, rfl⟩)
  refine wl_y (y_pick (b := false) rfl rfl) ?_
  refine wl_nil ?_
  refine aq_seq ?_
  refine wc_if rfl (fun hc1 => ?_) (fun hc1 => ?_)
  · have hb1 : (n : Int) > 8160 := by simpa using hc1
    have he := exE_1 (nk := nk) (ni := ni) (n := n) (by omega)
    refine wc_seq ?_
    refine wc_region ?_
    refine wl_y (y_assign rfl) ?_
    refine wl_y (y_assign rfl) ?_
    refine wl_nil ?_
    refine aq_seq ?_
    refine wc_ret ?_
    refine aq_thru_ret ?_
    refine aq_return (.inl rfl) rfl (⟨_, _, rfl, rfl, ⟨_, _, rfl, rfl, rfl⟩⟩) ?_
    intro w' m
    rw [exN, exO, he]
    exact ⟨(none, 0), rfl, (m.pick (is := []) rfl List.nodup_nil).nilsl 5 1⟩
  · have hb1 : ¬ ((n : Int) > 8160) := by simpa using hc1
    refine wc_skip ?_
    refine aq_seq ?_
    refine wc_seq ?_
    refine wc_seq ?_
    refine wc_region ?_
    refine wl_y (y_move rfl) ?_
    refine wl_y (y_len_sl sl22 (m := nk) rfl rfl) ?_
    refine wl_y (y_bin rfl rfl gtr_i64) ?_
    refine wl_bool (t := 20) rfl (fun hs13 => ?_) (fun hs13 => ?_)
    · have hb13 : (nk : Int) > 1048576 := by simpa using hs13
      have he := exE_3 (nk := nk) (ni := ni) (n := n) (by omega) (.inl (by omega))
      refine wl_y (y_move rfl) ?_
      refine wl_off ⟨_, _, rfl, rfl, .inl rfl⟩ rfl ?_
      refine wl_off ⟨_, _, rfl, rfl, .inl rfl⟩ rfl ?_
      refine wl_off ⟨_, _, rfl, rfl, .inl rfl⟩ rfl ?_
      refine wl_y (y_pick (b := true) rfl rfl) ?_
      refine wl_nil ?_
      refine aq_seq ?_
      refine wc_then rfl ?_
      refine wc_seq ?_
      refine wc_region ?_
      refine wl_y (y_assign rfl) ?_
      refine wl_y (y_assign rfl) ?_
      refine wl_nil ?_
      refine aq_seq ?_
      refine wc_ret ?_
      refine aq_thru_ret ?_
      refine aq_return (.inl rfl) rfl (⟨_, _, rfl, rfl, ⟨_, _, rfl, rfl, rfl⟩⟩) ?_
      intro w' m
      rw [exN, exO, he]
      exact ⟨(none, 0), rfl, (m.pick (is := []) rfl List.nodup_nil).nilsl 5 1⟩
    · have hb13 : ¬ ((nk : Int) > 1048576) := by simpa using hs13
      refine wl_y (y_move rfl) ?_
      refine wl_y (y_move rfl) ?_ (hg := ⟨_, rfl, rfl⟩)
      refine wl_y (y_len_sl sl22 (m := ni) rfl rfl) ?_ (hg := ⟨_, rfl, rfl⟩)
      refine wl_y (y_bin rfl rfl gtr_i64) ?_ (hg := ⟨_, rfl, rfl⟩)
      refine wl_y (y_pick (b := false) rfl rfl) ?_
      refine wl_nil ?_
      refine aq_seq ?_
      refine wc_if rfl (fun hc2 => ?_) (fun hc2 => ?_)
      · have hb2 : (ni : Int) > 1048479 := by simpa using hc2
        have he := exE_3 (nk := nk) (ni := ni) (n := n) (by omega) (.inr (by omega))
        refine wc_seq ?_
        refine wc_region ?_
        refine wl_y (y_assign rfl) ?_
        refine wl_y (y_assign rfl) ?_
        refine wl_nil ?_
        refine aq_seq ?_
        refine wc_ret ?_
        refine aq_thru_ret ?_
        refine aq_return (.inl rfl) rfl (⟨_, _, rfl, rfl, ⟨_, _, rfl, rfl, rfl⟩⟩) ?_
        intro w' m
        rw [exN, exO, he]
        exact ⟨(none, 0), rfl, (m.pick (is := []) rfl List.nodup_nil).nilsl 5 1⟩
      · have hb2 : ¬ ((ni : Int) > 1048479) := by simpa using hc2
        have he := exE_0 (nk := nk) (ni := ni) (n := n) (by omega) (by omega) (by omega)
        have hN := exN_0 he
        refine wc_skip ?_
        refine aq_seq ?_
        refine wc_seq ?_
        refine wc_region ?_
        refine wl_y (y_assign rfl) ?_
        refine wl_nil ?_
        refine aq_seq ?_
        refine wc_seq ?_
        refine wc_region ?_
        refine wl_y (y_assign rfl) ?_
        refine wl_nil ?_
        refine aq_seq ?_
        refine wc_seq ?_
        refine wc_seq ?_
        refine wc_region ?_
        refine wl_y (y_assign rfl) ?_
        refine wl_nil ?_
        refine aq_seq ?_
        refine wc_block ?_
        refine wc_mem (fun _ h => h.nilsl 5 1) ?_
        refine wc_mem (fun _ h => h.nilsl 5 1) ?_
        refine wc_loop (γ := Nat × Option Addr × Nat × Option Addr × Nat) (fun ⟨j, ad, dp, bd, bp⟩ => [(0, .slice ak nk ck), (1, .slice ai ni ci), (2, ki ((n : Int))), (6, .slice none 0 0), (7, ki (0)), (8, .slice ad (aN j) dp), (9, .slice bd (tN j) bp), (10, ki (((j + 1 : Nat) : Int)))]) (fun ⟨j, ad, dp, bd, bp⟩ => Mem w [] [.sl bd (tN j) bp 5 1 ((tF (keyF lk nk) li ni j).map b8), .sl ad (aN j) dp 5 1 ((allTo (keyF lk nk) li ni j).map b8)]) (fun ⟨j, ad, dp, bd, bp⟩ => (32 * j < n + 32)) (fun ⟨j, ad, dp, bd, bp⟩ => n + 32 - 32 * j) (⟨0, none, 0, none, 0⟩) ?_ ⟨rfl, rfl, rfl, rfl, rfl, rfl, rfl, rfl, trivial⟩ (fun _ h => h) ?_
        · omega
        · rintro ⟨j, ad, dp, bd, bp⟩ hj
          change 32 * j < n + 32 at hj
          have han := aN_eq j
          have htn := tN_le j
          have htl := tF_len (keyF lk nk) li ni j
          refine wc_seq ?_
          refine wc_seq ?_
          refine wc_region ?_
          refine wl_y (y_move rfl) ?_
          refine wl_y (y_len_sl sl22 (m := (aN j)) rfl rfl) ?_
          refine wl_y (y_move rfl) ?_
          refine wl_y (y_bin rfl rfl lss_i64) ?_
          refine wl_nil ?_
          refine aq_seq ?_
          refine wc_if rfl (fun hc3 => ?_) (fun hc3 => ?_)
          · have hb3 : (((aN j) : Nat) : Int) < (n : Int) := by simpa using hc3
            refine wc_skip ?_
            refine aq_seq ?_
            refine wc_seq ?_
            refine wc_block ?_
            refine wc_seq ?_
            refine wc_region ?_
            refine wl_y (y_move rfl) ?_
            refine wl_y (y_move rfl) ?_
            refine wl_eff (e_appendm (f := b8) (xs := (tF (keyF lk nk) li ni j)) (news := li) sl22 el5 rfl rfl rfl rfl (i := 0) rfl (fun w m => m.rd0 hi) (by omega) (by omega) ((tN j) + ni) (by first | rfl | omega) (by first | rfl | simp) (fun _ => rfl)) rfl trivial rfl ?_
            intro r1
            refine wl_y (y_assign rfl) ?_
            refine wl_nil ?_
            refine aq_seq ?_
            refine wc_seq ?_
            refine wc_region ?_
            refine wl_y (y_move rfl) ?_
            refine wl_y (y_move rfl) ?_
            refine wl_y (y_cv rfl us3 ui5 (congrArg (Value.int .u8) (cvn_u8 (j + 1) (by omega)))) ?_
            refine wl_eff (e_buildSlice (len := 1) [b8 (UInt8.ofNat (j + 1))] sl22 el5 rfl rfl rfl (by simp [Value.cells]) (by decide) [b8 (UInt8.ofNat (j + 1))] rfl) rfl trivial rfl ?_
            intro b2
            refine wl_eff (e_appendm (f := b8) (xs := ((tF (keyF lk nk) li ni j) ++ li)) (news := ([UInt8.ofNat (j + 1)] : List UInt8)) sl22 el5 rfl rfl rfl rfl (i := 1) rfl (fun w m => (m.rd_sl (i := 0) rfl : Rd _ _ 1 1 (([UInt8.ofNat (j + 1)] : List UInt8).map b8))) (by omega) (by omega) (((tN j) + ni) + 1) (by first | rfl | omega) (by first | rfl | simp) (fun _ => ⟨_, rfl, rfl⟩)) rfl trivial rfl ?_
            intro r3
            refine wl_y (y_assign rfl) ?_
            refine wl_nil ?_
            refine aq_seq ?_
            refine wc_seq ?_
            refine wc_region ?_
            refine wl_y (y_move rfl) ?_
            refine wl_y (y_move rfl) ?_
            refine wl_eff (e_call0 cf17 rfl (fun w m => rmac_ok w ak r3.1 nk ck (((tN j) + ni) + 1) r3.2 lk (((tF (keyF lk nk) li ni j) ++ li) ++ ([UInt8.ofNat (j + 1)] : List UInt8)) (m.rd0 hk) ((m.rd_sl (i := 1) rfl : Rd _ _ (((tN j) + ni) + 1) 1 ((((tF (keyF lk nk) li ni j) ++ li) ++ ([UInt8.ofNat (j + 1)] : List UInt8)).map b8))) (by omega) (by omega))) rfl trivial rfl ?_
            intro _
            refine wl_eff (e_alloc (cs := arr b8 (List.replicate 32 0)) zn56) rfl trivial rfl ?_
            intro b4
            refine wl_eff (e_storeall sz56 rfl rfl (i := 0) rfl (by first | (simp; done) | (simp [*]; done) | (simp; omega) | rfl) (by first | (simp; done) | (simp [*]; done) | (simp; omega) | rfl) (arr_one _) rfl) rfl trivial rfl ?_
            intro _
            refine wl_nil ?_
            refine aq_seq ?_
            refine wc_seq ?_
            refine wc_region ?_
            refine wl_eff (e_buildSlice (len := 0) [] sl22 el5 rfl rfl rfl (by simp [Value.cells]) (by decide) [] rfl) rfl trivial rfl ?_
            intro b5
            refine wl_y (y_slice_ar0 ar56 sz5 rfl 32 rfl rfl (by omega)) ?_
            refine wl_eff (e_appendm (f := b8) (xs := ([] : List UInt8)) (news := (macF (keyF lk nk) (((tF (keyF lk nk) li ni j) ++ li) ++ ([UInt8.ofNat (j + 1)] : List UInt8)) (((tN j) + ni) + 1))) sl22 el5 rfl rfl rfl rfl (i := 0) rfl (fun w m => (Mem.rd_arrn (f := b8) (xs := (macF (keyF lk nk) (((tF (keyF lk nk) li ni j) ++ li) ++ ([UInt8.ofNat (j + 1)] : List UInt8)) (((tN j) + ni) + 1))) m (i := 1) rfl (n := 32) (by first | omega | (simp; done) | (simp [*]; done) | (simp; omega)))) (by omega) (by omega) 32 (by first | rfl | omega) (by first | rfl | simp) (fun _ => rfl)) rfl trivial rfl ?_
            intro r6
            refine wl_y (y_assign rfl) ?_
            refine wl_nil ?_
            refine aq_seq ?_
            refine wc_region ?_
            refine wl_y (y_move rfl) ?_
            refine wl_y (y_slice_ar0 ar56 sz5 rfl 32 rfl rfl (by omega)) ?_
            refine wl_eff (e_appendm (f := b8) (xs := (allTo (keyF lk nk) li ni j)) (news := (macF (keyF lk nk) (((tF (keyF lk nk) li ni j) ++ li) ++ ([UInt8.ofNat (j + 1)] : List UInt8)) (((tN j) + ni) + 1))) sl22 el5 rfl rfl rfl rfl (i := 4) rfl (fun w m => (Mem.rd_arrn (f := b8) (xs := (macF (keyF lk nk) (((tF (keyF lk nk) li ni j) ++ li) ++ ([UInt8.ofNat (j + 1)] : List UInt8)) (((tN j) + ni) + 1))) m (i := 1) rfl (n := 32) (by first | omega | (simp; done) | (simp [*]; done) | (simp; omega)))) (by omega) (by omega) ((aN j) + 32) (by first | rfl | omega) (by first | rfl | simp) (fun _ => ⟨_, rfl, ⟨_, rfl, ⟨_, rfl, ⟨_, rfl, rfl⟩⟩⟩⟩)) rfl trivial rfl ?_
            intro r7
            refine wl_y (y_assign rfl) ?_
            refine wl_nil ?_
            refine aq_blk_normal ?_
            refine aq_seq ?_
            refine wc_region ?_
            refine wl_y (y_move rfl) ?_
            refine wl_y (y_bin rfl rfl (addn_i64 (a := (j + 1)) (b := 1) (by omega))) ?_
            refine wl_y (y_assign rfl) ?_
            refine wl_nil ?_
            rw [tR_eq]
            refine aq_loop (⟨j + 1, r7.1, r7.2, r6.1, r6.2⟩) ?_ ?_ ⟨rfl, rfl, rfl, rfl, rfl, rfl, rfl, rfl, trivial⟩ (fun _ h => (Mem.pick h (is := [0, 4]) ⟨_, _, rfl, rfl, ⟨_, _, rfl, rfl, rfl⟩⟩ (by decide)))
            · omega
            · first | omega | (dsimp only; omega)
          · have hb3 : ¬ ((((aN j) : Nat) : Int) < (n : Int)) := by simpa using hc3
            refine wc_use (p := aN j ≤ dp) (fun w m => Mem.sl_le (i := 1) m rfl) (fun hdp => ?_)
            have hje : j = (n + 31) / 32 := by omega
            refine wc_exit ?_
            refine aq_thru_exit ?_
            refine aq_thru_exit ?_
            refine aq_blk_exit ?_
            refine aq_seq ?_
            refine wc_seq ?_
            refine wc_region ?_
            refine wl_y (y_move rfl) ?_
            refine wl_y (y_move rfl) ?_
            refine wl_y (y_slice_sl0 sl22 sz5 rfl n ⟨_, _, rfl, by first | rfl | omega⟩ rfl (by omega)) ?_
            refine wl_y (y_assign rfl) ?_
            refine wl_y (y_assign rfl) ?_
            refine wl_nil ?_
            refine aq_seq ?_
            refine wc_ret ?_
            refine aq_return (.inl rfl) rfl (⟨_, _, rfl, rfl, ⟨_, _, rfl, rfl, rfl⟩⟩) ?_
            intro w' m
            rw [hN, he, exO_0 lk li he, ← hje]
            exact ⟨(ad, dp), rfl, ((Mem.pick m (is := [1]) ⟨_, _, rfl, rfl, rfl⟩ (by decide))).shrink n (by omega)⟩

attribute [local irreducible] exTo exO

theorem rlabel_ok (w : World) (ak ac : Option Addr) (nk ck nc cc : Nat) (lk lc ln : List UInt8) (nn : Nat) (n : Nat) (hk : Rd w ak nk 1 (lk.map b8)) (hc : Rd w ac nc 1 (lc.map b8)) (hln : ln.length = nn) (hn : n ≤ 9223372036854775807) :
    Calls Tryz.prog 14 #[.slice ak nk ck, .string (bs ln), .slice ac nc cc, ki ((n : Int))] w (Ret (fun r : Option Addr × Nat => .tuple #[.slice r.1 (laN nk nn nc n) r.2, ki (laE nk nn nc n : Nat)]) (fun r => Mem w [] [.sl r.1 (laN nk nn nc n) r.2 5 1 ((laO lk nk ln nn lc nc n).map b8)])) := by
  have hlk := hk.len
  have hlc := hc.len
  have hIN : infN nn nc = 10 + nn + nc := by unfold infN; omega
  refine calls_of Tryz.func14 rfl rfl (L := [(0, .slice ak nk ck), (1, .string (bs ln)), (2, .slice ac nc cc), (3, ki ((n : Int)))]) ⟨rfl, rfl, rfl, rfl, trivial⟩ (m := 57) (Nat.le_of_ble_eq_true rfl) (M := Mem w [] []) (Mem.refl w) ?_
  refine wc_seq ?_
  refine wc_region ?_
  refine wl_y (y_assign rfl) ?_
  refine wl_y (y_assign rfl) ?_
  refine wl_nil ?_
  refine aq_seq ?_
  refine wc_seq ?_
  refine wc_seq ?_
  refine wc_region ?_
  refine wl_y (y_move rfl) ?_
  refine wl_y (y_len_str (l := ln) (m := nn) ut9 rfl rfl (by first | omega | (simp; done) | (simp [*]; done) | (simp; omega))) ?_
  refine wl_y (y_bin rfl rfl gtr_i64) ?_
  refine wl_bool (t := 13) rfl (fun hs5 => ?_) (fun hs5 => ?_)
  · have hb5 : (nn : Int) > 249 := by simpa using hs5
    have hbad : 249 < nn ∨ 255 < nc ∨ 8160 < n := .inl (by omega)
    have he := laE_1 (nk := nk) hbad
    have h2 := laN_1 (nk := nk) hbad
    have h3 := laO_1 (nk := nk) lk ln lc hbad
    refine wl_y (y_move rfl) ?_
    refine wl_off ⟨_, _, rfl, rfl, .inl rfl⟩ rfl ?_
    refine wl_off ⟨_, _, rfl, rfl, .inl rfl⟩ rfl ?_
    refine wl_off ⟨_, _, rfl, rfl, .inl rfl⟩ rfl ?_
    refine wl_y (y_pick (b := true) rfl rfl) ?_
    refine wl_y (y_move rfl) ?_
    refine wl_off ⟨_, _, rfl, rfl, .inl rfl⟩ rfl ?_
    refine wl_off ⟨_, _, rfl, rfl, .inl rfl⟩ rfl ?_
    refine wl_y (y_pick (b := true) rfl rfl) ?_
    refine wl_y (y_move rfl) ?_
    refine wl_off ⟨_, _, rfl, rfl, .inl rfl⟩ rfl ?_
    refine wl_off ⟨_, _, rfl, rfl, .inl rfl⟩ rfl ?_
    refine wl_y (y_pick (b := true) rfl rfl) ?_
    refine wl_nil ?_
    refine aq_seq ?_
    refine wc_then rfl ?_
    refine wc_seq ?_
    refine wc_region ?_
    refine wl_y (y_assign rfl) ?_
    refine wl_y (y_assign rfl) ?_
    refine wl_nil ?_
    refine aq_seq ?_
    refine wc_ret ?_
    refine aq_thru_ret ?_
    refine aq_return (.inl rfl) rfl (⟨_, _, rfl, rfl, ⟨_, _, rfl, rfl, rfl⟩⟩) ?_
    intro w' m
    rw [he, h2, h3]
    exact ⟨(none, 0), rfl, (m.pick (is := []) rfl List.nodup_nil).nilsl 5 1⟩
  · have hb5 : ¬ ((nn : Int) > 249) := by simpa using hs5
    refine wl_y (y_move rfl) ?_
    refine wl_y (y_move rfl) ?_ (hg := ⟨_, rfl, rfl⟩)
    refine wl_y (y_len_sl sl22 (m := nc) rfl rfl) ?_ (hg := ⟨_, rfl, rfl⟩)
    refine wl_y (y_bin rfl rfl gtr_i64) ?_ (hg := ⟨_, rfl, rfl⟩)
    refine wl_bool (t := 17) rfl (fun hs9 => ?_) (fun hs9 => ?_)
    · have hb9 : (nc : Int) > 255 := by simpa using hs9
      have hbad : 249 < nn ∨ 255 < nc ∨ 8160 < n := .inr (.inl (by omega))
      have he := laE_1 (nk := nk) hbad
      have h2 := laN_1 (nk := nk) hbad
      have h3 := laO_1 (nk := nk) lk ln lc hbad
      refine wl_y (y_pick (b := false) rfl rfl) ?_
      refine wl_y (y_move rfl) ?_
      refine wl_off ⟨_, _, rfl, rfl, .inl rfl⟩ rfl ?_
      refine wl_off ⟨_, _, rfl, rfl, .inl rfl⟩ rfl ?_
      refine wl_y (y_pick (b := true) rfl rfl) ?_
      refine wl_y (y_move rfl) ?_
      refine wl_off ⟨_, _, rfl, rfl, .inl rfl⟩ rfl ?_
      refine wl_off ⟨_, _, rfl, rfl, .inl rfl⟩ rfl ?_
      refine wl_y (y_pick (b := true) rfl rfl) ?_
      refine wl_nil ?_
      refine aq_seq ?_
      refine wc_then rfl ?_
      refine wc_seq ?_
      refine wc_region ?_
      refine wl_y (y_assign rfl) ?_
      refine wl_y (y_assign rfl) ?_
      refine wl_nil ?_
      refine aq_seq ?_
      refine wc_ret ?_
      refine aq_thru_ret ?_
      refine aq_return (.inl rfl) rfl (⟨_, _, rfl, rfl, ⟨_, _, rfl, rfl, rfl⟩⟩) ?_
      intro w' m
      rw [he, h2, h3]
      exact ⟨(none, 0), rfl, (m.pick (is := []) rfl List.nodup_nil).nilsl 5 1⟩
    · have hb9 : ¬ ((nc : Int) > 255) := by simpa using hs9
      refine wl_y (y_pick (b := false) rfl rfl) ?_
      refine wl_y (y_move rfl) ?_
      refine wl_y (y_move rfl) ?_ (hg := ⟨_, rfl, rfl⟩)
      refine wl_y (y_bin rfl rfl lss_i64) ?_ (hg := ⟨_, rfl, rfl⟩)
      refine wl_re (t := 21) (v' := kb (false)) rfl (congrArg kb (decide_eq_false (by omega))) ?_
      refine wl_y (y_pick (b := false) rfl rfl) ?_
      refine wl_y (y_move rfl) ?_
      refine wl_y (y_move rfl) ?_ (hg := ⟨_, rfl, rfl⟩)
      refine wl_y (y_bin rfl rfl gtr_i64) ?_ (hg := ⟨_, rfl, rfl⟩)
      refine wl_y (y_pick (b := false) rfl rfl) ?_
      refine wl_nil ?_
      refine aq_seq ?_
      refine wc_if rfl (fun hc1 => ?_) (fun hc1 => ?_)
      · have hb1 : (n : Int) > 8160 := by simpa using hc1
        have hbad : 249 < nn ∨ 255 < nc ∨ 8160 < n := .inr (.inr (by omega))
        have he := laE_1 (nk := nk) hbad
        have h2 := laN_1 (nk := nk) hbad
        have h3 := laO_1 (nk := nk) lk ln lc hbad
        refine wc_seq ?_
        refine wc_region ?_
        refine wl_y (y_assign rfl) ?_
        refine wl_y (y_assign rfl) ?_
        refine wl_nil ?_
        refine aq_seq ?_
        refine wc_ret ?_
        refine aq_thru_ret ?_
        refine aq_return (.inl rfl) rfl (⟨_, _, rfl, rfl, ⟨_, _, rfl, rfl, rfl⟩⟩) ?_
        intro w' m
        rw [he, h2, h3]
        exact ⟨(none, 0), rfl, (m.pick (is := []) rfl List.nodup_nil).nilsl 5 1⟩
      · have hb1 : ¬ ((n : Int) > 8160) := by simpa using hc1
        have hgood : ¬ (249 < nn ∨ 255 < nc ∨ 8160 < n) := by omega
        have he := laE_0 (nk := nk) hgood
        have h2 := laN_0 (nk := nk) hgood
        have h3 := laO_0 (nk := nk) lk ln lc hgood
        have hif := infR_eq ln nn lc nc n
        have hin : ((3 + (6 + nn)) + 1) + nc = infN nn nc := by unfold infN; omega
        refine wc_skip ?_
        refine aq_seq ?_
        refine wc_seq ?_
        refine wc_region ?_
        refine wl_y (y_move rfl) ?_
        refine wl_y (y_bin rfl rfl (shrn_i64 (a := n) (k := 8) (by omega))) ?_
        refine wl_y (y_cv rfl us3 ui5 (congrArg (Value.int .u8) (cvn_u8 (n / 2 ^ 8) (by omega)))) ?_
        refine wl_y (y_move rfl) ?_
        refine wl_y (y_cv rfl us3 ui5 (congrArg (Value.int .u8) (cvn_u8 n (by omega)))) ?_
        refine wl_y (y_move rfl) ?_
        refine wl_y (y_len_str (l := ln) (m := nn) ut9 rfl rfl (by first | omega | (simp; done) | (simp [*]; done) | (simp; omega))) ?_
        refine wl_y (y_bin rfl rfl (addn_i64 (a := 6) (b := nn) (by omega))) ?_
        refine wl_y (y_cv rfl us3 ui5 (congrArg (Value.int .u8) (cvn_u8 (6 + nn) (by omega)))) ?_
        refine wl_eff (e_buildSlice (len := 3) [b8 (UInt8.ofNat (n / 2 ^ 8)), b8 (UInt8.ofNat n), b8 (UInt8.ofNat (6 + nn))] sl22 el5 rfl rfl rfl (by simp [Value.cells]) (by decide) [b8 (UInt8.ofNat (n / 2 ^ 8)), b8 (UInt8.ofNat n), b8 (UInt8.ofNat (6 + nn))] rfl) rfl trivial rfl ?_
        intro b1
        refine wl_y (y_assign rfl) ?_
        refine wl_nil ?_
        refine aq_seq ?_
        refine wc_seq ?_
        refine wc_region ?_
        refine wl_y (y_move rfl) ?_
        refine wl_y (y_move rfl) ?_
        refine wl_y (y_add_str (a := ([116, 108, 115, 49, 51, 32] : List UInt8)) (b := ln) rfl rfl (by first | omega | (simp; done) | (simp [*]; done) | (simp; omega))) ?_
        refine wl_eff (e_conv_str (l := (([116, 108, 115, 49, 51, 32] : List UInt8) ++ ln)) (n := (6 + nn)) ut9 sl22 ub5 rfl (by first | omega | (simp; done) | (simp [*]; done) | (simp; omega))) rfl trivial rfl ?_
        intro q2
        refine wl_eff (e_appendm (f := b8) (xs := ([UInt8.ofNat (n / 2 ^ 8), UInt8.ofNat n, UInt8.ofNat (6 + nn)] : List UInt8)) (news := (([116, 108, 115, 49, 51, 32] : List UInt8) ++ ln)) sl22 el5 rfl rfl rfl rfl (i := 1) rfl (fun w m => (m.rd_pre (xs := (([116, 108, 115, 49, 51, 32] : List UInt8) ++ ln)) (i := 0) rfl (by first | omega | (simp; done) | (simp [*]; done) | (simp; omega)))) (by omega) (by omega) (3 + (6 + nn)) (by first | rfl | omega) (by first | rfl | simp) (fun _ => ⟨_, rfl, rfl⟩)) rfl trivial rfl ?_
        intro r3
        refine wl_y (y_assign rfl) ?_
        refine wl_nil ?_
        refine aq_seq ?_
        refine wc_seq ?_
        refine wc_region ?_
        refine wl_y (y_move rfl) ?_
        refine wl_y (y_move rfl) ?_
        refine wl_y (y_len_sl sl22 (m := nc) rfl rfl) ?_
        refine wl_y (y_cv rfl us3 ui5 (congrArg (Value.int .u8) (cvn_u8 nc (by omega)))) ?_
        refine wl_eff (e_buildSlice (len := 1) [b8 (UInt8.ofNat nc)] sl22 el5 rfl rfl rfl (by simp [Value.cells]) (by decide) [b8 (UInt8.ofNat nc)] rfl) rfl trivial rfl ?_
        intro b4
        refine wl_eff (e_appendm (f := b8) (xs := (([UInt8.ofNat (n / 2 ^ 8), UInt8.ofNat n, UInt8.ofNat (6 + nn)] : List UInt8) ++ (([116, 108, 115, 49, 51, 32] : List UInt8) ++ ln))) (news := ([UInt8.ofNat nc] : List UInt8)) sl22 el5 rfl rfl rfl rfl (i := 2) rfl (fun w m => (m.rd_sl (i := 0) rfl : Rd _ _ 1 1 (([UInt8.ofNat nc] : List UInt8).map b8))) (by omega) (by omega) ((3 + (6 + nn)) + 1) (by first | rfl | omega) (by first | rfl | simp) (fun _ => ⟨_, rfl, ⟨_, rfl, rfl⟩⟩)) rfl trivial rfl ?_
        intro r5
        refine wl_y (y_assign rfl) ?_
        refine wl_nil ?_
        refine aq_seq ?_
        refine wc_seq ?_
        refine wc_region ?_
        refine wl_y (y_move rfl) ?_
        refine wl_y (y_move rfl) ?_
        refine wl_eff (e_appendm (f := b8) (xs := ((([UInt8.ofNat (n / 2 ^ 8), UInt8.ofNat n, UInt8.ofNat (6 + nn)] : List UInt8) ++ (([116, 108, 115, 49, 51, 32] : List UInt8) ++ ln)) ++ ([UInt8.ofNat nc] : List UInt8))) (news := lc) sl22 el5 rfl rfl rfl rfl (i := 2) rfl (fun w m => m.rd0 hc) (by omega) (by omega) (((3 + (6 + nn)) + 1) + nc) (by first | rfl | omega) (by first | rfl | simp) (fun _ => ⟨_, rfl, ⟨_, rfl, rfl⟩⟩)) rfl trivial rfl ?_
        intro r6
        refine wl_y (y_assign rfl) ?_
        refine wl_nil ?_
        refine aq_seq ?_
        refine wc_seq ?_
        refine wc_region ?_
        refine wl_y (y_move rfl) ?_
        refine wl_y (y_move rfl) ?_
        refine wl_y (y_move rfl) ?_
        refine wl_eff (e_call0 cf8 rfl (fun w m => rexpand_ok w ak r6.1 nk ck (((3 + (6 + nn)) + 1) + nc) r6.2 lk (((([UInt8.ofNat (n / 2 ^ 8), UInt8.ofNat n, UInt8.ofNat (6 + nn)] : List UInt8) ++ (([116, 108, 115, 49, 51, 32] : List UInt8) ++ ln)) ++ ([UInt8.ofNat nc] : List UInt8)) ++ lc) n (m.rd0 hk) ((m.rd_sl (i := 2) rfl : Rd _ _ (((3 + (6 + nn)) + 1) + nc) 1 ((((([UInt8.ofNat (n / 2 ^ 8), UInt8.ofNat n, UInt8.ofNat (6 + nn)] : List UInt8) ++ (([116, 108, 115, 49, 51, 32] : List UInt8) ++ ln)) ++ ([UInt8.ofNat nc] : List UInt8)) ++ lc).map b8))) (by omega))) rfl trivial rfl ?_
        intro r7
        refine wl_y (y_extract rfl rfl) ?_
        refine wl_y (y_extract rfl rfl) ?_
        refine wl_y (y_assign rfl) ?_
        refine wl_y (y_assign rfl) ?_
        refine wl_nil ?_
        refine aq_seq ?_
        refine wc_ret ?_
        refine aq_return (.inl rfl) rfl (⟨_, _, rfl, rfl, ⟨_, _, rfl, rfl, rfl⟩⟩) ?_
        intro w' m
        rw [he, h2, h3]
        exact ⟨(r7.1, r7.2), rfl, (Mem.pick m (is := [0]) ⟨_, _, rfl, rfl, rfl⟩ (by decide))⟩

end Go.Proofs.YtjibkjoaamchoaaGreatDoor
