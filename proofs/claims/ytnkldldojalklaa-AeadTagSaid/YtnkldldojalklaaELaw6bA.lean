/- Lemmas and contracts for the proof of this seat's statements (Law6bA). No condition. -/
import Derived.Test.YtnkldldojalklaaEPar2
import Derived.Test.YtnkldldojalklaaProg
import Derived.KernelRfl
import Derived.Test.YtnkldldojalklaaELaw6A
import Derived.Test.YtnkldldojalklaaEKvaA
set_option linter.all false
namespace Go.Proofs.Ytnkldldojalklaa
open Go.Mc
private theorem us3 : (Try.prog.underlying 3).isSome = true := by kernel_rfl
private theorem ui5 : Try.prog.underlying 5 = some (.int .u8) := by kernel_rfl
private theorem sl22 : slB Try.prog 22 5 = true := by kernel_rfl
private theorem el5 : elB Try.prog 5 1 1 (b8 (0)) := elB_of (by kernel_rfl) (by kernel_rfl) (by unfold znB; kernel_rfl)
private theorem ub5 : Try.prog.underlying 5 = some (.int .u8) := by kernel_rfl
private theorem cf8 : cfB Try.prog 8 = true := by kernel_rfl
private theorem cf9 : cfB Try.prog 9 = true := by kernel_rfl
private theorem sz5 : szB Try.prog 5 1 = true := by kernel_rfl
private theorem cf10 : cfB Try.prog 10 = true := by kernel_rfl
def keyTo : Nat → List UInt8
  | 0 => []
  | k + 1 => keyTo k ++ [UInt8.ofNat (128 + k)]
theorem k_seal : sealO 32 12 114 12 keyL nonL txtL besL = ctL ++ [26, 225, 11, 89, 79, 9, 226, 106, 126, 144, 46, 203, 208, 96, 6, 145] := by
  show ([] ++ xorTo txtL keyL 1 nonL 114) ++ stagF keyL nonL besL 12 (xorTo txtL keyL 1 nonL 114) 114 = _
  rw [k_ct, k_tag]; rfl
theorem k_o20 : openE 32 12 20 0 keyL nonL (List.replicate 20 0) [] = 11 := by
  refine openE_11 rfl rfl (by decide) (by decide) (by decide) ?_
  show ¬ (stagF keyL nonL [] 0 (List.replicate 4 0) 4 = List.replicate 16 0)
  rw [k_tag2]; decide
theorem k_o20N : openN 32 12 20 0 keyL nonL (List.replicate 20 0) [] = 0 := by unfold openN; rw [k_o20]; rfl
theorem k_o20E : ((openE 32 12 20 0 keyL nonL (List.replicate 20 0) [] : Nat) : Int) = 11 := by rw [k_o20]; rfl
theorem k_o20O : openO 32 12 20 0 keyL nonL (List.replicate 20 0) [] = [] := by unfold openO; rw [k_o20]; rfl

theorem alive_ok (w : World) :
    Calls Try.prog 6 #[] w (Ret (fun _ : Unit => kb true) (fun _ => Mem w [] [])) := by
  refine calls_of Try.func6 rfl rfl (L := []) trivial (m := 86) (Nat.le_of_ble_eq_true rfl) (M := Mem w [] []) (Mem.refl w) ?_
  refine wc_seq ?_
  refine wc_region ?_
  refine wl_y (y_assign rfl) ?_
  refine wl_nil ?_
  refine aq_seq ?_
  refine wc_seq ?_
  refine wc_region ?_
  refine wl_y (y_assign rfl) ?_
  refine wl_nil ?_
  refine aq_seq ?_
  refine wc_seq ?_
  refine wc_seq ?_
  refine wc_region ?_
  refine wl_y (y_assign rfl) ?_
  refine wl_nil ?_
  refine aq_seq ?_
  refine wc_block ?_
  refine wc_mem (fun _ h => h.nilsl 5 1) ?_
  refine wc_loop (γ := Nat × Option Addr × Nat) (fun ⟨k, ad, cp⟩ => [(0, kb (false)), (1, .slice ad k cp), (2, ki ((k : Int)))]) (fun ⟨k, ad, cp⟩ => Mem w [] [.sl ad k cp 5 1 ((keyTo k).map b8)]) (fun ⟨k, ad, cp⟩ => (k ≤ 32)) (fun ⟨k, ad, cp⟩ => 32 - k) (⟨0, none, 0⟩) ?_ ⟨rfl, rfl, rfl, trivial⟩ (fun _ h => h) ?_
  · omega
  · rintro ⟨k, ad, cp⟩ hk
    change k ≤ 32 at hk
    refine wc_seq ?_
    refine wc_seq ?_
    refine wc_region ?_
    refine wl_y (y_move rfl) ?_
    refine wl_y (y_bin rfl rfl lss_i64) ?_
    refine wl_nil ?_
    refine aq_seq ?_
    refine wc_if rfl (fun hc1 => ?_) (fun hc1 => ?_)
    · have hb1 : (k : Int) < 32 := by simpa using hc1
      refine wc_skip ?_
      refine aq_seq ?_
      refine wc_seq ?_
      refine wc_block ?_
      refine wc_region ?_
      refine wl_y (y_move rfl) ?_
      refine wl_y (y_move rfl) ?_
      refine wl_y (y_bin rfl rfl (addn_i64 (a := 128) (b := k) (by omega))) ?_
      refine wl_y (y_cv rfl us3 ui5 (congrArg (Value.int .u8) (cvn_u8 (128 + k) (by omega)))) ?_
      refine wl_eff (e_buildSlice (len := 1) [b8 (UInt8.ofNat (128 + k))] sl22 el5 rfl rfl rfl (by simp [Value.cells]) (by decide) [b8 (UInt8.ofNat (128 + k))] rfl) rfl trivial rfl ?_
      intro b1
      refine wl_eff (e_appendm (f := b8) (xs := (keyTo k)) (news := ([UInt8.ofNat (128 + k)] : List UInt8)) sl22 el5 rfl rfl rfl rfl (i := 1) rfl (fun w m => (m.rd_sl (i := 0) rfl : Rd _ _ 1 1 (([UInt8.ofNat (128 + k)] : List UInt8).map b8))) (by omega) (by omega) (k + 1) (by first | rfl | omega) (by first | rfl | simp) (fun _ => ⟨_, rfl, rfl⟩)) rfl trivial rfl ?_
      intro r2
      refine wl_y (y_assign rfl) ?_
      refine wl_nil ?_
      refine aq_blk_normal ?_
      refine aq_seq ?_
      refine wc_region ?_
      refine wl_y (y_move rfl) ?_
      refine wl_y (y_bin rfl rfl (addn_i64 (a := k) (b := 1) (by omega))) ?_
      refine wl_y (y_assign rfl) ?_
      refine wl_nil ?_
      refine aq_loop (⟨k + 1, r2.1, r2.2⟩) ?_ ?_ ⟨rfl, rfl, rfl, trivial⟩ (fun _ h => (Mem.pick h (is := [1]) ⟨_, _, rfl, rfl, rfl⟩ (by decide)))
      · omega
      · first | omega | (dsimp only; omega)
    · have hb1 : ¬ ((k : Int) < 32) := by simpa using hc1
      refine wc_use (p := k ≤ cp) (fun w m => Mem.sl_le (i := 0) m rfl) (fun hcp => ?_)
      have hk32 : k = 32 := by omega
      subst hk32
      refine wc_mem (M' := Mem w [] [.sl ad 32 cp 5 1 (keyL.map b8)]) (fun w_ h_ => by have h2 : Mem w [] [.sl ad 32 cp 5 1 ((keyTo 32).map b8)] w_ := h_; rw [show keyTo 32 = keyL from rfl] at h2; exact h2) ?_
      refine wc_exit ?_
      refine aq_thru_exit ?_
      refine aq_thru_exit ?_
      refine aq_blk_exit ?_
      refine aq_seq ?_
      refine wc_seq ?_
      refine wc_region ?_
      refine wl_eff (e_buildSlice (len := 12) [b8 (7), b8 (0), b8 (0), b8 (0), b8 (64), b8 (65), b8 (66), b8 (67), b8 (68), b8 (69), b8 (70), b8 (71)] sl22 el5 rfl rfl rfl (by simp [Value.cells]) (by decide) [b8 (7), b8 (0), b8 (0), b8 (0), b8 (64), b8 (65), b8 (66), b8 (67), b8 (68), b8 (69), b8 (70), b8 (71)] rfl) rfl trivial rfl ?_
      intro b3
      refine wl_y (y_assign rfl) ?_
      refine wl_nil ?_
      refine aq_seq ?_
      refine wc_seq ?_
      refine wc_region ?_
      refine wl_eff (e_buildSlice (len := 12) [b8 (80), b8 (81), b8 (82), b8 (83), b8 (192), b8 (193), b8 (194), b8 (195), b8 (196), b8 (197), b8 (198), b8 (199)] sl22 el5 rfl rfl rfl (by simp [Value.cells]) (by decide) [b8 (80), b8 (81), b8 (82), b8 (83), b8 (192), b8 (193), b8 (194), b8 (195), b8 (196), b8 (197), b8 (198), b8 (199)] rfl) rfl trivial rfl ?_
      intro b4
      refine wl_y (y_assign rfl) ?_
      refine wl_nil ?_
      refine aq_seq ?_
      refine wc_seq ?_
      refine wc_region ?_
      refine wl_y (y_move rfl) ?_
      refine wl_y (y_move rfl) ?_
      refine wl_eff (e_buildBlk (len := 114) [b8 (76), b8 (97), b8 (100), b8 (105), b8 (101), b8 (115), b8 (32), b8 (97), b8 (110), b8 (100), b8 (32), b8 (71), b8 (101), b8 (110), b8 (116), b8 (108), b8 (101), b8 (109), b8 (101), b8 (110), b8 (32), b8 (111), b8 (102), b8 (32), b8 (116), b8 (104), b8 (101), b8 (32), b8 (99), b8 (108), b8 (97), b8 (115), b8 (115), b8 (32), b8 (111), b8 (102), b8 (32), b8 (39), b8 (57), b8 (57), b8 (58), b8 (32), b8 (73), b8 (102), b8 (32), b8 (73), b8 (32), b8 (99), b8 (111), b8 (117), b8 (108), b8 (100), b8 (32), b8 (111), b8 (102), b8 (102), b8 (101), b8 (114), b8 (32), b8 (121), b8 (111), b8 (117), b8 (32), b8 (111), b8 (110), b8 (108), b8 (121), b8 (32), b8 (111), b8 (110), b8 (101), b8 (32), b8 (116), b8 (105), b8 (112), b8 (32), b8 (102), b8 (111), b8 (114), b8 (32), b8 (116), b8 (104), b8 (101), b8 (32), b8 (102), b8 (117), b8 (116), b8 (117), b8 (114), b8 (101), b8 (44), b8 (32), b8 (115), b8 (117), b8 (110), b8 (115), b8 (99), b8 (114), b8 (101), b8 (101), b8 (110), b8 (32), b8 (119), b8 (111), b8 (117), b8 (108), b8 (100), b8 (32), b8 (98), b8 (101), b8 (32), b8 (105), b8 (116), b8 (46)] sl22 el5 rfl rfl rfl (by simp [Value.cells]) (by decide) [b8 (76), b8 (97), b8 (100), b8 (105), b8 (101), b8 (115), b8 (32), b8 (97), b8 (110), b8 (100), b8 (32), b8 (71), b8 (101), b8 (110), b8 (116), b8 (108), b8 (101), b8 (109), b8 (101), b8 (110), b8 (32), b8 (111), b8 (102), b8 (32), b8 (116), b8 (104), b8 (101), b8 (32), b8 (99), b8 (108), b8 (97), b8 (115), b8 (115), b8 (32), b8 (111), b8 (102), b8 (32), b8 (39), b8 (57), b8 (57), b8 (58), b8 (32), b8 (73), b8 (102), b8 (32), b8 (73), b8 (32), b8 (99), b8 (111), b8 (117), b8 (108), b8 (100), b8 (32), b8 (111), b8 (102), b8 (102), b8 (101), b8 (114), b8 (32), b8 (121), b8 (111), b8 (117), b8 (32), b8 (111), b8 (110), b8 (108), b8 (121), b8 (32), b8 (111), b8 (110), b8 (101), b8 (32), b8 (116), b8 (105), b8 (112), b8 (32), b8 (102), b8 (111), b8 (114), b8 (32), b8 (116), b8 (104), b8 (101), b8 (32), b8 (102), b8 (117), b8 (116), b8 (117), b8 (114), b8 (101), b8 (44), b8 (32), b8 (115), b8 (117), b8 (110), b8 (115), b8 (99), b8 (114), b8 (101), b8 (101), b8 (110), b8 (32), b8 (119), b8 (111), b8 (117), b8 (108), b8 (100), b8 (32), b8 (98), b8 (101), b8 (32), b8 (105), b8 (116), b8 (46)] rfl) rfl trivial rfl ?_
      intro b5
      refine wl_eff (e_conv_mark sl22 ub5 rfl (i := 0) rfl rfl) rfl trivial rfl ?_
      intro _
      refine wl_y (y_move rfl) ?_
      refine wl_eff (e_call0 cf8 rfl (fun w m => seal_ok w ad (some ⟨b3, 0, none⟩) (some ⟨b5, 0, none⟩) (some ⟨b4, 0, none⟩) 32 cp 12 12 114 114 12 12 keyL ([7, 0, 0, 0, 64, 65, 66, 67, 68, 69, 70, 71] : List UInt8) ([76, 97, 100, 105, 101, 115, 32, 97, 110, 100, 32, 71, 101, 110, 116, 108, 101, 109, 101, 110, 32, 111, 102, 32, 116, 104, 101, 32, 99, 108, 97, 115, 115, 32, 111, 102, 32, 39, 57, 57, 58, 32, 73, 102, 32, 73, 32, 99, 111, 117, 108, 100, 32, 111, 102, 102, 101, 114, 32, 121, 111, 117, 32, 111, 110, 108, 121, 32, 111, 110, 101, 32, 116, 105, 112, 32, 102, 111, 114, 32, 116, 104, 101, 32, 102, 117, 116, 117, 114, 101, 44, 32, 115, 117, 110, 115, 99, 114, 101, 101, 110, 32, 119, 111, 117, 108, 100, 32, 98, 101, 32, 105, 116, 46]) ([80, 81, 82, 83, 192, 193, 194, 195, 196, 197, 198, 199] : List UInt8) ((m.rd_sl (i := 3) rfl : Rd _ _ 32 1 (keyL.map b8))) ((m.rd_sl (i := 2) rfl : Rd _ _ 12 1 (([7, 0, 0, 0, 64, 65, 66, 67, 68, 69, 70, 71] : List UInt8).map b8))) (((m.rd_blk (i := 0) (n := 114) (sz := 1) rfl (by first | (simp; done) | (simp [*]; done) | (simp; omega) | rfl)) : Rd _ _ _ 1 (([76, 97, 100, 105, 101, 115, 32, 97, 110, 100, 32, 71, 101, 110, 116, 108, 101, 109, 101, 110, 32, 111, 102, 32, 116, 104, 101, 32, 99, 108, 97, 115, 115, 32, 111, 102, 32, 39, 57, 57, 58, 32, 73, 102, 32, 73, 32, 99, 111, 117, 108, 100, 32, 111, 102, 102, 101, 114, 32, 121, 111, 117, 32, 111, 110, 108, 121, 32, 111, 110, 101, 32, 116, 105, 112, 32, 102, 111, 114, 32, 116, 104, 101, 32, 102, 117, 116, 117, 114, 101, 44, 32, 115, 117, 110, 115, 99, 114, 101, 101, 110, 32, 119, 111, 117, 108, 100, 32, 98, 101, 32, 105, 116, 46] : List UInt8).map b8))) ((m.rd_sl (i := 1) rfl : Rd _ _ 12 1 (([80, 81, 82, 83, 192, 193, 194, 195, 196, 197, 198, 199] : List UInt8).map b8))))) rfl trivial rfl ?_
      intro r6
      rw [show ((sealE 32 12 114 12 : Nat) : Int) = 0 from rfl, show (sealN 32 12 114 12) = 130 from rfl, show (sealO 32 12 114 12 keyL ([7, 0, 0, 0, 64, 65, 66, 67, 68, 69, 70, 71] : List UInt8) ([76, 97, 100, 105, 101, 115, 32, 97, 110, 100, 32, 71, 101, 110, 116, 108, 101, 109, 101, 110, 32, 111, 102, 32, 116, 104, 101, 32, 99, 108, 97, 115, 115, 32, 111, 102, 32, 39, 57, 57, 58, 32, 73, 102, 32, 73, 32, 99, 111, 117, 108, 100, 32, 111, 102, 102, 101, 114, 32, 121, 111, 117, 32, 111, 110, 108, 121, 32, 111, 110, 101, 32, 116, 105, 112, 32, 102, 111, 114, 32, 116, 104, 101, 32, 102, 117, 116, 117, 114, 101, 44, 32, 115, 117, 110, 115, 99, 114, 101, 101, 110, 32, 119, 111, 117, 108, 100, 32, 98, 101, 32, 105, 116, 46]) ([80, 81, 82, 83, 192, 193, 194, 195, 196, 197, 198, 199] : List UInt8)) = (ctL ++ [26, 225, 11, 89, 79, 9, 226, 106, 126, 144, 46, 203, 208, 96, 6, 145]) from k_seal]
      refine wl_use (p := 130 ≤ r6.2) (fun w m => m.sl_le (i := 0) rfl) (fun hcap_r6 => ?_)
      refine wl_y (y_move rfl) ?_
      refine wl_y (y_extract rfl rfl) ?_
      refine wl_y (y_extract rfl rfl) ?_
      refine wl_y (y_assign rfl) ?_
      refine wl_y (y_assign rfl) ?_
      refine wl_nil ?_
      refine aq_seq ?_
      refine wc_seq ?_
      refine wc_region ?_
      refine wl_y (y_move rfl) ?_
      refine wl_y (y_move rfl) ?_
      refine wl_eff (e_makeSlm (f := b8) (z := 0) 15 15 sl22 el5 rfl rfl rfl (by omega) (by omega) (by omega) (by omega) (by omega) (H' := fun b => [.sl (some ⟨b, 0, none⟩) 15 15 5 1 ((List.replicate 15 0).map b8), .sl r6.1 130 r6.2 5 1 ((ctL ++ [26, 225, 11, 89, 79, 9, 226, 106, 126, 144, 46, 203, 208, 96, 6, 145]).map b8), .blk b5 (.cells (#[b8 (76), b8 (97), b8 (100), b8 (105), b8 (101), b8 (115), b8 (32), b8 (97), b8 (110), b8 (100), b8 (32), b8 (71), b8 (101), b8 (110), b8 (116), b8 (108), b8 (101), b8 (109), b8 (101), b8 (110), b8 (32), b8 (111), b8 (102), b8 (32), b8 (116), b8 (104), b8 (101), b8 (32), b8 (99), b8 (108), b8 (97), b8 (115), b8 (115), b8 (32), b8 (111), b8 (102), b8 (32), b8 (39), b8 (57), b8 (57), b8 (58), b8 (32), b8 (73), b8 (102), b8 (32), b8 (73), b8 (32), b8 (99), b8 (111), b8 (117), b8 (108), b8 (100), b8 (32), b8 (111), b8 (102), b8 (102), b8 (101), b8 (114), b8 (32), b8 (121), b8 (111), b8 (117), b8 (32), b8 (111), b8 (110), b8 (108), b8 (121), b8 (32), b8 (111), b8 (110), b8 (101), b8 (32), b8 (116), b8 (105), b8 (112), b8 (32), b8 (102), b8 (111), b8 (114), b8 (32), b8 (116), b8 (104), b8 (101), b8 (32), b8 (102), b8 (117), b8 (116), b8 (117), b8 (114), b8 (101), b8 (44), b8 (32), b8 (115), b8 (117), b8 (110), b8 (115), b8 (99), b8 (114), b8 (101), b8 (101), b8 (110), b8 (32), b8 (119), b8 (111), b8 (117), b8 (108), b8 (100), b8 (32), b8 (98), b8 (101), b8 (32), b8 (105), b8 (116), b8 (46)]) 5 (114, 115)), .sl (some ⟨b4, 0, none⟩) 12 12 5 1 (([80, 81, 82, 83, 192, 193, 194, 195, 196, 197, 198, 199] : List UInt8).map b8), .sl (some ⟨b3, 0, none⟩) 12 12 5 1 (([7, 0, 0, 0, 64, 65, 66, 67, 68, 69, 70, 71] : List UInt8).map b8), .sl ad 32 cp 5 1 (keyL.map b8)]) (fun _ => by rfl)) rfl trivial rfl ?_
      intro b7
      refine wl_eff (e_call0 cf9 rfl (fun w m => open_ok w ad (some ⟨b3, 0, none⟩) (some ⟨b7, 0, none⟩) none 32 cp 12 12 15 15 0 0 keyL ([7, 0, 0, 0, 64, 65, 66, 67, 68, 69, 70, 71] : List UInt8) (List.replicate 15 0) ([] : List UInt8) ((m.rd_sl (i := 5) rfl : Rd _ _ 32 1 (keyL.map b8))) ((m.rd_sl (i := 4) rfl : Rd _ _ 12 1 (([7, 0, 0, 0, 64, 65, 66, 67, 68, 69, 70, 71] : List UInt8).map b8))) ((m.rd_sl (i := 0) rfl : Rd _ _ 15 1 ((List.replicate 15 0).map b8))) (Rd.nil _ _ _) (m.sl_le (i := 0) rfl) (by omega))) rfl trivial rfl ?_
      intro r8
      rw [show ((openE 32 12 15 0 keyL ([7, 0, 0, 0, 64, 65, 66, 67, 68, 69, 70, 71] : List UInt8) (List.replicate 15 0) ([] : List UInt8) : Nat) : Int) = 4 from rfl, show (openN 32 12 15 0 keyL ([7, 0, 0, 0, 64, 65, 66, 67, 68, 69, 70, 71] : List UInt8) (List.replicate 15 0) ([] : List UInt8)) = 0 from rfl, show (openO 32 12 15 0 keyL ([7, 0, 0, 0, 64, 65, 66, 67, 68, 69, 70, 71] : List UInt8) (List.replicate 15 0) ([] : List UInt8)) = [] from rfl]
      refine wl_y (y_move rfl) ?_
      refine wl_y (y_extract rfl rfl) ?_
      refine wl_y (y_extract rfl rfl) ?_
      refine wl_y (y_assign rfl) ?_
      refine wl_y (y_assign rfl) ?_
      refine wl_nil ?_
      refine aq_seq ?_
      refine wc_seq ?_
      refine wc_region ?_
      refine wl_y (y_move rfl) ?_
      refine wl_y (y_slice_sl0 sl22 sz5 rfl 31 ⟨_, _, rfl, by first | rfl | omega⟩ rfl (by omega)) ?_
      refine wl_y (y_move rfl) ?_
      refine wl_eff (e_call0 cf8 rfl (fun w m => seal_ok w ad (some ⟨b3, 0, none⟩) none none 31 cp 12 12 0 0 0 0 (keyL.take 31) ([7, 0, 0, 0, 64, 65, 66, 67, 68, 69, 70, 71] : List UInt8) ([] : List UInt8) ([] : List UInt8) (((m.rd_sl (i := 6) rfl : Rd _ _ 32 1 (keyL.map b8))).pre1 (by omega)) ((m.rd_sl (i := 5) rfl : Rd _ _ 12 1 (([7, 0, 0, 0, 64, 65, 66, 67, 68, 69, 70, 71] : List UInt8).map b8))) (Rd.nil _ _ _) (Rd.nil _ _ _))) rfl trivial rfl ?_
      intro r9
      rw [show ((sealE 31 12 0 0 : Nat) : Int) = 1 from rfl, show (sealN 31 12 0 0) = 0 from rfl, show (sealO 31 12 0 0 (keyL.take 31) ([7, 0, 0, 0, 64, 65, 66, 67, 68, 69, 70, 71] : List UInt8) ([] : List UInt8) ([] : List UInt8)) = [] from rfl]
      refine wl_use (p := 0 ≤ r9.2) (fun w m => m.sl_le (i := 0) rfl) (fun hcap_r9 => ?_)
      refine wl_y (y_move rfl) ?_
      refine wl_y (y_extract rfl rfl) ?_
      refine wl_y (y_extract rfl rfl) ?_
      refine wl_y (y_assign rfl) ?_
      refine wl_y (y_assign rfl) ?_
      refine wl_nil ?_
      refine aq_seq ?_
      refine wc_seq ?_
      refine wc_region ?_
      refine wl_y (y_move rfl) ?_
      refine wl_y (y_move rfl) ?_
      refine wl_eff (e_makeSlm (f := b8) (z := 0) 20 20 sl22 el5 rfl rfl rfl (by omega) (by omega) (by omega) (by omega) (by omega) (H' := fun b => [.sl (some ⟨b, 0, none⟩) 20 20 5 1 ((List.replicate 20 0).map b8), .sl r9.1 0 r9.2 5 1 (([]).map b8), .sl r8.1 0 r8.2 5 1 (([]).map b8), .sl (some ⟨b7, 0, none⟩) 15 15 5 1 ((List.replicate 15 0).map b8), .sl r6.1 130 r6.2 5 1 ((ctL ++ [26, 225, 11, 89, 79, 9, 226, 106, 126, 144, 46, 203, 208, 96, 6, 145]).map b8), .blk b5 (.cells (#[b8 (76), b8 (97), b8 (100), b8 (105), b8 (101), b8 (115), b8 (32), b8 (97), b8 (110), b8 (100), b8 (32), b8 (71), b8 (101), b8 (110), b8 (116), b8 (108), b8 (101), b8 (109), b8 (101), b8 (110), b8 (32), b8 (111), b8 (102), b8 (32), b8 (116), b8 (104), b8 (101), b8 (32), b8 (99), b8 (108), b8 (97), b8 (115), b8 (115), b8 (32), b8 (111), b8 (102), b8 (32), b8 (39), b8 (57), b8 (57), b8 (58), b8 (32), b8 (73), b8 (102), b8 (32), b8 (73), b8 (32), b8 (99), b8 (111), b8 (117), b8 (108), b8 (100), b8 (32), b8 (111), b8 (102), b8 (102), b8 (101), b8 (114), b8 (32), b8 (121), b8 (111), b8 (117), b8 (32), b8 (111), b8 (110), b8 (108), b8 (121), b8 (32), b8 (111), b8 (110), b8 (101), b8 (32), b8 (116), b8 (105), b8 (112), b8 (32), b8 (102), b8 (111), b8 (114), b8 (32), b8 (116), b8 (104), b8 (101), b8 (32), b8 (102), b8 (117), b8 (116), b8 (117), b8 (114), b8 (101), b8 (44), b8 (32), b8 (115), b8 (117), b8 (110), b8 (115), b8 (99), b8 (114), b8 (101), b8 (101), b8 (110), b8 (32), b8 (119), b8 (111), b8 (117), b8 (108), b8 (100), b8 (32), b8 (98), b8 (101), b8 (32), b8 (105), b8 (116), b8 (46)]) 5 (114, 115)), .sl (some ⟨b4, 0, none⟩) 12 12 5 1 (([80, 81, 82, 83, 192, 193, 194, 195, 196, 197, 198, 199] : List UInt8).map b8), .sl (some ⟨b3, 0, none⟩) 12 12 5 1 (([7, 0, 0, 0, 64, 65, 66, 67, 68, 69, 70, 71] : List UInt8).map b8), .sl ad 32 cp 5 1 (keyL.map b8)]) (fun _ => by rfl)) rfl trivial rfl ?_
      intro b10
      refine wl_eff (e_call0 cf9 rfl (fun w m => open_ok w ad (some ⟨b3, 0, none⟩) (some ⟨b10, 0, none⟩) none 32 cp 12 12 20 20 0 0 keyL ([7, 0, 0, 0, 64, 65, 66, 67, 68, 69, 70, 71] : List UInt8) (List.replicate 20 0) ([] : List UInt8) ((m.rd_sl (i := 8) rfl : Rd _ _ 32 1 (keyL.map b8))) ((m.rd_sl (i := 7) rfl : Rd _ _ 12 1 (([7, 0, 0, 0, 64, 65, 66, 67, 68, 69, 70, 71] : List UInt8).map b8))) ((m.rd_sl (i := 0) rfl : Rd _ _ 20 1 ((List.replicate 20 0).map b8))) (Rd.nil _ _ _) (m.sl_le (i := 0) rfl) (by omega))) rfl trivial rfl ?_
      intro r11
      rw [show ((openE 32 12 20 0 keyL ([7, 0, 0, 0, 64, 65, 66, 67, 68, 69, 70, 71] : List UInt8) (List.replicate 20 0) ([] : List UInt8) : Nat) : Int) = 11 from k_o20E, show (openN 32 12 20 0 keyL ([7, 0, 0, 0, 64, 65, 66, 67, 68, 69, 70, 71] : List UInt8) (List.replicate 20 0) ([] : List UInt8)) = 0 from k_o20N, show (openO 32 12 20 0 keyL ([7, 0, 0, 0, 64, 65, 66, 67, 68, 69, 70, 71] : List UInt8) (List.replicate 20 0) ([] : List UInt8)) = [] from k_o20O]
      refine wl_y (y_move rfl) ?_
      refine wl_y (y_extract rfl rfl) ?_
      refine wl_y (y_extract rfl rfl) ?_
      refine wl_y (y_assign rfl) ?_
      refine wl_y (y_assign rfl) ?_
      refine wl_nil ?_
      refine aq_seq ?_
      refine wc_seq ?_
      refine wc_region ?_
      refine wl_y (y_move rfl) ?_
      refine wl_y (y_bin rfl rfl (show bin .eql (ki 0) (ki 0) = some (kb true) from rfl)) ?_
      refine wl_y (y_move rfl) ?_
      refine wl_y (y_move rfl) ?_ (hg := ⟨_, rfl, rfl⟩)
      refine wl_y (y_bin rfl rfl (show bin .eql (ki 4) (ki 4) = some (kb true) from rfl)) ?_ (hg := ⟨_, rfl, rfl⟩)
      refine wl_y (y_pick (b := true) rfl rfl) ?_
      refine wl_y (y_move rfl) ?_
      refine wl_y (y_move rfl) ?_ (hg := ⟨_, rfl, rfl⟩)
      refine wl_y (y_bin rfl rfl (show bin .eql (ki 1) (ki 1) = some (kb true) from rfl)) ?_ (hg := ⟨_, rfl, rfl⟩)
      refine wl_y (y_pick (b := true) rfl rfl) ?_
      refine wl_y (y_move rfl) ?_
      refine wl_y (y_move rfl) ?_ (hg := ⟨_, rfl, rfl⟩)
      refine wl_y (y_bin rfl rfl (show bin .eql (ki 11) (ki 11) = some (kb true) from rfl)) ?_ (hg := ⟨_, rfl, rfl⟩)
      refine wl_y (y_pick (b := true) rfl rfl) ?_
      refine wl_y (y_move rfl) ?_
      refine wl_y (y_move rfl) ?_ (hg := ⟨_, rfl, rfl⟩)
      refine wl_y (y_len_sl sl22 (m := 130) rfl rfl) ?_ (hg := ⟨_, rfl, rfl⟩)
      refine wl_y (y_bin rfl rfl (show bin .eql (ki 130) (ki 130) = some (kb true) from rfl)) ?_ (hg := ⟨_, rfl, rfl⟩)
      refine wl_y (y_pick (b := true) rfl rfl) ?_
      refine wl_y (y_move rfl) ?_
      refine wl_y (y_move rfl) ?_ (hg := ⟨_, rfl, rfl⟩)
      refine wl_y (y_slice_sl0 sl22 sz5 rfl 4 ⟨_, _, rfl, by first | rfl | omega⟩ rfl (by omega)) ?_ (hg := ⟨_, rfl, rfl⟩)
      refine wl_eff (e_buildSlice (len := 4) [b8 (211), b8 (26), b8 (141), b8 (52)] sl22 el5 rfl rfl rfl (by simp [Value.cells]) (by decide) [b8 (211), b8 (26), b8 (141), b8 (52)] rfl) rfl ⟨_, rfl, rfl⟩ rfl ?_
      intro b12
      refine wl_eff (e_call0 cf10 rfl (fun w m => SameBytes_ok w r6.1 (some ⟨b12, 0, none⟩) 4 r6.2 4 4 ((ctL ++ [26, 225, 11, 89, 79, 9, 226, 106, 126, 144, 46, 203, 208, 96, 6, 145]).take 4) ([211, 26, 141, 52] : List UInt8) (((m.rd_sl (i := 6) rfl : Rd _ _ 130 1 ((ctL ++ [26, 225, 11, 89, 79, 9, 226, 106, 126, 144, 46, 203, 208, 96, 6, 145]).map b8))).pre1 (by omega)) ((m.rd_sl (i := 0) rfl : Rd _ _ 4 1 (([211, 26, 141, 52] : List UInt8).map b8))) (by omega))) rfl ⟨_, rfl, rfl⟩ rfl ?_
      intro _
      refine wl_re (t := 78) (v' := kb (true)) rfl (congrArg kb (by kernel_rfl)) ?_
      refine wl_y (y_pick (b := true) rfl rfl) ?_
      refine wl_y (y_move rfl) ?_
      refine wl_y (y_move rfl) ?_ (hg := ⟨_, rfl, rfl⟩)
      refine wl_y (y_slice_slo sl22 sz5 rfl r6.2 130 114 114 rfl rfl ⟨_, _, rfl, by first | rfl | omega⟩ (by simp) (by omega) (by omega) (by omega) (by omega)) ?_ (hg := ⟨_, rfl, rfl⟩)
      refine wl_eff (e_buildSlice (len := 16) [b8 (26), b8 (225), b8 (11), b8 (89), b8 (79), b8 (9), b8 (226), b8 (106), b8 (126), b8 (144), b8 (46), b8 (203), b8 (208), b8 (96), b8 (6), b8 (145)] sl22 el5 rfl rfl rfl (by simp [Value.cells]) (by decide) [b8 (26), b8 (225), b8 (11), b8 (89), b8 (79), b8 (9), b8 (226), b8 (106), b8 (126), b8 (144), b8 (46), b8 (203), b8 (208), b8 (96), b8 (6), b8 (145)] rfl) rfl ⟨_, rfl, rfl⟩ rfl ?_
      intro b13
      refine wl_eff (e_call0 cf10 rfl (fun w m => SameBytes_ok w (sub r6.1 (r6.2 - 114) 114) (some ⟨b13, 0, none⟩) (130 - 114) (r6.2 - 114) 16 16 (((ctL ++ [26, 225, 11, 89, 79, 9, 226, 106, 126, 144, 46, 203, 208, 96, 6, 145]).drop 114).take (130 - 114)) ([26, 225, 11, 89, 79, 9, 226, 106, 126, 144, 46, 203, 208, 96, 6, 145] : List UInt8) (((m.rd_sl (i := 7) rfl : Rd _ _ 130 1 ((ctL ++ [26, 225, 11, 89, 79, 9, 226, 106, 126, 144, 46, 203, 208, 96, 6, 145]).map b8))).sub1 (l := 114) (k := (130 - 114)) (m := (r6.2 - 114)) (by omega) (by omega)) ((m.rd_sl (i := 0) rfl : Rd _ _ 16 1 (([26, 225, 11, 89, 79, 9, 226, 106, 126, 144, 46, 203, 208, 96, 6, 145] : List UInt8).map b8))) (by omega))) rfl ⟨_, rfl, rfl⟩ rfl ?_
      intro _
      refine wl_re (t := 84) (v' := kb (true)) rfl (congrArg kb (by kernel_rfl)) ?_
      refine wl_y (y_pick (b := true) rfl rfl) ?_
      refine wl_y (y_assign rfl) ?_
      refine wl_nil ?_
      refine aq_seq ?_
      refine wc_ret ?_
      refine aq_return (.inl rfl) rfl (⟨_, _, rfl, rfl, rfl⟩) ?_
      intro w' m
      exact ⟨(), rfl, m.pick (is := []) rfl (by decide)⟩

end Go.Proofs.Ytnkldldojalklaa
