/- Lemmas and contracts for the proof of this seat's statements (LivC). No condition. -/
import Derived.Test.YtiamjapfjmfldaaEEngC
import Derived.Test.YtiamjapfjmfldaaProg
import Derived.KernelRfl
import Derived.Test.YtiamjapfjmfldaaEPlaA
import Derived.Test.YtiamjapfjmfldaaEHelC
set_option linter.all false
namespace Go.Proofs.Ytiamjapfjmfldaa
open Go.Mc
private def lit_20f3b687 : Array Value := #[b8 (7), b8 (0), b8 (0), b8 (0), b8 (0), b8 (0), b8 (0), b8 (0), b8 (0), b8 (0), b8 (0), b8 (0), b8 (0), b8 (0), b8 (0), b8 (0), b8 (0), b8 (0), b8 (0), b8 (0), b8 (0), b8 (0), b8 (0), b8 (0), b8 (0), b8 (0), b8 (0), b8 (0), b8 (0), b8 (0), b8 (0), b8 (0)]
private def lit_58ebd2ff : Array Value := #[b8 (1), b8 (0), b8 (0), b8 (0), b8 (0), b8 (0), b8 (0), b8 (0), b8 (0), b8 (0), b8 (0), b8 (0), b8 (0), b8 (0), b8 (0), b8 (0), b8 (0), b8 (0), b8 (0), b8 (0), b8 (0), b8 (0), b8 (0), b8 (0), b8 (0), b8 (0), b8 (0), b8 (0), b8 (0), b8 (0), b8 (0), b8 (0), b8 (0), w64 (0), w64 (0), w64 (0), w64 (0), b8 (7), b8 (0), b8 (0), b8 (0), b8 (0), b8 (0), b8 (0), b8 (0), b8 (0), b8 (0), b8 (0), b8 (0), b8 (0), b8 (0), b8 (0), b8 (0), b8 (0), b8 (0), b8 (0), b8 (0), b8 (0), b8 (0), b8 (0), b8 (0), b8 (0), b8 (0), b8 (0), b8 (0), b8 (0), b8 (0), b8 (0), b8 (0)]
private def lit_6190d0e5 : Array Value := #[b8 (3), b8 (0), b8 (0), b8 (0), b8 (0), b8 (0), b8 (0), b8 (0), b8 (0), b8 (0), b8 (0), b8 (0), b8 (0), b8 (0), b8 (0), b8 (0), b8 (0), b8 (0), b8 (0), b8 (0), b8 (0), b8 (0), b8 (0), b8 (0), b8 (0), b8 (0), b8 (0), b8 (0), b8 (0), b8 (0), b8 (0), b8 (0), b8 (0), w64 (0), w64 (0), w64 (0), w64 (0), b8 (0), b8 (0), b8 (0), b8 (0), b8 (0), b8 (0), b8 (0), b8 (0), b8 (0), b8 (0), b8 (0), b8 (0), b8 (0), b8 (0), b8 (0), b8 (0), b8 (0), b8 (0), b8 (0), b8 (0), b8 (0), b8 (0), b8 (0), b8 (0), b8 (0), b8 (0), b8 (0), b8 (0), b8 (0), b8 (0), b8 (0), b8 (0)]
private def lit_6b5fdfc4 : Array Value := #[b8 (0), b8 (0), b8 (0), b8 (0), b8 (0), b8 (0), b8 (0), b8 (0), b8 (0), b8 (0), b8 (0), b8 (0), b8 (0), b8 (0), b8 (0), b8 (0), b8 (0), b8 (0), b8 (0), b8 (0), b8 (0), b8 (0), b8 (0), b8 (0), b8 (0), b8 (0), b8 (0), b8 (0), b8 (0), b8 (0), b8 (0), b8 (0), b8 (0), w64 (0), w64 (0), w64 (0), w64 (0), b8 (0), b8 (0), b8 (0), b8 (0), b8 (0), b8 (0), b8 (0), b8 (0), b8 (0), b8 (0), b8 (0), b8 (0), b8 (0), b8 (0), b8 (0), b8 (0), b8 (0), b8 (0), b8 (0), b8 (0), b8 (0), b8 (0), b8 (0), b8 (0), b8 (0), b8 (0), b8 (0), b8 (0), b8 (0), b8 (0), b8 (0), b8 (0)]
private def lit_a151fbb0 : Array Value := #[b8 (3), b8 (0), b8 (0), b8 (0), b8 (0), b8 (0), b8 (0), b8 (0), b8 (0), b8 (0), b8 (0), b8 (0), b8 (0), b8 (0), b8 (0), b8 (0), b8 (0), b8 (0), b8 (0), b8 (0), b8 (0), b8 (0), b8 (0), b8 (0), b8 (0), b8 (0), b8 (0), b8 (0), b8 (0), b8 (0), b8 (0), b8 (0), b8 (0), w64 (0), w64 (0), w64 (0), w64 (0), b8 (7), b8 (0), b8 (0), b8 (0), b8 (0), b8 (0), b8 (0), b8 (0), b8 (0), b8 (0), b8 (0), b8 (0), b8 (0), b8 (0), b8 (0), b8 (0), b8 (0), b8 (0), b8 (0), b8 (0), b8 (0), b8 (0), b8 (0), b8 (0), b8 (0), b8 (0), b8 (0), b8 (0), b8 (0), b8 (0), b8 (0), b8 (0)]
private theorem st35 : stB Try.prog 35 [(0, 1), (1, 32), (33, 4), (37, 32)] := by unfold stB; kernel_rfl
private theorem zn35 : znB Try.prog 35 (.agg lit_6b5fdfc4) := by unfold znB; kernel_rfl
private theorem sz35 : szB Try.prog 35 69 = true := by kernel_rfl
private theorem fd35_3 : fdB Try.prog 35 3 37 25 = true := by kernel_rfl
private theorem sz25 : szB Try.prog 25 32 = true := by kernel_rfl
private theorem ar25 : arB Try.prog 25 32 5 = true := by kernel_rfl
private theorem sz5 : szB Try.prog 5 1 = true := by kernel_rfl
private theorem ag35 : agB Try.prog 35 69 = true := by kernel_rfl
private theorem cf9 : cfB Try.prog 9 = true := by kernel_rfl
private theorem sl22 : slB Try.prog 22 5 = true := by kernel_rfl
private theorem cf10 : cfB Try.prog 10 = true := by kernel_rfl
private theorem el5 : elB Try.prog 5 1 1 (b8 (0)) := elB_of (by kernel_rfl) (by kernel_rfl) (by unfold znB; kernel_rfl)
private theorem ag25 : agB Try.prog 25 32 = true := by kernel_rfl
private theorem sc5 : scB Try.prog 5 = true := by kernel_rfl
set_option maxHeartbeats 2000000 in
theorem lives_ok (w : World) :
    Calls Try.prog 4 #[] w (Ret (fun _ : Unit => kb true) (fun _ => Mem w [] [])) := by
  refine calls_of Try.func4 rfl rfl (L := []) trivial (m := 74) (Nat.le_of_ble_eq_true rfl) (M := Mem w [] []) (Mem.refl w) ?_
  refine wc_seq ?_
  refine wc_region ?_
  refine wl_y (y_assign rfl) ?_
  refine wl_nil ?_
  refine aq_seq ?_
  refine wc_seq ?_
  refine wc_region ?_
  refine wl_y (y_build_st (cs := lit_6190d0e5) [(0, b8 (3))] st35 zn35 rfl (by kernel_rfl)) ?_
  refine wl_eff (e_alloc (cs := lit_6b5fdfc4) zn35 (by kernel_rfl)) rfl trivial rfl ?_
  intro b1
  refine wl_eff (e_storeall sz35 rfl rfl (i := 0) rfl (by kernel_rfl) (by kernel_rfl) (one_all (by kernel_rfl)) rfl) rfl trivial rfl ?_
  intro _
  refine wl_nil ?_
  refine aq_seq ?_
  refine wc_seq ?_
  refine wc_region ?_
  refine wl_y (y_fieldAddr fd35_3 sz25 rfl) ?_
  refine wl_y (y_indexAddr_ar ar25 sz5 rfl rfl (by omega) (by omega) 37 (by omega)) ?_
  refine wl_eff (e_store1c (cs' := lit_a151fbb0) sz5 rfl rfl (i := 0) rfl rfl (by kernel_rfl) (by kernel_rfl) rfl) rfl trivial rfl ?_
  intro _
  refine wl_nil ?_
  refine aq_seq ?_
  refine wc_seq ?_
  refine wc_region ?_
  refine wl_y (y_loadall ag35 rfl (i := 0) rfl (by kernel_rfl)) ?_
  refine wl_eff (e_call0 cf9 rfl (fun w m => putF_ok w)) rfl trivial rfl ?_
  intro r2
  refine wl_y (y_move rfl) ?_
  refine wl_y (y_extract rfl rfl) ?_
  refine wl_y (y_extract rfl rfl) ?_
  refine wl_y (y_assign rfl) ?_
  refine wl_y (y_assign rfl) ?_
  refine wl_nil ?_
  refine aq_seq ?_
  refine wc_seq ?_
  refine wc_region ?_
  refine wl_y (y_move rfl) ?_
  refine wl_y (y_move rfl) ?_
  refine wl_y (y_len_sl sl22 (m := 33) rfl rfl) ?_
  refine wl_y (y_min2 rfl rfl) ?_
  refine wl_re (t := 24) (v' := ki (32)) rfl (rfl) ?_
  refine wl_y (y_slice_sl0 sl22 sz5 rfl 32 ⟨_, _, rfl, by first | rfl | omega⟩ rfl (by omega)) ?_
  refine wl_eff (e_call0 cf10 rfl (fun w m => get4_ok w r2 33 (([3, 7] ++ List.replicate 31 0 : List UInt8).take 32) (((m.rd_sl (i := 0) rfl : Rd _ _ 33 1 (([3, 7] ++ List.replicate 31 0 : List UInt8).map b8))).pre1 (k := 32) (by omega)) rfl (by omega))) rfl trivial rfl ?_
  intro _
  refine wl_y (y_move rfl) ?_
  refine wl_y (y_extract rfl rfl) ?_
  refine wl_y (y_extract rfl rfl) ?_
  refine wl_y (y_extract rfl rfl) ?_
  refine wl_eff (e_alloc (cs := lit_6b5fdfc4) zn35 (by kernel_rfl)) rfl trivial rfl ?_
  intro b3
  refine wl_eff (e_storeall sz35 rfl rfl (i := 0) rfl (by kernel_rfl) (by kernel_rfl) (one_all (by kernel_rfl)) rfl) rfl trivial rfl ?_
  intro _
  refine wl_y (y_assign rfl) ?_
  refine wl_y (y_assign rfl) ?_
  refine wl_nil ?_
  refine aq_seq ?_
  refine wc_seq ?_
  refine wc_region ?_
  refine wl_eff (e_buildSlice (len := 1) [b8 (4)] sl22 el5 rfl rfl rfl (by simp [Value.cells]) (by decide) [b8 (4)] rfl) rfl trivial rfl ?_
  intro b4
  refine wl_eff (e_call0 cf10 rfl (fun w m => get5_ok w (some ⟨b4, 0, none⟩) 1 ([4] : List UInt8) ((m.rd_sl (i := 0) rfl : Rd _ _ 1 1 (([4] : List UInt8).map b8))) rfl (by omega))) rfl trivial rfl ?_
  intro _
  refine wl_y (y_move rfl) ?_
  refine wl_y (y_extract rfl rfl) ?_
  refine wl_y (y_extract rfl rfl) ?_
  refine wl_y (y_extract rfl rfl) ?_
  refine wl_eff (e_alloc (cs := lit_6b5fdfc4) zn35 (by kernel_rfl)) rfl trivial rfl ?_
  intro b5
  refine wl_eff (e_storeall sz35 rfl rfl (i := 0) rfl (by kernel_rfl) (by kernel_rfl) (one_all (by kernel_rfl)) rfl) rfl trivial rfl ?_
  intro _
  refine wl_y (y_assign rfl) ?_
  refine wl_y (y_assign rfl) ?_
  refine wl_nil ?_
  refine aq_seq ?_
  refine wc_seq ?_
  refine wc_region ?_
  refine wl_y (y_fieldAddr fd35_3 sz25 rfl) ?_
  refine wl_y (y_loads (cs := Array.toList (lit_20f3b687)) ag25 rfl (by kernel_rfl) (c_blks (i := 4) rfl (c_lit (off := 37) (by kernel_rfl)))) ?_
  refine wl_y (y_build_st (cs := lit_58ebd2ff) [(0, b8 (1)), (3, .agg (lit_20f3b687))] st35 zn35 rfl (by kernel_rfl)) ?_
  refine wl_eff (e_call0 cf9 rfl (fun w m => putC_ok w)) rfl trivial rfl ?_
  intro _
  refine wl_y (y_move rfl) ?_
  refine wl_y (y_extract rfl rfl) ?_
  refine wl_y (y_extract rfl rfl) ?_
  refine wl_y (y_assign rfl) ?_
  refine wl_y (y_assign rfl) ?_
  refine wl_nil ?_
  refine aq_seq ?_
  refine wc_seq ?_
  refine wc_region ?_
  refine wl_y (y_move rfl) ?_
  refine wl_y (y_bin rfl rfl (show bin .eql (ki 0) (ki 0) = some (kb true) from rfl)) ?_
  refine wl_y (y_move rfl) ?_
  refine wl_y (y_move rfl) ?_ (hg := ⟨_, rfl, rfl⟩)
  refine wl_y (y_len_sl sl22 (m := 33) rfl rfl) ?_ (hg := ⟨_, rfl, rfl⟩)
  refine wl_y (y_bin rfl rfl (show bin .eql (ki 33) (ki 33) = some (kb true) from rfl)) ?_ (hg := ⟨_, rfl, rfl⟩)
  refine wl_y (y_pick (b := true) rfl rfl) ?_
  refine wl_y (y_move rfl) ?_
  refine wl_y (y_move rfl) ?_ (hg := ⟨_, rfl, rfl⟩)
  refine wl_y (y_indexAddr_sl sl22 sz5 rfl rfl (by omega) (by omega) (fun w m => rd_isSome ((m.rd_sl (i := 3) rfl : Rd _ _ 33 1 (([3, 7] ++ List.replicate 31 0 : List UInt8).map b8))) (by omega) (by decide)) 0 (by omega)) ?_ (hg := ⟨_, rfl, rfl⟩)
  refine wl_y (y_load sc5 rfl (c_of (fun w m => (m.rd_sl (i := 3) rfl : Rd _ _ 33 1 (([3, 7] ++ List.replicate 31 0 : List UInt8).map b8))) (map_get (gd 0 (by first | omega | (simp; done) | (simp; omega)))))) ?_ (hg := ⟨_, rfl, rfl⟩)
  refine wl_re (t := 53) (v' := b8 (3)) rfl (rfl) ?_
  refine wl_y (y_bin rfl rfl (show bin .eql (b8 3) (b8 3) = some (kb true) from rfl)) ?_ (hg := ⟨_, rfl, rfl⟩)
  refine wl_y (y_pick (b := true) rfl rfl) ?_
  refine wl_y (y_move rfl) ?_
  refine wl_y (y_move rfl) ?_ (hg := ⟨_, rfl, rfl⟩)
  refine wl_y (y_indexAddr_sl sl22 sz5 rfl rfl (by omega) (by omega) (fun w m => rd_isSome ((m.rd_sl (i := 3) rfl : Rd _ _ 33 1 (([3, 7] ++ List.replicate 31 0 : List UInt8).map b8))) (by omega) (by decide)) 1 (by omega)) ?_ (hg := ⟨_, rfl, rfl⟩)
  refine wl_y (y_load sc5 rfl (c_of (fun w m => (m.rd_sl (i := 3) rfl : Rd _ _ 33 1 (([3, 7] ++ List.replicate 31 0 : List UInt8).map b8))) (map_get (gd 0 (by first | omega | (simp; done) | (simp; omega)))))) ?_ (hg := ⟨_, rfl, rfl⟩)
  refine wl_re (t := 59) (v' := b8 (7)) rfl (rfl) ?_
  refine wl_y (y_bin rfl rfl (show bin .eql (b8 7) (b8 7) = some (kb true) from rfl)) ?_ (hg := ⟨_, rfl, rfl⟩)
  refine wl_y (y_pick (b := true) rfl rfl) ?_
  refine wl_y (y_move rfl) ?_
  refine wl_y (y_move rfl) ?_ (hg := ⟨_, rfl, rfl⟩)
  refine wl_y (y_bin rfl rfl (show bin .eql (ki 4) (ki 4) = some (kb true) from rfl)) ?_ (hg := ⟨_, rfl, rfl⟩)
  refine wl_y (y_pick (b := true) rfl rfl) ?_
  refine wl_y (y_move rfl) ?_
  refine wl_y (y_move rfl) ?_ (hg := ⟨_, rfl, rfl⟩)
  refine wl_y (y_bin rfl rfl (show bin .eql (ki 5) (ki 5) = some (kb true) from rfl)) ?_ (hg := ⟨_, rfl, rfl⟩)
  refine wl_y (y_pick (b := true) rfl rfl) ?_
  refine wl_y (y_move rfl) ?_
  refine wl_y (y_move rfl) ?_ (hg := ⟨_, rfl, rfl⟩)
  refine wl_y (y_bin rfl rfl (show bin .eql (ki 1) (ki 1) = some (kb true) from rfl)) ?_ (hg := ⟨_, rfl, rfl⟩)
  refine wl_y (y_pick (b := true) rfl rfl) ?_
  refine wl_y (y_assign rfl) ?_
  refine wl_nil ?_
  refine aq_seq ?_
  refine wc_ret ?_
  refine aq_return (.inl rfl) rfl (⟨_, _, rfl, rfl, rfl⟩) ?_
  intro w' m
  exact ⟨(), rfl, m.pick (is := []) rfl (by decide)⟩

end Go.Proofs.Ytiamjapfjmfldaa
