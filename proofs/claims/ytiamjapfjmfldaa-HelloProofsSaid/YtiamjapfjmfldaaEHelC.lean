/- Lemmas and contracts for the proof of this seat's statements (HelC). No condition. -/
import Derived.Test.YtiamjapfjmfldaaEEngC
import Derived.Test.YtiamjapfjmfldaaProg
import Derived.KernelRfl
import Derived.Test.YtiamjapfjmfldaaEPlaA
import Derived.Test.YtiamjapfjmfldaaETwinC
set_option linter.all false
namespace Go.Proofs.Ytiamjapfjmfldaa
open Go.Mc
private def lit_20f3b687 : Array Value := #[b8 (7), b8 (0), b8 (0), b8 (0), b8 (0), b8 (0), b8 (0), b8 (0), b8 (0), b8 (0), b8 (0), b8 (0), b8 (0), b8 (0), b8 (0), b8 (0), b8 (0), b8 (0), b8 (0), b8 (0), b8 (0), b8 (0), b8 (0), b8 (0), b8 (0), b8 (0), b8 (0), b8 (0), b8 (0), b8 (0), b8 (0), b8 (0)]
private def lit_58ebd2ff : Array Value := #[b8 (1), b8 (0), b8 (0), b8 (0), b8 (0), b8 (0), b8 (0), b8 (0), b8 (0), b8 (0), b8 (0), b8 (0), b8 (0), b8 (0), b8 (0), b8 (0), b8 (0), b8 (0), b8 (0), b8 (0), b8 (0), b8 (0), b8 (0), b8 (0), b8 (0), b8 (0), b8 (0), b8 (0), b8 (0), b8 (0), b8 (0), b8 (0), b8 (0), w64 (0), w64 (0), w64 (0), w64 (0), b8 (7), b8 (0), b8 (0), b8 (0), b8 (0), b8 (0), b8 (0), b8 (0), b8 (0), b8 (0), b8 (0), b8 (0), b8 (0), b8 (0), b8 (0), b8 (0), b8 (0), b8 (0), b8 (0), b8 (0), b8 (0), b8 (0), b8 (0), b8 (0), b8 (0), b8 (0), b8 (0), b8 (0), b8 (0), b8 (0), b8 (0), b8 (0)]
private def lit_6190d0e5 : Array Value := #[b8 (3), b8 (0), b8 (0), b8 (0), b8 (0), b8 (0), b8 (0), b8 (0), b8 (0), b8 (0), b8 (0), b8 (0), b8 (0), b8 (0), b8 (0), b8 (0), b8 (0), b8 (0), b8 (0), b8 (0), b8 (0), b8 (0), b8 (0), b8 (0), b8 (0), b8 (0), b8 (0), b8 (0), b8 (0), b8 (0), b8 (0), b8 (0), b8 (0), w64 (0), w64 (0), w64 (0), w64 (0), b8 (0), b8 (0), b8 (0), b8 (0), b8 (0), b8 (0), b8 (0), b8 (0), b8 (0), b8 (0), b8 (0), b8 (0), b8 (0), b8 (0), b8 (0), b8 (0), b8 (0), b8 (0), b8 (0), b8 (0), b8 (0), b8 (0), b8 (0), b8 (0), b8 (0), b8 (0), b8 (0), b8 (0), b8 (0), b8 (0), b8 (0), b8 (0)]
private def lit_6b5fdfc4 : Array Value := #[b8 (0), b8 (0), b8 (0), b8 (0), b8 (0), b8 (0), b8 (0), b8 (0), b8 (0), b8 (0), b8 (0), b8 (0), b8 (0), b8 (0), b8 (0), b8 (0), b8 (0), b8 (0), b8 (0), b8 (0), b8 (0), b8 (0), b8 (0), b8 (0), b8 (0), b8 (0), b8 (0), b8 (0), b8 (0), b8 (0), b8 (0), b8 (0), b8 (0), w64 (0), w64 (0), w64 (0), w64 (0), b8 (0), b8 (0), b8 (0), b8 (0), b8 (0), b8 (0), b8 (0), b8 (0), b8 (0), b8 (0), b8 (0), b8 (0), b8 (0), b8 (0), b8 (0), b8 (0), b8 (0), b8 (0), b8 (0), b8 (0), b8 (0), b8 (0), b8 (0), b8 (0), b8 (0), b8 (0), b8 (0), b8 (0), b8 (0), b8 (0), b8 (0), b8 (0)]
private def lit_70b69071 : Array Value := #[b8 (1), b8 (0), b8 (0), b8 (0), b8 (0), b8 (0), b8 (0), b8 (0), b8 (0), b8 (0), b8 (0), b8 (0), b8 (0), b8 (0), b8 (0), b8 (0), b8 (0), b8 (0), b8 (0), b8 (0), b8 (0), b8 (0), b8 (0), b8 (0), b8 (0), b8 (0), b8 (0), b8 (0), b8 (0), b8 (0), b8 (0), b8 (0), b8 (0), w64 (0), w64 (0), w64 (0), w64 (0), b8 (0), b8 (0), b8 (0), b8 (0), b8 (0), b8 (0), b8 (0), b8 (0), b8 (0), b8 (0), b8 (0), b8 (0), b8 (0), b8 (0), b8 (0), b8 (0), b8 (0), b8 (0), b8 (0), b8 (0), b8 (0), b8 (0), b8 (0), b8 (0), b8 (0), b8 (0), b8 (0), b8 (0), b8 (0), b8 (0), b8 (0), b8 (0)]
private def lit_76dcfbfb : Array Value := #[b8 (0), b8 (0), b8 (0), b8 (0), b8 (0), b8 (0), b8 (0), b8 (0), b8 (0), b8 (0), b8 (0), b8 (0), b8 (0), b8 (0), b8 (0), b8 (0), b8 (0), b8 (0), b8 (0), b8 (0), b8 (0), b8 (0), b8 (0), b8 (0), b8 (0), b8 (0), b8 (0), b8 (0), b8 (0), b8 (0), b8 (0), b8 (0)]
private def lit_a151fbb0 : Array Value := #[b8 (3), b8 (0), b8 (0), b8 (0), b8 (0), b8 (0), b8 (0), b8 (0), b8 (0), b8 (0), b8 (0), b8 (0), b8 (0), b8 (0), b8 (0), b8 (0), b8 (0), b8 (0), b8 (0), b8 (0), b8 (0), b8 (0), b8 (0), b8 (0), b8 (0), b8 (0), b8 (0), b8 (0), b8 (0), b8 (0), b8 (0), b8 (0), b8 (0), w64 (0), w64 (0), w64 (0), w64 (0), b8 (7), b8 (0), b8 (0), b8 (0), b8 (0), b8 (0), b8 (0), b8 (0), b8 (0), b8 (0), b8 (0), b8 (0), b8 (0), b8 (0), b8 (0), b8 (0), b8 (0), b8 (0), b8 (0), b8 (0), b8 (0), b8 (0), b8 (0), b8 (0), b8 (0), b8 (0), b8 (0), b8 (0), b8 (0), b8 (0), b8 (0), b8 (0)]
private def lit_a6439bd7 : Array Value := #[b8 (3), b8 (0), b8 (0), b8 (0), b8 (0), b8 (0), b8 (0), b8 (0), b8 (0), b8 (0), b8 (0), b8 (0), b8 (0), b8 (0), b8 (0), b8 (0), b8 (0), b8 (0), b8 (0), b8 (0), b8 (0), b8 (0), b8 (0), b8 (0), b8 (0), b8 (0), b8 (0), b8 (0), b8 (0), b8 (0), b8 (0), b8 (0), b8 (0), w64 (0), w64 (0), w64 (0), w64 (0)]
private theorem sl22 : slB Try.prog 22 5 = true := by kernel_rfl
private theorem sz5 : szB Try.prog 5 1 = true := by kernel_rfl
private theorem sc22 : scB Try.prog 22 = true := by kernel_rfl
private theorem el5 : elB Try.prog 5 1 1 (b8 (0)) := elB_of (by kernel_rfl) (by kernel_rfl) (by unfold znB; kernel_rfl)
private theorem sz22 : szB Try.prog 22 1 = true := by kernel_rfl
private theorem fd35_0 : fdB Try.prog 35 0 0 31 = true := by kernel_rfl
private theorem sz31 : szB Try.prog 31 1 = true := by kernel_rfl
private theorem sc31 : scB Try.prog 31 = true := by kernel_rfl
private theorem st35 : stB Try.prog 35 [(0, 1), (1, 32), (33, 4), (37, 32)] := by unfold stB; kernel_rfl
private theorem zn35 : znB Try.prog 35 (.agg lit_6b5fdfc4) := by unfold znB; kernel_rfl
private theorem sz35 : szB Try.prog 35 69 = true := by kernel_rfl
private theorem fd35_3 : fdB Try.prog 35 3 37 25 = true := by kernel_rfl
private theorem sz25 : szB Try.prog 25 32 = true := by kernel_rfl
private theorem ag25 : agB Try.prog 25 32 = true := by kernel_rfl
private theorem ag35 : agB Try.prog 35 69 = true := by kernel_rfl
private theorem zn22 : znB Try.prog 22 (.slice none 0 0) := by unfold znB; kernel_rfl
private theorem ar25 : arB Try.prog 25 32 5 = true := by kernel_rfl
private theorem cf17 : cfB Try.prog 17 = true := by kernel_rfl
private theorem cf19 : cfB Try.prog 19 = true := by kernel_rfl
private theorem fd35_1 : fdB Try.prog 35 1 1 25 = true := by kernel_rfl
private theorem fd35_2 : fdB Try.prog 35 2 33 33 = true := by kernel_rfl
private theorem sz33 : szB Try.prog 33 4 = true := by kernel_rfl
private theorem ag33 : agB Try.prog 33 4 = true := by kernel_rfl
private theorem sc3 : scB Try.prog 3 = true := by kernel_rfl
private theorem sz3 : szB Try.prog 3 1 = true := by kernel_rfl
private theorem sc5 : scB Try.prog 5 = true := by kernel_rfl
private theorem zn3 : znB Try.prog 3 (ki (0)) := by unfold znB; kernel_rfl
private theorem cf20 : cfB Try.prog 20 = true := by kernel_rfl
theorem clip_ok (w : World) (ad : Option Addr) (n cap : Nat) (hn : n ≤ cap) :
    Calls Try.prog 19 #[.slice ad n cap] w (Ret (fun _ : Unit => .slice ad n n) (fun _ => Mem w [] [])) := by
  refine calls_of Try.func19 rfl rfl (L := [(0, .slice ad n cap)]) ⟨rfl, trivial⟩ (m := 9) (Nat.le_of_ble_eq_true rfl) (M := Mem w [] []) (Mem.refl w) ?_
  refine wc_seq ?_
  refine wc_region ?_
  refine wl_y (y_assign rfl) ?_
  refine wl_nil ?_
  refine aq_seq ?_
  refine wc_seq ?_
  refine wc_region ?_
  refine wl_y (y_move rfl) ?_
  refine wl_y (y_move rfl) ?_
  refine wl_y (y_len_sl sl22 (m := n) rfl rfl) ?_
  refine wl_y (y_move rfl) ?_
  refine wl_y (y_len_sl sl22 (m := n) rfl rfl) ?_
  refine wl_y (y_slice_slo sl22 sz5 rfl n n 0 0 ⟨_, _, rfl, by first | rfl | omega⟩ ⟨_, _, rfl, by first | rfl | omega⟩ rfl (by simp) (by omega) (by omega) (by omega) (by omega)) ?_
  refine wl_re (t := 8) (v' := .slice ad n n) rfl (by simp [sub_zero]) ?_
  refine wl_y (y_assign rfl) ?_
  refine wl_nil ?_
  refine aq_seq ?_
  refine wc_ret ?_
  refine aq_return (.inl rfl) rfl (⟨_, _, rfl, rfl, rfl⟩) ?_
  intro w' m
  exact ⟨(), rfl, m.pick (is := []) rfl (by decide)⟩

theorem put1_ok (w : World) (own : List Nat) (bx : Nat) (ad ab : Option Addr) (n cap nb cb : Nat) (xs lb : List UInt8) (hm : Mem w own [.blk bx (.cells (#[.slice ad n cap]) 22 (0, 0)), .sl ad n cap 5 1 (xs.map b8)] w) (hb : Rd w ab nb 1 (lb.map b8)) (hbo : lb.map b8 ≠ [] → ∀ a, ab = some a → a.block ∉ own) (hsz : n + nb ≤ 1000000) :
    Calls Try.prog 17 #[.slice ab nb cb, .pointer (some ⟨bx, 0, none⟩)] w (Ret (fun _ : Option Addr × Nat => .tuple #[]) (fun r => Mem w own [.blk bx (.cells (#[.slice r.1 (n + nb) r.2]) 22 (0, 0)), .sl r.1 (n + nb) r.2 5 1 ((xs ++ lb).map b8)])) := by
  refine calls_of Try.func17 rfl rfl (L := [(0, .slice ab nb cb), (1, .pointer (some ⟨bx, 0, none⟩))]) ⟨rfl, rfl, trivial⟩ (m := 6) (Nat.le_of_ble_eq_true rfl) (M := Mem w own [.blk bx (.cells (#[.slice ad n cap]) 22 (0, 0)), .sl ad n cap 5 1 (xs.map b8)]) (hm) ?_
  refine wc_region ?_
  refine wl_y (y_load sc22 rfl (c_blk (i := 0) rfl rfl)) ?_
  refine wl_y (y_move rfl) ?_
  refine wl_eff (e_appendm (f := b8) (xs := xs) (news := lb) sl22 el5 rfl rfl rfl rfl (i := 1) rfl (fun w m => m.rd hb hbo) (by omega) (by omega) (n + nb) (by first | rfl | omega) (by first | rfl | simp) (fun _ => ⟨_, rfl, rfl⟩)) rfl trivial rfl ?_
  intro r1
  refine wl_eff (e_store1 sz22 rfl rfl (i := 0) rfl rfl (by first | decide | simp) rfl) rfl trivial rfl ?_
  intro _
  refine wl_nil ?_
  refine aq_return (.inr rfl) rfl (rfl) ?_
  intro w' m
  exact ⟨(r1.1, r1.2), rfl, m⟩

set_option maxHeartbeats 2000000 in
theorem putF_ok (w : World) :
    Calls Try.prog 9 #[.agg (lit_a151fbb0)] w (Ret (fun r : Option Addr => .tuple #[.slice r 33 33, ki 0]) (fun r => Mem w [] [.sl r 33 33 5 1 (([3, 7] ++ List.replicate 31 0 : List UInt8).map b8)])) := by
  refine calls_of Try.func9 rfl rfl (L := [(0, .agg (lit_a151fbb0))]) ⟨rfl, trivial⟩ (m := 78) (Nat.le_of_ble_eq_true rfl) (M := Mem w [] []) (Mem.refl w) ?_
  refine wc_seq ?_
  refine wc_region ?_
  refine wl_eff (e_box (cs := lit_a151fbb0) rfl (by kernel_rfl)) rfl trivial rfl ?_
  intro b1
  refine wl_y (y_assign rfl) ?_
  refine wl_y (y_assign rfl) ?_
  refine wl_nil ?_
  refine aq_seq ?_
  refine wc_seq ?_
  refine wc_region ?_
  refine wl_y (y_fieldAddr fd35_0 sz31 rfl) ?_
  refine wl_y (y_load sc31 rfl (c_blk (v := b8 (3)) (i := 0) rfl (by kernel_rfl))) ?_
  refine wl_y (y_build_st (cs := lit_6190d0e5) [(0, b8 (3))] st35 zn35 rfl (by kernel_rfl)) ?_
  refine wl_eff (e_alloc (cs := lit_6b5fdfc4) zn35 (by kernel_rfl)) rfl trivial rfl ?_
  intro b2
  refine wl_eff (e_storeall sz35 rfl rfl (i := 0) rfl (by kernel_rfl) (by kernel_rfl) (one_all (by kernel_rfl)) rfl) rfl trivial rfl ?_
  intro _
  refine wl_nil ?_
  refine aq_seq ?_
  refine wc_seq ?_
  refine wc_seq ?_
  refine wc_region ?_
  refine wl_y (y_fieldAddr fd35_0 sz31 rfl) ?_
  refine wl_y (y_load sc31 rfl (c_blk (v := b8 (3)) (i := 1) rfl (by kernel_rfl))) ?_
  refine wl_y (y_bin rfl rfl (show bin .neq (b8 3) (b8 3) = some (kb false) from rfl)) ?_
  refine wl_nil ?_
  refine aq_seq ?_
  refine wc_else rfl ?_
  refine wc_skip ?_
  refine aq_seq ?_
  refine wc_seq ?_
  refine wc_seq ?_
  refine wc_region ?_
  refine wl_y (y_fieldAddr fd35_0 sz31 rfl) ?_
  refine wl_y (y_load sc31 rfl (c_blk (v := b8 (3)) (i := 1) rfl (by kernel_rfl))) ?_
  refine wl_y (y_bin rfl rfl (show bin .neq (b8 3) (b8 1) = some (kb true) from rfl)) ?_
  refine wl_nil ?_
  refine aq_seq ?_
  refine wc_then rfl ?_
  refine wc_region ?_
  refine wl_y (y_fieldAddr fd35_3 sz25 rfl) ?_
  refine wl_y (y_loads (cs := Array.toList (lit_20f3b687)) ag25 rfl (by kernel_rfl) (c_blks (i := 1) rfl (c_lit (off := 37) (by kernel_rfl)))) ?_
  refine wl_y (y_fieldAddr fd35_3 sz25 rfl) ?_
  refine wl_eff (e_storec (cs' := lit_a151fbb0) sz25 rfl rfl (i := 0) rfl (by kernel_rfl) (by kernel_rfl) (by kernel_rfl) (by kernel_rfl) rfl) rfl trivial rfl ?_
  intro _
  refine wl_nil ?_
  refine aq_seq ?_
  refine wc_seq ?_
  refine wc_seq ?_
  refine wc_region ?_
  refine wl_y (y_fieldAddr fd35_0 sz31 rfl) ?_
  refine wl_y (y_load sc31 rfl (c_blk (v := b8 (3)) (i := 1) rfl (by kernel_rfl))) ?_
  refine wl_y (y_bin rfl rfl (show bin .lss (b8 3) (b8 1) = some (kb false) from rfl)) ?_
  refine wl_y (y_move rfl) ?_
  refine wl_y (y_fieldAddr fd35_0 sz31 rfl) ?_ (hg := ⟨_, rfl, rfl⟩)
  refine wl_y (y_load sc31 rfl (c_blk (v := b8 (3)) (i := 1) rfl (by kernel_rfl))) ?_ (hg := ⟨_, rfl, rfl⟩)
  refine wl_y (y_bin rfl rfl (show bin .gtr (b8 3) (b8 3) = some (kb false) from rfl)) ?_ (hg := ⟨_, rfl, rfl⟩)
  refine wl_y (y_pick (b := false) rfl rfl) ?_
  refine wl_y (y_move rfl) ?_
  refine wl_y (y_loadall ag35 rfl (i := 0) rfl (by kernel_rfl)) ?_ (hg := ⟨_, rfl, rfl⟩)
  refine wl_y (y_loadall ag35 rfl (i := 1) rfl (by kernel_rfl)) ?_ (hg := ⟨_, rfl, rfl⟩)
  refine wl_y (y_ne_lit true (by kernel_rfl) rfl rfl) ?_ (hg := ⟨_, rfl, rfl⟩)
  refine wl_y (y_pick (b := false) rfl rfl) ?_
  refine wl_nil ?_
  refine aq_seq ?_
  refine wc_else rfl ?_
  refine wc_skip ?_
  refine aq_seq ?_
  refine wc_seq ?_
  refine wc_region ?_
  refine wl_y (y_fieldAddr fd35_0 sz31 rfl) ?_
  refine wl_y (y_load sc31 rfl (c_blk (v := b8 (3)) (i := 1) rfl (by kernel_rfl))) ?_
  refine wl_eff (e_buildSlice (len := 1) [b8 (3)] sl22 el5 rfl rfl rfl (by simp [Value.cells]) (by decide) [b8 (3)] rfl) rfl trivial rfl ?_
  intro b3
  refine wl_eff (e_alloc (cs := #[.slice none 0 0]) zn22) rfl trivial rfl ?_
  intro b4
  refine wl_eff (e_store1 sz22 rfl rfl (i := 0) rfl rfl (by first | decide | simp) rfl) rfl trivial rfl ?_
  intro _
  refine wl_nil ?_
  refine aq_seq ?_
  refine wc_seq ?_
  refine wc_region ?_
  refine wl_y (y_makeFunc rfl rfl) ?_
  refine wl_y (y_assign rfl) ?_
  refine wl_nil ?_
  refine aq_seq ?_
  refine wc_seq ?_
  refine wc_seq ?_
  refine wc_region ?_
  refine wl_y (y_fieldAddr fd35_0 sz31 rfl) ?_
  refine wl_y (y_load sc31 rfl (c_blk (v := b8 (3)) (i := 3) rfl (by kernel_rfl))) ?_
  refine wl_y (y_bin rfl rfl (show bin .neq (b8 3) (b8 3) = some (kb false) from rfl)) ?_
  refine wl_nil ?_
  refine aq_seq ?_
  refine wc_else rfl ?_
  refine wc_skip ?_
  refine aq_seq ?_
  refine wc_seq ?_
  refine wc_seq ?_
  refine wc_region ?_
  refine wl_y (y_fieldAddr fd35_0 sz31 rfl) ?_
  refine wl_y (y_load sc31 rfl (c_blk (v := b8 (3)) (i := 3) rfl (by kernel_rfl))) ?_
  refine wl_y (y_bin rfl rfl (show bin .neq (b8 3) (b8 1) = some (kb true) from rfl)) ?_
  refine wl_nil ?_
  refine aq_seq ?_
  refine wc_then rfl ?_
  refine wc_region ?_
  refine wl_y (y_move rfl) ?_
  refine wl_y (y_fieldAddr fd35_3 sz25 rfl) ?_
  refine wl_y (y_slice_arw ar25 sz5 rfl) ?_
  refine wl_eff (e_callvMl rfl [0, 1, 2, 3] [.blk b4 (.cells (#[.slice (some ⟨b3, 0, none⟩) 1 1]) 22 (0, 0)), .sl (some ⟨b3, 0, none⟩) 1 1 5 1 (([3] : List UInt8).map b8)] [.blk b2 (.cells (lit_a151fbb0) 35 (0, 0)), .blk b1 (.cells (lit_a151fbb0) 35 (0, 0))] ⟨_, _, rfl, rfl, ⟨_, _, rfl, rfl, ⟨_, _, rfl, rfl, ⟨_, _, rfl, rfl, rfl⟩⟩⟩⟩ (by decide) cf17 rfl (al := [.slice (some ⟨b1, 37, none⟩) 32 32, .pointer (some ⟨b4, 0, none⟩)]) rfl (List.flatMap Ch.keys [.blk b4 (.cells (#[.slice (some ⟨b3, 0, none⟩) 1 1]) 22 (0, 0)), .sl (some ⟨b3, 0, none⟩) 1 1 5 1 (([3] : List UInt8).map b8)]) rfl (fun w m => put1_ok w _ b4 (some ⟨b3, 0, none⟩) (some ⟨b1, 37, none⟩) 1 1 32 32 ([3] : List UInt8) ([7, 0, 0, 0, 0, 0, 0, 0, 0, 0, 0, 0, 0, 0, 0, 0, 0, 0, 0, 0, 0, 0, 0, 0, 0, 0, 0, 0, 0, 0, 0, 0] : List UInt8) (Mem.restart (A := [_, _]) (B := [_, _]) m) (m.rd_at (i := 3) (o := 37) (n := 32) (xs := ([7, 0, 0, 0, 0, 0, 0, 0, 0, 0, 0, 0, 0, 0, 0, 0, 0, 0, 0, 0, 0, 0, 0, 0, 0, 0, 0, 0, 0, 0, 0, 0] : List UInt8).map b8) rfl (by kernel_rfl) (by kernel_rfl)) (Mem.off_chs (A := [_, _]) (B := [_, _]) m (j := 1) rfl) (by omega))) rfl trivial rfl ?_
  intro r5
  refine wl_nil ?_
  refine aq_seq ?_
  refine wc_seq ?_
  refine wc_region ?_
  refine wl_y (y_load sc22 rfl (c_blk (i := 0) rfl rfl)) ?_
  refine wl_eff (e_call0 cf19 rfl (fun w m => clip_ok w r5.1 33 r5.2 (m.sl_le (i := 1) rfl))) rfl trivial rfl ?_
  intro _
  refine wl_y (y_assign rfl) ?_
  refine wl_y (y_assign rfl) ?_
  refine wl_nil ?_
  refine aq_seq ?_
  refine wc_ret ?_
  refine aq_return (.inl rfl) rfl (⟨_, _, rfl, rfl, ⟨_, _, rfl, rfl, rfl⟩⟩) ?_
  intro w' m
  exact ⟨r5.1, rfl, (Mem.pick m (is := [1]) ⟨_, _, rfl, rfl, rfl⟩ (by decide)).clip⟩

set_option maxHeartbeats 2000000 in
theorem putC_ok (w : World) :
    Calls Try.prog 9 #[.agg (lit_58ebd2ff)] w (Ret (fun _ : Unit => .tuple #[.slice none 0 0, ki 1]) (fun _ => Mem w [] [])) := by
  refine calls_of Try.func9 rfl rfl (L := [(0, .agg (lit_58ebd2ff))]) ⟨rfl, trivial⟩ (m := 78) (Nat.le_of_ble_eq_true rfl) (M := Mem w [] []) (Mem.refl w) ?_
  refine wc_seq ?_
  refine wc_region ?_
  refine wl_eff (e_box (cs := lit_58ebd2ff) rfl (by kernel_rfl)) rfl trivial rfl ?_
  intro b1
  refine wl_y (y_assign rfl) ?_
  refine wl_y (y_assign rfl) ?_
  refine wl_nil ?_
  refine aq_seq ?_
  refine wc_seq ?_
  refine wc_region ?_
  refine wl_y (y_fieldAddr fd35_0 sz31 rfl) ?_
  refine wl_y (y_load sc31 rfl (c_blk (v := b8 (1)) (i := 0) rfl (by kernel_rfl))) ?_
  refine wl_y (y_build_st (cs := lit_70b69071) [(0, b8 (1))] st35 zn35 rfl (by kernel_rfl)) ?_
  refine wl_eff (e_alloc (cs := lit_6b5fdfc4) zn35 (by kernel_rfl)) rfl trivial rfl ?_
  intro b2
  refine wl_eff (e_storeall sz35 rfl rfl (i := 0) rfl (by kernel_rfl) (by kernel_rfl) (one_all (by kernel_rfl)) rfl) rfl trivial rfl ?_
  intro _
  refine wl_nil ?_
  refine aq_seq ?_
  refine wc_seq ?_
  refine wc_seq ?_
  refine wc_region ?_
  refine wl_y (y_fieldAddr fd35_0 sz31 rfl) ?_
  refine wl_y (y_load sc31 rfl (c_blk (v := b8 (1)) (i := 1) rfl (by kernel_rfl))) ?_
  refine wl_y (y_bin rfl rfl (show bin .neq (b8 1) (b8 3) = some (kb true) from rfl)) ?_
  refine wl_nil ?_
  refine aq_seq ?_
  refine wc_then rfl ?_
  refine wc_drawM [(0, .q), (1, .q), (2, .q), (3, .q), (4, .q), (5, .e), (6, .q), (7, .l)] (by kernel_rfl) (by kernel_rfl) Mem.closed ?_
  refine wp_q rfl Mem.closed (fun _ h => h) Mem.closed rfl (q_of_yld (y_fieldAddr fd35_1 sz25 rfl)) trivial ?_
  refine wp_q rfl Mem.closed (fun _ h => h) Mem.closed rfl (q_of_yld (y_loads (cs := Array.toList (lit_76dcfbfb)) ag25 rfl (by kernel_rfl) (c_blks (i := 1) rfl (c_lit (off := 1) (by kernel_rfl))))) trivial ?_
  refine wp_q rfl Mem.closed (fun _ h => h) Mem.closed rfl (q_of_yld (y_fieldAddr fd35_2 sz33 rfl)) trivial ?_
  refine wp_q rfl Mem.closed (fun _ h => h) Mem.closed rfl (q_of_yld (y_loads (cs := Array.toList (#[w64 (0), w64 (0), w64 (0), w64 (0)])) ag33 rfl (by kernel_rfl) (c_blks (i := 1) rfl (c_lit (off := 33) (by kernel_rfl))))) trivial ?_
  refine wp_q rfl Mem.closed (fun _ h => h) Mem.closed rfl (q_of_yld (y_fieldAddr fd35_1 sz25 rfl)) trivial ?_
  refine wp_e (fun _ => _) rfl rfl rfl (e_storec (cs' := lit_70b69071) sz25 rfl rfl (i := 0) rfl (by kernel_rfl) (by kernel_rfl) (by kernel_rfl) (by kernel_rfl) rfl) trivial (fun _ => Mem.closed) (fun _ _ h => h) (fun _ _ h => h) (fun _ => Mem.closed) ?_
  intro _
  refine wp_q rfl Mem.closed (fun _ h => h) Mem.closed rfl (q_of_yld (y_fieldAddr fd35_2 sz33 rfl)) trivial ?_
  refine wp_l rfl rfl rfl (e_storec (cs' := lit_70b69071) sz33 rfl rfl (i := 0) rfl (by kernel_rfl) (by kernel_rfl) (by kernel_rfl) (by kernel_rfl) rfl) trivial ?_
  intro _
  refine aq_seq ?_
  refine wc_seq ?_
  refine wc_seq ?_
  refine wc_region ?_
  refine wl_y (y_fieldAddr fd35_0 sz31 rfl) ?_
  refine wl_y (y_load sc31 rfl (c_blk (v := b8 (1)) (i := 1) rfl (by kernel_rfl))) ?_
  refine wl_y (y_bin rfl rfl (show bin .neq (b8 1) (b8 1) = some (kb false) from rfl)) ?_
  refine wl_nil ?_
  refine aq_seq ?_
  refine wc_else rfl ?_
  refine wc_skip ?_
  refine aq_seq ?_
  refine wc_seq ?_
  refine wc_seq ?_
  refine wc_region ?_
  refine wl_y (y_fieldAddr fd35_0 sz31 rfl) ?_
  refine wl_y (y_load sc31 rfl (c_blk (v := b8 (1)) (i := 1) rfl (by kernel_rfl))) ?_
  refine wl_y (y_bin rfl rfl (show bin .lss (b8 1) (b8 1) = some (kb false) from rfl)) ?_
  refine wl_y (y_move rfl) ?_
  refine wl_y (y_fieldAddr fd35_0 sz31 rfl) ?_ (hg := ⟨_, rfl, rfl⟩)
  refine wl_y (y_load sc31 rfl (c_blk (v := b8 (1)) (i := 1) rfl (by kernel_rfl))) ?_ (hg := ⟨_, rfl, rfl⟩)
  refine wl_y (y_bin rfl rfl (show bin .gtr (b8 1) (b8 3) = some (kb false) from rfl)) ?_ (hg := ⟨_, rfl, rfl⟩)
  refine wl_y (y_pick (b := false) rfl rfl) ?_
  refine wl_y (y_move rfl) ?_
  refine wl_y (y_loadall ag35 rfl (i := 0) rfl (by kernel_rfl)) ?_ (hg := ⟨_, rfl, rfl⟩)
  refine wl_y (y_loadall ag35 rfl (i := 1) rfl (by kernel_rfl)) ?_ (hg := ⟨_, rfl, rfl⟩)
  refine wl_y (y_ne_lit false (by kernel_rfl) rfl rfl) ?_ (hg := ⟨_, rfl, rfl⟩)
  refine wl_y (y_pick (b := false) rfl rfl) ?_
  refine wl_nil ?_
  refine aq_seq ?_
  refine wc_then rfl ?_
  refine wc_seq ?_
  refine wc_region ?_
  refine wl_y (y_assign rfl) ?_
  refine wl_y (y_assign rfl) ?_
  refine wl_nil ?_
  refine aq_seq ?_
  refine wc_ret ?_
  refine aq_thru_ret ?_
  refine aq_return (.inl rfl) rfl (⟨_, _, rfl, rfl, ⟨_, _, rfl, rfl, rfl⟩⟩) ?_
  intro w' m
  exact ⟨(), rfl, m.pick (is := []) rfl (by decide)⟩

theorem get1_ok (w : World) (own : List Nat) (bt b1 b6 : Nat) (ab : Option Addr) (cb : Nat) (lb : List UInt8) (hm : Mem w own [.blk bt (.cells (lit_6190d0e5) 35 (0, 0)), .blk b1 (.cells (#[.slice ab 32 cb]) 22 (0, 0)), .blk b6 (.cells (#[ki (1)]) 3 (0, 0))] w) (hb : Rd w ab 32 1 (lb.map b8)) (hbo : lb.map b8 ≠ [] → ∀ a, ab = some a → a.block ∉ own) (hcb : 32 ≤ cb) :
    Calls Try.prog 20 #[.pointer (some ⟨bt, 37, none⟩), .pointer (some ⟨b1, 0, none⟩), .pointer (some ⟨b6, 0, none⟩)] w (Ret (fun _ : Unit => kb false) (fun _ => Mem w own [])) := by
  have hlb := hb.len
  refine calls_of Try.func20 rfl rfl (L := [(0, .pointer (some ⟨bt, 37, none⟩)), (1, .pointer (some ⟨b1, 0, none⟩)), (2, .pointer (some ⟨b6, 0, none⟩))]) ⟨rfl, rfl, rfl, trivial⟩ (m := 18) (Nat.le_of_ble_eq_true rfl) (M := Mem w own [.blk bt (.cells (lit_6190d0e5) 35 (0, 0)), .blk b1 (.cells (#[.slice ab 32 cb]) 22 (0, 0)), .blk b6 (.cells (#[ki (1)]) 3 (0, 0))]) (hm) ?_
  refine wc_seq ?_
  refine wc_region ?_
  refine wl_y (y_assign rfl) ?_
  refine wl_nil ?_
  refine aq_seq ?_
  refine wc_seq ?_
  refine wc_drawM [(0, .q), (1, .q), (2, .q), (3, .q), (4, .q), (5, .q), (6, .b), (7, .q)] (by kernel_rfl) (by kernel_rfl) Mem.closed ?_
  refine wp_q rfl Mem.closed (fun _ h => h) Mem.closed rfl (q_of_yld (y_move rfl)) trivial ?_
  refine wp_q rfl Mem.closed (fun _ h => h) Mem.closed rfl (q_of_yld (y_nilCheck rfl)) trivial ?_
  refine wp_q rfl Mem.closed (fun _ h => h) Mem.closed rfl (q_of_yld (y_slice_arw ar25 sz5 rfl)) trivial ?_
  refine wp_q rfl Mem.closed (fun _ h => h) Mem.closed rfl (q_of_yld (y_load sc22 rfl (c_blk (i := 1) rfl rfl))) trivial ?_
  refine wp_q rfl Mem.closed (fun _ h => h) Mem.closed rfl (q_of_yld (y_load sc3 rfl (c_blk (i := 2) rfl rfl))) trivial ?_
  refine wp_q rfl Mem.closed (fun _ h => h) Mem.closed rfl (q_of_yld (y_slice_slo sl22 sz5 rfl cb 32 1 1 rfl rfl ⟨_, _, rfl, by first | rfl | omega⟩ (by simp) (by omega) (by omega) (by omega) (by omega))) trivial ?_
  refine wp_b rfl rfl rfl (e_copy_at (f := b8) (news := ((lb.drop 1).take (32 - 1))) sl22 sz5 rfl rfl rfl (i := 0) rfl (by decide) (fun w m => (m.rd hb hbo).sub1 (l := 1) (k := (32 - 1)) (m := (cb - 1)) (by omega) (by omega)) 31 (by decide) ((Array.toList lit_a6439bd7) ++ (((lb.drop 1).take (32 - 1)).take 31).map b8 ++ (Array.toList (#[b8 (0)]))) rfl rfl) trivial (fun _ => Mem.closed) ?_
  intro _
  refine wp_q rfl Mem.closed (fun _ h => h) Mem.closed rfl (q_of_yld (y_assign rfl)) trivial ?_
  refine wp_nil ?_
  refine aq_seq ?_
  refine wc_seq ?_
  refine wc_region ?_
  refine wl_y (y_load sc3 rfl (c_blk (i := 2) rfl rfl)) ?_
  refine wl_y (y_move rfl) ?_
  refine wl_y (y_bin rfl rfl (show bin .add (ki 1) (ki 31) = some (ki 32) from rfl)) ?_
  refine wl_eff (e_store1 sz3 rfl rfl (i := 2) rfl rfl (by first | decide | simp) ⟨_, rfl, ⟨_, rfl, rfl⟩⟩) rfl trivial rfl ?_
  intro _
  refine wl_nil ?_
  refine aq_seq ?_
  refine wc_seq ?_
  refine wc_region ?_
  refine wl_y (y_move rfl) ?_
  refine wl_y (y_bin rfl rfl (show bin .eql (ki 31) (ki 32) = some (kb false) from rfl)) ?_
  refine wl_y (y_assign rfl) ?_
  refine wl_nil ?_
  refine aq_seq ?_
  refine wc_ret ?_
  refine aq_return (.inl rfl) rfl (⟨_, _, rfl, rfl, rfl⟩) ?_
  intro w' m
  exact ⟨(), rfl, m.pick (is := []) rfl (by decide)⟩

set_option maxHeartbeats 2000000 in
theorem get4_ok (w : World) (ab : Option Addr) (cb : Nat) (lb : List UInt8) (hb : Rd w ab 32 1 (lb.map b8)) (h0 : lb.getD 0 0 = 3) (hcb : 32 ≤ cb) :
    Calls Try.prog 10 #[.slice ab 32 cb] w (Ret (fun _ : Unit => .tuple #[.agg (lit_6b5fdfc4), ki 0, ki 4]) (fun _ => Mem w [] [])) := by
  have hlb := hb.len
  refine calls_of Try.func10 rfl rfl (L := [(0, .slice ab 32 cb)]) ⟨rfl, trivial⟩ (m := 89) (Nat.le_of_ble_eq_true rfl) (M := Mem w [] []) (Mem.refl w) ?_
  refine wc_seq ?_
  refine wc_region ?_
  refine wl_eff (e_box (cs := #[.slice ab 32 cb]) rfl) rfl trivial rfl ?_
  intro b1
  refine wl_eff (e_alloc (cs := lit_6b5fdfc4) zn35 (by kernel_rfl)) rfl trivial rfl ?_
  intro b2
  refine wl_y (y_assign rfl) ?_
  refine wl_y (y_assign rfl) ?_
  refine wl_nil ?_
  refine aq_seq ?_
  refine wc_seq ?_
  refine wc_block ?_
  refine wc_seq ?_
  refine wc_region ?_
  refine wl_y (y_load sc22 rfl (c_blk (i := 1) rfl rfl)) ?_
  refine wl_y (y_len_sl sl22 (m := 32) rfl rfl) ?_
  refine wl_y (y_bin rfl rfl (show bin .eql (ki 32) (ki 0) = some (kb false) from rfl)) ?_
  refine wl_y (y_assign rfl) ?_
  refine wl_nil ?_
  refine aq_seq ?_
  refine wc_else rfl ?_
  refine wc_seq ?_
  refine wc_region ?_
  refine wl_y (y_load sc22 rfl (c_blk (i := 1) rfl rfl)) ?_
  refine wl_y (y_indexAddr_sl sl22 sz5 rfl rfl (by omega) (by omega) (fun w m => rd_isSome (m.rd0 hb) (by omega) (by decide)) 0 (by omega)) ?_
  refine wl_y (y_load sc5 rfl (c_of (fun w m => m.rd0 hb) (map_get (gd 0 (by first | omega | (simp; omega)))))) ?_
  refine wl_re (t := 22) (v' := b8 (3)) rfl (congrArg b8 h0) ?_
  refine wl_y (y_bin rfl rfl (show bin .lss (b8 3) (b8 1) = some (kb false) from rfl)) ?_
  refine wl_y (y_move rfl) ?_
  refine wl_y (y_load sc22 rfl (c_blk (i := 1) rfl rfl)) ?_ (hg := ⟨_, rfl, rfl⟩)
  refine wl_y (y_indexAddr_sl sl22 sz5 rfl rfl (by omega) (by omega) (fun w m => rd_isSome (m.rd0 hb) (by omega) (by decide)) 0 (by omega)) ?_ (hg := ⟨_, rfl, rfl⟩)
  refine wl_y (y_load sc5 rfl (c_of (fun w m => m.rd0 hb) (map_get (gd 0 (by first | omega | (simp; omega)))))) ?_ (hg := ⟨_, rfl, rfl⟩)
  refine wl_re (t := 27) (v' := b8 (3)) rfl (congrArg b8 h0) ?_
  refine wl_y (y_bin rfl rfl (show bin .gtr (b8 3) (b8 3) = some (kb false) from rfl)) ?_ (hg := ⟨_, rfl, rfl⟩)
  refine wl_y (y_pick (b := false) rfl rfl) ?_
  refine wl_y (y_assign rfl) ?_
  refine wl_nil ?_
  refine aq_seq ?_
  refine wc_else rfl ?_
  refine wc_skip ?_
  refine aq_blk_normal ?_
  refine aq_seq ?_
  refine wc_seq ?_
  refine wc_region ?_
  refine wl_y (y_load sc22 rfl (c_blk (i := 1) rfl rfl)) ?_
  refine wl_y (y_indexAddr_sl sl22 sz5 rfl rfl (by omega) (by omega) (fun w m => rd_isSome (m.rd0 hb) (by omega) (by decide)) 0 (by omega)) ?_
  refine wl_y (y_load sc5 rfl (c_of (fun w m => m.rd0 hb) (map_get (gd 0 (by first | omega | (simp; omega)))))) ?_
  refine wl_re (t := 33) (v' := b8 (3)) rfl (congrArg b8 h0) ?_
  refine wl_y (y_build_st (cs := lit_6190d0e5) [(0, b8 (3))] st35 zn35 rfl (by kernel_rfl)) ?_
  refine wl_eff (e_alloc (cs := lit_6b5fdfc4) zn35 (by kernel_rfl)) rfl trivial rfl ?_
  intro b3
  refine wl_eff (e_alloc (cs := #[ki (0)]) zn3) rfl trivial rfl ?_
  intro b4
  refine wl_eff (e_storeall sz35 rfl rfl (i := 1) rfl (by kernel_rfl) (by kernel_rfl) (one_all (by kernel_rfl)) ⟨_, rfl, rfl⟩) rfl trivial rfl ?_
  intro _
  refine wl_eff (e_store1 sz3 rfl rfl (i := 0) rfl rfl (by first | decide | simp) rfl) rfl trivial rfl ?_
  intro _
  refine wl_nil ?_
  refine aq_seq ?_
  refine wc_seq ?_
  refine wc_region ?_
  refine wl_y (y_makeFunc rfl rfl) ?_
  refine wl_y (y_assign rfl) ?_
  refine wl_nil ?_
  refine aq_seq ?_
  refine wc_seq ?_
  refine wc_seq ?_
  refine wc_region ?_
  refine wl_y (y_fieldAddr fd35_0 sz31 rfl) ?_
  refine wl_y (y_load sc31 rfl (c_blk (v := b8 (3)) (i := 1) rfl (by kernel_rfl))) ?_
  refine wl_y (y_bin rfl rfl (show bin .neq (b8 3) (b8 3) = some (kb false) from rfl)) ?_
  refine wl_nil ?_
  refine aq_seq ?_
  refine wc_else rfl ?_
  refine wc_skip ?_
  refine aq_seq ?_
  refine wc_seq ?_
  refine wc_seq ?_
  refine wc_region ?_
  refine wl_y (y_fieldAddr fd35_0 sz31 rfl) ?_
  refine wl_y (y_load sc31 rfl (c_blk (v := b8 (3)) (i := 1) rfl (by kernel_rfl))) ?_
  refine wl_y (y_bin rfl rfl (show bin .neq (b8 3) (b8 1) = some (kb true) from rfl)) ?_
  refine wl_y (y_move rfl) ?_
  refine wl_y (y_move rfl) ?_ (hg := ⟨_, rfl, rfl⟩)
  refine wl_y (y_fieldAddr fd35_3 sz25 rfl) ?_ (hg := ⟨_, rfl, rfl⟩)
  refine wl_eff (e_callvMl rfl [1, 3, 0, 2] [.blk b3 (.cells (lit_6190d0e5) 35 (0, 0)), .blk b1 (.cells (#[.slice ab 32 cb]) 22 (0, 0)), .blk b4 (.cells (#[ki (1)]) 3 (0, 0))] [.blk b2 (.cells (lit_6b5fdfc4) 35 (0, 0))] ⟨_, _, rfl, rfl, ⟨_, _, rfl, rfl, ⟨_, _, rfl, rfl, ⟨_, _, rfl, rfl, rfl⟩⟩⟩⟩ (by decide) cf20 rfl (al := [.pointer (some ⟨b3, 37, none⟩), .pointer (some ⟨b1, 0, none⟩), .pointer (some ⟨b4, 0, none⟩)]) rfl (List.flatMap Ch.keys [.blk b3 (.cells (lit_6190d0e5) 35 (0, 0)), .blk b1 (.cells (#[.slice ab 32 cb]) 22 (0, 0)), .blk b4 (.cells (#[ki (1)]) 3 (0, 0))]) rfl (fun w m => get1_ok w _ b3 b1 b4 ab cb lb (Mem.restart (A := [_, _, _]) (B := [_]) m) (m.rd0 hb) (Mem.off_ros (A := [_, _, _]) (B := [_]) m hb) (by omega))) rfl ⟨_, rfl, rfl⟩ rfl ?_
  intro _
  refine wl_y (y_not rfl) ?_ (hg := ⟨_, rfl, rfl⟩)
  refine wl_y (y_pick (b := true) rfl rfl) ?_
  refine wl_nil ?_
  refine aq_seq ?_
  refine wc_then rfl ?_
  refine wc_seq ?_
  refine wc_region ?_
  refine wl_y (y_build_st (cs := lit_6b5fdfc4) [] st35 zn35 rfl (by kernel_rfl)) ?_
  refine wl_eff (e_storeall sz35 rfl rfl (i := 0) rfl (by kernel_rfl) (by kernel_rfl) (one_all (by kernel_rfl)) rfl) rfl trivial rfl ?_
  intro _
  refine wl_y (y_assign rfl) ?_
  refine wl_y (y_assign rfl) ?_
  refine wl_nil ?_
  refine aq_seq ?_
  refine wc_ret ?_
  refine aq_thru_ret ?_
  refine aq_return (.inl rfl) rfl (⟨_, _, _, rfl, fun w m => run_loadVar_all ag35 (m.blk (i := 0) rfl) (by rfl), rfl, ⟨_, _, rfl, rfl, ⟨_, _, rfl, rfl, rfl⟩⟩⟩) ?_
  intro w' m
  exact ⟨(), rfl, m.pick (is := []) rfl (by decide)⟩

set_option maxHeartbeats 2000000 in
theorem get5_ok (w : World) (ab : Option Addr) (cb : Nat) (lb : List UInt8) (hb : Rd w ab 1 1 (lb.map b8)) (h0 : lb.getD 0 0 = 4) (hcb : 1 ≤ cb) :
    Calls Try.prog 10 #[.slice ab 1 cb] w (Ret (fun _ : Unit => .tuple #[.agg (lit_6b5fdfc4), ki 0, ki 5]) (fun _ => Mem w [] [])) := by
  have hlb := hb.len
  refine calls_of Try.func10 rfl rfl (L := [(0, .slice ab 1 cb)]) ⟨rfl, trivial⟩ (m := 89) (Nat.le_of_ble_eq_true rfl) (M := Mem w [] []) (Mem.refl w) ?_
  refine wc_seq ?_
  refine wc_region ?_
  refine wl_eff (e_box (cs := #[.slice ab 1 cb]) rfl) rfl trivial rfl ?_
  intro b1
  refine wl_eff (e_alloc (cs := lit_6b5fdfc4) zn35 (by kernel_rfl)) rfl trivial rfl ?_
  intro b2
  refine wl_y (y_assign rfl) ?_
  refine wl_y (y_assign rfl) ?_
  refine wl_nil ?_
  refine aq_seq ?_
  refine wc_seq ?_
  refine wc_block ?_
  refine wc_seq ?_
  refine wc_region ?_
  refine wl_y (y_load sc22 rfl (c_blk (i := 1) rfl rfl)) ?_
  refine wl_y (y_len_sl sl22 (m := 1) rfl rfl) ?_
  refine wl_y (y_bin rfl rfl (show bin .eql (ki 1) (ki 0) = some (kb false) from rfl)) ?_
  refine wl_y (y_assign rfl) ?_
  refine wl_nil ?_
  refine aq_seq ?_
  refine wc_else rfl ?_
  refine wc_seq ?_
  refine wc_region ?_
  refine wl_y (y_load sc22 rfl (c_blk (i := 1) rfl rfl)) ?_
  refine wl_y (y_indexAddr_sl sl22 sz5 rfl rfl (by omega) (by omega) (fun w m => rd_isSome (m.rd0 hb) (by omega) (by decide)) 0 (by omega)) ?_
  refine wl_y (y_load sc5 rfl (c_of (fun w m => m.rd0 hb) (map_get (gd 0 (by first | omega | (simp; omega)))))) ?_
  refine wl_re (t := 22) (v' := b8 (4)) rfl (congrArg b8 h0) ?_
  refine wl_y (y_bin rfl rfl (show bin .lss (b8 4) (b8 1) = some (kb false) from rfl)) ?_
  refine wl_y (y_move rfl) ?_
  refine wl_y (y_load sc22 rfl (c_blk (i := 1) rfl rfl)) ?_ (hg := ⟨_, rfl, rfl⟩)
  refine wl_y (y_indexAddr_sl sl22 sz5 rfl rfl (by omega) (by omega) (fun w m => rd_isSome (m.rd0 hb) (by omega) (by decide)) 0 (by omega)) ?_ (hg := ⟨_, rfl, rfl⟩)
  refine wl_y (y_load sc5 rfl (c_of (fun w m => m.rd0 hb) (map_get (gd 0 (by first | omega | (simp; omega)))))) ?_ (hg := ⟨_, rfl, rfl⟩)
  refine wl_re (t := 27) (v' := b8 (4)) rfl (congrArg b8 h0) ?_
  refine wl_y (y_bin rfl rfl (show bin .gtr (b8 4) (b8 3) = some (kb true) from rfl)) ?_ (hg := ⟨_, rfl, rfl⟩)
  refine wl_y (y_pick (b := false) rfl rfl) ?_
  refine wl_y (y_assign rfl) ?_
  refine wl_nil ?_
  refine aq_seq ?_
  refine wc_then rfl ?_
  refine wc_seq ?_
  refine wc_region ?_
  refine wl_y (y_build_st (cs := lit_6b5fdfc4) [] st35 zn35 rfl (by kernel_rfl)) ?_
  refine wl_eff (e_storeall sz35 rfl rfl (i := 0) rfl (by kernel_rfl) (by kernel_rfl) (one_all (by kernel_rfl)) rfl) rfl trivial rfl ?_
  intro _
  refine wl_y (y_assign rfl) ?_
  refine wl_y (y_assign rfl) ?_
  refine wl_nil ?_
  refine aq_seq ?_
  refine wc_ret ?_
  refine aq_blk_ret ?_
  refine aq_thru_ret ?_
  refine aq_return (.inl rfl) rfl (⟨_, _, _, rfl, fun w m => run_loadVar_all ag35 (m.blk (i := 0) rfl) (by rfl), rfl, ⟨_, _, rfl, rfl, ⟨_, _, rfl, rfl, rfl⟩⟩⟩) ?_
  intro w' m
  exact ⟨(), rfl, m.pick (is := []) rfl (by decide)⟩

end Go.Proofs.Ytiamjapfjmfldaa
