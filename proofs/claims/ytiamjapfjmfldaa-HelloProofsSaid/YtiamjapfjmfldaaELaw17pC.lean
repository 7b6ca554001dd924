/- Lemmas and contracts for the proof of this seat's statements (Law17pC). No condition. -/
import Derived.Test.YtiamjapfjmfldaaEEngC
import Derived.Test.YtiamjapfjmfldaaProg
import Derived.KernelRfl
import Derived.Test.YtiamjapfjmfldaaEPlaA
import Derived.Test.YtiamjapfjmfldaaELivC
import Derived.Test.YtiamjapfjmfldaaEHProofC
set_option linter.all false
namespace Go.Proofs.Ytiamjapfjmfldaa
open Go.Mc
private theorem sl22 : slB Try.prog 22 5 = true := by kernel_rfl
private theorem cf4 : cfB Try.prog 4 = true := by kernel_rfl
private theorem cf5 : cfB Try.prog 5 = true := by kernel_rfl
private theorem cf6 : cfB Try.prog 6 = true := by kernel_rfl
private theorem zn25 : znB Try.prog 25 (.agg (arr b8 (List.replicate 32 0))) := by unfold znB; kernel_rfl
private theorem sz25 : szB Try.prog 25 32 = true := by kernel_rfl
private theorem cf7 : cfB Try.prog 7 = true := by kernel_rfl
private theorem ag25 : agB Try.prog 25 32 = true := by kernel_rfl
private theorem kt25 : Try.prog.keyTypeAt 6 25 = true := by kernel_rfl
private theorem eg25 : Try.prog.eqGuardType Try.prog.depth 25 = false := by kernel_rfl
private theorem ua25 : Try.prog.underlying 25 = some (.array 32 5) := by kernel_rfl
private theorem ui5 : Try.prog.underlying 5 = some (.int .u8) := by kernel_rfl
private theorem ce5 : Try.prog.cellsOf 5 = 1 := by kernel_rfl
private theorem ce25 : Try.prog.cellsOf 25 = 32 := by kernel_rfl
private theorem cf8 : cfB Try.prog 8 = true := by kernel_rfl
theorem law17p_ok (w : World) (as_ ad_ : Option Addr) (ns cs nd cd : Nat) (ls ld : List UInt8) (srv : Bool) (hs : Rd w as_ ns 1 (ls.map b8)) (hd : Rd w ad_ nd 1 (ld.map b8)) (hcs : ns ≤ cs) (hcd : nd ≤ cd) (hns : ns ≤ 140737488351232) (hnd : nd ≤ 140737488351232) :
    Calls Try.prog 3 #[.slice as_ ns cs, .slice ad_ nd cd, kb (srv)] w (Ret (fun _ : Unit => kb true) (fun _ => Mem w [] [])) := by
  have hls := hs.len
  have hld := hd.len
  refine calls_of Try.func3 rfl rfl (L := [(0, .slice as_ ns cs), (1, .slice ad_ nd cd), (2, kb (srv))]) ⟨rfl, rfl, rfl, trivial⟩ (m := 61) (Nat.le_of_ble_eq_true rfl) (M := Mem w [] []) (Mem.refl w) ?_
  refine wc_seq ?_
  refine wc_region ?_
  refine wl_y (y_assign rfl) ?_
  refine wl_nil ?_
  refine aq_seq ?_
  refine wc_seq ?_
  refine wc_seq ?_
  refine wc_region ?_
  refine wl_y (y_move rfl) ?_
  refine wl_y (y_len_sl sl22 (m := nd) rfl rfl) ?_
  refine wl_y (y_bin rfl rfl gtr_i64) ?_
  refine wl_y (y_move rfl) ?_
  refine wl_bool (t := 16) rfl (fun hs5 => ?_) (fun hs5 => ?_)
  · have hb5 : (nd : Int) > 20000 := by simpa using hs5
    refine wl_y (y_move rfl) ?_ (hg := ⟨_, rfl, rfl⟩)
    refine wl_y (y_len_sl sl22 (m := nd) rfl rfl) ?_ (hg := ⟨_, rfl, rfl⟩)
    refine wl_y (y_bin rfl rfl leq_i64) ?_ (hg := ⟨_, rfl, rfl⟩)
    refine wl_y (y_pick (b := true) rfl rfl) ?_
    refine wl_nil ?_
    refine aq_seq ?_
    refine wc_if rfl (fun hc1 => ?_) (fun hc1 => ?_)
    · have hb1 : (nd : Int) ≤ 1048576 := by simpa using hc1
      refine wc_seq ?_
      refine wc_region ?_
      refine wl_eff (e_call0 cf4 rfl (fun w m => lives_ok w)) rfl trivial rfl ?_
      intro _
      refine wl_y (y_assign rfl) ?_
      refine wl_nil ?_
      refine aq_seq ?_
      refine wc_ret ?_
      refine aq_thru_ret ?_
      refine aq_return (.inl rfl) rfl (⟨_, _, rfl, rfl, rfl⟩) ?_
      intro w' m
      exact ⟨(), rfl, m.pick (is := []) rfl (by decide)⟩
    · have hb1 : ¬ ((nd : Int) ≤ 1048576) := by simpa using hc1
      refine wc_skip ?_
      refine aq_seq ?_
      refine wc_seq ?_
      refine wc_region ?_
      refine wl_y (y_move rfl) ?_
      refine wl_eff (e_call0 cf5 rfl (fun w m => twin_ok w as_ ns cs ls (m.rd0 hs) (by omega))) rfl trivial rfl ?_
      intro r1
      refine wl_use (p := ns + 1 ≤ r1.2) (fun w m => m.sl_le (i := 0) rfl) (fun hcp_r1 => ?_)
      refine wl_y (y_assign rfl) ?_
      refine wl_nil ?_
      refine aq_seq ?_
      refine wc_seq ?_
      refine wc_region ?_
      refine wl_y (y_move rfl) ?_
      refine wl_eff (e_call0 cf5 rfl (fun w m => twin_ok w ad_ nd cd ld (m.rd0 hd) (by omega))) rfl trivial rfl ?_
      intro r2
      refine wl_use (p := nd + 1 ≤ r2.2) (fun w m => m.sl_le (i := 0) rfl) (fun hcp_r2 => ?_)
      refine wl_y (y_assign rfl) ?_
      refine wl_nil ?_
      refine aq_seq ?_
      refine wc_seq ?_
      refine wc_region ?_
      refine wl_y (y_move rfl) ?_
      refine wl_y (y_move rfl) ?_
      refine wl_y (y_move rfl) ?_
      refine wl_eff (e_call0 cf6 rfl (fun w m => proof_ok w r1.1 r2.1 ns r1.2 nd r2.2 ls ld srv ((Mem.rd_twin m (i := 1) rfl)) ((Mem.rd_twin m (i := 0) rfl)) (by omega) (by omega))) rfl trivial rfl ?_
      intro _
      refine wl_y (y_move rfl) ?_
      refine wl_y (y_extract rfl rfl) ?_
      refine wl_y (y_extract rfl rfl) ?_
      refine wl_eff (e_alloc (cs := arr b8 (List.replicate 32 0)) zn25) rfl trivial rfl ?_
      intro b3
      refine wl_eff (e_storeall sz25 rfl rfl (i := 0) rfl (by first | (simp; done) | (simp [*]; done) | (simp; omega) | rfl) (by first | (simp; done) | (simp [*]; done) | (simp; omega) | rfl) (arr_one _) rfl) rfl trivial rfl ?_
      intro _
      refine wl_y (y_assign rfl) ?_
      refine wl_nil ?_
      refine aq_seq ?_
      refine wc_seq ?_
      refine wc_region ?_
      refine wl_y (y_move rfl) ?_
      refine wl_y (y_move rfl) ?_
      refine wl_y (y_move rfl) ?_
      refine wl_eff (e_call0 cf7 rfl (fun w m => rproof_ok w as_ ad_ ns cs nd cd ls ld srv (m.rd0 hs) (m.rd0 hd) (by omega) (by omega))) rfl trivial rfl ?_
      intro _
      refine wl_y (y_move rfl) ?_
      refine wl_y (y_extract rfl rfl) ?_
      refine wl_y (y_extract rfl rfl) ?_
      refine wl_eff (e_alloc (cs := arr b8 (List.replicate 32 0)) zn25) rfl trivial rfl ?_
      intro b4
      refine wl_eff (e_storeall sz25 rfl rfl (i := 0) rfl (by first | (simp; done) | (simp [*]; done) | (simp; omega) | rfl) (by first | (simp; done) | (simp [*]; done) | (simp; omega) | rfl) (arr_one _) rfl) rfl trivial rfl ?_
      intro _
      refine wl_y (y_assign rfl) ?_
      refine wl_nil ?_
      refine aq_seq ?_
      refine wc_seq ?_
      refine wc_region ?_
      refine wl_y (y_loadall ag25 rfl (i := 1) rfl (by first | (simp; done) | (simp [*]; done) | (simp; omega) | rfl)) ?_
      refine wl_y (y_loadall ag25 rfl (i := 0) rfl (by first | (simp; done) | (simp [*]; done) | (simp; omega) | rfl)) ?_
      refine wl_y (y_eq_arr (f := b8) (a := (hpO ls ns ld nd srv)) (b := (hpO ls ns ld nd srv)) kt25 eg25 ua25 ui5 ce5 ce25 rfl rfl (by first | omega | (simp; done) | (simp; omega)) (by first | omega | (simp; done) | (simp; omega))) ?_
      refine wl_re (t := 42) (v' := kb (true)) rfl (congrArg kb (decide_eq_true rfl)) ?_
      refine wl_y (y_move rfl) ?_
      refine wl_y (y_move rfl) ?_ (hg := ⟨_, rfl, rfl⟩)
      refine wl_y (y_move rfl) ?_ (hg := ⟨_, rfl, rfl⟩)
      refine wl_y (y_bin rfl rfl eql_i64) ?_ (hg := ⟨_, rfl, rfl⟩)
      refine wl_re (t := 46) (v' := kb (true)) rfl (congrArg kb (beq_self_eq_true _)) ?_
      refine wl_y (y_pick (b := true) rfl rfl) ?_
      refine wl_y (y_move rfl) ?_
      refine wl_y (y_move rfl) ?_ (hg := ⟨_, rfl, rfl⟩)
      refine wl_y (y_move rfl) ?_ (hg := ⟨_, rfl, rfl⟩)
      refine wl_eff (e_call0 cf8 rfl (fun w m => left_ok w r1.1 as_ ns r1.2 cs ls (m.rd_sl (i := 3) rfl : Rd _ _ (ns + 1) 1 ((ls ++ [77]).map b8)) (m.sl_le (i := 3) rfl) (m.rd0 hs) (by omega))) rfl ⟨_, rfl, rfl⟩ rfl ?_
      intro _
      refine wl_y (y_pick (b := true) rfl rfl) ?_
      refine wl_y (y_move rfl) ?_
      refine wl_y (y_move rfl) ?_ (hg := ⟨_, rfl, rfl⟩)
      refine wl_y (y_move rfl) ?_ (hg := ⟨_, rfl, rfl⟩)
      refine wl_eff (e_call0 cf8 rfl (fun w m => left_ok w r2.1 ad_ nd r2.2 cd ld (m.rd_sl (i := 2) rfl : Rd _ _ (nd + 1) 1 ((ld ++ [77]).map b8)) (m.sl_le (i := 2) rfl) (m.rd0 hd) (by omega))) rfl ⟨_, rfl, rfl⟩ rfl ?_
      intro _
      refine wl_y (y_pick (b := true) rfl rfl) ?_
      refine wl_y (y_move rfl) ?_
      refine wl_eff (e_call0 cf4 rfl (fun w m => lives_ok w)) rfl ⟨_, rfl, rfl⟩ rfl ?_
      intro _
      refine wl_y (y_pick (b := true) rfl rfl) ?_
      refine wl_y (y_assign rfl) ?_
      refine wl_nil ?_
      refine aq_seq ?_
      refine wc_ret ?_
      refine aq_return (.inl rfl) rfl (⟨_, _, rfl, rfl, rfl⟩) ?_
      intro w' m
      exact ⟨(), rfl, m.pick (is := []) rfl (by decide)⟩
  · have hb5 : ¬ ((nd : Int) > 20000) := by simpa using hs5
    refine wl_off ⟨_, _, rfl, rfl, .inl rfl⟩ rfl ?_
    refine wl_off ⟨_, _, rfl, rfl, .inl rfl⟩ rfl ?_
    refine wl_off ⟨_, _, rfl, rfl, .inl rfl⟩ rfl ?_
    refine wl_y (y_pick (b := false) rfl rfl) ?_
    refine wl_nil ?_
    refine aq_seq ?_
    refine wc_else rfl ?_
    refine wc_skip ?_
    refine aq_seq ?_
    refine wc_seq ?_
    refine wc_region ?_
    refine wl_y (y_move rfl) ?_
    refine wl_eff (e_call0 cf5 rfl (fun w m => twin_ok w as_ ns cs ls (m.rd0 hs) (by omega))) rfl trivial rfl ?_
    intro r5
    refine wl_use (p := ns + 1 ≤ r5.2) (fun w m => m.sl_le (i := 0) rfl) (fun hcp_r5 => ?_)
    refine wl_y (y_assign rfl) ?_
    refine wl_nil ?_
    refine aq_seq ?_
    refine wc_seq ?_
    refine wc_region ?_
    refine wl_y (y_move rfl) ?_
    refine wl_eff (e_call0 cf5 rfl (fun w m => twin_ok w ad_ nd cd ld (m.rd0 hd) (by omega))) rfl trivial rfl ?_
    intro r6
    refine wl_use (p := nd + 1 ≤ r6.2) (fun w m => m.sl_le (i := 0) rfl) (fun hcp_r6 => ?_)
    refine wl_y (y_assign rfl) ?_
    refine wl_nil ?_
    refine aq_seq ?_
    refine wc_seq ?_
    refine wc_region ?_
    refine wl_y (y_move rfl) ?_
    refine wl_y (y_move rfl) ?_
    refine wl_y (y_move rfl) ?_
    refine wl_eff (e_call0 cf6 rfl (fun w m => proof_ok w r5.1 r6.1 ns r5.2 nd r6.2 ls ld srv ((Mem.rd_twin m (i := 1) rfl)) ((Mem.rd_twin m (i := 0) rfl)) (by omega) (by omega))) rfl trivial rfl ?_
    intro _
    refine wl_y (y_move rfl) ?_
    refine wl_y (y_extract rfl rfl) ?_
    refine wl_y (y_extract rfl rfl) ?_
    refine wl_eff (e_alloc (cs := arr b8 (List.replicate 32 0)) zn25) rfl trivial rfl ?_
    intro b7
    refine wl_eff (e_storeall sz25 rfl rfl (i := 0) rfl (by first | (simp; done) | (simp [*]; done) | (simp; omega) | rfl) (by first | (simp; done) | (simp [*]; done) | (simp; omega) | rfl) (arr_one _) rfl) rfl trivial rfl ?_
    intro _
    refine wl_y (y_assign rfl) ?_
    refine wl_nil ?_
    refine aq_seq ?_
    refine wc_seq ?_
    refine wc_region ?_
    refine wl_y (y_move rfl) ?_
    refine wl_y (y_move rfl) ?_
    refine wl_y (y_move rfl) ?_
    refine wl_eff (e_call0 cf7 rfl (fun w m => rproof_ok w as_ ad_ ns cs nd cd ls ld srv (m.rd0 hs) (m.rd0 hd) (by omega) (by omega))) rfl trivial rfl ?_
    intro _
    refine wl_y (y_move rfl) ?_
    refine wl_y (y_extract rfl rfl) ?_
    refine wl_y (y_extract rfl rfl) ?_
    refine wl_eff (e_alloc (cs := arr b8 (List.replicate 32 0)) zn25) rfl trivial rfl ?_
    intro b8_
    refine wl_eff (e_storeall sz25 rfl rfl (i := 0) rfl (by first | (simp; done) | (simp [*]; done) | (simp; omega) | rfl) (by first | (simp; done) | (simp [*]; done) | (simp; omega) | rfl) (arr_one _) rfl) rfl trivial rfl ?_
    intro _
    refine wl_y (y_assign rfl) ?_
    refine wl_nil ?_
    refine aq_seq ?_
    refine wc_seq ?_
    refine wc_region ?_
    refine wl_y (y_loadall ag25 rfl (i := 1) rfl (by first | (simp; done) | (simp [*]; done) | (simp; omega) | rfl)) ?_
    refine wl_y (y_loadall ag25 rfl (i := 0) rfl (by first | (simp; done) | (simp [*]; done) | (simp; omega) | rfl)) ?_
    refine wl_y (y_eq_arr (f := b8) (a := (hpO ls ns ld nd srv)) (b := (hpO ls ns ld nd srv)) kt25 eg25 ua25 ui5 ce5 ce25 rfl rfl (by first | omega | (simp; done) | (simp; omega)) (by first | omega | (simp; done) | (simp; omega))) ?_
    refine wl_re (t := 42) (v' := kb (true)) rfl (congrArg kb (decide_eq_true rfl)) ?_
    refine wl_y (y_move rfl) ?_
    refine wl_y (y_move rfl) ?_ (hg := ⟨_, rfl, rfl⟩)
    refine wl_y (y_move rfl) ?_ (hg := ⟨_, rfl, rfl⟩)
    refine wl_y (y_bin rfl rfl eql_i64) ?_ (hg := ⟨_, rfl, rfl⟩)
    refine wl_re (t := 46) (v' := kb (true)) rfl (congrArg kb (beq_self_eq_true _)) ?_
    refine wl_y (y_pick (b := true) rfl rfl) ?_
    refine wl_y (y_move rfl) ?_
    refine wl_y (y_move rfl) ?_ (hg := ⟨_, rfl, rfl⟩)
    refine wl_y (y_move rfl) ?_ (hg := ⟨_, rfl, rfl⟩)
    refine wl_eff (e_call0 cf8 rfl (fun w m => left_ok w r5.1 as_ ns r5.2 cs ls (m.rd_sl (i := 3) rfl : Rd _ _ (ns + 1) 1 ((ls ++ [77]).map b8)) (m.sl_le (i := 3) rfl) (m.rd0 hs) (by omega))) rfl ⟨_, rfl, rfl⟩ rfl ?_
    intro _
    refine wl_y (y_pick (b := true) rfl rfl) ?_
    refine wl_y (y_move rfl) ?_
    refine wl_y (y_move rfl) ?_ (hg := ⟨_, rfl, rfl⟩)
    refine wl_y (y_move rfl) ?_ (hg := ⟨_, rfl, rfl⟩)
    refine wl_eff (e_call0 cf8 rfl (fun w m => left_ok w r6.1 ad_ nd r6.2 cd ld (m.rd_sl (i := 2) rfl : Rd _ _ (nd + 1) 1 ((ld ++ [77]).map b8)) (m.sl_le (i := 2) rfl) (m.rd0 hd) (by omega))) rfl ⟨_, rfl, rfl⟩ rfl ?_
    intro _
    refine wl_y (y_pick (b := true) rfl rfl) ?_
    refine wl_y (y_move rfl) ?_
    refine wl_eff (e_call0 cf4 rfl (fun w m => lives_ok w)) rfl ⟨_, rfl, rfl⟩ rfl ?_
    intro _
    refine wl_y (y_pick (b := true) rfl rfl) ?_
    refine wl_y (y_assign rfl) ?_
    refine wl_nil ?_
    refine aq_seq ?_
    refine wc_ret ?_
    refine aq_return (.inl rfl) rfl (⟨_, _, rfl, rfl, rfl⟩) ?_
    intro w' m
    exact ⟨(), rfl, m.pick (is := []) rfl (by decide)⟩

end Go.Proofs.Ytiamjapfjmfldaa
