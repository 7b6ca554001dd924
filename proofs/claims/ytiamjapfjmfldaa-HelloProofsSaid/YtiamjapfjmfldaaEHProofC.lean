/- Lemmas and contracts for the proof of this seat's statements (HProofC). No condition. -/
import Derived.Test.YtiamjapfjmfldaaEEngC
import Derived.Test.YtiamjapfjmfldaaProg
import Derived.KernelRfl
import Derived.Test.YtiamjapfjmfldaaEPlaA
import Derived.Test.YtiamjapfjmfldaaERef3C
set_option linter.all false
namespace Go.Proofs.Ytiamjapfjmfldaa
open Go.Mc
private def lit_76dcfbfb : Array Value := #[b8 (0), b8 (0), b8 (0), b8 (0), b8 (0), b8 (0), b8 (0), b8 (0), b8 (0), b8 (0), b8 (0), b8 (0), b8 (0), b8 (0), b8 (0), b8 (0), b8 (0), b8 (0), b8 (0), b8 (0), b8 (0), b8 (0), b8 (0), b8 (0), b8 (0), b8 (0), b8 (0), b8 (0), b8 (0), b8 (0), b8 (0), b8 (0)]
private theorem zn25 : znB Try.prog 25 (.agg (arr b8 (List.replicate 32 0))) := by unfold znB; kernel_rfl
private theorem sl22 : slB Try.prog 22 5 = true := by kernel_rfl
private theorem ar25 : arB Try.prog 25 32 5 = true := by kernel_rfl
private theorem sz5 : szB Try.prog 5 1 = true := by kernel_rfl
private theorem sz25 : szB Try.prog 25 32 = true := by kernel_rfl
private theorem ag25 : agB Try.prog 25 32 = true := by kernel_rfl
private theorem cf11 : cfB Try.prog 11 = true := by kernel_rfl
private theorem cf12 : cfB Try.prog 12 = true := by kernel_rfl
private theorem cf13 : cfB Try.prog 13 = true := by kernel_rfl
private theorem cf14 : cfB Try.prog 14 = true := by kernel_rfl
private theorem cf15 : cfB Try.prog 15 = true := by kernel_rfl
private theorem cf16 : cfB Try.prog 16 = true := by kernel_rfl
attribute [local irreducible] macO laO

theorem proof_ok (w : World) (as_ ad_ : Option Addr) (ns cs nd cd : Nat) (ls ld : List UInt8) (srv : Bool) (hs : Rd w as_ ns 1 (ls.map b8)) (hd : Rd w ad_ nd 1 (ld.map b8)) (hcs : ns ≤ cs) (hcd : nd ≤ cd) :
    Calls Try.prog 6 #[.slice as_ ns cs, .slice ad_ nd cd, kb (srv)] w (Ret (fun _ : Unit => .tuple #[.agg (arr b8 (hpO ls ns ld nd srv)), ki (hpE ns nd : Nat)]) (fun _ => Mem w [] [])) := by
  have hls := hs.len
  have hld := hd.len
  refine calls_of Try.func6 rfl rfl (L := [(0, .slice as_ ns cs), (1, .slice ad_ nd cd), (2, kb (srv))]) ⟨rfl, rfl, rfl, trivial⟩ (m := 45) (Nat.le_of_ble_eq_true rfl) (M := Mem w [] []) (Mem.refl w) ?_
  refine wc_seq ?_
  refine wc_region ?_
  refine wl_eff (e_alloc (cs := arr b8 (List.replicate 32 0)) zn25) rfl trivial rfl ?_
  intro b1
  refine wl_y (y_assign rfl) ?_
  refine wl_nil ?_
  refine aq_seq ?_
  refine wc_seq ?_
  refine wc_block ?_
  refine wc_seq ?_
  refine wc_region ?_
  refine wl_y (y_move rfl) ?_
  refine wl_y (y_len_sl sl22 (m := ns) rfl rfl) ?_
  refine wl_y (y_bin rfl rfl lss_i64) ?_
  refine wl_bool (t := 16) rfl (fun hs5 => ?_) (fun hs5 => ?_)
  · have hb5 : (ns : Int) < 1 := by simpa using hs5
    have hbad : ns < 1 ∨ 256 < ns := .inl (by omega)
    have he := hpE_1 (nd := nd) hbad
    have ho := hpO_1 (nd := nd) ls ld srv hbad
    refine wl_y (y_move rfl) ?_
    refine wl_off ⟨_, _, rfl, rfl, .inl rfl⟩ rfl ?_
    refine wl_off ⟨_, _, rfl, rfl, .inl rfl⟩ rfl ?_
    refine wl_off ⟨_, _, rfl, rfl, .inl rfl⟩ rfl ?_
    refine wl_y (y_pick (b := true) rfl rfl) ?_
    refine wl_y (y_assign rfl) ?_
    refine wl_nil ?_
    refine aq_seq ?_
    refine wc_then rfl ?_
    refine wc_seq ?_
    refine wc_region ?_
    refine wl_y (y_build_ar (cs := lit_76dcfbfb) [] ar25 sz5 zn25 rfl (by kernel_rfl)) ?_
    refine wl_re (t := 22) (v' := .agg (arr b8 (List.replicate 32 0))) rfl (rfl) ?_
    refine wl_eff (e_storeall sz25 rfl rfl (i := 0) rfl (by first | (simp; done) | (simp [*]; done) | (simp; omega) | rfl) (by first | (simp; done) | (simp [*]; done) | (simp; omega) | rfl) (arr_one _) rfl) rfl trivial rfl ?_
    intro _
    refine wl_y (y_assign rfl) ?_
    refine wl_nil ?_
    refine aq_seq ?_
    refine wc_ret ?_
    refine aq_blk_ret ?_
    refine aq_thru_ret ?_
    refine aq_return (.inl rfl) rfl (⟨_, _, _, rfl, fun w m => run_loadVar_all ag25 (m.blk (i := 0) rfl) (by first | (simp; done) | (simp [*]; done) | (simp; omega) | rfl), rfl, ⟨_, _, rfl, rfl, rfl⟩⟩) ?_
    intro w' m
    rw [he, ho]
    exact ⟨(), rfl, m.pick (is := []) rfl (by decide)⟩
  · have hb5 : ¬ ((ns : Int) < 1) := by simpa using hs5
    refine wl_y (y_move rfl) ?_
    refine wl_y (y_move rfl) ?_ (hg := ⟨_, rfl, rfl⟩)
    refine wl_y (y_len_sl sl22 (m := ns) rfl rfl) ?_ (hg := ⟨_, rfl, rfl⟩)
    refine wl_y (y_bin rfl rfl gtr_i64) ?_ (hg := ⟨_, rfl, rfl⟩)
    refine wl_y (y_pick (b := false) rfl rfl) ?_
    refine wl_y (y_assign rfl) ?_
    refine wl_nil ?_
    refine aq_seq ?_
    refine wc_if rfl (fun hc1 => ?_) (fun hc1 => ?_)
    · have hb1 : (ns : Int) > 256 := by simpa using hc1
      have hbad : ns < 1 ∨ 256 < ns := .inr (by omega)
      have he := hpE_1 (nd := nd) hbad
      have ho := hpO_1 (nd := nd) ls ld srv hbad
      refine wc_seq ?_
      refine wc_region ?_
      refine wl_y (y_build_ar (cs := lit_76dcfbfb) [] ar25 sz5 zn25 rfl (by kernel_rfl)) ?_
      refine wl_re (t := 22) (v' := .agg (arr b8 (List.replicate 32 0))) rfl (rfl) ?_
      refine wl_eff (e_storeall sz25 rfl rfl (i := 0) rfl (by first | (simp; done) | (simp [*]; done) | (simp; omega) | rfl) (by first | (simp; done) | (simp [*]; done) | (simp; omega) | rfl) (arr_one _) rfl) rfl trivial rfl ?_
      intro _
      refine wl_y (y_assign rfl) ?_
      refine wl_nil ?_
      refine aq_seq ?_
      refine wc_ret ?_
      refine aq_blk_ret ?_
      refine aq_thru_ret ?_
      refine aq_return (.inl rfl) rfl (⟨_, _, _, rfl, fun w m => run_loadVar_all ag25 (m.blk (i := 0) rfl) (by first | (simp; done) | (simp [*]; done) | (simp; omega) | rfl), rfl, ⟨_, _, rfl, rfl, rfl⟩⟩) ?_
      intro w' m
      rw [he, ho]
      exact ⟨(), rfl, m.pick (is := []) rfl (by decide)⟩
    · have hb1 : ¬ ((ns : Int) > 256) := by simpa using hc1
      have hg1 : ¬ (ns < 1 ∨ 256 < ns) := by omega
      refine wc_seq ?_
      refine wc_region ?_
      refine wl_y (y_move rfl) ?_
      refine wl_y (y_len_sl sl22 (m := nd) rfl rfl) ?_
      refine wl_y (y_bin rfl rfl gtr_i64) ?_
      refine wl_y (y_assign rfl) ?_
      refine wl_nil ?_
      refine aq_seq ?_
      refine wc_if rfl (fun hc2 => ?_) (fun hc2 => ?_)
      · have hb2 : (nd : Int) > 1048576 := by simpa using hc2
        have he := hpE_3 (nd := nd) hg1 (by omega)
        have ho := hpO_3 (nd := nd) ls ld srv hg1 (by omega)
        refine wc_seq ?_
        refine wc_region ?_
        refine wl_y (y_build_ar (cs := lit_76dcfbfb) [] ar25 sz5 zn25 rfl (by kernel_rfl)) ?_
        refine wl_re (t := 27) (v' := .agg (arr b8 (List.replicate 32 0))) rfl (rfl) ?_
        refine wl_eff (e_storeall sz25 rfl rfl (i := 0) rfl (by first | (simp; done) | (simp [*]; done) | (simp; omega) | rfl) (by first | (simp; done) | (simp [*]; done) | (simp; omega) | rfl) (arr_one _) rfl) rfl trivial rfl ?_
        intro _
        refine wl_y (y_assign rfl) ?_
        refine wl_nil ?_
        refine aq_seq ?_
        refine wc_ret ?_
        refine aq_blk_ret ?_
        refine aq_thru_ret ?_
        refine aq_return (.inl rfl) rfl (⟨_, _, _, rfl, fun w m => run_loadVar_all ag25 (m.blk (i := 0) rfl) (by first | (simp; done) | (simp [*]; done) | (simp; omega) | rfl), rfl, ⟨_, _, rfl, rfl, rfl⟩⟩) ?_
        intro w' m
        rw [he, ho]
        exact ⟨(), rfl, m.pick (is := []) rfl (by decide)⟩
      · have hb2 : ¬ ((nd : Int) > 1048576) := by simpa using hc2
        have he := hpE_0 (nd := nd) hg1 (by omega)
        have ho := hpO_0 (nd := nd) ls ld srv hg1 (by omega)
        refine wc_skip ?_
        refine aq_blk_normal ?_
        refine aq_seq ?_
        refine wc_seq ?_
        refine wc_region ?_
        refine wl_y (y_assign rfl) ?_
        refine wl_nil ?_
        refine aq_seq ?_
        refine wc_seq ?_
        refine wc_seq ?_
        refine wc_region ?_
        refine wl_y (y_move rfl) ?_
        refine wl_nil ?_
        refine aq_seq ?_
        refine wc_if rfl (fun hc3 => ?_) (fun hc3 => ?_)
        · have hb3 : srv = true := by simpa using hc3
          refine wc_region ?_
          refine wl_y (y_assign rfl) ?_
          refine wl_nil ?_
          refine aq_seq ?_
          refine wc_seq ?_
          refine wc_region ?_
          refine wl_y (y_move rfl) ?_
          refine wl_eff (e_call0 cf11 rfl (fun w m => hext_ok w none as_ 0 0 ns cs ([] : List UInt8) ls (Rd.nil _ _ _) (m.rd0 hs) (by omega))) rfl trivial rfl ?_
          intro _
          refine wl_y (y_move rfl) ?_
          refine wl_y (y_extract rfl rfl) ?_
          refine wl_y (y_extract rfl rfl) ?_
          refine wl_eff (e_alloc (cs := arr b8 (List.replicate 32 0)) zn25) rfl trivial rfl ?_
          intro b2
          refine wl_eff (e_storeall sz25 rfl rfl (i := 0) rfl (by first | (simp; done) | (simp [*]; done) | (simp; omega) | rfl) (by first | (simp; done) | (simp [*]; done) | (simp; omega) | rfl) (arr_one _) rfl) rfl trivial rfl ?_
          intro _
          refine wl_y (y_assign rfl) ?_
          refine wl_nil ?_
          refine aq_seq ?_
          refine wc_seq ?_
          refine wc_region ?_
          refine wl_y (y_slice_ar0 ar25 sz5 rfl 32 rfl rfl (by omega)) ?_
          refine wl_y (y_move rfl) ?_
          refine wl_eff (e_call0 cf12 rfl (fun w m => label_ok w (some ⟨b2, 0, none⟩) none 32 32 0 0 (macO ([] : List UInt8) 0 ls ns) ([] : List UInt8) ([115, 101, 114, 118, 101, 114, 32, 112, 114, 111, 111, 102] : List UInt8) 12 32 ((Mem.rd_arrn (f := b8) (xs := (macO ([] : List UInt8) 0 ls ns)) m (i := 0) rfl (n := 32) (by first | omega | (simp; done) | (simp [*]; done) | (simp; omega)))) (Rd.nil _ _ _) (by omega) (by first | omega | (simp; done) | (simp [*]; done) | (simp; omega)) (by omega))) rfl trivial rfl ?_
          intro r3
          rw [show (laN 32 12 0 32) = 32 from laN_32]
          refine wl_y (y_move rfl) ?_
          refine wl_y (y_extract rfl rfl) ?_
          refine wl_y (y_extract rfl rfl) ?_
          refine wl_y (y_assign rfl) ?_
          refine wl_y (y_assign rfl) ?_
          refine wl_nil ?_
          refine aq_seq ?_
          refine wc_seq ?_
          refine wc_region ?_
          refine wl_y (y_move rfl) ?_
          refine wl_y (y_move rfl) ?_
          refine wl_eff (e_call0 cf13 rfl (fun w m => hmac_ok w r3.1 ad_ 32 r3.2 nd cd (laO (macO ([] : List UInt8) 0 ls ns) 32 ([115, 101, 114, 118, 101, 114, 32, 112, 114, 111, 111, 102] : List UInt8) 12 ([] : List UInt8) 0 32) ld ((m.rd_sl (i := 0) rfl : Rd _ _ 32 1 ((laO (macO ([] : List UInt8) 0 ls ns) 32 ([115, 101, 114, 118, 101, 114, 32, 112, 114, 111, 111, 102] : List UInt8) 12 ([] : List UInt8) 0 32).map b8))) (m.rd0 hd) (m.sl_le (i := 0) rfl))) rfl trivial rfl ?_
          intro _
          refine wl_y (y_extract rfl rfl) ?_
          refine wl_y (y_extract rfl rfl) ?_
          refine wl_eff (e_storeall sz25 rfl rfl (i := 2) rfl (by first | (simp; done) | (simp [*]; done) | (simp; omega) | rfl) (by first | (simp; done) | (simp [*]; done) | (simp; omega) | rfl) (arr_one _) ⟨_, rfl, ⟨_, rfl, rfl⟩⟩) rfl trivial rfl ?_
          intro _
          refine wl_y (y_assign rfl) ?_
          refine wl_nil ?_
          refine aq_seq ?_
          refine wc_ret ?_
          refine aq_return (.inl rfl) rfl (⟨_, _, _, rfl, fun w m => run_loadVar_all ag25 (m.blk (i := 2) rfl) (by first | (simp; done) | (simp [*]; done) | (simp; omega) | rfl), rfl, ⟨_, _, rfl, rfl, rfl⟩⟩) ?_
          intro w' m
          rw [he, ho]
          simp only [hb3, if_true]
          exact ⟨(), rfl, (Mem.pick m (is := []) rfl (by decide))⟩
        · have hb3 : srv = false := by simpa using hc3
          refine wc_skip ?_
          refine aq_seq ?_
          refine wc_seq ?_
          refine wc_region ?_
          refine wl_y (y_move rfl) ?_
          refine wl_eff (e_call0 cf11 rfl (fun w m => hext_ok w none as_ 0 0 ns cs ([] : List UInt8) ls (Rd.nil _ _ _) (m.rd0 hs) (by omega))) rfl trivial rfl ?_
          intro _
          refine wl_y (y_move rfl) ?_
          refine wl_y (y_extract rfl rfl) ?_
          refine wl_y (y_extract rfl rfl) ?_
          refine wl_eff (e_alloc (cs := arr b8 (List.replicate 32 0)) zn25) rfl trivial rfl ?_
          intro b4
          refine wl_eff (e_storeall sz25 rfl rfl (i := 0) rfl (by first | (simp; done) | (simp [*]; done) | (simp; omega) | rfl) (by first | (simp; done) | (simp [*]; done) | (simp; omega) | rfl) (arr_one _) rfl) rfl trivial rfl ?_
          intro _
          refine wl_y (y_assign rfl) ?_
          refine wl_nil ?_
          refine aq_seq ?_
          refine wc_seq ?_
          refine wc_region ?_
          refine wl_y (y_slice_ar0 ar25 sz5 rfl 32 rfl rfl (by omega)) ?_
          refine wl_y (y_move rfl) ?_
          refine wl_eff (e_call0 cf12 rfl (fun w m => label_ok w (some ⟨b4, 0, none⟩) none 32 32 0 0 (macO ([] : List UInt8) 0 ls ns) ([] : List UInt8) ([99, 108, 105, 101, 110, 116, 32, 112, 114, 111, 111, 102] : List UInt8) 12 32 ((Mem.rd_arrn (f := b8) (xs := (macO ([] : List UInt8) 0 ls ns)) m (i := 0) rfl (n := 32) (by first | omega | (simp; done) | (simp [*]; done) | (simp; omega)))) (Rd.nil _ _ _) (by omega) (by first | omega | (simp; done) | (simp [*]; done) | (simp; omega)) (by omega))) rfl trivial rfl ?_
          intro r5
          rw [show (laN 32 12 0 32) = 32 from laN_32]
          refine wl_y (y_move rfl) ?_
          refine wl_y (y_extract rfl rfl) ?_
          refine wl_y (y_extract rfl rfl) ?_
          refine wl_y (y_assign rfl) ?_
          refine wl_y (y_assign rfl) ?_
          refine wl_nil ?_
          refine aq_seq ?_
          refine wc_seq ?_
          refine wc_region ?_
          refine wl_y (y_move rfl) ?_
          refine wl_y (y_move rfl) ?_
          refine wl_eff (e_call0 cf13 rfl (fun w m => hmac_ok w r5.1 ad_ 32 r5.2 nd cd (laO (macO ([] : List UInt8) 0 ls ns) 32 ([99, 108, 105, 101, 110, 116, 32, 112, 114, 111, 111, 102] : List UInt8) 12 ([] : List UInt8) 0 32) ld ((m.rd_sl (i := 0) rfl : Rd _ _ 32 1 ((laO (macO ([] : List UInt8) 0 ls ns) 32 ([99, 108, 105, 101, 110, 116, 32, 112, 114, 111, 111, 102] : List UInt8) 12 ([] : List UInt8) 0 32).map b8))) (m.rd0 hd) (m.sl_le (i := 0) rfl))) rfl trivial rfl ?_
          intro _
          refine wl_y (y_extract rfl rfl) ?_
          refine wl_y (y_extract rfl rfl) ?_
          refine wl_eff (e_storeall sz25 rfl rfl (i := 2) rfl (by first | (simp; done) | (simp [*]; done) | (simp; omega) | rfl) (by first | (simp; done) | (simp [*]; done) | (simp; omega) | rfl) (arr_one _) ⟨_, rfl, ⟨_, rfl, rfl⟩⟩) rfl trivial rfl ?_
          intro _
          refine wl_y (y_assign rfl) ?_
          refine wl_nil ?_
          refine aq_seq ?_
          refine wc_ret ?_
          refine aq_return (.inl rfl) rfl (⟨_, _, _, rfl, fun w m => run_loadVar_all ag25 (m.blk (i := 2) rfl) (by first | (simp; done) | (simp [*]; done) | (simp; omega) | rfl), rfl, ⟨_, _, rfl, rfl, rfl⟩⟩) ?_
          intro w' m
          rw [he, ho]
          simp only [hb3, if_false]
          exact ⟨(), rfl, (Mem.pick m (is := []) rfl (by decide))⟩

theorem rproof_ok (w : World) (as_ ad_ : Option Addr) (ns cs nd cd : Nat) (ls ld : List UInt8) (srv : Bool) (hs : Rd w as_ ns 1 (ls.map b8)) (hd : Rd w ad_ nd 1 (ld.map b8)) (hcs : ns ≤ cs) (hcd : nd ≤ cd) :
    Calls Try.prog 7 #[.slice as_ ns cs, .slice ad_ nd cd, kb (srv)] w (Ret (fun _ : Unit => .tuple #[.agg (arr b8 (hpO ls ns ld nd srv)), ki (hpE ns nd : Nat)]) (fun _ => Mem w [] [])) := by
  have hls := hs.len
  have hld := hd.len
  refine calls_of Try.func7 rfl rfl (L := [(0, .slice as_ ns cs), (1, .slice ad_ nd cd), (2, kb (srv))]) ⟨rfl, rfl, rfl, trivial⟩ (m := 43) (Nat.le_of_ble_eq_true rfl) (M := Mem w [] []) (Mem.refl w) ?_
  refine wc_seq ?_
  refine wc_region ?_
  refine wl_eff (e_alloc (cs := arr b8 (List.replicate 32 0)) zn25) rfl trivial rfl ?_
  intro b1
  refine wl_y (y_assign rfl) ?_
  refine wl_nil ?_
  refine aq_seq ?_
  refine wc_seq ?_
  refine wc_seq ?_
  refine wc_region ?_
  refine wl_y (y_move rfl) ?_
  refine wl_y (y_len_sl sl22 (m := ns) rfl rfl) ?_
  refine wl_y (y_bin rfl rfl lss_i64) ?_
  refine wl_bool (t := 15) rfl (fun hs5 => ?_) (fun hs5 => ?_)
  · have hb5 : (ns : Int) < 1 := by simpa using hs5
    have hbad : ns < 1 ∨ 256 < ns := .inl (by omega)
    have he := hpE_1 (nd := nd) hbad
    have ho := hpO_1 (nd := nd) ls ld srv hbad
    refine wl_y (y_move rfl) ?_
    refine wl_off ⟨_, _, rfl, rfl, .inl rfl⟩ rfl ?_
    refine wl_off ⟨_, _, rfl, rfl, .inl rfl⟩ rfl ?_
    refine wl_off ⟨_, _, rfl, rfl, .inl rfl⟩ rfl ?_
    refine wl_y (y_pick (b := true) rfl rfl) ?_
    refine wl_nil ?_
    refine aq_seq ?_
    refine wc_then rfl ?_
    refine wc_seq ?_
    refine wc_region ?_
    refine wl_y (y_build_ar (cs := lit_76dcfbfb) [] ar25 sz5 zn25 rfl (by kernel_rfl)) ?_
    refine wl_re (t := 21) (v' := .agg (arr b8 (List.replicate 32 0))) rfl (rfl) ?_
    refine wl_eff (e_storeall sz25 rfl rfl (i := 0) rfl (by first | (simp; done) | (simp [*]; done) | (simp; omega) | rfl) (by first | (simp; done) | (simp [*]; done) | (simp; omega) | rfl) (arr_one _) rfl) rfl trivial rfl ?_
    intro _
    refine wl_y (y_assign rfl) ?_
    refine wl_nil ?_
    refine aq_seq ?_
    refine wc_ret ?_
    refine aq_thru_ret ?_
    refine aq_return (.inl rfl) rfl (⟨_, _, _, rfl, fun w m => run_loadVar_all ag25 (m.blk (i := 0) rfl) (by first | (simp; done) | (simp [*]; done) | (simp; omega) | rfl), rfl, ⟨_, _, rfl, rfl, rfl⟩⟩) ?_
    intro w' m
    rw [he, ho]
    exact ⟨(), rfl, m.pick (is := []) rfl (by decide)⟩
  · have hb5 : ¬ ((ns : Int) < 1) := by simpa using hs5
    refine wl_y (y_move rfl) ?_
    refine wl_y (y_move rfl) ?_ (hg := ⟨_, rfl, rfl⟩)
    refine wl_y (y_len_sl sl22 (m := ns) rfl rfl) ?_ (hg := ⟨_, rfl, rfl⟩)
    refine wl_y (y_bin rfl rfl gtr_i64) ?_ (hg := ⟨_, rfl, rfl⟩)
    refine wl_y (y_pick (b := false) rfl rfl) ?_
    refine wl_nil ?_
    refine aq_seq ?_
    refine wc_if rfl (fun hc1 => ?_) (fun hc1 => ?_)
    · have hb1 : (ns : Int) > 256 := by simpa using hc1
      have hbad : ns < 1 ∨ 256 < ns := .inr (by omega)
      have he := hpE_1 (nd := nd) hbad
      have ho := hpO_1 (nd := nd) ls ld srv hbad
      refine wc_seq ?_
      refine wc_region ?_
      refine wl_y (y_build_ar (cs := lit_76dcfbfb) [] ar25 sz5 zn25 rfl (by kernel_rfl)) ?_
      refine wl_re (t := 21) (v' := .agg (arr b8 (List.replicate 32 0))) rfl (rfl) ?_
      refine wl_eff (e_storeall sz25 rfl rfl (i := 0) rfl (by first | (simp; done) | (simp [*]; done) | (simp; omega) | rfl) (by first | (simp; done) | (simp [*]; done) | (simp; omega) | rfl) (arr_one _) rfl) rfl trivial rfl ?_
      intro _
      refine wl_y (y_assign rfl) ?_
      refine wl_nil ?_
      refine aq_seq ?_
      refine wc_ret ?_
      refine aq_thru_ret ?_
      refine aq_return (.inl rfl) rfl (⟨_, _, _, rfl, fun w m => run_loadVar_all ag25 (m.blk (i := 0) rfl) (by first | (simp; done) | (simp [*]; done) | (simp; omega) | rfl), rfl, ⟨_, _, rfl, rfl, rfl⟩⟩) ?_
      intro w' m
      rw [he, ho]
      exact ⟨(), rfl, m.pick (is := []) rfl (by decide)⟩
    · have hb1 : ¬ ((ns : Int) > 256) := by simpa using hc1
      have hg1 : ¬ (ns < 1 ∨ 256 < ns) := by omega
      refine wc_skip ?_
      refine aq_seq ?_
      refine wc_seq ?_
      refine wc_seq ?_
      refine wc_region ?_
      refine wl_y (y_move rfl) ?_
      refine wl_y (y_len_sl sl22 (m := nd) rfl rfl) ?_
      refine wl_y (y_bin rfl rfl gtr_i64) ?_
      refine wl_nil ?_
      refine aq_seq ?_
      refine wc_if rfl (fun hc2 => ?_) (fun hc2 => ?_)
      · have hb2 : (nd : Int) > 1048576 := by simpa using hc2
        have he := hpE_3 (nd := nd) hg1 (by omega)
        have ho := hpO_3 (nd := nd) ls ld srv hg1 (by omega)
        refine wc_seq ?_
        refine wc_region ?_
        refine wl_y (y_build_ar (cs := lit_76dcfbfb) [] ar25 sz5 zn25 rfl (by kernel_rfl)) ?_
        refine wl_re (t := 25) (v' := .agg (arr b8 (List.replicate 32 0))) rfl (rfl) ?_
        refine wl_eff (e_storeall sz25 rfl rfl (i := 0) rfl (by first | (simp; done) | (simp [*]; done) | (simp; omega) | rfl) (by first | (simp; done) | (simp [*]; done) | (simp; omega) | rfl) (arr_one _) rfl) rfl trivial rfl ?_
        intro _
        refine wl_y (y_assign rfl) ?_
        refine wl_nil ?_
        refine aq_seq ?_
        refine wc_ret ?_
        refine aq_thru_ret ?_
        refine aq_return (.inl rfl) rfl (⟨_, _, _, rfl, fun w m => run_loadVar_all ag25 (m.blk (i := 0) rfl) (by first | (simp; done) | (simp [*]; done) | (simp; omega) | rfl), rfl, ⟨_, _, rfl, rfl, rfl⟩⟩) ?_
        intro w' m
        rw [he, ho]
        exact ⟨(), rfl, m.pick (is := []) rfl (by decide)⟩
      · have hb2 : ¬ ((nd : Int) > 1048576) := by simpa using hc2
        have he := hpE_0 (nd := nd) hg1 (by omega)
        have ho := hpO_0 (nd := nd) ls ld srv hg1 (by omega)
        refine wc_skip ?_
        refine aq_seq ?_
        refine wc_seq ?_
        refine wc_region ?_
        refine wl_y (y_move rfl) ?_
        refine wl_eff (e_call0 cf14 rfl (fun w m => rhext_ok w none as_ 0 0 ns cs ([] : List UInt8) ls (Rd.nil _ _ _) (m.rd0 hs))) rfl trivial rfl ?_
        intro _
        refine wl_y (y_move rfl) ?_
        refine wl_y (y_extract rfl rfl) ?_
        refine wl_y (y_extract rfl rfl) ?_
        refine wl_eff (e_alloc (cs := arr b8 (List.replicate 32 0)) zn25) rfl trivial rfl ?_
        intro b2
        refine wl_eff (e_storeall sz25 rfl rfl (i := 0) rfl (by first | (simp; done) | (simp [*]; done) | (simp; omega) | rfl) (by first | (simp; done) | (simp [*]; done) | (simp; omega) | rfl) (arr_one _) rfl) rfl trivial rfl ?_
        intro _
        refine wl_y (y_assign rfl) ?_
        refine wl_nil ?_
        refine aq_seq ?_
        refine wc_seq ?_
        refine wc_region ?_
        refine wl_y (y_assign rfl) ?_
        refine wl_nil ?_
        refine aq_seq ?_
        refine wc_seq ?_
        refine wc_seq ?_
        refine wc_region ?_
        refine wl_y (y_move rfl) ?_
        refine wl_nil ?_
        refine aq_seq ?_
        refine wc_if rfl (fun hc3 => ?_) (fun hc3 => ?_)
        · have hb3 : srv = true := by simpa using hc3
          refine wc_region ?_
          refine wl_y (y_assign rfl) ?_
          refine wl_nil ?_
          refine aq_seq ?_
          refine wc_seq ?_
          refine wc_region ?_
          refine wl_y (y_slice_ar0 ar25 sz5 rfl 32 rfl rfl (by omega)) ?_
          refine wl_y (y_move rfl) ?_
          refine wl_eff (e_call0 cf15 rfl (fun w m => rlabel_ok w (some ⟨b2, 0, none⟩) none 32 32 0 0 (macO ([] : List UInt8) 0 ls ns) ([] : List UInt8) ([115, 101, 114, 118, 101, 114, 32, 112, 114, 111, 111, 102] : List UInt8) 12 32 ((Mem.rd_arrn (f := b8) (xs := (macO ([] : List UInt8) 0 ls ns)) m (i := 0) rfl (n := 32) (by first | omega | (simp; done) | (simp [*]; done) | (simp; omega)))) (Rd.nil _ _ _) (by first | omega | (simp; done) | (simp [*]; done) | (simp; omega)) (by omega))) rfl trivial rfl ?_
          intro r3
          rw [show (laN 32 12 0 32) = 32 from laN_32]
          refine wl_y (y_move rfl) ?_
          refine wl_y (y_extract rfl rfl) ?_
          refine wl_y (y_extract rfl rfl) ?_
          refine wl_y (y_assign rfl) ?_
          refine wl_y (y_assign rfl) ?_
          refine wl_nil ?_
          refine aq_seq ?_
          refine wc_seq ?_
          refine wc_region ?_
          refine wl_y (y_move rfl) ?_
          refine wl_y (y_move rfl) ?_
          refine wl_eff (e_call0 cf16 rfl (fun w m => rhmac_ok w r3.1 ad_ 32 r3.2 nd cd (laO (macO ([] : List UInt8) 0 ls ns) 32 ([115, 101, 114, 118, 101, 114, 32, 112, 114, 111, 111, 102] : List UInt8) 12 ([] : List UInt8) 0 32) ld ((m.rd_sl (i := 0) rfl : Rd _ _ 32 1 ((laO (macO ([] : List UInt8) 0 ls ns) 32 ([115, 101, 114, 118, 101, 114, 32, 112, 114, 111, 111, 102] : List UInt8) 12 ([] : List UInt8) 0 32).map b8))) (m.rd0 hd))) rfl trivial rfl ?_
          intro _
          refine wl_y (y_extract rfl rfl) ?_
          refine wl_y (y_extract rfl rfl) ?_
          refine wl_eff (e_storeall sz25 rfl rfl (i := 2) rfl (by first | (simp; done) | (simp [*]; done) | (simp; omega) | rfl) (by first | (simp; done) | (simp [*]; done) | (simp; omega) | rfl) (arr_one _) ⟨_, rfl, ⟨_, rfl, rfl⟩⟩) rfl trivial rfl ?_
          intro _
          refine wl_y (y_assign rfl) ?_
          refine wl_nil ?_
          refine aq_seq ?_
          refine wc_ret ?_
          refine aq_return (.inl rfl) rfl (⟨_, _, _, rfl, fun w m => run_loadVar_all ag25 (m.blk (i := 2) rfl) (by first | (simp; done) | (simp [*]; done) | (simp; omega) | rfl), rfl, ⟨_, _, rfl, rfl, rfl⟩⟩) ?_
          intro w' m
          rw [he, ho]
          simp only [hb3, if_true]
          exact ⟨(), rfl, (Mem.pick m (is := []) rfl (by decide))⟩
        · have hb3 : srv = false := by simpa using hc3
          refine wc_skip ?_
          refine aq_seq ?_
          refine wc_seq ?_
          refine wc_region ?_
          refine wl_y (y_slice_ar0 ar25 sz5 rfl 32 rfl rfl (by omega)) ?_
          refine wl_y (y_move rfl) ?_
          refine wl_eff (e_call0 cf15 rfl (fun w m => rlabel_ok w (some ⟨b2, 0, none⟩) none 32 32 0 0 (macO ([] : List UInt8) 0 ls ns) ([] : List UInt8) ([99, 108, 105, 101, 110, 116, 32, 112, 114, 111, 111, 102] : List UInt8) 12 32 ((Mem.rd_arrn (f := b8) (xs := (macO ([] : List UInt8) 0 ls ns)) m (i := 0) rfl (n := 32) (by first | omega | (simp; done) | (simp [*]; done) | (simp; omega)))) (Rd.nil _ _ _) (by first | omega | (simp; done) | (simp [*]; done) | (simp; omega)) (by omega))) rfl trivial rfl ?_
          intro r4
          rw [show (laN 32 12 0 32) = 32 from laN_32]
          refine wl_y (y_move rfl) ?_
          refine wl_y (y_extract rfl rfl) ?_
          refine wl_y (y_extract rfl rfl) ?_
          refine wl_y (y_assign rfl) ?_
          refine wl_y (y_assign rfl) ?_
          refine wl_nil ?_
          refine aq_seq ?_
          refine wc_seq ?_
          refine wc_region ?_
          refine wl_y (y_move rfl) ?_
          refine wl_y (y_move rfl) ?_
          refine wl_eff (e_call0 cf16 rfl (fun w m => rhmac_ok w r4.1 ad_ 32 r4.2 nd cd (laO (macO ([] : List UInt8) 0 ls ns) 32 ([99, 108, 105, 101, 110, 116, 32, 112, 114, 111, 111, 102] : List UInt8) 12 ([] : List UInt8) 0 32) ld ((m.rd_sl (i := 0) rfl : Rd _ _ 32 1 ((laO (macO ([] : List UInt8) 0 ls ns) 32 ([99, 108, 105, 101, 110, 116, 32, 112, 114, 111, 111, 102] : List UInt8) 12 ([] : List UInt8) 0 32).map b8))) (m.rd0 hd))) rfl trivial rfl ?_
          intro _
          refine wl_y (y_extract rfl rfl) ?_
          refine wl_y (y_extract rfl rfl) ?_
          refine wl_eff (e_storeall sz25 rfl rfl (i := 2) rfl (by first | (simp; done) | (simp [*]; done) | (simp; omega) | rfl) (by first | (simp; done) | (simp [*]; done) | (simp; omega) | rfl) (arr_one _) ⟨_, rfl, ⟨_, rfl, rfl⟩⟩) rfl trivial rfl ?_
          intro _
          refine wl_y (y_assign rfl) ?_
          refine wl_nil ?_
          refine aq_seq ?_
          refine wc_ret ?_
          refine aq_return (.inl rfl) rfl (⟨_, _, _, rfl, fun w m => run_loadVar_all ag25 (m.blk (i := 2) rfl) (by first | (simp; done) | (simp [*]; done) | (simp; omega) | rfl), rfl, ⟨_, _, rfl, rfl, rfl⟩⟩) ?_
          intro w' m
          rw [he, ho]
          simp only [hb3, if_false]
          exact ⟨(), rfl, (Mem.pick m (is := []) rfl (by decide))⟩

end Go.Proofs.Ytiamjapfjmfldaa
