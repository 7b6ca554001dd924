/- Lemmas and contracts for the proof of this seat's statements (Hkdf2F). No condition. -/
import Derived.Test.YtjibkjoaamchoaaGreatDoorEBk
import Derived.Test.YtjibkjoaamchoaaGreatDoorProg
import Derived.KernelRfl
import Derived.Test.YtjibkjoaamchoaaGreatDoorEPlaA
import Derived.Test.YtjibkjoaamchoaaGreatDoorEHkdfF
set_option linter.all false
namespace Go.Proofs.YtjibkjoaamchoaaGreatDoor
open Go.Mc
private theorem ag53 : agB Tryz.prog 53 64 = true := by kernel_rfl
private theorem sc22 : scB Tryz.prog 22 = true := by kernel_rfl
private theorem sl22 : slB Tryz.prog 22 5 = true := by kernel_rfl
private theorem el5 : elB Tryz.prog 5 1 1 (b8 (0)) := elB_of (by kernel_rfl) (by kernel_rfl) (by unfold znB; kernel_rfl)
private theorem sl50 : slB Tryz.prog 50 22 = true := by kernel_rfl
private theorem el22 : elB Tryz.prog 22 1 24 (.slice none 0 0) := elB_of (by kernel_rfl) (by kernel_rfl) (by unfold znB; kernel_rfl)
private theorem cf58 : cfB Tryz.prog 58 = true := by kernel_rfl
private theorem zn56 : znB Tryz.prog 56 (.agg (arr b8 (List.replicate 32 0))) := by unfold znB; kernel_rfl
private theorem sz56 : szB Tryz.prog 56 32 = true := by kernel_rfl
private theorem ag56 : agB Tryz.prog 56 32 = true := by kernel_rfl
private theorem ar56 : arB Tryz.prog 56 32 5 = true := by kernel_rfl
private theorem sz5 : szB Tryz.prog 5 1 = true := by kernel_rfl
private theorem sc3 : scB Tryz.prog 3 = true := by kernel_rfl
private theorem zn22 : znB Tryz.prog 22 (.slice none 0 0) := by unfold znB; kernel_rfl
private theorem cf15 : cfB Tryz.prog 15 = true := by kernel_rfl
private theorem cf16 : cfB Tryz.prog 16 = true := by kernel_rfl
private theorem cf57 : cfB Tryz.prog 57 = true := by kernel_rfl
private theorem sz22 : szB Tryz.prog 22 1 = true := by kernel_rfl
attribute [local irreducible] macF keyF

theorem sums1_ok {X : Type} (w0 w : World) (own : List Nat) (l bk bi : Nat) (key : List UInt8) (ai : Option Addr) (ni ci : Nat) (li : List UInt8) (hk : key.length = 64) (hi : Rd w0 ai ni 1 (li.map b8)) (hio : li.map b8 ≠ [] → ∀ q, ai = some q → q.block ∉ own) (hni : ni ≤ 1048479) (stop : Nat) (h0 : 0 < stop) (hst : stop ≤ 255) (Hf : Nat → X → List Ch) (x0 : X) (hm : Mem w0 own (.blk bk (.cells (arr b8 key) 53 (0, 0)) :: .blk bi (.cells (#[.slice ai ni ci]) 22 (0, 0)) :: Hf 0 x0) w) (hY : ∀ j x w' A, j < stop → Mem w0 own (Hf j x ++ A) w' → Go.Mc.Yields Tryz.prog l [.agg (arr b8 (tF key li ni (j + 1)))] w' (Ret (fun _ : X => kb (decide (j + 1 < stop))) (fun x' => Mem w0 own (Hf (j + 1) x' ++ A)))) :
    Calls Tryz.prog 57 #[.func (.yield l) #[] #[], .pointer (some ⟨bk, 0, none⟩), .pointer (some ⟨bi, 0, none⟩)] w (Ret (fun _ : X => .tuple #[]) (fun y => Mem w0 own (Hf stop y))) := by
  have hli := hi.len
  refine calls_of Tryz.func57 rfl rfl (L := [(0, .func (.yield l) #[] #[]), (1, .pointer (some ⟨bk, 0, none⟩)), (2, .pointer (some ⟨bi, 0, none⟩))]) ⟨rfl, rfl, rfl, trivial⟩ (m := 23) (Nat.le_of_ble_eq_true rfl) (M := Mem w0 own (.blk bk (.cells (arr b8 key) 53 (0, 0)) :: .blk bi (.cells (#[.slice ai ni ci]) 22 (0, 0)) :: (Hf 0 x0))) (hm) ?_
  refine wc_seq ?_
  refine wc_region ?_
  refine wl_y (y_assign rfl) ?_
  refine wl_nil ?_
  refine aq_seq ?_
  refine wc_seq ?_
  refine wc_region ?_
  refine wl_y (y_assign rfl) ?_
  refine wl_nil ?_
  refine aq_seq ?_
  refine wc_block ?_
  refine wc_mem (fun _ h => h.nilsl 56 1) ?_
  refine wc_loop (γ := Nat × X × Option Addr × Nat) (fun ⟨j, x, ad, cp⟩ => [(0, .func (.yield l) #[] #[]), (1, .pointer (some ⟨bk, 0, none⟩)), (2, .pointer (some ⟨bi, 0, none⟩)), (4, .slice ad (tN j) cp), (5, b8 ((UInt8.ofNat (j + 1))))]) (fun ⟨j, x, ad, cp⟩ => Mem w0 own (.sl ad (tN j) cp 56 1 ((tF key li ni j).map b8) :: .blk bk (.cells (arr b8 key) 53 (0, 0)) :: .blk bi (.cells (#[.slice ai ni ci]) 22 (0, 0)) :: (Hf j x))) (fun ⟨j, x, ad, cp⟩ => (j < stop)) (fun ⟨j, x, ad, cp⟩ => stop - j) (⟨0, x0, none, 0⟩) ?_ ⟨rfl, rfl, rfl, rfl, rfl, trivial⟩ (fun _ h => h) ?_
  · omega
  · rintro ⟨j, x, ad, cp⟩ hj
    change j < stop at hj
    have htn := tN_le j
    have htl := tF_len key li ni j
    refine wc_seq ?_
    refine wc_seq ?_
    refine wc_region ?_
    refine wl_y (y_move rfl) ?_
    refine wl_y (y_bin rfl rfl (gtr_u8 (UInt8.ofNat (j + 1)) 0)) ?_
    refine wl_nil ?_
    refine aq_seq ?_
    have hd1 : (decide ((UInt8.ofNat (j + 1)) > 0)) = true := by exact u8_pos (by omega)
    refine wc_then' rfl hd1 ?_
    refine wc_skip ?_
    refine aq_seq ?_
    refine wc_seq ?_
    refine wc_block ?_
    refine wc_seq ?_
    refine wc_region ?_
    refine wl_y (y_loadall ag53 rfl (i := 1) rfl (by first | (simp; done) | (simp [*]; done) | (simp; omega) | rfl)) ?_
    refine wl_y (y_move rfl) ?_
    refine wl_y (y_load sc22 rfl (c_blk (i := 2) rfl rfl)) ?_
    refine wl_y (y_move rfl) ?_
    refine wl_eff (e_buildSlice (len := 1) [b8 ((UInt8.ofNat (j + 1)))] sl22 el5 rfl rfl rfl (by simp [Value.cells]) (by decide) [b8 ((UInt8.ofNat (j + 1)))] rfl) rfl trivial rfl ?_
    intro b1
    refine wl_eff (e_buildSlice (len := 3) [.slice ad (tN j) cp, .slice ai ni ci, .slice (some ⟨b1, 0, none⟩) 1 1] sl50 el22 rfl rfl rfl (by simp [Value.cells]) (by decide) [.slice ad (tN j) cp, .slice ai ni ci, .slice (some ⟨b1, 0, none⟩) 1 1] rfl) rfl trivial rfl ?_
    intro b2
    refine wl_eff (e_call0 cf58 rfl (fun w m => mac_ok w key (some ⟨b2, 0, none⟩) 3 3 ([(ad, (tN j), cp, (tF key li ni j)), (ai, ni, ci, li), ((some ⟨b1, 0, none⟩), 1, 1, ([(UInt8.ofNat (j + 1))] : List UInt8))] : List Pc) (by first | omega | (simp; done) | (simp [*]; done) | (simp; omega)) ((m.rd_sl (i := 0) rfl : Rd _ _ 3 1 (([(ad, (tN j), cp, (tF key li ni j)), (ai, ni, ci, li), ((some ⟨b1, 0, none⟩), 1, 1, ([(UInt8.ofNat (j + 1))] : List UInt8))] : List Pc).map pv))) (List.forall_mem_cons.2 ⟨(m.rd_sl (i := 2) rfl : Rd _ _ (tN j) 1 ((tF key li ni j).map b8)), (List.forall_mem_cons.2 ⟨m.rd hi hio, (List.forall_mem_cons.2 ⟨(m.rd_sl (i := 1) rfl : Rd _ _ 1 1 (([(UInt8.ofNat (j + 1))] : List UInt8).map b8)), (fun _ h => nomatch h)⟩)⟩)⟩) (by omega) (by show (((0 + (tN j)) + ni) + 1) ≤ _; omega))) rfl trivial rfl ?_
    intro _
    refine wl_eff (e_alloc (cs := arr b8 (List.replicate 32 0)) zn56) rfl trivial rfl ?_
    intro b3
    refine wl_eff (e_storeall sz56 rfl rfl (i := 0) rfl (by first | (simp; done) | (simp [*]; done) | (simp; omega) | rfl) (by first | (simp; done) | (simp [*]; done) | (simp; omega) | rfl) (arr_one _) rfl) rfl trivial rfl ?_
    intro _
    refine wl_nil ?_
    refine aq_seq ?_
    refine wc_seq ?_
    refine wc_seq ?_
    refine wc_region ?_
    refine wl_y (y_move rfl) ?_
    refine wl_y (y_loadall ag56 rfl (i := 0) rfl (by first | (simp; done) | (simp [*]; done) | (simp; omega) | rfl)) ?_
    refine wl_eff (e_yieldS [_, _, _, _, _, _] (Hf j x) rfl rfl rfl (fun w m => hY j x w _ (by omega) m)) rfl trivial rfl ?_
    intro y4
    refine wl_y (y_not rfl) ?_
    refine wl_nil ?_
    refine aq_seq ?_
    refine wc_if rfl (fun hc2 => ?_) (fun hc2 => ?_)
    · have hb2 : ¬ (j + 1 < stop) := by simpa using hc2
      have hje : j + 1 = stop := by omega
      refine wc_ret ?_
      refine aq_thru_ret ?_
      refine aq_blk_ret ?_
      refine aq_thru_ret ?_
      refine aq_thru_ret ?_
      refine aq_blk_ret ?_
      refine aq_return (.inl rfl) rfl (rfl) ?_
      intro w' m
      exact ⟨y4, rfl, hje ▸ Mem.right (A := [_, _, _, _, _, _]) (B := Hf (j + 1) y4) m⟩
    · have hb2 : j + 1 < stop := by simpa using hc2
      have hjs : j + 1 < stop := hb2
      refine wc_skip ?_
      refine aq_seq ?_
      refine wc_region ?_
      refine wl_y (y_slice_ar0 ar56 sz5 rfl 32 rfl rfl (by omega)) ?_
      refine wl_y (y_assign rfl) ?_
      refine wl_nil ?_
      refine aq_blk_normal ?_
      refine aq_seq ?_
      refine wc_region ?_
      refine wl_y (y_move rfl) ?_
      refine wl_y (y_bin rfl rfl (add_u8 (UInt8.ofNat (j + 1)) 1)) ?_
      refine wl_re (t := 10) (v' := b8 ((UInt8.ofNat (j + 1 + 1)))) rfl (congrArg b8 (u8_succ j)) ?_
      refine wl_y (y_assign rfl) ?_
      refine wl_nil ?_
      refine aq_mem (fun _ h_ => Mem.blk_sl (n := 32) (xs := tF key li ni (j + 1)) (by simp [tF]) (by decide) h_) ?_
      refine aq_loop (⟨j + 1, y4, (some ⟨b3, 0, none⟩), (tN (j + 1))⟩) ?_ ?_ ⟨rfl, rfl, rfl, rfl, rfl, trivial⟩ (fun _ h => (Mem.pickT (A := [_, _, _, _, _, _]) (B := (Hf (j + 1) y4)) h (is := [0, 4, 5]) ⟨_, _, rfl, rfl, ⟨_, _, rfl, rfl, ⟨_, _, rfl, rfl, rfl⟩⟩⟩ (by decide)))
      · omega
      · first | omega | (dsimp only; omega)

theorem sums_ok (w : World) (key : List UInt8) (ai : Option Addr) (ni ci : Nat) (li : List UInt8) :
    Calls Tryz.prog 16 #[.agg (arr b8 key), .slice ai ni ci] w (Ret (fun y : Nat × Nat => .func (.func 57) #[] #[.pointer (some ⟨y.1, 0, none⟩), .pointer (some ⟨y.2, 0, none⟩)]) (fun y => Mem w [] [.blk y.1 (.cells (arr b8 key) 53 (0, 0)), .blk y.2 (.cells #[.slice ai ni ci] 22 (0, 0))])) := by
  refine calls_of Tryz.func16 rfl rfl (L := [(0, .agg (arr b8 key)), (1, .slice ai ni ci)]) ⟨rfl, rfl, trivial⟩ (m := 6) (Nat.le_of_ble_eq_true rfl) (M := Mem w [] []) (Mem.refl w) ?_
  refine wc_seq ?_
  refine wc_region ?_
  refine wl_eff (e_box (cs := arr b8 key) rfl) rfl trivial rfl ?_
  intro b1
  refine wl_eff (e_box (cs := #[.slice ai ni ci]) rfl) rfl trivial rfl ?_
  intro b2
  refine wl_y (y_assign rfl) ?_
  refine wl_nil ?_
  refine aq_seq ?_
  refine wc_seq ?_
  refine wc_region ?_
  refine wl_y (y_makeFunc rfl rfl) ?_
  refine wl_y (y_assign rfl) ?_
  refine wl_nil ?_
  refine aq_seq ?_
  refine wc_ret ?_
  refine aq_return (.inl rfl) rfl (⟨_, _, rfl, rfl, rfl⟩) ?_
  intro w' m
  exact ⟨(b1, b2), rfl, (Mem.pick m (is := [1, 0]) ⟨_, _, rfl, rfl, ⟨_, _, rfl, rfl, rfl⟩⟩ (by decide))⟩

theorem expand_ok (w : World) (ak ai : Option Addr) (nk ck ni ci : Nat) (lk li : List UInt8) (n : Nat) (hk : Rd w ak nk 1 (lk.map b8)) (hi : Rd w ai ni 1 (li.map b8)) (hck : nk ≤ ck) (hn : n ≤ 9223372036854775807) :
    Calls Tryz.prog 7 #[.slice ak nk ck, .slice ai ni ci, ki ((n : Int))] w (Ret (fun r : Option Addr × Nat => .tuple #[.slice r.1 (exN nk ni n) r.2, ki (exE nk ni n : Nat)]) (fun r => Mem w [] [.sl r.1 (exN nk ni n) r.2 5 1 ((exO lk nk li ni n).map b8)])) := by
  have hlk := hk.len
  have hli := hi.len
  have hkl := keyF_len hlk
  refine calls_ofM Tryz.func7 rfl rfl (L := [(0, .slice ak nk ck), (1, .slice ai ni ci), (2, ki ((n : Int)))]) ⟨rfl, rfl, rfl, trivial⟩ (m := 47) (Nat.le_of_ble_eq_true rfl) (M := Mem w [] []) (Mem.refl w) ?_
  refine wc_seq ?_
  refine wc_region ?_
  refine wl_eff (e_box (cs := #[ki ((n : Int))]) rfl) rfl trivial rfl ?_
  intro b1
  refine wl_y (y_assign rfl) ?_
  refine wl_y (y_assign rfl) ?_
  refine wl_nil ?_
  refine aq_seq ?_
  refine wc_seq ?_
  refine wc_block ?_
  refine wc_seq ?_
  refine wc_region ?_
  refine wl_y (y_load sc3 rfl (c_blk (i := 0) rfl rfl)) ?_
  refine wl_y (y_bin rfl rfl lss_i64) ?_
  refine wl_re (t := 12) (v' := kb (false)) rfl (congrArg kb (decide_eq_false (by omega))) ?_
  refine wl_y (y_move rfl) ?_
  refine wl_y (y_load sc3 rfl (c_blk (i := 0) rfl rfl)) ?_ (hg := ⟨_, rfl, rfl⟩)
  refine wl_y (y_bin rfl rfl gtr_i64) ?_ (hg := ⟨_, rfl, rfl⟩)
  refine wl_y (y_pick (b := false) rfl rfl) ?_
  refine wl_y (y_assign rfl) ?_
  refine wl_nil ?_
  refine aq_seq ?_
  refine wc_if rfl (fun hc1 => ?_) (fun hc1 => ?_)
  · have hb1 : (n : Int) > 8160 := by simpa using hc1
    have he := exE_1 (nk := nk) (ni := ni) (n := n) (by omega)
    refine wc_seq ?_
    refine wc_region ?_
    refine wl_y (y_assign rfl) ?_
    refine wl_y (y_assign rfl) ?_
    refine wl_nil ?_
    refine aq_seq ?_
    refine wc_ret ?_
    refine aq_blk_ret ?_
    refine aq_thru_ret ?_
    refine aq_returnM0 (.inl rfl) rfl (⟨_, _, rfl, rfl, ⟨_, _, rfl, rfl, rfl⟩⟩) ?_
    intro w' m
    rw [exN, exO, he]
    exact ⟨(none, 0), rfl, (m.pick (is := []) rfl List.nodup_nil).nilsl 5 1⟩
  · have hb1 : ¬ ((n : Int) > 8160) := by simpa using hc1
    refine wc_seq ?_
    refine wc_region ?_
    refine wl_y (y_move rfl) ?_
    refine wl_y (y_len_sl sl22 (m := nk) rfl rfl) ?_
    refine wl_y (y_bin rfl rfl gtr_i64) ?_
    refine wl_bool (t := 20) rfl (fun hs15 => ?_) (fun hs15 => ?_)
    · have hb15 : (nk : Int) > 1048576 := by simpa using hs15
      have he := exE_3 (nk := nk) (ni := ni) (n := n) (by omega) (.inl (by omega))
      refine wl_y (y_move rfl) ?_
      refine wl_off ⟨_, _, rfl, rfl, .inl rfl⟩ rfl ?_
      refine wl_off ⟨_, _, rfl, rfl, .inl rfl⟩ rfl ?_
      refine wl_off ⟨_, _, rfl, rfl, .inl rfl⟩ rfl ?_
      refine wl_y (y_pick (b := true) rfl rfl) ?_
      refine wl_y (y_assign rfl) ?_
      refine wl_nil ?_
      refine aq_seq ?_
      refine wc_then rfl ?_
      refine wc_seq ?_
      refine wc_region ?_
      refine wl_y (y_assign rfl) ?_
      refine wl_y (y_assign rfl) ?_
      refine wl_nil ?_
      refine aq_seq ?_
      refine wc_ret ?_
      refine aq_blk_ret ?_
      refine aq_thru_ret ?_
      refine aq_returnM0 (.inl rfl) rfl (⟨_, _, rfl, rfl, ⟨_, _, rfl, rfl, rfl⟩⟩) ?_
      intro w' m
      rw [exN, exO, he]
      exact ⟨(none, 0), rfl, (m.pick (is := []) rfl List.nodup_nil).nilsl 5 1⟩
    · have hb15 : ¬ ((nk : Int) > 1048576) := by simpa using hs15
      refine wl_y (y_move rfl) ?_
      refine wl_y (y_move rfl) ?_ (hg := ⟨_, rfl, rfl⟩)
      refine wl_y (y_len_sl sl22 (m := ni) rfl rfl) ?_ (hg := ⟨_, rfl, rfl⟩)
      refine wl_y (y_bin rfl rfl gtr_i64) ?_ (hg := ⟨_, rfl, rfl⟩)
      refine wl_y (y_pick (b := false) rfl rfl) ?_
      refine wl_y (y_assign rfl) ?_
      refine wl_nil ?_
      refine aq_seq ?_
      refine wc_if rfl (fun hc2 => ?_) (fun hc2 => ?_)
      · have hb2 : (ni : Int) > 1048479 := by simpa using hc2
        have he := exE_3 (nk := nk) (ni := ni) (n := n) (by omega) (.inr (by omega))
        refine wc_seq ?_
        refine wc_region ?_
        refine wl_y (y_assign rfl) ?_
        refine wl_y (y_assign rfl) ?_
        refine wl_nil ?_
        refine aq_seq ?_
        refine wc_ret ?_
        refine aq_blk_ret ?_
        refine aq_thru_ret ?_
        refine aq_returnM0 (.inl rfl) rfl (⟨_, _, rfl, rfl, ⟨_, _, rfl, rfl, rfl⟩⟩) ?_
        intro w' m
        rw [exN, exO, he]
        exact ⟨(none, 0), rfl, (m.pick (is := []) rfl List.nodup_nil).nilsl 5 1⟩
      · have hb2 : ¬ ((ni : Int) > 1048479) := by simpa using hc2
        have he := exE_0 (nk := nk) (ni := ni) (n := n) (by omega) (by omega) (by omega)
        refine wc_seq ?_
        refine wc_region ?_
        refine wl_y (y_load sc3 rfl (c_blk (i := 0) rfl rfl)) ?_
        refine wl_y (y_bin rfl rfl eql_i64) ?_
        refine wl_y (y_assign rfl) ?_
        refine wl_nil ?_
        refine aq_seq ?_
        refine wc_if rfl (fun hc3 => ?_) (fun hc3 => ?_)
        · have hb3 : (n : Int) = 0 := by simpa using hc3
          have hn0 : n = 0 := by omega
          subst hn0
          refine wc_seq ?_
          refine wc_region ?_
          refine wl_y (y_assign rfl) ?_
          refine wl_y (y_assign rfl) ?_
          refine wl_nil ?_
          refine aq_seq ?_
          refine wc_ret ?_
          refine aq_blk_ret ?_
          refine aq_thru_ret ?_
          refine aq_returnM0 (.inl rfl) rfl (⟨_, _, rfl, rfl, ⟨_, _, rfl, rfl, rfl⟩⟩) ?_
          intro w' m
          rw [exN, exO, he]
          exact ⟨(none, 0), rfl, (m.pick (is := []) rfl List.nodup_nil).nilsl 5 1⟩
        · have hb3 : ¬ ((n : Int) = 0) := by simpa using hc3
          refine wc_skip ?_
          refine aq_blk_normal ?_
          refine aq_seq ?_
          refine wc_seq ?_
          refine wc_region ?_
          refine wl_eff (e_alloc (cs := #[.slice none 0 0]) zn22) rfl trivial rfl ?_
          intro b2
          refine wl_nil ?_
          refine aq_seq ?_
          refine wc_seq ?_
          refine wc_seq ?_
          refine wc_region ?_
          refine wl_y (y_move rfl) ?_
          refine wl_eff (e_call0 cf15 rfl (fun w m => hof_ok w ak nk ck lk (m.rd0 hk) (by omega) (by omega))) rfl trivial rfl ?_
          intro _
          refine wl_y (y_move rfl) ?_
          refine wl_eff (e_call0 cf16 rfl (fun w m => sums_ok w (keyF lk nk) ai ni ci li)) rfl trivial rfl ?_
          intro ⟨bk, bi⟩
          refine wl_nil ?_
          refine aq_seq ?_
          refine wc_block ?_
          refine wc_range1 (α := (Option Addr × Nat)) (fun _ => .tuple #[]) (fun bd bl rec y => [.blk bl (rec (if ((n + 31) / 32) < ((n + 31) / 32) then .ready else .done) (if ((n + 31) / 32) < ((n + 31) / 32) then none else some (.exit 1))), .blk bd (.deferred (some [])), .blk b2 (.cells (#[.slice y.1 (lnE n ((n + 31) / 32)) y.2]) 22 (0, 0)), .sl y.1 (lnE n ((n + 31) / 32)) y.2 5 1 ((exTo (keyF lk nk) li ni n ((n + 31) / 32)).map b8), .blk b1 (.cells (#[ki ((n : Int))]) 3 (0, 0))]) (fun bd bl rec y => [.blk bl (rec (.exhausted) (some (.exit 1))), .blk bd (.deferred (some [])), .blk b2 (.cells (#[.slice y.1 (lnE n ((n + 31) / 32)) y.2]) 22 (0, 0)), .sl y.1 (lnE n ((n + 31) / 32)) y.2 5 1 ((exTo (keyF lk nk) li ni n ((n + 31) / 32)).map b8), .blk b1 (.cells (#[ki ((n : Int))]) 3 (0, 0))]) (.exit 1) 0 rfl cf57 ?_ (fun bd bl rec y => by simp) (fun bd bl rec y => rfl) ?_
          · intro bd bl tm fn rec w1 hrec hkept m1
            have m1p := (Mem.pick m1 (is := [2, 3, 0, 1, 4, 5]) ⟨_, _, rfl, rfl, ⟨_, _, rfl, rfl, ⟨_, _, rfl, rfl, ⟨_, _, rfl, rfl, ⟨_, _, rfl, rfl, ⟨_, _, rfl, rfl, rfl⟩⟩⟩⟩⟩⟩ (by decide))
            have hz0 : 0 < (n + 31) / 32 := by omega
            refine sums1_ok (X := Option Addr × Nat) w w1 [] bl bk bi (keyF lk nk) ai ni ci li hkl hi (fun _ _ _ => by simp) (by omega) ((n + 31) / 32) hz0 (by omega) (fun (j : Nat) (x : Option Addr × Nat) => [.blk bl (rec (if j < ((n + 31) / 32) then .ready else .done) (if j < ((n + 31) / 32) then none else some (.exit 1))), .blk bd (.deferred (some [])), .blk b2 (.cells (#[.slice x.1 (lnE n j) x.2]) 22 (0, 0)), .sl x.1 (lnE n j) x.2 5 1 ((exTo (keyF lk nk) li ni n j).map b8), .blk b1 (.cells (#[ki ((n : Int))]) 3 (0, 0))]) (none, 0) ?_ ?_
            · simp only [if_pos hz0]
              exact (m1p.nilsl 5 1).pick (is := [1, 2, 3, 4, 5, 0, 6]) ⟨_, _, rfl, rfl, ⟨_, _, rfl, rfl, ⟨_, _, rfl, rfl, ⟨_, _, rfl, rfl, ⟨_, _, rfl, rfl, ⟨_, _, rfl, rfl, ⟨_, _, rfl, rfl, rfl⟩⟩⟩⟩⟩⟩⟩ (by decide)
            intro j x w2 A hj m2
            simp only [if_pos hj] at m2
            subst hrec
            refine yields_of m2 (i := 0) rfl rfl (hkept.set1 rfl _) ?_
            have hln := lnE_eq n j
            have htl := tF_len (keyF lk nk) li ni (j + 1)
            have htn : tN (j + 1) = 32 := rfl
            refine wc_region ?_
            refine wl_eff (e_alloc (cs := arr b8 (List.replicate 32 0)) zn56) rfl trivial rfl ?_
            intro b3
            refine wl_eff (e_storeall sz56 rfl rfl (i := 0) rfl (by first | (simp; done) | (simp [*]; done) | (simp; omega) | rfl) (by first | (simp; done) | (simp [*]; done) | (simp; omega) | rfl) (arr_one _) rfl) rfl trivial rfl ?_
            intro _
            refine wl_nil ?_
            refine aq_begin (i := 1) rfl rfl ⟨_, rfl, rfl⟩ ?_
            refine wc_block ?_
            refine wc_seq ?_
            refine wc_drawM [(0, .q), (1, .q), (2, .q), (3, .q), (4, .q), (5, .q), (6, .q), (7, .b), (8, .l)] (by kernel_rfl) (by kernel_rfl) Mem.closed ?_
            refine wp_q rfl Mem.closed (fun _ h => h) Mem.closed rfl (q_of_yld (y_load sc22 rfl (c_blk (i := 3) rfl rfl))) trivial ?_
            refine wp_q rfl Mem.closed (fun _ h => h) Mem.closed rfl (q_of_yld (y_load sc3 rfl (c_blk (i := 5) rfl rfl))) trivial ?_
            refine wp_q rfl Mem.closed (fun _ h => h) Mem.closed rfl (q_of_yld (y_load sc22 rfl (c_blk (i := 3) rfl rfl))) trivial ?_
            refine wp_q rfl Mem.closed (fun _ h => h) Mem.closed rfl (q_of_yld (y_len_sl sl22 (m := (lnE n j)) rfl rfl)) trivial ?_
            refine wp_q rfl Mem.closed (fun _ h => h) Mem.closed rfl (q_of_yld (y_bin rfl rfl (subn_i64 (a := n) (b := (lnE n j)) (by omega) (by omega)))) trivial ?_
            refine wp_q rfl Mem.closed (fun _ h => h) Mem.closed rfl (q_of_yld (y_min2n (a := 32) (b := (n - (lnE n j))) rfl rfl)) trivial ?_
            refine wp_q rfl Mem.closed (fun _ h => h) Mem.closed rfl (q_of_yld (y_slice_ar0 ar56 sz5 rfl (min 32 (n - (lnE n j))) ⟨_, _, rfl, by first | rfl | omega⟩ rfl (by omega))) trivial ?_
            refine wp_b rfl rfl rfl (e_appendm (f := b8) (xs := (exTo (keyF lk nk) li ni n j)) (news := ((((tF (keyF lk nk) li ni (j + 1)) : List UInt8).drop 0).take (min 32 (n - (lnE n j))))) sl22 el5 rfl rfl rfl rfl (i := 4) rfl (fun w m => (m.rd_arrl (f := b8) (xs := (tF (keyF lk nk) li ni (j + 1))) (i := 0) rfl 0 (min 32 (n - (lnE n j))) (by first | omega | (simp; done) | (simp [*]; done) | (simp; omega)))) (by omega) (by omega) ((lnE n j) + (min 32 (n - (lnE n j)))) (by first | rfl | omega) (by first | rfl | simp) (fun _ => ⟨_, rfl, ⟨_, rfl, ⟨_, rfl, ⟨_, rfl, rfl⟩⟩⟩⟩)) trivial (fun _ => Mem.closed) ?_
            intro r4
            refine wp_l rfl rfl rfl (e_store1 sz22 rfl rfl (i := 3) rfl rfl (by first | decide | simp) ⟨_, rfl, ⟨_, rfl, ⟨_, rfl, rfl⟩⟩⟩) trivial ?_
            intro _
            refine aq_seq ?_
            refine wc_seq ?_
            refine wc_region ?_
            refine wl_y (y_load sc22 rfl (c_blk (i := 3) rfl rfl)) ?_
            refine wl_y (y_len_sl sl22 (m := ((lnE n j) + (min 32 (n - (lnE n j))))) rfl rfl) ?_
            refine wl_y (y_load sc3 rfl (c_blk (i := 5) rfl rfl)) ?_
            refine wl_y (y_bin rfl rfl eql_i64) ?_
            refine wl_nil ?_
            refine aq_seq ?_
            refine wc_if rfl (fun hc4 => ?_) (fun hc4 => ?_)
            · have hb4 : (((lnE n j) + (min 32 (n - (lnE n j))) : Nat) : Int) = (n : Int) := by simpa using hc4
              refine wc_exit ?_
              refine aq_blk_ne (by decide) ?_
              refine aq_round_exit (i := 1) rfl ⟨_, rfl, rfl⟩ ?_
              intro w3 m3
              have hge : ¬ (j + 1 < ((n + 31) / 32)) := by omega
              refine ⟨r4, by simp [hge], ?_⟩
              simp only [if_neg hge]
              exact (Mem.pickT (A := [_, _, _, _, _, _]) (B := A) m3 (is := [1, 2, 3, 4, 5]) ⟨_, _, rfl, rfl, ⟨_, _, rfl, rfl, ⟨_, _, rfl, rfl, ⟨_, _, rfl, rfl, ⟨_, _, rfl, rfl, rfl⟩⟩⟩⟩⟩ (by decide))
            · have hb4 : ¬ ((((lnE n j) + (min 32 (n - (lnE n j))) : Nat) : Int) = (n : Int)) := by simpa using hc4
              refine wc_skip ?_
              refine aq_blk_normal ?_
              refine aq_round_next (i := 1) rfl ⟨_, rfl, rfl⟩ ?_
              intro w3 m3
              have hlt : j + 1 < ((n + 31) / 32) := by omega
              refine ⟨r4, by simp [hlt], ?_⟩
              simp only [if_pos hlt]
              exact (Mem.pickT (A := [_, _, _, _, _, _]) (B := A) m3 (is := [1, 2, 3, 4, 5]) ⟨_, _, rfl, rfl, ⟨_, _, rfl, rfl, ⟨_, _, rfl, rfl, ⟨_, _, rfl, rfl, ⟨_, _, rfl, rfl, rfl⟩⟩⟩⟩⟩ (by decide))
          · intro bd bl rec y
            refine wc_exit ?_
            refine aq_blk_exit ?_
            refine aq_seq ?_
            refine wc_seq ?_
            refine wc_region ?_
            refine wl_y (y_load sc22 rfl (c_blk (i := 2) rfl rfl)) ?_
            refine wl_y (y_assign rfl) ?_
            refine wl_y (y_assign rfl) ?_
            refine wl_nil ?_
            refine aq_seq ?_
            refine wc_ret ?_
            refine aq_returnM1 (.inl rfl) (i := 1) rfl ⟨_, rfl, rfl⟩ rfl (⟨_, _, rfl, rfl, ⟨_, _, rfl, rfl, rfl⟩⟩) ?_
            intro w' m
            rw [exN, exO, he]
            exact ⟨y, rfl, (Mem.pick m (is := [3]) ⟨_, _, rfl, rfl, rfl⟩ (by decide))⟩

end Go.Proofs.YtjibkjoaamchoaaGreatDoor
