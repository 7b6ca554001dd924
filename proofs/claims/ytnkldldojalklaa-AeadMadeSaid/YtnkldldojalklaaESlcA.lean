/- Lemmas and contracts for the proof of this seat's statements (SlcA). No condition. -/
import Derived.Test.YtnkldldojalklaaEPar2
import Derived.Test.YtnkldldojalklaaProg
import Derived.KernelRfl
set_option linter.all false
namespace Go.Proofs.Ytnkldldojalklaa
open Go.Mc
private theorem sl22 : slB Try.prog 22 5 = true := by kernel_rfl
private theorem el5 : elB Try.prog 5 1 1 (b8 (0)) := elB_of (by kernel_rfl) (by kernel_rfl) (by unfold znB; kernel_rfl)
private theorem sc22 : scB Try.prog 22 = true := by kernel_rfl
private theorem sc3 : scB Try.prog 3 = true := by kernel_rfl
private theorem sz5 : szB Try.prog 5 1 = true := by kernel_rfl
theorem rd_none {w : World} {n : Nat} {xs : List UInt8} (h : Rd w none n 1 (xs.map b8)) : xs = [] := by
  cases xs with
  | nil => rfl
  | cons x xs => exact absurd (h.2 0 (b8 x) rfl).1 (by simp)

theorem clone_ok (w : World) (ad : Option Addr) (n c : Nat) (xs : List UInt8) (hx : Rd w ad n 1 (xs.map b8)) (hn : n ≤ 70368744177664) :
    Calls Try.prog 22 #[.slice ad n c] w (Ret (fun r : Option Addr × Nat => .slice r.1 n r.2) (fun r => Mem w [] [.sl r.1 n r.2 5 1 (xs.map b8)])) := by
  have hxl := hx.len
  refine calls_of Try.func22 rfl rfl (L := [(0, .slice ad n c)]) ⟨rfl, trivial⟩ (m := 8) (Nat.le_of_ble_eq_true rfl) (M := Mem w [] []) (Mem.refl w) ?_
  refine wc_seq ?_
  refine wc_region ?_
  refine wl_y (y_assign rfl) ?_
  refine wl_nil ?_
  refine aq_seq ?_
  refine wc_seq ?_
  refine wc_seq ?_
  refine wc_region ?_
  refine wl_y (y_move rfl) ?_
  refine wl_y (y_eqnil sl22 rfl) ?_
  refine wl_nil ?_
  refine aq_seq ?_
  refine wc_if rfl (fun hc1 => ?_) (fun hc1 => ?_)
  · have hb1 : ad.isNone = true := by simpa using hc1
    obtain rfl := Option.isNone_iff_eq_none.1 hc1
    have hxs : xs = [] := rd_none hx
    subst hxs
    have hn0 : n = 0 := by simpa using hxl.symm
    subst hn0
    refine wc_seq ?_
    refine wc_region ?_
    refine wl_y (y_assign rfl) ?_
    refine wl_nil ?_
    refine aq_seq ?_
    refine wc_ret ?_
    refine aq_thru_ret ?_
    refine aq_return (.inl rfl) rfl (⟨_, _, rfl, rfl, rfl⟩) ?_
    intro w' m
    exact ⟨(none, 0), rfl, m.nilsl 5 1⟩
  · have hb1 : ad.isNone = false := by simpa using hc1
    refine wc_skip ?_
    refine aq_seq ?_
    refine wc_seq ?_
    refine wc_region ?_
    refine wl_eff (e_buildSlice (len := 0) [] sl22 el5 rfl rfl rfl (by simp [Value.cells]) (by decide) [] rfl) rfl trivial rfl ?_
    intro b1
    refine wl_y (y_move rfl) ?_
    refine wl_eff (e_appendm (f := b8) (xs := ([] : List UInt8)) (news := xs) sl22 el5 rfl rfl rfl rfl (i := 0) rfl (fun w m => m.rd0 hx) (by omega) (by omega) n (by first | rfl | omega) (by first | rfl | simp) (fun _ => rfl)) rfl trivial rfl ?_
    intro r2
    refine wl_y (y_assign rfl) ?_
    refine wl_nil ?_
    refine aq_seq ?_
    refine wc_ret ?_
    refine aq_return (.inl rfl) rfl (⟨_, _, rfl, rfl, rfl⟩) ?_
    intro w' m
    exact ⟨r2, rfl, m.pick (is := [0]) ⟨_, _, rfl, rfl, rfl⟩ (by decide)⟩

theorem chunk1_ok {X : Type} (w0 w : World) (own : List Nat) (l bs bn : Nat) (ab : Option Addr) (nb cb : Nat) (hc : nb ≤ cb) (hnb : nb ≤ 70368744177664) (Hf : Nat → X → List Ch) (x0 : X) (hm : Mem w0 own (.blk bs (.cells (#[.slice ab nb cb]) 22 (0, 0)) :: .blk bn (.cells (#[ki (16)]) 3 (0, 0)) :: Hf 0 x0) w) (hY : ∀ j x w', 16 * j < nb → Mem w0 own (.blk bs (.cells (#[.slice ab nb cb]) 22 (0, 0)) :: .blk bn (.cells (#[ki (16)]) 3 (0, 0)) :: Hf j x) w' → Go.Mc.Yields Try.prog l [.slice (sub ab (min 16 (nb - 16 * j)) (16 * j)) (min 16 (nb - 16 * j)) (min 16 (nb - 16 * j))] w' (Ret (fun _ : X => kb true) (fun x' => Mem w0 own (.blk bs (.cells (#[.slice ab nb cb]) 22 (0, 0)) :: .blk bn (.cells (#[ki (16)]) 3 (0, 0)) :: Hf (j + 1) x')))) :
    Calls Try.prog 42 #[.func (.yield l) #[] #[], .pointer (some ⟨bs, 0, none⟩), .pointer (some ⟨bn, 0, none⟩)] w (Ret (fun _ : X => .tuple #[]) (fun y => Mem w0 own (.blk bs (.cells (#[.slice ab nb cb]) 22 (0, 0)) :: .blk bn (.cells (#[ki (16)]) 3 (0, 0)) :: Hf ((nb + 15) / 16) y))) := by
  refine calls_of Try.func42 rfl rfl (L := [(0, .func (.yield l) #[] #[]), (1, .pointer (some ⟨bs, 0, none⟩)), (2, .pointer (some ⟨bn, 0, none⟩))]) ⟨rfl, rfl, rfl, trivial⟩ (m := 31) (Nat.le_of_ble_eq_true rfl) (M := Mem w0 own (.blk bs (.cells (#[.slice ab nb cb]) 22 (0, 0)) :: .blk bn (.cells (#[ki (16)]) 3 (0, 0)) :: (Hf 0 x0))) (hm) ?_
  refine wc_seq ?_
  refine wc_region ?_
  refine wl_y (y_assign rfl) ?_
  refine wl_nil ?_
  refine aq_seq ?_
  refine wc_block ?_
  refine wc_loop (γ := Nat × X) (fun ⟨j, x⟩ => [(0, .func (.yield l) #[] #[]), (1, .pointer (some ⟨bs, 0, none⟩)), (2, .pointer (some ⟨bn, 0, none⟩)), (4, ki (((16 * j : Nat) : Int)))]) (fun ⟨j, x⟩ => Mem w0 own (.blk bs (.cells (#[.slice ab nb cb]) 22 (0, 0)) :: .blk bn (.cells (#[ki (16)]) 3 (0, 0)) :: (Hf j x))) (fun ⟨j, x⟩ => (16 * j < nb + 16)) (fun ⟨j, x⟩ => nb + 16 - 16 * j) (⟨0, x0⟩) ?_ ⟨rfl, rfl, rfl, rfl, trivial⟩ (fun _ h => h) ?_
  · omega
  · rintro ⟨j, x⟩ hj
    change 16 * j < nb + 16 at hj
    refine wc_seq ?_
    refine wc_seq ?_
    refine wc_region ?_
    refine wl_y (y_move rfl) ?_
    refine wl_y (y_load sc22 rfl (c_blk (i := 0) rfl rfl)) ?_
    refine wl_y (y_len_sl sl22 (m := nb) rfl rfl) ?_
    refine wl_y (y_bin rfl rfl lss_i64) ?_
    refine wl_nil ?_
    refine aq_seq ?_
    refine wc_if rfl (fun hc1 => ?_) (fun hc1 => ?_)
    · have hb1 : ((16 * j : Nat) : Int) < (nb : Int) := by simpa using hc1
      refine wc_skip ?_
      refine aq_seq ?_
      refine wc_seq ?_
      refine wc_block ?_
      refine wc_seq ?_
      refine wc_drawM [(0, .q), (1, .q), (2, .q), (3, .q), (4, .q), (5, .q), (6, .q)] (by kernel_rfl) (by kernel_rfl) Mem.closed ?_
      refine wp_q rfl Mem.closed (fun _ h => h) Mem.closed rfl (q_of_yld (y_load sc3 rfl (c_blk (i := 1) rfl rfl))) trivial ?_
      refine wp_q rfl Mem.closed (fun _ h => h) Mem.closed rfl (q_of_yld (y_load sc22 rfl (c_blk (i := 0) rfl rfl))) trivial ?_
      refine wp_q rfl Mem.closed (fun _ h => h) Mem.closed rfl (q_of_yld (y_move rfl)) trivial ?_
      refine wp_q rfl Mem.closed (fun _ h => h) Mem.closed rfl (q_of_yld (y_slice_slo sl22 sz5 rfl cb nb (16 * j) (16 * j) rfl rfl ⟨_, _, rfl, by first | rfl | omega⟩ (by simp) (by omega) (by omega) (by omega) (by omega))) trivial ?_
      refine wp_q rfl Mem.closed (fun _ h => h) Mem.closed rfl (q_of_yld (y_len_sl sl22 (m := (nb - (16 * j))) rfl rfl)) trivial ?_
      refine wp_q rfl Mem.closed (fun _ h => h) Mem.closed rfl (q_of_yld (y_min2n (a := 16) (b := (nb - (16 * j))) rfl rfl)) trivial ?_
      refine wp_q rfl Mem.closed (fun _ h => h) Mem.closed rfl (q_of_yld (y_assign rfl)) trivial ?_
      refine wp_nil ?_
      refine aq_seq ?_
      refine wc_seq ?_
      refine wc_region ?_
      refine wl_y (y_move rfl) ?_
      refine wl_y (y_load sc22 rfl (c_blk (i := 0) rfl rfl)) ?_
      refine wl_y (y_move rfl) ?_
      refine wl_y (y_move rfl) ?_
      refine wl_y (y_move rfl) ?_
      refine wl_y (y_bin rfl rfl (addn_i64 (a := (16 * j)) (b := (min 16 (nb - (16 * j)))) (by omega))) ?_
      refine wl_y (y_move rfl) ?_
      refine wl_y (y_move rfl) ?_
      refine wl_y (y_bin rfl rfl (addn_i64 (a := (16 * j)) (b := (min 16 (nb - (16 * j)))) (by omega))) ?_
      refine wl_y (y_slice_slo sl22 sz5 rfl ((16 * j) + (min 16 (nb - (16 * j)))) ((16 * j) + (min 16 (nb - (16 * j)))) (16 * j) (16 * j) ⟨_, _, rfl, by first | rfl | omega⟩ ⟨_, _, rfl, by first | rfl | omega⟩ ⟨_, _, rfl, by first | rfl | omega⟩ (by simp) (by omega) (by omega) (by omega) (by omega)) ?_
      refine wl_re (t := 28) (v' := .slice (sub ab (min 16 (nb - 16 * j)) (16 * j)) (min 16 (nb - 16 * j)) (min 16 (nb - 16 * j))) rfl (by simp only [Nat.add_sub_cancel_left, Nat.mul_one]) ?_
      refine wl_eff (e_yield rfl rfl (fun w m => hY j x w (by omega) m)) rfl trivial rfl ?_
      intro x1
      refine wl_y (y_not rfl) ?_
      refine wl_nil ?_
      refine aq_seq ?_
      refine wc_else rfl ?_
      refine wc_skip ?_
      refine aq_blk_normal ?_
      refine aq_seq ?_
      refine wc_region ?_
      refine wl_y (y_move rfl) ?_
      refine wl_y (y_load sc3 rfl (c_blk (i := 1) rfl rfl)) ?_
      refine wl_y (y_bin rfl rfl (addn_i64 (a := (16 * j)) (b := 16) (by omega))) ?_
      refine wl_y (y_assign rfl) ?_
      refine wl_nil ?_
      refine aq_loop (⟨j + 1, x1⟩) ?_ ?_ ⟨rfl, rfl, rfl, rfl, trivial⟩ (fun _ h => h)
      · omega
      · first | omega | (dsimp only; omega)
    · have hb1 : ¬ (((16 * j : Nat) : Int) < (nb : Int)) := by simpa using hc1
      refine wc_exit ?_
      refine aq_thru_exit ?_
      refine aq_thru_exit ?_
      refine aq_blk_exit ?_
      refine aq_return (.inr rfl) rfl (rfl) ?_
      intro w' m
      rw [show j = (nb + 15) / 16 by omega] at m
      exact ⟨x, rfl, m⟩

theorem chunk_ok (w : World) (ab : Option Addr) (nb cb : Nat) :
    Calls Try.prog 39 #[.slice ab nb cb, ki (16)] w (Ret (fun y : Nat × Nat => .func (.func 42) #[] #[.pointer (some ⟨y.1, 0, none⟩), .pointer (some ⟨y.2, 0, none⟩)]) (fun y => Mem w [] [.blk y.1 (.cells (#[.slice ab nb cb]) 22 (0, 0)), .blk y.2 (.cells (#[ki (16)]) 3 (0, 0))])) := by
  refine calls_of Try.func39 rfl rfl (L := [(0, .slice ab nb cb), (1, ki (16))]) ⟨rfl, rfl, trivial⟩ (m := 9) (Nat.le_of_ble_eq_true rfl) (M := Mem w [] []) (Mem.refl w) ?_
  refine wc_seq ?_
  refine wc_region ?_
  refine wl_eff (e_box (cs := #[.slice ab nb cb]) rfl) rfl trivial rfl ?_
  intro b1
  refine wl_eff (e_box (cs := #[ki (16)]) rfl) rfl trivial rfl ?_
  intro b2
  refine wl_y (y_assign rfl) ?_
  refine wl_nil ?_
  refine aq_seq ?_
  refine wc_seq ?_
  refine wc_seq ?_
  refine wc_region ?_
  refine wl_y (y_load sc3 rfl (c_blk (i := 0) rfl rfl)) ?_
  refine wl_y (y_bin rfl rfl (show bin .lss (ki 16) (ki 1) = some (kb false) from rfl)) ?_
  refine wl_nil ?_
  refine aq_seq ?_
  refine wc_else rfl ?_
  refine wc_skip ?_
  refine aq_seq ?_
  refine wc_seq ?_
  refine wc_region ?_
  refine wl_y (y_makeFunc rfl rfl) ?_
  refine wl_y (y_assign rfl) ?_
  refine wl_nil ?_
  refine aq_seq ?_
  refine wc_ret ?_
  refine aq_return (.inl rfl) rfl (⟨_, _, rfl, rfl, rfl⟩) ?_
  intro w' m
  exact ⟨(b1, b2), rfl, m.pick (is := [1, 0]) ⟨_, _, rfl, rfl, ⟨_, _, rfl, rfl, rfl⟩⟩ (by decide)⟩

end Go.Proofs.Ytnkldldojalklaa
