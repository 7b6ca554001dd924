/- Lemmas and contracts for the proof of this seat's statements (Sha3F). No condition. -/
import Derived.Test.YtjibkjoaamchoaaGreatDoorEBk
import Derived.Test.YtjibkjoaamchoaaGreatDoorProg
import Derived.KernelRfl
import Derived.Test.YtjibkjoaamchoaaGreatDoorEPlaA
import Derived.Test.YtjibkjoaamchoaaGreatDoorESha2F
set_option linter.all false
namespace Go.Proofs.YtjibkjoaamchoaaGreatDoor
open Go.Mc
private theorem sc22 : scB Tryz.prog 22 = true := by kernel_rfl
private theorem sl22 : slB Tryz.prog 22 5 = true := by kernel_rfl
private theorem us3 : (Tryz.prog.underlying 3).isSome = true := by kernel_rfl
private theorem ui72 : Tryz.prog.underlying 72 = some (.int .u64) := by kernel_rfl
private theorem sz5 : szB Tryz.prog 5 1 = true := by kernel_rfl
private theorem sz22 : szB Tryz.prog 22 1 = true := by kernel_rfl
private theorem el5 : elB Tryz.prog 5 1 1 (b8 (0)) := elB_of (by kernel_rfl) (by kernel_rfl) (by unfold znB; kernel_rfl)
private theorem us72 : (Tryz.prog.underlying 72).isSome = true := by kernel_rfl
private theorem ui5 : Tryz.prog.underlying 5 = some (.int .u8) := by kernel_rfl
theorem blocks1_ok {X : Type} (w0 w : World) (own : List Nat) (l bb : Nat) (ab : Option Addr) (nb cb : Nat) (lb : List UInt8) (hb : Rd w0 ab nb 1 (lb.map b8)) (hbo : lb.map b8 ≠ [] → ∀ q, ab = some q → q.block ∉ own) (hc : nb ≤ cb) (hnb : nb ≤ 1048576) (Hf : Nat → X → List Ch) (x0 : X) (hm : Mem w0 own (.blk bb (.cells (#[.slice ab nb cb]) 22 (0, 0)) :: Hf 0 x0) w) (hY : ∀ j x w' A ad cap, j < (nb + 72) / 64 → (∀ w, Mem w0 own A w → Rd w ad 64 1 ((blkF lb nb j).map b8)) → Mem w0 own (Hf j x ++ A) w' → Go.Mc.Yields Tryz.prog l [.slice ad 64 cap] w' (Ret (fun _ : X => kb true) (fun x' => Mem w0 own (Hf (j + 1) x' ++ A)))) :
    Calls Tryz.prog 97 #[.func (.yield l) #[] #[], .pointer (some ⟨bb, 0, none⟩)] w (Ret (fun _ : X => .tuple #[]) (fun y => Mem w0 own (Hf ((nb + 72) / 64) y))) := by
  have hlb := hb.len
  refine calls_of Tryz.func97 rfl rfl (L := [(0, .func (.yield l) #[] #[]), (1, .pointer (some ⟨bb, 0, none⟩))]) ⟨rfl, rfl, trivial⟩ (m := 57) (Nat.le_of_ble_eq_true rfl) (M := Mem w0 own (.blk bb (.cells (#[.slice ab nb cb]) 22 (0, 0)) :: (Hf 0 x0))) (hm) ?_
  refine wc_seq ?_
  refine wc_region ?_
  refine wl_y (y_load sc22 rfl (c_blk (i := 0) rfl rfl)) ?_
  refine wl_y (y_len_sl sl22 (m := nb) rfl rfl) ?_
  refine wl_y (y_cv rfl us3 ui72 (congrArg (Value.int .u64) (cvn_u64 nb (by omega)))) ?_
  refine wl_y (y_bin rfl rfl (mul_u64 (UInt64.ofNat nb) 8)) ?_
  refine wl_y (y_assign rfl) ?_
  refine wl_nil ?_
  refine aq_seq ?_
  refine wc_seq ?_
  refine wc_block ?_
  refine wc_loop (γ := Nat × Option Addr × X) (fun ⟨j, a, x⟩ => [(0, .func (.yield l) #[] #[]), (1, .pointer (some ⟨bb, 0, none⟩)), (3, w64 ((UInt64.ofNat nb * 8)))]) (fun ⟨j, a, x⟩ => Mem w0 own (.blk bb (.cells (#[.slice a (nb - 64 * j) (cb - 64 * j)]) 22 (0, 0)) :: (Hf j x))) (fun ⟨j, a, x⟩ => (64 * j ≤ nb) ∧ (Rd w0 a (nb - 64 * j) 1 ((lb.drop (64 * j)).map b8)) ∧ ((lb.drop (64 * j)).map b8 ≠ [] → ∀ q, a = some q → q.block ∉ own)) (fun ⟨j, a, x⟩ => nb - 64 * j) (⟨0, ab, x0⟩) ?_ ⟨rfl, rfl, rfl, trivial⟩ (fun _ h => h) ?_
  · exact ⟨Nat.zero_le _, by simpa using hb, by simpa using hbo⟩
  · rintro ⟨j, a, x⟩ ⟨hj, hra, hrao⟩
    refine wc_seq ?_
    refine wc_seq ?_
    refine wc_region ?_
    refine wl_y (y_load sc22 rfl (c_blk (i := 0) rfl rfl)) ?_
    refine wl_y (y_len_sl sl22 (m := (nb - 64 * j)) rfl rfl) ?_
    refine wl_y (y_bin rfl rfl geq_i64) ?_
    refine wl_nil ?_
    refine aq_seq ?_
    refine wc_if rfl (fun hc1 => ?_) (fun hc1 => ?_)
    · have hb1 : (((nb - 64 * j) : Nat) : Int) ≥ 64 := by simpa using hc1
      refine wc_skip ?_
      refine aq_seq ?_
      refine wc_block ?_
      refine wc_seq ?_
      refine wc_seq ?_
      refine wc_region ?_
      refine wl_y (y_move rfl) ?_
      refine wl_y (y_load sc22 rfl (c_blk (i := 0) rfl rfl)) ?_
      refine wl_y (y_slice_sl0 sl22 sz5 rfl 64 ⟨_, _, rfl, by first | rfl | omega⟩ rfl (by omega)) ?_
      refine wl_eff (e_yieldS [_] (Hf j x) rfl rfl rfl (fun w m => hY j x w _ a (cb - 64 * j) (by omega) (fun w m => blk_lo (lb := lb) (nb := nb) (j := j) (by omega) ▸ (m.rd hra hrao).pre1 (k := 64) (by omega)) m)) rfl trivial rfl ?_
      intro y1
      refine wl_y (y_not rfl) ?_
      refine wl_nil ?_
      refine aq_seq ?_
      refine wc_else rfl ?_
      refine wc_skip ?_
      refine aq_seq ?_
      refine wc_region ?_
      refine wl_y (y_load sc22 rfl (c_blk (i := 0) rfl rfl)) ?_
      refine wl_y (y_slice_slo sl22 sz5 rfl (cb - 64 * j) (nb - 64 * j) 64 64 rfl rfl ⟨_, _, rfl, by first | rfl | omega⟩ (by simp) (by omega) (by omega) (by omega) (by omega)) ?_
      refine wl_eff (e_store1 sz22 rfl rfl (i := 0) rfl rfl (by first | decide | simp) rfl) rfl trivial rfl ?_
      intro _
      refine wl_nil ?_
      refine aq_blk_normal ?_
      rw [show (nb - 64 * j) - 64 = nb - 64 * (j + 1) by omega, show (cb - 64 * j) - 64 = cb - 64 * (j + 1) by omega]
      refine aq_loop (⟨j + 1, (sub a (cb - 64 * (j + 1)) 64), y1⟩) ?_ ?_ ⟨rfl, rfl, rfl, trivial⟩ (fun _ h => h)
      · exact ⟨by omega, rd_next hra (by omega) (by omega), off_next hrao⟩
      · first | omega | (dsimp only; omega)
    · have hb1 : ¬ ((((nb - 64 * j) : Nat) : Int) ≥ 64) := by simpa using hc1
      have hje : j = nb / 64 := by omega
      subst hje
      have hcb : nb - 64 * (nb / 64) ≤ cb - 64 * (nb / 64) := by omega
      refine wc_exit ?_
      refine aq_thru_exit ?_
      refine aq_thru_exit ?_
      refine aq_blk_exit ?_
      refine aq_seq ?_
      refine wc_seq ?_
      refine wc_region ?_
      refine wl_eff (e_makeBlkm (f := b8) (z := 0) 64 128 sl22 el5 rfl rfl rfl (by omega) (by omega) (by omega) (by omega) (by omega)) rfl trivial rfl ?_
      intro b2
      refine wl_y (y_assign rfl) ?_
      refine wl_nil ?_
      refine aq_seq ?_
      refine wc_seq ?_
      refine wc_region ?_
      refine wl_y (y_move rfl) ?_
      refine wl_y (y_move rfl) ?_
      refine wl_y (y_load sc22 rfl (c_blk (i := 1) rfl rfl)) ?_
      refine wl_eff (e_copy_blk (f := b8) (l := (List.replicate 128 0)) (news := (lb.drop (64 * (nb / 64)))) sl22 sz5 rfl rfl rfl (i := 0) rfl (by first | omega | (simp [endA_len hlb]; done) | (simp [endA_len hlb]; omega) | (simp; omega)) (fun w m => m.rd hra hrao) rfl) rfl trivial rfl ?_
      intro _
      refine wl_y (y_indexAddr_slb sl22 sz5 rfl rfl (by omega) (by omega) (min (nb - 64 * (nb / 64)) 64) (by omega)) ?_
      refine wl_eff (e_store_arr (f := b8) sz5 rfl (x' := 128) rfl (i := 0) rfl (by first | omega | (simp [endA_len hlb]; done) | (simp [endA_len hlb]; omega) | (simp; omega)) rfl) rfl trivial rfl ?_
      intro _
      refine wl_nil ?_
      refine aq_seq ?_
      refine wc_seq ?_
      refine wc_seq ?_
      refine wc_region ?_
      refine wl_y (y_load sc22 rfl (c_blk (i := 1) rfl rfl)) ?_
      refine wl_y (y_len_sl sl22 (m := (nb - 64 * (nb / 64))) rfl rfl) ?_
      refine wl_y (y_bin rfl rfl geq_i64) ?_
      refine wl_nil ?_
      refine aq_seq ?_
      refine wc_if rfl (fun hc2 => ?_) (fun hc2 => ?_)
      · have hb2 : (((nb - 64 * (nb / 64)) : Nat) : Int) ≥ 56 := by simpa using hc2
        refine wc_region ?_
        refine wl_y (y_move rfl) ?_
        refine wl_y (y_slice_sl0 sl22 sz5 rfl 128 ⟨_, _, rfl, by first | rfl | omega⟩ rfl (by omega)) ?_
        refine wl_y (y_assign rfl) ?_
        refine wl_nil ?_
        refine aq_seq ?_
        refine wc_seq ?_
        refine wc_seq ?_
        refine wc_region ?_
        refine wl_y (y_move rfl) ?_
        refine wl_nil ?_
        refine aq_seq ?_
        refine wc_block ?_
        refine wc_loop (γ := Nat) (fun i => [(0, .func (.yield l) #[] #[]), (3, w64 ((UInt64.ofNat nb * 8))), (4, .slice (some ⟨b2, 0, none⟩) 128 128), (31, ki ((i : Int)))]) (fun i => Mem w0 own (.blk b2 (.cells (arr b8 (lenTo (endA lb nb (nb / 64)) 127 (UInt64.ofNat nb * 8) i)) 5 (0, 0)) :: .blk bb (.cells (#[.slice a (nb - 64 * (nb / 64)) (cb - 64 * (nb / 64))]) 22 (0, 0)) :: (Hf (nb / 64) x))) (fun i => (i ≤ 8)) (fun i => 8 - i) (0) ?_ ⟨rfl, rfl, rfl, rfl, trivial⟩ (fun _ h => h) ?_
        · omega
        · rintro i hi
          refine wc_seq ?_
          refine wc_region ?_
          refine wl_y (y_bin rfl rfl lss_i64) ?_
          refine wl_nil ?_
          refine aq_seq ?_
          refine wc_seq ?_
          refine wc_if rfl (fun hc3 => ?_) (fun hc3 => ?_)
          · have hb3 : (i : Int) < 8 := by simpa using hc3
            refine wc_skip ?_
            refine aq_seq ?_
            refine wc_seq ?_
            refine wc_block ?_
            refine wc_seq ?_
            refine wc_region ?_
            refine wl_y (y_move rfl) ?_
            refine wl_y (y_assign rfl) ?_
            refine wl_nil ?_
            refine aq_seq ?_
            refine wc_region ?_
            refine wl_y (y_move rfl) ?_
            refine wl_y (y_move rfl) ?_
            refine wl_y (y_len_sl sl22 (m := 128) rfl rfl) ?_
            refine wl_y (y_bin rfl rfl (show bin .sub (ki 128) (ki 1) = some (ki 127) from rfl)) ?_
            refine wl_y (y_move rfl) ?_
            refine wl_y (y_bin rfl rfl (subn_i64 (a := 127) (b := i) (by omega) (by omega))) ?_
            refine wl_y (y_move rfl) ?_
            refine wl_y (y_move rfl) ?_
            refine wl_y (y_bin rfl rfl (muln_i64 (a := 8) (b := i) (by omega))) ?_
            refine wl_y (y_bin rfl rfl (shr_u64 (UInt64.ofNat nb * 8) (q := .i64) (8 * i) (by omega) (by omega))) ?_
            refine wl_y (y_cv rfl us72 ui5 (congrArg (Value.int .u8) (cv_u64_u8 ((UInt64.ofNat nb * 8) >>> UInt64.ofNat (8 * i))))) ?_
            refine wl_y (y_indexAddr_slb sl22 sz5 rfl rfl (by omega) (by omega) (127 - i) (by omega)) ?_
            refine wl_eff (e_store_arr (f := b8) sz5 rfl (x' := ((UInt64.ofNat nb * 8) >>> UInt64.ofNat (8 * i)).toUInt8) rfl (i := 0) rfl (by first | omega | (simp [endA_len hlb]; done) | (simp [endA_len hlb]; omega) | (simp; omega)) rfl) rfl trivial rfl ?_
            intro _
            refine wl_nil ?_
            refine aq_blk_normal ?_
            refine aq_seq ?_
            refine wc_region ?_
            refine wl_y (y_bin rfl rfl (addn_i64 (a := i) (b := 1) (by omega))) ?_
            refine wl_y (y_move rfl) ?_
            refine wl_nil ?_
            refine aq_loop (i + 1) ?_ ?_ ⟨rfl, rfl, rfl, rfl, trivial⟩ (fun _ h => h)
            · omega
            · first | omega | (dsimp only; omega)
          · have hb3 : ¬ ((i : Int) < 8) := by simpa using hc3
            have hi8 : i = 8 := by omega
            subst hi8
            refine wc_exit ?_
            refine aq_thru_exit ?_
            refine aq_thru_exit ?_
            refine aq_blk_exit ?_
            refine aq_seq ?_
            refine wc_block ?_
            refine wc_loop (γ := Nat × X) (fun ⟨q, x⟩ => [(0, .func (.yield l) #[] #[]), (4, .slice (eAd b2 q) (128 - 64 * q) (128 - 64 * q))]) (fun ⟨q, x⟩ => Mem w0 own (.blk b2 (.cells (arr b8 (lenTo (endA lb nb (nb / 64)) 127 (UInt64.ofNat nb * 8) 8)) 5 (0, 0)) :: .blk bb (.cells (#[.slice a (nb - 64 * (nb / 64)) (cb - 64 * (nb / 64))]) 22 (0, 0)) :: (Hf ((nb / 64) + q) x))) (fun ⟨q, x⟩ => (64 * q ≤ 128)) (fun ⟨q, x⟩ => 128 - 64 * q) (⟨0, x⟩) ?_ ⟨rfl, rfl, trivial⟩ (fun _ h => h) ?_
            · omega
            · rintro ⟨q, x⟩ hq
              change 64 * q ≤ 128 at hq
              refine wc_seq ?_
              refine wc_seq ?_
              refine wc_region ?_
              refine wl_y (y_move rfl) ?_
              refine wl_y (y_len_sl sl22 (m := (128 - 64 * q)) rfl rfl) ?_
              refine wl_y (y_bin rfl rfl gtr_i64) ?_
              refine wl_nil ?_
              refine aq_seq ?_
              refine wc_if rfl (fun hc4 => ?_) (fun hc4 => ?_)
              · have hb4 : (((128 - 64 * q) : Nat) : Int) > 0 := by simpa using hc4
                refine wc_skip ?_
                refine aq_seq ?_
                refine wc_seq ?_
                refine wc_block ?_
                refine wc_seq ?_
                refine wc_region ?_
                refine wl_y (y_move rfl) ?_
                refine wl_y (y_move rfl) ?_
                refine wl_y (y_slice_sl0 sl22 sz5 rfl 64 ⟨_, _, rfl, by first | rfl | omega⟩ rfl (by omega)) ?_
                refine wl_eff (e_yieldS [_, _] (Hf ((nb / 64) + q) x) rfl rfl rfl (fun w m => hY ((nb / 64) + q) x w _ (eAd b2 q) (128 - 64 * q) (by omega) (fun w m => blk_hi (lb := lb) (nb := nb) (q := q) ▸ (((eAd_hi hlb (by omega) (by omega)) _ (Mem.pick m (is := [0]) ⟨_, _, rfl, rfl, rfl⟩ (by decide)))).pre1 (k := 64) (by omega)) m)) rfl trivial rfl ?_
                intro y3
                refine wl_y (y_not rfl) ?_
                refine wl_nil ?_
                refine aq_seq ?_
                refine wc_else rfl ?_
                refine wc_skip ?_
                refine aq_blk_normal ?_
                refine aq_seq ?_
                refine wc_region ?_
                refine wl_y (y_move rfl) ?_
                refine wl_y (y_slice_slo sl22 sz5 rfl (128 - 64 * q) (128 - 64 * q) 64 64 rfl rfl ⟨_, _, rfl, by first | rfl | omega⟩ (by simp) (by omega) (by omega) (by omega) (by omega)) ?_
                refine wl_y (y_assign rfl) ?_
                refine wl_nil ?_
                rw [show (128 - 64 * q) - 64 = 128 - 64 * (q + 1) by omega]
                refine aq_loop (⟨q + 1, y3⟩) ?_ ?_ ⟨rfl, rfl, trivial⟩ (fun _ h => h)
                · omega
                · first | omega | (dsimp only; omega)
              · have hb4 : ¬ ((((128 - 64 * q) : Nat) : Int) > 0) := by simpa using hc4
                refine wc_exit ?_
                refine aq_thru_exit ?_
                refine aq_thru_exit ?_
                refine aq_blk_exit ?_
                refine aq_return (.inr rfl) rfl (rfl) ?_
                intro w' m
                have hqe : q = 2 := by omega
                subst hqe
                have hcn : nb / 64 + 2 = (nb + 72) / 64 := by omega
                exact ⟨x, rfl, hcn ▸ Mem.right (A := [_, _]) (B := Hf (nb / 64 + 2) x) m⟩
      · have hb2 : ¬ ((((nb - 64 * (nb / 64)) : Nat) : Int) ≥ 56) := by simpa using hc2
        refine wc_skip ?_
        refine aq_seq ?_
        refine wc_seq ?_
        refine wc_seq ?_
        refine wc_region ?_
        refine wl_y (y_move rfl) ?_
        refine wl_nil ?_
        refine aq_seq ?_
        refine wc_block ?_
        refine wc_loop (γ := Nat) (fun i => [(0, .func (.yield l) #[] #[]), (3, w64 ((UInt64.ofNat nb * 8))), (4, .slice (some ⟨b2, 0, none⟩) 64 128), (31, ki ((i : Int)))]) (fun i => Mem w0 own (.blk b2 (.cells (arr b8 (lenTo (endA lb nb (nb / 64)) 63 (UInt64.ofNat nb * 8) i)) 5 (0, 0)) :: .blk bb (.cells (#[.slice a (nb - 64 * (nb / 64)) (cb - 64 * (nb / 64))]) 22 (0, 0)) :: (Hf (nb / 64) x))) (fun i => (i ≤ 8)) (fun i => 8 - i) (0) ?_ ⟨rfl, rfl, rfl, rfl, trivial⟩ (fun _ h => h) ?_
        · omega
        · rintro i hi
          refine wc_seq ?_
          refine wc_region ?_
          refine wl_y (y_bin rfl rfl lss_i64) ?_
          refine wl_nil ?_
          refine aq_seq ?_
          refine wc_seq ?_
          refine wc_if rfl (fun hc5 => ?_) (fun hc5 => ?_)
          · have hb5 : (i : Int) < 8 := by simpa using hc5
            refine wc_skip ?_
            refine aq_seq ?_
            refine wc_seq ?_
            refine wc_block ?_
            refine wc_seq ?_
            refine wc_region ?_
            refine wl_y (y_move rfl) ?_
            refine wl_y (y_assign rfl) ?_
            refine wl_nil ?_
            refine aq_seq ?_
            refine wc_region ?_
            refine wl_y (y_move rfl) ?_
            refine wl_y (y_move rfl) ?_
            refine wl_y (y_len_sl sl22 (m := 64) rfl rfl) ?_
            refine wl_y (y_bin rfl rfl (show bin .sub (ki 64) (ki 1) = some (ki 63) from rfl)) ?_
            refine wl_y (y_move rfl) ?_
            refine wl_y (y_bin rfl rfl (subn_i64 (a := 63) (b := i) (by omega) (by omega))) ?_
            refine wl_y (y_move rfl) ?_
            refine wl_y (y_move rfl) ?_
            refine wl_y (y_bin rfl rfl (muln_i64 (a := 8) (b := i) (by omega))) ?_
            refine wl_y (y_bin rfl rfl (shr_u64 (UInt64.ofNat nb * 8) (q := .i64) (8 * i) (by omega) (by omega))) ?_
            refine wl_y (y_cv rfl us72 ui5 (congrArg (Value.int .u8) (cv_u64_u8 ((UInt64.ofNat nb * 8) >>> UInt64.ofNat (8 * i))))) ?_
            refine wl_y (y_indexAddr_slb sl22 sz5 rfl rfl (by omega) (by omega) (63 - i) (by omega)) ?_
            refine wl_eff (e_store_arr (f := b8) sz5 rfl (x' := ((UInt64.ofNat nb * 8) >>> UInt64.ofNat (8 * i)).toUInt8) rfl (i := 0) rfl (by first | omega | (simp [endA_len hlb]; done) | (simp [endA_len hlb]; omega) | (simp; omega)) rfl) rfl trivial rfl ?_
            intro _
            refine wl_nil ?_
            refine aq_blk_normal ?_
            refine aq_seq ?_
            refine wc_region ?_
            refine wl_y (y_bin rfl rfl (addn_i64 (a := i) (b := 1) (by omega))) ?_
            refine wl_y (y_move rfl) ?_
            refine wl_nil ?_
            refine aq_loop (i + 1) ?_ ?_ ⟨rfl, rfl, rfl, rfl, trivial⟩ (fun _ h => h)
            · omega
            · first | omega | (dsimp only; omega)
          · have hb5 : ¬ ((i : Int) < 8) := by simpa using hc5
            have hi8 : i = 8 := by omega
            subst hi8
            refine wc_exit ?_
            refine aq_thru_exit ?_
            refine aq_thru_exit ?_
            refine aq_blk_exit ?_
            refine aq_seq ?_
            refine wc_block ?_
            refine wc_loop (γ := Nat × X) (fun ⟨q, x⟩ => [(0, .func (.yield l) #[] #[]), (4, .slice (eAd b2 q) (64 - 64 * q) (128 - 64 * q))]) (fun ⟨q, x⟩ => Mem w0 own (.blk b2 (.cells (arr b8 (lenTo (endA lb nb (nb / 64)) 63 (UInt64.ofNat nb * 8) 8)) 5 (0, 0)) :: .blk bb (.cells (#[.slice a (nb - 64 * (nb / 64)) (cb - 64 * (nb / 64))]) 22 (0, 0)) :: (Hf ((nb / 64) + q) x))) (fun ⟨q, x⟩ => (64 * q ≤ 64)) (fun ⟨q, x⟩ => 64 - 64 * q) (⟨0, x⟩) ?_ ⟨rfl, rfl, trivial⟩ (fun _ h => h) ?_
            · omega
            · rintro ⟨q, x⟩ hq
              change 64 * q ≤ 64 at hq
              refine wc_seq ?_
              refine wc_seq ?_
              refine wc_region ?_
              refine wl_y (y_move rfl) ?_
              refine wl_y (y_len_sl sl22 (m := (64 - 64 * q)) rfl rfl) ?_
              refine wl_y (y_bin rfl rfl gtr_i64) ?_
              refine wl_nil ?_
              refine aq_seq ?_
              refine wc_if rfl (fun hc6 => ?_) (fun hc6 => ?_)
              · have hb6 : (((64 - 64 * q) : Nat) : Int) > 0 := by simpa using hc6
                refine wc_skip ?_
                refine aq_seq ?_
                refine wc_seq ?_
                refine wc_block ?_
                refine wc_seq ?_
                refine wc_region ?_
                refine wl_y (y_move rfl) ?_
                refine wl_y (y_move rfl) ?_
                refine wl_y (y_slice_sl0 sl22 sz5 rfl 64 ⟨_, _, rfl, by first | rfl | omega⟩ rfl (by omega)) ?_
                refine wl_eff (e_yieldS [_, _] (Hf ((nb / 64) + q) x) rfl rfl rfl (fun w m => hY ((nb / 64) + q) x w _ (eAd b2 q) (128 - 64 * q) (by omega) (fun w m => blk_hi (lb := lb) (nb := nb) (q := q) ▸ (((eAd_lo hlb (by omega) (by omega)) _ (Mem.pick m (is := [0]) ⟨_, _, rfl, rfl, rfl⟩ (by decide)))).pre1 (k := 64) (by omega)) m)) rfl trivial rfl ?_
                intro y4
                refine wl_y (y_not rfl) ?_
                refine wl_nil ?_
                refine aq_seq ?_
                refine wc_else rfl ?_
                refine wc_skip ?_
                refine aq_blk_normal ?_
                refine aq_seq ?_
                refine wc_region ?_
                refine wl_y (y_move rfl) ?_
                refine wl_y (y_slice_slo sl22 sz5 rfl (128 - 64 * q) (64 - 64 * q) 64 64 rfl rfl ⟨_, _, rfl, by first | rfl | omega⟩ (by simp) (by omega) (by omega) (by omega) (by omega)) ?_
                refine wl_y (y_assign rfl) ?_
                refine wl_nil ?_
                rw [show (64 - 64 * q) - 64 = 64 - 64 * (q + 1) by omega, show (128 - 64 * q) - 64 = 128 - 64 * (q + 1) by omega]
                refine aq_loop (⟨q + 1, y4⟩) ?_ ?_ ⟨rfl, rfl, trivial⟩ (fun _ h => h)
                · omega
                · first | omega | (dsimp only; omega)
              · have hb6 : ¬ ((((64 - 64 * q) : Nat) : Int) > 0) := by simpa using hc6
                refine wc_exit ?_
                refine aq_thru_exit ?_
                refine aq_thru_exit ?_
                refine aq_blk_exit ?_
                refine aq_return (.inr rfl) rfl (rfl) ?_
                intro w' m
                have hqe : q = 1 := by omega
                subst hqe
                have hcn : nb / 64 + 1 = (nb + 72) / 64 := by omega
                exact ⟨x, rfl, hcn ▸ Mem.right (A := [_, _]) (B := Hf (nb / 64 + 1) x) m⟩

end Go.Proofs.YtjibkjoaamchoaaGreatDoor
