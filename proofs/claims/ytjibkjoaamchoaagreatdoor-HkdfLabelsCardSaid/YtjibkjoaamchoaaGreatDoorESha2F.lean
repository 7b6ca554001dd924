/- Lemmas and contracts for the proof of this seat's statements (Sha2F). No condition. -/
import Derived.Test.YtjibkjoaamchoaaGreatDoorEBk
import Derived.Test.YtjibkjoaamchoaaGreatDoorProg
import Derived.KernelRfl
import Derived.Test.YtjibkjoaamchoaaGreatDoorEPlaA
import Derived.Test.YtjibkjoaamchoaaGreatDoorEShaF
set_option linter.all false
namespace Go.Proofs.YtjibkjoaamchoaaGreatDoor
open Go.Mc
private theorem cf98 : cfB Tryz.prog 98 = true := by kernel_rfl
private theorem zn144 : znB Tryz.prog 144 (.agg #[w32 (0), w32 (0), w32 (0), w32 (0), w32 (0), w32 (0), w32 (0), w32 (0)]) := by unfold znB; kernel_rfl
private theorem zn146 : znB Tryz.prog 146 (.agg (arr w32 (List.replicate 64 0))) := by unfold znB; kernel_rfl
private theorem sl22 : slB Tryz.prog 22 5 = true := by kernel_rfl
private theorem sz5 : szB Tryz.prog 5 1 = true := by kernel_rfl
private theorem sc5 : scB Tryz.prog 5 = true := by kernel_rfl
private theorem ar146 : arB Tryz.prog 146 64 143 = true := by kernel_rfl
private theorem sz143 : szB Tryz.prog 143 1 = true := by kernel_rfl
private theorem sc143 : scB Tryz.prog 143 = true := by kernel_rfl
private theorem us5 : (Tryz.prog.underlying 5).isSome = true := by kernel_rfl
private theorem ui143 : Tryz.prog.underlying 143 = some (.int .u32) := by kernel_rfl
private theorem ar144 : arB Tryz.prog 144 8 143 = true := by kernel_rfl
private theorem cf99 : cfB Tryz.prog 99 = true := by kernel_rfl
private theorem ag144 : agB Tryz.prog 144 8 = true := by kernel_rfl
private theorem sz144 : szB Tryz.prog 144 8 = true := by kernel_rfl
theorem three_ok (w : World) (x : UInt32) (i j k : Int) (si sj sk : Nat) (hi : UInt64.ofNat ((-(i)) % 18446744073709551616).toNat &&& 31 = UInt64.ofNat si) (hi0 : 0 < si) (hi1 : si < 32) (bi : 0 < i) (ci : i < 100) (hj : UInt64.ofNat ((-(j)) % 18446744073709551616).toNat &&& 31 = UInt64.ofNat sj) (hj0 : 0 < sj) (hj1 : sj < 32) (bj : 0 < j) (cj : j < 100) (hk : UInt64.ofNat ((-(k)) % 18446744073709551616).toNat &&& 31 = UInt64.ofNat sk) (hk0 : 0 < sk) (hk1 : sk < 32) (bk : 0 < k) (ck : k < 100) :
    Calls Tryz.prog 99 #[w32 (x), ki (i), ki (j), ki (k)] w (Ret (fun _ : Unit => w32 (threeF x si sj sk)) (fun _ => Mem w [] [])) := by
  refine calls_of Tryz.func99 rfl rfl (L := [(0, w32 (x)), (1, ki (i)), (2, ki (j)), (3, ki (k))]) ⟨rfl, rfl, rfl, rfl, trivial⟩ (m := 23) (Nat.le_of_ble_eq_true rfl) (M := Mem w [] []) (Mem.refl w) ?_
  refine wc_seq ?_
  refine wc_region ?_
  refine wl_y (y_assign rfl) ?_
  refine wl_nil ?_
  refine aq_seq ?_
  refine wc_seq ?_
  refine wc_region ?_
  refine wl_y (y_move rfl) ?_
  refine wl_y (y_move rfl) ?_
  refine wl_y (y_neg rfl (by omega) (by omega)) ?_
  refine wl_eff (e_call0 cf98 rfl (fun w m => rotl_ok w (x) ((-(i))) si (by exact hi) (by omega) (by omega))) rfl trivial rfl ?_
  intro _
  refine wl_y (y_move rfl) ?_
  refine wl_y (y_move rfl) ?_
  refine wl_y (y_neg rfl (by omega) (by omega)) ?_
  refine wl_eff (e_call0 cf98 rfl (fun w m => rotl_ok w (x) ((-(j))) sj (by exact hj) (by omega) (by omega))) rfl trivial rfl ?_
  intro _
  refine wl_y (y_bin rfl rfl (xor_u32 (rotl32 x si) (rotl32 x sj))) ?_
  refine wl_y (y_move rfl) ?_
  refine wl_y (y_move rfl) ?_
  refine wl_y (y_neg rfl (by omega) (by omega)) ?_
  refine wl_eff (e_call0 cf98 rfl (fun w m => rotl_ok w (x) ((-(k))) sk (by exact hk) (by omega) (by omega))) rfl trivial rfl ?_
  intro _
  refine wl_y (y_bin rfl rfl (xor_u32 ((rotl32 x si) ^^^ (rotl32 x sj)) (rotl32 x sk))) ?_
  refine wl_y (y_assign rfl) ?_
  refine wl_nil ?_
  refine aq_seq ?_
  refine wc_ret ?_
  refine aq_return (.inl rfl) rfl (⟨_, _, rfl, rfl, rfl⟩) ?_
  intro w' m
  exact ⟨(), rfl, m⟩

theorem further_ok (w : World) (s : List UInt32) (ad : Option Addr) (cp : Nat) (blk : List UInt8) (bk : Nat) (kl : List UInt32) (hs : s.length = 8) (hx : Rd w ad 64 1 (blk.map b8)) (hk : Rd w (some ⟨bk, 0, none⟩) 64 1 (kl.map w32)) :
    Calls Tryz.prog 89 #[.agg (arr w32 s), .slice ad 64 cp, .pointer (some ⟨bk, 0, none⟩)] w (Ret (fun _ : Unit => .agg (arr w32 (furF s blk kl))) (fun _ => Mem w [] [])) := by
  have hxl := hx.len
  have hkl : kl.length = 64 := by simpa using hk.1
  have hrl := rndTo_len kl (schTo (wTo blk 64) 48) hs
  refine calls_of Tryz.func89 rfl rfl (L := [(0, .agg (arr w32 s)), (1, .slice ad 64 cp), (2, .pointer (some ⟨bk, 0, none⟩))]) ⟨rfl, rfl, rfl, trivial⟩ (m := 173) (Nat.le_of_ble_eq_true rfl) (M := Mem w [] []) (Mem.refl w) ?_
  refine wc_seq ?_
  refine wc_region ?_
  refine wl_eff (e_box (cs := arr w32 s) rfl) rfl trivial rfl ?_
  intro b1
  refine wl_eff (e_alloc (cs := arr w32 (List.replicate 8 0)) zn144) rfl trivial rfl ?_
  intro b2
  refine wl_nil ?_
  refine aq_seq ?_
  refine wc_seq ?_
  refine wc_region ?_
  refine wl_eff (e_alloc (cs := arr w32 (List.replicate 64 0)) zn146) rfl trivial rfl ?_
  intro b3
  refine wl_nil ?_
  refine aq_seq ?_
  refine wc_seq ?_
  refine wc_seq ?_
  refine wc_region ?_
  refine wl_y (y_move rfl) ?_
  refine wl_y (y_len_sl sl22 (m := 64) rfl rfl) ?_
  refine wl_y (y_move rfl) ?_
  refine wl_nil ?_
  refine aq_seq ?_
  refine wc_block ?_
  refine wc_loop (γ := Nat) (fun i => [(2, .pointer (some ⟨bk, 0, none⟩)), (3, .pointer (some ⟨b1, 0, none⟩)), (6, .pointer (some ⟨b2, 0, none⟩)), (7, .pointer (some ⟨b3, 0, none⟩)), (26, .slice ad 64 cp), (27, ki (64)), (28, ki ((i : Int)))]) (fun i => Mem w [] [.blk b3 (.cells (arr w32 (wTo blk i)) 146 (0, 0)), .blk b2 (.cells (arr w32 (List.replicate 8 0)) 144 (0, 0)), .blk b1 (.cells (arr w32 s) 144 (0, 0))]) (fun i => (i ≤ 64)) (fun i => 64 - i) (0) ?_ ⟨rfl, rfl, rfl, rfl, rfl, rfl, rfl, trivial⟩ (fun _ h => h) ?_
  · omega
  · rintro i hi
    refine wc_seq ?_
    refine wc_region ?_
    refine wl_y (y_bin rfl rfl lss_i64) ?_
    refine wl_nil ?_
    refine aq_seq ?_
    refine wc_seq ?_
    refine wc_if rfl (fun hc1 => ?_) (fun hc1 => ?_)
    · have hb1 : (i : Int) < 64 := by simpa using hc1
      refine wc_skip ?_
      refine aq_seq ?_
      refine wc_seq ?_
      refine wc_block ?_
      refine wc_seq ?_
      refine wc_region ?_
      refine wl_y (y_move rfl) ?_
      refine wl_y (y_indexAddr_sl sl22 sz5 rfl rfl (by omega) (by omega) (fun w m => rd_isSome (m.rd0 hx) (by omega) (by decide)) i (by omega)) ?_
      refine wl_y (y_load sc5 rfl (c_of (fun w m => m.rd0 hx) (map_get (gd 0 (by first | omega | (simp only [wTo_len, schTo_len, addS_len, List.length_set, List.length_replicate] <;> omega) | (rw [hrl]; omega)))))) ?_
      refine wl_y (y_assign rfl) ?_
      refine wl_y (y_assign rfl) ?_
      refine wl_nil ?_
      refine aq_seq ?_
      refine wc_region ?_
      refine wl_y (y_move rfl) ?_
      refine wl_y (y_bin rfl rfl (quon_i64 (a := i) (b := 4) (by omega) (by omega))) ?_
      refine wl_y (y_move rfl) ?_
      refine wl_y (y_bin rfl rfl (quon_i64 (a := i) (b := 4) (by omega) (by omega))) ?_
      refine wl_y (y_indexAddr_ar ar146 sz143 rfl rfl (by omega) (by omega) (i / 4) (by omega)) ?_
      refine wl_y (y_load sc143 rfl (c_blk (i := 0) rfl (arr_get (gd 0 (by first | omega | (simp only [wTo_len, schTo_len, addS_len, List.length_set, List.length_replicate] <;> omega) | (rw [hrl]; omega)))))) ?_
      refine wl_y (y_bin rfl rfl (shl_u32 ((wTo blk i).getD (i / 4) 0) (q := .u64) 8 (by omega) (by omega))) ?_
      refine wl_y (y_move rfl) ?_
      refine wl_y (y_cv rfl us5 ui143 (congrArg (Value.int .u32) (cv_u8_u32 (blk.getD i 0)))) ?_
      refine wl_y (y_bin rfl rfl (or_u32 (((wTo blk i).getD (i / 4) 0) <<< UInt32.ofNat 8) ((blk.getD i 0).toUInt32))) ?_
      refine wl_y (y_indexAddr_ar ar146 sz143 rfl rfl (by omega) (by omega) (i / 4) (by omega)) ?_
      refine wl_eff (e_store_arr (f := w32) sz143 rfl (x' := ((((wTo blk i).getD (i / 4) 0) <<< UInt32.ofNat 8) ||| ((blk.getD i 0).toUInt32))) rfl (i := 0) rfl (by first | omega | (simp only [wTo_len, schTo_len, addS_len, List.length_set, List.length_replicate] <;> omega) | (rw [hrl]; omega)) rfl) rfl trivial rfl ?_
      intro _
      refine wl_nil ?_
      refine aq_blk_normal ?_
      refine aq_seq ?_
      refine wc_region ?_
      refine wl_y (y_bin rfl rfl (addn_i64 (a := i) (b := 1) (by omega))) ?_
      refine wl_y (y_move rfl) ?_
      refine wl_nil ?_
      refine aq_loop (i + 1) ?_ ?_ ⟨rfl, rfl, rfl, rfl, rfl, rfl, rfl, trivial⟩ (fun _ h => h)
      · omega
      · first | omega | (dsimp only; omega)
    · have hb1 : ¬ ((i : Int) < 64) := by simpa using hc1
      have hie : i = 64 := by omega
      subst hie
      refine wc_exit ?_
      refine aq_thru_exit ?_
      refine aq_thru_exit ?_
      refine aq_blk_exit ?_
      refine aq_seq ?_
      refine wc_seq ?_
      refine wc_seq ?_
      refine wc_region ?_
      refine wl_y (y_assign rfl) ?_
      refine wl_nil ?_
      refine aq_seq ?_
      refine wc_block ?_
      refine wc_loop (γ := Nat) (fun q => [(2, .pointer (some ⟨bk, 0, none⟩)), (3, .pointer (some ⟨b1, 0, none⟩)), (6, .pointer (some ⟨b2, 0, none⟩)), (7, .pointer (some ⟨b3, 0, none⟩)), (10, ki (((16 + q : Nat) : Int)))]) (fun q => Mem w [] [.blk b3 (.cells (arr w32 (schTo (wTo blk 64) q)) 146 (0, 0)), .blk b2 (.cells (arr w32 (List.replicate 8 0)) 144 (0, 0)), .blk b1 (.cells (arr w32 s) 144 (0, 0))]) (fun q => (q ≤ 48)) (fun q => 48 - q) (0) ?_ ⟨rfl, rfl, rfl, rfl, rfl, trivial⟩ (fun _ h => h) ?_
      · omega
      · rintro q hq
        refine wc_seq ?_
        refine wc_seq ?_
        refine wc_region ?_
        refine wl_y (y_move rfl) ?_
        refine wl_y (y_bin rfl rfl lss_i64) ?_
        refine wl_nil ?_
        refine aq_seq ?_
        refine wc_if rfl (fun hc2 => ?_) (fun hc2 => ?_)
        · have hb2 : ((16 + q : Nat) : Int) < 64 := by simpa using hc2
          refine wc_skip ?_
          refine aq_seq ?_
          refine wc_seq ?_
          refine wc_block ?_
          refine wc_seq ?_
          refine wc_drawM [(0, .q), (1, .q), (2, .q), (3, .q), (4, .q), (5, .q), (6, .q), (7, .q), (8, .q), (9, .q)] (by kernel_rfl) (by kernel_rfl) Mem.closed ?_
          refine wp_q rfl Mem.closed (fun _ h => h) Mem.closed rfl (q_of_yld (y_move rfl)) trivial ?_
          refine wp_q rfl Mem.closed (fun _ h => h) Mem.closed rfl (q_of_yld (y_bin rfl rfl (subn_i64 (a := (16 + q)) (b := 2) (by omega) (by omega)))) trivial ?_
          refine wp_q rfl Mem.closed (fun _ h => h) Mem.closed rfl (q_of_yld (y_indexAddr_ar ar146 sz143 rfl rfl (by omega) (by omega) ((16 + q) - 2) (by omega))) trivial ?_
          refine wp_q rfl Mem.closed (fun _ h => h) Mem.closed rfl (q_of_yld (y_load sc143 rfl (c_blk (i := 0) rfl (arr_get (gd 0 (by first | omega | (simp only [wTo_len, schTo_len, addS_len, List.length_set, List.length_replicate] <;> omega) | (rw [hrl]; omega))))))) trivial ?_
          refine wp_q rfl Mem.closed (fun _ h => h) Mem.closed rfl (q_of_yld (y_move rfl)) trivial ?_
          refine wp_q rfl Mem.closed (fun _ h => h) Mem.closed rfl (q_of_yld (y_bin rfl rfl (subn_i64 (a := (16 + q)) (b := 15) (by omega) (by omega)))) trivial ?_
          refine wp_q rfl Mem.closed (fun _ h => h) Mem.closed rfl (q_of_yld (y_indexAddr_ar ar146 sz143 rfl rfl (by omega) (by omega) ((16 + q) - 15) (by omega))) trivial ?_
          refine wp_q rfl Mem.closed (fun _ h => h) Mem.closed rfl (q_of_yld (y_load sc143 rfl (c_blk (i := 0) rfl (arr_get (gd 0 (by first | omega | (simp only [wTo_len, schTo_len, addS_len, List.length_set, List.length_replicate] <;> omega) | (rw [hrl]; omega))))))) trivial ?_
          refine wp_q rfl Mem.closed (fun _ h => h) Mem.closed rfl (q_of_yld (y_assign rfl)) trivial ?_
          refine wp_q rfl Mem.closed (fun _ h => h) Mem.closed rfl (q_of_yld (y_assign rfl)) trivial ?_
          refine wp_nil ?_
          refine aq_seq ?_
          refine wc_drawM [(0, .q), (1, .q), (2, .q), (3, .q), (4, .q), (5, .q), (6, .q), (7, .q), (8, .q), (9, .q), (10, .q), (11, .q), (12, .q), (13, .q), (14, .q), (15, .q), (16, .q), (17, .q), (18, .q), (19, .q), (20, .q), (21, .q), (22, .q), (23, .q), (24, .q), (25, .q), (26, .q), (27, .q), (28, .q), (29, .l)] (by kernel_rfl) (by kernel_rfl) Mem.closed ?_
          refine wp_q rfl Mem.closed (fun _ h => h) Mem.closed rfl (q_of_yld (y_move rfl)) trivial ?_
          refine wp_q rfl Mem.closed (fun _ h => h) Mem.closed rfl (q_of_yld (y_move rfl)) trivial ?_
          refine wp_q rfl Mem.closed (fun _ h => h) Mem.closed rfl (q_of_yld (y_bin rfl rfl (subn_i64 (a := (16 + q)) (b := 7) (by omega) (by omega)))) trivial ?_
          refine wp_q rfl Mem.closed (fun _ h => h) Mem.closed rfl (q_of_yld (y_indexAddr_ar ar146 sz143 rfl rfl (by omega) (by omega) ((16 + q) - 7) (by omega))) trivial ?_
          refine wp_q rfl Mem.closed (fun _ h => h) Mem.closed rfl (q_of_yld (y_load sc143 rfl (c_blk (i := 0) rfl (arr_get (gd 0 (by first | omega | (simp only [wTo_len, schTo_len, addS_len, List.length_set, List.length_replicate] <;> omega) | (rw [hrl]; omega))))))) trivial ?_
          refine wp_q rfl Mem.closed (fun _ h => h) Mem.closed rfl (q_of_yld (y_move rfl)) trivial ?_
          refine wp_q rfl Mem.closed (fun _ h => h) Mem.closed rfl (q_of_yld (y_bin rfl rfl (subn_i64 (a := (16 + q)) (b := 16) (by omega) (by omega)))) trivial ?_
          refine wp_q rfl Mem.closed (fun _ h => h) Mem.closed rfl (q_of_yld (y_indexAddr_ar ar146 sz143 rfl rfl (by omega) (by omega) ((16 + q) - 16) (by omega))) trivial ?_
          refine wp_q rfl Mem.closed (fun _ h => h) Mem.closed rfl (q_of_yld (y_load sc143 rfl (c_blk (i := 0) rfl (arr_get (gd 0 (by first | omega | (simp only [wTo_len, schTo_len, addS_len, List.length_set, List.length_replicate] <;> omega) | (rw [hrl]; omega))))))) trivial ?_
          refine wp_q rfl Mem.closed (fun _ h => h) Mem.closed rfl (q_of_yld (y_bin rfl rfl (add_u32 ((schTo (wTo blk 64) q).getD ((16 + q) - 7) 0) ((schTo (wTo blk 64) q).getD ((16 + q) - 16) 0)))) trivial ?_
          refine wp_q rfl Mem.closed (fun _ h => h) Mem.closed rfl (q_of_yld (y_move rfl)) trivial ?_
          refine wp_q rfl Mem.closed (fun _ h => h) Mem.closed rfl (q_of_call cf98 rfl (fun w m => quiet_of_mem (rotl_ok w ((schTo (wTo blk 64) q).getD ((16 + q) - 2) 0) ((-17)) 15 (by decide) (by omega) (by omega)))) trivial ?_
          refine wp_q rfl Mem.closed (fun _ h => h) Mem.closed rfl (q_of_yld (y_move rfl)) trivial ?_
          refine wp_q rfl Mem.closed (fun _ h => h) Mem.closed rfl (q_of_call cf98 rfl (fun w m => quiet_of_mem (rotl_ok w ((schTo (wTo blk 64) q).getD ((16 + q) - 2) 0) ((-19)) 13 (by decide) (by omega) (by omega)))) trivial ?_
          refine wp_q rfl Mem.closed (fun _ h => h) Mem.closed rfl (q_of_yld (y_bin rfl rfl (xor_u32 (rotl32 ((schTo (wTo blk 64) q).getD ((16 + q) - 2) 0) 15) (rotl32 ((schTo (wTo blk 64) q).getD ((16 + q) - 2) 0) 13)))) trivial ?_
          refine wp_q rfl Mem.closed (fun _ h => h) Mem.closed rfl (q_of_yld (y_move rfl)) trivial ?_
          refine wp_q rfl Mem.closed (fun _ h => h) Mem.closed rfl (q_of_yld (y_bin rfl rfl (shr_u32 ((schTo (wTo blk 64) q).getD ((16 + q) - 2) 0) (q := .u64) 10 (by omega) (by omega)))) trivial ?_
          refine wp_q rfl Mem.closed (fun _ h => h) Mem.closed rfl (q_of_yld (y_bin rfl rfl (xor_u32 ((rotl32 ((schTo (wTo blk 64) q).getD ((16 + q) - 2) 0) 15) ^^^ (rotl32 ((schTo (wTo blk 64) q).getD ((16 + q) - 2) 0) 13)) (((schTo (wTo blk 64) q).getD ((16 + q) - 2) 0) >>> UInt32.ofNat 10)))) trivial ?_
          refine wp_q rfl Mem.closed (fun _ h => h) Mem.closed rfl (q_of_yld (y_bin rfl rfl (add_u32 ((schTo (wTo blk 64) q).getD ((16 + q) - 7) 0 + (schTo (wTo blk 64) q).getD ((16 + q) - 16) 0) (((rotl32 ((schTo (wTo blk 64) q).getD ((16 + q) - 2) 0) 15) ^^^ (rotl32 ((schTo (wTo blk 64) q).getD ((16 + q) - 2) 0) 13)) ^^^ (((schTo (wTo blk 64) q).getD ((16 + q) - 2) 0) >>> UInt32.ofNat 10))))) trivial ?_
          refine wp_q rfl Mem.closed (fun _ h => h) Mem.closed rfl (q_of_yld (y_move rfl)) trivial ?_
          refine wp_q rfl Mem.closed (fun _ h => h) Mem.closed rfl (q_of_call cf98 rfl (fun w m => quiet_of_mem (rotl_ok w ((schTo (wTo blk 64) q).getD ((16 + q) - 15) 0) ((-7)) 25 (by decide) (by omega) (by omega)))) trivial ?_
          refine wp_q rfl Mem.closed (fun _ h => h) Mem.closed rfl (q_of_yld (y_move rfl)) trivial ?_
          refine wp_q rfl Mem.closed (fun _ h => h) Mem.closed rfl (q_of_call cf98 rfl (fun w m => quiet_of_mem (rotl_ok w ((schTo (wTo blk 64) q).getD ((16 + q) - 15) 0) ((-18)) 14 (by decide) (by omega) (by omega)))) trivial ?_
          refine wp_q rfl Mem.closed (fun _ h => h) Mem.closed rfl (q_of_yld (y_bin rfl rfl (xor_u32 (rotl32 ((schTo (wTo blk 64) q).getD ((16 + q) - 15) 0) 25) (rotl32 ((schTo (wTo blk 64) q).getD ((16 + q) - 15) 0) 14)))) trivial ?_
          refine wp_q rfl Mem.closed (fun _ h => h) Mem.closed rfl (q_of_yld (y_move rfl)) trivial ?_
          refine wp_q rfl Mem.closed (fun _ h => h) Mem.closed rfl (q_of_yld (y_bin rfl rfl (shr_u32 ((schTo (wTo blk 64) q).getD ((16 + q) - 15) 0) (q := .u64) 3 (by omega) (by omega)))) trivial ?_
          refine wp_q rfl Mem.closed (fun _ h => h) Mem.closed rfl (q_of_yld (y_bin rfl rfl (xor_u32 ((rotl32 ((schTo (wTo blk 64) q).getD ((16 + q) - 15) 0) 25) ^^^ (rotl32 ((schTo (wTo blk 64) q).getD ((16 + q) - 15) 0) 14)) (((schTo (wTo blk 64) q).getD ((16 + q) - 15) 0) >>> UInt32.ofNat 3)))) trivial ?_
          refine wp_q rfl Mem.closed (fun _ h => h) Mem.closed rfl (q_of_yld (y_bin rfl rfl (add_u32 (((schTo (wTo blk 64) q).getD ((16 + q) - 7) 0 + (schTo (wTo blk 64) q).getD ((16 + q) - 16) 0) + (((rotl32 ((schTo (wTo blk 64) q).getD ((16 + q) - 2) 0) 15) ^^^ (rotl32 ((schTo (wTo blk 64) q).getD ((16 + q) - 2) 0) 13)) ^^^ (((schTo (wTo blk 64) q).getD ((16 + q) - 2) 0) >>> UInt32.ofNat 10))) (((rotl32 ((schTo (wTo blk 64) q).getD ((16 + q) - 15) 0) 25) ^^^ (rotl32 ((schTo (wTo blk 64) q).getD ((16 + q) - 15) 0) 14)) ^^^ (((schTo (wTo blk 64) q).getD ((16 + q) - 15) 0) >>> UInt32.ofNat 3))))) trivial ?_
          refine wp_q rfl Mem.closed (fun _ h => h) Mem.closed rfl (q_of_yld (y_indexAddr_ar ar146 sz143 rfl rfl (by omega) (by omega) (16 + q) (by omega))) trivial ?_
          refine wp_l rfl rfl rfl (e_store_arr (f := w32) sz143 rfl (x' := ((((schTo (wTo blk 64) q).getD ((16 + q) - 7) 0 + (schTo (wTo blk 64) q).getD ((16 + q) - 16) 0) + (((rotl32 ((schTo (wTo blk 64) q).getD ((16 + q) - 2) 0) 15) ^^^ (rotl32 ((schTo (wTo blk 64) q).getD ((16 + q) - 2) 0) 13)) ^^^ (((schTo (wTo blk 64) q).getD ((16 + q) - 2) 0) >>> UInt32.ofNat 10))) + (((rotl32 ((schTo (wTo blk 64) q).getD ((16 + q) - 15) 0) 25) ^^^ (rotl32 ((schTo (wTo blk 64) q).getD ((16 + q) - 15) 0) 14)) ^^^ (((schTo (wTo blk 64) q).getD ((16 + q) - 15) 0) >>> UInt32.ofNat 3)))) rfl (i := 0) rfl (by first | omega | (simp only [wTo_len, schTo_len, addS_len, List.length_set, List.length_replicate] <;> omega) | (rw [hrl]; omega)) rfl) trivial ?_
          intro _
          refine aq_blk_normal ?_
          refine aq_seq ?_
          refine wc_region ?_
          refine wl_y (y_move rfl) ?_
          refine wl_y (y_bin rfl rfl (addn_i64 (a := (16 + q)) (b := 1) (by omega))) ?_
          refine wl_y (y_assign rfl) ?_
          refine wl_nil ?_
          refine aq_loop (q + 1) ?_ ?_ ⟨rfl, rfl, rfl, rfl, rfl, trivial⟩ (fun _ h => h)
          · omega
          · first | omega | (dsimp only; omega)
        · have hb2 : ¬ (((16 + q : Nat) : Int) < 64) := by simpa using hc2
          have hqe : q = 48 := by omega
          subst hqe
          refine wc_exit ?_
          refine aq_thru_exit ?_
          refine aq_thru_exit ?_
          refine aq_blk_exit ?_
          refine aq_seq ?_
          refine wc_seq ?_
          refine wc_drawM [(0, .q), (1, .q), (2, .q), (3, .q), (4, .q), (5, .q), (6, .q), (7, .q), (8, .q), (9, .q), (10, .q), (11, .q), (12, .q), (13, .q), (14, .q), (15, .q), (16, .q), (17, .q), (18, .q), (19, .q), (20, .q), (21, .q), (22, .q), (23, .q)] (by kernel_rfl) (by kernel_rfl) Mem.closed ?_
          refine wp_q rfl Mem.closed (fun _ h => h) Mem.closed rfl (q_of_yld (y_indexAddr_ar ar144 sz143 rfl rfl (by omega) (by omega) 0 (by omega))) trivial ?_
          refine wp_q rfl Mem.closed (fun _ h => h) Mem.closed rfl (q_of_yld (y_load sc143 rfl (c_blk (i := 2) rfl (arr_get (gd 0 (by first | omega | (simp only [wTo_len, schTo_len, addS_len, List.length_set, List.length_replicate] <;> omega) | (rw [hrl]; omega))))))) trivial ?_
          refine wp_q rfl Mem.closed (fun _ h => h) Mem.closed rfl (q_of_yld (y_indexAddr_ar ar144 sz143 rfl rfl (by omega) (by omega) 1 (by omega))) trivial ?_
          refine wp_q rfl Mem.closed (fun _ h => h) Mem.closed rfl (q_of_yld (y_load sc143 rfl (c_blk (i := 2) rfl (arr_get (gd 0 (by first | omega | (simp only [wTo_len, schTo_len, addS_len, List.length_set, List.length_replicate] <;> omega) | (rw [hrl]; omega))))))) trivial ?_
          refine wp_q rfl Mem.closed (fun _ h => h) Mem.closed rfl (q_of_yld (y_indexAddr_ar ar144 sz143 rfl rfl (by omega) (by omega) 2 (by omega))) trivial ?_
          refine wp_q rfl Mem.closed (fun _ h => h) Mem.closed rfl (q_of_yld (y_load sc143 rfl (c_blk (i := 2) rfl (arr_get (gd 0 (by first | omega | (simp only [wTo_len, schTo_len, addS_len, List.length_set, List.length_replicate] <;> omega) | (rw [hrl]; omega))))))) trivial ?_
          refine wp_q rfl Mem.closed (fun _ h => h) Mem.closed rfl (q_of_yld (y_indexAddr_ar ar144 sz143 rfl rfl (by omega) (by omega) 3 (by omega))) trivial ?_
          refine wp_q rfl Mem.closed (fun _ h => h) Mem.closed rfl (q_of_yld (y_load sc143 rfl (c_blk (i := 2) rfl (arr_get (gd 0 (by first | omega | (simp only [wTo_len, schTo_len, addS_len, List.length_set, List.length_replicate] <;> omega) | (rw [hrl]; omega))))))) trivial ?_
          refine wp_q rfl Mem.closed (fun _ h => h) Mem.closed rfl (q_of_yld (y_indexAddr_ar ar144 sz143 rfl rfl (by omega) (by omega) 4 (by omega))) trivial ?_
          refine wp_q rfl Mem.closed (fun _ h => h) Mem.closed rfl (q_of_yld (y_load sc143 rfl (c_blk (i := 2) rfl (arr_get (gd 0 (by first | omega | (simp only [wTo_len, schTo_len, addS_len, List.length_set, List.length_replicate] <;> omega) | (rw [hrl]; omega))))))) trivial ?_
          refine wp_q rfl Mem.closed (fun _ h => h) Mem.closed rfl (q_of_yld (y_indexAddr_ar ar144 sz143 rfl rfl (by omega) (by omega) 5 (by omega))) trivial ?_
          refine wp_q rfl Mem.closed (fun _ h => h) Mem.closed rfl (q_of_yld (y_load sc143 rfl (c_blk (i := 2) rfl (arr_get (gd 0 (by first | omega | (simp only [wTo_len, schTo_len, addS_len, List.length_set, List.length_replicate] <;> omega) | (rw [hrl]; omega))))))) trivial ?_
          refine wp_q rfl Mem.closed (fun _ h => h) Mem.closed rfl (q_of_yld (y_indexAddr_ar ar144 sz143 rfl rfl (by omega) (by omega) 6 (by omega))) trivial ?_
          refine wp_q rfl Mem.closed (fun _ h => h) Mem.closed rfl (q_of_yld (y_load sc143 rfl (c_blk (i := 2) rfl (arr_get (gd 0 (by first | omega | (simp only [wTo_len, schTo_len, addS_len, List.length_set, List.length_replicate] <;> omega) | (rw [hrl]; omega))))))) trivial ?_
          refine wp_q rfl Mem.closed (fun _ h => h) Mem.closed rfl (q_of_yld (y_indexAddr_ar ar144 sz143 rfl rfl (by omega) (by omega) 7 (by omega))) trivial ?_
          refine wp_q rfl Mem.closed (fun _ h => h) Mem.closed rfl (q_of_yld (y_load sc143 rfl (c_blk (i := 2) rfl (arr_get (gd 0 (by first | omega | (simp only [wTo_len, schTo_len, addS_len, List.length_set, List.length_replicate] <;> omega) | (rw [hrl]; omega))))))) trivial ?_
          refine wp_q rfl Mem.closed (fun _ h => h) Mem.closed rfl (q_of_yld (y_assign rfl)) trivial ?_
          refine wp_q rfl Mem.closed (fun _ h => h) Mem.closed rfl (q_of_yld (y_assign rfl)) trivial ?_
          refine wp_q rfl Mem.closed (fun _ h => h) Mem.closed rfl (q_of_yld (y_assign rfl)) trivial ?_
          refine wp_q rfl Mem.closed (fun _ h => h) Mem.closed rfl (q_of_yld (y_assign rfl)) trivial ?_
          refine wp_q rfl Mem.closed (fun _ h => h) Mem.closed rfl (q_of_yld (y_assign rfl)) trivial ?_
          refine wp_q rfl Mem.closed (fun _ h => h) Mem.closed rfl (q_of_yld (y_assign rfl)) trivial ?_
          refine wp_q rfl Mem.closed (fun _ h => h) Mem.closed rfl (q_of_yld (y_assign rfl)) trivial ?_
          refine wp_q rfl Mem.closed (fun _ h => h) Mem.closed rfl (q_of_yld (y_assign rfl)) trivial ?_
          refine wp_nil ?_
          refine aq_seq ?_
          refine wc_seq ?_
          refine wc_seq ?_
          refine wc_region ?_
          refine wl_y (y_move rfl) ?_
          refine wl_nil ?_
          refine aq_seq ?_
          refine wc_block ?_
          refine wc_loop (γ := Nat) (fun t => [(2, .pointer (some ⟨bk, 0, none⟩)), (3, .pointer (some ⟨b1, 0, none⟩)), (6, .pointer (some ⟨b2, 0, none⟩)), (7, .pointer (some ⟨b3, 0, none⟩)), (13, w32 (((rndTo kl (schTo (wTo blk 64) 48) s t).getD 0 0))), (14, w32 (((rndTo kl (schTo (wTo blk 64) 48) s t).getD 1 0))), (15, w32 (((rndTo kl (schTo (wTo blk 64) 48) s t).getD 2 0))), (16, w32 (((rndTo kl (schTo (wTo blk 64) 48) s t).getD 3 0))), (17, w32 (((rndTo kl (schTo (wTo blk 64) 48) s t).getD 4 0))), (18, w32 (((rndTo kl (schTo (wTo blk 64) 48) s t).getD 5 0))), (19, w32 (((rndTo kl (schTo (wTo blk 64) 48) s t).getD 6 0))), (20, w32 (((rndTo kl (schTo (wTo blk 64) 48) s t).getD 7 0))), (102, ki ((t : Int)))]) (fun t => Mem w [] [.blk b3 (.cells (arr w32 (schTo (wTo blk 64) 48)) 146 (0, 0)), .blk b2 (.cells (arr w32 (List.replicate 8 0)) 144 (0, 0)), .blk b1 (.cells (arr w32 s) 144 (0, 0))]) (fun t => (t ≤ 64)) (fun t => 64 - t) (0) ?_ ⟨rfl, rfl, rfl, rfl, rfl, rfl, rfl, rfl, rfl, rfl, rfl, rfl, rfl, trivial⟩ (fun _ h => h) ?_
          · omega
          · rintro t ht
            refine wc_seq ?_
            refine wc_region ?_
            refine wl_y (y_bin rfl rfl lss_i64) ?_
            refine wl_nil ?_
            refine aq_seq ?_
            refine wc_seq ?_
            refine wc_if rfl (fun hc3 => ?_) (fun hc3 => ?_)
            · have hb3 : (t : Int) < 64 := by simpa using hc3
              refine wc_skip ?_
              refine aq_seq ?_
              refine wc_seq ?_
              refine wc_block ?_
              refine wc_seq ?_
              refine wc_region ?_
              refine wl_y (y_move rfl) ?_
              refine wl_y (y_assign rfl) ?_
              refine wl_nil ?_
              refine aq_seq ?_
              refine wc_seq ?_
              refine wc_drawM [(0, .q), (1, .q), (2, .q), (3, .q), (4, .q), (5, .q), (6, .q), (7, .q), (8, .q), (9, .q), (10, .q), (11, .q), (12, .q), (13, .q), (14, .q), (15, .q), (16, .q), (17, .q), (18, .q), (19, .q), (20, .q), (21, .q), (22, .q)] (by kernel_rfl) (by kernel_rfl) Mem.closed ?_
              refine wp_q rfl Mem.closed (fun _ h => h) Mem.closed rfl (q_of_yld (y_move rfl)) trivial ?_
              refine wp_q rfl Mem.closed (fun _ h => h) Mem.closed rfl (q_of_yld (y_move rfl)) trivial ?_
              refine wp_q rfl Mem.closed (fun _ h => h) Mem.closed rfl (q_of_call cf99 rfl (fun w m => quiet_of_mem (three_ok w ((rndTo kl (schTo (wTo blk 64) 48) s t).getD 4 0) 6 11 25 26 21 7 (by decide) (by decide) (by decide) (by decide) (by decide) (by decide) (by decide) (by decide) (by decide) (by decide) (by decide) (by decide) (by decide) (by decide) (by decide)))) trivial ?_
              refine wp_q rfl Mem.closed (fun _ h => h) Mem.closed rfl (q_of_yld (y_bin rfl rfl (add_u32 ((rndTo kl (schTo (wTo blk 64) 48) s t).getD 7 0) (threeF ((rndTo kl (schTo (wTo blk 64) 48) s t).getD 4 0) 26 21 7)))) trivial ?_
              refine wp_q rfl Mem.closed (fun _ h => h) Mem.closed rfl (q_of_yld (y_move rfl)) trivial ?_
              refine wp_q rfl Mem.closed (fun _ h => h) Mem.closed rfl (q_of_yld (y_move rfl)) trivial ?_
              refine wp_q rfl Mem.closed (fun _ h => h) Mem.closed rfl (q_of_yld (y_move rfl)) trivial ?_
              refine wp_q rfl Mem.closed (fun _ h => h) Mem.closed rfl (q_of_yld (y_move rfl)) trivial ?_
              refine wp_q rfl Mem.closed (fun _ h => h) Mem.closed rfl (q_of_yld (y_bin rfl rfl (xor_u32 ((rndTo kl (schTo (wTo blk 64) 48) s t).getD 5 0) ((rndTo kl (schTo (wTo blk 64) 48) s t).getD 6 0)))) trivial ?_
              refine wp_q rfl Mem.closed (fun _ h => h) Mem.closed rfl (q_of_yld (y_bin rfl rfl (and_u32 ((rndTo kl (schTo (wTo blk 64) 48) s t).getD 4 0) (((rndTo kl (schTo (wTo blk 64) 48) s t).getD 5 0) ^^^ ((rndTo kl (schTo (wTo blk 64) 48) s t).getD 6 0))))) trivial ?_
              refine wp_q rfl Mem.closed (fun _ h => h) Mem.closed rfl (q_of_yld (y_bin rfl rfl (xor_u32 ((rndTo kl (schTo (wTo blk 64) 48) s t).getD 6 0) (((rndTo kl (schTo (wTo blk 64) 48) s t).getD 4 0) &&& (((rndTo kl (schTo (wTo blk 64) 48) s t).getD 5 0) ^^^ ((rndTo kl (schTo (wTo blk 64) 48) s t).getD 6 0)))))) trivial ?_
              refine wp_q rfl Mem.closed (fun _ h => h) Mem.closed rfl (q_of_yld (y_bin rfl rfl (add_u32 (((rndTo kl (schTo (wTo blk 64) 48) s t).getD 7 0) + threeF ((rndTo kl (schTo (wTo blk 64) 48) s t).getD 4 0) 26 21 7) (((rndTo kl (schTo (wTo blk 64) 48) s t).getD 6 0) ^^^ (((rndTo kl (schTo (wTo blk 64) 48) s t).getD 4 0) &&& (((rndTo kl (schTo (wTo blk 64) 48) s t).getD 5 0) ^^^ ((rndTo kl (schTo (wTo blk 64) 48) s t).getD 6 0))))))) trivial ?_
              refine wp_q rfl Mem.closed (fun _ h => h) Mem.closed rfl (q_of_yld (y_move rfl)) trivial ?_
              refine wp_q rfl Mem.closed (fun _ h => h) Mem.closed rfl (q_of_yld (y_move rfl)) trivial ?_
              refine wp_q rfl Mem.closed (fun _ h => h) Mem.closed rfl (q_of_yld (y_nilCheck rfl)) trivial ?_
              refine wp_q rfl Mem.closed (fun _ h => h) Mem.closed rfl (q_of_yld (y_indexAddr_ar ar146 sz143 rfl rfl (by omega) (by omega) t (by omega))) trivial ?_
              refine wp_q rfl Mem.closed (fun _ h => h) Mem.closed rfl (q_of_yld (y_load sc143 rfl (c_rop (f := w32) (fun w m => m.rd0 hk) (gd 0 (by first | omega | (simp only [wTo_len, schTo_len, addS_len, List.length_set, List.length_replicate] <;> omega) | (rw [hrl]; omega)))))) trivial ?_
              refine wp_q rfl Mem.closed (fun _ h => h) Mem.closed rfl (q_of_yld (y_bin rfl rfl (add_u32 ((((rndTo kl (schTo (wTo blk 64) 48) s t).getD 7 0) + threeF ((rndTo kl (schTo (wTo blk 64) 48) s t).getD 4 0) 26 21 7) + (((rndTo kl (schTo (wTo blk 64) 48) s t).getD 6 0) ^^^ (((rndTo kl (schTo (wTo blk 64) 48) s t).getD 4 0) &&& (((rndTo kl (schTo (wTo blk 64) 48) s t).getD 5 0) ^^^ ((rndTo kl (schTo (wTo blk 64) 48) s t).getD 6 0))))) (kl.getD t 0)))) trivial ?_
              refine wp_q rfl Mem.closed (fun _ h => h) Mem.closed rfl (q_of_yld (y_move rfl)) trivial ?_
              refine wp_q rfl Mem.closed (fun _ h => h) Mem.closed rfl (q_of_yld (y_indexAddr_ar ar146 sz143 rfl rfl (by omega) (by omega) t (by omega))) trivial ?_
              refine wp_q rfl Mem.closed (fun _ h => h) Mem.closed rfl (q_of_yld (y_load sc143 rfl (c_blk (i := 0) rfl (arr_get (gd 0 (by first | omega | (simp only [wTo_len, schTo_len, addS_len, List.length_set, List.length_replicate] <;> omega) | (rw [hrl]; omega))))))) trivial ?_
              refine wp_q rfl Mem.closed (fun _ h => h) Mem.closed rfl (q_of_yld (y_bin rfl rfl (add_u32 (((((rndTo kl (schTo (wTo blk 64) 48) s t).getD 7 0) + threeF ((rndTo kl (schTo (wTo blk 64) 48) s t).getD 4 0) 26 21 7) + (((rndTo kl (schTo (wTo blk 64) 48) s t).getD 6 0) ^^^ (((rndTo kl (schTo (wTo blk 64) 48) s t).getD 4 0) &&& (((rndTo kl (schTo (wTo blk 64) 48) s t).getD 5 0) ^^^ ((rndTo kl (schTo (wTo blk 64) 48) s t).getD 6 0))))) + kl.getD t 0) ((schTo (wTo blk 64) 48).getD t 0)))) trivial ?_
              refine wp_q rfl Mem.closed (fun _ h => h) Mem.closed rfl (q_of_yld (y_assign rfl)) trivial ?_
              refine wp_nil ?_
              refine aq_seq ?_
              refine wc_seq ?_
              refine wc_region ?_
              refine wl_y (y_move rfl) ?_
              refine wl_eff (e_call0 cf99 rfl (fun w m => three_ok w ((rndTo kl (schTo (wTo blk 64) 48) s t).getD 0 0) 2 13 22 30 19 10 (by decide) (by decide) (by decide) (by decide) (by decide) (by decide) (by decide) (by decide) (by decide) (by decide) (by decide) (by decide) (by decide) (by decide) (by decide))) rfl trivial rfl ?_
              intro _
              refine wl_y (y_move rfl) ?_
              refine wl_y (y_move rfl) ?_
              refine wl_y (y_bin rfl rfl (and_u32 ((rndTo kl (schTo (wTo blk 64) 48) s t).getD 0 0) ((rndTo kl (schTo (wTo blk 64) 48) s t).getD 1 0))) ?_
              refine wl_y (y_move rfl) ?_
              refine wl_y (y_move rfl) ?_
              refine wl_y (y_move rfl) ?_
              refine wl_y (y_bin rfl rfl (or_u32 ((rndTo kl (schTo (wTo blk 64) 48) s t).getD 0 0) ((rndTo kl (schTo (wTo blk 64) 48) s t).getD 1 0))) ?_
              refine wl_y (y_bin rfl rfl (and_u32 ((rndTo kl (schTo (wTo blk 64) 48) s t).getD 2 0) (((rndTo kl (schTo (wTo blk 64) 48) s t).getD 0 0) ||| ((rndTo kl (schTo (wTo blk 64) 48) s t).getD 1 0)))) ?_
              refine wl_y (y_bin rfl rfl (or_u32 (((rndTo kl (schTo (wTo blk 64) 48) s t).getD 0 0) &&& ((rndTo kl (schTo (wTo blk 64) 48) s t).getD 1 0)) (((rndTo kl (schTo (wTo blk 64) 48) s t).getD 2 0) &&& (((rndTo kl (schTo (wTo blk 64) 48) s t).getD 0 0) ||| ((rndTo kl (schTo (wTo blk 64) 48) s t).getD 1 0))))) ?_
              refine wl_y (y_bin rfl rfl (add_u32 (threeF ((rndTo kl (schTo (wTo blk 64) 48) s t).getD 0 0) 30 19 10) ((((rndTo kl (schTo (wTo blk 64) 48) s t).getD 0 0) &&& ((rndTo kl (schTo (wTo blk 64) 48) s t).getD 1 0)) ||| (((rndTo kl (schTo (wTo blk 64) 48) s t).getD 2 0) &&& (((rndTo kl (schTo (wTo blk 64) 48) s t).getD 0 0) ||| ((rndTo kl (schTo (wTo blk 64) 48) s t).getD 1 0)))))) ?_
              refine wl_y (y_assign rfl) ?_
              refine wl_nil ?_
              refine aq_seq ?_
              refine wc_region ?_
              refine wl_y (y_move rfl) ?_
              refine wl_y (y_move rfl) ?_
              refine wl_y (y_bin rfl rfl (add_u32 ((((((rndTo kl (schTo (wTo blk 64) 48) s t).getD 7 0) + threeF ((rndTo kl (schTo (wTo blk 64) 48) s t).getD 4 0) 26 21 7) + (((rndTo kl (schTo (wTo blk 64) 48) s t).getD 6 0) ^^^ (((rndTo kl (schTo (wTo blk 64) 48) s t).getD 4 0) &&& (((rndTo kl (schTo (wTo blk 64) 48) s t).getD 5 0) ^^^ ((rndTo kl (schTo (wTo blk 64) 48) s t).getD 6 0))))) + kl.getD t 0) + (schTo (wTo blk 64) 48).getD t 0) (threeF ((rndTo kl (schTo (wTo blk 64) 48) s t).getD 0 0) 30 19 10 + ((((rndTo kl (schTo (wTo blk 64) 48) s t).getD 0 0) &&& ((rndTo kl (schTo (wTo blk 64) 48) s t).getD 1 0)) ||| (((rndTo kl (schTo (wTo blk 64) 48) s t).getD 2 0) &&& (((rndTo kl (schTo (wTo blk 64) 48) s t).getD 0 0) ||| ((rndTo kl (schTo (wTo blk 64) 48) s t).getD 1 0))))))) ?_
              refine wl_y (y_move rfl) ?_
              refine wl_y (y_move rfl) ?_
              refine wl_y (y_move rfl) ?_
              refine wl_y (y_move rfl) ?_
              refine wl_y (y_move rfl) ?_
              refine wl_y (y_bin rfl rfl (add_u32 ((rndTo kl (schTo (wTo blk 64) 48) s t).getD 3 0) ((((((rndTo kl (schTo (wTo blk 64) 48) s t).getD 7 0) + threeF ((rndTo kl (schTo (wTo blk 64) 48) s t).getD 4 0) 26 21 7) + (((rndTo kl (schTo (wTo blk 64) 48) s t).getD 6 0) ^^^ (((rndTo kl (schTo (wTo blk 64) 48) s t).getD 4 0) &&& (((rndTo kl (schTo (wTo blk 64) 48) s t).getD 5 0) ^^^ ((rndTo kl (schTo (wTo blk 64) 48) s t).getD 6 0))))) + kl.getD t 0) + (schTo (wTo blk 64) 48).getD t 0))) ?_
              refine wl_y (y_move rfl) ?_
              refine wl_y (y_move rfl) ?_
              refine wl_y (y_move rfl) ?_
              refine wl_y (y_assign rfl) ?_
              refine wl_y (y_assign rfl) ?_
              refine wl_y (y_assign rfl) ?_
              refine wl_y (y_assign rfl) ?_
              refine wl_y (y_assign rfl) ?_
              refine wl_y (y_assign rfl) ?_
              refine wl_y (y_assign rfl) ?_
              refine wl_y (y_assign rfl) ?_
              refine wl_nil ?_
              refine aq_blk_normal ?_
              refine aq_seq ?_
              refine wc_region ?_
              refine wl_y (y_bin rfl rfl (addn_i64 (a := t) (b := 1) (by omega))) ?_
              refine wl_y (y_move rfl) ?_
              refine wl_nil ?_
              refine aq_loop (t + 1) ?_ ?_ ⟨rfl, rfl, rfl, rfl, rfl, rfl, rfl, rfl, rfl, rfl, rfl, rfl, rfl, trivial⟩ (fun _ h => h)
              · omega
              · first | omega | (dsimp only; omega)
            · have hb3 : ¬ ((t : Int) < 64) := by simpa using hc3
              have hte : t = 64 := by omega
              subst hte
              refine wc_exit ?_
              refine aq_thru_exit ?_
              refine aq_thru_exit ?_
              refine aq_blk_exit ?_
              refine aq_seq ?_
              refine wc_seq ?_
              refine wc_seq ?_
              refine wc_region ?_
              refine wl_y (y_move rfl) ?_
              refine wl_y (y_move rfl) ?_
              refine wl_y (y_move rfl) ?_
              refine wl_y (y_move rfl) ?_
              refine wl_y (y_move rfl) ?_
              refine wl_y (y_move rfl) ?_
              refine wl_y (y_move rfl) ?_
              refine wl_y (y_move rfl) ?_
              refine wl_y (y_build_ar (cs := #[w32 (((rndTo kl (schTo (wTo blk 64) 48) s 64).getD 0 0)), w32 (((rndTo kl (schTo (wTo blk 64) 48) s 64).getD 1 0)), w32 (((rndTo kl (schTo (wTo blk 64) 48) s 64).getD 2 0)), w32 (((rndTo kl (schTo (wTo blk 64) 48) s 64).getD 3 0)), w32 (((rndTo kl (schTo (wTo blk 64) 48) s 64).getD 4 0)), w32 (((rndTo kl (schTo (wTo blk 64) 48) s 64).getD 5 0)), w32 (((rndTo kl (schTo (wTo blk 64) 48) s 64).getD 6 0)), w32 (((rndTo kl (schTo (wTo blk 64) 48) s 64).getD 7 0))]) [(0, w32 (((rndTo kl (schTo (wTo blk 64) 48) s 64).getD 0 0))), (1, w32 (((rndTo kl (schTo (wTo blk 64) 48) s 64).getD 1 0))), (2, w32 (((rndTo kl (schTo (wTo blk 64) 48) s 64).getD 2 0))), (3, w32 (((rndTo kl (schTo (wTo blk 64) 48) s 64).getD 3 0))), (4, w32 (((rndTo kl (schTo (wTo blk 64) 48) s 64).getD 4 0))), (5, w32 (((rndTo kl (schTo (wTo blk 64) 48) s 64).getD 5 0))), (6, w32 (((rndTo kl (schTo (wTo blk 64) 48) s 64).getD 6 0))), (7, w32 (((rndTo kl (schTo (wTo blk 64) 48) s 64).getD 7 0)))] ar144 sz143 zn144 rfl (by kernel_rfl)) ?_
              refine wl_re (t := 160) (v' := .agg (arr w32 (rndTo kl (schTo (wTo blk 64) 48) s 64))) rfl (agg8 (hrl 64)) ?_
              refine wl_y (y_move rfl) ?_
              refine wl_nil ?_
              refine aq_seq ?_
              refine wc_block ?_
              refine wc_loop (γ := Nat) (fun i => [(3, .pointer (some ⟨b1, 0, none⟩)), (6, .pointer (some ⟨b2, 0, none⟩)), (160, .agg (arr w32 (rndTo kl (schTo (wTo blk 64) 48) s 64))), (161, ki ((i : Int)))]) (fun i => Mem w [] [.blk b3 (.cells (arr w32 (schTo (wTo blk 64) 48)) 146 (0, 0)), .blk b2 (.cells (arr w32 (List.replicate 8 0)) 144 (0, 0)), .blk b1 (.cells (arr w32 (addS s (rndTo kl (schTo (wTo blk 64) 48) s 64) i)) 144 (0, 0))]) (fun i => (i ≤ 8)) (fun i => 8 - i) (0) ?_ ⟨rfl, rfl, rfl, rfl, trivial⟩ (fun _ h => h) ?_
              · omega
              · rintro i hi8
                refine wc_seq ?_
                refine wc_region ?_
                refine wl_y (y_bin rfl rfl lss_i64) ?_
                refine wl_nil ?_
                refine aq_seq ?_
                refine wc_seq ?_
                refine wc_if rfl (fun hc4 => ?_) (fun hc4 => ?_)
                · have hb4 : (i : Int) < 8 := by simpa using hc4
                  refine wc_skip ?_
                  refine aq_seq ?_
                  refine wc_seq ?_
                  refine wc_block ?_
                  refine wc_seq ?_
                  refine wc_region ?_
                  refine wl_y (y_move rfl) ?_
                  refine wl_y (y_index_ar ar144 sz143 sc143 rfl rfl (by omega) (by omega) (arr_get (gd 0 (by first | omega | (simp only [wTo_len, schTo_len, addS_len, List.length_set, List.length_replicate] <;> omega) | (rw [hrl]; omega))))) ?_
                  refine wl_y (y_assign rfl) ?_
                  refine wl_y (y_assign rfl) ?_
                  refine wl_nil ?_
                  refine aq_seq ?_
                  refine wc_region ?_
                  refine wl_y (y_move rfl) ?_
                  refine wl_y (y_indexAddr_ar ar144 sz143 rfl rfl (by omega) (by omega) i (by omega)) ?_
                  refine wl_y (y_load sc143 rfl (c_blk (i := 2) rfl (arr_get (gd 0 (by first | omega | (simp only [wTo_len, schTo_len, addS_len, List.length_set, List.length_replicate] <;> omega) | (rw [hrl]; omega)))))) ?_
                  refine wl_y (y_move rfl) ?_
                  refine wl_y (y_bin rfl rfl (add_u32 ((addS s (rndTo kl (schTo (wTo blk 64) 48) s 64) i).getD i 0) ((rndTo kl (schTo (wTo blk 64) 48) s 64).getD i 0))) ?_
                  refine wl_y (y_indexAddr_ar ar144 sz143 rfl rfl (by omega) (by omega) i (by omega)) ?_
                  refine wl_eff (e_store_arr (f := w32) sz143 rfl (x' := ((addS s (rndTo kl (schTo (wTo blk 64) 48) s 64) i).getD i 0 + (rndTo kl (schTo (wTo blk 64) 48) s 64).getD i 0)) rfl (i := 2) rfl (by first | omega | (simp only [wTo_len, schTo_len, addS_len, List.length_set, List.length_replicate] <;> omega) | (rw [hrl]; omega)) ⟨_, rfl, ⟨_, rfl, rfl⟩⟩) rfl trivial rfl ?_
                  intro _
                  refine wl_nil ?_
                  refine aq_blk_normal ?_
                  refine aq_seq ?_
                  refine wc_region ?_
                  refine wl_y (y_bin rfl rfl (addn_i64 (a := i) (b := 1) (by omega))) ?_
                  refine wl_y (y_move rfl) ?_
                  refine wl_nil ?_
                  refine aq_loop (i + 1) ?_ ?_ ⟨rfl, rfl, rfl, rfl, trivial⟩ (fun _ h => h)
                  · omega
                  · first | omega | (dsimp only; omega)
                · have hb4 : ¬ ((i : Int) < 8) := by simpa using hc4
                  have hi8e : i = 8 := by omega
                  subst hi8e
                  refine wc_exit ?_
                  refine aq_thru_exit ?_
                  refine aq_thru_exit ?_
                  refine aq_blk_exit ?_
                  refine aq_seq ?_
                  refine wc_seq ?_
                  refine wc_region ?_
                  refine wl_y (y_loadall ag144 rfl (i := 2) rfl (by first | (simp; done) | (simp [*]; done) | (simp; omega))) ?_
                  refine wl_eff (e_storeall sz144 rfl rfl (i := 1) rfl (by first | (simp; done) | (simp [*]; done) | (simp; omega)) (by first | (simp; done) | (simp [*]; done) | (simp; omega)) (arr_one _) ⟨_, rfl, rfl⟩) rfl trivial rfl ?_
                  intro _
                  refine wl_nil ?_
                  refine aq_seq ?_
                  refine wc_ret ?_
                  refine aq_return (.inl rfl) rfl (⟨_, _, _, rfl, fun w m => run_loadVar_all ag144 (m.blk (i := 1) rfl) (by first | (simp; done) | (simp [*]; done) | (simp; omega)), rfl, rfl⟩) ?_
                  intro w' m
                  exact ⟨(), rfl, m.pick (is := []) rfl (by decide)⟩

end Go.Proofs.YtjibkjoaamchoaaGreatDoor
