/- Lemmas and contracts for the proof of this seat's statements (Ref2F). No condition. -/
import Derived.Test.YtjibkjoaamchoaaGreatDoorEBk
import Derived.Test.YtjibkjoaamchoaaGreatDoorProg
import Derived.KernelRfl
import Derived.Test.YtjibkjoaamchoaaGreatDoorEPlaA
import Derived.Test.YtjibkjoaamchoaaGreatDoorESumF
set_option linter.all false
namespace Go.Proofs.YtjibkjoaamchoaaGreatDoor
open Go.Mc
private def lit_76dcfbfb : Array Value := #[b8 (0), b8 (0), b8 (0), b8 (0), b8 (0), b8 (0), b8 (0), b8 (0), b8 (0), b8 (0), b8 (0), b8 (0), b8 (0), b8 (0), b8 (0), b8 (0), b8 (0), b8 (0), b8 (0), b8 (0), b8 (0), b8 (0), b8 (0), b8 (0), b8 (0), b8 (0), b8 (0), b8 (0), b8 (0), b8 (0), b8 (0), b8 (0)]
private def lit_e567953e : Array Value := #[w32 (1116352408), w32 (1899447441), w32 (3049323471), w32 (3921009573), w32 (961987163), w32 (1508970993), w32 (2453635748), w32 (2870763221), w32 (3624381080), w32 (310598401), w32 (607225278), w32 (1426881987), w32 (1925078388), w32 (2162078206), w32 (2614888103), w32 (3248222580), w32 (3835390401), w32 (4022224774), w32 (264347078), w32 (604807628), w32 (770255983), w32 (1249150122), w32 (1555081692), w32 (1996064986), w32 (2554220882), w32 (2821834349), w32 (2952996808), w32 (3210313671), w32 (3336571891), w32 (3584528711), w32 (113926993), w32 (338241895), w32 (666307205), w32 (773529912), w32 (1294757372), w32 (1396182291), w32 (1695183700), w32 (1986661051), w32 (2177026350), w32 (2456956037), w32 (2730485921), w32 (2820302411), w32 (3259730800), w32 (3345764771), w32 (3516065817), w32 (3600352804), w32 (4094571909), w32 (275423344), w32 (430227734), w32 (506948616), w32 (659060556), w32 (883997877), w32 (958139571), w32 (1322822218), w32 (1537002063), w32 (1747873779), w32 (1955562222), w32 (2024104815), w32 (2227730452), w32 (2361852424), w32 (2428436474), w32 (2756734187), w32 (3204031479), w32 (3329325298)]
private theorem zn146 : znB Tryz.prog 146 (.agg (arr w32 (List.replicate 64 0))) := by unfold znB; kernel_rfl
private theorem ar146 : arB Tryz.prog 146 64 143 = true := by kernel_rfl
private theorem sz143 : szB Tryz.prog 143 1 = true := by kernel_rfl
private theorem sz146 : szB Tryz.prog 146 64 = true := by kernel_rfl
private theorem ag146 : agB Tryz.prog 146 64 = true := by kernel_rfl
private theorem zn144 : znB Tryz.prog 144 (.agg (arr w32 (List.replicate 8 0))) := by unfold znB; kernel_rfl
private theorem ar144 : arB Tryz.prog 144 8 143 = true := by kernel_rfl
private theorem sz144 : szB Tryz.prog 144 8 = true := by kernel_rfl
private theorem ag144 : agB Tryz.prog 144 8 = true := by kernel_rfl
private theorem ar52 : arB Tryz.prog 52 64 5 = true := by kernel_rfl
private theorem sz5 : szB Tryz.prog 5 1 = true := by kernel_rfl
private theorem sc5 : scB Tryz.prog 5 = true := by kernel_rfl
private theorem us5 : (Tryz.prog.underlying 5).isSome = true := by kernel_rfl
private theorem ui143 : Tryz.prog.underlying 143 = some (.int .u32) := by kernel_rfl
private theorem sc143 : scB Tryz.prog 143 = true := by kernel_rfl
private theorem cf100 : cfB Tryz.prog 100 = true := by kernel_rfl
private theorem cf101 : cfB Tryz.prog 101 = true := by kernel_rfl
private theorem sl22 : slB Tryz.prog 22 5 = true := by kernel_rfl
private theorem el5 : elB Tryz.prog 5 1 1 (b8 (0)) := elB_of (by kernel_rfl) (by kernel_rfl) (by unfold znB; kernel_rfl)
private theorem us3 : (Tryz.prog.underlying 3).isSome = true := by kernel_rfl
private theorem ui72 : Tryz.prog.underlying 72 = some (.int .u64) := by kernel_rfl
private theorem us72 : (Tryz.prog.underlying 72).isSome = true := by kernel_rfl
private theorem ui5 : Tryz.prog.underlying 5 = some (.int .u8) := by kernel_rfl
private theorem zn56 : znB Tryz.prog 56 (.agg (arr b8 (List.replicate 32 0))) := by unfold znB; kernel_rfl
private theorem ar56 : arB Tryz.prog 56 32 5 = true := by kernel_rfl
private theorem sz56 : szB Tryz.prog 56 32 = true := by kernel_rfl
private theorem ag56 : agB Tryz.prog 56 32 = true := by kernel_rfl
private theorem cf90 : cfB Tryz.prog 90 = true := by kernel_rfl
private theorem cf91 : cfB Tryz.prog 91 = true := by kernel_rfl
private theorem zn52 : znB Tryz.prog 52 (.agg (arr b8 (List.replicate 64 0))) := by unfold znB; kernel_rfl
private theorem ag52 : agB Tryz.prog 52 64 = true := by kernel_rfl
private theorem cf92 : cfB Tryz.prog 92 = true := by kernel_rfl
private theorem us143 : (Tryz.prog.underlying 143).isSome = true := by kernel_rfl
theorem turn_ok (w : World) (x : UInt32) (n : Nat) (h0 : 0 < n) (h1 : n < 32) :
    Calls Tryz.prog 100 #[w32 (x), ki ((n : Int))] w (Ret (fun _ : Unit => w32 (rotl32 x (32 - n))) (fun _ => Mem w [] [])) := by
  refine calls_of Tryz.func100 rfl rfl (L := [(0, w32 (x)), (1, ki ((n : Int)))]) ⟨rfl, rfl, trivial⟩ (m := 13) (Nat.le_of_ble_eq_true rfl) (M := Mem w [] []) (Mem.refl w) ?_
  refine wc_seq ?_
  refine wc_region ?_
  refine wl_y (y_assign rfl) ?_
  refine wl_nil ?_
  refine aq_seq ?_
  refine wc_seq ?_
  refine wc_drawM [(0, .q), (1, .q), (2, .q), (3, .q), (4, .q), (5, .q), (6, .q), (7, .q), (8, .q)] (by kernel_rfl) (by kernel_rfl) Mem.closed ?_
  refine wp_q rfl Mem.closed (fun _ h => h) Mem.closed rfl (q_of_yld (y_move rfl)) trivial ?_
  refine wp_q rfl Mem.closed (fun _ h => h) Mem.closed rfl (q_of_yld (y_move rfl)) trivial ?_
  refine wp_q rfl Mem.closed (fun _ h => h) Mem.closed rfl (q_of_yld (y_bin rfl rfl (shr_u32 x (q := .i64) n (by omega) (by omega)))) trivial ?_
  refine wp_q rfl Mem.closed (fun _ h => h) Mem.closed rfl (q_of_yld (y_move rfl)) trivial ?_
  refine wp_q rfl Mem.closed (fun _ h => h) Mem.closed rfl (q_of_yld (y_move rfl)) trivial ?_
  refine wp_q rfl Mem.closed (fun _ h => h) Mem.closed rfl (q_of_yld (y_bin rfl rfl (subn_i64 (a := 32) (b := n) (by omega) (by omega)))) trivial ?_
  refine wp_q rfl Mem.closed (fun _ h => h) Mem.closed rfl (q_of_yld (y_bin rfl rfl (shl_u32 x (q := .i64) (32 - n) (by omega) (by omega)))) trivial ?_
  refine wp_q rfl Mem.closed (fun _ h => h) Mem.closed rfl (q_of_yld (y_bin rfl rfl (or_u32 (x >>> UInt32.ofNat n) (x <<< UInt32.ofNat (32 - n))))) trivial ?_
  refine wp_re (t := 12) (v' := w32 ((rotl32 x (32 - n)))) rfl (congrArg w32 (turn_eq x h0 h1)) ?_
  refine wp_q rfl Mem.closed (fun _ h => h) Mem.closed rfl (q_of_yld (y_assign rfl)) trivial ?_
  refine wp_nil ?_
  refine aq_seq ?_
  refine wc_ret ?_
  refine aq_return (.inl rfl) rfl (⟨_, _, rfl, rfl, rfl⟩) ?_
  intro w' m
  exact ⟨(), rfl, m.pick (is := []) rfl (by decide)⟩

theorem rwords_ok (w : World) :
    Calls Tryz.prog 101 #[] w (Ret (fun _ : Unit => .agg (arr w32 wordsL)) (fun _ => Mem w [] [])) := by
  refine calls_of Tryz.func101 rfl rfl (L := []) trivial (m := 2) (Nat.le_of_ble_eq_true rfl) (M := Mem w [] []) (Mem.refl w) ?_
  refine wc_seq ?_
  refine wc_region ?_
  refine wl_eff (e_alloc (cs := arr w32 (List.replicate 64 0)) zn146) rfl trivial rfl ?_
  intro b1
  refine wl_nil ?_
  refine aq_seq ?_
  refine wc_seq ?_
  refine wc_region ?_
  refine wl_y (y_build_ar (cs := lit_e567953e) [(0, w32 (1116352408)), (1, w32 (1899447441)), (2, w32 (3049323471)), (3, w32 (3921009573)), (4, w32 (961987163)), (5, w32 (1508970993)), (6, w32 (2453635748)), (7, w32 (2870763221)), (8, w32 (3624381080)), (9, w32 (310598401)), (10, w32 (607225278)), (11, w32 (1426881987)), (12, w32 (1925078388)), (13, w32 (2162078206)), (14, w32 (2614888103)), (15, w32 (3248222580)), (16, w32 (3835390401)), (17, w32 (4022224774)), (18, w32 (264347078)), (19, w32 (604807628)), (20, w32 (770255983)), (21, w32 (1249150122)), (22, w32 (1555081692)), (23, w32 (1996064986)), (24, w32 (2554220882)), (25, w32 (2821834349)), (26, w32 (2952996808)), (27, w32 (3210313671)), (28, w32 (3336571891)), (29, w32 (3584528711)), (30, w32 (113926993)), (31, w32 (338241895)), (32, w32 (666307205)), (33, w32 (773529912)), (34, w32 (1294757372)), (35, w32 (1396182291)), (36, w32 (1695183700)), (37, w32 (1986661051)), (38, w32 (2177026350)), (39, w32 (2456956037)), (40, w32 (2730485921)), (41, w32 (2820302411)), (42, w32 (3259730800)), (43, w32 (3345764771)), (44, w32 (3516065817)), (45, w32 (3600352804)), (46, w32 (4094571909)), (47, w32 (275423344)), (48, w32 (430227734)), (49, w32 (506948616)), (50, w32 (659060556)), (51, w32 (883997877)), (52, w32 (958139571)), (53, w32 (1322822218)), (54, w32 (1537002063)), (55, w32 (1747873779)), (56, w32 (1955562222)), (57, w32 (2024104815)), (58, w32 (2227730452)), (59, w32 (2361852424)), (60, w32 (2428436474)), (61, w32 (2756734187)), (62, w32 (3204031479)), (63, w32 (3329325298))] ar146 sz143 zn146 rfl (by kernel_rfl)) ?_
  refine wl_re (t := 1) (v' := .agg (arr w32 wordsL)) rfl (rfl) ?_
  refine wl_eff (e_storeall sz146 rfl rfl (i := 0) rfl (by first | rfl | (simp; done)) (by first | rfl | (simp; done)) (arr_one _) rfl) rfl trivial rfl ?_
  intro _
  refine wl_nil ?_
  refine aq_seq ?_
  refine wc_ret ?_
  refine aq_return (.inl rfl) rfl (⟨_, _, _, rfl, fun w m => run_loadVar_all ag146 (m.blk (i := 0) rfl) (by first | rfl | (simp; done)), rfl, rfl⟩) ?_
  intro w' m
  exact ⟨(), rfl, m.pick (is := []) rfl (by decide)⟩

theorem rbegin_ok (w : World) :
    Calls Tryz.prog 91 #[] w (Ret (fun _ : Unit => .agg (arr w32 beginL)) (fun _ => Mem w [] [])) := by
  refine calls_of Tryz.func91 rfl rfl (L := []) trivial (m := 2) (Nat.le_of_ble_eq_true rfl) (M := Mem w [] []) (Mem.refl w) ?_
  refine wc_seq ?_
  refine wc_region ?_
  refine wl_eff (e_alloc (cs := arr w32 (List.replicate 8 0)) zn144) rfl trivial rfl ?_
  intro b1
  refine wl_nil ?_
  refine aq_seq ?_
  refine wc_seq ?_
  refine wc_region ?_
  refine wl_y (y_build_ar (cs := #[w32 (1779033703), w32 (3144134277), w32 (1013904242), w32 (2773480762), w32 (1359893119), w32 (2600822924), w32 (528734635), w32 (1541459225)]) [(0, w32 (1779033703)), (1, w32 (3144134277)), (2, w32 (1013904242)), (3, w32 (2773480762)), (4, w32 (1359893119)), (5, w32 (2600822924)), (6, w32 (528734635)), (7, w32 (1541459225))] ar144 sz143 zn144 rfl (by kernel_rfl)) ?_
  refine wl_re (t := 1) (v' := .agg (arr w32 beginL)) rfl (rfl) ?_
  refine wl_eff (e_storeall sz144 rfl rfl (i := 0) rfl (by first | rfl | (simp; done)) (by first | rfl | (simp; done)) (arr_one _) rfl) rfl trivial rfl ?_
  intro _
  refine wl_nil ?_
  refine aq_seq ?_
  refine wc_ret ?_
  refine aq_return (.inl rfl) rfl (⟨_, _, _, rfl, fun w m => run_loadVar_all ag144 (m.blk (i := 0) rfl) (by first | rfl | (simp; done)), rfl, rfl⟩) ?_
  intro w' m
  exact ⟨(), rfl, m.pick (is := []) rfl (by decide)⟩

theorem rblock_ok (w : World) (s : List UInt32) (blk : List UInt8) (hs : s.length = 8) (hb : blk.length = 64) :
    Calls Tryz.prog 92 #[.agg (arr w32 s), .agg (arr b8 blk)] w (Ret (fun _ : Unit => .agg (arr w32 (furF s blk wordsL))) (fun _ => Mem w [] [])) := by
  have hrl := rndR_len wordsL (schR (wR blk 16) 48) hs
  have hwl : wordsL.length = 64 := rfl
  refine calls_of Tryz.func92 rfl rfl (L := [(0, .agg (arr w32 s)), (1, .agg (arr b8 blk))]) ⟨rfl, rfl, trivial⟩ (m := 192) (Nat.le_of_ble_eq_true rfl) (M := Mem w [] []) (Mem.refl w) ?_
  refine wc_seq ?_
  refine wc_region ?_
  refine wl_eff (e_box (cs := arr w32 s) rfl) rfl trivial rfl ?_
  intro b1
  refine wl_eff (e_box (cs := arr b8 blk) rfl) rfl trivial rfl ?_
  intro b2
  refine wl_eff (e_alloc (cs := arr w32 (List.replicate 8 0)) zn144) rfl trivial rfl ?_
  intro b3
  refine wl_nil ?_
  refine aq_seq ?_
  refine wc_seq ?_
  refine wc_region ?_
  refine wl_eff (e_alloc (cs := arr w32 (List.replicate 64 0)) zn146) rfl trivial rfl ?_
  intro b4
  refine wl_nil ?_
  refine aq_seq ?_
  refine wc_seq ?_
  refine wc_seq ?_
  refine wc_region ?_
  refine wl_y (y_assign rfl) ?_
  refine wl_nil ?_
  refine aq_seq ?_
  refine wc_block ?_
  refine wc_loop (γ := Nat) (fun t => [(2, .pointer (some ⟨b1, 0, none⟩)), (3, .pointer (some ⟨b2, 0, none⟩)), (4, .pointer (some ⟨b3, 0, none⟩)), (5, .pointer (some ⟨b4, 0, none⟩)), (6, ki ((t : Int)))]) (fun t => Mem w [] [.blk b4 (.cells (arr w32 (wR blk t)) 146 (0, 0)), .blk b3 (.cells (arr w32 (List.replicate 8 0)) 144 (0, 0)), .blk b2 (.cells (arr b8 blk) 52 (0, 0)), .blk b1 (.cells (arr w32 s) 144 (0, 0))]) (fun t => (t ≤ 16)) (fun t => 16 - t) (0) ?_ ⟨rfl, rfl, rfl, rfl, rfl, trivial⟩ (fun _ h => h) ?_
  · omega
  · rintro t ht
    refine wc_seq ?_
    refine wc_seq ?_
    refine wc_region ?_
    refine wl_y (y_move rfl) ?_
    refine wl_y (y_bin rfl rfl lss_i64) ?_
    refine wl_nil ?_
    refine aq_seq ?_
    refine wc_if rfl (fun hc1 => ?_) (fun hc1 => ?_)
    · have hb1 : (t : Int) < 16 := by simpa using hc1
      refine wc_skip ?_
      refine aq_seq ?_
      refine wc_seq ?_
      refine wc_block ?_
      refine wc_drawM [(0, .q), (1, .q), (2, .q), (3, .q), (4, .q), (5, .q), (6, .q), (7, .q), (8, .q), (9, .q), (10, .q), (11, .q), (12, .q), (13, .q), (14, .q), (15, .q), (16, .q), (17, .q), (18, .q), (19, .q), (20, .q), (21, .q), (22, .q), (23, .q), (24, .q), (25, .q), (26, .q), (27, .q), (28, .q), (29, .q), (30, .q), (31, .l)] (by kernel_rfl) (by kernel_rfl) Mem.closed ?_
      refine wp_q rfl Mem.closed (fun _ h => h) Mem.closed rfl (q_of_yld (y_move rfl)) trivial ?_
      refine wp_q rfl Mem.closed (fun _ h => h) Mem.closed rfl (q_of_yld (y_move rfl)) trivial ?_
      refine wp_q rfl Mem.closed (fun _ h => h) Mem.closed rfl (q_of_yld (y_bin rfl rfl (muln_i64 (a := 4) (b := t) (by omega)))) trivial ?_
      refine wp_q rfl Mem.closed (fun _ h => h) Mem.closed rfl (q_of_yld (y_indexAddr_ar ar52 sz5 rfl rfl (by omega) (by omega) (4 * t) (by omega))) trivial ?_
      refine wp_q rfl Mem.closed (fun _ h => h) Mem.closed rfl (q_of_yld (y_load sc5 rfl (c_blk (i := 2) rfl (arr_get (gd 0 (by first | omega | (simp only [wR_len, schR_len, addS_len, List.length_set, List.length_replicate] <;> omega) | (rw [hrl]; omega) | (simp [hrl]; omega))))))) trivial ?_
      refine wp_q rfl Mem.closed (fun _ h => h) Mem.closed rfl (q_of_yld (y_cv rfl us5 ui143 (congrArg (Value.int .u32) (cv_u8_u32 (blk.getD (4 * t) 0))))) trivial ?_
      refine wp_q rfl Mem.closed (fun _ h => h) Mem.closed rfl (q_of_yld (y_bin rfl rfl (shl_u32 ((blk.getD (4 * t) 0).toUInt32) (q := .u64) 24 (by omega) (by omega)))) trivial ?_
      refine wp_q rfl Mem.closed (fun _ h => h) Mem.closed rfl (q_of_yld (y_move rfl)) trivial ?_
      refine wp_q rfl Mem.closed (fun _ h => h) Mem.closed rfl (q_of_yld (y_bin rfl rfl (muln_i64 (a := 4) (b := t) (by omega)))) trivial ?_
      refine wp_q rfl Mem.closed (fun _ h => h) Mem.closed rfl (q_of_yld (y_bin rfl rfl (addn_i64 (a := (4 * t)) (b := 1) (by omega)))) trivial ?_
      refine wp_q rfl Mem.closed (fun _ h => h) Mem.closed rfl (q_of_yld (y_indexAddr_ar ar52 sz5 rfl rfl (by omega) (by omega) ((4 * t) + 1) (by omega))) trivial ?_
      refine wp_q rfl Mem.closed (fun _ h => h) Mem.closed rfl (q_of_yld (y_load sc5 rfl (c_blk (i := 2) rfl (arr_get (gd 0 (by first | omega | (simp only [wR_len, schR_len, addS_len, List.length_set, List.length_replicate] <;> omega) | (rw [hrl]; omega) | (simp [hrl]; omega))))))) trivial ?_
      refine wp_q rfl Mem.closed (fun _ h => h) Mem.closed rfl (q_of_yld (y_cv rfl us5 ui143 (congrArg (Value.int .u32) (cv_u8_u32 (blk.getD ((4 * t) + 1) 0))))) trivial ?_
      refine wp_q rfl Mem.closed (fun _ h => h) Mem.closed rfl (q_of_yld (y_bin rfl rfl (shl_u32 ((blk.getD ((4 * t) + 1) 0).toUInt32) (q := .u64) 16 (by omega) (by omega)))) trivial ?_
      refine wp_q rfl Mem.closed (fun _ h => h) Mem.closed rfl (q_of_yld (y_bin rfl rfl (or_u32 (((blk.getD (4 * t) 0).toUInt32) <<< UInt32.ofNat 24) (((blk.getD ((4 * t) + 1) 0).toUInt32) <<< UInt32.ofNat 16)))) trivial ?_
      refine wp_q rfl Mem.closed (fun _ h => h) Mem.closed rfl (q_of_yld (y_move rfl)) trivial ?_
      refine wp_q rfl Mem.closed (fun _ h => h) Mem.closed rfl (q_of_yld (y_bin rfl rfl (muln_i64 (a := 4) (b := t) (by omega)))) trivial ?_
      refine wp_q rfl Mem.closed (fun _ h => h) Mem.closed rfl (q_of_yld (y_bin rfl rfl (addn_i64 (a := (4 * t)) (b := 2) (by omega)))) trivial ?_
      refine wp_q rfl Mem.closed (fun _ h => h) Mem.closed rfl (q_of_yld (y_indexAddr_ar ar52 sz5 rfl rfl (by omega) (by omega) ((4 * t) + 2) (by omega))) trivial ?_
      refine wp_q rfl Mem.closed (fun _ h => h) Mem.closed rfl (q_of_yld (y_load sc5 rfl (c_blk (i := 2) rfl (arr_get (gd 0 (by first | omega | (simp only [wR_len, schR_len, addS_len, List.length_set, List.length_replicate] <;> omega) | (rw [hrl]; omega) | (simp [hrl]; omega))))))) trivial ?_
      refine wp_q rfl Mem.closed (fun _ h => h) Mem.closed rfl (q_of_yld (y_cv rfl us5 ui143 (congrArg (Value.int .u32) (cv_u8_u32 (blk.getD ((4 * t) + 2) 0))))) trivial ?_
      refine wp_q rfl Mem.closed (fun _ h => h) Mem.closed rfl (q_of_yld (y_bin rfl rfl (shl_u32 ((blk.getD ((4 * t) + 2) 0).toUInt32) (q := .u64) 8 (by omega) (by omega)))) trivial ?_
      refine wp_q rfl Mem.closed (fun _ h => h) Mem.closed rfl (q_of_yld (y_bin rfl rfl (or_u32 ((((blk.getD (4 * t) 0).toUInt32) <<< UInt32.ofNat 24) ||| (((blk.getD ((4 * t) + 1) 0).toUInt32) <<< UInt32.ofNat 16)) (((blk.getD ((4 * t) + 2) 0).toUInt32) <<< UInt32.ofNat 8)))) trivial ?_
      refine wp_q rfl Mem.closed (fun _ h => h) Mem.closed rfl (q_of_yld (y_move rfl)) trivial ?_
      refine wp_q rfl Mem.closed (fun _ h => h) Mem.closed rfl (q_of_yld (y_bin rfl rfl (muln_i64 (a := 4) (b := t) (by omega)))) trivial ?_
      refine wp_q rfl Mem.closed (fun _ h => h) Mem.closed rfl (q_of_yld (y_bin rfl rfl (addn_i64 (a := (4 * t)) (b := 3) (by omega)))) trivial ?_
      refine wp_q rfl Mem.closed (fun _ h => h) Mem.closed rfl (q_of_yld (y_indexAddr_ar ar52 sz5 rfl rfl (by omega) (by omega) ((4 * t) + 3) (by omega))) trivial ?_
      refine wp_q rfl Mem.closed (fun _ h => h) Mem.closed rfl (q_of_yld (y_load sc5 rfl (c_blk (i := 2) rfl (arr_get (gd 0 (by first | omega | (simp only [wR_len, schR_len, addS_len, List.length_set, List.length_replicate] <;> omega) | (rw [hrl]; omega) | (simp [hrl]; omega))))))) trivial ?_
      refine wp_q rfl Mem.closed (fun _ h => h) Mem.closed rfl (q_of_yld (y_cv rfl us5 ui143 (congrArg (Value.int .u32) (cv_u8_u32 (blk.getD ((4 * t) + 3) 0))))) trivial ?_
      refine wp_q rfl Mem.closed (fun _ h => h) Mem.closed rfl (q_of_yld (y_bin rfl rfl (or_u32 (((((blk.getD (4 * t) 0).toUInt32) <<< UInt32.ofNat 24) ||| (((blk.getD ((4 * t) + 1) 0).toUInt32) <<< UInt32.ofNat 16)) ||| (((blk.getD ((4 * t) + 2) 0).toUInt32) <<< UInt32.ofNat 8)) ((blk.getD ((4 * t) + 3) 0).toUInt32)))) trivial ?_
      refine wp_q rfl Mem.closed (fun _ h => h) Mem.closed rfl (q_of_yld (y_indexAddr_ar ar146 sz143 rfl rfl (by omega) (by omega) t (by omega))) trivial ?_
      refine wp_l rfl rfl rfl (e_store_arr (f := w32) sz143 rfl (x' := ((((((blk.getD (4 * t) 0).toUInt32) <<< UInt32.ofNat 24) ||| (((blk.getD ((4 * t) + 1) 0).toUInt32) <<< UInt32.ofNat 16)) ||| (((blk.getD ((4 * t) + 2) 0).toUInt32) <<< UInt32.ofNat 8)) ||| ((blk.getD ((4 * t) + 3) 0).toUInt32))) rfl (i := 0) rfl (by first | omega | (simp only [wR_len, schR_len, addS_len, List.length_set, List.length_replicate] <;> omega) | (rw [hrl]; omega) | (simp [hrl]; omega)) rfl) trivial ?_
      intro _
      refine aq_blk_normal ?_
      refine aq_seq ?_
      refine wc_region ?_
      refine wl_y (y_move rfl) ?_
      refine wl_y (y_bin rfl rfl (addn_i64 (a := t) (b := 1) (by omega))) ?_
      refine wl_y (y_assign rfl) ?_
      refine wl_nil ?_
      refine aq_loop (t + 1) ?_ ?_ ⟨rfl, rfl, rfl, rfl, rfl, trivial⟩ (fun _ h => h)
      · omega
      · first | omega | (dsimp only; omega)
    · have hb1 : ¬ ((t : Int) < 16) := by simpa using hc1
      have hte : t = 16 := by omega
      subst hte
      refine wc_exit ?_
      refine aq_thru_exit ?_
      refine aq_thru_exit ?_
      refine aq_blk_exit ?_
      refine aq_seq ?_
      refine wc_seq ?_
      refine wc_seq ?_
      refine wc_region ?_
      refine wl_y (y_assign rfl) ?_
      refine wl_nil ?_
      refine aq_seq ?_
      refine wc_block ?_
      refine wc_loop (γ := Nat) (fun q => [(2, .pointer (some ⟨b1, 0, none⟩)), (4, .pointer (some ⟨b3, 0, none⟩)), (5, .pointer (some ⟨b4, 0, none⟩)), (7, ki (((16 + q : Nat) : Int)))]) (fun q => Mem w [] [.blk b4 (.cells (arr w32 (schR (wR blk 16) q)) 146 (0, 0)), .blk b3 (.cells (arr w32 (List.replicate 8 0)) 144 (0, 0)), .blk b2 (.cells (arr b8 blk) 52 (0, 0)), .blk b1 (.cells (arr w32 s) 144 (0, 0))]) (fun q => (q ≤ 48)) (fun q => 48 - q) (0) ?_ ⟨rfl, rfl, rfl, rfl, trivial⟩ (fun _ h => h) ?_
      · omega
      · rintro q hq
        refine wc_seq ?_
        refine wc_seq ?_
        refine wc_region ?_
        refine wl_y (y_move rfl) ?_
        refine wl_y (y_bin rfl rfl lss_i64) ?_
        refine wl_nil ?_
        refine aq_seq ?_
        refine wc_if rfl (fun hc2 => ?_) (fun hc2 => ?_)
        · have hb2 : ((16 + q : Nat) : Int) < 64 := by simpa using hc2
          refine wc_skip ?_
          refine aq_seq ?_
          refine wc_seq ?_
          refine wc_block ?_
          refine wc_seq ?_
          refine wc_region ?_
          refine wl_y (y_move rfl) ?_
          refine wl_y (y_bin rfl rfl (subn_i64 (a := (16 + q)) (b := 2) (by omega) (by omega))) ?_
          refine wl_y (y_indexAddr_ar ar146 sz143 rfl rfl (by omega) (by omega) ((16 + q) - 2) (by omega)) ?_
          refine wl_y (y_load sc143 rfl (c_blk (i := 0) rfl (arr_get (gd 0 (by first | omega | (simp only [wR_len, schR_len, addS_len, List.length_set, List.length_replicate] <;> omega) | (rw [hrl]; omega) | (simp [hrl]; omega)))))) ?_
          refine wl_y (y_assign rfl) ?_
          refine wl_nil ?_
          refine aq_seq ?_
          refine wc_seq ?_
          refine wc_region ?_
          refine wl_y (y_move rfl) ?_
          refine wl_y (y_bin rfl rfl (subn_i64 (a := (16 + q)) (b := 15) (by omega) (by omega))) ?_
          refine wl_y (y_indexAddr_ar ar146 sz143 rfl rfl (by omega) (by omega) ((16 + q) - 15) (by omega)) ?_
          refine wl_y (y_load sc143 rfl (c_blk (i := 0) rfl (arr_get (gd 0 (by first | omega | (simp only [wR_len, schR_len, addS_len, List.length_set, List.length_replicate] <;> omega) | (rw [hrl]; omega) | (simp [hrl]; omega)))))) ?_
          refine wl_y (y_assign rfl) ?_
          refine wl_nil ?_
          refine aq_seq ?_
          refine wc_drawM [(0, .q), (1, .q), (2, .q), (3, .q), (4, .q), (5, .q), (6, .q), (7, .q), (8, .q), (9, .q), (10, .q), (11, .q), (12, .q), (13, .q), (14, .q), (15, .q), (16, .q), (17, .q), (18, .q), (19, .q), (20, .q), (21, .q), (22, .q), (23, .q), (24, .q), (25, .q), (26, .q), (27, .q), (28, .q), (29, .l)] (by kernel_rfl) (by kernel_rfl) Mem.closed ?_
          refine wp_q rfl Mem.closed (fun _ h => h) Mem.closed rfl (q_of_yld (y_move rfl)) trivial ?_
          refine wp_q rfl Mem.closed (fun _ h => h) Mem.closed rfl (q_of_yld (y_move rfl)) trivial ?_
          refine wp_q rfl Mem.closed (fun _ h => h) Mem.closed rfl (q_of_call cf100 rfl (fun w m => quiet_of_mem (turn_ok w ((schR (wR blk 16) q).getD ((16 + q) - 2) 0) 17 (by decide) (by decide)))) trivial ?_
          refine wp_q rfl Mem.closed (fun _ h => h) Mem.closed rfl (q_of_yld (y_move rfl)) trivial ?_
          refine wp_q rfl Mem.closed (fun _ h => h) Mem.closed rfl (q_of_call cf100 rfl (fun w m => quiet_of_mem (turn_ok w ((schR (wR blk 16) q).getD ((16 + q) - 2) 0) 19 (by decide) (by decide)))) trivial ?_
          refine wp_q rfl Mem.closed (fun _ h => h) Mem.closed rfl (q_of_yld (y_bin rfl rfl (xor_u32 (rotl32 ((schR (wR blk 16) q).getD ((16 + q) - 2) 0) 15) (rotl32 ((schR (wR blk 16) q).getD ((16 + q) - 2) 0) 13)))) trivial ?_
          refine wp_q rfl Mem.closed (fun _ h => h) Mem.closed rfl (q_of_yld (y_move rfl)) trivial ?_
          refine wp_q rfl Mem.closed (fun _ h => h) Mem.closed rfl (q_of_yld (y_bin rfl rfl (shr_u32 ((schR (wR blk 16) q).getD ((16 + q) - 2) 0) (q := .u64) 10 (by omega) (by omega)))) trivial ?_
          refine wp_q rfl Mem.closed (fun _ h => h) Mem.closed rfl (q_of_yld (y_bin rfl rfl (xor_u32 ((rotl32 ((schR (wR blk 16) q).getD ((16 + q) - 2) 0) 15) ^^^ (rotl32 ((schR (wR blk 16) q).getD ((16 + q) - 2) 0) 13)) (((schR (wR blk 16) q).getD ((16 + q) - 2) 0) >>> UInt32.ofNat 10)))) trivial ?_
          refine wp_q rfl Mem.closed (fun _ h => h) Mem.closed rfl (q_of_yld (y_move rfl)) trivial ?_
          refine wp_q rfl Mem.closed (fun _ h => h) Mem.closed rfl (q_of_yld (y_bin rfl rfl (subn_i64 (a := (16 + q)) (b := 7) (by omega) (by omega)))) trivial ?_
          refine wp_q rfl Mem.closed (fun _ h => h) Mem.closed rfl (q_of_yld (y_indexAddr_ar ar146 sz143 rfl rfl (by omega) (by omega) ((16 + q) - 7) (by omega))) trivial ?_
          refine wp_q rfl Mem.closed (fun _ h => h) Mem.closed rfl (q_of_yld (y_load sc143 rfl (c_blk (i := 0) rfl (arr_get (gd 0 (by first | omega | (simp only [wR_len, schR_len, addS_len, List.length_set, List.length_replicate] <;> omega) | (rw [hrl]; omega) | (simp [hrl]; omega))))))) trivial ?_
          refine wp_q rfl Mem.closed (fun _ h => h) Mem.closed rfl (q_of_yld (y_bin rfl rfl (add_u32 (((rotl32 ((schR (wR blk 16) q).getD ((16 + q) - 2) 0) 15) ^^^ (rotl32 ((schR (wR blk 16) q).getD ((16 + q) - 2) 0) 13)) ^^^ (((schR (wR blk 16) q).getD ((16 + q) - 2) 0) >>> UInt32.ofNat 10)) ((schR (wR blk 16) q).getD ((16 + q) - 7) 0)))) trivial ?_
          refine wp_q rfl Mem.closed (fun _ h => h) Mem.closed rfl (q_of_yld (y_move rfl)) trivial ?_
          refine wp_q rfl Mem.closed (fun _ h => h) Mem.closed rfl (q_of_call cf100 rfl (fun w m => quiet_of_mem (turn_ok w ((schR (wR blk 16) q).getD ((16 + q) - 15) 0) 7 (by decide) (by decide)))) trivial ?_
          refine wp_q rfl Mem.closed (fun _ h => h) Mem.closed rfl (q_of_yld (y_move rfl)) trivial ?_
          refine wp_q rfl Mem.closed (fun _ h => h) Mem.closed rfl (q_of_call cf100 rfl (fun w m => quiet_of_mem (turn_ok w ((schR (wR blk 16) q).getD ((16 + q) - 15) 0) 18 (by decide) (by decide)))) trivial ?_
          refine wp_q rfl Mem.closed (fun _ h => h) Mem.closed rfl (q_of_yld (y_bin rfl rfl (xor_u32 (rotl32 ((schR (wR blk 16) q).getD ((16 + q) - 15) 0) 25) (rotl32 ((schR (wR blk 16) q).getD ((16 + q) - 15) 0) 14)))) trivial ?_
          refine wp_q rfl Mem.closed (fun _ h => h) Mem.closed rfl (q_of_yld (y_move rfl)) trivial ?_
          refine wp_q rfl Mem.closed (fun _ h => h) Mem.closed rfl (q_of_yld (y_bin rfl rfl (shr_u32 ((schR (wR blk 16) q).getD ((16 + q) - 15) 0) (q := .u64) 3 (by omega) (by omega)))) trivial ?_
          refine wp_q rfl Mem.closed (fun _ h => h) Mem.closed rfl (q_of_yld (y_bin rfl rfl (xor_u32 ((rotl32 ((schR (wR blk 16) q).getD ((16 + q) - 15) 0) 25) ^^^ (rotl32 ((schR (wR blk 16) q).getD ((16 + q) - 15) 0) 14)) (((schR (wR blk 16) q).getD ((16 + q) - 15) 0) >>> UInt32.ofNat 3)))) trivial ?_
          refine wp_q rfl Mem.closed (fun _ h => h) Mem.closed rfl (q_of_yld (y_bin rfl rfl (add_u32 ((((rotl32 ((schR (wR blk 16) q).getD ((16 + q) - 2) 0) 15) ^^^ (rotl32 ((schR (wR blk 16) q).getD ((16 + q) - 2) 0) 13)) ^^^ (((schR (wR blk 16) q).getD ((16 + q) - 2) 0) >>> UInt32.ofNat 10)) + (schR (wR blk 16) q).getD ((16 + q) - 7) 0) (((rotl32 ((schR (wR blk 16) q).getD ((16 + q) - 15) 0) 25) ^^^ (rotl32 ((schR (wR blk 16) q).getD ((16 + q) - 15) 0) 14)) ^^^ (((schR (wR blk 16) q).getD ((16 + q) - 15) 0) >>> UInt32.ofNat 3))))) trivial ?_
          refine wp_q rfl Mem.closed (fun _ h => h) Mem.closed rfl (q_of_yld (y_move rfl)) trivial ?_
          refine wp_q rfl Mem.closed (fun _ h => h) Mem.closed rfl (q_of_yld (y_bin rfl rfl (subn_i64 (a := (16 + q)) (b := 16) (by omega) (by omega)))) trivial ?_
          refine wp_q rfl Mem.closed (fun _ h => h) Mem.closed rfl (q_of_yld (y_indexAddr_ar ar146 sz143 rfl rfl (by omega) (by omega) ((16 + q) - 16) (by omega))) trivial ?_
          refine wp_q rfl Mem.closed (fun _ h => h) Mem.closed rfl (q_of_yld (y_load sc143 rfl (c_blk (i := 0) rfl (arr_get (gd 0 (by first | omega | (simp only [wR_len, schR_len, addS_len, List.length_set, List.length_replicate] <;> omega) | (rw [hrl]; omega) | (simp [hrl]; omega))))))) trivial ?_
          refine wp_q rfl Mem.closed (fun _ h => h) Mem.closed rfl (q_of_yld (y_bin rfl rfl (add_u32 (((((rotl32 ((schR (wR blk 16) q).getD ((16 + q) - 2) 0) 15) ^^^ (rotl32 ((schR (wR blk 16) q).getD ((16 + q) - 2) 0) 13)) ^^^ (((schR (wR blk 16) q).getD ((16 + q) - 2) 0) >>> UInt32.ofNat 10)) + (schR (wR blk 16) q).getD ((16 + q) - 7) 0) + (((rotl32 ((schR (wR blk 16) q).getD ((16 + q) - 15) 0) 25) ^^^ (rotl32 ((schR (wR blk 16) q).getD ((16 + q) - 15) 0) 14)) ^^^ (((schR (wR blk 16) q).getD ((16 + q) - 15) 0) >>> UInt32.ofNat 3))) ((schR (wR blk 16) q).getD ((16 + q) - 16) 0)))) trivial ?_
          refine wp_q rfl Mem.closed (fun _ h => h) Mem.closed rfl (q_of_yld (y_indexAddr_ar ar146 sz143 rfl rfl (by omega) (by omega) (16 + q) (by omega))) trivial ?_
          refine wp_l rfl rfl rfl (e_store_arr (f := w32) sz143 rfl (x' := ((((((rotl32 ((schR (wR blk 16) q).getD ((16 + q) - 2) 0) 15) ^^^ (rotl32 ((schR (wR blk 16) q).getD ((16 + q) - 2) 0) 13)) ^^^ (((schR (wR blk 16) q).getD ((16 + q) - 2) 0) >>> UInt32.ofNat 10)) + (schR (wR blk 16) q).getD ((16 + q) - 7) 0) + (((rotl32 ((schR (wR blk 16) q).getD ((16 + q) - 15) 0) 25) ^^^ (rotl32 ((schR (wR blk 16) q).getD ((16 + q) - 15) 0) 14)) ^^^ (((schR (wR blk 16) q).getD ((16 + q) - 15) 0) >>> UInt32.ofNat 3))) + (schR (wR blk 16) q).getD ((16 + q) - 16) 0)) rfl (i := 0) rfl (by first | omega | (simp only [wR_len, schR_len, addS_len, List.length_set, List.length_replicate] <;> omega) | (rw [hrl]; omega) | (simp [hrl]; omega)) rfl) trivial ?_
          intro _
          refine aq_blk_normal ?_
          refine aq_seq ?_
          refine wc_region ?_
          refine wl_y (y_move rfl) ?_
          refine wl_y (y_bin rfl rfl (addn_i64 (a := (16 + q)) (b := 1) (by omega))) ?_
          refine wl_y (y_assign rfl) ?_
          refine wl_nil ?_
          refine aq_loop (q + 1) ?_ ?_ ⟨rfl, rfl, rfl, rfl, trivial⟩ (fun _ h => h)
          · omega
          · first | omega | (dsimp only; omega)
        · have hb2 : ¬ (((16 + q : Nat) : Int) < 64) := by simpa using hc2
          have hqe : q = 48 := by omega
          subst hqe
          refine wc_exit ?_
          refine aq_thru_exit ?_
          refine aq_thru_exit ?_
          refine aq_blk_exit ?_
          refine aq_seq ?_
          refine wc_seq ?_
          refine wc_region ?_
          refine wl_eff (e_call0 cf101 rfl (fun w m => rwords_ok w)) rfl trivial rfl ?_
          intro _
          refine wl_eff (e_alloc (cs := arr w32 (List.replicate 64 0)) zn146) rfl trivial rfl ?_
          intro b5
          refine wl_eff (e_storeall sz146 rfl rfl (i := 0) rfl (by first | (simp; done) | (simp [*]; done) | (simp; omega) | rfl) (by first | (simp; done) | (simp [*]; done) | (simp; omega) | rfl) (arr_one _) rfl) rfl trivial rfl ?_
          intro _
          refine wl_nil ?_
          refine aq_seq ?_
          refine wc_seq ?_
          refine wc_region ?_
          refine wl_y (y_loadall ag144 rfl (i := 4) rfl (by first | (simp; done) | (simp [*]; done) | (simp; omega) | rfl)) ?_
          refine wl_eff (e_alloc (cs := arr w32 (List.replicate 8 0)) zn144) rfl trivial rfl ?_
          intro b6
          refine wl_eff (e_storeall sz144 rfl rfl (i := 0) rfl (by first | (simp; done) | (simp [*]; done) | (simp; omega) | rfl) (by first | (simp; done) | (simp [*]; done) | (simp; omega) | rfl) (arr_one _) rfl) rfl trivial rfl ?_
          intro _
          refine wl_nil ?_
          refine aq_seq ?_
          refine wc_seq ?_
          refine wc_seq ?_
          refine wc_region ?_
          refine wl_y (y_assign rfl) ?_
          refine wl_nil ?_
          refine aq_seq ?_
          refine wc_block ?_
          refine wc_loop (γ := Nat) (fun t => [(2, .pointer (some ⟨b1, 0, none⟩)), (4, .pointer (some ⟨b3, 0, none⟩)), (5, .pointer (some ⟨b4, 0, none⟩)), (10, .pointer (some ⟨b5, 0, none⟩)), (11, .pointer (some ⟨b6, 0, none⟩)), (12, ki ((t : Int)))]) (fun t => Mem w [] [.blk b6 (.cells (arr w32 (rndR wordsL (schR (wR blk 16) 48) s t)) 144 (0, 0)), .blk b5 (.cells (arr w32 wordsL) 146 (0, 0)), .blk b4 (.cells (arr w32 (schR (wR blk 16) 48)) 146 (0, 0)), .blk b3 (.cells (arr w32 (List.replicate 8 0)) 144 (0, 0)), .blk b2 (.cells (arr b8 blk) 52 (0, 0)), .blk b1 (.cells (arr w32 s) 144 (0, 0))]) (fun t => (t ≤ 64)) (fun t => 64 - t) (0) ?_ ⟨rfl, rfl, rfl, rfl, rfl, rfl, trivial⟩ (fun _ h => h) ?_
          · omega
          · rintro t ht
            refine wc_seq ?_
            refine wc_seq ?_
            refine wc_region ?_
            refine wl_y (y_move rfl) ?_
            refine wl_y (y_bin rfl rfl lss_i64) ?_
            refine wl_nil ?_
            refine aq_seq ?_
            refine wc_if rfl (fun hc3 => ?_) (fun hc3 => ?_)
            · have hb3 : (t : Int) < 64 := by simpa using hc3
              refine wc_skip ?_
              refine aq_seq ?_
              refine wc_seq ?_
              refine wc_block ?_
              refine wc_seq ?_
              refine wc_region ?_
              refine wl_y (y_indexAddr_ar ar144 sz143 rfl rfl (by omega) (by omega) 0 (by omega)) ?_
              refine wl_y (y_load sc143 rfl (c_blk (i := 0) rfl (arr_get (gd 0 (by first | omega | (simp only [wR_len, schR_len, addS_len, List.length_set, List.length_replicate] <;> omega) | (rw [hrl]; omega) | (simp [hrl]; omega)))))) ?_
              refine wl_y (y_assign rfl) ?_
              refine wl_nil ?_
              refine aq_seq ?_
              refine wc_seq ?_
              refine wc_region ?_
              refine wl_y (y_indexAddr_ar ar144 sz143 rfl rfl (by omega) (by omega) 4 (by omega)) ?_
              refine wl_y (y_load sc143 rfl (c_blk (i := 0) rfl (arr_get (gd 0 (by first | omega | (simp only [wR_len, schR_len, addS_len, List.length_set, List.length_replicate] <;> omega) | (rw [hrl]; omega) | (simp [hrl]; omega)))))) ?_
              refine wl_y (y_assign rfl) ?_
              refine wl_nil ?_
              refine aq_seq ?_
              refine wc_seq ?_
              refine wc_drawM [(0, .q), (1, .q), (2, .q), (3, .q), (4, .q), (5, .q), (6, .q), (7, .q), (8, .q), (9, .q), (10, .q), (11, .q), (12, .q), (13, .q), (14, .q), (15, .q), (16, .q), (17, .q), (18, .q), (19, .q), (20, .q), (21, .q), (22, .q), (23, .q), (24, .q), (25, .q), (26, .q), (27, .q), (28, .q), (29, .q), (30, .q)] (by kernel_rfl) (by kernel_rfl) Mem.closed ?_
              refine wp_q rfl Mem.closed (fun _ h => h) Mem.closed rfl (q_of_yld (y_indexAddr_ar ar144 sz143 rfl rfl (by omega) (by omega) 7 (by omega))) trivial ?_
              refine wp_q rfl Mem.closed (fun _ h => h) Mem.closed rfl (q_of_yld (y_load sc143 rfl (c_blk (i := 0) rfl (arr_get (gd 0 (by first | omega | (simp only [wR_len, schR_len, addS_len, List.length_set, List.length_replicate] <;> omega) | (rw [hrl]; omega) | (simp [hrl]; omega))))))) trivial ?_
              refine wp_q rfl Mem.closed (fun _ h => h) Mem.closed rfl (q_of_yld (y_move rfl)) trivial ?_
              refine wp_q rfl Mem.closed (fun _ h => h) Mem.closed rfl (q_of_call cf100 rfl (fun w m => quiet_of_mem (turn_ok w ((rndR wordsL (schR (wR blk 16) 48) s t).getD 4 0) 6 (by decide) (by decide)))) trivial ?_
              refine wp_q rfl Mem.closed (fun _ h => h) Mem.closed rfl (q_of_yld (y_move rfl)) trivial ?_
              refine wp_q rfl Mem.closed (fun _ h => h) Mem.closed rfl (q_of_call cf100 rfl (fun w m => quiet_of_mem (turn_ok w ((rndR wordsL (schR (wR blk 16) 48) s t).getD 4 0) 11 (by decide) (by decide)))) trivial ?_
              refine wp_q rfl Mem.closed (fun _ h => h) Mem.closed rfl (q_of_yld (y_bin rfl rfl (xor_u32 (rotl32 ((rndR wordsL (schR (wR blk 16) 48) s t).getD 4 0) 26) (rotl32 ((rndR wordsL (schR (wR blk 16) 48) s t).getD 4 0) 21)))) trivial ?_
              refine wp_q rfl Mem.closed (fun _ h => h) Mem.closed rfl (q_of_yld (y_move rfl)) trivial ?_
              refine wp_q rfl Mem.closed (fun _ h => h) Mem.closed rfl (q_of_call cf100 rfl (fun w m => quiet_of_mem (turn_ok w ((rndR wordsL (schR (wR blk 16) 48) s t).getD 4 0) 25 (by decide) (by decide)))) trivial ?_
              refine wp_q rfl Mem.closed (fun _ h => h) Mem.closed rfl (q_of_yld (y_bin rfl rfl (xor_u32 ((rotl32 ((rndR wordsL (schR (wR blk 16) 48) s t).getD 4 0) 26) ^^^ (rotl32 ((rndR wordsL (schR (wR blk 16) 48) s t).getD 4 0) 21)) (rotl32 ((rndR wordsL (schR (wR blk 16) 48) s t).getD 4 0) 7)))) trivial ?_
              refine wp_q rfl Mem.closed (fun _ h => h) Mem.closed rfl (q_of_yld (y_bin rfl rfl (add_u32 ((rndR wordsL (schR (wR blk 16) 48) s t).getD 7 0) (((rotl32 ((rndR wordsL (schR (wR blk 16) 48) s t).getD 4 0) 26) ^^^ (rotl32 ((rndR wordsL (schR (wR blk 16) 48) s t).getD 4 0) 21)) ^^^ (rotl32 ((rndR wordsL (schR (wR blk 16) 48) s t).getD 4 0) 7))))) trivial ?_
              refine wp_q rfl Mem.closed (fun _ h => h) Mem.closed rfl (q_of_yld (y_move rfl)) trivial ?_
              refine wp_q rfl Mem.closed (fun _ h => h) Mem.closed rfl (q_of_yld (y_indexAddr_ar ar144 sz143 rfl rfl (by omega) (by omega) 5 (by omega))) trivial ?_
              refine wp_q rfl Mem.closed (fun _ h => h) Mem.closed rfl (q_of_yld (y_load sc143 rfl (c_blk (i := 0) rfl (arr_get (gd 0 (by first | omega | (simp only [wR_len, schR_len, addS_len, List.length_set, List.length_replicate] <;> omega) | (rw [hrl]; omega) | (simp [hrl]; omega))))))) trivial ?_
              refine wp_q rfl Mem.closed (fun _ h => h) Mem.closed rfl (q_of_yld (y_bin rfl rfl (and_u32 ((rndR wordsL (schR (wR blk 16) 48) s t).getD 4 0) ((rndR wordsL (schR (wR blk 16) 48) s t).getD 5 0)))) trivial ?_
              refine wp_q rfl Mem.closed (fun _ h => h) Mem.closed rfl (q_of_yld (y_move rfl)) trivial ?_
              refine wp_q rfl Mem.closed (fun _ h => h) Mem.closed rfl (q_of_yld (y_compl32 rfl)) trivial ?_
              refine wp_q rfl Mem.closed (fun _ h => h) Mem.closed rfl (q_of_yld (y_indexAddr_ar ar144 sz143 rfl rfl (by omega) (by omega) 6 (by omega))) trivial ?_
              refine wp_q rfl Mem.closed (fun _ h => h) Mem.closed rfl (q_of_yld (y_load sc143 rfl (c_blk (i := 0) rfl (arr_get (gd 0 (by first | omega | (simp only [wR_len, schR_len, addS_len, List.length_set, List.length_replicate] <;> omega) | (rw [hrl]; omega) | (simp [hrl]; omega))))))) trivial ?_
              refine wp_q rfl Mem.closed (fun _ h => h) Mem.closed rfl (q_of_yld (y_bin rfl rfl (and_u32 (~~~ ((rndR wordsL (schR (wR blk 16) 48) s t).getD 4 0)) ((rndR wordsL (schR (wR blk 16) 48) s t).getD 6 0)))) trivial ?_
              refine wp_q rfl Mem.closed (fun _ h => h) Mem.closed rfl (q_of_yld (y_bin rfl rfl (xor_u32 (((rndR wordsL (schR (wR blk 16) 48) s t).getD 4 0) &&& ((rndR wordsL (schR (wR blk 16) 48) s t).getD 5 0)) ((~~~ ((rndR wordsL (schR (wR blk 16) 48) s t).getD 4 0)) &&& ((rndR wordsL (schR (wR blk 16) 48) s t).getD 6 0))))) trivial ?_
              refine wp_q rfl Mem.closed (fun _ h => h) Mem.closed rfl (q_of_yld (y_bin rfl rfl (add_u32 ((rndR wordsL (schR (wR blk 16) 48) s t).getD 7 0 + (((rotl32 ((rndR wordsL (schR (wR blk 16) 48) s t).getD 4 0) 26) ^^^ (rotl32 ((rndR wordsL (schR (wR blk 16) 48) s t).getD 4 0) 21)) ^^^ (rotl32 ((rndR wordsL (schR (wR blk 16) 48) s t).getD 4 0) 7))) ((((rndR wordsL (schR (wR blk 16) 48) s t).getD 4 0) &&& ((rndR wordsL (schR (wR blk 16) 48) s t).getD 5 0)) ^^^ ((~~~ ((rndR wordsL (schR (wR blk 16) 48) s t).getD 4 0)) &&& ((rndR wordsL (schR (wR blk 16) 48) s t).getD 6 0)))))) trivial ?_
              refine wp_q rfl Mem.closed (fun _ h => h) Mem.closed rfl (q_of_yld (y_move rfl)) trivial ?_
              refine wp_q rfl Mem.closed (fun _ h => h) Mem.closed rfl (q_of_yld (y_indexAddr_ar ar146 sz143 rfl rfl (by omega) (by omega) t (by omega))) trivial ?_
              refine wp_q rfl Mem.closed (fun _ h => h) Mem.closed rfl (q_of_yld (y_load sc143 rfl (c_blk (i := 1) rfl (arr_get (gd 0 (by first | omega | (simp only [wR_len, schR_len, addS_len, List.length_set, List.length_replicate] <;> omega) | (rw [hrl]; omega) | (simp [hrl]; omega))))))) trivial ?_
              refine wp_q rfl Mem.closed (fun _ h => h) Mem.closed rfl (q_of_yld (y_bin rfl rfl (add_u32 (((rndR wordsL (schR (wR blk 16) 48) s t).getD 7 0 + (((rotl32 ((rndR wordsL (schR (wR blk 16) 48) s t).getD 4 0) 26) ^^^ (rotl32 ((rndR wordsL (schR (wR blk 16) 48) s t).getD 4 0) 21)) ^^^ (rotl32 ((rndR wordsL (schR (wR blk 16) 48) s t).getD 4 0) 7))) + ((((rndR wordsL (schR (wR blk 16) 48) s t).getD 4 0) &&& ((rndR wordsL (schR (wR blk 16) 48) s t).getD 5 0)) ^^^ ((~~~ ((rndR wordsL (schR (wR blk 16) 48) s t).getD 4 0)) &&& ((rndR wordsL (schR (wR blk 16) 48) s t).getD 6 0)))) (wordsL.getD t 0)))) trivial ?_
              refine wp_q rfl Mem.closed (fun _ h => h) Mem.closed rfl (q_of_yld (y_move rfl)) trivial ?_
              refine wp_q rfl Mem.closed (fun _ h => h) Mem.closed rfl (q_of_yld (y_indexAddr_ar ar146 sz143 rfl rfl (by omega) (by omega) t (by omega))) trivial ?_
              refine wp_q rfl Mem.closed (fun _ h => h) Mem.closed rfl (q_of_yld (y_load sc143 rfl (c_blk (i := 2) rfl (arr_get (gd 0 (by first | omega | (simp only [wR_len, schR_len, addS_len, List.length_set, List.length_replicate] <;> omega) | (rw [hrl]; omega) | (simp [hrl]; omega))))))) trivial ?_
              refine wp_q rfl Mem.closed (fun _ h => h) Mem.closed rfl (q_of_yld (y_bin rfl rfl (add_u32 ((((rndR wordsL (schR (wR blk 16) 48) s t).getD 7 0 + (((rotl32 ((rndR wordsL (schR (wR blk 16) 48) s t).getD 4 0) 26) ^^^ (rotl32 ((rndR wordsL (schR (wR blk 16) 48) s t).getD 4 0) 21)) ^^^ (rotl32 ((rndR wordsL (schR (wR blk 16) 48) s t).getD 4 0) 7))) + ((((rndR wordsL (schR (wR blk 16) 48) s t).getD 4 0) &&& ((rndR wordsL (schR (wR blk 16) 48) s t).getD 5 0)) ^^^ ((~~~ ((rndR wordsL (schR (wR blk 16) 48) s t).getD 4 0)) &&& ((rndR wordsL (schR (wR blk 16) 48) s t).getD 6 0)))) + wordsL.getD t 0) ((schR (wR blk 16) 48).getD t 0)))) trivial ?_
              refine wp_q rfl Mem.closed (fun _ h => h) Mem.closed rfl (q_of_yld (y_assign rfl)) trivial ?_
              refine wp_nil ?_
              refine aq_seq ?_
              refine wc_seq ?_
              refine wc_drawM [(0, .q), (1, .q), (2, .q), (3, .q), (4, .q), (5, .q), (6, .q), (7, .q), (8, .q), (9, .q), (10, .q), (11, .q), (12, .q), (13, .q), (14, .q), (15, .q), (16, .q), (17, .q), (18, .q), (19, .q), (20, .q), (21, .q), (22, .q), (23, .q), (24, .q)] (by kernel_rfl) (by kernel_rfl) Mem.closed ?_
              refine wp_q rfl Mem.closed (fun _ h => h) Mem.closed rfl (q_of_yld (y_move rfl)) trivial ?_
              refine wp_q rfl Mem.closed (fun _ h => h) Mem.closed rfl (q_of_call cf100 rfl (fun w m => quiet_of_mem (turn_ok w ((rndR wordsL (schR (wR blk 16) 48) s t).getD 0 0) 2 (by decide) (by decide)))) trivial ?_
              refine wp_q rfl Mem.closed (fun _ h => h) Mem.closed rfl (q_of_yld (y_move rfl)) trivial ?_
              refine wp_q rfl Mem.closed (fun _ h => h) Mem.closed rfl (q_of_call cf100 rfl (fun w m => quiet_of_mem (turn_ok w ((rndR wordsL (schR (wR blk 16) 48) s t).getD 0 0) 13 (by decide) (by decide)))) trivial ?_
              refine wp_q rfl Mem.closed (fun _ h => h) Mem.closed rfl (q_of_yld (y_bin rfl rfl (xor_u32 (rotl32 ((rndR wordsL (schR (wR blk 16) 48) s t).getD 0 0) 30) (rotl32 ((rndR wordsL (schR (wR blk 16) 48) s t).getD 0 0) 19)))) trivial ?_
              refine wp_q rfl Mem.closed (fun _ h => h) Mem.closed rfl (q_of_yld (y_move rfl)) trivial ?_
              refine wp_q rfl Mem.closed (fun _ h => h) Mem.closed rfl (q_of_call cf100 rfl (fun w m => quiet_of_mem (turn_ok w ((rndR wordsL (schR (wR blk 16) 48) s t).getD 0 0) 22 (by decide) (by decide)))) trivial ?_
              refine wp_q rfl Mem.closed (fun _ h => h) Mem.closed rfl (q_of_yld (y_bin rfl rfl (xor_u32 ((rotl32 ((rndR wordsL (schR (wR blk 16) 48) s t).getD 0 0) 30) ^^^ (rotl32 ((rndR wordsL (schR (wR blk 16) 48) s t).getD 0 0) 19)) (rotl32 ((rndR wordsL (schR (wR blk 16) 48) s t).getD 0 0) 10)))) trivial ?_
              refine wp_q rfl Mem.closed (fun _ h => h) Mem.closed rfl (q_of_yld (y_move rfl)) trivial ?_
              refine wp_q rfl Mem.closed (fun _ h => h) Mem.closed rfl (q_of_yld (y_indexAddr_ar ar144 sz143 rfl rfl (by omega) (by omega) 1 (by omega))) trivial ?_
              refine wp_q rfl Mem.closed (fun _ h => h) Mem.closed rfl (q_of_yld (y_load sc143 rfl (c_blk (i := 0) rfl (arr_get (gd 0 (by first | omega | (simp only [wR_len, schR_len, addS_len, List.length_set, List.length_replicate] <;> omega) | (rw [hrl]; omega) | (simp [hrl]; omega))))))) trivial ?_
              refine wp_q rfl Mem.closed (fun _ h => h) Mem.closed rfl (q_of_yld (y_bin rfl rfl (and_u32 ((rndR wordsL (schR (wR blk 16) 48) s t).getD 0 0) ((rndR wordsL (schR (wR blk 16) 48) s t).getD 1 0)))) trivial ?_
              refine wp_q rfl Mem.closed (fun _ h => h) Mem.closed rfl (q_of_yld (y_move rfl)) trivial ?_
              refine wp_q rfl Mem.closed (fun _ h => h) Mem.closed rfl (q_of_yld (y_indexAddr_ar ar144 sz143 rfl rfl (by omega) (by omega) 2 (by omega))) trivial ?_
              refine wp_q rfl Mem.closed (fun _ h => h) Mem.closed rfl (q_of_yld (y_load sc143 rfl (c_blk (i := 0) rfl (arr_get (gd 0 (by first | omega | (simp only [wR_len, schR_len, addS_len, List.length_set, List.length_replicate] <;> omega) | (rw [hrl]; omega) | (simp [hrl]; omega))))))) trivial ?_
              refine wp_q rfl Mem.closed (fun _ h => h) Mem.closed rfl (q_of_yld (y_bin rfl rfl (and_u32 ((rndR wordsL (schR (wR blk 16) 48) s t).getD 0 0) ((rndR wordsL (schR (wR blk 16) 48) s t).getD 2 0)))) trivial ?_
              refine wp_q rfl Mem.closed (fun _ h => h) Mem.closed rfl (q_of_yld (y_bin rfl rfl (xor_u32 (((rndR wordsL (schR (wR blk 16) 48) s t).getD 0 0) &&& ((rndR wordsL (schR (wR blk 16) 48) s t).getD 1 0)) (((rndR wordsL (schR (wR blk 16) 48) s t).getD 0 0) &&& ((rndR wordsL (schR (wR blk 16) 48) s t).getD 2 0))))) trivial ?_
              refine wp_q rfl Mem.closed (fun _ h => h) Mem.closed rfl (q_of_yld (y_indexAddr_ar ar144 sz143 rfl rfl (by omega) (by omega) 1 (by omega))) trivial ?_
              refine wp_q rfl Mem.closed (fun _ h => h) Mem.closed rfl (q_of_yld (y_load sc143 rfl (c_blk (i := 0) rfl (arr_get (gd 0 (by first | omega | (simp only [wR_len, schR_len, addS_len, List.length_set, List.length_replicate] <;> omega) | (rw [hrl]; omega) | (simp [hrl]; omega))))))) trivial ?_
              refine wp_q rfl Mem.closed (fun _ h => h) Mem.closed rfl (q_of_yld (y_indexAddr_ar ar144 sz143 rfl rfl (by omega) (by omega) 2 (by omega))) trivial ?_
              refine wp_q rfl Mem.closed (fun _ h => h) Mem.closed rfl (q_of_yld (y_load sc143 rfl (c_blk (i := 0) rfl (arr_get (gd 0 (by first | omega | (simp only [wR_len, schR_len, addS_len, List.length_set, List.length_replicate] <;> omega) | (rw [hrl]; omega) | (simp [hrl]; omega))))))) trivial ?_
              refine wp_q rfl Mem.closed (fun _ h => h) Mem.closed rfl (q_of_yld (y_bin rfl rfl (and_u32 ((rndR wordsL (schR (wR blk 16) 48) s t).getD 1 0) ((rndR wordsL (schR (wR blk 16) 48) s t).getD 2 0)))) trivial ?_
              refine wp_q rfl Mem.closed (fun _ h => h) Mem.closed rfl (q_of_yld (y_bin rfl rfl (xor_u32 ((((rndR wordsL (schR (wR blk 16) 48) s t).getD 0 0) &&& ((rndR wordsL (schR (wR blk 16) 48) s t).getD 1 0)) ^^^ (((rndR wordsL (schR (wR blk 16) 48) s t).getD 0 0) &&& ((rndR wordsL (schR (wR blk 16) 48) s t).getD 2 0))) (((rndR wordsL (schR (wR blk 16) 48) s t).getD 1 0) &&& ((rndR wordsL (schR (wR blk 16) 48) s t).getD 2 0))))) trivial ?_
              refine wp_q rfl Mem.closed (fun _ h => h) Mem.closed rfl (q_of_yld (y_bin rfl rfl (add_u32 (((rotl32 ((rndR wordsL (schR (wR blk 16) 48) s t).getD 0 0) 30) ^^^ (rotl32 ((rndR wordsL (schR (wR blk 16) 48) s t).getD 0 0) 19)) ^^^ (rotl32 ((rndR wordsL (schR (wR blk 16) 48) s t).getD 0 0) 10)) (((((rndR wordsL (schR (wR blk 16) 48) s t).getD 0 0) &&& ((rndR wordsL (schR (wR blk 16) 48) s t).getD 1 0)) ^^^ (((rndR wordsL (schR (wR blk 16) 48) s t).getD 0 0) &&& ((rndR wordsL (schR (wR blk 16) 48) s t).getD 2 0))) ^^^ (((rndR wordsL (schR (wR blk 16) 48) s t).getD 1 0) &&& ((rndR wordsL (schR (wR blk 16) 48) s t).getD 2 0)))))) trivial ?_
              refine wp_q rfl Mem.closed (fun _ h => h) Mem.closed rfl (q_of_yld (y_assign rfl)) trivial ?_
              refine wp_nil ?_
              refine aq_seq ?_
              refine wc_region ?_
              refine wl_y (y_move rfl) ?_
              refine wl_y (y_move rfl) ?_
              refine wl_y (y_bin rfl rfl (add_u32 (((((rndR wordsL (schR (wR blk 16) 48) s t).getD 7 0 + (((rotl32 ((rndR wordsL (schR (wR blk 16) 48) s t).getD 4 0) 26) ^^^ (rotl32 ((rndR wordsL (schR (wR blk 16) 48) s t).getD 4 0) 21)) ^^^ (rotl32 ((rndR wordsL (schR (wR blk 16) 48) s t).getD 4 0) 7))) + ((((rndR wordsL (schR (wR blk 16) 48) s t).getD 4 0) &&& ((rndR wordsL (schR (wR blk 16) 48) s t).getD 5 0)) ^^^ ((~~~ ((rndR wordsL (schR (wR blk 16) 48) s t).getD 4 0)) &&& ((rndR wordsL (schR (wR blk 16) 48) s t).getD 6 0)))) + wordsL.getD t 0) + (schR (wR blk 16) 48).getD t 0) ((((rotl32 ((rndR wordsL (schR (wR blk 16) 48) s t).getD 0 0) 30) ^^^ (rotl32 ((rndR wordsL (schR (wR blk 16) 48) s t).getD 0 0) 19)) ^^^ (rotl32 ((rndR wordsL (schR (wR blk 16) 48) s t).getD 0 0) 10)) + (((((rndR wordsL (schR (wR blk 16) 48) s t).getD 0 0) &&& ((rndR wordsL (schR (wR blk 16) 48) s t).getD 1 0)) ^^^ (((rndR wordsL (schR (wR blk 16) 48) s t).getD 0 0) &&& ((rndR wordsL (schR (wR blk 16) 48) s t).getD 2 0))) ^^^ (((rndR wordsL (schR (wR blk 16) 48) s t).getD 1 0) &&& ((rndR wordsL (schR (wR blk 16) 48) s t).getD 2 0)))))) ?_
              refine wl_y (y_indexAddr_ar ar144 sz143 rfl rfl (by omega) (by omega) 0 (by omega)) ?_
              refine wl_y (y_load sc143 rfl (c_blk (i := 0) rfl (arr_get (gd 0 (by first | omega | (simp only [wR_len, schR_len, addS_len, List.length_set, List.length_replicate] <;> omega) | (rw [hrl]; omega) | (simp [hrl]; omega)))))) ?_
              refine wl_y (y_indexAddr_ar ar144 sz143 rfl rfl (by omega) (by omega) 1 (by omega)) ?_
              refine wl_y (y_load sc143 rfl (c_blk (i := 0) rfl (arr_get (gd 0 (by first | omega | (simp only [wR_len, schR_len, addS_len, List.length_set, List.length_replicate] <;> omega) | (rw [hrl]; omega) | (simp [hrl]; omega)))))) ?_
              refine wl_y (y_indexAddr_ar ar144 sz143 rfl rfl (by omega) (by omega) 2 (by omega)) ?_
              refine wl_y (y_load sc143 rfl (c_blk (i := 0) rfl (arr_get (gd 0 (by first | omega | (simp only [wR_len, schR_len, addS_len, List.length_set, List.length_replicate] <;> omega) | (rw [hrl]; omega) | (simp [hrl]; omega)))))) ?_
              refine wl_y (y_indexAddr_ar ar144 sz143 rfl rfl (by omega) (by omega) 3 (by omega)) ?_
              refine wl_y (y_load sc143 rfl (c_blk (i := 0) rfl (arr_get (gd 0 (by first | omega | (simp only [wR_len, schR_len, addS_len, List.length_set, List.length_replicate] <;> omega) | (rw [hrl]; omega) | (simp [hrl]; omega)))))) ?_
              refine wl_y (y_move rfl) ?_
              refine wl_y (y_bin rfl rfl (add_u32 ((rndR wordsL (schR (wR blk 16) 48) s t).getD 3 0) (((((rndR wordsL (schR (wR blk 16) 48) s t).getD 7 0 + (((rotl32 ((rndR wordsL (schR (wR blk 16) 48) s t).getD 4 0) 26) ^^^ (rotl32 ((rndR wordsL (schR (wR blk 16) 48) s t).getD 4 0) 21)) ^^^ (rotl32 ((rndR wordsL (schR (wR blk 16) 48) s t).getD 4 0) 7))) + ((((rndR wordsL (schR (wR blk 16) 48) s t).getD 4 0) &&& ((rndR wordsL (schR (wR blk 16) 48) s t).getD 5 0)) ^^^ ((~~~ ((rndR wordsL (schR (wR blk 16) 48) s t).getD 4 0)) &&& ((rndR wordsL (schR (wR blk 16) 48) s t).getD 6 0)))) + wordsL.getD t 0) + (schR (wR blk 16) 48).getD t 0))) ?_
              refine wl_y (y_indexAddr_ar ar144 sz143 rfl rfl (by omega) (by omega) 4 (by omega)) ?_
              refine wl_y (y_load sc143 rfl (c_blk (i := 0) rfl (arr_get (gd 0 (by first | omega | (simp only [wR_len, schR_len, addS_len, List.length_set, List.length_replicate] <;> omega) | (rw [hrl]; omega) | (simp [hrl]; omega)))))) ?_
              refine wl_y (y_indexAddr_ar ar144 sz143 rfl rfl (by omega) (by omega) 5 (by omega)) ?_
              refine wl_y (y_load sc143 rfl (c_blk (i := 0) rfl (arr_get (gd 0 (by first | omega | (simp only [wR_len, schR_len, addS_len, List.length_set, List.length_replicate] <;> omega) | (rw [hrl]; omega) | (simp [hrl]; omega)))))) ?_
              refine wl_y (y_indexAddr_ar ar144 sz143 rfl rfl (by omega) (by omega) 6 (by omega)) ?_
              refine wl_y (y_load sc143 rfl (c_blk (i := 0) rfl (arr_get (gd 0 (by first | omega | (simp only [wR_len, schR_len, addS_len, List.length_set, List.length_replicate] <;> omega) | (rw [hrl]; omega) | (simp [hrl]; omega)))))) ?_
              refine wl_y (y_build_ar (cs := #[w32 (((((((rndR wordsL (schR (wR blk 16) 48) s t).getD 7 0 + (((rotl32 ((rndR wordsL (schR (wR blk 16) 48) s t).getD 4 0) 26) ^^^ (rotl32 ((rndR wordsL (schR (wR blk 16) 48) s t).getD 4 0) 21)) ^^^ (rotl32 ((rndR wordsL (schR (wR blk 16) 48) s t).getD 4 0) 7))) + ((((rndR wordsL (schR (wR blk 16) 48) s t).getD 4 0) &&& ((rndR wordsL (schR (wR blk 16) 48) s t).getD 5 0)) ^^^ ((~~~ ((rndR wordsL (schR (wR blk 16) 48) s t).getD 4 0)) &&& ((rndR wordsL (schR (wR blk 16) 48) s t).getD 6 0)))) + wordsL.getD t 0) + (schR (wR blk 16) 48).getD t 0) + ((((rotl32 ((rndR wordsL (schR (wR blk 16) 48) s t).getD 0 0) 30) ^^^ (rotl32 ((rndR wordsL (schR (wR blk 16) 48) s t).getD 0 0) 19)) ^^^ (rotl32 ((rndR wordsL (schR (wR blk 16) 48) s t).getD 0 0) 10)) + (((((rndR wordsL (schR (wR blk 16) 48) s t).getD 0 0) &&& ((rndR wordsL (schR (wR blk 16) 48) s t).getD 1 0)) ^^^ (((rndR wordsL (schR (wR blk 16) 48) s t).getD 0 0) &&& ((rndR wordsL (schR (wR blk 16) 48) s t).getD 2 0))) ^^^ (((rndR wordsL (schR (wR blk 16) 48) s t).getD 1 0) &&& ((rndR wordsL (schR (wR blk 16) 48) s t).getD 2 0)))))), w32 ((rndR wordsL (schR (wR blk 16) 48) s t).getD 0 0), w32 ((rndR wordsL (schR (wR blk 16) 48) s t).getD 1 0), w32 ((rndR wordsL (schR (wR blk 16) 48) s t).getD 2 0), w32 (((rndR wordsL (schR (wR blk 16) 48) s t).getD 3 0 + (((((rndR wordsL (schR (wR blk 16) 48) s t).getD 7 0 + (((rotl32 ((rndR wordsL (schR (wR blk 16) 48) s t).getD 4 0) 26) ^^^ (rotl32 ((rndR wordsL (schR (wR blk 16) 48) s t).getD 4 0) 21)) ^^^ (rotl32 ((rndR wordsL (schR (wR blk 16) 48) s t).getD 4 0) 7))) + ((((rndR wordsL (schR (wR blk 16) 48) s t).getD 4 0) &&& ((rndR wordsL (schR (wR blk 16) 48) s t).getD 5 0)) ^^^ ((~~~ ((rndR wordsL (schR (wR blk 16) 48) s t).getD 4 0)) &&& ((rndR wordsL (schR (wR blk 16) 48) s t).getD 6 0)))) + wordsL.getD t 0) + (schR (wR blk 16) 48).getD t 0))), w32 ((rndR wordsL (schR (wR blk 16) 48) s t).getD 4 0), w32 ((rndR wordsL (schR (wR blk 16) 48) s t).getD 5 0), w32 ((rndR wordsL (schR (wR blk 16) 48) s t).getD 6 0)]) [(0, w32 (((((((rndR wordsL (schR (wR blk 16) 48) s t).getD 7 0 + (((rotl32 ((rndR wordsL (schR (wR blk 16) 48) s t).getD 4 0) 26) ^^^ (rotl32 ((rndR wordsL (schR (wR blk 16) 48) s t).getD 4 0) 21)) ^^^ (rotl32 ((rndR wordsL (schR (wR blk 16) 48) s t).getD 4 0) 7))) + ((((rndR wordsL (schR (wR blk 16) 48) s t).getD 4 0) &&& ((rndR wordsL (schR (wR blk 16) 48) s t).getD 5 0)) ^^^ ((~~~ ((rndR wordsL (schR (wR blk 16) 48) s t).getD 4 0)) &&& ((rndR wordsL (schR (wR blk 16) 48) s t).getD 6 0)))) + wordsL.getD t 0) + (schR (wR blk 16) 48).getD t 0) + ((((rotl32 ((rndR wordsL (schR (wR blk 16) 48) s t).getD 0 0) 30) ^^^ (rotl32 ((rndR wordsL (schR (wR blk 16) 48) s t).getD 0 0) 19)) ^^^ (rotl32 ((rndR wordsL (schR (wR blk 16) 48) s t).getD 0 0) 10)) + (((((rndR wordsL (schR (wR blk 16) 48) s t).getD 0 0) &&& ((rndR wordsL (schR (wR blk 16) 48) s t).getD 1 0)) ^^^ (((rndR wordsL (schR (wR blk 16) 48) s t).getD 0 0) &&& ((rndR wordsL (schR (wR blk 16) 48) s t).getD 2 0))) ^^^ (((rndR wordsL (schR (wR blk 16) 48) s t).getD 1 0) &&& ((rndR wordsL (schR (wR blk 16) 48) s t).getD 2 0))))))), (1, w32 ((rndR wordsL (schR (wR blk 16) 48) s t).getD 0 0)), (2, w32 ((rndR wordsL (schR (wR blk 16) 48) s t).getD 1 0)), (3, w32 ((rndR wordsL (schR (wR blk 16) 48) s t).getD 2 0)), (4, w32 (((rndR wordsL (schR (wR blk 16) 48) s t).getD 3 0 + (((((rndR wordsL (schR (wR blk 16) 48) s t).getD 7 0 + (((rotl32 ((rndR wordsL (schR (wR blk 16) 48) s t).getD 4 0) 26) ^^^ (rotl32 ((rndR wordsL (schR (wR blk 16) 48) s t).getD 4 0) 21)) ^^^ (rotl32 ((rndR wordsL (schR (wR blk 16) 48) s t).getD 4 0) 7))) + ((((rndR wordsL (schR (wR blk 16) 48) s t).getD 4 0) &&& ((rndR wordsL (schR (wR blk 16) 48) s t).getD 5 0)) ^^^ ((~~~ ((rndR wordsL (schR (wR blk 16) 48) s t).getD 4 0)) &&& ((rndR wordsL (schR (wR blk 16) 48) s t).getD 6 0)))) + wordsL.getD t 0) + (schR (wR blk 16) 48).getD t 0)))), (5, w32 ((rndR wordsL (schR (wR blk 16) 48) s t).getD 4 0)), (6, w32 ((rndR wordsL (schR (wR blk 16) 48) s t).getD 5 0)), (7, w32 ((rndR wordsL (schR (wR blk 16) 48) s t).getD 6 0))] ar144 sz143 zn144 rfl (by kernel_rfl)) ?_
              refine wl_re (t := 177) (v' := .agg (arr w32 (rndR wordsL (schR (wR blk 16) 48) s (t + 1)))) rfl (rfl) ?_
              refine wl_eff (e_storeall sz144 rfl rfl (i := 0) rfl (by first | (simp; done) | (simp [*]; done) | (simp; omega) | rfl) (by first | (simp; done) | (simp [*]; done) | (simp; omega) | rfl) (arr_one _) rfl) rfl trivial rfl ?_
              intro _
              refine wl_nil ?_
              refine aq_blk_normal ?_
              refine aq_seq ?_
              refine wc_region ?_
              refine wl_y (y_move rfl) ?_
              refine wl_y (y_bin rfl rfl (addn_i64 (a := t) (b := 1) (by omega))) ?_
              refine wl_y (y_assign rfl) ?_
              refine wl_nil ?_
              refine aq_loop (t + 1) ?_ ?_ ⟨rfl, rfl, rfl, rfl, rfl, rfl, trivial⟩ (fun _ h => h)
              · omega
              · first | omega | (dsimp only; omega)
            · have hb3 : ¬ ((t : Int) < 64) := by simpa using hc3
              have hte : t = 64 := by omega
              subst hte
              refine wc_exit ?_
              refine aq_thru_exit ?_
              refine aq_thru_exit ?_
              refine aq_blk_exit ?_
              refine aq_seq ?_
              refine wc_seq ?_
              refine wc_seq ?_
              refine wc_region ?_
              refine wl_y (y_assign rfl) ?_
              refine wl_nil ?_
              refine aq_seq ?_
              refine wc_block ?_
              refine wc_loop (γ := Nat) (fun i => [(2, .pointer (some ⟨b1, 0, none⟩)), (4, .pointer (some ⟨b3, 0, none⟩)), (11, .pointer (some ⟨b6, 0, none⟩)), (17, ki ((i : Int)))]) (fun i => Mem w [] [.blk b6 (.cells (arr w32 (addS (rndR wordsL (schR (wR blk 16) 48) s 64) s i)) 144 (0, 0)), .blk b5 (.cells (arr w32 wordsL) 146 (0, 0)), .blk b4 (.cells (arr w32 (schR (wR blk 16) 48)) 146 (0, 0)), .blk b3 (.cells (arr w32 (List.replicate 8 0)) 144 (0, 0)), .blk b2 (.cells (arr b8 blk) 52 (0, 0)), .blk b1 (.cells (arr w32 s) 144 (0, 0))]) (fun i => (i ≤ 8)) (fun i => 8 - i) (0) ?_ ⟨rfl, rfl, rfl, rfl, trivial⟩ (fun _ h => h) ?_
              · omega
              · rintro i hi
                refine wc_seq ?_
                refine wc_seq ?_
                refine wc_region ?_
                refine wl_y (y_move rfl) ?_
                refine wl_y (y_bin rfl rfl lss_i64) ?_
                refine wl_nil ?_
                refine aq_seq ?_
                refine wc_if rfl (fun hc4 => ?_) (fun hc4 => ?_)
                · have hb4 : (i : Int) < 8 := by simpa using hc4
                  refine wc_skip ?_
                  refine aq_seq ?_
                  refine wc_seq ?_
                  refine wc_block ?_
                  refine wc_drawM [(0, .q), (1, .q), (2, .q), (3, .q), (4, .q), (5, .q), (6, .q), (7, .q), (8, .q), (9, .l)] (by kernel_rfl) (by kernel_rfl) Mem.closed ?_
                  refine wp_q rfl Mem.closed (fun _ h => h) Mem.closed rfl (q_of_yld (y_move rfl)) trivial ?_
                  refine wp_q rfl Mem.closed (fun _ h => h) Mem.closed rfl (q_of_yld (y_move rfl)) trivial ?_
                  refine wp_q rfl Mem.closed (fun _ h => h) Mem.closed rfl (q_of_yld (y_indexAddr_ar ar144 sz143 rfl rfl (by omega) (by omega) i (by omega))) trivial ?_
                  refine wp_q rfl Mem.closed (fun _ h => h) Mem.closed rfl (q_of_yld (y_load sc143 rfl (c_blk (i := 0) rfl (arr_get (gd 0 (by first | omega | (simp only [wR_len, schR_len, addS_len, List.length_set, List.length_replicate] <;> omega) | (rw [hrl]; omega) | (simp [hrl]; omega))))))) trivial ?_
                  refine wp_q rfl Mem.closed (fun _ h => h) Mem.closed rfl (q_of_yld (y_move rfl)) trivial ?_
                  refine wp_q rfl Mem.closed (fun _ h => h) Mem.closed rfl (q_of_yld (y_indexAddr_ar ar144 sz143 rfl rfl (by omega) (by omega) i (by omega))) trivial ?_
                  refine wp_q rfl Mem.closed (fun _ h => h) Mem.closed rfl (q_of_yld (y_load sc143 rfl (c_blk (i := 5) rfl (arr_get (gd 0 (by first | omega | (simp only [wR_len, schR_len, addS_len, List.length_set, List.length_replicate] <;> omega) | (rw [hrl]; omega) | (simp [hrl]; omega))))))) trivial ?_
                  refine wp_q rfl Mem.closed (fun _ h => h) Mem.closed rfl (q_of_yld (y_bin rfl rfl (add_u32 ((addS (rndR wordsL (schR (wR blk 16) 48) s 64) s i).getD i 0) (s.getD i 0)))) trivial ?_
                  refine wp_q rfl Mem.closed (fun _ h => h) Mem.closed rfl (q_of_yld (y_indexAddr_ar ar144 sz143 rfl rfl (by omega) (by omega) i (by omega))) trivial ?_
                  refine wp_l rfl rfl rfl (e_store_arr (f := w32) sz143 rfl (x' := ((addS (rndR wordsL (schR (wR blk 16) 48) s 64) s i).getD i 0 + s.getD i 0)) rfl (i := 0) rfl (by first | omega | (simp only [wR_len, schR_len, addS_len, List.length_set, List.length_replicate] <;> omega) | (rw [hrl]; omega) | (simp [hrl]; omega)) rfl) trivial ?_
                  intro _
                  refine aq_blk_normal ?_
                  refine aq_seq ?_
                  refine wc_region ?_
                  refine wl_y (y_move rfl) ?_
                  refine wl_y (y_bin rfl rfl (addn_i64 (a := i) (b := 1) (by omega))) ?_
                  refine wl_y (y_assign rfl) ?_
                  refine wl_nil ?_
                  refine aq_loop (i + 1) ?_ ?_ ⟨rfl, rfl, rfl, rfl, trivial⟩ (fun _ h => h)
                  · omega
                  · first | omega | (dsimp only; omega)
                · have hb4 : ¬ ((i : Int) < 8) := by simpa using hc4
                  have hie : i = 8 := by omega
                  subst hie
                  refine wc_mem (M' := Mem w [] [.blk b6 (.cells (arr w32 (furF s blk wordsL)) 144 (0, 0)), .blk b5 (.cells (arr w32 wordsL) 146 (0, 0)), .blk b4 (.cells (arr w32 (schR (wR blk 16) 48)) 146 (0, 0)), .blk b3 (.cells (arr w32 (List.replicate 8 0)) 144 (0, 0)), .blk b2 (.cells (arr b8 blk) 52 (0, 0)), .blk b1 (.cells (arr w32 s) 144 (0, 0))]) (fun w_ h_ => by have h2 : Mem w [] [.blk b6 (.cells (arr w32 (addS (rndR wordsL (schR (wR blk 16) 48) s 64) s 8)) 144 (0, 0)), .blk b5 (.cells (arr w32 wordsL) 146 (0, 0)), .blk b4 (.cells (arr w32 (schR (wR blk 16) 48)) 146 (0, 0)), .blk b3 (.cells (arr w32 (List.replicate 8 0)) 144 (0, 0)), .blk b2 (.cells (arr b8 blk) 52 (0, 0)), .blk b1 (.cells (arr w32 s) 144 (0, 0))] w_ := h_; rw [blockR_eq blk hs] at h2; exact h2) ?_
                  refine wc_exit ?_
                  refine aq_thru_exit ?_
                  refine aq_thru_exit ?_
                  refine aq_blk_exit ?_
                  refine aq_seq ?_
                  refine wc_seq ?_
                  refine wc_region ?_
                  refine wl_y (y_loadall ag144 rfl (i := 0) rfl (by first | (simp; done) | (simp [*]; done) | (simp; omega) | rfl)) ?_
                  refine wl_eff (e_storeall sz144 rfl rfl (i := 3) rfl (by first | (simp; done) | (simp [*]; done) | (simp; omega) | rfl) (by first | (simp; done) | (simp [*]; done) | (simp; omega) | rfl) (arr_one _) ⟨_, rfl, ⟨_, rfl, ⟨_, rfl, rfl⟩⟩⟩) rfl trivial rfl ?_
                  intro _
                  refine wl_nil ?_
                  refine aq_seq ?_
                  refine wc_ret ?_
                  refine aq_return (.inl rfl) rfl (⟨_, _, _, rfl, fun w m => run_loadVar_all ag144 (m.blk (i := 3) rfl) (by first | (simp; done) | (simp [*]; done) | (simp; omega) | rfl), rfl, rfl⟩) ?_
                  intro w' m
                  exact ⟨(), rfl, m.pick (is := []) rfl (by decide)⟩

theorem padded_ok (w : World) (ab : Option Addr) (nb cb : Nat) (lb : List UInt8) (hb : Rd w ab nb 1 (lb.map b8)) (hnb : nb ≤ 1048576) :
    Calls Tryz.prog 90 #[.slice ab nb cb] w (Ret (fun r : Option Addr × Nat => .slice r.1 (padN nb) r.2) (fun r => Mem w [] [.sl r.1 (padN nb) r.2 5 1 ((padR lb nb).map b8)])) := by
  have hlb := hb.len
  have hz : zerosN nb = (119 - nb % 64) % 64 := rfl
  refine calls_of Tryz.func90 rfl rfl (L := [(0, .slice ab nb cb)]) ⟨rfl, trivial⟩ (m := 36) (Nat.le_of_ble_eq_true rfl) (M := Mem w [] []) (Mem.refl w) ?_
  refine wc_seq ?_
  refine wc_region ?_
  refine wl_y (y_assign rfl) ?_
  refine wl_nil ?_
  refine aq_seq ?_
  refine wc_seq ?_
  refine wc_region ?_
  refine wl_y (y_assign rfl) ?_
  refine wl_nil ?_
  refine aq_seq ?_
  refine wc_seq ?_
  refine wc_region ?_
  refine wl_y (y_move rfl) ?_
  refine wl_y (y_move rfl) ?_
  refine wl_mem (fun _ h => h.nilsl 5 1) ?_
  refine wl_eff (e_appendm (f := b8) (xs := ([] : List UInt8)) (news := lb) sl22 el5 rfl rfl rfl rfl (i := 0) rfl (fun w m => m.rd0 hb) (by omega) (by omega) nb (by first | rfl | omega) (by first | rfl | simp) (fun _ => rfl)) rfl trivial rfl ?_
  intro r1
  refine wl_y (y_assign rfl) ?_
  refine wl_nil ?_
  refine aq_seq ?_
  refine wc_seq ?_
  refine wc_region ?_
  refine wl_y (y_move rfl) ?_
  refine wl_eff (e_buildSlice (len := 1) [b8 (128)] sl22 el5 rfl rfl rfl (by simp [Value.cells]) (by decide) [b8 (128)] rfl) rfl trivial rfl ?_
  intro b2
  refine wl_eff (e_appendm (f := b8) (xs := lb) (news := ([128] : List UInt8)) sl22 el5 rfl rfl rfl rfl (i := 1) rfl (fun w m => (m.rd_sl (i := 0) rfl : Rd _ _ 1 1 (([128] : List UInt8).map b8))) (by omega) (by omega) (nb + 1) (by first | rfl | omega) (by first | rfl | simp) (fun _ => ⟨_, rfl, rfl⟩)) rfl trivial rfl ?_
  intro r3
  refine wl_y (y_assign rfl) ?_
  refine wl_nil ?_
  refine aq_seq ?_
  refine wc_seq ?_
  refine wc_block ?_
  refine wc_loop (γ := Nat × Option Addr × Nat) (fun ⟨j, ad, dp⟩ => [(0, .slice ab nb cb), (2, .slice none 0 0), (3, .slice ad ((nb + 1) + j) dp)]) (fun ⟨j, ad, dp⟩ => Mem w [] [.sl (some ⟨b2, 0, none⟩) 1 1 5 1 (([128] : List UInt8).map b8), .sl ad ((nb + 1) + j) dp 5 1 (((([] ++ lb) ++ [128]) ++ List.replicate j 0).map b8)]) (fun ⟨j, ad, dp⟩ => (j ≤ (zerosN nb))) (fun ⟨j, ad, dp⟩ => (zerosN nb) - j) (⟨0, r3.1, r3.2⟩) ?_ ⟨rfl, rfl, rfl, trivial⟩ (fun _ h => (by simpa using h)) ?_
  · omega
  · rintro ⟨j, ad, dp⟩ hj
    change j ≤ (zerosN nb) at hj
    refine wc_seq ?_
    refine wc_seq ?_
    refine wc_region ?_
    refine wl_y (y_move rfl) ?_
    refine wl_y (y_len_sl sl22 (m := ((nb + 1) + j)) rfl rfl) ?_
    refine wl_y (y_bin rfl rfl (remn_i64 (a := ((nb + 1) + j)) (b := 64) (by omega))) ?_
    refine wl_y (y_bin rfl rfl neq_i64) ?_
    refine wl_nil ?_
    refine aq_seq ?_
    refine wc_if rfl (fun hc1 => ?_) (fun hc1 => ?_)
    · have hb1 : ¬ (((((nb + 1) + j) % 64 : Nat) : Int) = 56) := by simpa using hc1
      refine wc_skip ?_
      refine aq_seq ?_
      refine wc_block ?_
      refine wc_region ?_
      refine wl_y (y_move rfl) ?_
      refine wl_eff (e_buildSlice (len := 1) [b8 (0)] sl22 el5 rfl rfl rfl (by simp [Value.cells]) (by decide) [b8 (0)] rfl) rfl trivial rfl ?_
      intro b4
      refine wl_eff (e_appendm (f := b8) (xs := ((([] ++ lb) ++ [128]) ++ List.replicate j 0)) (news := ([0] : List UInt8)) sl22 el5 rfl rfl rfl rfl (i := 2) rfl (fun w m => (m.rd_sl (i := 0) rfl : Rd _ _ 1 1 (([0] : List UInt8).map b8))) (by omega) (by omega) (((nb + 1) + j) + 1) (by first | rfl | omega) (by first | rfl | simp) (fun _ => ⟨_, rfl, ⟨_, rfl, rfl⟩⟩)) rfl trivial rfl ?_
      intro r5
      refine wl_y (y_assign rfl) ?_
      refine wl_nil ?_
      refine aq_blk_normal ?_
      rw [zapp2]
      refine aq_loop (⟨j + 1, r5.1, r5.2⟩) ?_ ?_ ⟨rfl, rfl, rfl, trivial⟩ (fun _ h => (Mem.pick h (is := [1, 2]) ⟨_, _, rfl, rfl, ⟨_, _, rfl, rfl, rfl⟩⟩ (by decide)))
      · omega
      · first | omega | (dsimp only; omega)
    · have hb1 : ((((nb + 1) + j) % 64 : Nat) : Int) = 56 := by simpa using hc1
      have hje : j = zerosN nb := by omega
      subst hje
      refine wc_exit ?_
      refine aq_thru_exit ?_
      refine aq_thru_exit ?_
      refine aq_blk_exit ?_
      refine aq_seq ?_
      refine wc_seq ?_
      refine wc_region ?_
      refine wl_y (y_move rfl) ?_
      refine wl_y (y_len_sl sl22 (m := nb) rfl rfl) ?_
      refine wl_y (y_cv rfl us3 ui72 (congrArg (Value.int .u64) (cvn_u64 nb (by omega)))) ?_
      refine wl_y (y_bin rfl rfl (mul_u64 (UInt64.ofNat nb) 8)) ?_
      refine wl_y (y_assign rfl) ?_
      refine wl_nil ?_
      refine aq_seq ?_
      refine wc_seq ?_
      refine wc_seq ?_
      refine wc_region ?_
      refine wl_y (y_assign rfl) ?_
      refine wl_nil ?_
      refine aq_seq ?_
      refine wc_block ?_
      refine wc_loop (γ := Nat × Option Addr × Nat) (fun ⟨k, ad, dp⟩ => [(2, .slice none 0 0), (3, .slice ad (((nb + 1) + (zerosN nb)) + k) dp), (4, w64 ((UInt64.ofNat nb * 8))), (5, ki ((7 - ((k : Nat) : Int))))]) (fun ⟨k, ad, dp⟩ => Mem w [] [.sl (some ⟨b2, 0, none⟩) 1 1 5 1 (([128] : List UInt8).map b8), .sl ad (((nb + 1) + (zerosN nb)) + k) dp 5 1 ((((([] ++ lb) ++ [128]) ++ List.replicate (zerosN nb) 0) ++ beTo (UInt64.ofNat nb * 8) k).map b8)]) (fun ⟨k, ad, dp⟩ => (k ≤ 8)) (fun ⟨k, ad, dp⟩ => 8 - k) (⟨0, ad, dp⟩) ?_ ⟨rfl, rfl, rfl, rfl, trivial⟩ (fun _ h => (by simpa [beTo] using h)) ?_
      · omega
      · rintro ⟨k, ad, dp⟩ hk
        change k ≤ 8 at hk
        refine wc_seq ?_
        refine wc_seq ?_
        refine wc_region ?_
        refine wl_y (y_move rfl) ?_
        refine wl_y (y_bin rfl rfl geq_i64) ?_
        refine wl_nil ?_
        refine aq_seq ?_
        refine wc_if rfl (fun hc2 => ?_) (fun hc2 => ?_)
        · have hb2 : ((7 - ((k : Nat) : Int)) : Int) ≥ 0 := by simpa using hc2
          refine wc_skip ?_
          refine aq_seq ?_
          refine wc_seq ?_
          refine wc_block ?_
          refine wc_region ?_
          refine wl_y (y_move rfl) ?_
          refine wl_y (y_move rfl) ?_
          refine wl_y (y_move rfl) ?_
          refine wl_y (y_bin rfl rfl (mul_i64 (by omega) (by omega))) ?_
          refine wl_re (t := 30) (v' := ki (((8 * (7 - k) : Nat) : Int))) rfl (congrArg ki (by omega)) ?_
          refine wl_y (y_bin rfl rfl (shr_u64 (UInt64.ofNat nb * 8) (q := .i64) (8 * (7 - k)) (by omega) (by omega))) ?_
          refine wl_y (y_cv rfl us72 ui5 (congrArg (Value.int .u8) (cv_u64_u8 ((UInt64.ofNat nb * 8) >>> UInt64.ofNat (8 * (7 - k)))))) ?_
          refine wl_eff (e_buildSlice (len := 1) [b8 (((UInt64.ofNat nb * 8) >>> UInt64.ofNat (8 * (7 - k))).toUInt8)] sl22 el5 rfl rfl rfl (by simp [Value.cells]) (by decide) [b8 (((UInt64.ofNat nb * 8) >>> UInt64.ofNat (8 * (7 - k))).toUInt8)] rfl) rfl trivial rfl ?_
          intro b6
          refine wl_eff (e_appendm (f := b8) (xs := (((([] ++ lb) ++ [128]) ++ List.replicate (zerosN nb) 0) ++ beTo (UInt64.ofNat nb * 8) k)) (news := ([((UInt64.ofNat nb * 8) >>> UInt64.ofNat (8 * (7 - k))).toUInt8] : List UInt8)) sl22 el5 rfl rfl rfl rfl (i := 2) rfl (fun w m => (m.rd_sl (i := 0) rfl : Rd _ _ 1 1 (([((UInt64.ofNat nb * 8) >>> UInt64.ofNat (8 * (7 - k))).toUInt8] : List UInt8).map b8))) (by omega) (by omega) ((((nb + 1) + (zerosN nb)) + k) + 1) (by first | rfl | omega) (by first | rfl | simp) (fun _ => ⟨_, rfl, ⟨_, rfl, rfl⟩⟩)) rfl trivial rfl ?_
          intro r7
          refine wl_y (y_assign rfl) ?_
          refine wl_nil ?_
          refine aq_blk_normal ?_
          refine aq_seq ?_
          refine wc_region ?_
          refine wl_y (y_move rfl) ?_
          refine wl_y (y_bin rfl rfl (sub_i64 (by omega) (by omega))) ?_
          refine wl_re (t := 26) (v' := ki ((7 - ((k + 1 : Nat) : Int)))) rfl (congrArg ki (by omega)) ?_
          refine wl_y (y_assign rfl) ?_
          refine wl_nil ?_
          rw [beApp]
          refine aq_loop (⟨k + 1, r7.1, r7.2⟩) ?_ ?_ ⟨rfl, rfl, rfl, rfl, trivial⟩ (fun _ h => (Mem.pick h (is := [1, 2]) ⟨_, _, rfl, rfl, ⟨_, _, rfl, rfl, rfl⟩⟩ (by decide)))
          · omega
          · first | omega | (dsimp only; omega)
        · have hb2 : ¬ (((7 - ((k : Nat) : Int)) : Int) ≥ 0) := by simpa using hc2
          have hke : k = 8 := by omega
          subst hke
          refine wc_exit ?_
          refine aq_thru_exit ?_
          refine aq_thru_exit ?_
          refine aq_blk_exit ?_
          refine aq_seq ?_
          refine wc_seq ?_
          refine wc_region ?_
          refine wl_y (y_move rfl) ?_
          refine wl_y (y_assign rfl) ?_
          refine wl_nil ?_
          refine aq_seq ?_
          refine wc_ret ?_
          refine aq_return (.inl rfl) rfl (⟨_, _, rfl, rfl, rfl⟩) ?_
          intro w' m
          exact ⟨(ad, dp), rfl, (Mem.pick m (is := [1]) ⟨_, _, rfl, rfl, rfl⟩ (by decide))⟩

theorem rsum_ok (w : World) (ab : Option Addr) (nb cb : Nat) (lb : List UInt8) (hb : Rd w ab nb 1 (lb.map b8)) :
    Calls Tryz.prog 59 #[.slice ab nb cb] w (Ret (fun _ : Unit => .tuple #[.agg (arr b8 (sumO lb nb)), ki (sumE nb : Nat)]) (fun _ => Mem w [] [])) := by
  have hlb := hb.len
  have hpe := padN_eq nb
  have hpl := padR_len hlb
  have hbl : beginL.length = 8 := rfl
  refine calls_of Tryz.func59 rfl rfl (L := [(0, .slice ab nb cb)]) ⟨rfl, trivial⟩ (m := 56) (Nat.le_of_ble_eq_true rfl) (M := Mem w [] []) (Mem.refl w) ?_
  refine wc_seq ?_
  refine wc_region ?_
  refine wl_eff (e_alloc (cs := arr b8 (List.replicate 32 0)) zn56) rfl trivial rfl ?_
  intro b1
  refine wl_y (y_assign rfl) ?_
  refine wl_nil ?_
  refine aq_seq ?_
  refine wc_seq ?_
  refine wc_seq ?_
  refine wc_region ?_
  refine wl_y (y_move rfl) ?_
  refine wl_y (y_len_sl sl22 (m := nb) rfl rfl) ?_
  refine wl_y (y_bin rfl rfl gtr_i64) ?_
  refine wl_nil ?_
  refine aq_seq ?_
  refine wc_if rfl (fun hc1 => ?_) (fun hc1 => ?_)
  · have hb1 : (nb : Int) > 1048576 := by simpa using hc1
    have he := sumE_3 (nb := nb) (by omega)
    have ho := sumO_3 (nb := nb) lb (by omega)
    refine wc_seq ?_
    refine wc_region ?_
    refine wl_y (y_build_ar (cs := lit_76dcfbfb) [] ar56 sz5 zn56 rfl (by kernel_rfl)) ?_
    refine wl_re (t := 14) (v' := .agg (arr b8 (List.replicate 32 0))) rfl (rfl) ?_
    refine wl_eff (e_storeall sz56 rfl rfl (i := 0) rfl (by first | (simp; done) | (simp [*]; done) | (simp; omega) | rfl) (by first | (simp; done) | (simp [*]; done) | (simp; omega) | rfl) (arr_one _) rfl) rfl trivial rfl ?_
    intro _
    refine wl_y (y_assign rfl) ?_
    refine wl_nil ?_
    refine aq_seq ?_
    refine wc_ret ?_
    refine aq_thru_ret ?_
    refine aq_return (.inl rfl) rfl (⟨_, _, _, rfl, fun w m => run_loadVar_all ag56 (m.blk (i := 0) rfl) (by first | (simp; done) | (simp [*]; done) | (simp; omega) | rfl), rfl, ⟨_, _, rfl, rfl, rfl⟩⟩) ?_
    intro w' m
    rw [he, ho]
    exact ⟨(), rfl, (Mem.pick m (is := []) rfl (by decide))⟩
  · have hb1 : ¬ ((nb : Int) > 1048576) := by simpa using hc1
    have he := sumE_0 (nb := nb) (by omega)
    have ho := sumO_0 (nb := nb) lb (by omega)
    refine wc_skip ?_
    refine aq_seq ?_
    refine wc_seq ?_
    refine wc_region ?_
    refine wl_y (y_move rfl) ?_
    refine wl_eff (e_call0 cf90 rfl (fun w m => padded_ok w ab nb cb lb (m.rd0 hb) (by omega))) rfl trivial rfl ?_
    intro r2
    refine wl_y (y_assign rfl) ?_
    refine wl_nil ?_
    refine aq_seq ?_
    refine wc_seq ?_
    refine wc_region ?_
    refine wl_eff (e_call0 cf91 rfl (fun w m => rbegin_ok w)) rfl trivial rfl ?_
    intro _
    refine wl_eff (e_alloc (cs := arr w32 (List.replicate 8 0)) zn144) rfl trivial rfl ?_
    intro b3
    refine wl_eff (e_storeall sz144 rfl rfl (i := 0) rfl (by first | (simp; done) | (simp [*]; done) | (simp; omega) | rfl) (by first | (simp; done) | (simp [*]; done) | (simp; omega) | rfl) (arr_one _) rfl) rfl trivial rfl ?_
    intro _
    refine wl_nil ?_
    refine aq_seq ?_
    refine wc_seq ?_
    refine wc_seq ?_
    refine wc_region ?_
    refine wl_y (y_assign rfl) ?_
    refine wl_nil ?_
    refine aq_seq ?_
    refine wc_block ?_
    refine wc_loop (γ := Nat) (fun j => [(2, .pointer (some ⟨b1, 0, none⟩)), (3, ki (0)), (4, .slice r2.1 (padN nb) r2.2), (5, .pointer (some ⟨b3, 0, none⟩)), (6, ki (((64 * j : Nat) : Int)))]) (fun j => Mem w [] [.blk b3 (.cells (arr w32 (sumTo lb nb j)) 144 (0, 0)), .sl r2.1 (padN nb) r2.2 5 1 ((padR lb nb).map b8), .blk b1 (.cells (arr b8 (List.replicate 32 0)) 56 (0, 0))]) (fun j => (64 * j ≤ padN nb)) (fun j => padN nb - 64 * j) (0) ?_ ⟨rfl, rfl, rfl, rfl, rfl, trivial⟩ (fun _ h => h) ?_
    · omega
    · rintro j hj
      have hsl := sumTo_len lb nb j
      refine wc_seq ?_
      refine wc_seq ?_
      refine wc_region ?_
      refine wl_y (y_move rfl) ?_
      refine wl_y (y_move rfl) ?_
      refine wl_y (y_len_sl sl22 (m := (padN nb)) rfl rfl) ?_
      refine wl_y (y_bin rfl rfl lss_i64) ?_
      refine wl_nil ?_
      refine aq_seq ?_
      refine wc_if rfl (fun hc2 => ?_) (fun hc2 => ?_)
      · have hb2 : ((64 * j : Nat) : Int) < (((padN nb) : Nat) : Int) := by simpa using hc2
        have hjc : 64 * j < padN nb := by omega
        have hbl64 : (blkF lb nb j).length = 64 := by rw [← subR_eq hlb hjc]; simp
        refine wc_skip ?_
        refine aq_seq ?_
        refine wc_seq ?_
        refine wc_block ?_
        refine wc_seq ?_
        refine wc_region ?_
        refine wl_eff (e_alloc (cs := arr b8 (List.replicate 64 0)) zn52) rfl trivial rfl ?_
        intro b4
        refine wl_nil ?_
        refine aq_seq ?_
        refine wc_seq ?_
        refine wc_seq ?_
        refine wc_region ?_
        refine wl_y (y_assign rfl) ?_
        refine wl_nil ?_
        refine aq_seq ?_
        refine wc_block ?_
        refine wc_loop (γ := Nat) (fun i => [(2, .pointer (some ⟨b1, 0, none⟩)), (3, ki (0)), (4, .slice r2.1 (padN nb) r2.2), (5, .pointer (some ⟨b3, 0, none⟩)), (6, ki (((64 * j : Nat) : Int))), (7, .pointer (some ⟨b4, 0, none⟩)), (8, ki ((i : Int)))]) (fun i => Mem w [] [.blk b4 (.cells (arr b8 (subTo (padR lb nb) (64 * j) i)) 52 (0, 0)), .blk b3 (.cells (arr w32 (sumTo lb nb j)) 144 (0, 0)), .sl r2.1 (padN nb) r2.2 5 1 ((padR lb nb).map b8), .blk b1 (.cells (arr b8 (List.replicate 32 0)) 56 (0, 0))]) (fun i => (i ≤ 64)) (fun i => 64 - i) (0) ?_ ⟨rfl, rfl, rfl, rfl, rfl, rfl, rfl, trivial⟩ (fun _ h => h) ?_
        · omega
        · rintro i hi
          refine wc_seq ?_
          refine wc_seq ?_
          refine wc_region ?_
          refine wl_y (y_move rfl) ?_
          refine wl_y (y_bin rfl rfl lss_i64) ?_
          refine wl_nil ?_
          refine aq_seq ?_
          refine wc_if rfl (fun hc3 => ?_) (fun hc3 => ?_)
          · have hb3 : (i : Int) < 64 := by simpa using hc3
            refine wc_skip ?_
            refine aq_seq ?_
            refine wc_seq ?_
            refine wc_block ?_
            refine wc_region ?_
            refine wl_y (y_move rfl) ?_
            refine wl_y (y_move rfl) ?_
            refine wl_y (y_move rfl) ?_
            refine wl_y (y_move rfl) ?_
            refine wl_y (y_bin rfl rfl (addn_i64 (a := (64 * j)) (b := i) (by omega))) ?_
            refine wl_y (y_indexAddr_sl sl22 sz5 rfl rfl (by omega) (by omega) (fun w m => rd_isSome ((m.rd_sl (i := 2) rfl : Rd _ _ (padN nb) 1 ((padR lb nb).map b8))) (by omega) (by decide)) ((64 * j) + i) (by omega)) ?_
            refine wl_y (y_load sc5 rfl (c_of (fun w m => (m.rd_sl (i := 2) rfl : Rd _ _ (padN nb) 1 ((padR lb nb).map b8))) (map_get (gd 0 (by first | omega | (simp; done) | (simp; omega)))))) ?_
            refine wl_y (y_indexAddr_ar ar52 sz5 rfl rfl (by omega) (by omega) i (by omega)) ?_
            refine wl_eff (e_store_arr (f := b8) sz5 rfl (x' := (padR lb nb).getD ((64 * j) + i) 0) rfl (i := 0) rfl (by first | omega | (simp; done) | (simp; omega)) rfl) rfl trivial rfl ?_
            intro _
            refine wl_nil ?_
            refine aq_blk_normal ?_
            refine aq_seq ?_
            refine wc_region ?_
            refine wl_y (y_move rfl) ?_
            refine wl_y (y_bin rfl rfl (addn_i64 (a := i) (b := 1) (by omega))) ?_
            refine wl_y (y_assign rfl) ?_
            refine wl_nil ?_
            refine aq_loop (i + 1) ?_ ?_ ⟨rfl, rfl, rfl, rfl, rfl, rfl, rfl, trivial⟩ (fun _ h => h)
            · omega
            · first | omega | (dsimp only; omega)
          · have hb3 : ¬ ((i : Int) < 64) := by simpa using hc3
            have hie : i = 64 := by omega
            subst hie
            refine wc_exit ?_
            refine aq_thru_exit ?_
            refine aq_thru_exit ?_
            refine aq_blk_exit ?_
            refine aq_seq ?_
            refine wc_region ?_
            refine wl_y (y_loadall ag144 rfl (i := 1) rfl (by first | (simp; done) | (simp [*]; done) | (simp; omega) | rfl)) ?_
            refine wl_y (y_loadall ag52 rfl (i := 0) rfl (by first | (simp; done) | (simp [*]; done) | (simp; omega) | rfl)) ?_
            refine wl_re (t := 37) (v' := .agg (arr b8 (blkF lb nb j))) rfl (congrArg (fun l => Value.agg (arr b8 l)) (subR_eq hlb (by omega))) ?_
            refine wl_eff (e_call0 cf92 rfl (fun w m => rblock_ok w (sumTo lb nb j) (blkF lb nb j) (by first | omega | (simp; done) | (simp; omega)) (by first | omega | (simp; done) | (simp; omega)))) rfl trivial rfl ?_
            intro _
            refine wl_eff (e_storeall sz144 rfl rfl (i := 1) rfl (by first | (simp; done) | (simp [*]; done) | (simp; omega) | rfl) (by first | (simp; done) | (simp [*]; done) | (simp; omega) | rfl) (arr_one _) ⟨_, rfl, rfl⟩) rfl trivial rfl ?_
            intro _
            refine wl_nil ?_
            refine aq_blk_normal ?_
            refine aq_seq ?_
            refine wc_region ?_
            refine wl_y (y_move rfl) ?_
            refine wl_y (y_bin rfl rfl (addn_i64 (a := (64 * j)) (b := 64) (by omega))) ?_
            refine wl_y (y_assign rfl) ?_
            refine wl_nil ?_
            refine aq_loop (j + 1) ?_ ?_ ⟨rfl, rfl, rfl, rfl, rfl, trivial⟩ (fun _ h => (Mem.pick h (is := [1, 2, 3]) ⟨_, _, rfl, rfl, ⟨_, _, rfl, rfl, ⟨_, _, rfl, rfl, rfl⟩⟩⟩ (by decide)))
            · omega
            · first | omega | (dsimp only; omega)
      · have hb2 : ¬ (((64 * j : Nat) : Int) < (((padN nb) : Nat) : Int)) := by simpa using hc2
        have hje : j = (nb + 72) / 64 := by omega
        subst hje
        refine wc_exit ?_
        refine aq_thru_exit ?_
        refine aq_thru_exit ?_
        refine aq_blk_exit ?_
        refine aq_seq ?_
        refine wc_seq ?_
        refine wc_region ?_
        refine wl_eff (e_alloc (cs := arr b8 (List.replicate 32 0)) zn56) rfl trivial rfl ?_
        intro b5
        refine wl_nil ?_
        refine aq_seq ?_
        refine wc_seq ?_
        refine wc_seq ?_
        refine wc_region ?_
        refine wl_y (y_assign rfl) ?_
        refine wl_nil ?_
        refine aq_seq ?_
        refine wc_block ?_
        refine wc_loop (γ := Nat) (fun i => [(2, .pointer (some ⟨b1, 0, none⟩)), (3, ki (0)), (5, .pointer (some ⟨b3, 0, none⟩)), (9, .pointer (some ⟨b5, 0, none⟩)), (10, ki ((i : Int)))]) (fun i => Mem w [] [.blk b5 (.cells (arr b8 (outS (sumTo lb nb ((nb + 72) / 64)) i)) 56 (0, 0)), .blk b3 (.cells (arr w32 (sumTo lb nb ((nb + 72) / 64))) 144 (0, 0)), .sl r2.1 (padN nb) r2.2 5 1 ((padR lb nb).map b8), .blk b1 (.cells (arr b8 (List.replicate 32 0)) 56 (0, 0))]) (fun i => (i ≤ 32)) (fun i => 32 - i) (0) ?_ ⟨rfl, rfl, rfl, rfl, rfl, trivial⟩ (fun _ h => h) ?_
        · omega
        · rintro i hi
          refine wc_seq ?_
          refine wc_seq ?_
          refine wc_region ?_
          refine wl_y (y_move rfl) ?_
          refine wl_y (y_bin rfl rfl lss_i64) ?_
          refine wl_nil ?_
          refine aq_seq ?_
          refine wc_if rfl (fun hc4 => ?_) (fun hc4 => ?_)
          · have hb4 : (i : Int) < 32 := by simpa using hc4
            refine wc_skip ?_
            refine aq_seq ?_
            refine wc_seq ?_
            refine wc_block ?_
            refine wc_region ?_
            refine wl_y (y_move rfl) ?_
            refine wl_y (y_move rfl) ?_
            refine wl_y (y_bin rfl rfl (quon_i64 (a := i) (b := 4) (by omega) (by omega))) ?_
            refine wl_y (y_indexAddr_ar ar144 sz143 rfl rfl (by omega) (by omega) (i / 4) (by omega)) ?_
            refine wl_y (y_load sc143 rfl (c_blk (i := 1) rfl (arr_get (gd 0 (by first | omega | (simp; done) | (simp; omega)))))) ?_
            refine wl_y (y_move rfl) ?_
            refine wl_y (y_bin rfl rfl (remn_i64 (a := i) (b := 4) (by omega))) ?_
            refine wl_y (y_bin rfl rfl (muln_i64 (a := 8) (b := (i % 4)) (by omega))) ?_
            refine wl_re (t := 50) (v' := ki (((i % 4 * 8 : Nat) : Int))) rfl (congrArg ki (by omega)) ?_
            refine wl_y (y_bin rfl rfl (subn_i64 (a := 24) (b := (i % 4 * 8)) (by omega) (by omega))) ?_
            refine wl_y (y_bin rfl rfl (shr_u32 ((sumTo lb nb ((nb + 72) / 64)).getD (i / 4) 0) (q := .i64) (24 - (i % 4 * 8)) (by omega) (by omega))) ?_
            refine wl_y (y_cv rfl us143 ui5 (congrArg (Value.int .u8) (cv_u32_u8 (((sumTo lb nb ((nb + 72) / 64)).getD (i / 4) 0) >>> UInt32.ofNat (24 - (i % 4 * 8)))))) ?_
            refine wl_y (y_indexAddr_ar ar56 sz5 rfl rfl (by omega) (by omega) i (by omega)) ?_
            refine wl_eff (e_store_arr (f := b8) sz5 rfl (x' := (((sumTo lb nb ((nb + 72) / 64)).getD (i / 4) 0) >>> UInt32.ofNat (24 - (i % 4 * 8))).toUInt8) rfl (i := 0) rfl (by first | omega | (simp; done) | (simp; omega)) rfl) rfl trivial rfl ?_
            intro _
            refine wl_nil ?_
            refine aq_blk_normal ?_
            refine aq_seq ?_
            refine wc_region ?_
            refine wl_y (y_move rfl) ?_
            refine wl_y (y_bin rfl rfl (addn_i64 (a := i) (b := 1) (by omega))) ?_
            refine wl_y (y_assign rfl) ?_
            refine wl_nil ?_
            refine aq_loop (i + 1) ?_ ?_ ⟨rfl, rfl, rfl, rfl, rfl, trivial⟩ (fun _ h => h)
            · omega
            · first | omega | (dsimp only; omega)
          · have hb4 : ¬ ((i : Int) < 32) := by simpa using hc4
            have hie : i = 32 := by omega
            subst hie
            refine wc_exit ?_
            refine aq_thru_exit ?_
            refine aq_thru_exit ?_
            refine aq_blk_exit ?_
            refine aq_seq ?_
            refine wc_seq ?_
            refine wc_region ?_
            refine wl_y (y_loadall ag56 rfl (i := 0) rfl (by first | (simp; done) | (simp [*]; done) | (simp; omega) | rfl)) ?_
            refine wl_eff (e_storeall sz56 rfl rfl (i := 3) rfl (by first | (simp; done) | (simp [*]; done) | (simp; omega) | rfl) (by first | (simp; done) | (simp [*]; done) | (simp; omega) | rfl) (arr_one _) ⟨_, rfl, ⟨_, rfl, ⟨_, rfl, rfl⟩⟩⟩) rfl trivial rfl ?_
            intro _
            refine wl_y (y_assign rfl) ?_
            refine wl_nil ?_
            refine aq_seq ?_
            refine wc_ret ?_
            refine aq_return (.inl rfl) rfl (⟨_, _, _, rfl, fun w m => run_loadVar_all ag56 (m.blk (i := 3) rfl) (by first | (simp; done) | (simp [*]; done) | (simp; omega) | rfl), rfl, ⟨_, _, rfl, rfl, rfl⟩⟩) ?_
            intro w' m
            rw [he, ho]
            exact ⟨(), rfl, (Mem.pick m (is := []) rfl (by decide))⟩

end Go.Proofs.YtjibkjoaamchoaaGreatDoor
