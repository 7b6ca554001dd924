/- Lemmas and contracts for the proof of this seat's statements (ShaF). No condition. -/
import Derived.Test.YtjibkjoaamchoaaGreatDoorEBk
import Derived.Test.YtjibkjoaamchoaaGreatDoorProg
import Derived.KernelRfl
import Derived.Test.YtjibkjoaamchoaaGreatDoorEPlaA
import Derived.Test.YtjibkjoaamchoaaGreatDoorERotF
set_option linter.all false
namespace Go.Proofs.YtjibkjoaamchoaaGreatDoor
open Go.Mc
private theorem cf105 : cfB Tryz.prog 105 = true := by kernel_rfl
private theorem sc72 : scB Tryz.prog 72 = true := by kernel_rfl
private theorem cf104 : cfB Tryz.prog 104 = true := by kernel_rfl
private theorem cf103 : cfB Tryz.prog 103 = true := by kernel_rfl
private theorem us72 : (Tryz.prog.underlying 72).isSome = true := by kernel_rfl
private theorem ui143 : Tryz.prog.underlying 143 = some (.int .u32) := by kernel_rfl
private theorem cf106 : cfB Tryz.prog 106 = true := by kernel_rfl
private theorem sl69 : slB Tryz.prog 69 72 = true := by kernel_rfl
private theorem sz72 : szB Tryz.prog 72 1 = true := by kernel_rfl
private theorem el72 : elB Tryz.prog 72 1 8 (w64 (0)) := elB_of (by kernel_rfl) (by kernel_rfl) (by unfold znB; kernel_rfl)
private theorem zn144 : znB Tryz.prog 144 (.agg (arr w32 (List.replicate 8 0))) := by unfold znB; kernel_rfl
private theorem cf94 : cfB Tryz.prog 94 = true := by kernel_rfl
private theorem cf95 : cfB Tryz.prog 95 = true := by kernel_rfl
private theorem ar144 : arB Tryz.prog 144 8 143 = true := by kernel_rfl
private theorem sz143 : szB Tryz.prog 143 1 = true := by kernel_rfl
private theorem ag144 : agB Tryz.prog 144 8 = true := by kernel_rfl
private theorem sz144 : szB Tryz.prog 144 8 = true := by kernel_rfl
private theorem zn146 : znB Tryz.prog 146 (.agg (arr w32 (List.replicate 64 0))) := by unfold znB; kernel_rfl
private theorem cf96 : cfB Tryz.prog 96 = true := by kernel_rfl
private theorem ar146 : arB Tryz.prog 146 64 143 = true := by kernel_rfl
private theorem ag146 : agB Tryz.prog 146 64 = true := by kernel_rfl
private theorem sz146 : szB Tryz.prog 146 64 = true := by kernel_rfl
theorem mul64_ok (w : World) (x y : UInt64) :
    Calls Tryz.prog 105 #[w64 (x), w64 (y)] w (Ret (fun _ : Unit => .tuple #[w64 (mulHiF x y), w64 (x * y)]) (fun _ => Mem w [] [])) := by
  refine calls_of Tryz.func105 rfl rfl (L := [(0, w64 (x)), (1, w64 (y))]) ⟨rfl, rfl, trivial⟩ (m := 51) (Nat.le_of_ble_eq_true rfl) (M := Mem w [] []) (Mem.refl w) ?_
  refine wc_seq ?_
  refine wc_region ?_
  refine wl_y (y_assign rfl) ?_
  refine wl_y (y_assign rfl) ?_
  refine wl_nil ?_
  refine aq_seq ?_
  refine wc_seq ?_
  refine wc_region ?_
  refine wl_y (y_move rfl) ?_
  refine wl_y (y_bin rfl rfl (and_u64 x 4294967295)) ?_
  refine wl_y (y_assign rfl) ?_
  refine wl_nil ?_
  refine aq_seq ?_
  refine wc_seq ?_
  refine wc_region ?_
  refine wl_y (y_move rfl) ?_
  refine wl_y (y_bin rfl rfl (shr_u64 x (q := .u64) 32 (by omega) (by omega))) ?_
  refine wl_y (y_assign rfl) ?_
  refine wl_nil ?_
  refine aq_seq ?_
  refine wc_seq ?_
  refine wc_region ?_
  refine wl_y (y_move rfl) ?_
  refine wl_y (y_bin rfl rfl (and_u64 y 4294967295)) ?_
  refine wl_y (y_assign rfl) ?_
  refine wl_nil ?_
  refine aq_seq ?_
  refine wc_seq ?_
  refine wc_region ?_
  refine wl_y (y_move rfl) ?_
  refine wl_y (y_bin rfl rfl (shr_u64 y (q := .u64) 32 (by omega) (by omega))) ?_
  refine wl_y (y_assign rfl) ?_
  refine wl_nil ?_
  refine aq_seq ?_
  refine wc_seq ?_
  refine wc_region ?_
  refine wl_y (y_move rfl) ?_
  refine wl_y (y_move rfl) ?_
  refine wl_y (y_bin rfl rfl (mul_u64 (x &&& 4294967295) (y &&& 4294967295))) ?_
  refine wl_y (y_assign rfl) ?_
  refine wl_nil ?_
  refine aq_seq ?_
  refine wc_seq ?_
  refine wc_region ?_
  refine wl_y (y_move rfl) ?_
  refine wl_y (y_move rfl) ?_
  refine wl_y (y_bin rfl rfl (mul_u64 (x >>> UInt64.ofNat 32) (y &&& 4294967295))) ?_
  refine wl_y (y_move rfl) ?_
  refine wl_y (y_bin rfl rfl (shr_u64 ((x &&& 4294967295) * (y &&& 4294967295)) (q := .u64) 32 (by omega) (by omega))) ?_
  refine wl_y (y_bin rfl rfl (add_u64 (x >>> UInt64.ofNat 32 * (y &&& 4294967295)) (((x &&& 4294967295) * (y &&& 4294967295)) >>> UInt64.ofNat 32))) ?_
  refine wl_y (y_assign rfl) ?_
  refine wl_nil ?_
  refine aq_seq ?_
  refine wc_seq ?_
  refine wc_region ?_
  refine wl_y (y_move rfl) ?_
  refine wl_y (y_bin rfl rfl (and_u64 ((x >>> UInt64.ofNat 32 * (y &&& 4294967295)) + ((x &&& 4294967295) * (y &&& 4294967295)) >>> UInt64.ofNat 32) 4294967295)) ?_
  refine wl_y (y_assign rfl) ?_
  refine wl_nil ?_
  refine aq_seq ?_
  refine wc_seq ?_
  refine wc_region ?_
  refine wl_y (y_move rfl) ?_
  refine wl_y (y_bin rfl rfl (shr_u64 ((x >>> UInt64.ofNat 32 * (y &&& 4294967295)) + ((x &&& 4294967295) * (y &&& 4294967295)) >>> UInt64.ofNat 32) (q := .u64) 32 (by omega) (by omega))) ?_
  refine wl_y (y_assign rfl) ?_
  refine wl_nil ?_
  refine aq_seq ?_
  refine wc_seq ?_
  refine wc_region ?_
  refine wl_y (y_move rfl) ?_
  refine wl_y (y_move rfl) ?_
  refine wl_y (y_move rfl) ?_
  refine wl_y (y_bin rfl rfl (mul_u64 (x &&& 4294967295) (y >>> UInt64.ofNat 32))) ?_
  refine wl_y (y_bin rfl rfl (add_u64 (((x >>> UInt64.ofNat 32 * (y &&& 4294967295)) + ((x &&& 4294967295) * (y &&& 4294967295)) >>> UInt64.ofNat 32) &&& 4294967295) ((x &&& 4294967295) * y >>> UInt64.ofNat 32))) ?_
  refine wl_y (y_assign rfl) ?_
  refine wl_nil ?_
  refine aq_seq ?_
  refine wc_seq ?_
  refine wc_region ?_
  refine wl_y (y_move rfl) ?_
  refine wl_y (y_move rfl) ?_
  refine wl_y (y_bin rfl rfl (mul_u64 (x >>> UInt64.ofNat 32) (y >>> UInt64.ofNat 32))) ?_
  refine wl_y (y_move rfl) ?_
  refine wl_y (y_bin rfl rfl (add_u64 (x >>> UInt64.ofNat 32 * y >>> UInt64.ofNat 32) (((x >>> UInt64.ofNat 32 * (y &&& 4294967295)) + ((x &&& 4294967295) * (y &&& 4294967295)) >>> UInt64.ofNat 32) >>> UInt64.ofNat 32))) ?_
  refine wl_y (y_move rfl) ?_
  refine wl_y (y_bin rfl rfl (shr_u64 ((((x >>> UInt64.ofNat 32 * (y &&& 4294967295)) + ((x &&& 4294967295) * (y &&& 4294967295)) >>> UInt64.ofNat 32) &&& 4294967295) + ((x &&& 4294967295) * y >>> UInt64.ofNat 32)) (q := .u64) 32 (by omega) (by omega))) ?_
  refine wl_y (y_bin rfl rfl (add_u64 ((x >>> UInt64.ofNat 32 * y >>> UInt64.ofNat 32) + ((x >>> UInt64.ofNat 32 * (y &&& 4294967295)) + ((x &&& 4294967295) * (y &&& 4294967295)) >>> UInt64.ofNat 32) >>> UInt64.ofNat 32) (((((x >>> UInt64.ofNat 32 * (y &&& 4294967295)) + ((x &&& 4294967295) * (y &&& 4294967295)) >>> UInt64.ofNat 32) &&& 4294967295) + ((x &&& 4294967295) * y >>> UInt64.ofNat 32)) >>> UInt64.ofNat 32))) ?_
  refine wl_y (y_assign rfl) ?_
  refine wl_nil ?_
  refine aq_seq ?_
  refine wc_seq ?_
  refine wc_region ?_
  refine wl_y (y_move rfl) ?_
  refine wl_y (y_move rfl) ?_
  refine wl_y (y_bin rfl rfl (mul_u64 x y)) ?_
  refine wl_y (y_assign rfl) ?_
  refine wl_nil ?_
  refine aq_seq ?_
  refine wc_ret ?_
  refine aq_return (.inl rfl) rfl (⟨_, _, rfl, rfl, ⟨_, _, rfl, rfl, rfl⟩⟩) ?_
  intro w' m
  exact ⟨(), rfl, m⟩

theorem sq1_ok (w : World) (x p : UInt64) (bp : Nat) (hb : w.heap[bp]? = some (.cells #[w64 p] 72 (0, 0))) :
    Calls Tryz.prog 104 #[w64 (x), .pointer (some ⟨bp, 0, none⟩)] w (Ret (fun _ : Unit => kb (grSq p x)) (fun _ => Mem w [bp] [.blk bp (.cells (#[w64 (p)]) 72 (0, 0))])) := by
  refine calls_of Tryz.func104 rfl rfl (L := [(0, w64 (x)), (1, .pointer (some ⟨bp, 0, none⟩))]) ⟨rfl, rfl, trivial⟩ (m := 15) (Nat.le_of_ble_eq_true rfl) (M := Mem w [bp] [.blk bp (.cells (#[w64 (p)]) 72 (0, 0))]) (Mem.start1 hb) ?_
  refine wc_seq ?_
  refine wc_region ?_
  refine wl_y (y_assign rfl) ?_
  refine wl_nil ?_
  refine aq_seq ?_
  refine wc_seq ?_
  refine wc_region ?_
  refine wl_y (y_move rfl) ?_
  refine wl_y (y_move rfl) ?_
  refine wl_eff (e_call0 cf105 rfl (fun w m => mul64_ok w x x)) rfl trivial rfl ?_
  intro _
  refine wl_y (y_move rfl) ?_
  refine wl_y (y_extract rfl rfl) ?_
  refine wl_y (y_extract rfl rfl) ?_
  refine wl_y (y_assign rfl) ?_
  refine wl_y (y_assign rfl) ?_
  refine wl_nil ?_
  refine aq_seq ?_
  refine wc_seq ?_
  refine wc_region ?_
  refine wl_y (y_move rfl) ?_
  refine wl_y (y_load sc72 rfl (c_blk (i := 0) rfl rfl)) ?_
  refine wl_y (y_bin rfl rfl (geq_u64 (mulHiF x x) p)) ?_
  refine wl_y (y_assign rfl) ?_
  refine wl_nil ?_
  refine aq_seq ?_
  refine wc_ret ?_
  refine aq_return (.inl rfl) rfl (⟨_, _, rfl, rfl, rfl⟩) ?_
  intro w' m
  exact ⟨(), rfl, m⟩

theorem belowSq_ok (w : World) (p : UInt64) (bp : Nat) (hb : w.heap[bp]? = some (.cells #[w64 p] 72 (0, 0))) :
    Calls Tryz.prog 103 #[.func (.func 104) #[] #[.pointer (some ⟨bp, 0, none⟩)]] w (Ret (fun _ : Unit => w64 (belowTo (grSq p) 37)) (fun _ => Mem w [bp] [.blk bp (.cells (#[w64 (p)]) 72 (0, 0))])) := by
  refine calls_of Tryz.func103 rfl rfl (L := [(0, .func (.func 104) #[] #[.pointer (some ⟨bp, 0, none⟩)])]) ⟨rfl, trivial⟩ (m := 19) (Nat.le_of_ble_eq_true rfl) (M := Mem w [bp] [.blk bp (.cells (#[w64 (p)]) 72 (0, 0))]) (Mem.start1 hb) ?_
  refine wc_seq ?_
  refine wc_region ?_
  refine wl_y (y_assign rfl) ?_
  refine wl_nil ?_
  refine aq_seq ?_
  refine wc_seq ?_
  refine wc_region ?_
  refine wl_y (y_assign rfl) ?_
  refine wl_nil ?_
  refine aq_seq ?_
  refine wc_seq ?_
  refine wc_seq ?_
  refine wc_region ?_
  refine wl_y (y_assign rfl) ?_
  refine wl_nil ?_
  refine aq_seq ?_
  refine wc_block ?_
  refine wc_loop (γ := Nat) (fun k => [(0, .func (.func 104) #[] #[.pointer (some ⟨bp, 0, none⟩)]), (2, w64 (0)), (3, w64 ((belowTo (grSq p) k))), (4, w64 ((bitF k)))]) (fun k => Mem w [bp] [.blk bp (.cells (#[w64 (p)]) 72 (0, 0))]) (fun k => (k ≤ 37)) (fun k => 37 - k) (0) ?_ ⟨rfl, rfl, rfl, rfl, trivial⟩ (fun _ h => h) ?_
  · omega
  · rintro k hk
    refine wc_seq ?_
    refine wc_seq ?_
    refine wc_region ?_
    refine wl_y (y_move rfl) ?_
    refine wl_y (y_bin rfl rfl (gtr_u64 (bitF k) 0)) ?_
    refine wl_nil ?_
    refine aq_seq ?_
    refine wc_if rfl (fun hc1 => ?_) (fun hc1 => ?_)
    · have hb1 : (bitF k) > 0 := by simpa using hc1
      have hk1 := bit_pos k hk hb1
      refine wc_skip ?_
      refine aq_seq ?_
      refine wc_seq ?_
      refine wc_block ?_
      refine wc_seq ?_
      refine wc_region ?_
      refine wl_y (y_move rfl) ?_
      refine wl_y (y_move rfl) ?_
      refine wl_y (y_move rfl) ?_
      refine wl_y (y_bin rfl rfl (or_u64 (belowTo (grSq p) k) (bitF k))) ?_
      refine wl_eff (e_callvMl rfl [0] [.blk bp (.cells (#[w64 (p)]) 72 (0, 0))] [] ⟨_, _, rfl, rfl, rfl⟩ (by decide) cf104 rfl (al := [w64 (((belowTo (grSq p) k) ||| (bitF k))), .pointer (some ⟨bp, 0, none⟩)]) rfl [bp] rfl (fun w m => sq1_ok w ((belowTo (grSq p) k) ||| (bitF k)) p bp (m.blk (i := 0) rfl))) rfl trivial rfl ?_
      intro _
      refine wl_y (y_not rfl) ?_
      refine wl_nil ?_
      refine aq_seq ?_
      refine wc_if rfl (fun hc2 => ?_) (fun hc2 => ?_)
      · have hb2 : grSq p ((belowTo (grSq p) k) ||| (bitF k)) = false := by simpa using hc2
        refine wc_region ?_
        refine wl_y (y_move rfl) ?_
        refine wl_y (y_move rfl) ?_
        refine wl_y (y_bin rfl rfl (or_u64 (belowTo (grSq p) k) (bitF k))) ?_
        refine wl_y (y_assign rfl) ?_
        refine wl_nil ?_
        refine aq_blk_normal ?_
        refine aq_seq ?_
        refine wc_region ?_
        refine wl_y (y_move rfl) ?_
        refine wl_y (y_bin rfl rfl (shr_u64 (bitF k) (q := .u64) 1 (by omega) (by omega))) ?_
        refine wl_y (y_assign rfl) ?_
        refine wl_nil ?_
        have hfx : ((belowTo (grSq p) k) ||| (bitF k)) = belowTo (grSq p) (k + 1) := by show _ = (if _ then _ else _); rw [if_neg (by simpa using hb2)]
        rw [hfx]
        refine aq_loop (k + 1) ?_ ?_ ⟨rfl, rfl, rfl, rfl, trivial⟩ (fun _ h => h)
        · omega
        · first | omega | (dsimp only; omega)
      · have hb2 : grSq p ((belowTo (grSq p) k) ||| (bitF k)) = true := by simpa using hc2
        refine wc_skip ?_
        refine aq_blk_normal ?_
        refine aq_seq ?_
        refine wc_region ?_
        refine wl_y (y_move rfl) ?_
        refine wl_y (y_bin rfl rfl (shr_u64 (bitF k) (q := .u64) 1 (by omega) (by omega))) ?_
        refine wl_y (y_assign rfl) ?_
        refine wl_nil ?_
        have hfx : (belowTo (grSq p) k) = belowTo (grSq p) (k + 1) := by show _ = (if _ then _ else _); rw [if_pos (by simpa using hb2)]
        rw [hfx]
        refine aq_loop (k + 1) ?_ ?_ ⟨rfl, rfl, rfl, rfl, trivial⟩ (fun _ h => h)
        · omega
        · first | omega | (dsimp only; omega)
    · have hb1 : ¬ ((bitF k) > 0) := by simpa using hc1
      have hke := bit_not k hk hb1
      subst hke
      refine wc_exit ?_
      refine aq_thru_exit ?_
      refine aq_thru_exit ?_
      refine aq_blk_exit ?_
      refine aq_seq ?_
      refine wc_seq ?_
      refine wc_region ?_
      refine wl_y (y_move rfl) ?_
      refine wl_y (y_assign rfl) ?_
      refine wl_nil ?_
      refine aq_seq ?_
      refine wc_ret ?_
      refine aq_return (.inl rfl) rfl (⟨_, _, rfl, rfl, rfl⟩) ?_
      intro w' m
      exact ⟨(), rfl, m⟩

theorem square_ok (w : World) (p : UInt64) :
    Calls Tryz.prog 95 #[w64 (p)] w (Ret (fun _ : Unit => w32 (squareF p)) (fun _ => Mem w [] [])) := by
  refine calls_of Tryz.func95 rfl rfl (L := [(0, w64 (p))]) ⟨rfl, trivial⟩ (m := 6) (Nat.le_of_ble_eq_true rfl) (M := Mem w [] []) (Mem.refl w) ?_
  refine wc_seq ?_
  refine wc_region ?_
  refine wl_eff (e_box (cs := #[w64 (p)]) rfl) rfl trivial rfl ?_
  intro b1
  refine wl_y (y_assign rfl) ?_
  refine wl_nil ?_
  refine aq_seq ?_
  refine wc_seq ?_
  refine wc_region ?_
  refine wl_y (y_makeFunc rfl rfl) ?_
  refine wl_eff (e_callM [0] [.blk b1 (.cells (#[w64 (p)]) 72 (0, 0))] [] ⟨_, _, rfl, rfl, rfl⟩ (by decide) cf103 rfl [b1] rfl (fun w m => belowSq_ok w p b1 (m.blk (i := 0) rfl))) rfl trivial rfl ?_
  intro _
  refine wl_y (y_cv rfl us72 ui143 (congrArg (Value.int .u32) (cv_u64_u32 (belowTo (grSq p) 37)))) ?_
  refine wl_y (y_assign rfl) ?_
  refine wl_nil ?_
  refine aq_seq ?_
  refine wc_ret ?_
  refine aq_return (.inl rfl) rfl (⟨_, _, rfl, rfl, rfl⟩) ?_
  intro w' m
  exact ⟨(), rfl, m.pick (is := []) rfl (by decide)⟩

theorem cu1_ok (w : World) (x p : UInt64) (bp : Nat) (hb : w.heap[bp]? = some (.cells #[w64 p] 72 (0, 0))) :
    Calls Tryz.prog 106 #[w64 (x), .pointer (some ⟨bp, 0, none⟩)] w (Ret (fun _ : Unit => kb (grCu p x)) (fun _ => Mem w [bp] [.blk bp (.cells (#[w64 (p)]) 72 (0, 0))])) := by
  refine calls_of Tryz.func106 rfl rfl (L := [(0, w64 (x)), (1, .pointer (some ⟨bp, 0, none⟩))]) ⟨rfl, rfl, trivial⟩ (m := 28) (Nat.le_of_ble_eq_true rfl) (M := Mem w [bp] [.blk bp (.cells (#[w64 (p)]) 72 (0, 0))]) (Mem.start1 hb) ?_
  refine wc_seq ?_
  refine wc_region ?_
  refine wl_y (y_assign rfl) ?_
  refine wl_nil ?_
  refine aq_seq ?_
  refine wc_seq ?_
  refine wc_region ?_
  refine wl_y (y_move rfl) ?_
  refine wl_y (y_move rfl) ?_
  refine wl_eff (e_call0 cf105 rfl (fun w m => mul64_ok w x x)) rfl trivial rfl ?_
  intro _
  refine wl_y (y_move rfl) ?_
  refine wl_y (y_extract rfl rfl) ?_
  refine wl_y (y_extract rfl rfl) ?_
  refine wl_y (y_assign rfl) ?_
  refine wl_y (y_assign rfl) ?_
  refine wl_nil ?_
  refine aq_seq ?_
  refine wc_seq ?_
  refine wc_region ?_
  refine wl_y (y_move rfl) ?_
  refine wl_y (y_move rfl) ?_
  refine wl_eff (e_call0 cf105 rfl (fun w m => mul64_ok w (x * x) x)) rfl trivial rfl ?_
  intro _
  refine wl_y (y_move rfl) ?_
  refine wl_y (y_extract rfl rfl) ?_
  refine wl_y (y_extract rfl rfl) ?_
  refine wl_y (y_assign rfl) ?_
  refine wl_y (y_assign rfl) ?_
  refine wl_nil ?_
  refine aq_seq ?_
  refine wc_seq ?_
  refine wc_region ?_
  refine wl_y (y_move rfl) ?_
  refine wl_y (y_move rfl) ?_
  refine wl_y (y_bin rfl rfl (mul_u64 (mulHiF x x) x)) ?_
  refine wl_y (y_move rfl) ?_
  refine wl_y (y_bin rfl rfl (add_u64 ((mulHiF x x) * x) (mulHiF (x * x) x))) ?_
  refine wl_y (y_load sc72 rfl (c_blk (i := 0) rfl rfl)) ?_
  refine wl_y (y_bin rfl rfl (shl_u64 p (q := .u64) 32 (by omega) (by omega))) ?_
  refine wl_y (y_bin rfl rfl (geq_u64 (((mulHiF x x) * x) + (mulHiF (x * x) x)) (p <<< UInt64.ofNat 32))) ?_
  refine wl_y (y_assign rfl) ?_
  refine wl_nil ?_
  refine aq_seq ?_
  refine wc_ret ?_
  refine aq_return (.inl rfl) rfl (⟨_, _, rfl, rfl, rfl⟩) ?_
  intro w' m
  exact ⟨(), rfl, m⟩

theorem belowCu_ok (w : World) (p : UInt64) (bp : Nat) (hb : w.heap[bp]? = some (.cells #[w64 p] 72 (0, 0))) :
    Calls Tryz.prog 103 #[.func (.func 106) #[] #[.pointer (some ⟨bp, 0, none⟩)]] w (Ret (fun _ : Unit => w64 (belowTo (grCu p) 37)) (fun _ => Mem w [bp] [.blk bp (.cells (#[w64 (p)]) 72 (0, 0))])) := by
  refine calls_of Tryz.func103 rfl rfl (L := [(0, .func (.func 106) #[] #[.pointer (some ⟨bp, 0, none⟩)])]) ⟨rfl, trivial⟩ (m := 19) (Nat.le_of_ble_eq_true rfl) (M := Mem w [bp] [.blk bp (.cells (#[w64 (p)]) 72 (0, 0))]) (Mem.start1 hb) ?_
  refine wc_seq ?_
  refine wc_region ?_
  refine wl_y (y_assign rfl) ?_
  refine wl_nil ?_
  refine aq_seq ?_
  refine wc_seq ?_
  refine wc_region ?_
  refine wl_y (y_assign rfl) ?_
  refine wl_nil ?_
  refine aq_seq ?_
  refine wc_seq ?_
  refine wc_seq ?_
  refine wc_region ?_
  refine wl_y (y_assign rfl) ?_
  refine wl_nil ?_
  refine aq_seq ?_
  refine wc_block ?_
  refine wc_loop (γ := Nat) (fun k => [(0, .func (.func 106) #[] #[.pointer (some ⟨bp, 0, none⟩)]), (2, w64 (0)), (3, w64 ((belowTo (grCu p) k))), (4, w64 ((bitF k)))]) (fun k => Mem w [bp] [.blk bp (.cells (#[w64 (p)]) 72 (0, 0))]) (fun k => (k ≤ 37)) (fun k => 37 - k) (0) ?_ ⟨rfl, rfl, rfl, rfl, trivial⟩ (fun _ h => h) ?_
  · omega
  · rintro k hk
    refine wc_seq ?_
    refine wc_seq ?_
    refine wc_region ?_
    refine wl_y (y_move rfl) ?_
    refine wl_y (y_bin rfl rfl (gtr_u64 (bitF k) 0)) ?_
    refine wl_nil ?_
    refine aq_seq ?_
    refine wc_if rfl (fun hc1 => ?_) (fun hc1 => ?_)
    · have hb1 : (bitF k) > 0 := by simpa using hc1
      have hk1 := bit_pos k hk hb1
      refine wc_skip ?_
      refine aq_seq ?_
      refine wc_seq ?_
      refine wc_block ?_
      refine wc_seq ?_
      refine wc_region ?_
      refine wl_y (y_move rfl) ?_
      refine wl_y (y_move rfl) ?_
      refine wl_y (y_move rfl) ?_
      refine wl_y (y_bin rfl rfl (or_u64 (belowTo (grCu p) k) (bitF k))) ?_
      refine wl_eff (e_callvMl rfl [0] [.blk bp (.cells (#[w64 (p)]) 72 (0, 0))] [] ⟨_, _, rfl, rfl, rfl⟩ (by decide) cf106 rfl (al := [w64 (((belowTo (grCu p) k) ||| (bitF k))), .pointer (some ⟨bp, 0, none⟩)]) rfl [bp] rfl (fun w m => cu1_ok w ((belowTo (grCu p) k) ||| (bitF k)) p bp (m.blk (i := 0) rfl))) rfl trivial rfl ?_
      intro _
      refine wl_y (y_not rfl) ?_
      refine wl_nil ?_
      refine aq_seq ?_
      refine wc_if rfl (fun hc2 => ?_) (fun hc2 => ?_)
      · have hb2 : grCu p ((belowTo (grCu p) k) ||| (bitF k)) = false := by simpa using hc2
        refine wc_region ?_
        refine wl_y (y_move rfl) ?_
        refine wl_y (y_move rfl) ?_
        refine wl_y (y_bin rfl rfl (or_u64 (belowTo (grCu p) k) (bitF k))) ?_
        refine wl_y (y_assign rfl) ?_
        refine wl_nil ?_
        refine aq_blk_normal ?_
        refine aq_seq ?_
        refine wc_region ?_
        refine wl_y (y_move rfl) ?_
        refine wl_y (y_bin rfl rfl (shr_u64 (bitF k) (q := .u64) 1 (by omega) (by omega))) ?_
        refine wl_y (y_assign rfl) ?_
        refine wl_nil ?_
        have hfx : ((belowTo (grCu p) k) ||| (bitF k)) = belowTo (grCu p) (k + 1) := by show _ = (if _ then _ else _); rw [if_neg (by simpa using hb2)]
        rw [hfx]
        refine aq_loop (k + 1) ?_ ?_ ⟨rfl, rfl, rfl, rfl, trivial⟩ (fun _ h => h)
        · omega
        · first | omega | (dsimp only; omega)
      · have hb2 : grCu p ((belowTo (grCu p) k) ||| (bitF k)) = true := by simpa using hc2
        refine wc_skip ?_
        refine aq_blk_normal ?_
        refine aq_seq ?_
        refine wc_region ?_
        refine wl_y (y_move rfl) ?_
        refine wl_y (y_bin rfl rfl (shr_u64 (bitF k) (q := .u64) 1 (by omega) (by omega))) ?_
        refine wl_y (y_assign rfl) ?_
        refine wl_nil ?_
        have hfx : (belowTo (grCu p) k) = belowTo (grCu p) (k + 1) := by show _ = (if _ then _ else _); rw [if_pos (by simpa using hb2)]
        rw [hfx]
        refine aq_loop (k + 1) ?_ ?_ ⟨rfl, rfl, rfl, rfl, trivial⟩ (fun _ h => h)
        · omega
        · first | omega | (dsimp only; omega)
    · have hb1 : ¬ ((bitF k) > 0) := by simpa using hc1
      have hke := bit_not k hk hb1
      subst hke
      refine wc_exit ?_
      refine aq_thru_exit ?_
      refine aq_thru_exit ?_
      refine aq_blk_exit ?_
      refine aq_seq ?_
      refine wc_seq ?_
      refine wc_region ?_
      refine wl_y (y_move rfl) ?_
      refine wl_y (y_assign rfl) ?_
      refine wl_nil ?_
      refine aq_seq ?_
      refine wc_ret ?_
      refine aq_return (.inl rfl) rfl (⟨_, _, rfl, rfl, rfl⟩) ?_
      intro w' m
      exact ⟨(), rfl, m⟩

theorem cube_ok (w : World) (p : UInt64) :
    Calls Tryz.prog 96 #[w64 (p)] w (Ret (fun _ : Unit => w32 (cubeF p)) (fun _ => Mem w [] [])) := by
  refine calls_of Tryz.func96 rfl rfl (L := [(0, w64 (p))]) ⟨rfl, trivial⟩ (m := 6) (Nat.le_of_ble_eq_true rfl) (M := Mem w [] []) (Mem.refl w) ?_
  refine wc_seq ?_
  refine wc_region ?_
  refine wl_eff (e_box (cs := #[w64 (p)]) rfl) rfl trivial rfl ?_
  intro b1
  refine wl_y (y_assign rfl) ?_
  refine wl_nil ?_
  refine aq_seq ?_
  refine wc_seq ?_
  refine wc_region ?_
  refine wl_y (y_makeFunc rfl rfl) ?_
  refine wl_eff (e_callM [0] [.blk b1 (.cells (#[w64 (p)]) 72 (0, 0))] [] ⟨_, _, rfl, rfl, rfl⟩ (by decide) cf103 rfl [b1] rfl (fun w m => belowCu_ok w p b1 (m.blk (i := 0) rfl))) rfl trivial rfl ?_
  intro _
  refine wl_y (y_cv rfl us72 ui143 (congrArg (Value.int .u32) (cv_u64_u32 (belowTo (grCu p) 37)))) ?_
  refine wl_y (y_assign rfl) ?_
  refine wl_nil ?_
  refine aq_seq ?_
  refine wc_ret ?_
  refine aq_return (.inl rfl) rfl (⟨_, _, rfl, rfl, rfl⟩) ?_
  intro w' m
  exact ⟨(), rfl, m.pick (is := []) rfl (by decide)⟩

theorem primes_ok (w : World) (n K : Nat) (hK : ∀ k, k ≤ K → ((prL k).length < n ↔ k < K)) (hK3 : K ≤ 310) (hn : n ≤ 100) :
    Calls Tryz.prog 94 #[ki ((n : Int))] w (Ret (fun r : Option Addr × Nat => .slice r.1 (prL K).length r.2) (fun r => Mem w [] [.sl r.1 (prL K).length r.2 72 1 ((prL K).map w64)])) := by
  refine calls_of Tryz.func94 rfl rfl (L := [(0, ki ((n : Int)))]) ⟨rfl, trivial⟩ (m := 28) (Nat.le_of_ble_eq_true rfl) (M := Mem w [] []) (Mem.refl w) ?_
  refine wc_seq ?_
  refine wc_region ?_
  refine wl_y (y_assign rfl) ?_
  refine wl_nil ?_
  refine aq_seq ?_
  refine wc_scope ?_
  refine wc_seq ?_
  refine wc_label ?_
  refine aq_seq ?_
  refine wc_seq ?_
  refine wc_seq ?_
  refine wc_region ?_
  refine wl_y (y_assign rfl) ?_
  refine wl_nil ?_
  refine aq_seq ?_
  refine wc_block ?_
  refine wc_mem (fun _ h => h.nilsl 72 1) ?_
  refine wc_loop (γ := Nat × Option Addr × Nat) (fun ⟨k, ad, cp⟩ => [(0, ki ((n : Int))), (2, .slice ad ((prL k).length) cp), (3, w64 ((UInt64.ofNat (2 + k))))]) (fun ⟨k, ad, cp⟩ => Mem w [] [.sl ad ((prL k).length) cp 72 1 ((prL k).map w64)]) (fun ⟨k, ad, cp⟩ => (k ≤ K)) (fun ⟨k, ad, cp⟩ => K - k) (⟨0, none, 0⟩) ?_ ⟨rfl, rfl, rfl, trivial⟩ (fun _ h => h) ?_
  · omega
  · rintro ⟨k, ad, cp⟩ hk
    change k ≤ K at hk
    have hKk := hK k hk
    have hl64 := pr_lt400 k
    refine wc_seq ?_
    refine wc_seq ?_
    refine wc_region ?_
    refine wl_y (y_move rfl) ?_
    refine wl_y (y_len_sl sl69 (m := ((prL k).length)) rfl rfl) ?_
    refine wl_y (y_move rfl) ?_
    refine wl_y (y_bin rfl rfl lss_i64) ?_
    refine wl_nil ?_
    refine aq_seq ?_
    refine wc_if rfl (fun hc1 => ?_) (fun hc1 => ?_)
    · have hb1 : (((prL k).length : Nat) : Int) < (n : Int) := by simpa using hc1
      have hkK : k < K := by omega
      refine wc_skip ?_
      refine aq_seq ?_
      refine wc_seq ?_
      refine wc_block ?_
      refine wc_seq ?_
      refine wc_seq ?_
      refine wc_region ?_
      refine wl_y (y_move rfl) ?_
      refine wl_y (y_len_sl sl69 (m := ((prL k).length)) rfl rfl) ?_
      refine wl_y (y_move rfl) ?_
      refine wl_nil ?_
      refine aq_seq ?_
      refine wc_block ?_
      refine wc_loop (γ := Nat) (fun j => [(0, ki ((n : Int))), (2, .slice ad ((prL k).length) cp), (3, w64 ((UInt64.ofNat (2 + k)))), (12, .slice ad ((prL k).length) cp), (13, ki ((((prL k).length : Nat) : Int))), (14, ki ((j : Int)))]) (fun j => Mem w [] [.sl ad ((prL k).length) cp 72 1 ((prL k).map w64)]) (fun j => (j ≤ (prL k).length) ∧ (∀ i, i < j → ¬ (UInt64.ofNat (2 + k) % (prL k).getD i 0 = 0))) (fun j => (prL k).length - j) (0) ?_ ⟨rfl, rfl, rfl, rfl, rfl, rfl, trivial⟩ (fun _ h => h) ?_
      · exact ⟨Nat.zero_le _, fun i h => absurd h (Nat.not_lt_zero _)⟩
      · rintro j ⟨hj, hno⟩
        refine wc_seq ?_
        refine wc_region ?_
        refine wl_y (y_bin rfl rfl lss_i64) ?_
        refine wl_nil ?_
        refine aq_seq ?_
        refine wc_seq ?_
        refine wc_if rfl (fun hc2 => ?_) (fun hc2 => ?_)
        · have hb2 : (j : Int) < (((prL k).length : Nat) : Int) := by simpa using hc2
          have hjl : j < (prL k).length := by omega
          have hq0 := prL_ne hjl
          refine wc_skip ?_
          refine aq_seq ?_
          refine wc_seq ?_
          refine wc_block ?_
          refine wc_seq ?_
          refine wc_region ?_
          refine wl_y (y_indexAddr_sl sl69 sz72 rfl rfl (by omega) (by omega) (fun w m => rd_isSome ((m.rd_sl (i := 0) rfl : Rd _ _ ((prL k).length) 1 ((prL k).map w64))) (by omega) (by decide)) j (by omega)) ?_
          refine wl_y (y_load sc72 rfl (c_of (fun w m => (m.rd_sl (i := 0) rfl : Rd _ _ ((prL k).length) 1 ((prL k).map w64))) (map_get (gd 0 (by first | omega | (simp; omega)))))) ?_
          refine wl_y (y_assign rfl) ?_
          refine wl_nil ?_
          refine aq_seq ?_
          refine wc_seq ?_
          refine wc_region ?_
          refine wl_y (y_move rfl) ?_
          refine wl_y (y_move rfl) ?_
          refine wl_y (y_bin rfl rfl (rem_u64 (UInt64.ofNat (2 + k)) ((prL k).getD j 0) (by first | assumption | omega))) ?_
          refine wl_y (y_bin rfl rfl (eql_u64 ((UInt64.ofNat (2 + k)) % (prL k).getD j 0) 0)) ?_
          refine wl_nil ?_
          refine aq_seq ?_
          refine wc_if rfl (fun hc3 => ?_) (fun hc3 => ?_)
          · have hb3 : ((UInt64.ofNat (2 + k)) % (prL k).getD j 0) = 0 := by simpa using hc3
            refine wc_exit ?_
            refine aq_blk_ne (by decide) ?_
            refine aq_thru_exit ?_
            refine aq_thru_exit ?_
            refine aq_blk_ne (by decide) ?_
            refine aq_thru_exit ?_
            refine aq_blk_exit ?_
            refine aq_seq ?_
            refine wc_region ?_
            refine wl_y (y_move rfl) ?_
            refine wl_y (y_bin rfl rfl (add_u64 (UInt64.ofNat (2 + k)) 1)) ?_
            refine wl_re (t := 11) (v' := w64 ((UInt64.ofNat (2 + (k + 1))))) rfl (congrArg w64 (ofNat2_succ k)) ?_
            refine wl_y (y_assign rfl) ?_
            refine wl_nil ?_
            have hfx := pr_no (j := j) (by omega) (by omega) hb3
            rw [hfx]
            refine aq_loop (⟨k + 1, ad, cp⟩) ?_ ?_ ⟨rfl, rfl, rfl, trivial⟩ (fun _ h => h)
            · omega
            · first | omega | (dsimp only; omega)
          · have hb3 : ¬ (((UInt64.ofNat (2 + k)) % (prL k).getD j 0) = 0) := by simpa using hc3
            refine wc_skip ?_
            refine aq_blk_normal ?_
            refine aq_seq ?_
            refine wc_region ?_
            refine wl_y (y_bin rfl rfl (addn_i64 (a := j) (b := 1) (by omega))) ?_
            refine wl_y (y_move rfl) ?_
            refine wl_nil ?_
            refine aq_loop (j + 1) ?_ ?_ ⟨rfl, rfl, rfl, rfl, rfl, rfl, trivial⟩ (fun _ h => h)
            · exact ⟨by omega, fun i hi => (Nat.lt_or_ge i j).elim (hno i) fun h => (show j = i by omega) ▸ hb3⟩
            · first | omega | (dsimp only; omega)
        · have hb2 : ¬ ((j : Int) < (((prL k).length : Nat) : Int)) := by simpa using hc2
          refine wc_exit ?_
          refine aq_thru_exit ?_
          refine aq_thru_exit ?_
          refine aq_blk_exit ?_
          refine aq_seq ?_
          refine wc_region ?_
          refine wl_y (y_move rfl) ?_
          refine wl_y (y_move rfl) ?_
          refine wl_eff (e_buildSlice (len := 1) [w64 ((UInt64.ofNat (2 + k)))] sl69 el72 rfl rfl rfl (by simp [Value.cells]) (by decide) [w64 ((UInt64.ofNat (2 + k)))] rfl) rfl trivial rfl ?_
          intro b1
          refine wl_eff (e_appendm (f := w64) (xs := (prL k)) (news := ([(UInt64.ofNat (2 + k))] : List UInt64)) sl69 el72 rfl rfl rfl rfl (i := 1) rfl (fun w m => (m.rd_sl (i := 0) rfl : Rd _ _ 1 1 (([(UInt64.ofNat (2 + k))] : List UInt64).map w64))) (by omega) (by omega) (((prL k).length) + 1) (by first | rfl | omega) (by first | rfl | simp) (fun _ => ⟨_, rfl, rfl⟩)) rfl trivial rfl ?_
          intro r2
          refine wl_y (y_assign rfl) ?_
          refine wl_nil ?_
          refine aq_blk_normal ?_
          refine aq_seq ?_
          refine wc_region ?_
          refine wl_y (y_move rfl) ?_
          refine wl_y (y_bin rfl rfl (add_u64 (UInt64.ofNat (2 + k)) 1)) ?_
          refine wl_re (t := 11) (v' := w64 ((UInt64.ofNat (2 + (k + 1))))) rfl (congrArg w64 (ofNat2_succ k)) ?_
          refine wl_y (y_assign rfl) ?_
          refine wl_nil ?_
          have hj0 : j = (prL k).length := by omega
          subst hj0
          have hfx := pr_yes (by omega) hno
          have hfl := pr_yes_len (by omega) hno
          rw [hfx, hfl]
          refine aq_loop (⟨k + 1, r2.1, r2.2⟩) ?_ ?_ ⟨rfl, rfl, rfl, trivial⟩ (fun _ h => (Mem.pick h (is := [1]) ⟨_, _, rfl, rfl, rfl⟩ (by decide)))
          · omega
          · first | omega | (dsimp only; omega)
    · have hb1 : ¬ ((((prL k).length : Nat) : Int) < (n : Int)) := by simpa using hc1
      have hkK : k = K := by omega
      subst hkK
      refine wc_exit ?_
      refine aq_thru_exit ?_
      refine aq_thru_exit ?_
      refine aq_blk_exit ?_
      refine aq_seq ?_
      refine wc_seq ?_
      refine wc_region ?_
      refine wl_y (y_move rfl) ?_
      refine wl_y (y_assign rfl) ?_
      refine wl_nil ?_
      refine aq_seq ?_
      refine wc_ret ?_
      refine aq_ng_ret ?_
      refine aq_return (.inl rfl) rfl (⟨_, _, rfl, rfl, rfl⟩) ?_
      intro w' m
      exact ⟨(ad, cp), rfl, m⟩

theorem begin_ok (w : World) :
    Calls Tryz.prog 86 #[] w (Ret (fun _ : Unit => .agg (arr w32 beginL)) (fun _ => Mem w [] [])) := by
  have hpl : (prL 18).length = 8 := by rw [pr18]; rfl
  refine calls_of Tryz.func86 rfl rfl (L := []) trivial (m := 16) (Nat.le_of_ble_eq_true rfl) (M := Mem w [] []) (Mem.refl w) ?_
  refine wc_seq ?_
  refine wc_region ?_
  refine wl_eff (e_alloc (cs := arr w32 (List.replicate 8 0)) zn144) rfl trivial rfl ?_
  intro b1
  refine wl_nil ?_
  refine aq_seq ?_
  refine wc_seq ?_
  refine wc_seq ?_
  refine wc_region ?_
  refine wl_eff (e_call0 cf94 rfl (fun w m => primes_ok w 8 18 hK8 (by omega) (by omega))) rfl trivial rfl ?_
  intro r2
  rw [show (prL 18).length = 8 from by rw [pr18]; rfl]
  refine wl_y (y_len_sl sl69 (m := 8) rfl rfl) ?_
  refine wl_y (y_move rfl) ?_
  refine wl_nil ?_
  refine aq_seq ?_
  refine wc_block ?_
  refine wc_loop (γ := Nat) (fun i => [(0, .pointer (some ⟨b1, 0, none⟩)), (3, .slice r2.1 8 r2.2), (4, ki (8)), (5, ki ((i : Int)))]) (fun i => Mem w [] [.sl r2.1 8 r2.2 72 1 ((prL 18).map w64), .blk b1 (.cells (arr w32 (tabTo squareF (prL 18) 8 i)) 144 (0, 0))]) (fun i => (i ≤ 8)) (fun i => 8 - i) (0) ?_ ⟨rfl, rfl, rfl, rfl, trivial⟩ (fun _ h => h) ?_
  · omega
  · rintro i hi
    refine wc_seq ?_
    refine wc_region ?_
    refine wl_y (y_bin rfl rfl lss_i64) ?_
    refine wl_nil ?_
    refine aq_seq ?_
    refine wc_seq ?_
    refine wc_if rfl (fun hc1 => ?_) (fun hc1 => ?_)
    · have hb1 : (i : Int) < 8 := by simpa using hc1
      refine wc_skip ?_
      refine aq_seq ?_
      refine wc_seq ?_
      refine wc_block ?_
      refine wc_seq ?_
      refine wc_region ?_
      refine wl_y (y_move rfl) ?_
      refine wl_y (y_indexAddr_sl sl69 sz72 rfl rfl (by omega) (by omega) (fun w m => rd_isSome ((m.rd_sl (i := 0) rfl : Rd _ _ 8 1 ((prL 18).map w64))) (by omega) (by decide)) i (by omega)) ?_
      refine wl_y (y_load sc72 rfl (c_of (fun w m => (m.rd_sl (i := 0) rfl : Rd _ _ 8 1 ((prL 18).map w64))) (map_get (gd 0 (by first | omega | (simp only [tabTo_len]; omega) | (rw [pr18]; decide)))))) ?_
      refine wl_y (y_assign rfl) ?_
      refine wl_y (y_assign rfl) ?_
      refine wl_nil ?_
      refine aq_seq ?_
      refine wc_region ?_
      refine wl_y (y_move rfl) ?_
      refine wl_y (y_move rfl) ?_
      refine wl_eff (e_call0 cf95 rfl (fun w m => square_ok w ((prL 18).getD i 0))) rfl trivial rfl ?_
      intro _
      refine wl_y (y_indexAddr_ar ar144 sz143 rfl rfl (by omega) (by omega) i (by omega)) ?_
      refine wl_eff (e_store_arr (f := w32) sz143 rfl (x' := squareF ((prL 18).getD i 0)) rfl (i := 1) rfl (by first | omega | (simp only [tabTo_len]; omega) | (rw [pr18]; decide)) ⟨_, rfl, rfl⟩) rfl trivial rfl ?_
      intro _
      refine wl_nil ?_
      refine aq_blk_normal ?_
      refine aq_seq ?_
      refine wc_region ?_
      refine wl_y (y_bin rfl rfl (addn_i64 (a := i) (b := 1) (by omega))) ?_
      refine wl_y (y_move rfl) ?_
      refine wl_nil ?_
      refine aq_loop (i + 1) ?_ ?_ ⟨rfl, rfl, rfl, rfl, trivial⟩ (fun _ h => h)
      · omega
      · first | omega | (dsimp only; omega)
    · have hb1 : ¬ ((i : Int) < 8) := by simpa using hc1
      have hie : i = 8 := by omega
      subst hie
      refine wc_mem (M' := Mem w [] [.sl r2.1 8 r2.2 72 1 ((prL 18).map w64), .blk b1 (.cells (arr w32 beginL) 144 (0, 0))]) (fun w_ h_ => by have h2 : Mem w [] [.sl r2.1 8 r2.2 72 1 ((prL 18).map w64), .blk b1 (.cells (arr w32 (tabTo squareF (prL 18) 8 8)) 144 (0, 0))] w_ := h_; rw [begin_eq] at h2; exact h2) ?_
      refine wc_exit ?_
      refine aq_thru_exit ?_
      refine aq_thru_exit ?_
      refine aq_blk_exit ?_
      refine aq_seq ?_
      refine wc_seq ?_
      refine wc_region ?_
      refine wl_y (y_loadall ag144 rfl (i := 1) rfl (by first | rfl | (simp; done))) ?_
      refine wl_eff (e_storeall sz144 rfl rfl (i := 1) rfl (by first | rfl | (simp; done)) (by first | rfl | (simp; done)) (arr_one _) ⟨_, rfl, rfl⟩) rfl trivial rfl ?_
      intro _
      refine wl_nil ?_
      refine aq_seq ?_
      refine wc_ret ?_
      refine aq_return (.inl rfl) rfl (⟨_, _, _, rfl, fun w m => run_loadVar_all ag144 (m.blk (i := 1) rfl) (by first | rfl | (simp; done)), rfl, rfl⟩) ?_
      intro w' m
      exact ⟨(), rfl, m.pick (is := []) rfl (by decide)⟩

theorem words_ok (w : World) :
    Calls Tryz.prog 87 #[] w (Ret (fun _ : Unit => .agg (arr w32 wordsL)) (fun _ => Mem w [] [])) := by
  have hpl : (prL 310).length = 64 := by rw [pr310]; rfl
  refine calls_of Tryz.func87 rfl rfl (L := []) trivial (m := 16) (Nat.le_of_ble_eq_true rfl) (M := Mem w [] []) (Mem.refl w) ?_
  refine wc_seq ?_
  refine wc_region ?_
  refine wl_eff (e_alloc (cs := arr w32 (List.replicate 64 0)) zn146) rfl trivial rfl ?_
  intro b1
  refine wl_nil ?_
  refine aq_seq ?_
  refine wc_seq ?_
  refine wc_seq ?_
  refine wc_region ?_
  refine wl_eff (e_call0 cf94 rfl (fun w m => primes_ok w 64 310 hK64 (by omega) (by omega))) rfl trivial rfl ?_
  intro r2
  rw [show (prL 310).length = 64 from by rw [pr310]; rfl]
  refine wl_y (y_len_sl sl69 (m := 64) rfl rfl) ?_
  refine wl_y (y_move rfl) ?_
  refine wl_nil ?_
  refine aq_seq ?_
  refine wc_block ?_
  refine wc_loop (γ := Nat) (fun i => [(0, .pointer (some ⟨b1, 0, none⟩)), (3, .slice r2.1 64 r2.2), (4, ki (64)), (5, ki ((i : Int)))]) (fun i => Mem w [] [.sl r2.1 64 r2.2 72 1 ((prL 310).map w64), .blk b1 (.cells (arr w32 (tabTo cubeF (prL 310) 64 i)) 146 (0, 0))]) (fun i => (i ≤ 64)) (fun i => 64 - i) (0) ?_ ⟨rfl, rfl, rfl, rfl, trivial⟩ (fun _ h => h) ?_
  · omega
  · rintro i hi
    refine wc_seq ?_
    refine wc_region ?_
    refine wl_y (y_bin rfl rfl lss_i64) ?_
    refine wl_nil ?_
    refine aq_seq ?_
    refine wc_seq ?_
    refine wc_if rfl (fun hc1 => ?_) (fun hc1 => ?_)
    · have hb1 : (i : Int) < 64 := by simpa using hc1
      refine wc_skip ?_
      refine aq_seq ?_
      refine wc_seq ?_
      refine wc_block ?_
      refine wc_seq ?_
      refine wc_region ?_
      refine wl_y (y_move rfl) ?_
      refine wl_y (y_indexAddr_sl sl69 sz72 rfl rfl (by omega) (by omega) (fun w m => rd_isSome ((m.rd_sl (i := 0) rfl : Rd _ _ 64 1 ((prL 310).map w64))) (by omega) (by decide)) i (by omega)) ?_
      refine wl_y (y_load sc72 rfl (c_of (fun w m => (m.rd_sl (i := 0) rfl : Rd _ _ 64 1 ((prL 310).map w64))) (map_get (gd 0 (by first | omega | (simp only [tabTo_len]; omega) | (rw [pr310]; decide)))))) ?_
      refine wl_y (y_assign rfl) ?_
      refine wl_y (y_assign rfl) ?_
      refine wl_nil ?_
      refine aq_seq ?_
      refine wc_region ?_
      refine wl_y (y_move rfl) ?_
      refine wl_y (y_move rfl) ?_
      refine wl_eff (e_call0 cf96 rfl (fun w m => cube_ok w ((prL 310).getD i 0))) rfl trivial rfl ?_
      intro _
      refine wl_y (y_indexAddr_ar ar146 sz143 rfl rfl (by omega) (by omega) i (by omega)) ?_
      refine wl_eff (e_store_arr (f := w32) sz143 rfl (x' := cubeF ((prL 310).getD i 0)) rfl (i := 1) rfl (by first | omega | (simp only [tabTo_len]; omega) | (rw [pr310]; decide)) ⟨_, rfl, rfl⟩) rfl trivial rfl ?_
      intro _
      refine wl_nil ?_
      refine aq_blk_normal ?_
      refine aq_seq ?_
      refine wc_region ?_
      refine wl_y (y_bin rfl rfl (addn_i64 (a := i) (b := 1) (by omega))) ?_
      refine wl_y (y_move rfl) ?_
      refine wl_nil ?_
      refine aq_loop (i + 1) ?_ ?_ ⟨rfl, rfl, rfl, rfl, trivial⟩ (fun _ h => h)
      · omega
      · first | omega | (dsimp only; omega)
    · have hb1 : ¬ ((i : Int) < 64) := by simpa using hc1
      have hie : i = 64 := by omega
      subst hie
      refine wc_mem (M' := Mem w [] [.sl r2.1 64 r2.2 72 1 ((prL 310).map w64), .blk b1 (.cells (arr w32 wordsL) 146 (0, 0))]) (fun w_ h_ => by have h2 : Mem w [] [.sl r2.1 64 r2.2 72 1 ((prL 310).map w64), .blk b1 (.cells (arr w32 (tabTo cubeF (prL 310) 64 64)) 146 (0, 0))] w_ := h_; rw [words_eq] at h2; exact h2) ?_
      refine wc_exit ?_
      refine aq_thru_exit ?_
      refine aq_thru_exit ?_
      refine aq_blk_exit ?_
      refine aq_seq ?_
      refine wc_seq ?_
      refine wc_region ?_
      refine wl_y (y_loadall ag146 rfl (i := 1) rfl (by first | rfl | (simp; done))) ?_
      refine wl_eff (e_storeall sz146 rfl rfl (i := 1) rfl (by first | rfl | (simp; done)) (by first | rfl | (simp; done)) (arr_one _) ⟨_, rfl, rfl⟩) rfl trivial rfl ?_
      intro _
      refine wl_nil ?_
      refine aq_seq ?_
      refine wc_ret ?_
      refine aq_return (.inl rfl) rfl (⟨_, _, _, rfl, fun w m => run_loadVar_all ag146 (m.blk (i := 1) rfl) (by first | rfl | (simp; done)), rfl, rfl⟩) ?_
      intro w' m
      exact ⟨(), rfl, m.pick (is := []) rfl (by decide)⟩

end Go.Proofs.YtjibkjoaamchoaaGreatDoor
