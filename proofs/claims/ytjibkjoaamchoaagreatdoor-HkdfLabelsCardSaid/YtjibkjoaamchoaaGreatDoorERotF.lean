/- Lemmas and contracts for the proof of this seat's statements (RotF). No condition. -/
import Derived.Test.YtjibkjoaamchoaaGreatDoorEBk
import Derived.Test.YtjibkjoaamchoaaGreatDoorProg
import Derived.KernelRfl
import Derived.Test.YtjibkjoaamchoaaGreatDoorEPlaA
set_option linter.all false
namespace Go.Proofs.YtjibkjoaamchoaaGreatDoor
open Go.Mc
private theorem us3 : (Tryz.prog.underlying 3).isSome = true := by kernel_rfl
private theorem ui60 : Tryz.prog.underlying 60 = some (.int .u64) := by kernel_rfl
theorem rotl_ok (w : World) (x : UInt32) (k : Int) (s : Nat) (hs : UInt64.ofNat (k % 18446744073709551616).toNat &&& 31 = UInt64.ofNat s) (h0 : 0 < s) (h1 : s < 32) :
    Calls Tryz.prog 98 #[w32 (x), ki (k)] w (Ret (fun _ : Unit => w32 (rotl32 x s)) (fun _ => Mem w [] [])) := by
  refine calls_of Tryz.func98 rfl rfl (L := [(0, w32 (x)), (1, ki (k))]) ⟨rfl, rfl, trivial⟩ (m := 17) (Nat.le_of_ble_eq_true rfl) (M := Mem w [] []) (Mem.refl w) ?_
  refine wc_seq ?_
  refine wc_region ?_
  refine wl_y (y_assign rfl) ?_
  refine wl_nil ?_
  refine aq_seq ?_
  refine wc_seq ?_
  refine wc_region ?_
  refine wl_y (y_move rfl) ?_
  refine wl_y (y_cv rfl us3 ui60 (congrArg (Value.int .u64) (cv_i64_u64 _))) ?_
  refine wl_y (y_bin rfl rfl (and_u64 (UInt64.ofNat ((k) % 18446744073709551616).toNat) 31)) ?_
  refine wl_re (t := 8) (v' := w64 (UInt64.ofNat s)) rfl (congrArg w64 hs) ?_
  refine wl_y (y_assign rfl) ?_
  refine wl_nil ?_
  refine aq_seq ?_
  refine wc_seq ?_
  refine wc_region ?_
  refine wl_y (y_move rfl) ?_
  refine wl_y (y_move rfl) ?_
  refine wl_y (y_bin rfl rfl (shl_u32 x (q := .u64) s (u64_nat (by omega)) (by omega))) ?_
  refine wl_y (y_move rfl) ?_
  refine wl_y (y_move rfl) ?_
  refine wl_y (y_bin rfl rfl (sub_u64 32 (UInt64.ofNat s))) ?_
  refine wl_re (t := 14) (v' := w64 (UInt64.ofNat (32 - s))) rfl (congrArg w64 (sub32 h1)) ?_
  refine wl_y (y_bin rfl rfl (shr_u32 x (q := .u64) (32 - s) (u64_nat (by omega)) (by omega))) ?_
  refine wl_y (y_bin rfl rfl (or_u32 (x <<< UInt32.ofNat s) (x >>> UInt32.ofNat (32 - s)))) ?_
  refine wl_y (y_assign rfl) ?_
  refine wl_nil ?_
  refine aq_seq ?_
  refine wc_ret ?_
  refine aq_return (.inl rfl) rfl (⟨_, _, rfl, rfl, rfl⟩) ?_
  intro w' m
  exact ⟨(), rfl, m⟩

end Go.Proofs.YtjibkjoaamchoaaGreatDoor
