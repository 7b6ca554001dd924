/- Lemmas and contracts for the proof of this seat's statements (SumF). No condition. -/
import Derived.Test.YtjibkjoaamchoaaGreatDoorEBk
import Derived.Test.YtjibkjoaamchoaaGreatDoorProg
import Derived.KernelRfl
import Derived.Test.YtjibkjoaamchoaaGreatDoorEPlaA
import Derived.Test.YtjibkjoaamchoaaGreatDoorESha3F
set_option linter.all false
namespace Go.Proofs.YtjibkjoaamchoaaGreatDoor
open Go.Mc
private theorem zn56 : znB Tryz.prog 56 (.agg (arr b8 (List.replicate 32 0))) := by unfold znB; kernel_rfl
private theorem sl22 : slB Tryz.prog 22 5 = true := by kernel_rfl
private theorem ag56 : agB Tryz.prog 56 32 = true := by kernel_rfl
private theorem sz56 : szB Tryz.prog 56 32 = true := by kernel_rfl
private theorem cf86 : cfB Tryz.prog 86 = true := by kernel_rfl
private theorem cf87 : cfB Tryz.prog 87 = true := by kernel_rfl
private theorem zn144 : znB Tryz.prog 144 (.agg (arr w32 (List.replicate 8 0))) := by unfold znB; kernel_rfl
private theorem zn146 : znB Tryz.prog 146 (.agg (arr w32 (List.replicate 64 0))) := by unfold znB; kernel_rfl
private theorem sz144 : szB Tryz.prog 144 8 = true := by kernel_rfl
private theorem sz146 : szB Tryz.prog 146 64 = true := by kernel_rfl
private theorem cf88 : cfB Tryz.prog 88 = true := by kernel_rfl
private theorem cf97 : cfB Tryz.prog 97 = true := by kernel_rfl
private theorem ag144 : agB Tryz.prog 144 8 = true := by kernel_rfl
private theorem cf89 : cfB Tryz.prog 89 = true := by kernel_rfl
private theorem ar144 : arB Tryz.prog 144 8 143 = true := by kernel_rfl
private theorem sz143 : szB Tryz.prog 143 1 = true := by kernel_rfl
private theorem sc143 : scB Tryz.prog 143 = true := by kernel_rfl
private theorem us143 : (Tryz.prog.underlying 143).isSome = true := by kernel_rfl
private theorem ui5 : Tryz.prog.underlying 5 = some (.int .u8) := by kernel_rfl
private theorem ar56 : arB Tryz.prog 56 32 5 = true := by kernel_rfl
private theorem sz5 : szB Tryz.prog 5 1 = true := by kernel_rfl
theorem blocks_ok (w : World) (ab : Option Addr) (nb cb : Nat) :
    Calls Tryz.prog 88 #[.slice ab nb cb] w (Ret (fun y : Nat => .func (.func 97) #[] #[.pointer (some ⟨y, 0, none⟩)]) (fun y => Mem w [] [.blk y (.cells #[.slice ab nb cb] 22 (0, 0))])) := by
  refine calls_of Tryz.func88 rfl rfl (L := [(0, .slice ab nb cb)]) ⟨rfl, trivial⟩ (m := 4) (Nat.le_of_ble_eq_true rfl) (M := Mem w [] []) (Mem.refl w) ?_
  refine wc_seq ?_
  refine wc_region ?_
  refine wl_eff (e_box (cs := #[.slice ab nb cb]) rfl) rfl trivial rfl ?_
  intro b1
  refine wl_y (y_assign rfl) ?_
  refine wl_nil ?_
  refine aq_seq ?_
  refine wc_seq ?_
  refine wc_region ?_
  refine wl_y (y_makeFunc rfl rfl) ?_
  refine wl_y (y_assign rfl) ?_
  refine wl_nil ?_
  refine aq_seq ?_
  refine wc_ret ?_
  refine aq_return (.inl rfl) rfl (⟨_, _, rfl, rfl, rfl⟩) ?_
  intro w' m
  exact ⟨b1, rfl, m⟩

theorem sum_ok (w : World) (ab : Option Addr) (nb cb : Nat) (lb : List UInt8) (hb : Rd w ab nb 1 (lb.map b8)) (hc : nb ≤ cb) :
    Calls Tryz.prog 56 #[.slice ab nb cb] w (Ret (fun _ : Unit => .tuple #[.agg (arr b8 (sumO lb nb)), ki (sumE nb : Nat)]) (fun _ => Mem w [] [])) := by
  have hlb := hb.len
  have hbl : beginL.length = 8 := rfl
  have hwl : wordsL.length = 64 := rfl
  refine calls_ofM Tryz.func56 rfl rfl (L := [(0, .slice ab nb cb)]) ⟨rfl, trivial⟩ (m := 37) (Nat.le_of_ble_eq_true rfl) (M := Mem w [] []) (Mem.refl w) ?_
  refine wc_seq ?_
  refine wc_region ?_
  refine wl_eff (e_alloc (cs := arr b8 (List.replicate 32 0)) zn56) rfl trivial rfl ?_
  intro b1
  refine wl_y (y_assign rfl) ?_
  refine wl_nil ?_
  refine aq_seq ?_
  refine wc_seq ?_
  refine wc_seq ?_
  refine wc_region ?_
  refine wl_y (y_move rfl) ?_
  refine wl_y (y_len_sl sl22 (m := nb) rfl rfl) ?_
  refine wl_y (y_bin rfl rfl gtr_i64) ?_
  refine wl_nil ?_
  refine aq_seq ?_
  refine wc_if rfl (fun hc1 => ?_) (fun hc1 => ?_)
  · have hb1 : (nb : Int) > 1048576 := by simpa using hc1
    have he := sumE_3 (nb := nb) (by omega)
    have ho := sumO_3 (nb := nb) lb (by omega)
    refine wc_seq ?_
    refine wc_region ?_
    refine wl_y (y_loadall ag56 rfl (i := 0) rfl (by first | (simp; done) | (simp [*]; done) | (simp; omega))) ?_
    refine wl_eff (e_storeall sz56 rfl rfl (i := 0) rfl (by first | (simp; done) | (simp [*]; done) | (simp; omega)) (by first | (simp; done) | (simp [*]; done) | (simp; omega)) (arr_one _) rfl) rfl trivial rfl ?_
    intro _
    refine wl_y (y_assign rfl) ?_
    refine wl_nil ?_
    refine aq_seq ?_
    refine wc_ret ?_
    refine aq_thru_ret ?_
    refine aq_returnM0 (.inl rfl) rfl (⟨_, _, _, rfl, fun w m => run_loadVar_all ag56 (m.blk (i := 0) rfl) (by first | (simp; done) | (simp [*]; done) | (simp; omega)), rfl, ⟨_, _, rfl, rfl, rfl⟩⟩) ?_
    intro w' m
    rw [he, ho]
    exact ⟨(), rfl, (Mem.pick m (is := []) rfl (by decide))⟩
  · have hb1 : ¬ ((nb : Int) > 1048576) := by simpa using hc1
    have he := sumE_0 (nb := nb) (by omega)
    have ho := sumO_0 (nb := nb) lb (by omega)
    refine wc_skip ?_
    refine aq_seq ?_
    refine wc_seq ?_
    refine wc_region ?_
    refine wl_eff (e_call0 cf86 rfl (fun w m => begin_ok w)) rfl trivial rfl ?_
    intro _
    refine wl_eff (e_call0 cf87 rfl (fun w m => words_ok w)) rfl trivial rfl ?_
    intro _
    refine wl_eff (e_alloc (cs := arr w32 (List.replicate 8 0)) zn144) rfl trivial rfl ?_
    intro b2
    refine wl_eff (e_alloc (cs := arr w32 (List.replicate 64 0)) zn146) rfl trivial rfl ?_
    intro b3
    refine wl_eff (e_storeall sz144 rfl rfl (i := 1) rfl (by first | (simp; done) | (simp [*]; done) | (simp; omega)) (by first | (simp; done) | (simp [*]; done) | (simp; omega)) (arr_one _) ⟨_, rfl, rfl⟩) rfl trivial rfl ?_
    intro _
    refine wl_eff (e_storeall sz146 rfl rfl (i := 0) rfl (by first | (simp; done) | (simp [*]; done) | (simp; omega)) (by first | (simp; done) | (simp [*]; done) | (simp; omega)) (arr_one _) rfl) rfl trivial rfl ?_
    intro _
    refine wl_nil ?_
    refine aq_seq ?_
    refine wc_seq ?_
    refine wc_seq ?_
    refine wc_region ?_
    refine wl_y (y_move rfl) ?_
    refine wl_eff (e_call0 cf88 rfl (fun w m => blocks_ok w ab nb cb)) rfl trivial rfl ?_
    intro bb
    refine wl_nil ?_
    refine aq_seq ?_
    refine wc_block ?_
    refine wc_range0 (α := (Unit)) (fun _ => .tuple #[]) (fun bd bl rec y => [.blk bl (rec (.ready) (none)), .blk bd (.deferred (some [])), .blk b3 (.cells (arr w32 wordsL) 146 (0, 0)), .blk b2 (.cells (arr w32 (sumTo lb nb ((nb + 72) / 64))) 144 (0, 0)), .blk b1 (.cells (arr b8 (List.replicate 32 0)) 56 (0, 0))]) (fun bd bl rec y => [.blk bl (rec (.exhausted) (none)), .blk bd (.deferred (some [])), .blk b3 (.cells (arr w32 wordsL) 146 (0, 0)), .blk b2 (.cells (arr w32 (sumTo lb nb ((nb + 72) / 64))) 144 (0, 0)), .blk b1 (.cells (arr b8 (List.replicate 32 0)) 56 (0, 0))]) 0 rfl cf97 ?_ (fun bd bl rec y => by simp) (fun bd bl rec y => rfl) ?_
    · intro bd bl tm fn rec w1 hrec hkept m1
      have m1p := (Mem.pick m1 (is := [2, 0, 1, 3, 4, 5]) ⟨_, _, rfl, rfl, ⟨_, _, rfl, rfl, ⟨_, _, rfl, rfl, ⟨_, _, rfl, rfl, ⟨_, _, rfl, rfl, ⟨_, _, rfl, rfl, rfl⟩⟩⟩⟩⟩⟩ (by decide))
      refine blocks1_ok (X := Unit) w w1 [] bl bb ab nb cb lb hb (fun _ _ _ => by simp) hc (by omega) (fun (j : Nat) (x : Unit) => [.blk bl (rec (.ready) (none)), .blk bd (.deferred (some [])), .blk b3 (.cells (arr w32 wordsL) 146 (0, 0)), .blk b2 (.cells (arr w32 (sumTo lb nb j)) 144 (0, 0)), .blk b1 (.cells (arr b8 (List.replicate 32 0)) 56 (0, 0))]) () m1p ?_
      intro j x w2 A ad cp hj hR m2
      subst hrec
      refine yields_of m2 (i := 0) rfl rfl (hkept.set1 rfl _) ?_
      refine wc_region ?_
      refine wl_y (y_assign rfl) ?_
      refine wl_nil ?_
      refine aq_begin (i := 0) rfl rfl rfl ?_
      refine wc_block ?_
      refine wc_region ?_
      refine wl_y (y_loadall ag144 rfl (i := 3) rfl (by first | (simp; done) | (simp [*]; done) | (simp; omega))) ?_
      refine wl_y (y_move rfl) ?_
      refine wl_eff (e_call0 cf89 rfl (fun w m => further_ok w (sumTo lb nb j) ad cp (blkF lb nb j) b3 wordsL (by first | omega | (simp; done) | (simp; omega)) ((hR _ (Mem.right (A := [_, _, _, _, _]) (B := A) m))) (m.rd_arr (i := 2) rfl))) rfl trivial rfl ?_
      intro _
      refine wl_eff (e_storeall sz144 rfl rfl (i := 3) rfl (by first | (simp; done) | (simp [*]; done) | (simp; omega)) (by first | (simp; done) | (simp [*]; done) | (simp; omega)) (arr_one _) ⟨_, rfl, ⟨_, rfl, ⟨_, rfl, rfl⟩⟩⟩) rfl trivial rfl ?_
      intro _
      refine wl_nil ?_
      refine aq_blk_normal ?_
      refine aq_round_next (i := 0) rfl rfl ?_
      intro w3 m3
      refine ⟨(), rfl, ?_⟩
      exact m3
    · intro bd bl rec y
      refine aq_blk_normal ?_
      refine aq_seq ?_
      refine wc_seq ?_
      refine wc_seq ?_
      refine wc_region ?_
      refine wl_y (y_move rfl) ?_
      refine wl_nil ?_
      refine aq_seq ?_
      refine wc_block ?_
      refine wc_loop (γ := Nat) (fun i => [(2, .pointer (some ⟨b1, 0, none⟩)), (3, ki (0)), (4, .pointer (some ⟨b2, 0, none⟩)), (20, ki ((i : Int)))]) (fun i => Mem w [] [.blk bl (rec (.exhausted) (none)), .blk bd (.deferred (some [])), .blk b3 (.cells (arr w32 wordsL) 146 (0, 0)), .blk b2 (.cells (arr w32 (sumTo lb nb ((nb + 72) / 64))) 144 (0, 0)), .blk b1 (.cells (arr b8 (outS (sumTo lb nb ((nb + 72) / 64)) i)) 56 (0, 0))]) (fun i => (i ≤ 32)) (fun i => 32 - i) (0) ?_ ⟨rfl, rfl, rfl, rfl, trivial⟩ (fun _ h => h) ?_
      · omega
      · rintro i hi
        refine wc_seq ?_
        refine wc_region ?_
        refine wl_y (y_bin rfl rfl lss_i64) ?_
        refine wl_nil ?_
        refine aq_seq ?_
        refine wc_seq ?_
        refine wc_if rfl (fun hc2 => ?_) (fun hc2 => ?_)
        · have hb2 : (i : Int) < 32 := by simpa using hc2
          refine wc_skip ?_
          refine aq_seq ?_
          refine wc_seq ?_
          refine wc_block ?_
          refine wc_seq ?_
          refine wc_region ?_
          refine wl_y (y_move rfl) ?_
          refine wl_y (y_assign rfl) ?_
          refine wl_nil ?_
          refine aq_seq ?_
          refine wc_region ?_
          refine wl_y (y_move rfl) ?_
          refine wl_y (y_move rfl) ?_
          refine wl_y (y_bin rfl rfl (quon_i64 (a := i) (b := 4) (by omega) (by omega))) ?_
          refine wl_y (y_indexAddr_ar ar144 sz143 rfl rfl (by omega) (by omega) (i / 4) (by omega)) ?_
          refine wl_y (y_load sc143 rfl (c_blk (i := 3) rfl (arr_get (gd 0 (by first | omega | (simp; done) | (simp; omega)))))) ?_
          refine wl_y (y_move rfl) ?_
          refine wl_y (y_bin rfl rfl (remn_i64 (a := i) (b := 4) (by omega))) ?_
          refine wl_y (y_bin rfl rfl (muln_i64 (a := (i % 4)) (b := 8) (by omega))) ?_
          refine wl_y (y_bin rfl rfl (subn_i64 (a := 24) (b := ((i % 4) * 8)) (by omega) (by omega))) ?_
          refine wl_y (y_bin rfl rfl (shr_u32 ((sumTo lb nb ((nb + 72) / 64)).getD (i / 4) 0) (q := .i64) (24 - ((i % 4) * 8)) (by omega) (by omega))) ?_
          refine wl_y (y_cv rfl us143 ui5 (congrArg (Value.int .u8) (cv_u32_u8 (((sumTo lb nb ((nb + 72) / 64)).getD (i / 4) 0) >>> UInt32.ofNat (24 - ((i % 4) * 8)))))) ?_
          refine wl_y (y_indexAddr_ar ar56 sz5 rfl rfl (by omega) (by omega) i (by omega)) ?_
          refine wl_eff (e_store_arr (f := b8) sz5 rfl (x' := (((sumTo lb nb ((nb + 72) / 64)).getD (i / 4) 0) >>> UInt32.ofNat (24 - ((i % 4) * 8))).toUInt8) rfl (i := 4) rfl (by first | omega | (simp; done) | (simp; omega)) ⟨_, rfl, ⟨_, rfl, ⟨_, rfl, ⟨_, rfl, rfl⟩⟩⟩⟩) rfl trivial rfl ?_
          intro _
          refine wl_nil ?_
          refine aq_blk_normal ?_
          refine aq_seq ?_
          refine wc_region ?_
          refine wl_y (y_bin rfl rfl (addn_i64 (a := i) (b := 1) (by omega))) ?_
          refine wl_y (y_move rfl) ?_
          refine wl_nil ?_
          refine aq_loop (i + 1) ?_ ?_ ⟨rfl, rfl, rfl, rfl, trivial⟩ (fun _ h => h)
          · omega
          · first | omega | (dsimp only; omega)
        · have hb2 : ¬ ((i : Int) < 32) := by simpa using hc2
          refine wc_exit ?_
          refine aq_thru_exit ?_
          refine aq_thru_exit ?_
          refine aq_blk_exit ?_
          refine aq_seq ?_
          refine wc_seq ?_
          refine wc_region ?_
          refine wl_y (y_loadall ag56 rfl (i := 4) rfl (by first | (simp; done) | (simp [*]; done) | (simp; omega))) ?_
          refine wl_eff (e_storeall sz56 rfl rfl (i := 4) rfl (by first | (simp; done) | (simp [*]; done) | (simp; omega)) (by first | (simp; done) | (simp [*]; done) | (simp; omega)) (arr_one _) ⟨_, rfl, ⟨_, rfl, ⟨_, rfl, ⟨_, rfl, rfl⟩⟩⟩⟩) rfl trivial rfl ?_
          intro _
          refine wl_y (y_assign rfl) ?_
          refine wl_nil ?_
          refine aq_seq ?_
          refine wc_ret ?_
          refine aq_returnM1 (.inl rfl) (i := 1) rfl ⟨_, rfl, rfl⟩ rfl (⟨_, _, _, rfl, fun w m => run_loadVar_all ag56 (m.blk (i := 4) rfl) (by first | (simp; done) | (simp [*]; done) | (simp; omega)), rfl, ⟨_, _, rfl, rfl, rfl⟩⟩) ?_
          intro w' m
          have hi32 : i = 32 := by omega
          subst hi32
          rw [he, ho]
          exact ⟨(), rfl, (Mem.pick m (is := []) rfl (by decide))⟩

end Go.Proofs.YtjibkjoaamchoaaGreatDoor
