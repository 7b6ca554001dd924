/- Lemmas and contracts for the proof of this seat's statements (ChaA). No condition. -/
import Derived.Test.YtnkldldojalklaaEPar2
import Derived.Test.YtnkldldojalklaaProg
import Derived.KernelRfl
set_option linter.all false
namespace Go.Proofs.Ytnkldldojalklaa
open Go.Mc
private theorem us3 : (Try.prog.underlying 3).isSome = true := by kernel_rfl
private theorem ui67 : Try.prog.underlying 67 = some (.int .u64) := by kernel_rfl
private theorem sc37 : scB Try.prog 37 = true := by kernel_rfl
private theorem sz37 : szB Try.prog 37 1 = true := by kernel_rfl
private theorem cf41 : cfB Try.prog 41 = true := by kernel_rfl
private theorem sl22 : slB Try.prog 22 5 = true := by kernel_rfl
private theorem sz5 : szB Try.prog 5 1 = true := by kernel_rfl
private theorem sc5 : scB Try.prog 5 = true := by kernel_rfl
private theorem ar50 : arB Try.prog 50 16 37 = true := by kernel_rfl
private theorem us5 : (Try.prog.underlying 5).isSome = true := by kernel_rfl
private theorem ui37 : Try.prog.underlying 37 = some (.int .u32) := by kernel_rfl
private theorem zn54 : znB Try.prog 54 (.agg #[ki (0), ki (0), ki (0), ki (0), ki (0), ki (0), ki (0), ki (0), ki (0), ki (0), ki (0), ki (0), ki (0), ki (0), ki (0), ki (0), ki (0), ki (0), ki (0), ki (0), ki (0), ki (0), ki (0), ki (0), ki (0), ki (0), ki (0), ki (0), ki (0), ki (0), ki (0), ki (0)]) := by unfold znB; kernel_rfl
private theorem ar53 : arB Try.prog 53 4 3 = true := by kernel_rfl
private theorem sz3 : szB Try.prog 3 1 = true := by kernel_rfl
private theorem zn53 : znB Try.prog 53 (.agg (arr ki (List.replicate 4 0))) := by unfold znB; kernel_rfl
private theorem ar54 : arB Try.prog 54 8 53 = true := by kernel_rfl
private theorem sz53 : szB Try.prog 53 4 = true := by kernel_rfl
private theorem sz54 : szB Try.prog 54 32 = true := by kernel_rfl
private theorem ag54 : agB Try.prog 54 32 = true := by kernel_rfl
private theorem ag53 : agB Try.prog 53 4 = true := by kernel_rfl
private theorem sc3 : scB Try.prog 3 = true := by kernel_rfl
private theorem cf36 : cfB Try.prog 36 = true := by kernel_rfl
private theorem zn35 : znB Try.prog 35 (.agg (arr b8 (List.replicate 64 0))) := by unfold znB; kernel_rfl
private theorem zn50 : znB Try.prog 50 (.agg (arr w32 (List.replicate 16 0))) := by unfold znB; kernel_rfl
private theorem el5 : elB Try.prog 5 1 1 (b8 (0)) := elB_of (by kernel_rfl) (by kernel_rfl) (by unfold znB; kernel_rfl)
private theorem ub5 : Try.prog.underlying 5 = some (.int .u8) := by kernel_rfl
private theorem cf18 : cfB Try.prog 18 = true := by kernel_rfl
private theorem ar33 : arB Try.prog 33 32 5 = true := by kernel_rfl
private theorem ar34 : arB Try.prog 34 12 5 = true := by kernel_rfl
private theorem ag50 : agB Try.prog 50 16 = true := by kernel_rfl
private theorem sz50 : szB Try.prog 50 16 = true := by kernel_rfl
private theorem cf20 : cfB Try.prog 20 = true := by kernel_rfl
private theorem cf19 : cfB Try.prog 19 = true := by kernel_rfl
private theorem us37 : (Try.prog.underlying 37).isSome = true := by kernel_rfl
private theorem ui5 : Try.prog.underlying 5 = some (.int .u8) := by kernel_rfl
private theorem ar35 : arB Try.prog 35 64 5 = true := by kernel_rfl
private theorem ag35 : agB Try.prog 35 64 = true := by kernel_rfl
private theorem sz35 : szB Try.prog 35 64 = true := by kernel_rfl
private theorem ag33 : agB Try.prog 33 32 = true := by kernel_rfl
private theorem ag34 : agB Try.prog 34 12 = true := by kernel_rfl
private theorem cf11 : cfB Try.prog 11 = true := by kernel_rfl
private theorem sc22 : scB Try.prog 22 = true := by kernel_rfl
private theorem ui2 : Try.prog.underlying 2 = some (.int .i64) := by kernel_rfl
private theorem zn22 : znB Try.prog 22 (.slice none 0 0) := by unfold znB; kernel_rfl
private theorem sz22 : szB Try.prog 22 1 = true := by kernel_rfl
private theorem cf21 : cfB Try.prog 21 = true := by kernel_rfl
private theorem cf37 : cfB Try.prog 37 = true := by kernel_rfl
theorem u64_nat {s : Nat} (h : s < 18446744073709551616) : ((UInt64.ofNat s).toNat : Int) = (s : Int) := by simp [UInt64.toNat_ofNat']; omega
theorem sub32 {s : Nat} (h : s < 32) : (32 : UInt64) - UInt64.ofNat s = UInt64.ofNat (32 - s) := by
  apply UInt64.toNat_inj.1
  simp [UInt64.toNat_sub, UInt64.toNat_ofNat']; omega
theorem Mem.start1 {w : World} {b : Nat} {o : Obj} (h : w.heap[b]? = some o) : Mem w [b] [.blk b o] w :=
  Mem.start (H := [.blk b o]) (by simpa [Ch.sat] using h) (List.pairwise_singleton _ _)
def rotl32 (x : UInt32) (s : Nat) : UInt32 := (x <<< UInt32.ofNat s) ||| (x >>> UInt32.ofNat (32 - s))
def mixF (l : List UInt32) (a b c n : Nat) : List UInt32 :=
  (l.set a (l.getD a 0 + l.getD b 0)).set c (rotl32 ((l.set a (l.getD a 0 + l.getD b 0)).getD c 0 ^^^ (l.set a (l.getD a 0 + l.getD b 0)).getD a 0) n)
def wordsF (l : List UInt32) (at_ : Nat) (xs : List UInt8) : Nat → List UInt32
  | 0 => l
  | k + 1 => (wordsF l at_ xs k).set (at_ + k / 4) ((wordsF l at_ xs k).getD (at_ + k / 4) 0 ||| ((xs.getD k 0).toUInt32 <<< UInt32.ofNat (k % 4 * 8)))
@[simp] theorem wordsF_len (l : List UInt32) (at_ : Nat) (xs : List UInt8) (k : Nat) : (wordsF l at_ xs k).length = l.length := by
  induction k with
  | zero => rfl
  | succ k ih => simp [wordsF, ih]
@[simp] theorem mixF_len (l : List UInt32) (a b c n : Nat) : (mixF l a b c n).length = l.length := by simp [mixF]
def foursL : List Nat := [0, 4, 8, 12, 1, 5, 9, 13, 2, 6, 10, 14, 3, 7, 11, 15, 0, 5, 10, 15, 1, 6, 11, 12, 2, 7, 8, 13, 3, 4, 9, 14]
def qrF (s : List UInt32) (q : List Nat) : List UInt32 :=
  mixF (mixF (mixF (mixF s (q.getD 0 0) (q.getD 1 0) (q.getD 3 0) 16) (q.getD 2 0) (q.getD 3 0) (q.getD 1 0) 12) (q.getD 0 0) (q.getD 1 0) (q.getD 3 0) 8) (q.getD 2 0) (q.getD 3 0) (q.getD 1 0) 7
def furtherF (s : List UInt32) (l : List Nat) : Nat → List UInt32
  | 0 => s
  | k + 1 => qrF (furtherF s l k) ((l.drop (k * 4)).take 4)
@[simp] theorem qrF_len (s : List UInt32) (q : List Nat) : (qrF s q).length = s.length := by simp [qrF]
@[simp] theorem furtherF_len (s : List UInt32) (l : List Nat) (k : Nat) : (furtherF s l k).length = s.length := by
  induction k with
  | zero => rfl
  | succ k ih => simp [furtherF, ih]
theorem ql_lt (l : List Nat) (k i : Nat) (h : ∀ x ∈ l, x < 16) : ((l.drop (k * 4)).take 4).getD i 0 < 16 := by
  rw [List.getD_eq_getElem?_getD]
  cases hx : ((l.drop (k * 4)).take 4)[i]? with
  | none => simp
  | some x => exact h x (List.mem_of_mem_drop (List.mem_of_mem_take (List.mem_of_getElem? hx)))
theorem ql_len (l : List Nat) (k : Nat) (hl : l.length = 32) : k < 8 → ((l.drop (k * 4)).take 4).length = 4 := by
  intro hk; simp; omega
def sigmaL : List UInt8 := [101, 120, 112, 97, 110, 100, 32, 51, 50, 45, 98, 121, 116, 101, 32, 107]
def fromF (key : List UInt8) (count : UInt32) (nonce : List UInt8) : List UInt32 :=
  wordsF ((wordsF (wordsF (List.replicate 16 0) 0 sigmaL 16) 4 key 32).set 12 count) 13 nonce 12
def tenF (s : List UInt32) : Nat → List UInt32
  | 0 => s
  | k + 1 => furtherF (tenF s k) foursL 8
def outF (s f : List UInt32) : Nat → List UInt8
  | 0 => List.replicate 64 0
  | i + 1 => (outF s f i).set i ((s.getD (i / 4) 0 + f.getD (i / 4) 0) >>> UInt32.ofNat (i % 4 * 8)).toUInt8
def blockF (key : List UInt8) (count : UInt32) (nonce : List UInt8) : List UInt8 := outF (tenF (fromF key count nonce) 10) (fromF key count nonce) 64
@[simp] theorem tenF_len (s : List UInt32) (k : Nat) : (tenF s k).length = s.length := by
  induction k with
  | zero => rfl
  | succ k ih => simp [tenF, ih]
@[simp] theorem outF_len (s f : List UInt32) (k : Nat) : (outF s f k).length = 64 := by
  induction k with
  | zero => rfl
  | succ k ih => simp [outF, ih]
@[simp] theorem fromF_len (key : List UInt8) (count : UInt32) (nonce : List UInt8) : (fromF key count nonce).length = 16 := by simp [fromF]
@[simp] theorem blockF_len (key : List UInt8) (count : UInt32) (nonce : List UInt8) : (blockF key count nonce).length = 64 := by simp [blockF]
def streamF (key : List UInt8) (c : UInt32) (nonce : List UInt8) (j : Nat) : UInt8 := (blockF key (c + UInt32.ofNat (j / 64)) nonce).getD (j % 64) 0
theorem stream_at (key : List UInt8) (c : UInt32) (nonce : List UInt8) {q k : Nat} (hk : k < 64) : (blockF key (c + UInt32.ofNat q) nonce).getD k 0 = streamF key c nonce (64 * q + k) := by
  unfold streamF
  rw [show (64 * q + k) / 64 = q by omega, show (64 * q + k) % 64 = k by omega]
theorem cnt_succ (c : UInt32) (q : Nat) : c + UInt32.ofNat q + 1 = c + UInt32.ofNat (q + 1) := by
  rw [UInt32.add_assoc]; congr 1
  apply UInt32.toNat_inj.1
  simp [UInt32.toNat_add, UInt32.toNat_ofNat']
def xorTo (lb key : List UInt8) (c : UInt32) (nonce : List UInt8) : Nat → List UInt8
  | 0 => []
  | j + 1 => xorTo lb key c nonce j ++ [lb.getD j 0 ^^^ streamF key c nonce j]
@[simp] theorem xorTo_len (lb key : List UInt8) (c : UInt32) (nonce : List UInt8) (j : Nat) : (xorTo lb key c nonce j).length = j := by
  induction j with
  | zero => rfl
  | succ j ih => simp [xorTo, ih]

theorem rotl_ok (w : World) (x : UInt32) (k : Int) (s : Nat) (hs : UInt64.ofNat (k % 18446744073709551616).toNat &&& 31 = UInt64.ofNat s) (h0 : 0 < s) (h1 : s < 32) :
    Calls Try.prog 41 #[w32 (x), ki (k)] w (Ret (fun _ : Unit => w32 (rotl32 x s)) (fun _ => Mem w [] [])) := by
  refine calls_of Try.func41 rfl rfl (L := [(0, w32 (x)), (1, ki (k))]) ⟨rfl, rfl, trivial⟩ (m := 17) (Nat.le_of_ble_eq_true rfl) (M := Mem w [] []) (Mem.refl w) ?_
  refine wc_seq ?_
  refine wc_region ?_
  refine wl_y (y_assign rfl) ?_
  refine wl_nil ?_
  refine aq_seq ?_
  refine wc_seq ?_
  refine wc_region ?_
  refine wl_y (y_move rfl) ?_
  refine wl_y (y_cv rfl us3 ui67 (congrArg (Value.int .u64) (cv_i64_u64 _))) ?_
  refine wl_y (y_bin rfl rfl (and_u64 (UInt64.ofNat ((k) % 18446744073709551616).toNat) 31)) ?_
  refine wl_re (t := 8) (v' := w64 (UInt64.ofNat s)) rfl (congrArg w64 hs) ?_
  refine wl_y (y_assign rfl) ?_
  refine wl_nil ?_
  refine aq_seq ?_
  refine wc_seq ?_
  refine wc_region ?_
  refine wl_y (y_move rfl) ?_
  refine wl_y (y_move rfl) ?_
  refine wl_y (y_bin rfl rfl (shl_u32 x (q := .u64) s (u64_nat (by omega)) (by omega))) ?_
  refine wl_y (y_move rfl) ?_
  refine wl_y (y_move rfl) ?_
  refine wl_y (y_bin rfl rfl (sub_u64 32 (UInt64.ofNat s))) ?_
  refine wl_re (t := 14) (v' := w64 (UInt64.ofNat (32 - s))) rfl (congrArg w64 (sub32 h1)) ?_
  refine wl_y (y_bin rfl rfl (shr_u32 x (q := .u64) (32 - s) (u64_nat (by omega)) (by omega))) ?_
  refine wl_y (y_bin rfl rfl (or_u32 (x <<< UInt32.ofNat s) (x >>> UInt32.ofNat (32 - s)))) ?_
  refine wl_y (y_assign rfl) ?_
  refine wl_nil ?_
  refine aq_seq ?_
  refine wc_ret ?_
  refine aq_return (.inl rfl) rfl (⟨_, _, rfl, rfl, rfl⟩) ?_
  intro w' m
  exact ⟨(), rfl, m⟩

theorem mix_ok (w : World) (b E : Nat) (l : List UInt32) (oa ob oc : Nat) (n : Int) (s : Nat) (hb : w.heap[b]? = some (.cells (arr w32 l) E (0, 0))) (ha : oa < l.length) (hb1 : ob < l.length) (hc : oc < l.length) (hs : UInt64.ofNat (n % 18446744073709551616).toNat &&& 31 = UInt64.ofNat s) (h0 : 0 < s) (h1 : s < 32) :
    Calls Try.prog 36 #[.pointer (some ⟨b, oa, none⟩), .pointer (some ⟨b, ob, none⟩), .pointer (some ⟨b, oc, none⟩), ki (n)] w (Ret (fun _ : Unit => .tuple #[]) (fun _ => Mem w [b] [.blk b (.cells (arr w32 (mixF l oa ob oc s)) E (0, 0))])) := by
  refine calls_of Try.func36 rfl rfl (L := [(0, .pointer (some ⟨b, oa, none⟩)), (1, .pointer (some ⟨b, ob, none⟩)), (2, .pointer (some ⟨b, oc, none⟩)), (3, ki (n))]) ⟨rfl, rfl, rfl, rfl, trivial⟩ (m := 27) (Nat.le_of_ble_eq_true rfl) (M := Mem w [b] [.blk b (.cells (arr w32 l) E (0, 0))]) (Mem.start1 hb) ?_
  refine wc_seq ?_
  refine wc_drawM [(0, .q), (1, .q), (2, .q), (3, .q), (4, .q), (5, .q), (6, .q), (7, .q), (8, .l)] (by kernel_rfl) (by kernel_rfl) Mem.closed ?_
  refine wp_q rfl Mem.closed (fun _ h => h) Mem.closed rfl (q_of_yld (y_move rfl)) trivial ?_
  refine wp_q rfl Mem.closed (fun _ h => h) Mem.closed rfl (q_of_yld (y_nilCheck rfl)) trivial ?_
  refine wp_q rfl Mem.closed (fun _ h => h) Mem.closed rfl (q_of_yld (y_load sc37 rfl (c_blk (i := 0) rfl (arr_get (gd 0 (by first | omega | (simp; omega))))))) trivial ?_
  refine wp_q rfl Mem.closed (fun _ h => h) Mem.closed rfl (q_of_yld (y_move rfl)) trivial ?_
  refine wp_q rfl Mem.closed (fun _ h => h) Mem.closed rfl (q_of_yld (y_nilCheck rfl)) trivial ?_
  refine wp_q rfl Mem.closed (fun _ h => h) Mem.closed rfl (q_of_yld (y_load sc37 rfl (c_blk (i := 0) rfl (arr_get (gd 0 (by first | omega | (simp; omega))))))) trivial ?_
  refine wp_q rfl Mem.closed (fun _ h => h) Mem.closed rfl (q_of_yld (y_bin rfl rfl (add_u32 (l.getD oa 0) (l.getD ob 0)))) trivial ?_
  refine wp_q rfl Mem.closed (fun _ h => h) Mem.closed rfl (q_of_yld (y_nilCheck rfl)) trivial ?_
  refine wp_l rfl rfl rfl (e_store_arr sz37 rfl (x' := (l.getD oa 0 + l.getD ob 0)) rfl (i := 0) rfl (by first | omega | (simp; omega)) rfl) trivial ?_
  intro _
  refine aq_seq ?_
  refine wc_drawM [(0, .q), (1, .q), (2, .q), (3, .q), (4, .q), (5, .q), (6, .q), (7, .q), (8, .q), (9, .q), (10, .q), (11, .l)] (by kernel_rfl) (by kernel_rfl) Mem.closed ?_
  refine wp_q rfl Mem.closed (fun _ h => h) Mem.closed rfl (q_of_yld (y_move rfl)) trivial ?_
  refine wp_q rfl Mem.closed (fun _ h => h) Mem.closed rfl (q_of_yld (y_move rfl)) trivial ?_
  refine wp_q rfl Mem.closed (fun _ h => h) Mem.closed rfl (q_of_yld (y_nilCheck rfl)) trivial ?_
  refine wp_q rfl Mem.closed (fun _ h => h) Mem.closed rfl (q_of_yld (y_load sc37 rfl (c_blk (i := 0) rfl (arr_get (gd 0 (by first | omega | (simp; omega))))))) trivial ?_
  refine wp_q rfl Mem.closed (fun _ h => h) Mem.closed rfl (q_of_yld (y_move rfl)) trivial ?_
  refine wp_q rfl Mem.closed (fun _ h => h) Mem.closed rfl (q_of_yld (y_nilCheck rfl)) trivial ?_
  refine wp_q rfl Mem.closed (fun _ h => h) Mem.closed rfl (q_of_yld (y_load sc37 rfl (c_blk (i := 0) rfl (arr_get (gd 0 (by first | omega | (simp; omega))))))) trivial ?_
  refine wp_q rfl Mem.closed (fun _ h => h) Mem.closed rfl (q_of_yld (y_bin rfl rfl (xor_u32 ((l.set oa (l.getD oa 0 + l.getD ob 0)).getD oc 0) ((l.set oa (l.getD oa 0 + l.getD ob 0)).getD oa 0)))) trivial ?_
  refine wp_q rfl Mem.closed (fun _ h => h) Mem.closed rfl (q_of_yld (y_move rfl)) trivial ?_
  refine wp_q rfl Mem.closed (fun _ h => h) Mem.closed rfl (q_of_call cf41 rfl (fun w m => quiet_of_mem (rotl_ok w ((((l.set oa (l.getD oa 0 + l.getD ob 0)).getD oc 0) ^^^ ((l.set oa (l.getD oa 0 + l.getD ob 0)).getD oa 0))) (n) s (by exact hs) (by omega) (by omega)))) trivial ?_
  refine wp_q rfl Mem.closed (fun _ h => h) Mem.closed rfl (q_of_yld (y_nilCheck rfl)) trivial ?_
  refine wp_l rfl rfl rfl (e_store_arr sz37 rfl (x' := rotl32 (((l.set oa (l.getD oa 0 + l.getD ob 0)).getD oc 0) ^^^ ((l.set oa (l.getD oa 0 + l.getD ob 0)).getD oa 0)) s) rfl (i := 0) rfl (by first | omega | (simp; omega)) rfl) trivial ?_
  intro _
  refine aq_return (.inr rfl) rfl (rfl) ?_
  intro w' m
  exact ⟨(), rfl, m⟩

theorem words_ok (w : World) (b E : Nat) (l : List UInt32) (at_ : Nat) (ad : Option Addr) (n c : Nat) (xs : List UInt8) (hb : w.heap[b]? = some (.cells (arr w32 l) E (0, 0))) (hx : Rd w ad n 1 (xs.map b8)) (hxo : xs.map b8 ≠ [] → ∀ a, ad = some a → a.block ∉ [b]) (hn : n ≤ 1000) (hl : l.length = 16) (hat : at_ * 4 + n ≤ 64) :
    Calls Try.prog 18 #[.pointer (some ⟨b, 0, none⟩), ki ((at_ : Int)), .slice ad n c] w (Ret (fun _ : Unit => .tuple #[]) (fun _ => Mem w [b] [.blk b (.cells (arr w32 (wordsF l at_ xs n)) E (0, 0))])) := by
  have hxl := hx.len
  refine calls_of Try.func18 rfl rfl (L := [(0, .pointer (some ⟨b, 0, none⟩)), (1, ki ((at_ : Int))), (2, .slice ad n c)]) ⟨rfl, rfl, rfl, trivial⟩ (m := 33) (Nat.le_of_ble_eq_true rfl) (M := Mem w [b] [.blk b (.cells (arr w32 l) E (0, 0))]) (Mem.start1 hb) ?_
  refine wc_seq ?_
  refine wc_region ?_
  refine wl_y (y_move rfl) ?_
  refine wl_y (y_len_sl sl22 (m := n) rfl rfl) ?_
  refine wl_y (y_move rfl) ?_
  refine wl_nil ?_
  refine aq_seq ?_
  refine wc_block ?_
  refine wc_loop (γ := Nat) (fun k => [(0, .pointer (some ⟨b, 0, none⟩)), (1, ki ((at_ : Int))), (8, .slice ad n c), (9, ki ((n : Int))), (10, ki ((k : Int)))]) (fun k => Mem w [b] [.blk b (.cells (arr w32 (wordsF l at_ xs k)) E (0, 0))]) (fun k => (k ≤ n)) (fun k => n - k) (0) ?_ ⟨rfl, rfl, rfl, rfl, rfl, trivial⟩ (fun _ h => h) ?_
  · omega
  · rintro k hk
    refine wc_seq ?_
    refine wc_region ?_
    refine wl_y (y_bin rfl rfl lss_i64) ?_
    refine wl_nil ?_
    refine aq_seq ?_
    refine wc_seq ?_
    refine wc_if rfl (fun hc1 => ?_) (fun hc1 => ?_)
    · have hb1 : (k : Int) < (n : Int) := by simpa using hc1
      refine wc_skip ?_
      refine aq_seq ?_
      refine wc_seq ?_
      refine wc_block ?_
      refine wc_seq ?_
      refine wc_region ?_
      refine wl_y (y_move rfl) ?_
      refine wl_y (y_indexAddr_sl sl22 sz5 rfl rfl (by omega) (by omega) (fun w m => rd_isSome (m.rd hx hxo) (by omega) (by decide)) k (by omega)) ?_
      refine wl_y (y_load sc5 rfl (c_of (fun w m => m.rd hx hxo) (map_get (gd 0 (by first | omega | (simp only [wordsF_len]; omega)))))) ?_
      refine wl_y (y_assign rfl) ?_
      refine wl_y (y_assign rfl) ?_
      refine wl_nil ?_
      refine aq_seq ?_
      refine wc_drawM [(0, .q), (1, .q), (2, .q), (3, .q), (4, .q), (5, .q), (6, .q), (7, .q), (8, .q), (9, .q), (10, .q), (11, .q), (12, .q), (13, .q), (14, .q), (15, .q), (16, .q), (17, .l)] (by kernel_rfl) (by kernel_rfl) Mem.closed ?_
      refine wp_q rfl Mem.closed (fun _ h => h) Mem.closed rfl (q_of_yld (y_move rfl)) trivial ?_
      refine wp_q rfl Mem.closed (fun _ h => h) Mem.closed rfl (q_of_yld (y_move rfl)) trivial ?_
      refine wp_q rfl Mem.closed (fun _ h => h) Mem.closed rfl (q_of_yld (y_move rfl)) trivial ?_
      refine wp_q rfl Mem.closed (fun _ h => h) Mem.closed rfl (q_of_yld (y_bin rfl rfl (quon_i64 (a := k) (b := 4) (by omega) (by omega)))) trivial ?_
      refine wp_q rfl Mem.closed (fun _ h => h) Mem.closed rfl (q_of_yld (y_bin rfl rfl (addn_i64 (a := at_) (b := (k / 4)) (by omega)))) trivial ?_
      refine wp_q rfl Mem.closed (fun _ h => h) Mem.closed rfl (q_of_yld (y_nilCheck rfl)) trivial ?_
      refine wp_q rfl Mem.closed (fun _ h => h) Mem.closed rfl (q_of_yld (y_indexAddr_ar ar50 sz37 rfl rfl (by omega) (by omega) (at_ + (k / 4)) (by omega))) trivial ?_
      refine wp_q rfl Mem.closed (fun _ h => h) Mem.closed rfl (q_of_yld (y_load sc37 rfl (c_blk (i := 0) rfl (arr_get (gd 0 (by first | omega | (simp only [wordsF_len]; omega))))))) trivial ?_
      refine wp_q rfl Mem.closed (fun _ h => h) Mem.closed rfl (q_of_yld (y_move rfl)) trivial ?_
      refine wp_q rfl Mem.closed (fun _ h => h) Mem.closed rfl (q_of_yld (y_cv rfl us5 ui37 (congrArg (Value.int .u32) (cv_u8_u32 (xs.getD k 0))))) trivial ?_
      refine wp_q rfl Mem.closed (fun _ h => h) Mem.closed rfl (q_of_yld (y_move rfl)) trivial ?_
      refine wp_q rfl Mem.closed (fun _ h => h) Mem.closed rfl (q_of_yld (y_bin rfl rfl (remn_i64 (a := k) (b := 4) (by omega)))) trivial ?_
      refine wp_q rfl Mem.closed (fun _ h => h) Mem.closed rfl (q_of_yld (y_bin rfl rfl (muln_i64 (a := (k % 4)) (b := 8) (by omega)))) trivial ?_
      refine wp_q rfl Mem.closed (fun _ h => h) Mem.closed rfl (q_of_yld (y_bin rfl rfl (shl_u32 ((xs.getD k 0).toUInt32) (q := .i64) ((k % 4) * 8) (by omega) (by omega)))) trivial ?_
      refine wp_q rfl Mem.closed (fun _ h => h) Mem.closed rfl (q_of_yld (y_bin rfl rfl (or_u32 ((wordsF l at_ xs k).getD (at_ + (k / 4)) 0) (((xs.getD k 0).toUInt32) <<< UInt32.ofNat ((k % 4) * 8))))) trivial ?_
      refine wp_q rfl Mem.closed (fun _ h => h) Mem.closed rfl (q_of_yld (y_nilCheck rfl)) trivial ?_
      refine wp_q rfl Mem.closed (fun _ h => h) Mem.closed rfl (q_of_yld (y_indexAddr_ar ar50 sz37 rfl rfl (by omega) (by omega) (at_ + (k / 4)) (by omega))) trivial ?_
      refine wp_l rfl rfl rfl (e_store_arr sz37 rfl (x' := (((wordsF l at_ xs k).getD (at_ + (k / 4)) 0) ||| (((xs.getD k 0).toUInt32) <<< UInt32.ofNat ((k % 4) * 8)))) rfl (i := 0) rfl (by first | omega | (simp only [wordsF_len]; omega)) rfl) trivial ?_
      intro _
      refine aq_blk_normal ?_
      refine aq_seq ?_
      refine wc_region ?_
      refine wl_y (y_bin rfl rfl (addn_i64 (a := k) (b := 1) (by omega))) ?_
      refine wl_y (y_move rfl) ?_
      refine wl_nil ?_
      refine aq_loop (k + 1) ?_ ?_ ⟨rfl, rfl, rfl, rfl, rfl, trivial⟩ (fun _ h => h)
      · omega
      · first | omega | (dsimp only; omega)
    · have hb1 : ¬ ((k : Int) < (n : Int)) := by simpa using hc1
      refine wc_exit ?_
      refine aq_thru_exit ?_
      refine aq_thru_exit ?_
      refine aq_blk_exit ?_
      refine aq_return (.inr rfl) rfl (rfl) ?_
      intro w' m
      have hkn : k = n := by omega
      subst hkn
      exact ⟨(), rfl, m⟩

theorem fours_ok (w : World) :
    Calls Try.prog 20 #[] w (Ret (fun _ : Unit => .agg (arr kn foursL)) (fun _ => Mem w [] [])) := by
  refine calls_of Try.func20 rfl rfl (L := []) trivial (m := 10) (Nat.le_of_ble_eq_true rfl) (M := Mem w [] []) (Mem.refl w) ?_
  refine wc_seq ?_
  refine wc_region ?_
  refine wl_eff (e_alloc (cs := #[ki (0), ki (0), ki (0), ki (0), ki (0), ki (0), ki (0), ki (0), ki (0), ki (0), ki (0), ki (0), ki (0), ki (0), ki (0), ki (0), ki (0), ki (0), ki (0), ki (0), ki (0), ki (0), ki (0), ki (0), ki (0), ki (0), ki (0), ki (0), ki (0), ki (0), ki (0), ki (0)]) zn54) rfl trivial rfl ?_
  intro b1
  refine wl_nil ?_
  refine aq_seq ?_
  refine wc_seq ?_
  refine wc_region ?_
  refine wl_y (y_build_ar (cs := #[ki (0), ki (4), ki (8), ki (12)]) [(0, ki (0)), (1, ki (4)), (2, ki (8)), (3, ki (12))] ar53 sz3 zn53 rfl (by kernel_rfl)) ?_
  refine wl_y (y_build_ar (cs := #[ki (1), ki (5), ki (9), ki (13)]) [(0, ki (1)), (1, ki (5)), (2, ki (9)), (3, ki (13))] ar53 sz3 zn53 rfl (by kernel_rfl)) ?_
  refine wl_y (y_build_ar (cs := #[ki (2), ki (6), ki (10), ki (14)]) [(0, ki (2)), (1, ki (6)), (2, ki (10)), (3, ki (14))] ar53 sz3 zn53 rfl (by kernel_rfl)) ?_
  refine wl_y (y_build_ar (cs := #[ki (3), ki (7), ki (11), ki (15)]) [(0, ki (3)), (1, ki (7)), (2, ki (11)), (3, ki (15))] ar53 sz3 zn53 rfl (by kernel_rfl)) ?_
  refine wl_y (y_build_ar (cs := #[ki (0), ki (5), ki (10), ki (15)]) [(0, ki (0)), (1, ki (5)), (2, ki (10)), (3, ki (15))] ar53 sz3 zn53 rfl (by kernel_rfl)) ?_
  refine wl_y (y_build_ar (cs := #[ki (1), ki (6), ki (11), ki (12)]) [(0, ki (1)), (1, ki (6)), (2, ki (11)), (3, ki (12))] ar53 sz3 zn53 rfl (by kernel_rfl)) ?_
  refine wl_y (y_build_ar (cs := #[ki (2), ki (7), ki (8), ki (13)]) [(0, ki (2)), (1, ki (7)), (2, ki (8)), (3, ki (13))] ar53 sz3 zn53 rfl (by kernel_rfl)) ?_
  refine wl_y (y_build_ar (cs := #[ki (3), ki (4), ki (9), ki (14)]) [(0, ki (3)), (1, ki (4)), (2, ki (9)), (3, ki (14))] ar53 sz3 zn53 rfl (by kernel_rfl)) ?_
  refine wl_y (y_build_ar (cs := #[ki (0), ki (4), ki (8), ki (12), ki (1), ki (5), ki (9), ki (13), ki (2), ki (6), ki (10), ki (14), ki (3), ki (7), ki (11), ki (15), ki (0), ki (5), ki (10), ki (15), ki (1), ki (6), ki (11), ki (12), ki (2), ki (7), ki (8), ki (13), ki (3), ki (4), ki (9), ki (14)]) [(0, .agg (#[ki (0), ki (4), ki (8), ki (12)])), (1, .agg (#[ki (1), ki (5), ki (9), ki (13)])), (2, .agg (#[ki (2), ki (6), ki (10), ki (14)])), (3, .agg (#[ki (3), ki (7), ki (11), ki (15)])), (4, .agg (#[ki (0), ki (5), ki (10), ki (15)])), (5, .agg (#[ki (1), ki (6), ki (11), ki (12)])), (6, .agg (#[ki (2), ki (7), ki (8), ki (13)])), (7, .agg (#[ki (3), ki (4), ki (9), ki (14)]))] ar54 sz53 zn54 rfl (by kernel_rfl)) ?_
  refine wl_eff (e_storeall sz54 rfl rfl (i := 0) rfl rfl rfl (by simp [Value.oneCell']) rfl) rfl trivial rfl ?_
  intro _
  refine wl_nil ?_
  refine aq_seq ?_
  refine wc_ret ?_
  refine aq_return (.inl rfl) rfl (⟨_, _, _, rfl, fun w m => run_loadVar_all ag54 (m.blk (i := 0) rfl) (by rfl), rfl, rfl⟩) ?_
  intro w' m
  exact ⟨(), rfl, m.pick (is := []) rfl (by decide)⟩

theorem further_ok (w : World) (b E : Nat) (s : List UInt32) (l : List Nat) (hb : w.heap[b]? = some (.cells (arr w32 s) E (0, 0))) (hs : s.length = 16) (hl : l.length = 32) (hlt : ∀ x ∈ l, x < 16) :
    Calls Try.prog 19 #[.pointer (some ⟨b, 0, none⟩), .agg (arr kn l)] w (Ret (fun _ : Unit => .tuple #[]) (fun _ => Mem w [b] [.blk b (.cells (arr w32 (furtherF s l 8)) E (0, 0))])) := by
  refine calls_of Try.func19 rfl rfl (L := [(0, .pointer (some ⟨b, 0, none⟩)), (1, .agg (arr kn l))]) ⟨rfl, rfl, trivial⟩ (m := 51) (Nat.le_of_ble_eq_true rfl) (M := Mem w [b] [.blk b (.cells (arr w32 s) E (0, 0))]) (Mem.start1 hb) ?_
  refine wc_seq ?_
  refine wc_region ?_
  refine wl_eff (e_box (cs := arr kn l) rfl) rfl trivial rfl ?_
  intro b1
  refine wl_nil ?_
  refine aq_seq ?_
  refine wc_seq ?_
  refine wc_region ?_
  refine wl_y (y_loadall ag54 rfl (i := 0) rfl (by first | rfl | (simp [hl]; done) | (simp; omega))) ?_
  refine wl_y (y_move rfl) ?_
  refine wl_nil ?_
  refine aq_seq ?_
  refine wc_block ?_
  refine wc_loop (γ := Nat) (fun k => [(0, .pointer (some ⟨b, 0, none⟩)), (10, .agg (arr kn l)), (11, ki ((k : Int)))]) (fun k => Mem w [b] [.blk b1 (.cells (arr kn l) 54 (0, 0)), .blk b (.cells (arr w32 (furtherF s l k)) E (0, 0))]) (fun k => (k ≤ 8)) (fun k => 8 - k) (0) ?_ ⟨rfl, rfl, rfl, trivial⟩ (fun _ h => h) ?_
  · omega
  · rintro k hk
    have hf0 := ql_lt l k 0 hlt
    have hf1 := ql_lt l k 1 hlt
    have hf2 := ql_lt l k 2 hlt
    have hf3 := ql_lt l k 3 hlt
    have hfl := ql_len l k hl
    refine wc_seq ?_
    refine wc_region ?_
    refine wl_y (y_bin rfl rfl lss_i64) ?_
    refine wl_nil ?_
    refine aq_seq ?_
    refine wc_seq ?_
    refine wc_if rfl (fun hc1 => ?_) (fun hc1 => ?_)
    · have hb1 : (k : Int) < 8 := by simpa using hc1
      refine wc_skip ?_
      refine aq_seq ?_
      refine wc_seq ?_
      refine wc_block ?_
      refine wc_seq ?_
      refine wc_region ?_
      refine wl_y (y_index_ag ar54 ag53 rfl rfl (by omega) (by omega) (arr_extract l (k * 4) 4)) ?_
      refine wl_eff (e_alloc (cs := arr ki (List.replicate 4 0)) zn53) rfl trivial rfl ?_
      intro b2
      refine wl_eff (e_storeall sz53 rfl rfl (i := 0) rfl (by first | rfl | (simp [hl]; done) | (simp; omega)) (by first | rfl | (simp [hl]; done) | (simp; omega)) (arr_one _) rfl) rfl trivial rfl ?_
      intro _
      refine wl_nil ?_
      refine aq_seq ?_
      refine wc_seq ?_
      refine wc_drawM [(0, .q), (1, .q), (2, .q), (3, .q), (4, .q), (5, .q), (6, .q), (7, .q), (8, .q), (9, .q), (10, .q), (11, .q), (12, .q), (13, .q), (14, .q), (15, .q), (16, .q), (17, .q), (18, .q), (19, .q), (20, .q), (21, .q), (22, .q), (23, .q)] (by kernel_rfl) (by kernel_rfl) Mem.closed ?_
      refine wp_q rfl Mem.closed (fun _ h => h) Mem.closed rfl (q_of_yld (y_move rfl)) trivial ?_
      refine wp_q rfl Mem.closed (fun _ h => h) Mem.closed rfl (q_of_yld (y_indexAddr_ar ar53 sz3 rfl rfl (by omega) (by omega) 0 (by omega))) trivial ?_
      refine wp_q rfl Mem.closed (fun _ h => h) Mem.closed rfl (q_of_yld (y_load sc3 rfl (c_blk (i := 0) rfl (arr_get (gd 0 (by first | omega | (simp only [mixF_len, furtherF_len]; omega))))))) trivial ?_
      refine wp_q rfl Mem.closed (fun _ h => h) Mem.closed rfl (q_of_yld (y_nilCheck rfl)) trivial ?_
      refine wp_q rfl Mem.closed (fun _ h => h) Mem.closed rfl (q_of_yld (y_indexAddr_ar ar50 sz37 rfl rfl (by omega) (by omega) (((l.drop (k * 4)).take 4).getD 0 0) (by omega))) trivial ?_
      refine wp_q rfl Mem.closed (fun _ h => h) Mem.closed rfl (q_of_yld (y_move rfl)) trivial ?_
      refine wp_q rfl Mem.closed (fun _ h => h) Mem.closed rfl (q_of_yld (y_indexAddr_ar ar53 sz3 rfl rfl (by omega) (by omega) 1 (by omega))) trivial ?_
      refine wp_q rfl Mem.closed (fun _ h => h) Mem.closed rfl (q_of_yld (y_load sc3 rfl (c_blk (i := 0) rfl (arr_get (gd 0 (by first | omega | (simp only [mixF_len, furtherF_len]; omega))))))) trivial ?_
      refine wp_q rfl Mem.closed (fun _ h => h) Mem.closed rfl (q_of_yld (y_nilCheck rfl)) trivial ?_
      refine wp_q rfl Mem.closed (fun _ h => h) Mem.closed rfl (q_of_yld (y_indexAddr_ar ar50 sz37 rfl rfl (by omega) (by omega) (((l.drop (k * 4)).take 4).getD 1 0) (by omega))) trivial ?_
      refine wp_q rfl Mem.closed (fun _ h => h) Mem.closed rfl (q_of_yld (y_move rfl)) trivial ?_
      refine wp_q rfl Mem.closed (fun _ h => h) Mem.closed rfl (q_of_yld (y_indexAddr_ar ar53 sz3 rfl rfl (by omega) (by omega) 2 (by omega))) trivial ?_
      refine wp_q rfl Mem.closed (fun _ h => h) Mem.closed rfl (q_of_yld (y_load sc3 rfl (c_blk (i := 0) rfl (arr_get (gd 0 (by first | omega | (simp only [mixF_len, furtherF_len]; omega))))))) trivial ?_
      refine wp_q rfl Mem.closed (fun _ h => h) Mem.closed rfl (q_of_yld (y_nilCheck rfl)) trivial ?_
      refine wp_q rfl Mem.closed (fun _ h => h) Mem.closed rfl (q_of_yld (y_indexAddr_ar ar50 sz37 rfl rfl (by omega) (by omega) (((l.drop (k * 4)).take 4).getD 2 0) (by omega))) trivial ?_
      refine wp_q rfl Mem.closed (fun _ h => h) Mem.closed rfl (q_of_yld (y_move rfl)) trivial ?_
      refine wp_q rfl Mem.closed (fun _ h => h) Mem.closed rfl (q_of_yld (y_indexAddr_ar ar53 sz3 rfl rfl (by omega) (by omega) 3 (by omega))) trivial ?_
      refine wp_q rfl Mem.closed (fun _ h => h) Mem.closed rfl (q_of_yld (y_load sc3 rfl (c_blk (i := 0) rfl (arr_get (gd 0 (by first | omega | (simp only [mixF_len, furtherF_len]; omega))))))) trivial ?_
      refine wp_q rfl Mem.closed (fun _ h => h) Mem.closed rfl (q_of_yld (y_nilCheck rfl)) trivial ?_
      refine wp_q rfl Mem.closed (fun _ h => h) Mem.closed rfl (q_of_yld (y_indexAddr_ar ar50 sz37 rfl rfl (by omega) (by omega) (((l.drop (k * 4)).take 4).getD 3 0) (by omega))) trivial ?_
      refine wp_q rfl Mem.closed (fun _ h => h) Mem.closed rfl (q_of_yld (y_assign rfl)) trivial ?_
      refine wp_q rfl Mem.closed (fun _ h => h) Mem.closed rfl (q_of_yld (y_assign rfl)) trivial ?_
      refine wp_q rfl Mem.closed (fun _ h => h) Mem.closed rfl (q_of_yld (y_assign rfl)) trivial ?_
      refine wp_q rfl Mem.closed (fun _ h => h) Mem.closed rfl (q_of_yld (y_assign rfl)) trivial ?_
      refine wp_nil ?_
      refine aq_seq ?_
      refine wc_seq ?_
      refine wc_region ?_
      refine wl_y (y_move rfl) ?_
      refine wl_y (y_move rfl) ?_
      refine wl_y (y_move rfl) ?_
      refine wl_eff (e_callM [2, 0, 1] [.blk b (.cells (arr w32 (furtherF s l k)) E (0, 0))] [.blk b2 (.cells (arr kn ((l.drop (k * 4)).take 4)) 53 (0, 0)), .blk b1 (.cells (arr kn l) 54 (0, 0))] ⟨_, _, rfl, rfl, ⟨_, _, rfl, rfl, ⟨_, _, rfl, rfl, rfl⟩⟩⟩ (by decide) cf36 rfl [b] rfl (fun w m => mix_ok w b E (furtherF s l k) (((l.drop (k * 4)).take 4).getD 0 0) (((l.drop (k * 4)).take 4).getD 1 0) (((l.drop (k * 4)).take 4).getD 3 0) 16 16 (m.blk (i := 0) rfl) (by first | omega | (simp only [mixF_len, furtherF_len]; omega)) (by first | omega | (simp only [mixF_len, furtherF_len]; omega)) (by first | omega | (simp only [mixF_len, furtherF_len]; omega)) (by decide) (by omega) (by omega))) rfl trivial rfl ?_
      intro _
      refine wl_nil ?_
      refine aq_seq ?_
      refine wc_seq ?_
      refine wc_region ?_
      refine wl_y (y_move rfl) ?_
      refine wl_y (y_move rfl) ?_
      refine wl_y (y_move rfl) ?_
      refine wl_eff (e_callM [0, 1, 2] [.blk b (.cells (arr w32 (mixF (furtherF s l k) (((l.drop (k * 4)).take 4).getD 0 0) (((l.drop (k * 4)).take 4).getD 1 0) (((l.drop (k * 4)).take 4).getD 3 0) 16)) E (0, 0))] [.blk b2 (.cells (arr kn ((l.drop (k * 4)).take 4)) 53 (0, 0)), .blk b1 (.cells (arr kn l) 54 (0, 0))] ⟨_, _, rfl, rfl, ⟨_, _, rfl, rfl, ⟨_, _, rfl, rfl, rfl⟩⟩⟩ (by decide) cf36 rfl [b] rfl (fun w m => mix_ok w b E (mixF (furtherF s l k) (((l.drop (k * 4)).take 4).getD 0 0) (((l.drop (k * 4)).take 4).getD 1 0) (((l.drop (k * 4)).take 4).getD 3 0) 16) (((l.drop (k * 4)).take 4).getD 2 0) (((l.drop (k * 4)).take 4).getD 3 0) (((l.drop (k * 4)).take 4).getD 1 0) 12 12 (m.blk (i := 0) rfl) (by first | omega | (simp only [mixF_len, furtherF_len]; omega)) (by first | omega | (simp only [mixF_len, furtherF_len]; omega)) (by first | omega | (simp only [mixF_len, furtherF_len]; omega)) (by decide) (by omega) (by omega))) rfl trivial rfl ?_
      intro _
      refine wl_nil ?_
      refine aq_seq ?_
      refine wc_seq ?_
      refine wc_region ?_
      refine wl_y (y_move rfl) ?_
      refine wl_y (y_move rfl) ?_
      refine wl_y (y_move rfl) ?_
      refine wl_eff (e_callM [0, 1, 2] [.blk b (.cells (arr w32 (mixF (mixF (furtherF s l k) (((l.drop (k * 4)).take 4).getD 0 0) (((l.drop (k * 4)).take 4).getD 1 0) (((l.drop (k * 4)).take 4).getD 3 0) 16) (((l.drop (k * 4)).take 4).getD 2 0) (((l.drop (k * 4)).take 4).getD 3 0) (((l.drop (k * 4)).take 4).getD 1 0) 12)) E (0, 0))] [.blk b2 (.cells (arr kn ((l.drop (k * 4)).take 4)) 53 (0, 0)), .blk b1 (.cells (arr kn l) 54 (0, 0))] ⟨_, _, rfl, rfl, ⟨_, _, rfl, rfl, ⟨_, _, rfl, rfl, rfl⟩⟩⟩ (by decide) cf36 rfl [b] rfl (fun w m => mix_ok w b E (mixF (mixF (furtherF s l k) (((l.drop (k * 4)).take 4).getD 0 0) (((l.drop (k * 4)).take 4).getD 1 0) (((l.drop (k * 4)).take 4).getD 3 0) 16) (((l.drop (k * 4)).take 4).getD 2 0) (((l.drop (k * 4)).take 4).getD 3 0) (((l.drop (k * 4)).take 4).getD 1 0) 12) (((l.drop (k * 4)).take 4).getD 0 0) (((l.drop (k * 4)).take 4).getD 1 0) (((l.drop (k * 4)).take 4).getD 3 0) 8 8 (m.blk (i := 0) rfl) (by first | omega | (simp only [mixF_len, furtherF_len]; omega)) (by first | omega | (simp only [mixF_len, furtherF_len]; omega)) (by first | omega | (simp only [mixF_len, furtherF_len]; omega)) (by decide) (by omega) (by omega))) rfl trivial rfl ?_
      intro _
      refine wl_nil ?_
      refine aq_seq ?_
      refine wc_region ?_
      refine wl_y (y_move rfl) ?_
      refine wl_y (y_move rfl) ?_
      refine wl_y (y_move rfl) ?_
      refine wl_eff (e_callM [0, 1, 2] [.blk b (.cells (arr w32 (mixF (mixF (mixF (furtherF s l k) (((l.drop (k * 4)).take 4).getD 0 0) (((l.drop (k * 4)).take 4).getD 1 0) (((l.drop (k * 4)).take 4).getD 3 0) 16) (((l.drop (k * 4)).take 4).getD 2 0) (((l.drop (k * 4)).take 4).getD 3 0) (((l.drop (k * 4)).take 4).getD 1 0) 12) (((l.drop (k * 4)).take 4).getD 0 0) (((l.drop (k * 4)).take 4).getD 1 0) (((l.drop (k * 4)).take 4).getD 3 0) 8)) E (0, 0))] [.blk b2 (.cells (arr kn ((l.drop (k * 4)).take 4)) 53 (0, 0)), .blk b1 (.cells (arr kn l) 54 (0, 0))] ⟨_, _, rfl, rfl, ⟨_, _, rfl, rfl, ⟨_, _, rfl, rfl, rfl⟩⟩⟩ (by decide) cf36 rfl [b] rfl (fun w m => mix_ok w b E (mixF (mixF (mixF (furtherF s l k) (((l.drop (k * 4)).take 4).getD 0 0) (((l.drop (k * 4)).take 4).getD 1 0) (((l.drop (k * 4)).take 4).getD 3 0) 16) (((l.drop (k * 4)).take 4).getD 2 0) (((l.drop (k * 4)).take 4).getD 3 0) (((l.drop (k * 4)).take 4).getD 1 0) 12) (((l.drop (k * 4)).take 4).getD 0 0) (((l.drop (k * 4)).take 4).getD 1 0) (((l.drop (k * 4)).take 4).getD 3 0) 8) (((l.drop (k * 4)).take 4).getD 2 0) (((l.drop (k * 4)).take 4).getD 3 0) (((l.drop (k * 4)).take 4).getD 1 0) 7 7 (m.blk (i := 0) rfl) (by first | omega | (simp only [mixF_len, furtherF_len]; omega)) (by first | omega | (simp only [mixF_len, furtherF_len]; omega)) (by first | omega | (simp only [mixF_len, furtherF_len]; omega)) (by decide) (by omega) (by omega))) rfl trivial rfl ?_
      intro _
      refine wl_nil ?_
      refine aq_blk_normal ?_
      refine aq_seq ?_
      refine wc_region ?_
      refine wl_y (y_bin rfl rfl (addn_i64 (a := k) (b := 1) (by omega))) ?_
      refine wl_y (y_move rfl) ?_
      refine wl_nil ?_
      refine aq_loop (k + 1) ?_ ?_ ⟨rfl, rfl, rfl, trivial⟩ (fun _ h => (Mem.pick h (is := [2, 0]) ⟨_, _, rfl, rfl, ⟨_, _, rfl, rfl, rfl⟩⟩ (by decide)))
      · omega
      · first | omega | (dsimp only; omega)
    · have hb1 : ¬ ((k : Int) < 8) := by simpa using hc1
      refine wc_exit ?_
      refine aq_thru_exit ?_
      refine aq_thru_exit ?_
      refine aq_blk_exit ?_
      refine aq_return (.inr rfl) rfl (rfl) ?_
      intro w' m
      have hk8 : k = 8 := by omega
      subst hk8
      exact ⟨(), rfl, m.pick (is := [1]) ⟨_, _, rfl, rfl, rfl⟩ (by decide)⟩

theorem block_ok (w : World) (key : List UInt8) (count : UInt32) (nonce : List UInt8) (hk : key.length = 32) (hn : nonce.length = 12) :
    Calls Try.prog 11 #[.agg (arr b8 key), w32 (count), .agg (arr b8 nonce)] w (Ret (fun _ : Unit => .agg (arr b8 (blockF key count nonce))) (fun _ => Mem w [] [])) := by
  refine calls_of Try.func11 rfl rfl (L := [(0, .agg (arr b8 key)), (1, w32 (count)), (2, .agg (arr b8 nonce))]) ⟨rfl, rfl, rfl, trivial⟩ (m := 46) (Nat.le_of_ble_eq_true rfl) (M := Mem w [] []) (Mem.refl w) ?_
  refine wc_seq ?_
  refine wc_region ?_
  refine wl_eff (e_box (cs := arr b8 key) rfl) rfl trivial rfl ?_
  intro b1
  refine wl_eff (e_box (cs := arr b8 nonce) rfl) rfl trivial rfl ?_
  intro b2
  refine wl_eff (e_alloc (cs := arr b8 (List.replicate 64 0)) zn35) rfl trivial rfl ?_
  intro b3
  refine wl_nil ?_
  refine aq_seq ?_
  refine wc_seq ?_
  refine wc_region ?_
  refine wl_eff (e_alloc (cs := arr w32 (List.replicate 16 0)) zn50) rfl trivial rfl ?_
  intro b4
  refine wl_nil ?_
  refine aq_seq ?_
  refine wc_seq ?_
  refine wc_region ?_
  refine wl_eff (e_buildBlk (len := 16) [b8 (101), b8 (120), b8 (112), b8 (97), b8 (110), b8 (100), b8 (32), b8 (51), b8 (50), b8 (45), b8 (98), b8 (121), b8 (116), b8 (101), b8 (32), b8 (107)] sl22 el5 rfl rfl rfl (by simp [Value.cells]) (by decide) [b8 (101), b8 (120), b8 (112), b8 (97), b8 (110), b8 (100), b8 (32), b8 (51), b8 (50), b8 (45), b8 (98), b8 (121), b8 (116), b8 (101), b8 (32), b8 (107)] rfl) rfl trivial rfl ?_
  intro b5
  refine wl_eff (e_conv_mark sl22 ub5 rfl (i := 0) rfl rfl) rfl trivial rfl ?_
  intro _
  refine wl_eff (e_callM [1, 0, 2, 3, 4] [.blk b4 (.cells (arr w32 (List.replicate 16 0)) 50 (0, 0))] [.blk b5 (.cells (#[b8 (101), b8 (120), b8 (112), b8 (97), b8 (110), b8 (100), b8 (32), b8 (51), b8 (50), b8 (45), b8 (98), b8 (121), b8 (116), b8 (101), b8 (32), b8 (107)]) 5 (16, 17)), .blk b3 (.cells (arr b8 (List.replicate 64 0)) 35 (0, 0)), .blk b2 (.cells (arr b8 nonce) 34 (0, 0)), .blk b1 (.cells (arr b8 key) 33 (0, 0))] ⟨_, _, rfl, rfl, ⟨_, _, rfl, rfl, ⟨_, _, rfl, rfl, ⟨_, _, rfl, rfl, ⟨_, _, rfl, rfl, rfl⟩⟩⟩⟩⟩ (by decide) cf18 rfl [b4] rfl (fun w m => words_ok w b4 50 (List.replicate 16 0) 0 (some ⟨b5, 0, none⟩) 16 16 ([101, 120, 112, 97, 110, 100, 32, 51, 50, 45, 98, 121, 116, 101, 32, 107]) (m.blk (i := 0) rfl) (((m.rd_blk (i := 1) (n := 16) (sz := 1) rfl (by first | (simp; done) | (simp [*]; done) | (simp; omega))) : Rd _ _ _ 1 (([101, 120, 112, 97, 110, 100, 32, 51, 50, 45, 98, 121, 116, 101, 32, 107] : List UInt8).map b8))) (m.off_blk (i := 0) (j := 1) rfl rfl (by decide)) (by omega) (by first | omega | (simp only [wordsF_len, tenF_len, furtherF_len, outF_len, List.length_set, List.length_replicate, fromF_len] <;> omega)) (by omega))) rfl trivial rfl ?_
  intro _
  refine wl_nil ?_
  refine aq_seq ?_
  refine wc_seq ?_
  refine wc_region ?_
  refine wl_y (y_slice_ar0 ar33 sz5 rfl 32 rfl rfl (by omega)) ?_
  refine wl_eff (e_callM [0, 1, 2, 3, 4] [.blk b4 (.cells (arr w32 (wordsF (List.replicate 16 0) 0 ([101, 120, 112, 97, 110, 100, 32, 51, 50, 45, 98, 121, 116, 101, 32, 107]) 16)) 50 (0, 0))] [.blk b5 (.cells (#[b8 (101), b8 (120), b8 (112), b8 (97), b8 (110), b8 (100), b8 (32), b8 (51), b8 (50), b8 (45), b8 (98), b8 (121), b8 (116), b8 (101), b8 (32), b8 (107)]) 5 (16, 17)), .blk b3 (.cells (arr b8 (List.replicate 64 0)) 35 (0, 0)), .blk b2 (.cells (arr b8 nonce) 34 (0, 0)), .blk b1 (.cells (arr b8 key) 33 (0, 0))] ⟨_, _, rfl, rfl, ⟨_, _, rfl, rfl, ⟨_, _, rfl, rfl, ⟨_, _, rfl, rfl, ⟨_, _, rfl, rfl, rfl⟩⟩⟩⟩⟩ (by decide) cf18 rfl [b4] rfl (fun w m => words_ok w b4 50 (wordsF (List.replicate 16 0) 0 ([101, 120, 112, 97, 110, 100, 32, 51, 50, 45, 98, 121, 116, 101, 32, 107]) 16) 4 (some ⟨b1, 0, none⟩) 32 32 key (m.blk (i := 0) rfl) ((Mem.rd_arrn (f := b8) (xs := key) m (i := 4) rfl (n := 32) (by first | omega | (simp only [wordsF_len, tenF_len, furtherF_len, outF_len, List.length_set, List.length_replicate, fromF_len] <;> omega)))) (m.off_blk (i := 0) (j := 4) rfl rfl (by decide)) (by omega) (by first | omega | (simp only [wordsF_len, tenF_len, furtherF_len, outF_len, List.length_set, List.length_replicate, fromF_len] <;> omega)) (by omega))) rfl trivial rfl ?_
  intro _
  refine wl_nil ?_
  refine aq_seq ?_
  refine wc_seq ?_
  refine wc_region ?_
  refine wl_y (y_move rfl) ?_
  refine wl_y (y_indexAddr_ar ar50 sz37 rfl rfl (by omega) (by omega) 12 (by omega)) ?_
  refine wl_eff (e_store_arr sz37 rfl (x' := count) rfl (i := 0) rfl (by first | omega | (simp only [wordsF_len, tenF_len, furtherF_len, outF_len, List.length_set, List.length_replicate, fromF_len] <;> omega)) rfl) rfl trivial rfl ?_
  intro _
  refine wl_nil ?_
  refine aq_seq ?_
  refine wc_seq ?_
  refine wc_region ?_
  refine wl_y (y_slice_ar0 ar34 sz5 rfl 12 rfl rfl (by omega)) ?_
  refine wl_eff (e_callM [0, 1, 2, 3, 4] [.blk b4 (.cells (arr w32 ((wordsF (wordsF (List.replicate 16 0) 0 ([101, 120, 112, 97, 110, 100, 32, 51, 50, 45, 98, 121, 116, 101, 32, 107]) 16) 4 key 32).set 12 count)) 50 (0, 0))] [.blk b5 (.cells (#[b8 (101), b8 (120), b8 (112), b8 (97), b8 (110), b8 (100), b8 (32), b8 (51), b8 (50), b8 (45), b8 (98), b8 (121), b8 (116), b8 (101), b8 (32), b8 (107)]) 5 (16, 17)), .blk b3 (.cells (arr b8 (List.replicate 64 0)) 35 (0, 0)), .blk b2 (.cells (arr b8 nonce) 34 (0, 0)), .blk b1 (.cells (arr b8 key) 33 (0, 0))] ⟨_, _, rfl, rfl, ⟨_, _, rfl, rfl, ⟨_, _, rfl, rfl, ⟨_, _, rfl, rfl, ⟨_, _, rfl, rfl, rfl⟩⟩⟩⟩⟩ (by decide) cf18 rfl [b4] rfl (fun w m => words_ok w b4 50 ((wordsF (wordsF (List.replicate 16 0) 0 ([101, 120, 112, 97, 110, 100, 32, 51, 50, 45, 98, 121, 116, 101, 32, 107]) 16) 4 key 32).set 12 count) 13 (some ⟨b2, 0, none⟩) 12 12 nonce (m.blk (i := 0) rfl) ((Mem.rd_arrn (f := b8) (xs := nonce) m (i := 3) rfl (n := 12) (by first | omega | (simp only [wordsF_len, tenF_len, furtherF_len, outF_len, List.length_set, List.length_replicate, fromF_len] <;> omega)))) (m.off_blk (i := 0) (j := 3) rfl rfl (by decide)) (by omega) (by first | omega | (simp only [wordsF_len, tenF_len, furtherF_len, outF_len, List.length_set, List.length_replicate, fromF_len] <;> omega)) (by omega))) rfl trivial rfl ?_
  intro _
  refine wl_nil ?_
  refine aq_seq ?_
  refine wc_seq ?_
  refine wc_region ?_
  refine wl_y (y_loadall ag50 rfl (i := 0) rfl (by first | (simp; done) | (simp [*]; done) | (simp; omega))) ?_
  refine wl_eff (e_alloc (cs := arr w32 (List.replicate 16 0)) zn50) rfl trivial rfl ?_
  intro b6
  refine wl_eff (e_storeall sz50 rfl rfl (i := 0) rfl (by first | (simp; done) | (simp [*]; done) | (simp; omega)) (by first | (simp; done) | (simp [*]; done) | (simp; omega)) (arr_one _) rfl) rfl trivial rfl ?_
  intro _
  refine wl_nil ?_
  refine aq_seq ?_
  refine wc_seq ?_
  refine wc_seq ?_
  refine wc_region ?_
  refine wl_y (y_move rfl) ?_
  refine wl_nil ?_
  refine aq_seq ?_
  refine wc_block ?_
  refine wc_loop (γ := Nat) (fun k => [(6, .pointer (some ⟨b3, 0, none⟩)), (7, .pointer (some ⟨b4, 0, none⟩)), (8, .pointer (some ⟨b6, 0, none⟩)), (20, ki ((k : Int)))]) (fun k => Mem w [] [.blk b6 (.cells (arr w32 (tenF (fromF key count nonce) k)) 50 (0, 0)), .blk b4 (.cells (arr w32 (wordsF ((wordsF (wordsF (List.replicate 16 0) 0 ([101, 120, 112, 97, 110, 100, 32, 51, 50, 45, 98, 121, 116, 101, 32, 107]) 16) 4 key 32).set 12 count) 13 nonce 12)) 50 (0, 0)), .blk b5 (.cells (#[b8 (101), b8 (120), b8 (112), b8 (97), b8 (110), b8 (100), b8 (32), b8 (51), b8 (50), b8 (45), b8 (98), b8 (121), b8 (116), b8 (101), b8 (32), b8 (107)]) 5 (16, 17)), .blk b3 (.cells (arr b8 (List.replicate 64 0)) 35 (0, 0)), .blk b2 (.cells (arr b8 nonce) 34 (0, 0)), .blk b1 (.cells (arr b8 key) 33 (0, 0))]) (fun k => (k ≤ 10)) (fun k => 10 - k) (0) ?_ ⟨rfl, rfl, rfl, rfl, trivial⟩ (fun _ h => h) ?_
  · omega
  · rintro k hk10
    have hfr := fromF_len key count nonce
    refine wc_seq ?_
    refine wc_region ?_
    refine wl_y (y_bin rfl rfl lss_i64) ?_
    refine wl_nil ?_
    refine aq_seq ?_
    refine wc_seq ?_
    refine wc_if rfl (fun hc1 => ?_) (fun hc1 => ?_)
    · have hb1 : (k : Int) < 10 := by simpa using hc1
      refine wc_skip ?_
      refine aq_seq ?_
      refine wc_seq ?_
      refine wc_block ?_
      refine wc_region ?_
      refine wl_eff (e_call0 cf20 rfl (fun w m => fours_ok w)) rfl trivial rfl ?_
      intro _
      refine wl_eff (e_callM [0, 1, 2, 3, 4, 5] [.blk b6 (.cells (arr w32 (tenF (fromF key count nonce) k)) 50 (0, 0))] [.blk b4 (.cells (arr w32 (wordsF ((wordsF (wordsF (List.replicate 16 0) 0 ([101, 120, 112, 97, 110, 100, 32, 51, 50, 45, 98, 121, 116, 101, 32, 107]) 16) 4 key 32).set 12 count) 13 nonce 12)) 50 (0, 0)), .blk b5 (.cells (#[b8 (101), b8 (120), b8 (112), b8 (97), b8 (110), b8 (100), b8 (32), b8 (51), b8 (50), b8 (45), b8 (98), b8 (121), b8 (116), b8 (101), b8 (32), b8 (107)]) 5 (16, 17)), .blk b3 (.cells (arr b8 (List.replicate 64 0)) 35 (0, 0)), .blk b2 (.cells (arr b8 nonce) 34 (0, 0)), .blk b1 (.cells (arr b8 key) 33 (0, 0))] ⟨_, _, rfl, rfl, ⟨_, _, rfl, rfl, ⟨_, _, rfl, rfl, ⟨_, _, rfl, rfl, ⟨_, _, rfl, rfl, ⟨_, _, rfl, rfl, rfl⟩⟩⟩⟩⟩⟩ (by decide) cf19 rfl [b6] rfl (fun w m => further_ok w b6 50 (tenF (fromF key count nonce) k) foursL (m.blk (i := 0) rfl) (by first | omega | (simp only [wordsF_len, tenF_len, furtherF_len, outF_len, List.length_set, List.length_replicate, fromF_len] <;> omega)) rfl (by decide))) rfl trivial rfl ?_
      intro _
      refine wl_nil ?_
      refine aq_blk_normal ?_
      refine aq_seq ?_
      refine wc_region ?_
      refine wl_y (y_bin rfl rfl (addn_i64 (a := k) (b := 1) (by omega))) ?_
      refine wl_y (y_move rfl) ?_
      refine wl_nil ?_
      refine aq_loop (k + 1) ?_ ?_ ⟨rfl, rfl, rfl, rfl, trivial⟩ (fun _ h => h)
      · omega
      · first | omega | (dsimp only; omega)
    · have hb1 : ¬ ((k : Int) < 10) := by simpa using hc1
      have hk10e : k = 10 := by omega
      subst hk10e
      refine wc_exit ?_
      refine aq_thru_exit ?_
      refine aq_thru_exit ?_
      refine aq_blk_exit ?_
      refine aq_seq ?_
      refine wc_seq ?_
      refine wc_seq ?_
      refine wc_region ?_
      refine wl_y (y_move rfl) ?_
      refine wl_nil ?_
      refine aq_seq ?_
      refine wc_block ?_
      refine wc_loop (γ := Nat) (fun i => [(6, .pointer (some ⟨b3, 0, none⟩)), (7, .pointer (some ⟨b4, 0, none⟩)), (8, .pointer (some ⟨b6, 0, none⟩)), (25, ki ((i : Int)))]) (fun i => Mem w [] [.blk b6 (.cells (arr w32 (tenF (fromF key count nonce) 10)) 50 (0, 0)), .blk b4 (.cells (arr w32 (wordsF ((wordsF (wordsF (List.replicate 16 0) 0 ([101, 120, 112, 97, 110, 100, 32, 51, 50, 45, 98, 121, 116, 101, 32, 107]) 16) 4 key 32).set 12 count) 13 nonce 12)) 50 (0, 0)), .blk b5 (.cells (#[b8 (101), b8 (120), b8 (112), b8 (97), b8 (110), b8 (100), b8 (32), b8 (51), b8 (50), b8 (45), b8 (98), b8 (121), b8 (116), b8 (101), b8 (32), b8 (107)]) 5 (16, 17)), .blk b3 (.cells (arr b8 (outF (tenF (fromF key count nonce) 10) (fromF key count nonce) i)) 35 (0, 0)), .blk b2 (.cells (arr b8 nonce) 34 (0, 0)), .blk b1 (.cells (arr b8 key) 33 (0, 0))]) (fun i => (i ≤ 64)) (fun i => 64 - i) (0) ?_ ⟨rfl, rfl, rfl, rfl, trivial⟩ (fun _ h => h) ?_
      · omega
      · rintro i hi
        refine wc_seq ?_
        refine wc_region ?_
        refine wl_y (y_bin rfl rfl lss_i64) ?_
        refine wl_nil ?_
        refine aq_seq ?_
        refine wc_seq ?_
        refine wc_if rfl (fun hc2 => ?_) (fun hc2 => ?_)
        · have hb2 : (i : Int) < 64 := by simpa using hc2
          refine wc_skip ?_
          refine aq_seq ?_
          refine wc_seq ?_
          refine wc_block ?_
          refine wc_seq ?_
          refine wc_region ?_
          refine wl_y (y_move rfl) ?_
          refine wl_y (y_assign rfl) ?_
          refine wl_nil ?_
          refine aq_seq ?_
          refine wc_drawM [(0, .q), (1, .q), (2, .q), (3, .q), (4, .q), (5, .q), (6, .q), (7, .q), (8, .q), (9, .q), (10, .q), (11, .q), (12, .q), (13, .q), (14, .q), (15, .q), (16, .l)] (by kernel_rfl) (by kernel_rfl) Mem.closed ?_
          refine wp_q rfl Mem.closed (fun _ h => h) Mem.closed rfl (q_of_yld (y_move rfl)) trivial ?_
          refine wp_q rfl Mem.closed (fun _ h => h) Mem.closed rfl (q_of_yld (y_move rfl)) trivial ?_
          refine wp_q rfl Mem.closed (fun _ h => h) Mem.closed rfl (q_of_yld (y_bin rfl rfl (quon_i64 (a := i) (b := 4) (by omega) (by omega)))) trivial ?_
          refine wp_q rfl Mem.closed (fun _ h => h) Mem.closed rfl (q_of_yld (y_indexAddr_ar ar50 sz37 rfl rfl (by omega) (by omega) (i / 4) (by omega))) trivial ?_
          refine wp_q rfl Mem.closed (fun _ h => h) Mem.closed rfl (q_of_yld (y_load sc37 rfl (c_blk (i := 0) rfl (arr_get (gd 0 (by first | omega | (simp only [wordsF_len, tenF_len, furtherF_len, outF_len, List.length_set, List.length_replicate, fromF_len] <;> omega))))))) trivial ?_
          refine wp_q rfl Mem.closed (fun _ h => h) Mem.closed rfl (q_of_yld (y_move rfl)) trivial ?_
          refine wp_q rfl Mem.closed (fun _ h => h) Mem.closed rfl (q_of_yld (y_bin rfl rfl (quon_i64 (a := i) (b := 4) (by omega) (by omega)))) trivial ?_
          refine wp_q rfl Mem.closed (fun _ h => h) Mem.closed rfl (q_of_yld (y_indexAddr_ar ar50 sz37 rfl rfl (by omega) (by omega) (i / 4) (by omega))) trivial ?_
          refine wp_q rfl Mem.closed (fun _ h => h) Mem.closed rfl (q_of_yld (y_load sc37 rfl (c_blk (i := 1) rfl (arr_get (gd 0 (by first | omega | (simp only [wordsF_len, tenF_len, furtherF_len, outF_len, List.length_set, List.length_replicate, fromF_len] <;> omega))))))) trivial ?_
          refine wp_q rfl Mem.closed (fun _ h => h) Mem.closed rfl (q_of_yld (y_bin rfl rfl (add_u32 ((tenF (fromF key count nonce) 10).getD (i / 4) 0) ((wordsF ((wordsF (wordsF (List.replicate 16 0) 0 ([101, 120, 112, 97, 110, 100, 32, 51, 50, 45, 98, 121, 116, 101, 32, 107]) 16) 4 key 32).set 12 count) 13 nonce 12).getD (i / 4) 0)))) trivial ?_
          refine wp_q rfl Mem.closed (fun _ h => h) Mem.closed rfl (q_of_yld (y_move rfl)) trivial ?_
          refine wp_q rfl Mem.closed (fun _ h => h) Mem.closed rfl (q_of_yld (y_bin rfl rfl (remn_i64 (a := i) (b := 4) (by omega)))) trivial ?_
          refine wp_q rfl Mem.closed (fun _ h => h) Mem.closed rfl (q_of_yld (y_bin rfl rfl (muln_i64 (a := (i % 4)) (b := 8) (by omega)))) trivial ?_
          refine wp_q rfl Mem.closed (fun _ h => h) Mem.closed rfl (q_of_yld (y_bin rfl rfl (shr_u32 ((tenF (fromF key count nonce) 10).getD (i / 4) 0 + (wordsF ((wordsF (wordsF (List.replicate 16 0) 0 ([101, 120, 112, 97, 110, 100, 32, 51, 50, 45, 98, 121, 116, 101, 32, 107]) 16) 4 key 32).set 12 count) 13 nonce 12).getD (i / 4) 0) (q := .i64) ((i % 4) * 8) (by omega) (by omega)))) trivial ?_
          refine wp_q rfl Mem.closed (fun _ h => h) Mem.closed rfl (q_of_yld (y_cv rfl us37 ui5 (congrArg (Value.int .u8) (cv_u32_u8 (((tenF (fromF key count nonce) 10).getD (i / 4) 0 + (wordsF ((wordsF (wordsF (List.replicate 16 0) 0 ([101, 120, 112, 97, 110, 100, 32, 51, 50, 45, 98, 121, 116, 101, 32, 107]) 16) 4 key 32).set 12 count) 13 nonce 12).getD (i / 4) 0) >>> UInt32.ofNat ((i % 4) * 8)))))) trivial ?_
          refine wp_q rfl Mem.closed (fun _ h => h) Mem.closed rfl (q_of_yld (y_indexAddr_ar ar35 sz5 rfl rfl (by omega) (by omega) i (by omega))) trivial ?_
          refine wp_l rfl rfl rfl (e_store_arr sz5 rfl (x' := (((tenF (fromF key count nonce) 10).getD (i / 4) 0 + (wordsF ((wordsF (wordsF (List.replicate 16 0) 0 ([101, 120, 112, 97, 110, 100, 32, 51, 50, 45, 98, 121, 116, 101, 32, 107]) 16) 4 key 32).set 12 count) 13 nonce 12).getD (i / 4) 0) >>> UInt32.ofNat ((i % 4) * 8)).toUInt8) rfl (i := 3) rfl (by first | omega | (simp only [wordsF_len, tenF_len, furtherF_len, outF_len, List.length_set, List.length_replicate, fromF_len] <;> omega)) ⟨_, rfl, ⟨_, rfl, ⟨_, rfl, rfl⟩⟩⟩) trivial ?_
          intro _
          refine aq_blk_normal ?_
          refine aq_seq ?_
          refine wc_region ?_
          refine wl_y (y_bin rfl rfl (addn_i64 (a := i) (b := 1) (by omega))) ?_
          refine wl_y (y_move rfl) ?_
          refine wl_nil ?_
          refine aq_loop (i + 1) ?_ ?_ ⟨rfl, rfl, rfl, rfl, trivial⟩ (fun _ h => h)
          · omega
          · first | omega | (dsimp only; omega)
        · have hb2 : ¬ ((i : Int) < 64) := by simpa using hc2
          refine wc_exit ?_
          refine aq_thru_exit ?_
          refine aq_thru_exit ?_
          refine aq_blk_exit ?_
          refine aq_seq ?_
          refine wc_seq ?_
          refine wc_region ?_
          refine wl_y (y_loadall ag35 rfl (i := 3) rfl (by first | (simp; done) | (simp [*]; done) | (simp; omega))) ?_
          refine wl_eff (e_storeall sz35 rfl rfl (i := 3) rfl (by first | (simp; done) | (simp [*]; done) | (simp; omega)) (by first | (simp; done) | (simp [*]; done) | (simp; omega)) (arr_one _) ⟨_, rfl, ⟨_, rfl, ⟨_, rfl, rfl⟩⟩⟩) rfl trivial rfl ?_
          intro _
          refine wl_nil ?_
          refine aq_seq ?_
          refine wc_ret ?_
          refine aq_return (.inl rfl) rfl (⟨_, _, _, rfl, fun w m => run_loadVar_all ag35 (m.blk (i := 3) rfl) (by first | (simp; done) | (simp [*]; done) | (simp; omega)), rfl, rfl⟩) ?_
          intro w' m
          have hi64 : i = 64 := by omega
          subst hi64
          exact ⟨(), rfl, m.pick (is := []) rfl (by decide)⟩

theorem stream1_ok {X : Type} (w0 w : World) (own : List Nat) (l bc bk bn : Nat) (key : List UInt8) (c : UInt32) (nonce : List UInt8) (hk32 : key.length = 32) (hn12 : nonce.length = 12) (Hf : Nat → X → List Ch) (x0 : X) (stop : Nat) (h0 : 0 < stop) (hm : Mem w0 own (.blk bc (.cells (#[w32 (c + UInt32.ofNat 0)]) 37 (0, 0)) :: .blk bk (.cells (arr b8 key) 33 (0, 0)) :: .blk bn (.cells (arr b8 nonce) 34 (0, 0)) :: Hf 0 x0) w) (hY : ∀ j x w' cv, j < stop → Mem w0 own (.blk bc (.cells (#[w32 (cv)]) 37 (0, 0)) :: .blk bk (.cells (arr b8 key) 33 (0, 0)) :: .blk bn (.cells (arr b8 nonce) 34 (0, 0)) :: Hf j x) w' → Go.Mc.Yields Try.prog l [b8 (streamF key c nonce j)] w' (Ret (fun _ : X => kb (decide (j + 1 < stop))) (fun x' => Mem w0 own (.blk bc (.cells (#[w32 (cv)]) 37 (0, 0)) :: .blk bk (.cells (arr b8 key) 33 (0, 0)) :: .blk bn (.cells (arr b8 nonce) 34 (0, 0)) :: Hf (j + 1) x')))) :
    Calls Try.prog 37 #[.func (.yield l) #[] #[], .pointer (some ⟨bc, 0, none⟩), .pointer (some ⟨bk, 0, none⟩), .pointer (some ⟨bn, 0, none⟩)] w (Ret (fun _ : UInt32 × X => .tuple #[]) (fun y => Mem w0 own (.blk bc (.cells (#[w32 (y.1)]) 37 (0, 0)) :: .blk bk (.cells (arr b8 key) 33 (0, 0)) :: .blk bn (.cells (arr b8 nonce) 34 (0, 0)) :: Hf stop y.2))) := by
  refine calls_of Try.func37 rfl rfl (L := [(0, .func (.yield l) #[] #[]), (1, .pointer (some ⟨bc, 0, none⟩)), (2, .pointer (some ⟨bk, 0, none⟩)), (3, .pointer (some ⟨bn, 0, none⟩))]) ⟨rfl, rfl, rfl, rfl, trivial⟩ (m := 21) (Nat.le_of_ble_eq_true rfl) (M := Mem w0 own (.blk bc (.cells (#[w32 (c + UInt32.ofNat 0)]) 37 (0, 0)) :: .blk bk (.cells (arr b8 key) 33 (0, 0)) :: .blk bn (.cells (arr b8 nonce) 34 (0, 0)) :: (Hf 0 x0))) (hm) ?_
  refine wc_block ?_
  refine wc_loop (γ := Nat × X) (fun ⟨q, x⟩ => [(0, .func (.yield l) #[] #[]), (1, .pointer (some ⟨bc, 0, none⟩)), (2, .pointer (some ⟨bk, 0, none⟩)), (3, .pointer (some ⟨bn, 0, none⟩))]) (fun ⟨q, x⟩ => Mem w0 own (.blk bc (.cells (#[w32 (c + UInt32.ofNat q)]) 37 (0, 0)) :: .blk bk (.cells (arr b8 key) 33 (0, 0)) :: .blk bn (.cells (arr b8 nonce) 34 (0, 0)) :: (Hf (64 * q) x))) (fun ⟨q, x⟩ => (64 * q < stop)) (fun ⟨q, x⟩ => stop - 64 * q) (⟨0, x0⟩) ?_ ⟨rfl, rfl, rfl, rfl, trivial⟩ (fun _ h => h) ?_
  · omega
  · rintro ⟨q, x⟩ hq
    change 64 * q < stop at hq
    refine wc_seq ?_
    refine wc_block ?_
    refine wc_seq ?_
    refine wc_region ?_
    refine wl_y (y_loadall ag33 rfl (i := 1) rfl (by first | (simp; done) | (simp [*]; done) | (simp; omega) | rfl)) ?_
    refine wl_y (y_load sc37 rfl (c_blk (i := 0) rfl rfl)) ?_
    refine wl_y (y_loadall ag34 rfl (i := 2) rfl (by first | (simp; done) | (simp [*]; done) | (simp; omega) | rfl)) ?_
    refine wl_eff (e_call0 cf11 rfl (fun w m => block_ok w key (c + UInt32.ofNat q) nonce (by first | omega | (simp <;> omega)) (by first | omega | (simp <;> omega)))) rfl trivial rfl ?_
    intro _
    refine wl_y (y_move rfl) ?_
    refine wl_nil ?_
    refine aq_seq ?_
    refine wc_block ?_
    refine wc_loop (γ := Nat × X) (fun ⟨k, y⟩ => [(0, .func (.yield l) #[] #[]), (1, .pointer (some ⟨bc, 0, none⟩)), (2, .pointer (some ⟨bk, 0, none⟩)), (3, .pointer (some ⟨bn, 0, none⟩)), (12, .agg (arr b8 (blockF key (c + UInt32.ofNat q) nonce))), (13, ki ((k : Int)))]) (fun ⟨k, y⟩ => Mem w0 own (.blk bc (.cells (#[w32 (c + UInt32.ofNat q)]) 37 (0, 0)) :: .blk bk (.cells (arr b8 key) 33 (0, 0)) :: .blk bn (.cells (arr b8 nonce) 34 (0, 0)) :: (Hf (64 * q + k) y))) (fun ⟨k, y⟩ => (k ≤ 64) ∧ (64 * q + k < stop)) (fun ⟨k, y⟩ => 64 - k) (⟨0, x⟩) ?_ ⟨rfl, rfl, rfl, rfl, rfl, rfl, trivial⟩ (fun _ h => h) ?_
    · omega
    · rintro ⟨k, y⟩ ⟨hkk, hks⟩
      refine wc_seq ?_
      refine wc_region ?_
      refine wl_y (y_bin rfl rfl lss_i64) ?_
      refine wl_nil ?_
      refine aq_seq ?_
      refine wc_seq ?_
      refine wc_if rfl (fun hc1 => ?_) (fun hc1 => ?_)
      · have hb1 : (k : Int) < 64 := by simpa using hc1
        refine wc_skip ?_
        refine aq_seq ?_
        refine wc_seq ?_
        refine wc_block ?_
        refine wc_seq ?_
        refine wc_region ?_
        refine wl_y (y_index_ar ar35 sz5 sc5 rfl rfl (by omega) (by omega) (arr_get (gd 0 (by first | omega | (simp <;> omega))))) ?_
        refine wl_re (t := 15) (v' := b8 (streamF key c nonce (64 * q + k))) rfl (congrArg b8 (stream_at key c nonce (by omega))) ?_
        refine wl_y (y_assign rfl) ?_
        refine wl_nil ?_
        refine aq_seq ?_
        refine wc_seq ?_
        refine wc_region ?_
        refine wl_y (y_move rfl) ?_
        refine wl_y (y_move rfl) ?_
        refine wl_eff (e_yield rfl rfl (fun w m => hY (64 * q + k) y w (c + UInt32.ofNat q) (by omega) m)) rfl trivial rfl ?_
        intro x1
        refine wl_y (y_not rfl) ?_
        refine wl_nil ?_
        refine aq_seq ?_
        refine wc_if rfl (fun hc2 => ?_) (fun hc2 => ?_)
        · have hb2 : ¬ (64 * q + k + 1 < stop) := by simpa using hc2
          have hst : 64 * q + k + 1 = stop := by omega
          refine wc_ret ?_
          refine aq_blk_ret ?_
          refine aq_thru_ret ?_
          refine aq_thru_ret ?_
          refine aq_blk_ret ?_
          refine aq_blk_ret ?_
          refine aq_thru_ret ?_
          refine aq_thru_ret ?_
          refine aq_blk_ret ?_
          refine aq_return (.inl rfl) rfl (rfl) ?_
          intro w' m
          rw [hst] at m
          exact ⟨(_, x1), rfl, m⟩
        · have hb2 : 64 * q + k + 1 < stop := by simpa using hc2
          have hst : 64 * q + k + 1 < stop := hb2
          refine wc_skip ?_
          refine aq_blk_normal ?_
          refine aq_seq ?_
          refine wc_region ?_
          refine wl_y (y_bin rfl rfl (addn_i64 (a := k) (b := 1) (by omega))) ?_
          refine wl_y (y_move rfl) ?_
          refine wl_nil ?_
          refine aq_loop (⟨k + 1, x1⟩) ?_ ?_ ⟨rfl, rfl, rfl, rfl, rfl, rfl, trivial⟩ (fun _ h => h)
          · omega
          · first | omega | (dsimp only; omega)
      · have hb1 : ¬ ((k : Int) < 64) := by simpa using hc1
        have hk64 : k = 64 := by omega
        subst hk64
        refine wc_exit ?_
        refine aq_thru_exit ?_
        refine aq_thru_exit ?_
        refine aq_blk_exit ?_
        refine aq_blk_normal ?_
        refine aq_seq ?_
        refine wc_region ?_
        refine wl_y (y_load sc37 rfl (c_blk (i := 0) rfl rfl)) ?_
        refine wl_y (y_bin rfl rfl (add_u32 (c + UInt32.ofNat q) 1)) ?_
        refine wl_re (t := 8) (v' := w32 (c + UInt32.ofNat (q + 1))) rfl (congrArg w32 (cnt_succ c q)) ?_
        refine wl_eff (e_store1 sz37 rfl rfl (i := 0) rfl rfl (by first | decide | simp) rfl) rfl trivial rfl ?_
        intro _
        refine wl_nil ?_
        refine aq_loop (⟨q + 1, y⟩) ?_ ?_ ⟨rfl, rfl, rfl, rfl, trivial⟩ (fun _ h => h)
        · omega
        · first | omega | (dsimp only; omega)

theorem stream_ok (w : World) (key : List UInt8) (c : UInt32) (nonce : List UInt8) :
    Calls Try.prog 21 #[.agg (arr b8 key), w32 (c), .agg (arr b8 nonce)] w (Ret (fun y : Nat × Nat × Nat => .func (.func 37) #[] #[.pointer (some ⟨y.1, 0, none⟩), .pointer (some ⟨y.2.1, 0, none⟩), .pointer (some ⟨y.2.2, 0, none⟩)]) (fun y => Mem w [] [.blk y.1 (.cells #[w32 c] 37 (0, 0)), .blk y.2.1 (.cells (arr b8 key) 33 (0, 0)), .blk y.2.2 (.cells (arr b8 nonce) 34 (0, 0))])) := by
  refine calls_of Try.func21 rfl rfl (L := [(0, .agg (arr b8 key)), (1, w32 (c)), (2, .agg (arr b8 nonce))]) ⟨rfl, rfl, rfl, trivial⟩ (m := 8) (Nat.le_of_ble_eq_true rfl) (M := Mem w [] []) (Mem.refl w) ?_
  refine wc_seq ?_
  refine wc_region ?_
  refine wl_eff (e_box (cs := arr b8 key) rfl) rfl trivial rfl ?_
  intro b1
  refine wl_eff (e_box (cs := #[w32 (c)]) rfl) rfl trivial rfl ?_
  intro b2
  refine wl_eff (e_box (cs := arr b8 nonce) rfl) rfl trivial rfl ?_
  intro b3
  refine wl_y (y_assign rfl) ?_
  refine wl_nil ?_
  refine aq_seq ?_
  refine wc_seq ?_
  refine wc_region ?_
  refine wl_y (y_makeFunc rfl rfl) ?_
  refine wl_y (y_assign rfl) ?_
  refine wl_nil ?_
  refine aq_seq ?_
  refine wc_ret ?_
  refine aq_return (.inl rfl) rfl (⟨_, _, rfl, rfl, rfl⟩) ?_
  intro w' m
  exact ⟨(b2, b1, b3), rfl, m.pick (is := [1, 2, 0]) ⟨_, _, rfl, rfl, ⟨_, _, rfl, rfl, ⟨_, _, rfl, rfl, rfl⟩⟩⟩ (by decide)⟩

theorem xor_ok (w : World) (key : List UInt8) (count : UInt32) (nonce : List UInt8) (ab : Option Addr) (nb cb : Nat) (lb : List UInt8) (hk : key.length = 32) (hn : nonce.length = 12) (hb : Rd w ab nb 1 (lb.map b8)) (hnb : nb ≤ 1048576) (hcnt : count.toNat + (nb + 63) / 64 ≤ 4294967296) :
    Calls Try.prog 12 #[.agg (arr b8 key), w32 (count), .agg (arr b8 nonce), .slice ab nb cb] w (Ret (fun r : Option Addr × Nat => .tuple #[.slice r.1 nb r.2, ki 0]) (fun r => Mem w [] [.sl r.1 nb r.2 5 1 ((xorTo lb key count nonce nb).map b8)])) := by
  have hlb := hb.len
  have hc32 := count.toNat_lt
  refine calls_ofM Try.func12 rfl rfl (L := [(0, .agg (arr b8 key)), (1, w32 (count)), (2, .agg (arr b8 nonce)), (3, .slice ab nb cb)]) ⟨rfl, rfl, rfl, rfl, trivial⟩ (m := 55) (Nat.le_of_ble_eq_true rfl) (M := Mem w [] []) (Mem.refl w) ?_
  refine wc_seq ?_
  refine wc_region ?_
  refine wl_eff (e_box (cs := arr b8 key) rfl) rfl trivial rfl ?_
  intro b1
  refine wl_eff (e_box (cs := arr b8 nonce) rfl) rfl trivial rfl ?_
  intro b2
  refine wl_eff (e_box (cs := #[.slice ab nb cb]) rfl) rfl trivial rfl ?_
  intro b3
  refine wl_y (y_assign rfl) ?_
  refine wl_y (y_assign rfl) ?_
  refine wl_nil ?_
  refine aq_seq ?_
  refine wc_seq ?_
  refine wc_region ?_
  refine wl_y (y_load sc22 rfl (c_blk (i := 0) rfl rfl)) ?_
  refine wl_y (y_len_sl sl22 (m := nb) rfl rfl) ?_
  refine wl_y (y_bin rfl rfl (addn_i64 (a := nb) (b := 64) (by omega))) ?_
  refine wl_y (y_bin rfl rfl (subn_i64 (a := (nb + 64)) (b := 1) (by omega) (by omega))) ?_
  refine wl_y (y_bin rfl rfl (quon_i64 (a := ((nb + 64) - 1)) (b := 64) (by omega) (by omega))) ?_
  refine wl_y (y_assign rfl) ?_
  refine wl_nil ?_
  refine aq_seq ?_
  refine wc_seq ?_
  refine wc_seq ?_
  refine wc_region ?_
  refine wl_y (y_load sc22 rfl (c_blk (i := 0) rfl rfl)) ?_
  refine wl_y (y_len_sl sl22 (m := nb) rfl rfl) ?_
  refine wl_y (y_bin rfl rfl gtr_i64) ?_
  refine wl_re (t := 20) (v' := kb (false)) rfl (congrArg kb (decide_eq_false (by omega))) ?_
  refine wl_y (y_move rfl) ?_
  refine wl_y (y_move rfl) ?_ (hg := ⟨_, rfl, rfl⟩)
  refine wl_y (y_cv rfl us37 ui2 (congrArg (Value.int .i64) (cv_u32_i64 count))) ?_ (hg := ⟨_, rfl, rfl⟩)
  refine wl_y (y_move rfl) ?_ (hg := ⟨_, rfl, rfl⟩)
  refine wl_y (y_bin rfl rfl (addn_i64 (a := count.toNat) (b := (((nb + 64) - 1) / 64)) (by omega))) ?_ (hg := ⟨_, rfl, rfl⟩)
  refine wl_y (y_bin rfl rfl gtr_i64) ?_ (hg := ⟨_, rfl, rfl⟩)
  refine wl_y (y_pick (b := false) rfl rfl) ?_
  refine wl_nil ?_
  refine aq_seq ?_
  have hd1 : (decide (((count.toNat + (((nb + 64) - 1) / 64) : Nat) : Int) > 4294967296)) = false := by exact decide_eq_false (by omega)
  refine wc_else' rfl hd1 ?_
  refine wc_skip ?_
  refine aq_seq ?_
  refine wc_seq ?_
  refine wc_seq ?_
  refine wc_region ?_
  refine wl_y (y_load sc22 rfl (c_blk (i := 0) rfl rfl)) ?_
  refine wl_y (y_len_sl sl22 (m := nb) rfl rfl) ?_
  refine wl_y (y_bin rfl rfl eql_i64) ?_
  refine wl_nil ?_
  refine aq_seq ?_
  refine wc_if rfl (fun hc2 => ?_) (fun hc2 => ?_)
  · have hb2 : (nb : Int) = 0 := by simpa using hc2
    have hnb0 : nb = 0 := by omega
    subst hnb0
    refine wc_seq ?_
    refine wc_region ?_
    refine wl_y (y_assign rfl) ?_
    refine wl_y (y_assign rfl) ?_
    refine wl_nil ?_
    refine aq_seq ?_
    refine wc_ret ?_
    refine aq_thru_ret ?_
    refine aq_returnM0 (.inl rfl) rfl (⟨_, _, rfl, rfl, ⟨_, _, rfl, rfl, rfl⟩⟩) ?_
    intro w' m
    exact ⟨(none, 0), rfl, (m.pick (is := []) rfl List.nodup_nil).nilsl 5 1⟩
  · have hb2 : ¬ ((nb : Int) = 0) := by simpa using hc2
    refine wc_skip ?_
    refine aq_seq ?_
    refine wc_seq ?_
    refine wc_region ?_
    refine wl_y (y_load sc22 rfl (c_blk (i := 0) rfl rfl)) ?_
    refine wl_y (y_len_sl sl22 (m := nb) rfl rfl) ?_
    refine wl_eff (e_makeSlm (f := b8) (z := 0) 0 nb sl22 el5 rfl rfl rfl (by omega) (by omega) (by omega) (by omega) (by omega) (H' := fun b => [.sl (some ⟨b, 0, none⟩) 0 nb 5 1 (([]).map b8), .blk b3 (.cells (#[.slice ab nb cb]) 22 (0, 0)), .blk b2 (.cells (arr b8 nonce) 34 (0, 0)), .blk b1 (.cells (arr b8 key) 33 (0, 0))]) (fun _ => by simp)) rfl trivial rfl ?_
    intro b4
    refine wl_eff (e_alloc (cs := #[.slice none 0 0]) zn22) rfl trivial rfl ?_
    intro b5
    refine wl_eff (e_store1 sz22 rfl rfl (i := 0) rfl rfl (by first | decide | simp) rfl) rfl trivial rfl ?_
    intro _
    refine wl_nil ?_
    refine aq_seq ?_
    refine wc_seq ?_
    refine wc_seq ?_
    refine wc_region ?_
    refine wl_y (y_loadall ag33 rfl (i := 4) rfl (by first | (simp; done) | (simp [*]; done) | (simp; omega) | rfl)) ?_
    refine wl_y (y_move rfl) ?_
    refine wl_y (y_loadall ag34 rfl (i := 3) rfl (by first | (simp; done) | (simp [*]; done) | (simp; omega) | rfl)) ?_
    refine wl_eff (e_call0 cf21 rfl (fun w m => stream_ok w key count nonce)) rfl trivial rfl ?_
    intro ⟨bc, bk, bn⟩
    refine wl_nil ?_
    refine aq_seq ?_
    refine wc_block ?_
    refine wc_range1 (α := UInt32 × (Option Addr × Nat)) (fun _ => .tuple #[]) (fun bd bl rec y => [.blk bc (.cells (#[w32 (y.1)]) 37 (0, 0)), .blk bk (.cells (arr b8 key) 33 (0, 0)), .blk bn (.cells (arr b8 nonce) 34 (0, 0)), .blk bl (rec (if nb < nb then .ready else .done) (if nb < nb then none else some (.exit 0))), .blk bd (.deferred (some [])), .blk b5 (.cells (#[.slice y.2.1 nb y.2.2]) 22 (0, 0)), .sl y.2.1 nb y.2.2 5 1 ((xorTo lb key count nonce nb).map b8), .blk b3 (.cells (#[.slice ab nb cb]) 22 (0, 0)), .blk b2 (.cells (arr b8 nonce) 34 (0, 0)), .blk b1 (.cells (arr b8 key) 33 (0, 0))]) (fun bd bl rec y => [.blk bc (.cells (#[w32 (y.1)]) 37 (0, 0)), .blk bk (.cells (arr b8 key) 33 (0, 0)), .blk bn (.cells (arr b8 nonce) 34 (0, 0)), .blk bl (rec (.exhausted) (some (.exit 0))), .blk bd (.deferred (some [])), .blk b5 (.cells (#[.slice y.2.1 nb y.2.2]) 22 (0, 0)), .sl y.2.1 nb y.2.2 5 1 ((xorTo lb key count nonce nb).map b8), .blk b3 (.cells (#[.slice ab nb cb]) 22 (0, 0)), .blk b2 (.cells (arr b8 nonce) 34 (0, 0)), .blk b1 (.cells (arr b8 key) 33 (0, 0))]) (.exit 0) 3 rfl cf37 ?_ (fun bd bl rec y => by simp) (fun bd bl rec y => ⟨_, rfl, ⟨_, rfl, ⟨_, rfl, rfl⟩⟩⟩) ?_
    · intro bd bl tm fn rec w1 hrec hkept m1
      have m1p := (Mem.pick m1 (is := [2, 3, 4, 0, 1, 5, 6, 7, 8, 9]) ⟨_, _, rfl, rfl, ⟨_, _, rfl, rfl, ⟨_, _, rfl, rfl, ⟨_, _, rfl, rfl, ⟨_, _, rfl, rfl, ⟨_, _, rfl, rfl, ⟨_, _, rfl, rfl, ⟨_, _, rfl, rfl, ⟨_, _, rfl, rfl, ⟨_, _, rfl, rfl, rfl⟩⟩⟩⟩⟩⟩⟩⟩⟩⟩ (by decide))
      have hz0 : 0 < nb := by omega
      refine stream1_ok (X := Option Addr × Nat) w w1 [] bl bc bk bn key count nonce hk hn (fun (j : Nat) (x : Option Addr × Nat) => [.blk bl (rec (if j < nb then .ready else .done) (if j < nb then none else some (.exit 0))), .blk bd (.deferred (some [])), .blk b5 (.cells (#[.slice x.1 j x.2]) 22 (0, 0)), .sl x.1 j x.2 5 1 ((xorTo lb key count nonce j).map b8), .blk b3 (.cells (#[.slice ab nb cb]) 22 (0, 0)), .blk b2 (.cells (arr b8 nonce) 34 (0, 0)), .blk b1 (.cells (arr b8 key) 33 (0, 0))]) ((some ⟨b4, 0, none⟩), nb) nb hz0 ?_ ?_
      · simp only [if_pos hz0]; rw [show count + UInt32.ofNat 0 = count by simp]
        exact m1p
      intro j x w2 cv hj m2
      simp only [if_pos hj] at m2
      subst hrec
      refine yields_of m2 (i := 3) rfl rfl (hkept.set1 rfl _) ?_
      refine wc_region ?_
      refine wl_y (y_assign rfl) ?_
      refine wl_nil ?_
      refine aq_begin (i := 3) rfl rfl ⟨_, rfl, ⟨_, rfl, ⟨_, rfl, rfl⟩⟩⟩ ?_
      refine wc_block ?_
      refine wc_seq ?_
      refine wc_drawM [(0, .q), (1, .q), (2, .q), (3, .q), (4, .q), (5, .q), (6, .q), (7, .q), (8, .e), (9, .b), (10, .l)] (by kernel_rfl) (by kernel_rfl) Mem.closed ?_
      refine wp_q rfl Mem.closed (fun _ h => h) Mem.closed rfl (q_of_yld (y_load sc22 rfl (c_blk (i := 5) rfl rfl))) trivial ?_
      refine wp_q rfl Mem.closed (fun _ h => h) Mem.closed rfl (q_of_yld (y_load sc22 rfl (c_blk (i := 7) rfl rfl))) trivial ?_
      refine wp_q rfl Mem.closed (fun _ h => h) Mem.closed rfl (q_of_yld (y_load sc22 rfl (c_blk (i := 5) rfl rfl))) trivial ?_
      refine wp_q rfl Mem.closed (fun _ h => h) Mem.closed rfl (q_of_yld (y_len_sl sl22 (m := j) rfl rfl)) trivial ?_
      refine wp_q rfl Mem.closed (fun _ h => h) Mem.closed rfl (q_of_yld (y_indexAddr_sl sl22 sz5 rfl rfl (by omega) (by omega) (fun w m => rd_isSome (m.rd0 hb) (by omega) (by decide)) j (by omega))) trivial ?_
      refine wp_q rfl Mem.closed (fun _ h => h) Mem.closed rfl (q_of_yld (y_load sc5 rfl (c_of (fun w m => m.rd0 hb) (map_get (gd 0 (by first | omega | (simp; omega))))))) trivial ?_
      refine wp_q rfl Mem.closed (fun _ h => h) Mem.closed rfl (q_of_yld (y_move rfl)) trivial ?_
      refine wp_q rfl Mem.closed (fun _ h => h) Mem.closed rfl (q_of_yld (y_bin rfl rfl (xor_u8 (lb.getD j 0) (streamF key count nonce j)))) trivial ?_
      refine wp_e (fun _ => _) rfl rfl rfl (e_buildSlice (len := 1) [b8 (((lb.getD j 0) ^^^ (streamF key count nonce j)))] sl22 el5 rfl rfl rfl (by simp [Value.cells]) (by decide) [b8 (((lb.getD j 0) ^^^ (streamF key count nonce j)))] rfl) trivial (fun _ => Mem.closed) (fun _ _ h => h) (fun _ _ h => (Mem.pick h (is := [1, 2, 3, 4, 5, 6, 7, 8, 9, 10]) ⟨_, _, rfl, rfl, ⟨_, _, rfl, rfl, ⟨_, _, rfl, rfl, ⟨_, _, rfl, rfl, ⟨_, _, rfl, rfl, ⟨_, _, rfl, rfl, ⟨_, _, rfl, rfl, ⟨_, _, rfl, rfl, ⟨_, _, rfl, rfl, ⟨_, _, rfl, rfl, rfl⟩⟩⟩⟩⟩⟩⟩⟩⟩⟩ (by decide))) (fun _ => Mem.closed) ?_
      intro b6
      refine wp_b rfl rfl rfl (e_appendm (f := b8) (xs := (xorTo lb key count nonce j)) (news := ([((lb.getD j 0) ^^^ (streamF key count nonce j))] : List UInt8)) sl22 el5 rfl rfl rfl rfl (i := 7) rfl (fun w m => (m.rd_sl (i := 0) rfl : Rd _ _ 1 1 (([((lb.getD j 0) ^^^ (streamF key count nonce j))] : List UInt8).map b8))) (by omega) (by omega) (j + 1) (by first | rfl | omega) (by first | rfl | simp) (fun _ => ⟨_, rfl, ⟨_, rfl, ⟨_, rfl, ⟨_, rfl, ⟨_, rfl, ⟨_, rfl, ⟨_, rfl, rfl⟩⟩⟩⟩⟩⟩⟩)) trivial (fun _ => Mem.closed) ?_
      intro r7
      refine wp_l rfl rfl rfl (e_store1 sz22 rfl rfl (i := 6) rfl rfl (by first | decide | simp) ⟨_, rfl, ⟨_, rfl, ⟨_, rfl, ⟨_, rfl, ⟨_, rfl, ⟨_, rfl, rfl⟩⟩⟩⟩⟩⟩) trivial ?_
      intro _
      refine aq_seq ?_
      refine wc_seq ?_
      refine wc_region ?_
      refine wl_y (y_load sc22 rfl (c_blk (i := 6) rfl rfl)) ?_
      refine wl_y (y_len_sl sl22 (m := (j + 1)) rfl rfl) ?_
      refine wl_y (y_load sc22 rfl (c_blk (i := 8) rfl rfl)) ?_
      refine wl_y (y_len_sl sl22 (m := nb) rfl rfl) ?_
      refine wl_y (y_bin rfl rfl eql_i64) ?_
      refine wl_nil ?_
      refine aq_seq ?_
      refine wc_if rfl (fun hc3 => ?_) (fun hc3 => ?_)
      · have hb3 : ((j + 1 : Nat) : Int) = (nb : Int) := by simpa using hc3
        refine wc_exit ?_
        refine aq_blk_ne (by decide) ?_
        refine aq_round_exit (i := 4) rfl ⟨_, rfl, ⟨_, rfl, ⟨_, rfl, ⟨_, rfl, rfl⟩⟩⟩⟩ ?_
        intro w3 m3
        have hge : ¬ (j + 1 < nb) := by omega
        refine ⟨r7, by simp [hge], ?_⟩
        simp only [if_neg hge]
        exact (Mem.pick m3 (is := [1, 2, 3, 4, 5, 6, 7, 8, 9, 10]) ⟨_, _, rfl, rfl, ⟨_, _, rfl, rfl, ⟨_, _, rfl, rfl, ⟨_, _, rfl, rfl, ⟨_, _, rfl, rfl, ⟨_, _, rfl, rfl, ⟨_, _, rfl, rfl, ⟨_, _, rfl, rfl, ⟨_, _, rfl, rfl, ⟨_, _, rfl, rfl, rfl⟩⟩⟩⟩⟩⟩⟩⟩⟩⟩ (by decide))
      · have hb3 : ¬ (((j + 1 : Nat) : Int) = (nb : Int)) := by simpa using hc3
        refine wc_skip ?_
        refine aq_blk_normal ?_
        refine aq_round_next (i := 4) rfl ⟨_, rfl, ⟨_, rfl, ⟨_, rfl, ⟨_, rfl, rfl⟩⟩⟩⟩ ?_
        intro w3 m3
        have hlt : j + 1 < nb := by omega
        refine ⟨r7, by simp [hlt], ?_⟩
        simp only [if_pos hlt]
        exact (Mem.pick m3 (is := [1, 2, 3, 4, 5, 6, 7, 8, 9, 10]) ⟨_, _, rfl, rfl, ⟨_, _, rfl, rfl, ⟨_, _, rfl, rfl, ⟨_, _, rfl, rfl, ⟨_, _, rfl, rfl, ⟨_, _, rfl, rfl, ⟨_, _, rfl, rfl, ⟨_, _, rfl, rfl, ⟨_, _, rfl, rfl, ⟨_, _, rfl, rfl, rfl⟩⟩⟩⟩⟩⟩⟩⟩⟩⟩ (by decide))
    · intro bd bl rec y
      refine wc_exit ?_
      refine aq_blk_exit ?_
      refine aq_seq ?_
      refine wc_seq ?_
      refine wc_region ?_
      refine wl_y (y_load sc22 rfl (c_blk (i := 5) rfl rfl)) ?_
      refine wl_y (y_assign rfl) ?_
      refine wl_y (y_assign rfl) ?_
      refine wl_nil ?_
      refine aq_seq ?_
      refine wc_ret ?_
      refine aq_returnM1 (.inl rfl) (i := 4) rfl ⟨_, rfl, ⟨_, rfl, ⟨_, rfl, ⟨_, rfl, rfl⟩⟩⟩⟩ rfl (⟨_, _, rfl, rfl, ⟨_, _, rfl, rfl, rfl⟩⟩) ?_
      intro w' m
      exact ⟨y.2, rfl, m.pick (is := [6]) ⟨_, _, rfl, rfl, rfl⟩ (by decide)⟩

end Go.Proofs.Ytnkldldojalklaa
