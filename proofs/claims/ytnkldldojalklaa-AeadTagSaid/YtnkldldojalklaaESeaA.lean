/- Lemmas and contracts for the proof of this seat's statements (SeaA). No condition. -/
import Derived.Test.YtnkldldojalklaaEPar2
import Derived.Test.YtnkldldojalklaaProg
import Derived.KernelRfl
import Derived.Test.YtnkldldojalklaaEChaA
import Derived.Test.YtnkldldojalklaaEPolA
import Derived.Test.YtnkldldojalklaaEAeaA
set_option linter.all false
namespace Go.Proofs.Ytnkldldojalklaa
open Go.Mc
private theorem fd44_0 : fdB Try.prog 44 0 0 33 = true := by kernel_rfl
private theorem sz33 : szB Try.prog 33 32 = true := by kernel_rfl
private theorem ag33 : agB Try.prog 33 32 = true := by kernel_rfl
private theorem fd44_1 : fdB Try.prog 44 1 32 34 = true := by kernel_rfl
private theorem sz34 : szB Try.prog 34 12 = true := by kernel_rfl
private theorem ag34 : agB Try.prog 34 12 = true := by kernel_rfl
private theorem cf11 : cfB Try.prog 11 = true := by kernel_rfl
private theorem zn35 : znB Try.prog 35 (.agg (arr b8 (List.replicate 64 0))) := by unfold znB; kernel_rfl
private theorem sz35 : szB Try.prog 35 64 = true := by kernel_rfl
private theorem ar35 : arB Try.prog 35 64 5 = true := by kernel_rfl
private theorem sz5 : szB Try.prog 5 1 = true := by kernel_rfl
private theorem ar33 : arB Try.prog 33 32 5 = true := by kernel_rfl
private theorem cf34 : cfB Try.prog 34 = true := by kernel_rfl
private theorem sl22 : slB Try.prog 22 5 = true := by kernel_rfl
private theorem sl84 : slB Try.prog 84 3 = true := by kernel_rfl
private theorem el3 : elB Try.prog 3 1 8 (ki (0)) := elB_of (by kernel_rfl) (by kernel_rfl) (by unfold znB; kernel_rfl)
private theorem cf35 : cfB Try.prog 35 = true := by kernel_rfl
private theorem sl74 : slB Try.prog 74 22 = true := by kernel_rfl
private theorem el22 : elB Try.prog 22 1 24 (.slice none 0 0) := elB_of (by kernel_rfl) (by kernel_rfl) (by unfold znB; kernel_rfl)
private theorem cf15 : cfB Try.prog 15 = true := by kernel_rfl
private theorem cf13 : cfB Try.prog 13 = true := by kernel_rfl
private theorem zn40 : znB Try.prog 40 (.agg (arr b8 (List.replicate 16 0))) := by unfold znB; kernel_rfl
private theorem sz40 : szB Try.prog 40 16 = true := by kernel_rfl
private theorem ar40 : arB Try.prog 40 16 5 = true := by kernel_rfl
private theorem cf14 : cfB Try.prog 14 = true := by kernel_rfl
private theorem zn44 : znB Try.prog 44 (.agg #[b8 (0), b8 (0), b8 (0), b8 (0), b8 (0), b8 (0), b8 (0), b8 (0), b8 (0), b8 (0), b8 (0), b8 (0), b8 (0), b8 (0), b8 (0), b8 (0), b8 (0), b8 (0), b8 (0), b8 (0), b8 (0), b8 (0), b8 (0), b8 (0), b8 (0), b8 (0), b8 (0), b8 (0), b8 (0), b8 (0), b8 (0), b8 (0), b8 (0), b8 (0), b8 (0), b8 (0), b8 (0), b8 (0), b8 (0), b8 (0), b8 (0), b8 (0), b8 (0), b8 (0)]) := by unfold znB; kernel_rfl
private theorem sz44 : szB Try.prog 44 44 = true := by kernel_rfl
private theorem cf12 : cfB Try.prog 12 = true := by kernel_rfl
private theorem ag44 : agB Try.prog 44 44 = true := by kernel_rfl
private theorem cf16 : cfB Try.prog 16 = true := by kernel_rfl
private theorem cf17 : cfB Try.prog 17 = true := by kernel_rfl
def stagF (key nonce lb : List UInt8) (nb : Nat) (ls : List UInt8) (ns : Nat) : List UInt8 :=
  tagF ((blockF key 0 nonce).take 32) ((((([] ++ lb) ++ List.replicate ((16 - nb % 16) % 16) 0) ++ ls) ++ List.replicate ((16 - ns % 16) % 16) 0) ++ eightsF [nb, ns] 2) (((((0 + nb) + ((16 - nb % 16) % 16)) + ns) + ((16 - ns % 16) % 16)) + 16)
@[simp] theorem stagF_len (key nonce lb : List UInt8) (nb : Nat) (ls : List UInt8) (ns : Nat) : (stagF key nonce lb nb ls ns).length = 16 := by simp [stagF]
theorem part0 {key nonce : List UInt8} (hk : key.length = 32) : ((key ++ nonce).drop 0).take 32 = key := by
  rw [List.drop_zero, List.take_append_of_le_length (by omega), List.take_of_length_le (by omega)]
theorem part1 {key nonce : List UInt8} (hk : key.length = 32) (hn : nonce.length = 12) : ((key ++ nonce).drop 32).take 12 = nonce := by
  rw [List.drop_append_of_le_length (by omega), List.drop_of_length_le (by omega), List.nil_append, List.take_of_length_le (by omega)]
def sealE (nk nn np nb : Nat) : Nat := if nk = 32 ∧ nn = 12 then (if np ≤ 1048576 ∧ nb ≤ 1048576 then 0 else 3) else 1
def sealN (nk nn np nb : Nat) : Nat := match sealE nk nn np nb with
  | 0 => ((0 + np) + 16)
  | _ => 0
def sealO (nk nn np nb : Nat) (lk ln lp lb : List UInt8) : List UInt8 := match sealE nk nn np nb with
  | 0 => (([] ++ xorTo lp lk 1 ln np) ++ stagF lk ln lb nb (xorTo lp lk 1 ln np) np)
  | _ => []
theorem sealE_1 {nk nn np nb : Nat} (h : ¬ nk = 32 ∨ ¬ nn = 12) : sealE nk nn np nb = 1 := if_neg (by omega)
theorem sealE_0 {nk nn np nb : Nat} (h : nk = 32) (h' : nn = 12) (h1 : np ≤ 1048576) (h2 : nb ≤ 1048576) : sealE nk nn np nb = 0 := by unfold sealE; rw [if_pos ⟨h, h'⟩, if_pos ⟨h1, h2⟩]
theorem sealE_3a {nk nn np nb : Nat} (h : nk = 32) (h' : nn = 12) (h1 : 1048576 < np) : sealE nk nn np nb = 3 := by unfold sealE; rw [if_pos ⟨h, h'⟩, if_neg (by omega)]
theorem sealE_3b {nk nn np nb : Nat} (h : nk = 32) (h' : nn = 12) (h1 : 1048576 < nb) : sealE nk nn np nb = 3 := by unfold sealE; rw [if_pos ⟨h, h'⟩, if_neg (by omega)]
theorem ofall {lk ln : List UInt8} {nk nn : Nat} (h : nk = 32) (h' : nn = 12) : asF lk nk 32 ++ asF ln nn 12 = lk ++ ln := by unfold asF; rw [if_pos h, if_pos h']
theorem ofpart0 {lk ln : List UInt8} {nk nn : Nat} (h : nk = 32) (hl : lk.length = nk) : ((asF lk nk 32 ++ asF ln nn 12).drop 0).take 32 = lk := by
  rw [asF, if_pos h, List.drop_zero, List.take_append_of_le_length (by omega), List.take_of_length_le (by omega)]
theorem ofpart1 {lk ln : List UInt8} {nk nn : Nat} (h : nk = 32) (h' : nn = 12) (hl : lk.length = nk) (hl' : ln.length = nn) : ((asF lk nk 32 ++ asF ln nn 12).drop 32).take 12 = ln := by
  rw [ofall h h']; exact part1 (by omega) (by omega)
def openE (nk nn ns nb : Nat) (lk ln ls lb : List UInt8) : Nat := if nk = 32 ∧ nn = 12 then (if ns < 16 then 4 else if ns - 16 ≤ 1048576 ∧ nb ≤ 1048576 then (if stagF lk ln lb nb (ls.take (ns - 16)) (ns - 16) = (ls.drop (ns - 16)).take (ns - (ns - 16)) then 0 else 11) else 3) else 1
def openN (nk nn ns nb : Nat) (lk ln ls lb : List UInt8) : Nat := match openE nk nn ns nb lk ln ls lb with
  | 0 => ns - 16
  | _ => 0
def openO (nk nn ns nb : Nat) (lk ln ls lb : List UInt8) : List UInt8 := match openE nk nn ns nb lk ln ls lb with
  | 0 => xorTo (ls.take (ns - 16)) lk 1 ln (ns - 16)
  | _ => []
section
variable {nk nn ns nb : Nat} {lk ln ls lb : List UInt8}
theorem openE_1 (h : ¬ nk = 32 ∨ ¬ nn = 12) : openE nk nn ns nb lk ln ls lb = 1 := if_neg (by omega)
theorem openE_4 (h : nk = 32) (h' : nn = 12) (h1 : ns < 16) : openE nk nn ns nb lk ln ls lb = 4 := by unfold openE; rw [if_pos ⟨h, h'⟩, if_pos h1]
theorem openE_3 (h : nk = 32) (h' : nn = 12) (h1 : 16 ≤ ns) (h2 : 1048576 < ns - 16 ∨ 1048576 < nb) : openE nk nn ns nb lk ln ls lb = 3 := by unfold openE; rw [if_pos ⟨h, h'⟩, if_neg (by omega), if_neg (by omega)]
theorem openE_11 (h : nk = 32) (h' : nn = 12) (h1 : 16 ≤ ns) (h2 : ns - 16 ≤ 1048576) (h3 : nb ≤ 1048576) (h4 : ¬ (stagF lk ln lb nb (ls.take (ns - 16)) (ns - 16) = (ls.drop (ns - 16)).take (ns - (ns - 16)))) : openE nk nn ns nb lk ln ls lb = 11 := by unfold openE; rw [if_pos ⟨h, h'⟩, if_neg (by omega), if_pos ⟨h2, h3⟩, if_neg h4]
theorem openE_0 (h : nk = 32) (h' : nn = 12) (h1 : 16 ≤ ns) (h2 : ns - 16 ≤ 1048576) (h3 : nb ≤ 1048576) (h4 : stagF lk ln lb nb (ls.take (ns - 16)) (ns - 16) = (ls.drop (ns - 16)).take (ns - (ns - 16))) : openE nk nn ns nb lk ln ls lb = 0 := by unfold openE; rw [if_pos ⟨h, h'⟩, if_neg (by omega), if_pos ⟨h2, h3⟩, if_pos h4]
end

theorem stag_ok (w : World) (key nonce : List UInt8) (as_ : Option Addr) (ns cs : Nat) (ls : List UInt8) (ab : Option Addr) (nb cb : Nat) (lb : List UInt8) (hk : key.length = 32) (hn : nonce.length = 12) (hs : Rd w as_ ns 1 (ls.map b8)) (hb : Rd w ab nb 1 (lb.map b8)) (hns : ns ≤ 1048576) (hnb : nb ≤ 1048576) :
    Calls Try.prog 16 #[.agg (arr b8 (key ++ nonce)), .slice as_ ns cs, .slice ab nb cb] w (Ret (fun b : Nat => .slice (some ⟨b, 0, none⟩) 16 16) (fun b => Mem w [] [.blk b (.cells (arr b8 (stagF key nonce lb nb ls ns)) 40 (0, 0))])) := by
  have hls := hs.len
  have hlb := hb.len
  have hkl : (key ++ nonce).length = 44 := by simp [hk, hn]
  have hbl := blockF_len key 0 nonce
  refine calls_of Try.func16 rfl rfl (L := [(0, .agg (arr b8 (key ++ nonce))), (1, .slice as_ ns cs), (2, .slice ab nb cb)]) ⟨rfl, rfl, rfl, trivial⟩ (m := 37) (Nat.le_of_ble_eq_true rfl) (M := Mem w [] []) (Mem.refl w) ?_
  refine wc_seq ?_
  refine wc_region ?_
  refine wl_eff (e_box (cs := arr b8 (key ++ nonce)) rfl) rfl trivial rfl ?_
  intro b1
  refine wl_y (y_assign rfl) ?_
  refine wl_nil ?_
  refine aq_seq ?_
  refine wc_seq ?_
  refine wc_region ?_
  refine wl_y (y_fieldAddr fd44_0 sz33 rfl) ?_
  refine wl_y (y_loads (cs := ((((key ++ nonce)).drop 0).take 32).map b8) ag33 rfl (by first | (simp [hk, hn]; done) | (simp; omega) | rfl) (c_blks (i := 0) rfl (arr_part (key ++ nonce) 0 32))) ?_
  refine wl_re (t := 11) (v' := .agg (arr b8 key)) rfl (congrArg (fun l => Value.agg (arr b8 l)) (part0 hk)) ?_
  refine wl_y (y_fieldAddr fd44_1 sz34 rfl) ?_
  refine wl_y (y_loads (cs := ((((key ++ nonce)).drop 32).take 12).map b8) ag34 rfl (by first | (simp [hk, hn]; done) | (simp; omega) | rfl) (c_blks (i := 0) rfl (arr_part (key ++ nonce) 32 12))) ?_
  refine wl_re (t := 13) (v' := .agg (arr b8 nonce)) rfl (congrArg (fun l => Value.agg (arr b8 l)) (part1 hk hn)) ?_
  refine wl_eff (e_call0 cf11 rfl (fun w m => block_ok w key 0 nonce (by first | omega | (simp [hk, hn]; done) | (simp; omega)) (by first | omega | (simp [hk, hn]; done) | (simp; omega)))) rfl trivial rfl ?_
  intro _
  refine wl_eff (e_alloc (cs := arr b8 (List.replicate 64 0)) zn35) rfl trivial rfl ?_
  intro b2
  refine wl_eff (e_storeall sz35 rfl rfl (i := 0) rfl (by first | (simp [hk, hn]; done) | (simp; omega) | rfl) (by first | (simp [hk, hn]; done) | (simp; omega) | rfl) (arr_one _) rfl) rfl trivial rfl ?_
  intro _
  refine wl_nil ?_
  refine aq_seq ?_
  refine wc_seq ?_
  refine wc_conv (L' := [(1, .slice as_ ns cs), (2, .slice ab nb cb), (6, .slice none 0 0), (7, .pointer (some ⟨b2, 0, none⟩))]) ⟨rfl, rfl, rfl, rfl, trivial⟩ (fun _ h => h) ?_
  refine wc_parL [0, 1, 2, 3, 4, 5, 6, 7, 8, 9, 10, 11, 12, 13, 14, 15, 16, 17, 18, 19, 20, 21] [20] [[], [0], [0, 1], [], [], [4], [], [], [4, 5, 7], [], [9], [], [11], [9, 10, 11, 12], [4, 5, 7, 8, 9, 10, 11, 12, 13], [3, 4, 5, 6, 7, 8, 9, 10, 11, 12, 13, 14], [3, 4, 5, 6, 7, 8, 9, 10, 11, 12, 13, 14, 15], [0, 1, 2, 3, 4, 5, 6, 7, 8, 9, 10, 11, 12, 13, 14, 15, 16], [0, 1, 2, 3, 4, 5, 6, 7, 8, 9, 10, 11, 12, 13, 14, 15, 16, 17], [0, 1, 2, 3, 4, 5, 6, 7, 8, 9, 10, 11, 12, 13, 14, 15, 16, 17, 18], [0, 1, 2, 3, 4, 5, 6, 7, 8, 9, 10, 11, 12, 13, 14, 15, 16, 17, 18], []] [(22, .e), (23, .q)] [fun x1 => .slice (some ⟨b2, 0, none⟩) 32 64, fun x1 => .pointer (some (adr (some ⟨b2, 0, none⟩) (0))), fun x1 => .agg (arr b8 ((blockF key 0 nonce).take 32)), fun x1 => .slice ab nb cb, fun x1 => .slice ab nb cb, fun x1 => .slice (some ⟨(x1 5).1, 0, none⟩) ((16 - nb % 16) % 16) ((16 - nb % 16) % 16), fun x1 => .slice as_ ns cs, fun x1 => .slice as_ ns cs, fun x1 => .slice (some ⟨(x1 8).1, 0, none⟩) ((16 - ns % 16) % 16) ((16 - ns % 16) % 16), fun x1 => .slice ab nb cb, fun x1 => ki ((nb : Int)), fun x1 => .slice as_ ns cs, fun x1 => ki ((ns : Int)), fun x1 => .slice (some ⟨(x1 13).1, 0, none⟩) 2 2, fun x1 => .slice (x1 14).2.1 16 ((x1 14).2.2), fun x1 => .slice (some ⟨(x1 15).1, 0, none⟩) 5 5, fun x1 => .slice (x1 16).2.1 (((((0 + nb) + ((16 - nb % 16) % 16)) + ns) + ((16 - ns % 16) % 16)) + 16) ((x1 16).2.2), fun x1 => .tuple #[.agg (arr b8 (tagF ((blockF key 0 nonce).take 32) (((((([] : List UInt8) ++ lb) ++ (List.replicate ((16 - nb % 16) % 16) 0)) ++ ls) ++ (List.replicate ((16 - ns % 16) % 16) 0)) ++ (eightsF ([nb, ns] : List Nat) 2)) (((((0 + nb) + ((16 - nb % 16) % 16)) + ns) + ((16 - ns % 16) % 16)) + 16))), ki (0)], fun x1 => .tuple #[.agg (arr b8 (tagF ((blockF key 0 nonce).take 32) (((((([] : List UInt8) ++ lb) ++ (List.replicate ((16 - nb % 16) % 16) 0)) ++ ls) ++ (List.replicate ((16 - ns % 16) % 16) 0)) ++ (eightsF ([nb, ns] : List Nat) 2)) (((((0 + nb) + ((16 - nb % 16) % 16)) + ns) + ((16 - ns % 16) % 16)) + 16))), ki (0)], fun x1 => .agg (arr b8 (tagF ((blockF key 0 nonce).take 32) (((((([] : List UInt8) ++ lb) ++ (List.replicate ((16 - nb % 16) % 16) 0)) ++ ls) ++ (List.replicate ((16 - ns % 16) % 16) 0)) ++ (eightsF ([nb, ns] : List Nat) 2)) (((((0 + nb) + ((16 - nb % 16) % 16)) + ns) + ((16 - ns % 16) % 16)) + 16))), fun x1 => ki (0), fun x1 => .pointer (some ⟨(x1 21).1, 0, none⟩)] [fun x1 => [], fun x1 => [], fun x1 => [], fun x1 => [], fun x1 => [], fun x1 => [.sl (some ⟨(x1 5).1, 0, none⟩) ((16 - nb % 16) % 16) ((16 - nb % 16) % 16) 5 1 ((List.replicate ((16 - nb % 16) % 16) 0).map b8)], fun x1 => [], fun x1 => [], fun x1 => [.sl (some ⟨(x1 8).1, 0, none⟩) ((16 - ns % 16) % 16) ((16 - ns % 16) % 16) 5 1 ((List.replicate ((16 - ns % 16) % 16) 0).map b8)], fun x1 => [], fun x1 => [], fun x1 => [], fun x1 => [], fun x1 => [.sl (some ⟨(x1 13).1, 0, none⟩) 2 2 3 1 (([nb, ns] : List Nat).map kn)], fun x1 => [.sl ((x1 14).2.1) 16 ((x1 14).2.2) 5 1 ((eightsF ([nb, ns] : List Nat) 2).map b8)], fun x1 => [.sl (some ⟨(x1 15).1, 0, none⟩) 5 5 22 1 (([(ab, nb, cb, lb), ((some ⟨(x1 5).1, 0, none⟩), ((16 - nb % 16) % 16), ((16 - nb % 16) % 16), (List.replicate ((16 - nb % 16) % 16) 0)), (as_, ns, cs, ls), ((some ⟨(x1 8).1, 0, none⟩), ((16 - ns % 16) % 16), ((16 - ns % 16) % 16), (List.replicate ((16 - ns % 16) % 16) 0)), ((x1 14).2.1, 16, (x1 14).2.2, (eightsF ([nb, ns] : List Nat) 2))] : List Pc).map pv)], fun x1 => [.sl ((x1 16).2.1) (((((0 + nb) + ((16 - nb % 16) % 16)) + ns) + ((16 - ns % 16) % 16)) + 16) ((x1 16).2.2) 5 1 ((((((([] : List UInt8) ++ lb) ++ (List.replicate ((16 - nb % 16) % 16) 0)) ++ ls) ++ (List.replicate ((16 - ns % 16) % 16) 0)) ++ (eightsF ([nb, ns] : List Nat) 2)).map b8)], fun x1 => [], fun x1 => [], fun x1 => [], fun x1 => [], fun x1 => [.blk ((x1 21).1) (.cells (arr b8 (List.replicate 16 0)) 40 (0, 0))]] (by kernel_rfl) [1, 2, 6, 7] rfl (by kernel_rfl) ?_ ?_ ?_ ?_
  · refine ⟨⟨_, rfl, fun x1 => ?_⟩, ⟨_, rfl, fun x1 => ?_⟩, ⟨_, rfl, fun x1 => ?_⟩, ⟨_, rfl, fun x1 => ?_⟩, ⟨_, rfl, fun x1 => ?_⟩, ⟨_, rfl, fun x1 => ?_⟩, ⟨_, rfl, fun x1 => ?_⟩, ⟨_, rfl, fun x1 => ?_⟩, ⟨_, rfl, fun x1 => ?_⟩, ⟨_, rfl, fun x1 => ?_⟩, ⟨_, rfl, fun x1 => ?_⟩, ⟨_, rfl, fun x1 => ?_⟩, ⟨_, rfl, fun x1 => ?_⟩, ⟨_, rfl, fun x1 => ?_⟩, ⟨_, rfl, fun x1 => ?_⟩, ⟨_, rfl, fun x1 => ?_⟩, ⟨_, rfl, fun x1 => ?_⟩, ⟨_, rfl, fun x1 => ?_⟩, ⟨_, rfl, fun x1 => ?_⟩, ⟨_, rfl, fun x1 => ?_⟩, ⟨_, rfl, fun x1 => ?_⟩, ⟨_, rfl, fun x1 => ?_⟩, trivial⟩
    · change PEff _ _ _ [(1, .slice as_ ns cs), (2, .slice ab nb cb), (6, .slice none 0 0), (7, .pointer (some ⟨b2, 0, none⟩))] (Mem w [] [.blk b2 (.cells (arr b8 (blockF key 0 nonce)) 35 (0, 0)), .blk b1 (.cells (arr b8 (key ++ nonce)) 44 (0, 0))]) (fun g => .slice (some ⟨b2, 0, none⟩) 32 64) (fun g => [])
      exact pe_y (y_slice_ar0 ar35 sz5 rfl 32 ⟨_, _, rfl, by first | rfl | omega⟩ rfl (by omega)) (fun _ => rfl) (fun _ => rfl)
    · change PEff _ _ _ [(16, .slice (some ⟨b2, 0, none⟩) 32 64), (1, .slice as_ ns cs), (2, .slice ab nb cb), (6, .slice none 0 0), (7, .pointer (some ⟨b2, 0, none⟩))] (Mem w [] [.blk b2 (.cells (arr b8 (blockF key 0 nonce)) 35 (0, 0)), .blk b1 (.cells (arr b8 (key ++ nonce)) 44 (0, 0))]) (fun g => .pointer (some (adr (some ⟨b2, 0, none⟩) (0)))) (fun g => [])
      exact pe_y (y_s2a ar33 rfl (by omega) (fun _ _ => rfl)) (fun _ => rfl) (fun _ => rfl)
    · change PEff _ _ _ [(16, .slice (some ⟨b2, 0, none⟩) 32 64), (17, .pointer (some (adr (some ⟨b2, 0, none⟩) (0)))), (1, .slice as_ ns cs), (2, .slice ab nb cb), (6, .slice none 0 0), (7, .pointer (some ⟨b2, 0, none⟩))] (Mem w [] [.blk b2 (.cells (arr b8 (blockF key 0 nonce)) 35 (0, 0)), .blk b1 (.cells (arr b8 (key ++ nonce)) 44 (0, 0))]) (fun g => .agg (arr b8 ((blockF key 0 nonce).take 32))) (fun g => [])
      exact pe_y (y_re (rfl) (y_loads (cs := (((((blockF key 0 nonce) : List UInt8).drop 0).take 32).map b8)) ag33 rfl (by first | (simp [hk, hn]; done) | (simp; omega) | rfl) (fun w m => c_rds0 ((m.rd_arrl (f := b8) (xs := (blockF key 0 nonce)) (i := 0) rfl 0 32 (by first | omega | (simp [hk, hn]; done) | (simp; omega)))) 32 (by first | (simp; done) | (simp [List.take_take]; done))))) (fun _ => rfl) (fun _ => rfl)
    · change PEff _ _ _ [(1, .slice as_ ns cs), (2, .slice ab nb cb), (6, .slice none 0 0), (7, .pointer (some ⟨b2, 0, none⟩))] (Mem w [] [.blk b2 (.cells (arr b8 (blockF key 0 nonce)) 35 (0, 0)), .blk b1 (.cells (arr b8 (key ++ nonce)) 44 (0, 0))]) (fun g => .slice ab nb cb) (fun g => [])
      exact pe_y (y_move rfl) (fun _ => rfl) (fun _ => rfl)
    · change PEff _ _ _ [(1, .slice as_ ns cs), (2, .slice ab nb cb), (6, .slice none 0 0), (7, .pointer (some ⟨b2, 0, none⟩))] (Mem w [] [.blk b2 (.cells (arr b8 (blockF key 0 nonce)) 35 (0, 0)), .blk b1 (.cells (arr b8 (key ++ nonce)) 44 (0, 0))]) (fun g => .slice ab nb cb) (fun g => [])
      exact pe_y (y_move rfl) (fun _ => rfl) (fun _ => rfl)
    · change PEff _ _ _ [(20, .slice ab nb cb), (1, .slice as_ ns cs), (2, .slice ab nb cb), (6, .slice none 0 0), (7, .pointer (some ⟨b2, 0, none⟩))] (Mem w [] [.blk b2 (.cells (arr b8 (blockF key 0 nonce)) 35 (0, 0)), .blk b1 (.cells (arr b8 (key ++ nonce)) 44 (0, 0))]) (fun g => .slice (some ⟨g.1, 0, none⟩) ((16 - nb % 16) % 16) ((16 - nb % 16) % 16)) (fun g => [.sl (some ⟨g.1, 0, none⟩) ((16 - nb % 16) % 16) ((16 - nb % 16) % 16) 5 1 ((List.replicate ((16 - nb % 16) % 16) 0).map b8)])
      exact pe_call (fun b : Nat => (b, none, 0)) cf34 rfl (fun w m => filled_ok w ab nb cb (by omega)) (fun _ => rfl) (fun _ => rfl)
    · change PEff _ _ _ [(1, .slice as_ ns cs), (2, .slice ab nb cb), (6, .slice none 0 0), (7, .pointer (some ⟨b2, 0, none⟩))] (Mem w [] [.blk b2 (.cells (arr b8 (blockF key 0 nonce)) 35 (0, 0)), .blk b1 (.cells (arr b8 (key ++ nonce)) 44 (0, 0))]) (fun g => .slice as_ ns cs) (fun g => [])
      exact pe_y (y_move rfl) (fun _ => rfl) (fun _ => rfl)
    · change PEff _ _ _ [(1, .slice as_ ns cs), (2, .slice ab nb cb), (6, .slice none 0 0), (7, .pointer (some ⟨b2, 0, none⟩))] (Mem w [] [.blk b2 (.cells (arr b8 (blockF key 0 nonce)) 35 (0, 0)), .blk b1 (.cells (arr b8 (key ++ nonce)) 44 (0, 0))]) (fun g => .slice as_ ns cs) (fun g => [])
      exact pe_y (y_move rfl) (fun _ => rfl) (fun _ => rfl)
    · change PEff _ _ _ [(20, .slice ab nb cb), (21, .slice (some ⟨(x1 5).1, 0, none⟩) ((16 - nb % 16) % 16) ((16 - nb % 16) % 16)), (23, .slice as_ ns cs), (1, .slice as_ ns cs), (2, .slice ab nb cb), (6, .slice none 0 0), (7, .pointer (some ⟨b2, 0, none⟩))] (Mem w [] [.sl (some ⟨(x1 5).1, 0, none⟩) ((16 - nb % 16) % 16) ((16 - nb % 16) % 16) 5 1 ((List.replicate ((16 - nb % 16) % 16) 0).map b8), .blk b2 (.cells (arr b8 (blockF key 0 nonce)) 35 (0, 0)), .blk b1 (.cells (arr b8 (key ++ nonce)) 44 (0, 0))]) (fun g => .slice (some ⟨g.1, 0, none⟩) ((16 - ns % 16) % 16) ((16 - ns % 16) % 16)) (fun g => [.sl (some ⟨g.1, 0, none⟩) ((16 - ns % 16) % 16) ((16 - ns % 16) % 16) 5 1 ((List.replicate ((16 - ns % 16) % 16) 0).map b8)])
      exact pe_call (fun b : Nat => (b, none, 0)) cf34 rfl (fun w m => filled_ok w as_ ns cs (by omega)) (fun _ => rfl) (fun _ => rfl)
    · change PEff _ _ _ [(1, .slice as_ ns cs), (2, .slice ab nb cb), (6, .slice none 0 0), (7, .pointer (some ⟨b2, 0, none⟩))] (Mem w [] [.blk b2 (.cells (arr b8 (blockF key 0 nonce)) 35 (0, 0)), .blk b1 (.cells (arr b8 (key ++ nonce)) 44 (0, 0))]) (fun g => .slice ab nb cb) (fun g => [])
      exact pe_y (y_move rfl) (fun _ => rfl) (fun _ => rfl)
    · change PEff _ _ _ [(25, .slice ab nb cb), (1, .slice as_ ns cs), (2, .slice ab nb cb), (6, .slice none 0 0), (7, .pointer (some ⟨b2, 0, none⟩))] (Mem w [] [.blk b2 (.cells (arr b8 (blockF key 0 nonce)) 35 (0, 0)), .blk b1 (.cells (arr b8 (key ++ nonce)) 44 (0, 0))]) (fun g => ki ((nb : Int))) (fun g => [])
      exact pe_y (y_len_sl sl22 (m := nb) rfl rfl) (fun _ => rfl) (fun _ => rfl)
    · change PEff _ _ _ [(1, .slice as_ ns cs), (2, .slice ab nb cb), (6, .slice none 0 0), (7, .pointer (some ⟨b2, 0, none⟩))] (Mem w [] [.blk b2 (.cells (arr b8 (blockF key 0 nonce)) 35 (0, 0)), .blk b1 (.cells (arr b8 (key ++ nonce)) 44 (0, 0))]) (fun g => .slice as_ ns cs) (fun g => [])
      exact pe_y (y_move rfl) (fun _ => rfl) (fun _ => rfl)
    · change PEff _ _ _ [(27, .slice as_ ns cs), (1, .slice as_ ns cs), (2, .slice ab nb cb), (6, .slice none 0 0), (7, .pointer (some ⟨b2, 0, none⟩))] (Mem w [] [.blk b2 (.cells (arr b8 (blockF key 0 nonce)) 35 (0, 0)), .blk b1 (.cells (arr b8 (key ++ nonce)) 44 (0, 0))]) (fun g => ki ((ns : Int))) (fun g => [])
      exact pe_y (y_len_sl sl22 (m := ns) rfl rfl) (fun _ => rfl) (fun _ => rfl)
    · change PEff _ _ _ [(25, .slice ab nb cb), (26, ki ((nb : Int))), (27, .slice as_ ns cs), (28, ki ((ns : Int))), (1, .slice as_ ns cs), (2, .slice ab nb cb), (6, .slice none 0 0), (7, .pointer (some ⟨b2, 0, none⟩))] (Mem w [] [.blk b2 (.cells (arr b8 (blockF key 0 nonce)) 35 (0, 0)), .blk b1 (.cells (arr b8 (key ++ nonce)) 44 (0, 0))]) (fun g => .slice (some ⟨g.1, 0, none⟩) 2 2) (fun g => [.sl (some ⟨g.1, 0, none⟩) 2 2 3 1 (([nb, ns] : List Nat).map kn)])
      exact pe_eff (fun b : Nat => (b, none, 0)) (fun w1 => e_buildSlice (len := 2) [ki ((nb : Int)), ki ((ns : Int))] sl84 el3 rfl rfl rfl (by simp [Value.cells]) (by decide) [ki ((nb : Int)), ki ((ns : Int))] rfl) (fun _ => rfl) (fun _ => rfl)
    · change PEff _ _ _ [(20, .slice ab nb cb), (21, .slice (some ⟨(x1 5).1, 0, none⟩) ((16 - nb % 16) % 16) ((16 - nb % 16) % 16)), (23, .slice as_ ns cs), (24, .slice (some ⟨(x1 8).1, 0, none⟩) ((16 - ns % 16) % 16) ((16 - ns % 16) % 16)), (25, .slice ab nb cb), (26, ki ((nb : Int))), (27, .slice as_ ns cs), (28, ki ((ns : Int))), (29, .slice (some ⟨(x1 13).1, 0, none⟩) 2 2), (1, .slice as_ ns cs), (2, .slice ab nb cb), (6, .slice none 0 0), (7, .pointer (some ⟨b2, 0, none⟩))] (Mem w [] [.sl (some ⟨(x1 5).1, 0, none⟩) ((16 - nb % 16) % 16) ((16 - nb % 16) % 16) 5 1 ((List.replicate ((16 - nb % 16) % 16) 0).map b8), .sl (some ⟨(x1 8).1, 0, none⟩) ((16 - ns % 16) % 16) ((16 - ns % 16) % 16) 5 1 ((List.replicate ((16 - ns % 16) % 16) 0).map b8), .sl (some ⟨(x1 13).1, 0, none⟩) 2 2 3 1 (([nb, ns] : List Nat).map kn), .blk b2 (.cells (arr b8 (blockF key 0 nonce)) 35 (0, 0)), .blk b1 (.cells (arr b8 (key ++ nonce)) 44 (0, 0))]) (fun g => .slice g.2.1 16 (g.2.2)) (fun g => [.sl (g.2.1) 16 (g.2.2) 5 1 ((eightsF ([nb, ns] : List Nat) 2).map b8)])
      exact pe_call (fun r : Option Addr × Nat => (0, r)) cf35 rfl (fun w m => eights_ok w (some ⟨(x1 13).1, 0, none⟩) 2 2 ([nb, ns] : List Nat) ((m.rd_sl (i := 2) rfl : Rd _ _ 2 1 (([nb, ns] : List Nat).map kn))) (by simp; omega) (by omega)) (fun _ => rfl) (fun _ => rfl)
    · change PEff _ _ _ [(19, .slice ab nb cb), (20, .slice ab nb cb), (21, .slice (some ⟨(x1 5).1, 0, none⟩) ((16 - nb % 16) % 16) ((16 - nb % 16) % 16)), (22, .slice as_ ns cs), (23, .slice as_ ns cs), (24, .slice (some ⟨(x1 8).1, 0, none⟩) ((16 - ns % 16) % 16) ((16 - ns % 16) % 16)), (25, .slice ab nb cb), (26, ki ((nb : Int))), (27, .slice as_ ns cs), (28, ki ((ns : Int))), (29, .slice (some ⟨(x1 13).1, 0, none⟩) 2 2), (30, .slice (x1 14).2.1 16 ((x1 14).2.2)), (1, .slice as_ ns cs), (2, .slice ab nb cb), (6, .slice none 0 0), (7, .pointer (some ⟨b2, 0, none⟩))] (Mem w [] [.sl (some ⟨(x1 5).1, 0, none⟩) ((16 - nb % 16) % 16) ((16 - nb % 16) % 16) 5 1 ((List.replicate ((16 - nb % 16) % 16) 0).map b8), .sl (some ⟨(x1 8).1, 0, none⟩) ((16 - ns % 16) % 16) ((16 - ns % 16) % 16) 5 1 ((List.replicate ((16 - ns % 16) % 16) 0).map b8), .sl (some ⟨(x1 13).1, 0, none⟩) 2 2 3 1 (([nb, ns] : List Nat).map kn), .sl ((x1 14).2.1) 16 ((x1 14).2.2) 5 1 ((eightsF ([nb, ns] : List Nat) 2).map b8), .blk b2 (.cells (arr b8 (blockF key 0 nonce)) 35 (0, 0)), .blk b1 (.cells (arr b8 (key ++ nonce)) 44 (0, 0))]) (fun g => .slice (some ⟨g.1, 0, none⟩) 5 5) (fun g => [.sl (some ⟨g.1, 0, none⟩) 5 5 22 1 (([(ab, nb, cb, lb), ((some ⟨(x1 5).1, 0, none⟩), ((16 - nb % 16) % 16), ((16 - nb % 16) % 16), (List.replicate ((16 - nb % 16) % 16) 0)), (as_, ns, cs, ls), ((some ⟨(x1 8).1, 0, none⟩), ((16 - ns % 16) % 16), ((16 - ns % 16) % 16), (List.replicate ((16 - ns % 16) % 16) 0)), ((x1 14).2.1, 16, (x1 14).2.2, (eightsF ([nb, ns] : List Nat) 2))] : List Pc).map pv)])
      exact pe_eff (fun b : Nat => (b, none, 0)) (fun w1 => e_buildSlice (len := 5) [.slice ab nb cb, .slice (some ⟨(x1 5).1, 0, none⟩) ((16 - nb % 16) % 16) ((16 - nb % 16) % 16), .slice as_ ns cs, .slice (some ⟨(x1 8).1, 0, none⟩) ((16 - ns % 16) % 16) ((16 - ns % 16) % 16), .slice (x1 14).2.1 16 ((x1 14).2.2)] sl74 el22 rfl rfl rfl (by simp [Value.cells]) (by decide) [.slice ab nb cb, .slice (some ⟨(x1 5).1, 0, none⟩) ((16 - nb % 16) % 16) ((16 - nb % 16) % 16), .slice as_ ns cs, .slice (some ⟨(x1 8).1, 0, none⟩) ((16 - ns % 16) % 16) ((16 - ns % 16) % 16), .slice (x1 14).2.1 16 ((x1 14).2.2)] rfl) (fun _ => rfl) (fun _ => rfl)
    · change PEff _ _ _ [(19, .slice ab nb cb), (20, .slice ab nb cb), (21, .slice (some ⟨(x1 5).1, 0, none⟩) ((16 - nb % 16) % 16) ((16 - nb % 16) % 16)), (22, .slice as_ ns cs), (23, .slice as_ ns cs), (24, .slice (some ⟨(x1 8).1, 0, none⟩) ((16 - ns % 16) % 16) ((16 - ns % 16) % 16)), (25, .slice ab nb cb), (26, ki ((nb : Int))), (27, .slice as_ ns cs), (28, ki ((ns : Int))), (29, .slice (some ⟨(x1 13).1, 0, none⟩) 2 2), (30, .slice (x1 14).2.1 16 ((x1 14).2.2)), (31, .slice (some ⟨(x1 15).1, 0, none⟩) 5 5), (1, .slice as_ ns cs), (2, .slice ab nb cb), (6, .slice none 0 0), (7, .pointer (some ⟨b2, 0, none⟩))] (Mem w [] [.sl (some ⟨(x1 5).1, 0, none⟩) ((16 - nb % 16) % 16) ((16 - nb % 16) % 16) 5 1 ((List.replicate ((16 - nb % 16) % 16) 0).map b8), .sl (some ⟨(x1 8).1, 0, none⟩) ((16 - ns % 16) % 16) ((16 - ns % 16) % 16) 5 1 ((List.replicate ((16 - ns % 16) % 16) 0).map b8), .sl (some ⟨(x1 13).1, 0, none⟩) 2 2 3 1 (([nb, ns] : List Nat).map kn), .sl ((x1 14).2.1) 16 ((x1 14).2.2) 5 1 ((eightsF ([nb, ns] : List Nat) 2).map b8), .sl (some ⟨(x1 15).1, 0, none⟩) 5 5 22 1 (([(ab, nb, cb, lb), ((some ⟨(x1 5).1, 0, none⟩), ((16 - nb % 16) % 16), ((16 - nb % 16) % 16), (List.replicate ((16 - nb % 16) % 16) 0)), (as_, ns, cs, ls), ((some ⟨(x1 8).1, 0, none⟩), ((16 - ns % 16) % 16), ((16 - ns % 16) % 16), (List.replicate ((16 - ns % 16) % 16) 0)), ((x1 14).2.1, 16, (x1 14).2.2, (eightsF ([nb, ns] : List Nat) 2))] : List Pc).map pv), .blk b2 (.cells (arr b8 (blockF key 0 nonce)) 35 (0, 0)), .blk b1 (.cells (arr b8 (key ++ nonce)) 44 (0, 0))]) (fun g => .slice g.2.1 (((((0 + nb) + ((16 - nb % 16) % 16)) + ns) + ((16 - ns % 16) % 16)) + 16) (g.2.2)) (fun g => [.sl (g.2.1) (((((0 + nb) + ((16 - nb % 16) % 16)) + ns) + ((16 - ns % 16) % 16)) + 16) (g.2.2) 5 1 ((((((([] : List UInt8) ++ lb) ++ (List.replicate ((16 - nb % 16) % 16) 0)) ++ ls) ++ (List.replicate ((16 - ns % 16) % 16) 0)) ++ (eightsF ([nb, ns] : List Nat) 2)).map b8)])
      exact pe_call (fun r : Option Addr × Nat => (0, r)) cf15 rfl (fun w m => concat_ok w (some ⟨(x1 15).1, 0, none⟩) 5 5 ([(ab, nb, cb, lb), ((some ⟨(x1 5).1, 0, none⟩), ((16 - nb % 16) % 16), ((16 - nb % 16) % 16), (List.replicate ((16 - nb % 16) % 16) 0)), (as_, ns, cs, ls), ((some ⟨(x1 8).1, 0, none⟩), ((16 - ns % 16) % 16), ((16 - ns % 16) % 16), (List.replicate ((16 - ns % 16) % 16) 0)), ((x1 14).2.1, 16, (x1 14).2.2, (eightsF ([nb, ns] : List Nat) 2))] : List Pc) ((m.rd_sl (i := 4) rfl : Rd _ _ 5 1 (([(ab, nb, cb, lb), ((some ⟨(x1 5).1, 0, none⟩), ((16 - nb % 16) % 16), ((16 - nb % 16) % 16), (List.replicate ((16 - nb % 16) % 16) 0)), (as_, ns, cs, ls), ((some ⟨(x1 8).1, 0, none⟩), ((16 - ns % 16) % 16), ((16 - ns % 16) % 16), (List.replicate ((16 - ns % 16) % 16) 0)), ((x1 14).2.1, 16, (x1 14).2.2, (eightsF ([nb, ns] : List Nat) 2))] : List Pc).map pv))) (List.forall_mem_cons.2 ⟨m.rd0 hb, (List.forall_mem_cons.2 ⟨(m.rd_sl (i := 0) rfl : Rd _ _ ((16 - nb % 16) % 16) 1 ((List.replicate ((16 - nb % 16) % 16) 0).map b8)), (List.forall_mem_cons.2 ⟨m.rd0 hs, (List.forall_mem_cons.2 ⟨(m.rd_sl (i := 1) rfl : Rd _ _ ((16 - ns % 16) % 16) 1 ((List.replicate ((16 - ns % 16) % 16) 0).map b8)), (List.forall_mem_cons.2 ⟨(m.rd_sl (i := 3) rfl : Rd _ _ 16 1 ((eightsF ([nb, ns] : List Nat) 2).map b8)), (fun _ h => nomatch h)⟩)⟩)⟩)⟩)⟩) (by omega) (by show (((((0 + nb) + ((16 - nb % 16) % 16)) + ns) + ((16 - ns % 16) % 16)) + 16) ≤ _; omega)) (fun _ => rfl) (fun _ => rfl)
    · change PEff _ _ _ [(16, .slice (some ⟨b2, 0, none⟩) 32 64), (17, .pointer (some (adr (some ⟨b2, 0, none⟩) (0)))), (18, .agg (arr b8 ((blockF key 0 nonce).take 32))), (19, .slice ab nb cb), (20, .slice ab nb cb), (21, .slice (some ⟨(x1 5).1, 0, none⟩) ((16 - nb % 16) % 16) ((16 - nb % 16) % 16)), (22, .slice as_ ns cs), (23, .slice as_ ns cs), (24, .slice (some ⟨(x1 8).1, 0, none⟩) ((16 - ns % 16) % 16) ((16 - ns % 16) % 16)), (25, .slice ab nb cb), (26, ki ((nb : Int))), (27, .slice as_ ns cs), (28, ki ((ns : Int))), (29, .slice (some ⟨(x1 13).1, 0, none⟩) 2 2), (30, .slice (x1 14).2.1 16 ((x1 14).2.2)), (31, .slice (some ⟨(x1 15).1, 0, none⟩) 5 5), (32, .slice (x1 16).2.1 (((((0 + nb) + ((16 - nb % 16) % 16)) + ns) + ((16 - ns % 16) % 16)) + 16) ((x1 16).2.2)), (1, .slice as_ ns cs), (2, .slice ab nb cb), (6, .slice none 0 0), (7, .pointer (some ⟨b2, 0, none⟩))] (Mem w [] [.sl (some ⟨(x1 5).1, 0, none⟩) ((16 - nb % 16) % 16) ((16 - nb % 16) % 16) 5 1 ((List.replicate ((16 - nb % 16) % 16) 0).map b8), .sl (some ⟨(x1 8).1, 0, none⟩) ((16 - ns % 16) % 16) ((16 - ns % 16) % 16) 5 1 ((List.replicate ((16 - ns % 16) % 16) 0).map b8), .sl (some ⟨(x1 13).1, 0, none⟩) 2 2 3 1 (([nb, ns] : List Nat).map kn), .sl ((x1 14).2.1) 16 ((x1 14).2.2) 5 1 ((eightsF ([nb, ns] : List Nat) 2).map b8), .sl (some ⟨(x1 15).1, 0, none⟩) 5 5 22 1 (([(ab, nb, cb, lb), ((some ⟨(x1 5).1, 0, none⟩), ((16 - nb % 16) % 16), ((16 - nb % 16) % 16), (List.replicate ((16 - nb % 16) % 16) 0)), (as_, ns, cs, ls), ((some ⟨(x1 8).1, 0, none⟩), ((16 - ns % 16) % 16), ((16 - ns % 16) % 16), (List.replicate ((16 - ns % 16) % 16) 0)), ((x1 14).2.1, 16, (x1 14).2.2, (eightsF ([nb, ns] : List Nat) 2))] : List Pc).map pv), .sl ((x1 16).2.1) (((((0 + nb) + ((16 - nb % 16) % 16)) + ns) + ((16 - ns % 16) % 16)) + 16) ((x1 16).2.2) 5 1 ((((((([] : List UInt8) ++ lb) ++ (List.replicate ((16 - nb % 16) % 16) 0)) ++ ls) ++ (List.replicate ((16 - ns % 16) % 16) 0)) ++ (eightsF ([nb, ns] : List Nat) 2)).map b8), .blk b2 (.cells (arr b8 (blockF key 0 nonce)) 35 (0, 0)), .blk b1 (.cells (arr b8 (key ++ nonce)) 44 (0, 0))]) (fun g => .tuple #[.agg (arr b8 (tagF ((blockF key 0 nonce).take 32) (((((([] : List UInt8) ++ lb) ++ (List.replicate ((16 - nb % 16) % 16) 0)) ++ ls) ++ (List.replicate ((16 - ns % 16) % 16) 0)) ++ (eightsF ([nb, ns] : List Nat) 2)) (((((0 + nb) + ((16 - nb % 16) % 16)) + ns) + ((16 - ns % 16) % 16)) + 16))), ki (0)]) (fun g => [])
      exact pe_call (fun _ : Unit => (0, none, 0)) cf13 rfl (fun w m => tag_ok w ((blockF key 0 nonce).take 32) (x1 16).2.1 (((((0 + nb) + ((16 - nb % 16) % 16)) + ns) + ((16 - ns % 16) % 16)) + 16) ((x1 16).2.2) (((((([] : List UInt8) ++ lb) ++ (List.replicate ((16 - nb % 16) % 16) 0)) ++ ls) ++ (List.replicate ((16 - ns % 16) % 16) 0)) ++ (eightsF ([nb, ns] : List Nat) 2)) (by first | omega | (simp [hk, hn]; done) | (simp; omega)) ((m.rd_sl (i := 5) rfl : Rd _ _ (((((0 + nb) + ((16 - nb % 16) % 16)) + ns) + ((16 - ns % 16) % 16)) + 16) 1 ((((((([] : List UInt8) ++ lb) ++ (List.replicate ((16 - nb % 16) % 16) 0)) ++ ls) ++ (List.replicate ((16 - ns % 16) % 16) 0)) ++ (eightsF ([nb, ns] : List Nat) 2)).map b8))) (m.sl_le (i := 5) rfl) (by omega)) (fun _ => rfl) (fun _ => rfl)
    · change PEff _ _ _ [(16, .slice (some ⟨b2, 0, none⟩) 32 64), (17, .pointer (some (adr (some ⟨b2, 0, none⟩) (0)))), (18, .agg (arr b8 ((blockF key 0 nonce).take 32))), (19, .slice ab nb cb), (20, .slice ab nb cb), (21, .slice (some ⟨(x1 5).1, 0, none⟩) ((16 - nb % 16) % 16) ((16 - nb % 16) % 16)), (22, .slice as_ ns cs), (23, .slice as_ ns cs), (24, .slice (some ⟨(x1 8).1, 0, none⟩) ((16 - ns % 16) % 16) ((16 - ns % 16) % 16)), (25, .slice ab nb cb), (26, ki ((nb : Int))), (27, .slice as_ ns cs), (28, ki ((ns : Int))), (29, .slice (some ⟨(x1 13).1, 0, none⟩) 2 2), (30, .slice (x1 14).2.1 16 ((x1 14).2.2)), (31, .slice (some ⟨(x1 15).1, 0, none⟩) 5 5), (32, .slice (x1 16).2.1 (((((0 + nb) + ((16 - nb % 16) % 16)) + ns) + ((16 - ns % 16) % 16)) + 16) ((x1 16).2.2)), (33, .tuple #[.agg (arr b8 (tagF ((blockF key 0 nonce).take 32) (((((([] : List UInt8) ++ lb) ++ (List.replicate ((16 - nb % 16) % 16) 0)) ++ ls) ++ (List.replicate ((16 - ns % 16) % 16) 0)) ++ (eightsF ([nb, ns] : List Nat) 2)) (((((0 + nb) + ((16 - nb % 16) % 16)) + ns) + ((16 - ns % 16) % 16)) + 16))), ki (0)]), (1, .slice as_ ns cs), (2, .slice ab nb cb), (6, .slice none 0 0), (7, .pointer (some ⟨b2, 0, none⟩))] (Mem w [] [.sl (some ⟨(x1 5).1, 0, none⟩) ((16 - nb % 16) % 16) ((16 - nb % 16) % 16) 5 1 ((List.replicate ((16 - nb % 16) % 16) 0).map b8), .sl (some ⟨(x1 8).1, 0, none⟩) ((16 - ns % 16) % 16) ((16 - ns % 16) % 16) 5 1 ((List.replicate ((16 - ns % 16) % 16) 0).map b8), .sl (some ⟨(x1 13).1, 0, none⟩) 2 2 3 1 (([nb, ns] : List Nat).map kn), .sl ((x1 14).2.1) 16 ((x1 14).2.2) 5 1 ((eightsF ([nb, ns] : List Nat) 2).map b8), .sl (some ⟨(x1 15).1, 0, none⟩) 5 5 22 1 (([(ab, nb, cb, lb), ((some ⟨(x1 5).1, 0, none⟩), ((16 - nb % 16) % 16), ((16 - nb % 16) % 16), (List.replicate ((16 - nb % 16) % 16) 0)), (as_, ns, cs, ls), ((some ⟨(x1 8).1, 0, none⟩), ((16 - ns % 16) % 16), ((16 - ns % 16) % 16), (List.replicate ((16 - ns % 16) % 16) 0)), ((x1 14).2.1, 16, (x1 14).2.2, (eightsF ([nb, ns] : List Nat) 2))] : List Pc).map pv), .sl ((x1 16).2.1) (((((0 + nb) + ((16 - nb % 16) % 16)) + ns) + ((16 - ns % 16) % 16)) + 16) ((x1 16).2.2) 5 1 ((((((([] : List UInt8) ++ lb) ++ (List.replicate ((16 - nb % 16) % 16) 0)) ++ ls) ++ (List.replicate ((16 - ns % 16) % 16) 0)) ++ (eightsF ([nb, ns] : List Nat) 2)).map b8), .blk b2 (.cells (arr b8 (blockF key 0 nonce)) 35 (0, 0)), .blk b1 (.cells (arr b8 (key ++ nonce)) 44 (0, 0))]) (fun g => .tuple #[.agg (arr b8 (tagF ((blockF key 0 nonce).take 32) (((((([] : List UInt8) ++ lb) ++ (List.replicate ((16 - nb % 16) % 16) 0)) ++ ls) ++ (List.replicate ((16 - ns % 16) % 16) 0)) ++ (eightsF ([nb, ns] : List Nat) 2)) (((((0 + nb) + ((16 - nb % 16) % 16)) + ns) + ((16 - ns % 16) % 16)) + 16))), ki (0)]) (fun g => [])
      exact pe_y (y_move rfl) (fun _ => rfl) (fun _ => rfl)
    · change PEff _ _ _ [(16, .slice (some ⟨b2, 0, none⟩) 32 64), (17, .pointer (some (adr (some ⟨b2, 0, none⟩) (0)))), (18, .agg (arr b8 ((blockF key 0 nonce).take 32))), (19, .slice ab nb cb), (20, .slice ab nb cb), (21, .slice (some ⟨(x1 5).1, 0, none⟩) ((16 - nb % 16) % 16) ((16 - nb % 16) % 16)), (22, .slice as_ ns cs), (23, .slice as_ ns cs), (24, .slice (some ⟨(x1 8).1, 0, none⟩) ((16 - ns % 16) % 16) ((16 - ns % 16) % 16)), (25, .slice ab nb cb), (26, ki ((nb : Int))), (27, .slice as_ ns cs), (28, ki ((ns : Int))), (29, .slice (some ⟨(x1 13).1, 0, none⟩) 2 2), (30, .slice (x1 14).2.1 16 ((x1 14).2.2)), (31, .slice (some ⟨(x1 15).1, 0, none⟩) 5 5), (32, .slice (x1 16).2.1 (((((0 + nb) + ((16 - nb % 16) % 16)) + ns) + ((16 - ns % 16) % 16)) + 16) ((x1 16).2.2)), (33, .tuple #[.agg (arr b8 (tagF ((blockF key 0 nonce).take 32) (((((([] : List UInt8) ++ lb) ++ (List.replicate ((16 - nb % 16) % 16) 0)) ++ ls) ++ (List.replicate ((16 - ns % 16) % 16) 0)) ++ (eightsF ([nb, ns] : List Nat) 2)) (((((0 + nb) + ((16 - nb % 16) % 16)) + ns) + ((16 - ns % 16) % 16)) + 16))), ki (0)]), (15, .tuple #[.agg (arr b8 (tagF ((blockF key 0 nonce).take 32) (((((([] : List UInt8) ++ lb) ++ (List.replicate ((16 - nb % 16) % 16) 0)) ++ ls) ++ (List.replicate ((16 - ns % 16) % 16) 0)) ++ (eightsF ([nb, ns] : List Nat) 2)) (((((0 + nb) + ((16 - nb % 16) % 16)) + ns) + ((16 - ns % 16) % 16)) + 16))), ki (0)]), (1, .slice as_ ns cs), (2, .slice ab nb cb), (6, .slice none 0 0), (7, .pointer (some ⟨b2, 0, none⟩))] (Mem w [] [.sl (some ⟨(x1 5).1, 0, none⟩) ((16 - nb % 16) % 16) ((16 - nb % 16) % 16) 5 1 ((List.replicate ((16 - nb % 16) % 16) 0).map b8), .sl (some ⟨(x1 8).1, 0, none⟩) ((16 - ns % 16) % 16) ((16 - ns % 16) % 16) 5 1 ((List.replicate ((16 - ns % 16) % 16) 0).map b8), .sl (some ⟨(x1 13).1, 0, none⟩) 2 2 3 1 (([nb, ns] : List Nat).map kn), .sl ((x1 14).2.1) 16 ((x1 14).2.2) 5 1 ((eightsF ([nb, ns] : List Nat) 2).map b8), .sl (some ⟨(x1 15).1, 0, none⟩) 5 5 22 1 (([(ab, nb, cb, lb), ((some ⟨(x1 5).1, 0, none⟩), ((16 - nb % 16) % 16), ((16 - nb % 16) % 16), (List.replicate ((16 - nb % 16) % 16) 0)), (as_, ns, cs, ls), ((some ⟨(x1 8).1, 0, none⟩), ((16 - ns % 16) % 16), ((16 - ns % 16) % 16), (List.replicate ((16 - ns % 16) % 16) 0)), ((x1 14).2.1, 16, (x1 14).2.2, (eightsF ([nb, ns] : List Nat) 2))] : List Pc).map pv), .sl ((x1 16).2.1) (((((0 + nb) + ((16 - nb % 16) % 16)) + ns) + ((16 - ns % 16) % 16)) + 16) ((x1 16).2.2) 5 1 ((((((([] : List UInt8) ++ lb) ++ (List.replicate ((16 - nb % 16) % 16) 0)) ++ ls) ++ (List.replicate ((16 - ns % 16) % 16) 0)) ++ (eightsF ([nb, ns] : List Nat) 2)).map b8), .blk b2 (.cells (arr b8 (blockF key 0 nonce)) 35 (0, 0)), .blk b1 (.cells (arr b8 (key ++ nonce)) 44 (0, 0))]) (fun g => .agg (arr b8 (tagF ((blockF key 0 nonce).take 32) (((((([] : List UInt8) ++ lb) ++ (List.replicate ((16 - nb % 16) % 16) 0)) ++ ls) ++ (List.replicate ((16 - ns % 16) % 16) 0)) ++ (eightsF ([nb, ns] : List Nat) 2)) (((((0 + nb) + ((16 - nb % 16) % 16)) + ns) + ((16 - ns % 16) % 16)) + 16)))) (fun g => [])
      exact pe_y (y_extract rfl rfl) (fun _ => rfl) (fun _ => rfl)
    · change PEff _ _ _ [(16, .slice (some ⟨b2, 0, none⟩) 32 64), (17, .pointer (some (adr (some ⟨b2, 0, none⟩) (0)))), (18, .agg (arr b8 ((blockF key 0 nonce).take 32))), (19, .slice ab nb cb), (20, .slice ab nb cb), (21, .slice (some ⟨(x1 5).1, 0, none⟩) ((16 - nb % 16) % 16) ((16 - nb % 16) % 16)), (22, .slice as_ ns cs), (23, .slice as_ ns cs), (24, .slice (some ⟨(x1 8).1, 0, none⟩) ((16 - ns % 16) % 16) ((16 - ns % 16) % 16)), (25, .slice ab nb cb), (26, ki ((nb : Int))), (27, .slice as_ ns cs), (28, ki ((ns : Int))), (29, .slice (some ⟨(x1 13).1, 0, none⟩) 2 2), (30, .slice (x1 14).2.1 16 ((x1 14).2.2)), (31, .slice (some ⟨(x1 15).1, 0, none⟩) 5 5), (32, .slice (x1 16).2.1 (((((0 + nb) + ((16 - nb % 16) % 16)) + ns) + ((16 - ns % 16) % 16)) + 16) ((x1 16).2.2)), (33, .tuple #[.agg (arr b8 (tagF ((blockF key 0 nonce).take 32) (((((([] : List UInt8) ++ lb) ++ (List.replicate ((16 - nb % 16) % 16) 0)) ++ ls) ++ (List.replicate ((16 - ns % 16) % 16) 0)) ++ (eightsF ([nb, ns] : List Nat) 2)) (((((0 + nb) + ((16 - nb % 16) % 16)) + ns) + ((16 - ns % 16) % 16)) + 16))), ki (0)]), (15, .tuple #[.agg (arr b8 (tagF ((blockF key 0 nonce).take 32) (((((([] : List UInt8) ++ lb) ++ (List.replicate ((16 - nb % 16) % 16) 0)) ++ ls) ++ (List.replicate ((16 - ns % 16) % 16) 0)) ++ (eightsF ([nb, ns] : List Nat) 2)) (((((0 + nb) + ((16 - nb % 16) % 16)) + ns) + ((16 - ns % 16) % 16)) + 16))), ki (0)]), (1, .slice as_ ns cs), (2, .slice ab nb cb), (6, .slice none 0 0), (7, .pointer (some ⟨b2, 0, none⟩))] (Mem w [] [.sl (some ⟨(x1 5).1, 0, none⟩) ((16 - nb % 16) % 16) ((16 - nb % 16) % 16) 5 1 ((List.replicate ((16 - nb % 16) % 16) 0).map b8), .sl (some ⟨(x1 8).1, 0, none⟩) ((16 - ns % 16) % 16) ((16 - ns % 16) % 16) 5 1 ((List.replicate ((16 - ns % 16) % 16) 0).map b8), .sl (some ⟨(x1 13).1, 0, none⟩) 2 2 3 1 (([nb, ns] : List Nat).map kn), .sl ((x1 14).2.1) 16 ((x1 14).2.2) 5 1 ((eightsF ([nb, ns] : List Nat) 2).map b8), .sl (some ⟨(x1 15).1, 0, none⟩) 5 5 22 1 (([(ab, nb, cb, lb), ((some ⟨(x1 5).1, 0, none⟩), ((16 - nb % 16) % 16), ((16 - nb % 16) % 16), (List.replicate ((16 - nb % 16) % 16) 0)), (as_, ns, cs, ls), ((some ⟨(x1 8).1, 0, none⟩), ((16 - ns % 16) % 16), ((16 - ns % 16) % 16), (List.replicate ((16 - ns % 16) % 16) 0)), ((x1 14).2.1, 16, (x1 14).2.2, (eightsF ([nb, ns] : List Nat) 2))] : List Pc).map pv), .sl ((x1 16).2.1) (((((0 + nb) + ((16 - nb % 16) % 16)) + ns) + ((16 - ns % 16) % 16)) + 16) ((x1 16).2.2) 5 1 ((((((([] : List UInt8) ++ lb) ++ (List.replicate ((16 - nb % 16) % 16) 0)) ++ ls) ++ (List.replicate ((16 - ns % 16) % 16) 0)) ++ (eightsF ([nb, ns] : List Nat) 2)).map b8), .blk b2 (.cells (arr b8 (blockF key 0 nonce)) 35 (0, 0)), .blk b1 (.cells (arr b8 (key ++ nonce)) 44 (0, 0))]) (fun g => ki (0)) (fun g => [])
      exact pe_y (y_extract rfl rfl) (fun _ => rfl) (fun _ => rfl)
    · change PEff _ _ _ [(1, .slice as_ ns cs), (2, .slice ab nb cb), (6, .slice none 0 0), (7, .pointer (some ⟨b2, 0, none⟩))] (Mem w [] [.blk b2 (.cells (arr b8 (blockF key 0 nonce)) 35 (0, 0)), .blk b1 (.cells (arr b8 (key ++ nonce)) 44 (0, 0))]) (fun g => .pointer (some ⟨g.1, 0, none⟩)) (fun g => [.blk (g.1) (.cells (arr b8 (List.replicate 16 0)) 40 (0, 0))])
      exact pe_eff (fun b : Nat => (b, none, 0)) (fun w1 => e_alloc (cs := arr b8 (List.replicate 16 0)) zn40) (fun _ => rfl) (fun _ => rfl)
  · refine ⟨⟨_, rfl, fun x1 => ⟨?_, rfl⟩⟩, trivial⟩
    · change Yld _ _ [(16, .slice (some ⟨b2, 0, none⟩) 32 64), (17, .pointer (some (adr (some ⟨b2, 0, none⟩) (0)))), (18, .agg (arr b8 ((blockF key 0 nonce).take 32))), (19, .slice ab nb cb), (20, .slice ab nb cb), (21, .slice (some ⟨(x1 5).1, 0, none⟩) ((16 - nb % 16) % 16) ((16 - nb % 16) % 16)), (22, .slice as_ ns cs), (23, .slice as_ ns cs), (24, .slice (some ⟨(x1 8).1, 0, none⟩) ((16 - ns % 16) % 16) ((16 - ns % 16) % 16)), (25, .slice ab nb cb), (26, ki ((nb : Int))), (27, .slice as_ ns cs), (28, ki ((ns : Int))), (29, .slice (some ⟨(x1 13).1, 0, none⟩) 2 2), (30, .slice (x1 14).2.1 16 ((x1 14).2.2)), (31, .slice (some ⟨(x1 15).1, 0, none⟩) 5 5), (32, .slice (x1 16).2.1 (((((0 + nb) + ((16 - nb % 16) % 16)) + ns) + ((16 - ns % 16) % 16)) + 16) ((x1 16).2.2)), (33, .tuple #[.agg (arr b8 (tagF ((blockF key 0 nonce).take 32) (((((([] : List UInt8) ++ lb) ++ (List.replicate ((16 - nb % 16) % 16) 0)) ++ ls) ++ (List.replicate ((16 - ns % 16) % 16) 0)) ++ (eightsF ([nb, ns] : List Nat) 2)) (((((0 + nb) + ((16 - nb % 16) % 16)) + ns) + ((16 - ns % 16) % 16)) + 16))), ki (0)]), (15, .tuple #[.agg (arr b8 (tagF ((blockF key 0 nonce).take 32) (((((([] : List UInt8) ++ lb) ++ (List.replicate ((16 - nb % 16) % 16) 0)) ++ ls) ++ (List.replicate ((16 - ns % 16) % 16) 0)) ++ (eightsF ([nb, ns] : List Nat) 2)) (((((0 + nb) + ((16 - nb % 16) % 16)) + ns) + ((16 - ns % 16) % 16)) + 16))), ki (0)]), (1, .slice as_ ns cs), (2, .slice ab nb cb), (6, .slice none 0 0), (7, .pointer (some ⟨b2, 0, none⟩))] _ (ki (0))
      exact (y_extract rfl rfl)
  · refine ⟨fun x1 x1' h => ?_, fun x1 x1' h => ?_, fun x1 x1' h => ?_, fun x1 x1' h => ?_, fun x1 x1' h => ?_, fun x1 x1' h => ?_, fun x1 x1' h => ?_, fun x1 x1' h => ?_, fun x1 x1' h => ?_, fun x1 x1' h => ?_, fun x1 x1' h => ?_, fun x1 x1' h => ?_, fun x1 x1' h => ?_, fun x1 x1' h => ?_, fun x1 x1' h => ?_, fun x1 x1' h => ?_, fun x1 x1' h => ?_, fun x1 x1' h => ?_, fun x1 x1' h => ?_, fun x1 x1' h => ?_, fun x1 x1' h => ?_, fun x1 x1' h => ?_, trivial⟩
    · exact ⟨by show (.slice (some ⟨b2, 0, none⟩) 32 64 : Value) = .slice (some ⟨b2, 0, none⟩) 32 64; first | rfl | simp only [], by show ([] : List Ch) = []; first | rfl | simp only []⟩
    · exact ⟨by show (.pointer (some (adr (some ⟨b2, 0, none⟩) (0))) : Value) = .pointer (some (adr (some ⟨b2, 0, none⟩) (0))); first | rfl | simp only [], by show ([] : List Ch) = []; first | rfl | simp only []⟩
    · exact ⟨by show (.agg (arr b8 ((blockF key 0 nonce).take 32)) : Value) = .agg (arr b8 ((blockF key 0 nonce).take 32)); first | rfl | simp only [], by show ([] : List Ch) = []; first | rfl | simp only []⟩
    · exact ⟨by show (.slice ab nb cb : Value) = .slice ab nb cb; first | rfl | simp only [], by show ([] : List Ch) = []; first | rfl | simp only []⟩
    · exact ⟨by show (.slice ab nb cb : Value) = .slice ab nb cb; first | rfl | simp only [], by show ([] : List Ch) = []; first | rfl | simp only []⟩
    · have e5 := h 5 (by decide)
      exact ⟨by show (.slice (some ⟨(x1 5).1, 0, none⟩) ((16 - nb % 16) % 16) ((16 - nb % 16) % 16) : Value) = .slice (some ⟨(x1' 5).1, 0, none⟩) ((16 - nb % 16) % 16) ((16 - nb % 16) % 16); first | rfl | simp only [e5], by show ([.sl (some ⟨(x1 5).1, 0, none⟩) ((16 - nb % 16) % 16) ((16 - nb % 16) % 16) 5 1 ((List.replicate ((16 - nb % 16) % 16) 0).map b8)] : List Ch) = [.sl (some ⟨(x1' 5).1, 0, none⟩) ((16 - nb % 16) % 16) ((16 - nb % 16) % 16) 5 1 ((List.replicate ((16 - nb % 16) % 16) 0).map b8)]; first | rfl | simp only [e5]⟩
    · exact ⟨by show (.slice as_ ns cs : Value) = .slice as_ ns cs; first | rfl | simp only [], by show ([] : List Ch) = []; first | rfl | simp only []⟩
    · exact ⟨by show (.slice as_ ns cs : Value) = .slice as_ ns cs; first | rfl | simp only [], by show ([] : List Ch) = []; first | rfl | simp only []⟩
    · have e8 := h 8 (by decide)
      exact ⟨by show (.slice (some ⟨(x1 8).1, 0, none⟩) ((16 - ns % 16) % 16) ((16 - ns % 16) % 16) : Value) = .slice (some ⟨(x1' 8).1, 0, none⟩) ((16 - ns % 16) % 16) ((16 - ns % 16) % 16); first | rfl | simp only [e8], by show ([.sl (some ⟨(x1 8).1, 0, none⟩) ((16 - ns % 16) % 16) ((16 - ns % 16) % 16) 5 1 ((List.replicate ((16 - ns % 16) % 16) 0).map b8)] : List Ch) = [.sl (some ⟨(x1' 8).1, 0, none⟩) ((16 - ns % 16) % 16) ((16 - ns % 16) % 16) 5 1 ((List.replicate ((16 - ns % 16) % 16) 0).map b8)]; first | rfl | simp only [e8]⟩
    · exact ⟨by show (.slice ab nb cb : Value) = .slice ab nb cb; first | rfl | simp only [], by show ([] : List Ch) = []; first | rfl | simp only []⟩
    · exact ⟨by show (ki ((nb : Int)) : Value) = ki ((nb : Int)); first | rfl | simp only [], by show ([] : List Ch) = []; first | rfl | simp only []⟩
    · exact ⟨by show (.slice as_ ns cs : Value) = .slice as_ ns cs; first | rfl | simp only [], by show ([] : List Ch) = []; first | rfl | simp only []⟩
    · exact ⟨by show (ki ((ns : Int)) : Value) = ki ((ns : Int)); first | rfl | simp only [], by show ([] : List Ch) = []; first | rfl | simp only []⟩
    · have e13 := h 13 (by decide)
      exact ⟨by show (.slice (some ⟨(x1 13).1, 0, none⟩) 2 2 : Value) = .slice (some ⟨(x1' 13).1, 0, none⟩) 2 2; first | rfl | simp only [e13], by show ([.sl (some ⟨(x1 13).1, 0, none⟩) 2 2 3 1 (([nb, ns] : List Nat).map kn)] : List Ch) = [.sl (some ⟨(x1' 13).1, 0, none⟩) 2 2 3 1 (([nb, ns] : List Nat).map kn)]; first | rfl | simp only [e13]⟩
    · have e14 := h 14 (by decide)
      exact ⟨by show (.slice (x1 14).2.1 16 ((x1 14).2.2) : Value) = .slice (x1' 14).2.1 16 ((x1' 14).2.2); first | rfl | simp only [e14], by show ([.sl ((x1 14).2.1) 16 ((x1 14).2.2) 5 1 ((eightsF ([nb, ns] : List Nat) 2).map b8)] : List Ch) = [.sl ((x1' 14).2.1) 16 ((x1' 14).2.2) 5 1 ((eightsF ([nb, ns] : List Nat) 2).map b8)]; first | rfl | simp only [e14]⟩
    · have e5 := h 5 (by decide)
      have e8 := h 8 (by decide)
      have e14 := h 14 (by decide)
      have e15 := h 15 (by decide)
      exact ⟨by show (.slice (some ⟨(x1 15).1, 0, none⟩) 5 5 : Value) = .slice (some ⟨(x1' 15).1, 0, none⟩) 5 5; first | rfl | simp only [e5, e8, e14, e15], by show ([.sl (some ⟨(x1 15).1, 0, none⟩) 5 5 22 1 (([(ab, nb, cb, lb), ((some ⟨(x1 5).1, 0, none⟩), ((16 - nb % 16) % 16), ((16 - nb % 16) % 16), (List.replicate ((16 - nb % 16) % 16) 0)), (as_, ns, cs, ls), ((some ⟨(x1 8).1, 0, none⟩), ((16 - ns % 16) % 16), ((16 - ns % 16) % 16), (List.replicate ((16 - ns % 16) % 16) 0)), ((x1 14).2.1, 16, (x1 14).2.2, (eightsF ([nb, ns] : List Nat) 2))] : List Pc).map pv)] : List Ch) = [.sl (some ⟨(x1' 15).1, 0, none⟩) 5 5 22 1 (([(ab, nb, cb, lb), ((some ⟨(x1' 5).1, 0, none⟩), ((16 - nb % 16) % 16), ((16 - nb % 16) % 16), (List.replicate ((16 - nb % 16) % 16) 0)), (as_, ns, cs, ls), ((some ⟨(x1' 8).1, 0, none⟩), ((16 - ns % 16) % 16), ((16 - ns % 16) % 16), (List.replicate ((16 - ns % 16) % 16) 0)), ((x1' 14).2.1, 16, (x1' 14).2.2, (eightsF ([nb, ns] : List Nat) 2))] : List Pc).map pv)]; first | rfl | simp only [e5, e8, e14, e15]⟩
    · have e16 := h 16 (by decide)
      exact ⟨by show (.slice (x1 16).2.1 (((((0 + nb) + ((16 - nb % 16) % 16)) + ns) + ((16 - ns % 16) % 16)) + 16) ((x1 16).2.2) : Value) = .slice (x1' 16).2.1 (((((0 + nb) + ((16 - nb % 16) % 16)) + ns) + ((16 - ns % 16) % 16)) + 16) ((x1' 16).2.2); first | rfl | simp only [e16], by show ([.sl ((x1 16).2.1) (((((0 + nb) + ((16 - nb % 16) % 16)) + ns) + ((16 - ns % 16) % 16)) + 16) ((x1 16).2.2) 5 1 ((((((([] : List UInt8) ++ lb) ++ (List.replicate ((16 - nb % 16) % 16) 0)) ++ ls) ++ (List.replicate ((16 - ns % 16) % 16) 0)) ++ (eightsF ([nb, ns] : List Nat) 2)).map b8)] : List Ch) = [.sl ((x1' 16).2.1) (((((0 + nb) + ((16 - nb % 16) % 16)) + ns) + ((16 - ns % 16) % 16)) + 16) ((x1' 16).2.2) 5 1 ((((((([] : List UInt8) ++ lb) ++ (List.replicate ((16 - nb % 16) % 16) 0)) ++ ls) ++ (List.replicate ((16 - ns % 16) % 16) 0)) ++ (eightsF ([nb, ns] : List Nat) 2)).map b8)]; first | rfl | simp only [e16]⟩
    · exact ⟨by show (.tuple #[.agg (arr b8 (tagF ((blockF key 0 nonce).take 32) (((((([] : List UInt8) ++ lb) ++ (List.replicate ((16 - nb % 16) % 16) 0)) ++ ls) ++ (List.replicate ((16 - ns % 16) % 16) 0)) ++ (eightsF ([nb, ns] : List Nat) 2)) (((((0 + nb) + ((16 - nb % 16) % 16)) + ns) + ((16 - ns % 16) % 16)) + 16))), ki (0)] : Value) = .tuple #[.agg (arr b8 (tagF ((blockF key 0 nonce).take 32) (((((([] : List UInt8) ++ lb) ++ (List.replicate ((16 - nb % 16) % 16) 0)) ++ ls) ++ (List.replicate ((16 - ns % 16) % 16) 0)) ++ (eightsF ([nb, ns] : List Nat) 2)) (((((0 + nb) + ((16 - nb % 16) % 16)) + ns) + ((16 - ns % 16) % 16)) + 16))), ki (0)]; first | rfl | simp only [], by show ([] : List Ch) = []; first | rfl | simp only []⟩
    · exact ⟨by show (.tuple #[.agg (arr b8 (tagF ((blockF key 0 nonce).take 32) (((((([] : List UInt8) ++ lb) ++ (List.replicate ((16 - nb % 16) % 16) 0)) ++ ls) ++ (List.replicate ((16 - ns % 16) % 16) 0)) ++ (eightsF ([nb, ns] : List Nat) 2)) (((((0 + nb) + ((16 - nb % 16) % 16)) + ns) + ((16 - ns % 16) % 16)) + 16))), ki (0)] : Value) = .tuple #[.agg (arr b8 (tagF ((blockF key 0 nonce).take 32) (((((([] : List UInt8) ++ lb) ++ (List.replicate ((16 - nb % 16) % 16) 0)) ++ ls) ++ (List.replicate ((16 - ns % 16) % 16) 0)) ++ (eightsF ([nb, ns] : List Nat) 2)) (((((0 + nb) + ((16 - nb % 16) % 16)) + ns) + ((16 - ns % 16) % 16)) + 16))), ki (0)]; first | rfl | simp only [], by show ([] : List Ch) = []; first | rfl | simp only []⟩
    · exact ⟨by show (.agg (arr b8 (tagF ((blockF key 0 nonce).take 32) (((((([] : List UInt8) ++ lb) ++ (List.replicate ((16 - nb % 16) % 16) 0)) ++ ls) ++ (List.replicate ((16 - ns % 16) % 16) 0)) ++ (eightsF ([nb, ns] : List Nat) 2)) (((((0 + nb) + ((16 - nb % 16) % 16)) + ns) + ((16 - ns % 16) % 16)) + 16))) : Value) = .agg (arr b8 (tagF ((blockF key 0 nonce).take 32) (((((([] : List UInt8) ++ lb) ++ (List.replicate ((16 - nb % 16) % 16) 0)) ++ ls) ++ (List.replicate ((16 - ns % 16) % 16) 0)) ++ (eightsF ([nb, ns] : List Nat) 2)) (((((0 + nb) + ((16 - nb % 16) % 16)) + ns) + ((16 - ns % 16) % 16)) + 16))); first | rfl | simp only [], by show ([] : List Ch) = []; first | rfl | simp only []⟩
    · exact ⟨by show (ki (0) : Value) = ki (0); first | rfl | simp only [], by show ([] : List Ch) = []; first | rfl | simp only []⟩
    · have e21 := h 21 (by decide)
      exact ⟨by show (.pointer (some ⟨(x1 21).1, 0, none⟩) : Value) = .pointer (some ⟨(x1' 21).1, 0, none⟩); first | rfl | simp only [e21], by show ([.blk ((x1 21).1) (.cells (arr b8 (List.replicate 16 0)) 40 (0, 0))] : List Ch) = [.blk ((x1' 21).1) (.cells (arr b8 (List.replicate 16 0)) 40 (0, 0))]; first | rfl | simp only [e21]⟩
  · intro x1
    change WP _ _ _ _ _ _ _ [(22, .e), (23, .q)] [(16, .slice (some ⟨b2, 0, none⟩) 32 64), (17, .pointer (some (adr (some ⟨b2, 0, none⟩) (0)))), (18, .agg (arr b8 ((blockF key 0 nonce).take 32))), (19, .slice ab nb cb), (20, .slice ab nb cb), (21, .slice (some ⟨(x1 5).1, 0, none⟩) ((16 - nb % 16) % 16) ((16 - nb % 16) % 16)), (22, .slice as_ ns cs), (23, .slice as_ ns cs), (24, .slice (some ⟨(x1 8).1, 0, none⟩) ((16 - ns % 16) % 16) ((16 - ns % 16) % 16)), (25, .slice ab nb cb), (26, ki ((nb : Int))), (27, .slice as_ ns cs), (28, ki ((ns : Int))), (29, .slice (some ⟨(x1 13).1, 0, none⟩) 2 2), (30, .slice (x1 14).2.1 16 ((x1 14).2.2)), (31, .slice (some ⟨(x1 15).1, 0, none⟩) 5 5), (32, .slice (x1 16).2.1 (((((0 + nb) + ((16 - nb % 16) % 16)) + ns) + ((16 - ns % 16) % 16)) + 16) ((x1 16).2.2)), (33, .tuple #[.agg (arr b8 (tagF ((blockF key 0 nonce).take 32) (((((([] : List UInt8) ++ lb) ++ (List.replicate ((16 - nb % 16) % 16) 0)) ++ ls) ++ (List.replicate ((16 - ns % 16) % 16) 0)) ++ (eightsF ([nb, ns] : List Nat) 2)) (((((0 + nb) + ((16 - nb % 16) % 16)) + ns) + ((16 - ns % 16) % 16)) + 16))), ki (0)]), (15, .tuple #[.agg (arr b8 (tagF ((blockF key 0 nonce).take 32) (((((([] : List UInt8) ++ lb) ++ (List.replicate ((16 - nb % 16) % 16) 0)) ++ ls) ++ (List.replicate ((16 - ns % 16) % 16) 0)) ++ (eightsF ([nb, ns] : List Nat) 2)) (((((0 + nb) + ((16 - nb % 16) % 16)) + ns) + ((16 - ns % 16) % 16)) + 16))), ki (0)]), (34, .agg (arr b8 (tagF ((blockF key 0 nonce).take 32) (((((([] : List UInt8) ++ lb) ++ (List.replicate ((16 - nb % 16) % 16) 0)) ++ ls) ++ (List.replicate ((16 - ns % 16) % 16) 0)) ++ (eightsF ([nb, ns] : List Nat) 2)) (((((0 + nb) + ((16 - nb % 16) % 16)) + ns) + ((16 - ns % 16) % 16)) + 16)))), (35, ki (0)), (8, .pointer (some ⟨(x1 21).1, 0, none⟩)), (1, .slice as_ ns cs), (2, .slice ab nb cb), (6, .slice none 0 0), (7, .pointer (some ⟨b2, 0, none⟩))] (Mem w [] [.sl (some ⟨(x1 5).1, 0, none⟩) ((16 - nb % 16) % 16) ((16 - nb % 16) % 16) 5 1 ((List.replicate ((16 - nb % 16) % 16) 0).map b8), .sl (some ⟨(x1 8).1, 0, none⟩) ((16 - ns % 16) % 16) ((16 - ns % 16) % 16) 5 1 ((List.replicate ((16 - ns % 16) % 16) 0).map b8), .sl (some ⟨(x1 13).1, 0, none⟩) 2 2 3 1 (([nb, ns] : List Nat).map kn), .sl ((x1 14).2.1) 16 ((x1 14).2.2) 5 1 ((eightsF ([nb, ns] : List Nat) 2).map b8), .sl (some ⟨(x1 15).1, 0, none⟩) 5 5 22 1 (([(ab, nb, cb, lb), ((some ⟨(x1 5).1, 0, none⟩), ((16 - nb % 16) % 16), ((16 - nb % 16) % 16), (List.replicate ((16 - nb % 16) % 16) 0)), (as_, ns, cs, ls), ((some ⟨(x1 8).1, 0, none⟩), ((16 - ns % 16) % 16), ((16 - ns % 16) % 16), (List.replicate ((16 - ns % 16) % 16) 0)), ((x1 14).2.1, 16, (x1 14).2.2, (eightsF ([nb, ns] : List Nat) 2))] : List Pc).map pv), .sl ((x1 16).2.1) (((((0 + nb) + ((16 - nb % 16) % 16)) + ns) + ((16 - ns % 16) % 16)) + 16) ((x1 16).2.2) 5 1 ((((((([] : List UInt8) ++ lb) ++ (List.replicate ((16 - nb % 16) % 16) 0)) ++ ls) ++ (List.replicate ((16 - ns % 16) % 16) 0)) ++ (eightsF ([nb, ns] : List Nat) 2)).map b8), .blk ((x1 21).1) (.cells (arr b8 (List.replicate 16 0)) 40 (0, 0)), .blk b2 (.cells (arr b8 (blockF key 0 nonce)) 35 (0, 0)), .blk b1 (.cells (arr b8 (key ++ nonce)) 44 (0, 0))])
    refine wp_e (fun _ => _) rfl rfl rfl (e_storeall sz40 rfl rfl (i := 6) rfl (by first | (simp [hk, hn]; done) | (simp; omega) | rfl) (by first | (simp [hk, hn]; done) | (simp; omega) | rfl) (arr_one _) ⟨_, rfl, ⟨_, rfl, ⟨_, rfl, ⟨_, rfl, ⟨_, rfl, ⟨_, rfl, rfl⟩⟩⟩⟩⟩⟩) trivial (fun _ => (fun _ _ _ _ => trivial)) (fun _ _ h => h) (fun _ _ h => trivial) (fun _ => Mem.closed) ?_
    intro _
    refine wp_q rfl (fun _ _ _ _ => trivial) (fun _ h => trivial) Mem.closed rfl (q_of_yld (y_assign rfl)) trivial ?_
    refine wp_nil ?_
    refine aq_seq ?_
    refine wc_seq ?_
    refine wc_region ?_
    refine wl_y (y_slice_ar0 ar40 sz5 rfl 16 rfl rfl (by omega)) ?_
    refine wl_y (y_assign rfl) ?_
    refine wl_nil ?_
    refine aq_seq ?_
    refine wc_ret ?_
    refine aq_return (.inl rfl) rfl (⟨_, _, rfl, rfl, rfl⟩) ?_
    intro w' m
    exact ⟨_, rfl, (Mem.pick m (is := [6]) ⟨_, _, rfl, rfl, rfl⟩ (by decide))⟩

attribute [local irreducible] stagF xorTo tagF

theorem seal_ok (w : World) (ak an ap ab : Option Addr) (nk ck nn cn np cp nb cb : Nat) (lk ln lp lb : List UInt8) (hk : Rd w ak nk 1 (lk.map b8)) (hn : Rd w an nn 1 (ln.map b8)) (hp : Rd w ap np 1 (lp.map b8)) (hb : Rd w ab nb 1 (lb.map b8)) :
    Calls Try.prog 8 #[.slice ak nk ck, .slice an nn cn, .slice ap np cp, .slice ab nb cb] w (Ret (fun r : Option Addr × Nat => .tuple #[.slice r.1 (sealN nk nn np nb) r.2, ki (sealE nk nn np nb : Nat)]) (fun r => Mem w [] [.sl r.1 (sealN nk nn np nb) r.2 5 1 ((sealO nk nn np nb lk ln lp lb).map b8)])) := by
  have hlk := hk.len
  have hln := hn.len
  have hlp := hp.len
  have hlb := hb.len
  have ha1 := asF_len lk nk 32 hlk
  have ha2 := asF_len ln nn 12 hln
  refine calls_of Try.func8 rfl rfl (L := [(0, .slice ak nk ck), (1, .slice an nn cn), (2, .slice ap np cp), (3, .slice ab nb cb)]) ⟨rfl, rfl, rfl, rfl, trivial⟩ (m := 51) (Nat.le_of_ble_eq_true rfl) (M := Mem w [] []) (Mem.refl w) ?_
  refine wc_seq ?_
  refine wc_region ?_
  refine wl_y (y_assign rfl) ?_
  refine wl_y (y_assign rfl) ?_
  refine wl_nil ?_
  refine aq_seq ?_
  refine wc_seq ?_
  refine wc_region ?_
  refine wl_y (y_move rfl) ?_
  refine wl_y (y_move rfl) ?_
  refine wl_eff (e_call0 cf14 rfl (fun w m => aof_ok w ak an nk ck nn cn lk ln (m.rd0 hk) (m.rd0 hn))) rfl trivial rfl ?_
  intro _
  refine wl_y (y_move rfl) ?_
  refine wl_y (y_extract rfl rfl) ?_
  refine wl_y (y_extract rfl rfl) ?_
  refine wl_eff (e_alloc (cs := #[b8 (0), b8 (0), b8 (0), b8 (0), b8 (0), b8 (0), b8 (0), b8 (0), b8 (0), b8 (0), b8 (0), b8 (0), b8 (0), b8 (0), b8 (0), b8 (0), b8 (0), b8 (0), b8 (0), b8 (0), b8 (0), b8 (0), b8 (0), b8 (0), b8 (0), b8 (0), b8 (0), b8 (0), b8 (0), b8 (0), b8 (0), b8 (0), b8 (0), b8 (0), b8 (0), b8 (0), b8 (0), b8 (0), b8 (0), b8 (0), b8 (0), b8 (0), b8 (0), b8 (0)]) zn44) rfl trivial rfl ?_
  intro b1
  refine wl_eff (e_storeall sz44 rfl rfl (i := 0) rfl (by first | (simp; done) | (simp [ha1, ha2]; done) | (simp; omega) | rfl) (by first | (simp; done) | (simp [ha1, ha2]; done) | (simp; omega) | rfl) (arr_one _) rfl) rfl trivial rfl ?_
  intro _
  refine wl_y (y_assign rfl) ?_
  refine wl_nil ?_
  refine aq_seq ?_
  refine wc_seq ?_
  refine wc_block ?_
  refine wc_seq ?_
  refine wc_region ?_
  refine wl_y (y_move rfl) ?_
  refine wl_y (y_not rfl) ?_
  refine wl_y (y_assign rfl) ?_
  refine wl_nil ?_
  refine aq_seq ?_
  refine wc_if rfl (fun hc1 => ?_) (fun hc1 => ?_)
  · have hb1 : (¬ nk = 32 ∨ ¬ nn = 12) := by simpa using hc1
    have he := sealE_1 (np := np) (nb := nb) hb1
    refine wc_seq ?_
    refine wc_region ?_
    refine wl_y (y_assign rfl) ?_
    refine wl_y (y_assign rfl) ?_
    refine wl_nil ?_
    refine aq_seq ?_
    refine wc_ret ?_
    refine aq_blk_ret ?_
    refine aq_thru_ret ?_
    refine aq_return (.inl rfl) rfl (⟨_, _, rfl, rfl, ⟨_, _, rfl, rfl, rfl⟩⟩) ?_
    intro w' m
    rw [sealN, sealO, he]
    exact ⟨(none, 0), rfl, (m.pick (is := []) rfl List.nodup_nil).nilsl 5 1⟩
  · have hb1 : (nk = 32 ∧ nn = 12) := by simpa using hc1
    have hk32 : nk = 32 := hb1.1
    have hn12 : nn = 12 := hb1.2
    refine wc_seq ?_
    refine wc_region ?_
    refine wl_y (y_move rfl) ?_
    refine wl_y (y_len_sl sl22 (m := np) rfl rfl) ?_
    refine wl_y (y_bin rfl rfl gtr_i64) ?_
    refine wl_y (y_move rfl) ?_
    refine wl_bool (t := 27) rfl (fun hs20 => ?_) (fun hs20 => ?_)
    · have hb20 : (np : Int) > 1048576 := by simpa using hs20
      have he := sealE_3a hk32 hn12 (np := np) (nb := nb) (by omega)
      refine wl_off ⟨_, _, rfl, rfl, .inl rfl⟩ rfl ?_
      refine wl_off ⟨_, _, rfl, rfl, .inl rfl⟩ rfl ?_
      refine wl_off ⟨_, _, rfl, rfl, .inl rfl⟩ rfl ?_
      refine wl_y (y_pick (b := true) rfl rfl) ?_
      refine wl_y (y_assign rfl) ?_
      refine wl_nil ?_
      refine aq_seq ?_
      refine wc_then rfl ?_
      refine wc_seq ?_
      refine wc_region ?_
      refine wl_y (y_assign rfl) ?_
      refine wl_y (y_assign rfl) ?_
      refine wl_nil ?_
      refine aq_seq ?_
      refine wc_ret ?_
      refine aq_blk_ret ?_
      refine aq_thru_ret ?_
      refine aq_return (.inl rfl) rfl (⟨_, _, rfl, rfl, ⟨_, _, rfl, rfl, rfl⟩⟩) ?_
      intro w' m
      rw [sealN, sealO, he]
      exact ⟨(none, 0), rfl, (m.pick (is := []) rfl List.nodup_nil).nilsl 5 1⟩
    · have hb20 : ¬ ((np : Int) > 1048576) := by simpa using hs20
      refine wl_y (y_move rfl) ?_ (hg := ⟨_, rfl, rfl⟩)
      refine wl_y (y_len_sl sl22 (m := nb) rfl rfl) ?_ (hg := ⟨_, rfl, rfl⟩)
      refine wl_y (y_bin rfl rfl gtr_i64) ?_ (hg := ⟨_, rfl, rfl⟩)
      refine wl_y (y_pick (b := false) rfl rfl) ?_
      refine wl_y (y_assign rfl) ?_
      refine wl_nil ?_
      refine aq_seq ?_
      refine wc_if rfl (fun hc2 => ?_) (fun hc2 => ?_)
      · have hb2 : (nb : Int) > 1048576 := by simpa using hc2
        have he := sealE_3b hk32 hn12 (np := np) (nb := nb) (by omega)
        refine wc_seq ?_
        refine wc_region ?_
        refine wl_y (y_assign rfl) ?_
        refine wl_y (y_assign rfl) ?_
        refine wl_nil ?_
        refine aq_seq ?_
        refine wc_ret ?_
        refine aq_blk_ret ?_
        refine aq_thru_ret ?_
        refine aq_return (.inl rfl) rfl (⟨_, _, rfl, rfl, ⟨_, _, rfl, rfl, rfl⟩⟩) ?_
        intro w' m
        rw [sealN, sealO, he]
        exact ⟨(none, 0), rfl, (m.pick (is := []) rfl List.nodup_nil).nilsl 5 1⟩
      · have hb2 : ¬ ((nb : Int) > 1048576) := by simpa using hc2
        have he := sealE_0 hk32 hn12 (np := np) (nb := nb) (by omega) (by omega)
        refine wc_skip ?_
        refine aq_blk_normal ?_
        refine aq_seq ?_
        refine wc_seq ?_
        refine wc_region ?_
        refine wl_y (y_fieldAddr fd44_0 sz33 rfl) ?_
        refine wl_y (y_loads (cs := ((((asF lk nk 32 ++ asF ln nn 12)).drop 0).take 32).map b8) ag33 rfl (by first | (simp; done) | (simp [ha1, ha2]; done) | (simp; omega) | rfl) (c_blks (i := 0) rfl (arr_part (asF lk nk 32 ++ asF ln nn 12) 0 32))) ?_
        refine wl_re (t := 34) (v' := .agg (arr b8 lk)) rfl (congrArg (fun l => Value.agg (arr b8 l)) (ofpart0 hk32 hlk)) ?_
        refine wl_y (y_fieldAddr fd44_1 sz34 rfl) ?_
        refine wl_y (y_loads (cs := ((((asF lk nk 32 ++ asF ln nn 12)).drop 32).take 12).map b8) ag34 rfl (by first | (simp; done) | (simp [ha1, ha2]; done) | (simp; omega) | rfl) (c_blks (i := 0) rfl (arr_part (asF lk nk 32 ++ asF ln nn 12) 32 12))) ?_
        refine wl_re (t := 36) (v' := .agg (arr b8 ln)) rfl (congrArg (fun l => Value.agg (arr b8 l)) (ofpart1 hk32 hn12 hlk hln)) ?_
        refine wl_y (y_move rfl) ?_
        refine wl_eff (e_call0 cf12 rfl (fun w m => xor_ok w lk 1 ln ap np cp lp (by first | omega | (simp [*]; done)) (by first | omega | (simp [*]; done)) (m.rd0 hp) (by omega) (by show 1 + _ ≤ _; omega))) rfl trivial rfl ?_
        intro r2
        refine wl_y (y_move rfl) ?_
        refine wl_y (y_extract rfl rfl) ?_
        refine wl_y (y_extract rfl rfl) ?_
        refine wl_y (y_assign rfl) ?_
        refine wl_y (y_assign rfl) ?_
        refine wl_nil ?_
        refine aq_seq ?_
        refine wc_seq ?_
        refine wc_seq ?_
        refine wc_region ?_
        refine wl_y (y_move rfl) ?_
        refine wl_y (y_bin rfl rfl (show bin .neq (ki 0) (ki 0) = some (kb false) from rfl)) ?_
        refine wl_nil ?_
        refine aq_seq ?_
        refine wc_else rfl ?_
        refine wc_skip ?_
        refine aq_seq ?_
        refine wc_seq ?_
        refine wc_region ?_
        refine wl_y (y_move rfl) ?_
        refine wl_y (y_loadall ag44 rfl (i := 1) rfl (by first | (simp; done) | (simp [ha1, ha2]; done) | (simp; omega) | rfl)) ?_
        refine wl_re (t := 45) (v' := .agg (arr b8 (lk ++ ln))) rfl (congrArg (fun l => Value.agg (arr b8 l)) (ofall hk32 hn12)) ?_
        refine wl_y (y_move rfl) ?_
        refine wl_y (y_move rfl) ?_
        refine wl_eff (e_call0 cf16 rfl (fun w m => stag_ok w lk ln r2.1 np r2.2 (xorTo lp lk 1 ln np) ab nb cb lb (by omega) (by omega) ((m.rd_sl (i := 0) rfl : Rd _ _ np 1 ((xorTo lp lk 1 ln np).map b8))) (m.rd0 hb) (by omega) (by omega))) rfl trivial rfl ?_
        intro b3
        refine wl_eff (e_buildSlice (len := 2) [.slice r2.1 np r2.2, .slice (some ⟨b3, 0, none⟩) 16 16] sl74 el22 rfl rfl rfl (by simp [Value.cells]) (by decide) [.slice r2.1 np r2.2, .slice (some ⟨b3, 0, none⟩) 16 16] rfl) rfl trivial rfl ?_
        intro b4
        refine wl_eff (e_call0 cf15 rfl (fun w m => concat_ok w (some ⟨b4, 0, none⟩) 2 2 ([(r2.1, np, r2.2, (xorTo lp lk 1 ln np)), ((some ⟨b3, 0, none⟩), 16, 16, (stagF lk ln lb nb (xorTo lp lk 1 ln np) np))] : List Pc) ((m.rd_sl (i := 0) rfl : Rd _ _ 2 1 (([(r2.1, np, r2.2, (xorTo lp lk 1 ln np)), ((some ⟨b3, 0, none⟩), 16, 16, (stagF lk ln lb nb (xorTo lp lk 1 ln np) np))] : List Pc).map pv))) (List.forall_mem_cons.2 ⟨(m.rd_sl (i := 2) rfl : Rd _ _ np 1 ((xorTo lp lk 1 ln np).map b8)), (List.forall_mem_cons.2 ⟨(Mem.rd_arrn (f := b8) (xs := (stagF lk ln lb nb (xorTo lp lk 1 ln np) np)) m (i := 1) rfl (n := 16) (by first | omega | (simp [*]; done))), (fun _ h => nomatch h)⟩)⟩) (by omega) (by show ((0 + np) + 16) ≤ _; omega))) rfl trivial rfl ?_
        intro r5
        refine wl_y (y_assign rfl) ?_
        refine wl_y (y_assign rfl) ?_
        refine wl_nil ?_
        refine aq_seq ?_
        refine wc_ret ?_
        refine aq_return (.inl rfl) rfl (⟨_, _, rfl, rfl, ⟨_, _, rfl, rfl, rfl⟩⟩) ?_
        intro w' m
        rw [sealN, sealO, he]
        exact ⟨r5, rfl, (Mem.pick m (is := [0]) ⟨_, _, rfl, rfl, rfl⟩ (by decide))⟩

theorem open_ok (w : World) (ak an as_ ab : Option Addr) (nk ck nn cn ns cs nb cb : Nat) (lk ln ls lb : List UInt8) (hk : Rd w ak nk 1 (lk.map b8)) (hn : Rd w an nn 1 (ln.map b8)) (hs : Rd w as_ ns 1 (ls.map b8)) (hb : Rd w ab nb 1 (lb.map b8)) (hc : ns ≤ cs) (hns : ns ≤ 70368744177664) :
    Calls Try.prog 9 #[.slice ak nk ck, .slice an nn cn, .slice as_ ns cs, .slice ab nb cb] w (Ret (fun r : Option Addr × Nat => .tuple #[.slice r.1 (openN nk nn ns nb lk ln ls lb) r.2, ki (openE nk nn ns nb lk ln ls lb : Nat)]) (fun r => Mem w [] [.sl r.1 (openN nk nn ns nb lk ln ls lb) r.2 5 1 ((openO nk nn ns nb lk ln ls lb).map b8)])) := by
  have hlk := hk.len
  have hln := hn.len
  have hls := hs.len
  have hlb := hb.len
  have ha1 := asF_len lk nk 32 hlk
  have ha2 := asF_len ln nn 12 hln
  refine calls_of Try.func9 rfl rfl (L := [(0, .slice ak nk ck), (1, .slice an nn cn), (2, .slice as_ ns cs), (3, .slice ab nb cb)]) ⟨rfl, rfl, rfl, rfl, trivial⟩ (m := 58) (Nat.le_of_ble_eq_true rfl) (M := Mem w [] []) (Mem.refl w) ?_
  refine wc_seq ?_
  refine wc_region ?_
  refine wl_y (y_assign rfl) ?_
  refine wl_y (y_assign rfl) ?_
  refine wl_nil ?_
  refine aq_seq ?_
  refine wc_seq ?_
  refine wc_region ?_
  refine wl_y (y_move rfl) ?_
  refine wl_y (y_move rfl) ?_
  refine wl_eff (e_call0 cf14 rfl (fun w m => aof_ok w ak an nk ck nn cn lk ln (m.rd0 hk) (m.rd0 hn))) rfl trivial rfl ?_
  intro _
  refine wl_y (y_move rfl) ?_
  refine wl_y (y_extract rfl rfl) ?_
  refine wl_y (y_extract rfl rfl) ?_
  refine wl_eff (e_alloc (cs := #[b8 (0), b8 (0), b8 (0), b8 (0), b8 (0), b8 (0), b8 (0), b8 (0), b8 (0), b8 (0), b8 (0), b8 (0), b8 (0), b8 (0), b8 (0), b8 (0), b8 (0), b8 (0), b8 (0), b8 (0), b8 (0), b8 (0), b8 (0), b8 (0), b8 (0), b8 (0), b8 (0), b8 (0), b8 (0), b8 (0), b8 (0), b8 (0), b8 (0), b8 (0), b8 (0), b8 (0), b8 (0), b8 (0), b8 (0), b8 (0), b8 (0), b8 (0), b8 (0), b8 (0)]) zn44) rfl trivial rfl ?_
  intro b1
  refine wl_eff (e_storeall sz44 rfl rfl (i := 0) rfl (by first | (simp; done) | (simp [ha1, ha2]; done) | (simp; omega)) (by first | (simp; done) | (simp [ha1, ha2]; done) | (simp; omega)) (arr_one _) rfl) rfl trivial rfl ?_
  intro _
  refine wl_y (y_assign rfl) ?_
  refine wl_nil ?_
  refine aq_seq ?_
  refine wc_seq ?_
  refine wc_region ?_
  refine wl_y (y_move rfl) ?_
  refine wl_y (y_len_sl sl22 (m := ns) rfl rfl) ?_
  refine wl_y (y_bin rfl rfl (sub_i64 (by omega) (by omega))) ?_
  refine wl_y (y_assign rfl) ?_
  refine wl_nil ?_
  refine aq_seq ?_
  refine wc_seq ?_
  refine wc_block ?_
  refine wc_seq ?_
  refine wc_region ?_
  refine wl_y (y_move rfl) ?_
  refine wl_y (y_not rfl) ?_
  refine wl_y (y_assign rfl) ?_
  refine wl_nil ?_
  refine aq_seq ?_
  refine wc_if rfl (fun hc1 => ?_) (fun hc1 => ?_)
  · have hb1 : (¬ nk = 32 ∨ ¬ nn = 12) := by simpa using hc1
    have he := openE_1 (ns := ns) (nb := nb) (lk := lk) (ln := ln) (ls := ls) (lb := lb) hb1
    refine wc_seq ?_
    refine wc_region ?_
    refine wl_y (y_assign rfl) ?_
    refine wl_y (y_assign rfl) ?_
    refine wl_nil ?_
    refine aq_seq ?_
    refine wc_ret ?_
    refine aq_blk_ret ?_
    refine aq_thru_ret ?_
    refine aq_return (.inl rfl) rfl (⟨_, _, rfl, rfl, ⟨_, _, rfl, rfl, rfl⟩⟩) ?_
    intro w' m
    rw [openN, openO, he]
    exact ⟨(none, 0), rfl, (m.pick (is := []) rfl List.nodup_nil).nilsl 5 1⟩
  · have hb1 : (nk = 32 ∧ nn = 12) := by simpa using hc1
    have hk32 : nk = 32 := hb1.1
    have hn12 : nn = 12 := hb1.2
    refine wc_seq ?_
    refine wc_region ?_
    refine wl_y (y_move rfl) ?_
    refine wl_y (y_bin rfl rfl lss_i64) ?_
    refine wl_y (y_assign rfl) ?_
    refine wl_nil ?_
    refine aq_seq ?_
    refine wc_if rfl (fun hc2 => ?_) (fun hc2 => ?_)
    · have hb2 : (((ns : Int) - 16) : Int) < 0 := by simpa using hc2
      have he := openE_4 (nb := nb) (lk := lk) (ln := ln) (ls := ls) (lb := lb) hk32 hn12 (ns := ns) (by omega)
      refine wc_seq ?_
      refine wc_region ?_
      refine wl_y (y_assign rfl) ?_
      refine wl_y (y_assign rfl) ?_
      refine wl_nil ?_
      refine aq_seq ?_
      refine wc_ret ?_
      refine aq_blk_ret ?_
      refine aq_thru_ret ?_
      refine aq_return (.inl rfl) rfl (⟨_, _, rfl, rfl, ⟨_, _, rfl, rfl, rfl⟩⟩) ?_
      intro w' m
      rw [openN, openO, he]
      exact ⟨(none, 0), rfl, (m.pick (is := []) rfl List.nodup_nil).nilsl 5 1⟩
    · have hb2 : ¬ ((((ns : Int) - 16) : Int) < 0) := by simpa using hc2
      have hn16 : 16 ≤ ns := by omega
      refine wc_re (t := 12) (v' := ki (((ns - 16 : Nat) : Int))) rfl (congrArg (Value.int .i64) (by omega)) ?_
      refine wc_seq ?_
      refine wc_region ?_
      refine wl_y (y_move rfl) ?_
      refine wl_y (y_bin rfl rfl gtr_i64) ?_
      refine wl_y (y_move rfl) ?_
      refine wl_bool (t := 31) rfl (fun hs28 => ?_) (fun hs28 => ?_)
      · have hb28 : ((ns - 16 : Nat) : Int) > 1048576 := by simpa using hs28
        have he := openE_3 (lk := lk) (ln := ln) (ls := ls) (lb := lb) hk32 hn12 (ns := ns) (nb := nb) (by omega) (by omega)
        refine wl_off ⟨_, _, rfl, rfl, .inl rfl⟩ rfl ?_
        refine wl_off ⟨_, _, rfl, rfl, .inl rfl⟩ rfl ?_
        refine wl_off ⟨_, _, rfl, rfl, .inl rfl⟩ rfl ?_
        refine wl_y (y_pick (b := true) rfl rfl) ?_
        refine wl_y (y_assign rfl) ?_
        refine wl_nil ?_
        refine aq_seq ?_
        refine wc_then rfl ?_
        refine wc_seq ?_
        refine wc_region ?_
        refine wl_y (y_assign rfl) ?_
        refine wl_y (y_assign rfl) ?_
        refine wl_nil ?_
        refine aq_seq ?_
        refine wc_ret ?_
        refine aq_blk_ret ?_
        refine aq_thru_ret ?_
        refine aq_return (.inl rfl) rfl (⟨_, _, rfl, rfl, ⟨_, _, rfl, rfl, rfl⟩⟩) ?_
        intro w' m
        rw [openN, openO, he]
        exact ⟨(none, 0), rfl, (m.pick (is := []) rfl List.nodup_nil).nilsl 5 1⟩
      · have hb28 : ¬ (((ns - 16 : Nat) : Int) > 1048576) := by simpa using hs28
        refine wl_y (y_move rfl) ?_ (hg := ⟨_, rfl, rfl⟩)
        refine wl_y (y_len_sl sl22 (m := nb) rfl rfl) ?_ (hg := ⟨_, rfl, rfl⟩)
        refine wl_y (y_bin rfl rfl gtr_i64) ?_ (hg := ⟨_, rfl, rfl⟩)
        refine wl_y (y_pick (b := false) rfl rfl) ?_
        refine wl_y (y_assign rfl) ?_
        refine wl_nil ?_
        refine aq_seq ?_
        refine wc_if rfl (fun hc3 => ?_) (fun hc3 => ?_)
        · have hb3 : (nb : Int) > 1048576 := by simpa using hc3
          have he := openE_3 (lk := lk) (ln := ln) (ls := ls) (lb := lb) hk32 hn12 (ns := ns) (nb := nb) (by omega) (by omega)
          refine wc_seq ?_
          refine wc_region ?_
          refine wl_y (y_assign rfl) ?_
          refine wl_y (y_assign rfl) ?_
          refine wl_nil ?_
          refine aq_seq ?_
          refine wc_ret ?_
          refine aq_blk_ret ?_
          refine aq_thru_ret ?_
          refine aq_return (.inl rfl) rfl (⟨_, _, rfl, rfl, ⟨_, _, rfl, rfl, rfl⟩⟩) ?_
          intro w' m
          rw [openN, openO, he]
          exact ⟨(none, 0), rfl, (m.pick (is := []) rfl List.nodup_nil).nilsl 5 1⟩
        · have hb3 : ¬ ((nb : Int) > 1048576) := by simpa using hc3
          refine wc_seq ?_
          refine wc_conv (L' := [(2, .slice as_ ns cs), (3, .slice ab nb cb), (8, .slice none 0 0), (9, ki (0)), (10, .pointer (some ⟨b1, 0, none⟩)), (12, ki (((ns - 16 : Nat) : Int)))]) ⟨rfl, rfl, rfl, rfl, rfl, rfl, trivial⟩ (fun _ h => h) ?_
          refine wc_parL [0, 1, 2, 3, 4, 5, 6, 7, 8, 9, 10, 11] [] [[], [], [], [1, 2], [], [0, 1, 2, 3, 4], [], [], [6, 7], [0, 1, 2, 3, 4, 5, 6, 7, 8], [0, 1, 2, 3, 4, 5, 6, 7, 8, 9], [0, 1, 2, 3, 4, 5, 6, 7, 8, 9, 10]] [] [fun x1 => .agg (arr b8 (lk ++ ln)), fun x1 => .slice as_ ns cs, fun x1 => ki (((ns - 16 : Nat) : Int)), fun x1 => .slice as_ (ns - 16) cs, fun x1 => .slice ab nb cb, fun x1 => .slice (some ⟨(x1 5).1, 0, none⟩) 16 16, fun x1 => .slice as_ ns cs, fun x1 => ki (((ns - 16 : Nat) : Int)), fun x1 => .slice (sub as_ (cs - (ns - 16)) (ns - 16)) (ns - (ns - 16)) (cs - (ns - 16)), fun x1 => kb ((stagF lk ln lb nb (ls.take (ns - 16)) (ns - 16)) == ((ls.drop (ns - 16)).take (ns - (ns - 16)))), fun x1 => kb (!((stagF lk ln lb nb (ls.take (ns - 16)) (ns - 16)) == ((ls.drop (ns - 16)).take (ns - (ns - 16))))), fun x1 => kb (!((stagF lk ln lb nb (ls.take (ns - 16)) (ns - 16)) == ((ls.drop (ns - 16)).take (ns - (ns - 16)))))] [fun x1 => [], fun x1 => [], fun x1 => [], fun x1 => [], fun x1 => [], fun x1 => [.blk ((x1 5).1) (.cells (arr b8 (stagF lk ln lb nb (ls.take (ns - 16)) (ns - 16))) 40 (0, 0))], fun x1 => [], fun x1 => [], fun x1 => [], fun x1 => [], fun x1 => [], fun x1 => []] (by kernel_rfl) [2, 3, 8, 9, 10, 12] rfl (by kernel_rfl) ?_ ?_ ?_ ?_
          · refine ⟨⟨_, rfl, fun x1 => ?_⟩, ⟨_, rfl, fun x1 => ?_⟩, ⟨_, rfl, fun x1 => ?_⟩, ⟨_, rfl, fun x1 => ?_⟩, ⟨_, rfl, fun x1 => ?_⟩, ⟨_, rfl, fun x1 => ?_⟩, ⟨_, rfl, fun x1 => ?_⟩, ⟨_, rfl, fun x1 => ?_⟩, ⟨_, rfl, fun x1 => ?_⟩, ⟨_, rfl, fun x1 => ?_⟩, ⟨_, rfl, fun x1 => ?_⟩, ⟨_, rfl, fun x1 => ?_⟩, trivial⟩
            · change PEff _ _ _ [(2, .slice as_ ns cs), (3, .slice ab nb cb), (8, .slice none 0 0), (9, ki (0)), (10, .pointer (some ⟨b1, 0, none⟩)), (12, ki (((ns - 16 : Nat) : Int)))] (Mem w [] [.blk b1 (.cells (arr b8 (asF lk nk 32 ++ asF ln nn 12)) 44 (0, 0))]) (fun g => .agg (arr b8 (lk ++ ln))) (fun g => [])
              exact pe_y (y_re (congrArg (fun l => Value.agg (arr b8 l)) (ofall hk32 hn12)) (y_loadall ag44 rfl (i := 0) rfl (by first | (simp; done) | (simp [ha1, ha2]; done) | (simp; omega)))) (fun _ => rfl) (fun _ => rfl)
            · change PEff _ _ _ [(2, .slice as_ ns cs), (3, .slice ab nb cb), (8, .slice none 0 0), (9, ki (0)), (10, .pointer (some ⟨b1, 0, none⟩)), (12, ki (((ns - 16 : Nat) : Int)))] (Mem w [] [.blk b1 (.cells (arr b8 (asF lk nk 32 ++ asF ln nn 12)) 44 (0, 0))]) (fun g => .slice as_ ns cs) (fun g => [])
              exact pe_y (y_move rfl) (fun _ => rfl) (fun _ => rfl)
            · change PEff _ _ _ [(2, .slice as_ ns cs), (3, .slice ab nb cb), (8, .slice none 0 0), (9, ki (0)), (10, .pointer (some ⟨b1, 0, none⟩)), (12, ki (((ns - 16 : Nat) : Int)))] (Mem w [] [.blk b1 (.cells (arr b8 (asF lk nk 32 ++ asF ln nn 12)) 44 (0, 0))]) (fun g => ki (((ns - 16 : Nat) : Int))) (fun g => [])
              exact pe_y (y_move rfl) (fun _ => rfl) (fun _ => rfl)
            · change PEff _ _ _ [(38, .slice as_ ns cs), (39, ki (((ns - 16 : Nat) : Int))), (2, .slice as_ ns cs), (3, .slice ab nb cb), (8, .slice none 0 0), (9, ki (0)), (10, .pointer (some ⟨b1, 0, none⟩)), (12, ki (((ns - 16 : Nat) : Int)))] (Mem w [] [.blk b1 (.cells (arr b8 (asF lk nk 32 ++ asF ln nn 12)) 44 (0, 0))]) (fun g => .slice as_ (ns - 16) cs) (fun g => [])
              exact pe_y (y_slice_sl0 sl22 sz5 rfl (ns - 16) ⟨_, _, rfl, by first | rfl | omega⟩ rfl (by omega)) (fun _ => rfl) (fun _ => rfl)
            · change PEff _ _ _ [(2, .slice as_ ns cs), (3, .slice ab nb cb), (8, .slice none 0 0), (9, ki (0)), (10, .pointer (some ⟨b1, 0, none⟩)), (12, ki (((ns - 16 : Nat) : Int)))] (Mem w [] [.blk b1 (.cells (arr b8 (asF lk nk 32 ++ asF ln nn 12)) 44 (0, 0))]) (fun g => .slice ab nb cb) (fun g => [])
              exact pe_y (y_move rfl) (fun _ => rfl) (fun _ => rfl)
            · change PEff _ _ _ [(37, .agg (arr b8 (lk ++ ln))), (38, .slice as_ ns cs), (39, ki (((ns - 16 : Nat) : Int))), (40, .slice as_ (ns - 16) cs), (41, .slice ab nb cb), (2, .slice as_ ns cs), (3, .slice ab nb cb), (8, .slice none 0 0), (9, ki (0)), (10, .pointer (some ⟨b1, 0, none⟩)), (12, ki (((ns - 16 : Nat) : Int)))] (Mem w [] [.blk b1 (.cells (arr b8 (asF lk nk 32 ++ asF ln nn 12)) 44 (0, 0))]) (fun g => .slice (some ⟨g.1, 0, none⟩) 16 16) (fun g => [.blk (g.1) (.cells (arr b8 (stagF lk ln lb nb (ls.take (ns - 16)) (ns - 16))) 40 (0, 0))])
              exact pe_call (fun b : Nat => (b, none, 0)) cf16 rfl (fun w m => stag_ok w lk ln as_ (ns - 16) cs (ls.take (ns - 16)) ab nb cb lb (by omega) (by omega) ((m.rd0 hs).pre1 (by omega)) (m.rd0 hb) (by omega) (by omega)) (fun _ => rfl) (fun _ => rfl)
            · change PEff _ _ _ [(2, .slice as_ ns cs), (3, .slice ab nb cb), (8, .slice none 0 0), (9, ki (0)), (10, .pointer (some ⟨b1, 0, none⟩)), (12, ki (((ns - 16 : Nat) : Int)))] (Mem w [] [.blk b1 (.cells (arr b8 (asF lk nk 32 ++ asF ln nn 12)) 44 (0, 0))]) (fun g => .slice as_ ns cs) (fun g => [])
              exact pe_y (y_move rfl) (fun _ => rfl) (fun _ => rfl)
            · change PEff _ _ _ [(2, .slice as_ ns cs), (3, .slice ab nb cb), (8, .slice none 0 0), (9, ki (0)), (10, .pointer (some ⟨b1, 0, none⟩)), (12, ki (((ns - 16 : Nat) : Int)))] (Mem w [] [.blk b1 (.cells (arr b8 (asF lk nk 32 ++ asF ln nn 12)) 44 (0, 0))]) (fun g => ki (((ns - 16 : Nat) : Int))) (fun g => [])
              exact pe_y (y_move rfl) (fun _ => rfl) (fun _ => rfl)
            · change PEff _ _ _ [(43, .slice as_ ns cs), (44, ki (((ns - 16 : Nat) : Int))), (2, .slice as_ ns cs), (3, .slice ab nb cb), (8, .slice none 0 0), (9, ki (0)), (10, .pointer (some ⟨b1, 0, none⟩)), (12, ki (((ns - 16 : Nat) : Int)))] (Mem w [] [.blk b1 (.cells (arr b8 (asF lk nk 32 ++ asF ln nn 12)) 44 (0, 0))]) (fun g => .slice (sub as_ (cs - (ns - 16)) (ns - 16)) (ns - (ns - 16)) (cs - (ns - 16))) (fun g => [])
              exact pe_y (y_slice_slo sl22 sz5 rfl cs ns (ns - 16) (ns - 16) rfl rfl ⟨_, _, rfl, by first | rfl | omega⟩ (by simp) (by omega) (by omega) (by omega) (by omega)) (fun _ => rfl) (fun _ => rfl)
            · change PEff _ _ _ [(37, .agg (arr b8 (lk ++ ln))), (38, .slice as_ ns cs), (39, ki (((ns - 16 : Nat) : Int))), (40, .slice as_ (ns - 16) cs), (41, .slice ab nb cb), (42, .slice (some ⟨(x1 5).1, 0, none⟩) 16 16), (43, .slice as_ ns cs), (44, ki (((ns - 16 : Nat) : Int))), (45, .slice (sub as_ (cs - (ns - 16)) (ns - 16)) (ns - (ns - 16)) (cs - (ns - 16))), (2, .slice as_ ns cs), (3, .slice ab nb cb), (8, .slice none 0 0), (9, ki (0)), (10, .pointer (some ⟨b1, 0, none⟩)), (12, ki (((ns - 16 : Nat) : Int)))] (Mem w [] [.blk ((x1 5).1) (.cells (arr b8 (stagF lk ln lb nb (ls.take (ns - 16)) (ns - 16))) 40 (0, 0)), .blk b1 (.cells (arr b8 (asF lk nk 32 ++ asF ln nn 12)) 44 (0, 0))]) (fun g => kb ((stagF lk ln lb nb (ls.take (ns - 16)) (ns - 16)) == ((ls.drop (ns - 16)).take (ns - (ns - 16))))) (fun g => [])
              exact pe_call (fun _ : Unit => (0, none, 0)) cf17 rfl (fun w m => equal_ok w (some ⟨(x1 5).1, 0, none⟩) (sub as_ (cs - (ns - 16)) (ns - 16)) 16 16 (ns - (ns - 16)) (cs - (ns - 16)) (stagF lk ln lb nb (ls.take (ns - 16)) (ns - 16)) ((ls.drop (ns - 16)).take (ns - (ns - 16))) ((Mem.rd_arrn (f := b8) (xs := (stagF lk ln lb nb (ls.take (ns - 16)) (ns - 16))) m (i := 0) rfl (n := 16) (by first | omega | (simp [*]; done)))) ((m.rd0 hs).sub1 (l := (ns - 16)) (k := (ns - (ns - 16))) (m := (cs - (ns - 16))) (by omega) (by omega)) (by omega)) (fun _ => rfl) (fun _ => rfl)
            · change PEff _ _ _ [(37, .agg (arr b8 (lk ++ ln))), (38, .slice as_ ns cs), (39, ki (((ns - 16 : Nat) : Int))), (40, .slice as_ (ns - 16) cs), (41, .slice ab nb cb), (42, .slice (some ⟨(x1 5).1, 0, none⟩) 16 16), (43, .slice as_ ns cs), (44, ki (((ns - 16 : Nat) : Int))), (45, .slice (sub as_ (cs - (ns - 16)) (ns - 16)) (ns - (ns - 16)) (cs - (ns - 16))), (46, kb ((stagF lk ln lb nb (ls.take (ns - 16)) (ns - 16)) == ((ls.drop (ns - 16)).take (ns - (ns - 16))))), (2, .slice as_ ns cs), (3, .slice ab nb cb), (8, .slice none 0 0), (9, ki (0)), (10, .pointer (some ⟨b1, 0, none⟩)), (12, ki (((ns - 16 : Nat) : Int)))] (Mem w [] [.blk ((x1 5).1) (.cells (arr b8 (stagF lk ln lb nb (ls.take (ns - 16)) (ns - 16))) 40 (0, 0)), .blk b1 (.cells (arr b8 (asF lk nk 32 ++ asF ln nn 12)) 44 (0, 0))]) (fun g => kb (!((stagF lk ln lb nb (ls.take (ns - 16)) (ns - 16)) == ((ls.drop (ns - 16)).take (ns - (ns - 16)))))) (fun g => [])
              exact pe_y (y_not rfl) (fun _ => rfl) (fun _ => rfl)
            · change PEff _ _ _ [(37, .agg (arr b8 (lk ++ ln))), (38, .slice as_ ns cs), (39, ki (((ns - 16 : Nat) : Int))), (40, .slice as_ (ns - 16) cs), (41, .slice ab nb cb), (42, .slice (some ⟨(x1 5).1, 0, none⟩) 16 16), (43, .slice as_ ns cs), (44, ki (((ns - 16 : Nat) : Int))), (45, .slice (sub as_ (cs - (ns - 16)) (ns - 16)) (ns - (ns - 16)) (cs - (ns - 16))), (46, kb ((stagF lk ln lb nb (ls.take (ns - 16)) (ns - 16)) == ((ls.drop (ns - 16)).take (ns - (ns - 16))))), (47, kb (!((stagF lk ln lb nb (ls.take (ns - 16)) (ns - 16)) == ((ls.drop (ns - 16)).take (ns - (ns - 16)))))), (2, .slice as_ ns cs), (3, .slice ab nb cb), (8, .slice none 0 0), (9, ki (0)), (10, .pointer (some ⟨b1, 0, none⟩)), (12, ki (((ns - 16 : Nat) : Int)))] (Mem w [] [.blk ((x1 5).1) (.cells (arr b8 (stagF lk ln lb nb (ls.take (ns - 16)) (ns - 16))) 40 (0, 0)), .blk b1 (.cells (arr b8 (asF lk nk 32 ++ asF ln nn 12)) 44 (0, 0))]) (fun g => kb (!((stagF lk ln lb nb (ls.take (ns - 16)) (ns - 16)) == ((ls.drop (ns - 16)).take (ns - (ns - 16)))))) (fun g => [])
              exact pe_y (y_assign rfl) (fun _ => rfl) (fun _ => rfl)
          · exact trivial
          · refine ⟨fun x1 x1' h => ?_, fun x1 x1' h => ?_, fun x1 x1' h => ?_, fun x1 x1' h => ?_, fun x1 x1' h => ?_, fun x1 x1' h => ?_, fun x1 x1' h => ?_, fun x1 x1' h => ?_, fun x1 x1' h => ?_, fun x1 x1' h => ?_, fun x1 x1' h => ?_, fun x1 x1' h => ?_, trivial⟩
            · exact ⟨by show (.agg (arr b8 (lk ++ ln)) : Value) = .agg (arr b8 (lk ++ ln)); first | rfl | simp only [], by show ([] : List Ch) = []; first | rfl | simp only []⟩
            · exact ⟨by show (.slice as_ ns cs : Value) = .slice as_ ns cs; first | rfl | simp only [], by show ([] : List Ch) = []; first | rfl | simp only []⟩
            · exact ⟨by show (ki (((ns - 16 : Nat) : Int)) : Value) = ki (((ns - 16 : Nat) : Int)); first | rfl | simp only [], by show ([] : List Ch) = []; first | rfl | simp only []⟩
            · exact ⟨by show (.slice as_ (ns - 16) cs : Value) = .slice as_ (ns - 16) cs; first | rfl | simp only [], by show ([] : List Ch) = []; first | rfl | simp only []⟩
            · exact ⟨by show (.slice ab nb cb : Value) = .slice ab nb cb; first | rfl | simp only [], by show ([] : List Ch) = []; first | rfl | simp only []⟩
            · have e5 := h 5 (by decide)
              exact ⟨by show (.slice (some ⟨(x1 5).1, 0, none⟩) 16 16 : Value) = .slice (some ⟨(x1' 5).1, 0, none⟩) 16 16; first | rfl | simp only [e5], by show ([.blk ((x1 5).1) (.cells (arr b8 (stagF lk ln lb nb (ls.take (ns - 16)) (ns - 16))) 40 (0, 0))] : List Ch) = [.blk ((x1' 5).1) (.cells (arr b8 (stagF lk ln lb nb (ls.take (ns - 16)) (ns - 16))) 40 (0, 0))]; first | rfl | simp only [e5]⟩
            · exact ⟨by show (.slice as_ ns cs : Value) = .slice as_ ns cs; first | rfl | simp only [], by show ([] : List Ch) = []; first | rfl | simp only []⟩
            · exact ⟨by show (ki (((ns - 16 : Nat) : Int)) : Value) = ki (((ns - 16 : Nat) : Int)); first | rfl | simp only [], by show ([] : List Ch) = []; first | rfl | simp only []⟩
            · exact ⟨by show (.slice (sub as_ (cs - (ns - 16)) (ns - 16)) (ns - (ns - 16)) (cs - (ns - 16)) : Value) = .slice (sub as_ (cs - (ns - 16)) (ns - 16)) (ns - (ns - 16)) (cs - (ns - 16)); first | rfl | simp only [], by show ([] : List Ch) = []; first | rfl | simp only []⟩
            · exact ⟨by show (kb ((stagF lk ln lb nb (ls.take (ns - 16)) (ns - 16)) == ((ls.drop (ns - 16)).take (ns - (ns - 16)))) : Value) = kb ((stagF lk ln lb nb (ls.take (ns - 16)) (ns - 16)) == ((ls.drop (ns - 16)).take (ns - (ns - 16)))); first | rfl | simp only [], by show ([] : List Ch) = []; first | rfl | simp only []⟩
            · exact ⟨by show (kb (!((stagF lk ln lb nb (ls.take (ns - 16)) (ns - 16)) == ((ls.drop (ns - 16)).take (ns - (ns - 16))))) : Value) = kb (!((stagF lk ln lb nb (ls.take (ns - 16)) (ns - 16)) == ((ls.drop (ns - 16)).take (ns - (ns - 16))))); first | rfl | simp only [], by show ([] : List Ch) = []; first | rfl | simp only []⟩
            · exact ⟨by show (kb (!((stagF lk ln lb nb (ls.take (ns - 16)) (ns - 16)) == ((ls.drop (ns - 16)).take (ns - (ns - 16))))) : Value) = kb (!((stagF lk ln lb nb (ls.take (ns - 16)) (ns - 16)) == ((ls.drop (ns - 16)).take (ns - (ns - 16))))); first | rfl | simp only [], by show ([] : List Ch) = []; first | rfl | simp only []⟩
          · intro x1
            change WP _ _ _ _ _ _ _ [] [(37, .agg (arr b8 (lk ++ ln))), (38, .slice as_ ns cs), (39, ki (((ns - 16 : Nat) : Int))), (40, .slice as_ (ns - 16) cs), (41, .slice ab nb cb), (42, .slice (some ⟨(x1 5).1, 0, none⟩) 16 16), (43, .slice as_ ns cs), (44, ki (((ns - 16 : Nat) : Int))), (45, .slice (sub as_ (cs - (ns - 16)) (ns - 16)) (ns - (ns - 16)) (cs - (ns - 16))), (46, kb ((stagF lk ln lb nb (ls.take (ns - 16)) (ns - 16)) == ((ls.drop (ns - 16)).take (ns - (ns - 16))))), (47, kb (!((stagF lk ln lb nb (ls.take (ns - 16)) (ns - 16)) == ((ls.drop (ns - 16)).take (ns - (ns - 16)))))), (36, kb (!((stagF lk ln lb nb (ls.take (ns - 16)) (ns - 16)) == ((ls.drop (ns - 16)).take (ns - (ns - 16)))))), (2, .slice as_ ns cs), (3, .slice ab nb cb), (8, .slice none 0 0), (9, ki (0)), (10, .pointer (some ⟨b1, 0, none⟩)), (12, ki (((ns - 16 : Nat) : Int)))] (Mem w [] [.blk ((x1 5).1) (.cells (arr b8 (stagF lk ln lb nb (ls.take (ns - 16)) (ns - 16))) 40 (0, 0)), .blk b1 (.cells (arr b8 (asF lk nk 32 ++ asF ln nn 12)) 44 (0, 0))])
            refine wp_nil ?_
            refine aq_seq ?_
            refine wc_if rfl (fun hc4 => ?_) (fun hc4 => ?_)
            · have hb4 : ¬ ((stagF lk ln lb nb (ls.take (ns - 16)) (ns - 16)) = ((ls.drop (ns - 16)).take (ns - (ns - 16)))) := by simpa using hc4
              have he := openE_11 hk32 hn12 hn16 (by omega) (by omega) hb4
              refine wc_seq ?_
              refine wc_region ?_
              refine wl_y (y_assign rfl) ?_
              refine wl_y (y_assign rfl) ?_
              refine wl_nil ?_
              refine aq_seq ?_
              refine wc_ret ?_
              refine aq_blk_ret ?_
              refine aq_thru_ret ?_
              refine aq_return (.inl rfl) rfl (⟨_, _, rfl, rfl, ⟨_, _, rfl, rfl, rfl⟩⟩) ?_
              intro w' m
              rw [openN, openO, he]
              exact ⟨(none, 0), rfl, (m.pick (is := []) rfl List.nodup_nil).nilsl 5 1⟩
            · have hb4 : (stagF lk ln lb nb (ls.take (ns - 16)) (ns - 16)) = ((ls.drop (ns - 16)).take (ns - (ns - 16))) := by simpa using hc4
              have he := openE_0 hk32 hn12 hn16 (by omega) (by omega) hb4
              refine wc_skip ?_
              refine aq_blk_normal ?_
              refine aq_seq ?_
              refine wc_seq ?_
              refine wc_conv (L' := [(2, .slice as_ ns cs), (10, .pointer (some ⟨b1, 0, none⟩)), (12, ki (((ns - 16 : Nat) : Int)))]) ⟨rfl, rfl, rfl, trivial⟩ (fun _ h => h) ?_
              refine wc_parL [0, 1, 2, 3, 4, 5, 6, 7, 8, 9, 10, 11] [] [[], [0], [], [2], [], [], [4, 5], [0, 1, 2, 3, 4, 5, 6], [0, 1, 2, 3, 4, 5, 6, 7], [0, 1, 2, 3, 4, 5, 6, 7], [0, 1, 2, 3, 4, 5, 6, 7, 8], [0, 1, 2, 3, 4, 5, 6, 7, 8, 9, 10]] [] [fun x2 => .pointer (some ⟨b1, 0, none⟩), fun x2 => .agg (arr b8 lk), fun x2 => .pointer (some ⟨b1, 32, none⟩), fun x2 => .agg (arr b8 ln), fun x2 => .slice as_ ns cs, fun x2 => ki (((ns - 16 : Nat) : Int)), fun x2 => .slice as_ (ns - 16) cs, fun x2 => .tuple #[.slice (x2 7).2.1 (ns - 16) ((x2 7).2.2), ki (0)], fun x2 => .slice (x2 7).2.1 (ns - 16) ((x2 7).2.2), fun x2 => ki (0), fun x2 => .slice (x2 7).2.1 (ns - 16) ((x2 7).2.2), fun x2 => ki (0)] [fun x2 => [], fun x2 => [], fun x2 => [], fun x2 => [], fun x2 => [], fun x2 => [], fun x2 => [], fun x2 => [.sl ((x2 7).2.1) (ns - 16) ((x2 7).2.2) 5 1 ((xorTo (ls.take (ns - 16)) lk 1 ln (ns - 16)).map b8)], fun x2 => [], fun x2 => [], fun x2 => [], fun x2 => []] (by kernel_rfl) [2, 10, 12] rfl (by kernel_rfl) ?_ ?_ ?_ ?_
              · refine ⟨⟨_, rfl, fun x2 => ?_⟩, ⟨_, rfl, fun x2 => ?_⟩, ⟨_, rfl, fun x2 => ?_⟩, ⟨_, rfl, fun x2 => ?_⟩, ⟨_, rfl, fun x2 => ?_⟩, ⟨_, rfl, fun x2 => ?_⟩, ⟨_, rfl, fun x2 => ?_⟩, ⟨_, rfl, fun x2 => ?_⟩, ⟨_, rfl, fun x2 => ?_⟩, ⟨_, rfl, fun x2 => ?_⟩, ⟨_, rfl, fun x2 => ?_⟩, ⟨_, rfl, fun x2 => ?_⟩, trivial⟩
                · change PEff _ _ _ [(2, .slice as_ ns cs), (10, .pointer (some ⟨b1, 0, none⟩)), (12, ki (((ns - 16 : Nat) : Int)))] (Mem w [] [.blk ((x1 5).1) (.cells (arr b8 (stagF lk ln lb nb (ls.take (ns - 16)) (ns - 16))) 40 (0, 0)), .blk b1 (.cells (arr b8 (asF lk nk 32 ++ asF ln nn 12)) 44 (0, 0))]) (fun g => .pointer (some ⟨b1, 0, none⟩)) (fun g => [])
                  exact pe_y (y_fieldAddr fd44_0 sz33 rfl) (fun _ => rfl) (fun _ => rfl)
                · change PEff _ _ _ [(48, .pointer (some ⟨b1, 0, none⟩)), (2, .slice as_ ns cs), (10, .pointer (some ⟨b1, 0, none⟩)), (12, ki (((ns - 16 : Nat) : Int)))] (Mem w [] [.blk ((x1 5).1) (.cells (arr b8 (stagF lk ln lb nb (ls.take (ns - 16)) (ns - 16))) 40 (0, 0)), .blk b1 (.cells (arr b8 (asF lk nk 32 ++ asF ln nn 12)) 44 (0, 0))]) (fun g => .agg (arr b8 lk)) (fun g => [])
                  exact pe_y (y_re (congrArg (fun l => Value.agg (arr b8 l)) (ofpart0 hk32 hlk)) (y_loads (cs := ((((asF lk nk 32 ++ asF ln nn 12)).drop 0).take 32).map b8) ag33 rfl (by first | (simp; done) | (simp [ha1, ha2]; done) | (simp; omega)) (c_blks (i := 1) rfl (arr_part (asF lk nk 32 ++ asF ln nn 12) 0 32)))) (fun _ => rfl) (fun _ => rfl)
                · change PEff _ _ _ [(2, .slice as_ ns cs), (10, .pointer (some ⟨b1, 0, none⟩)), (12, ki (((ns - 16 : Nat) : Int)))] (Mem w [] [.blk ((x1 5).1) (.cells (arr b8 (stagF lk ln lb nb (ls.take (ns - 16)) (ns - 16))) 40 (0, 0)), .blk b1 (.cells (arr b8 (asF lk nk 32 ++ asF ln nn 12)) 44 (0, 0))]) (fun g => .pointer (some ⟨b1, 32, none⟩)) (fun g => [])
                  exact pe_y (y_fieldAddr fd44_1 sz34 rfl) (fun _ => rfl) (fun _ => rfl)
                · change PEff _ _ _ [(50, .pointer (some ⟨b1, 32, none⟩)), (2, .slice as_ ns cs), (10, .pointer (some ⟨b1, 0, none⟩)), (12, ki (((ns - 16 : Nat) : Int)))] (Mem w [] [.blk ((x1 5).1) (.cells (arr b8 (stagF lk ln lb nb (ls.take (ns - 16)) (ns - 16))) 40 (0, 0)), .blk b1 (.cells (arr b8 (asF lk nk 32 ++ asF ln nn 12)) 44 (0, 0))]) (fun g => .agg (arr b8 ln)) (fun g => [])
                  exact pe_y (y_re (congrArg (fun l => Value.agg (arr b8 l)) (ofpart1 hk32 hn12 hlk hln)) (y_loads (cs := ((((asF lk nk 32 ++ asF ln nn 12)).drop 32).take 12).map b8) ag34 rfl (by first | (simp; done) | (simp [ha1, ha2]; done) | (simp; omega)) (c_blks (i := 1) rfl (arr_part (asF lk nk 32 ++ asF ln nn 12) 32 12)))) (fun _ => rfl) (fun _ => rfl)
                · change PEff _ _ _ [(2, .slice as_ ns cs), (10, .pointer (some ⟨b1, 0, none⟩)), (12, ki (((ns - 16 : Nat) : Int)))] (Mem w [] [.blk ((x1 5).1) (.cells (arr b8 (stagF lk ln lb nb (ls.take (ns - 16)) (ns - 16))) 40 (0, 0)), .blk b1 (.cells (arr b8 (asF lk nk 32 ++ asF ln nn 12)) 44 (0, 0))]) (fun g => .slice as_ ns cs) (fun g => [])
                  exact pe_y (y_move rfl) (fun _ => rfl) (fun _ => rfl)
                · change PEff _ _ _ [(2, .slice as_ ns cs), (10, .pointer (some ⟨b1, 0, none⟩)), (12, ki (((ns - 16 : Nat) : Int)))] (Mem w [] [.blk ((x1 5).1) (.cells (arr b8 (stagF lk ln lb nb (ls.take (ns - 16)) (ns - 16))) 40 (0, 0)), .blk b1 (.cells (arr b8 (asF lk nk 32 ++ asF ln nn 12)) 44 (0, 0))]) (fun g => ki (((ns - 16 : Nat) : Int))) (fun g => [])
                  exact pe_y (y_move rfl) (fun _ => rfl) (fun _ => rfl)
                · change PEff _ _ _ [(52, .slice as_ ns cs), (53, ki (((ns - 16 : Nat) : Int))), (2, .slice as_ ns cs), (10, .pointer (some ⟨b1, 0, none⟩)), (12, ki (((ns - 16 : Nat) : Int)))] (Mem w [] [.blk ((x1 5).1) (.cells (arr b8 (stagF lk ln lb nb (ls.take (ns - 16)) (ns - 16))) 40 (0, 0)), .blk b1 (.cells (arr b8 (asF lk nk 32 ++ asF ln nn 12)) 44 (0, 0))]) (fun g => .slice as_ (ns - 16) cs) (fun g => [])
                  exact pe_y (y_slice_sl0 sl22 sz5 rfl (ns - 16) ⟨_, _, rfl, by first | rfl | omega⟩ rfl (by omega)) (fun _ => rfl) (fun _ => rfl)
                · change PEff _ _ _ [(48, .pointer (some ⟨b1, 0, none⟩)), (49, .agg (arr b8 lk)), (50, .pointer (some ⟨b1, 32, none⟩)), (51, .agg (arr b8 ln)), (52, .slice as_ ns cs), (53, ki (((ns - 16 : Nat) : Int))), (54, .slice as_ (ns - 16) cs), (2, .slice as_ ns cs), (10, .pointer (some ⟨b1, 0, none⟩)), (12, ki (((ns - 16 : Nat) : Int)))] (Mem w [] [.blk ((x1 5).1) (.cells (arr b8 (stagF lk ln lb nb (ls.take (ns - 16)) (ns - 16))) 40 (0, 0)), .blk b1 (.cells (arr b8 (asF lk nk 32 ++ asF ln nn 12)) 44 (0, 0))]) (fun g => .tuple #[.slice g.2.1 (ns - 16) (g.2.2), ki (0)]) (fun g => [.sl (g.2.1) (ns - 16) (g.2.2) 5 1 ((xorTo (ls.take (ns - 16)) lk 1 ln (ns - 16)).map b8)])
                  exact pe_call (fun r : Option Addr × Nat => (0, r)) cf12 rfl (fun w m => xor_ok w lk 1 ln as_ (ns - 16) cs (ls.take (ns - 16)) (by first | omega | (simp [*]; done)) (by first | omega | (simp [*]; done)) ((m.rd0 hs).pre1 (by omega)) (by omega) (by show 1 + _ ≤ _; omega)) (fun _ => rfl) (fun _ => rfl)
                · change PEff _ _ _ [(48, .pointer (some ⟨b1, 0, none⟩)), (49, .agg (arr b8 lk)), (50, .pointer (some ⟨b1, 32, none⟩)), (51, .agg (arr b8 ln)), (52, .slice as_ ns cs), (53, ki (((ns - 16 : Nat) : Int))), (54, .slice as_ (ns - 16) cs), (55, .tuple #[.slice (x2 7).2.1 (ns - 16) ((x2 7).2.2), ki (0)]), (2, .slice as_ ns cs), (10, .pointer (some ⟨b1, 0, none⟩)), (12, ki (((ns - 16 : Nat) : Int)))] (Mem w [] [.sl ((x2 7).2.1) (ns - 16) ((x2 7).2.2) 5 1 ((xorTo (ls.take (ns - 16)) lk 1 ln (ns - 16)).map b8), .blk ((x1 5).1) (.cells (arr b8 (stagF lk ln lb nb (ls.take (ns - 16)) (ns - 16))) 40 (0, 0)), .blk b1 (.cells (arr b8 (asF lk nk 32 ++ asF ln nn 12)) 44 (0, 0))]) (fun g => .slice (x2 7).2.1 (ns - 16) ((x2 7).2.2)) (fun g => [])
                  exact pe_y (y_extract rfl rfl) (fun _ => rfl) (fun _ => rfl)
                · change PEff _ _ _ [(48, .pointer (some ⟨b1, 0, none⟩)), (49, .agg (arr b8 lk)), (50, .pointer (some ⟨b1, 32, none⟩)), (51, .agg (arr b8 ln)), (52, .slice as_ ns cs), (53, ki (((ns - 16 : Nat) : Int))), (54, .slice as_ (ns - 16) cs), (55, .tuple #[.slice (x2 7).2.1 (ns - 16) ((x2 7).2.2), ki (0)]), (2, .slice as_ ns cs), (10, .pointer (some ⟨b1, 0, none⟩)), (12, ki (((ns - 16 : Nat) : Int)))] (Mem w [] [.sl ((x2 7).2.1) (ns - 16) ((x2 7).2.2) 5 1 ((xorTo (ls.take (ns - 16)) lk 1 ln (ns - 16)).map b8), .blk ((x1 5).1) (.cells (arr b8 (stagF lk ln lb nb (ls.take (ns - 16)) (ns - 16))) 40 (0, 0)), .blk b1 (.cells (arr b8 (asF lk nk 32 ++ asF ln nn 12)) 44 (0, 0))]) (fun g => ki (0)) (fun g => [])
                  exact pe_y (y_extract rfl rfl) (fun _ => rfl) (fun _ => rfl)
                · change PEff _ _ _ [(48, .pointer (some ⟨b1, 0, none⟩)), (49, .agg (arr b8 lk)), (50, .pointer (some ⟨b1, 32, none⟩)), (51, .agg (arr b8 ln)), (52, .slice as_ ns cs), (53, ki (((ns - 16 : Nat) : Int))), (54, .slice as_ (ns - 16) cs), (55, .tuple #[.slice (x2 7).2.1 (ns - 16) ((x2 7).2.2), ki (0)]), (56, .slice (x2 7).2.1 (ns - 16) ((x2 7).2.2)), (2, .slice as_ ns cs), (10, .pointer (some ⟨b1, 0, none⟩)), (12, ki (((ns - 16 : Nat) : Int)))] (Mem w [] [.sl ((x2 7).2.1) (ns - 16) ((x2 7).2.2) 5 1 ((xorTo (ls.take (ns - 16)) lk 1 ln (ns - 16)).map b8), .blk ((x1 5).1) (.cells (arr b8 (stagF lk ln lb nb (ls.take (ns - 16)) (ns - 16))) 40 (0, 0)), .blk b1 (.cells (arr b8 (asF lk nk 32 ++ asF ln nn 12)) 44 (0, 0))]) (fun g => .slice (x2 7).2.1 (ns - 16) ((x2 7).2.2)) (fun g => [])
                  exact pe_y (y_assign rfl) (fun _ => rfl) (fun _ => rfl)
                · change PEff _ _ _ [(48, .pointer (some ⟨b1, 0, none⟩)), (49, .agg (arr b8 lk)), (50, .pointer (some ⟨b1, 32, none⟩)), (51, .agg (arr b8 ln)), (52, .slice as_ ns cs), (53, ki (((ns - 16 : Nat) : Int))), (54, .slice as_ (ns - 16) cs), (55, .tuple #[.slice (x2 7).2.1 (ns - 16) ((x2 7).2.2), ki (0)]), (56, .slice (x2 7).2.1 (ns - 16) ((x2 7).2.2)), (57, ki (0)), (8, .slice (x2 7).2.1 (ns - 16) ((x2 7).2.2)), (2, .slice as_ ns cs), (10, .pointer (some ⟨b1, 0, none⟩)), (12, ki (((ns - 16 : Nat) : Int)))] (Mem w [] [.sl ((x2 7).2.1) (ns - 16) ((x2 7).2.2) 5 1 ((xorTo (ls.take (ns - 16)) lk 1 ln (ns - 16)).map b8), .blk ((x1 5).1) (.cells (arr b8 (stagF lk ln lb nb (ls.take (ns - 16)) (ns - 16))) 40 (0, 0)), .blk b1 (.cells (arr b8 (asF lk nk 32 ++ asF ln nn 12)) 44 (0, 0))]) (fun g => ki (0)) (fun g => [])
                  exact pe_y (y_assign rfl) (fun _ => rfl) (fun _ => rfl)
              · exact trivial
              · refine ⟨fun x2 x2' h => ?_, fun x2 x2' h => ?_, fun x2 x2' h => ?_, fun x2 x2' h => ?_, fun x2 x2' h => ?_, fun x2 x2' h => ?_, fun x2 x2' h => ?_, fun x2 x2' h => ?_, fun x2 x2' h => ?_, fun x2 x2' h => ?_, fun x2 x2' h => ?_, fun x2 x2' h => ?_, trivial⟩
                · exact ⟨by show (.pointer (some ⟨b1, 0, none⟩) : Value) = .pointer (some ⟨b1, 0, none⟩); first | rfl | simp only [], by show ([] : List Ch) = []; first | rfl | simp only []⟩
                · exact ⟨by show (.agg (arr b8 lk) : Value) = .agg (arr b8 lk); first | rfl | simp only [], by show ([] : List Ch) = []; first | rfl | simp only []⟩
                · exact ⟨by show (.pointer (some ⟨b1, 32, none⟩) : Value) = .pointer (some ⟨b1, 32, none⟩); first | rfl | simp only [], by show ([] : List Ch) = []; first | rfl | simp only []⟩
                · exact ⟨by show (.agg (arr b8 ln) : Value) = .agg (arr b8 ln); first | rfl | simp only [], by show ([] : List Ch) = []; first | rfl | simp only []⟩
                · exact ⟨by show (.slice as_ ns cs : Value) = .slice as_ ns cs; first | rfl | simp only [], by show ([] : List Ch) = []; first | rfl | simp only []⟩
                · exact ⟨by show (ki (((ns - 16 : Nat) : Int)) : Value) = ki (((ns - 16 : Nat) : Int)); first | rfl | simp only [], by show ([] : List Ch) = []; first | rfl | simp only []⟩
                · exact ⟨by show (.slice as_ (ns - 16) cs : Value) = .slice as_ (ns - 16) cs; first | rfl | simp only [], by show ([] : List Ch) = []; first | rfl | simp only []⟩
                · have e7 := h 7 (by decide)
                  exact ⟨by show (.tuple #[.slice (x2 7).2.1 (ns - 16) ((x2 7).2.2), ki (0)] : Value) = .tuple #[.slice (x2' 7).2.1 (ns - 16) ((x2' 7).2.2), ki (0)]; first | rfl | simp only [e7], by show ([.sl ((x2 7).2.1) (ns - 16) ((x2 7).2.2) 5 1 ((xorTo (ls.take (ns - 16)) lk 1 ln (ns - 16)).map b8)] : List Ch) = [.sl ((x2' 7).2.1) (ns - 16) ((x2' 7).2.2) 5 1 ((xorTo (ls.take (ns - 16)) lk 1 ln (ns - 16)).map b8)]; first | rfl | simp only [e7]⟩
                · have e7 := h 7 (by decide)
                  exact ⟨by show (.slice (x2 7).2.1 (ns - 16) ((x2 7).2.2) : Value) = .slice (x2' 7).2.1 (ns - 16) ((x2' 7).2.2); first | rfl | simp only [e7], by show ([] : List Ch) = []; first | rfl | simp only [e7]⟩
                · exact ⟨by show (ki (0) : Value) = ki (0); first | rfl | simp only [], by show ([] : List Ch) = []; first | rfl | simp only []⟩
                · have e7 := h 7 (by decide)
                  exact ⟨by show (.slice (x2 7).2.1 (ns - 16) ((x2 7).2.2) : Value) = .slice (x2' 7).2.1 (ns - 16) ((x2' 7).2.2); first | rfl | simp only [e7], by show ([] : List Ch) = []; first | rfl | simp only [e7]⟩
                · exact ⟨by show (ki (0) : Value) = ki (0); first | rfl | simp only [], by show ([] : List Ch) = []; first | rfl | simp only []⟩
              · intro x2
                change WP _ _ _ _ _ _ _ [] [(48, .pointer (some ⟨b1, 0, none⟩)), (49, .agg (arr b8 lk)), (50, .pointer (some ⟨b1, 32, none⟩)), (51, .agg (arr b8 ln)), (52, .slice as_ ns cs), (53, ki (((ns - 16 : Nat) : Int))), (54, .slice as_ (ns - 16) cs), (55, .tuple #[.slice (x2 7).2.1 (ns - 16) ((x2 7).2.2), ki (0)]), (56, .slice (x2 7).2.1 (ns - 16) ((x2 7).2.2)), (57, ki (0)), (8, .slice (x2 7).2.1 (ns - 16) ((x2 7).2.2)), (9, ki (0)), (2, .slice as_ ns cs), (10, .pointer (some ⟨b1, 0, none⟩)), (12, ki (((ns - 16 : Nat) : Int)))] (Mem w [] [.sl ((x2 7).2.1) (ns - 16) ((x2 7).2.2) 5 1 ((xorTo (ls.take (ns - 16)) lk 1 ln (ns - 16)).map b8), .blk ((x1 5).1) (.cells (arr b8 (stagF lk ln lb nb (ls.take (ns - 16)) (ns - 16))) 40 (0, 0)), .blk b1 (.cells (arr b8 (asF lk nk 32 ++ asF ln nn 12)) 44 (0, 0))])
                refine wp_nil ?_
                refine aq_seq ?_
                refine wc_ret ?_
                refine aq_return (.inl rfl) rfl (⟨_, _, rfl, rfl, ⟨_, _, rfl, rfl, rfl⟩⟩) ?_
                intro w' m
                rw [openN, openO, he]
                exact ⟨(x2 7).2, rfl, (Mem.pick m (is := [0]) ⟨_, _, rfl, rfl, rfl⟩ (by decide))⟩

end Go.Proofs.Ytnkldldojalklaa
