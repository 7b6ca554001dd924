/- Sealed bytes are the stream's from the count 1 on, and their tag is the documented one; for every input. No condition. -/
import Derived.Test.YtnkldldojalklaaRows
import Derived.Test.YtnkldldojalklaaEArg
import Derived.Test.YtnkldldojalklaaELaw6cA
set_option linter.all false
set_option linter.unusedVariables false
set_option linter.unusedSimpArgs false
namespace Go.Proofs.Ytnkldldojalklaa.aeadMade
open Go.Mc Go.ChangeShapes Go.WideShapes Go.ChangeAt Go.RowKit
theorem own : ownKnob Try.prog.godebug = none := by kernel_rfl
theorem laidOut : laidOutB Try.prog = true := by kernel_rfl
theorem ce24 : Try.prog.cellsOf 24 = 3 := by kernel_rfl
theorem ce22 : Try.prog.cellsOf 22 = 1 := by kernel_rfl
theorem ce5 : Try.prog.cellsOf 5 = 1 := by kernel_rfl
theorem bo5 : Try.prog.bytesOf 5 = 1 := by kernel_rfl
set_option maxRecDepth 100000 in
theorem lifted (os : Os) (started : os.Started) (H : Type) (enc : TypeId × Value → H) :
    ReturnsInHanded {} Try.checked os 5 .any (Rows.aeadMadeSpec.pre6 enc Try.prog Try.f5 Rows.aeadMadeRow.domain false) (Rows.aeadMadeSpec.post enc Try.prog Try.f5 false true false false) := by
  refine returnsInHanded_of_change_sized (C := Try.checked) own started (by kernel_rfl) Try.func5
    (ChangeSpec.witness6 (enc := enc) (C := Try.checked) false ⟨#[], #[.agg #[.slice none 0 0, .slice none 0 0, .slice none 0 0], .slice none 0 0], []⟩ 8 (by kernel_rfl) (by kernel_rfl) (by kernel_rfl) (by kernel_rfl)) ?_
  intro W base args ds gs before hval0 hW hcnd hsz0 _
  have hsz : (DataW.weightsEach Try.prog (Try.f5.params.toList ++ Rows.aeadMadeSpec.plain.varTypes Try.prog) (ds ++ gs)).all (· ≤ reachBytes) = true := hsz0
  have hval : ∀ (j : Nat) t v, Try.f5.params[j]? = some t → args[j]? = some v → Value.okWide Try.prog W .any base t v := hval0
  have hW' := hW
  obtain ⟨p, q, hA0, hV, rfl, hfz, hnd⟩ := hW
  have hA : DataW.TrodAll enc Try.prog W 0 (fun _ => true) true Try.f5.params.toList args.toList ds p := hA0
  rw [Try.params5] at hA hval hsz
  obtain ⟨v0, vs0, d0, ds0, p0, q0, hargs, rfl, rfl, h0, r0⟩ := trodAll_cons hA
  obtain ⟨v1, vs1, d1, ds1, p1, q1, rfl, rfl, rfl, h1, r1⟩ := trodAll_cons r0
  obtain ⟨rfl, rfl, rfl⟩ := trodAll_nil r1
  obtain rfl : args = #[v0, v1] := by cases args; simp_all
  obtain ⟨rfl, rfl⟩ := trodVars_none hV
  have k0 := h0
  have lt0 : ∀ x ∈ p0, x.block < W.heap.size := by obtain ⟨m, hm⟩ := k0; exact DataW.trod_lt m _ _ _ hm
  have w0 := lt_each hsz (j := 0) (t := 24) rfl rfl
  obtain ⟨cs0, g0, rfl, t0⟩ := o_val Try.underlying24 (hval 0 24 v0 rfl rfl) h0
  obtain ⟨m0, l0, F0⟩ := o_struct Try.underlying24 t0 w0
  rw [ce24] at l0
  obtain ⟨v0_0, v0_1, v0_2, rfl⟩ := list3 l0
  obtain ⟨y0_0, t0_0, w0_0⟩ := F0 0 _ 0 1 rfl rfl ce22
  obtain ⟨ad0_0, n0_0, c0_0, xs0_0, e0_0, hr0_0, hc0_0, hb0_0⟩ := o_bytes Try.underlying22 Try.underlying5 ce5 bo5 t0_0 w0_0
  obtain rfl : v0_0 = .slice ad0_0 n0_0 c0_0 := (List.cons.inj e0_0).1
  obtain ⟨y0_1, t0_1, w0_1⟩ := F0 1 _ 1 1 rfl rfl ce22
  obtain ⟨ad0_1, n0_1, c0_1, xs0_1, e0_1, hr0_1, hc0_1, hb0_1⟩ := o_bytes Try.underlying22 Try.underlying5 ce5 bo5 t0_1 w0_1
  obtain rfl : v0_1 = .slice ad0_1 n0_1 c0_1 := (List.cons.inj e0_1).1
  obtain ⟨y0_2, t0_2, w0_2⟩ := F0 2 _ 2 1 rfl rfl ce22
  obtain ⟨ad0_2, n0_2, c0_2, xs0_2, e0_2, hr0_2, hc0_2, hb0_2⟩ := o_bytes Try.underlying22 Try.underlying5 ce5 bo5 t0_2 w0_2
  obtain rfl : v0_2 = .slice ad0_2 n0_2 c0_2 := (List.cons.inj e0_2).1
  have k1 := h1
  have lt1 : ∀ x ∈ p1, x.block < W.heap.size := by obtain ⟨m, hm⟩ := k1; exact DataW.trod_lt m _ _ _ hm
  have w1 := lt_each hsz (j := 1) (t := 22) rfl rfl
  obtain ⟨g1, t1⟩ := o_vals Try.underlying22 (hval 1 22 v1 rfl rfl) h1
  obtain ⟨ad1, n1, c1, xs1, e1, hr1, hc1, hb1⟩ := o_bytes Try.underlying22 Try.underlying5 ce5 bo5 t1 w1
  obtain rfl : v1 = .slice ad1 n1 c1 := (List.cons.inj e1).1
  clear hA0 hval0 hsz0 hsz
  refine (made_ok W ad0_0 ad0_1 ad1 ad0_2 n0_0 c0_0 n0_1 c0_1 n1 c1 n0_2 c0_2 xs0_0 xs0_1 xs1 xs0_2 hr0_0 hr0_1 hr1 hr0_2 (by omega) (by omega) (by omega) (by omega)).mono fun e W' ⟨u_, he, hm⟩ => ?_
  subst he
  have bel := hm.below
  exact ⟨_, rfl, _, _, _, [], _, [], hW', trodAll_mk1 (shut_bool Try.underlying4 _), (trodAll_cons_mk (Below.trod laidOut (by kernel_rfl) (of_decide_eq_true (by kernel_rfl)) k0 bel lt0) (trodAll_cons_mk (Below.trod laidOut (by kernel_rfl) (of_decide_eq_true (by kernel_rfl)) k1 bel lt1) trodAll_mk0)), rfl, bel.frame _, fun h => by cases h⟩
theorem over : Rows.aeadMadeRow.holds Try.pinned (OpenSpec.ofChange Rows.aeadMadeSpec) :=
  OpenClaim.holds_of_wide 5 Try.f5 rfl rfl rfl rfl rfl rfl rfl ⟨rfl, rfl, rfl, rfl, rfl⟩ rfl rfl rfl rfl rfl (by kernel_rfl) Try.func5 (by kernel_rfl)
    (of_decide_eq_true (by kernel_rfl)) (by unfold Func.isWrapper; first | (rw [if_pos (by decide +kernel)]; kernel_rfl) | (rw [if_neg (by decide +kernel)]; exact ⟨rfl, rfl⟩))
    (fun os started H enc _ => lifted os started H enc)
theorem proved : Rows.AeadMadeSaid := over
#print axioms proved
end Go.Proofs.Ytnkldldojalklaa.aeadMade
namespace Go.Proofs.Ytnkldldojalklaa
/-- The law, under a short name, for the claim. -/
theorem aeadMade_holds : Rows.AeadMadeSaid := aeadMade.proved
end Go.Proofs.Ytnkldldojalklaa
