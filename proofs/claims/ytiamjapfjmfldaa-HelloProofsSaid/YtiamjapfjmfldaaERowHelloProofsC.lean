/- The proof of whatever was said is the chapter's; for every input. No condition. -/
import Derived.Test.YtiamjapfjmfldaaRows
import Derived.Test.YtiamjapfjmfldaaEArg
import Derived.Test.YtiamjapfjmfldaaELaw17pC
set_option linter.all false
set_option linter.unusedVariables false
set_option linter.unusedSimpArgs false
namespace Go.Proofs.Ytiamjapfjmfldaa.helloProofs
open Go.Mc Go.ChangeShapes Go.WideShapes Go.ChangeAt Go.RowKit
theorem own : ownKnob Try.prog.godebug = none := by kernel_rfl
theorem laidOut : laidOutB Try.prog = true := by kernel_rfl
theorem ce5 : Try.prog.cellsOf 5 = 1 := by kernel_rfl
theorem bo5 : Try.prog.bytesOf 5 = 1 := by kernel_rfl
set_option maxRecDepth 100000 in
theorem lifted (os : Os) (started : os.Started) (H : Type) (enc : TypeId × Value → H) :
    ReturnsInHanded {} Try.checked os 3 .any (Rows.helloProofsSpec.pre6 enc Try.prog Try.f3 Rows.helloProofsRow.domain false) (Rows.helloProofsSpec.post enc Try.prog Try.f3 false true false false) := by
  refine returnsInHanded_of_change_sized (C := Try.checked) own started (by kernel_rfl) Try.func3
    (ChangeSpec.witness6 (enc := enc) (C := Try.checked) false ⟨#[], #[.slice none 0 0, .slice none 0 0, .bool false], []⟩ 8 (by kernel_rfl) (by kernel_rfl) (by kernel_rfl) (by kernel_rfl)) ?_
  intro W base args ds gs before hval0 hW hcnd hsz0 _
  have hsz : (DataW.weightsEach Try.prog (Try.f3.params.toList ++ Rows.helloProofsSpec.plain.varTypes Try.prog) (ds ++ gs)).all (· ≤ reachBytes) = true := hsz0
  have hval : ∀ (j : Nat) t v, Try.f3.params[j]? = some t → args[j]? = some v → Value.okWide Try.prog W .any base t v := hval0
  have hW' := hW
  obtain ⟨p, q, hA0, hV, rfl, hfz, hnd⟩ := hW
  have hA : DataW.TrodAll enc Try.prog W 0 (fun _ => true) true Try.f3.params.toList args.toList ds p := hA0
  rw [Try.params3] at hA hval hsz
  obtain ⟨v0, vs0, d0, ds0, p0, q0, hargs, rfl, rfl, h0, r0⟩ := trodAll_cons hA
  obtain ⟨v1, vs1, d1, ds1, p1, q1, rfl, rfl, rfl, h1, r1⟩ := trodAll_cons r0
  obtain ⟨v2, vs2, d2, ds2, p2, q2, rfl, rfl, rfl, h2, r2⟩ := trodAll_cons r1
  obtain ⟨rfl, rfl, rfl⟩ := trodAll_nil r2
  obtain rfl : args = #[v0, v1, v2] := by cases args; simp_all
  obtain ⟨rfl, rfl⟩ := trodVars_none hV
  have k0 := h0
  have lt0 : ∀ x ∈ p0, x.block < W.heap.size := by obtain ⟨m, hm⟩ := k0; exact DataW.trod_lt m _ _ _ hm
  have w0 := lt_each hsz (j := 0) (t := 22) rfl rfl
  obtain ⟨g0, t0⟩ := o_vals Try.underlying22 (hval 0 22 v0 rfl rfl) h0
  obtain ⟨ad0, n0, c0, xs0, e0, hr0, hc0, hb0⟩ := o_bytes Try.underlying22 Try.underlying5 ce5 bo5 t0 w0
  obtain rfl : v0 = .slice ad0 n0 c0 := (List.cons.inj e0).1
  have k1 := h1
  have lt1 : ∀ x ∈ p1, x.block < W.heap.size := by obtain ⟨m, hm⟩ := k1; exact DataW.trod_lt m _ _ _ hm
  have w1 := lt_each hsz (j := 1) (t := 22) rfl rfl
  obtain ⟨g1, t1⟩ := o_vals Try.underlying22 (hval 1 22 v1 rfl rfl) h1
  obtain ⟨ad1, n1, c1, xs1, e1, hr1, hc1, hb1⟩ := o_bytes Try.underlying22 Try.underlying5 ce5 bo5 t1 w1
  obtain rfl : v1 = .slice ad1 n1 c1 := (List.cons.inj e1).1
  obtain ⟨a2, rfl, rfl, rfl⟩ := open_bool Try.underlying4 (hval 2 4 v2 rfl rfl) h2
  clear hA0 hval0 hsz0 hsz
  refine (law17p_ok W ad0 ad1 n0 c0 n1 c1 xs0 xs1 a2 hr0 hr1 (by omega) (by omega) (by omega) (by omega)).mono fun e W' ⟨u_, he, hm⟩ => ?_
  subst he
  have bel := hm.below
  exact ⟨_, rfl, _, _, _, [], _, [], hW', trodAll_mk1 (shut_bool Try.underlying4 _), (trodAll_cons_mk (Below.trod laidOut (by kernel_rfl) (of_decide_eq_true (by kernel_rfl)) k0 bel lt0) (trodAll_cons_mk (Below.trod laidOut (by kernel_rfl) (of_decide_eq_true (by kernel_rfl)) k1 bel lt1) (trodAll_cons_mk (shut_bool Try.underlying4 _) trodAll_mk0))), rfl, bel.frame _, fun h => by cases h⟩
theorem over : Rows.helloProofsRow.holds Try.pinned (OpenSpec.ofChange Rows.helloProofsSpec) :=
  OpenClaim.holds_of_wide 3 Try.f3 rfl rfl rfl rfl rfl rfl rfl ⟨rfl, rfl, rfl, rfl, rfl⟩ rfl rfl rfl rfl rfl (by kernel_rfl) Try.func3 (by kernel_rfl)
    (of_decide_eq_true (by kernel_rfl)) (by unfold Func.isWrapper; first | (rw [if_pos (by decide +kernel)]; kernel_rfl) | (rw [if_neg (by decide +kernel)]; exact ⟨rfl, rfl⟩))
    (fun os started H enc _ => lifted os started H enc)
theorem proved : Rows.HelloProofsSaid := over
#print axioms proved
end Go.Proofs.Ytiamjapfjmfldaa.helloProofs
namespace Go.Proofs.Ytiamjapfjmfldaa
/-- The law, under a short name, for the claim. -/
theorem helloProofs_holds : Rows.HelloProofsSaid := helloProofs.proved
end Go.Proofs.Ytiamjapfjmfldaa
