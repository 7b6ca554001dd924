/- Lemmas and contracts for the proof of this seat's statements (Range). No condition. -/
import Derived.Test.YtnkldldojalklaaEArr
import Derived.RangeFuncLeaves
import Derived.RangeFuncRecord
set_option linter.all false
namespace Go.Mc
section
variable {F : Fence} {P : Program} {Q : Exit → Act → World → Prop} {n : Nat} {D : List Deferred} {L : List (Nat × Value)} {M : World → Prop} {w0 : World} {own : List Nat} {H : List Ch}

/-- an object that is no cells is set -/
theorem upd_putObj {w : World} {b : Nat} {o o' : Obj} (h : w.heap[b]? = some o) : Upd w (w.putObj b o') b o' := by
  have hlt := (Array.getElem?_eq_some_iff.1 h).1
  refine ⟨rfl, rfl, rfl, by simp [World.putObj], by simp [World.putObj, hlt], fun k hk => ?_⟩
  simp only [World.putObj]
  rw [Array.getElem?_setIfInBounds_ne (fun e => hk e.symm)]

theorem roundIn_any [Wide F] {l : Nat} {f : FuncId} {tmps : Array Value} {assign body : Code} {w : World} {R : Ending → World → Prop} (h : RoundIn Fence.wide 0 P l f tmps assign body w R) : RoundIn F 0 P l f tmps assign body w R := by
  refine ⟨Wide.fn f, fun c cs _ => ?_⟩
  obtain ⟨e, w', r, s⟩ := h.2 c cs (room_wide _)
  refine ⟨e, w', r, ?_⟩
  cases e with
  | returned v => exact StepsIn.mono (fun m _ => fenced_all P m) s
  | panicked c => exact StepsIn.mono (fun m _ => fenced_all P m) s
  | outgrown => exact s

def setParams (ps : Array Tmp) (args : List Value) (tm : Array Value) : Array Value := (ps.zip args.toArray).foldl (fun tmps (t, a) => tmps.setIfInBounds t a) tm

/-- a call of yield comes to this -/
def Yields (P : Program) (l : Nat) (args : List Value) (w : World) (R : Ending → World → Prop) : Prop :=
  ∃ r : Loop, w.heap[l]? = some (.loop r) ∧ args.length = r.params.size ∧ RoundIn Fence.wide 0 P l r.fn (setParams r.params args r.tmps) r.assign r.body w R

theorem Yields.mono {l : Nat} {args : List Value} {w : World} {R R' : Ending → World → Prop} (h : Yields P l args w R) (hr : ∀ e w', R e w' → R' e w') : Yields P l args w R' :=
  let ⟨r, h1, h2, h3⟩ := h; ⟨r, h1, h2, RoundIn.mono h3 hr⟩

section
variable {d : Option Tmp} {ty : TypeId} {pos : String} {af : Array Edge} {g : Option (Nat × Bool)}
theorem e_yield [Wide F] {x : Operand} {l : Nat} {args : Array Operand} {tys : Array TypeId} {vs : List Value} {α : Sort _} {V : α → Value} {M' : α → World → Prop} (hx : ev L x = some (.func (.yield l) #[] #[])) (ha : evs L args.toList = some vs) (hY : ∀ w, M w → Yields P l vs w (Ret V M')) :
    Eff F P ⟨d, .call ⟨.value x, args, tys⟩, ty, pos, af, g⟩ L M V M' := .mk fun ρ w he hM => by
  have h1 : args.map ρ = vs.toArray := by have := he.evs ha; rw [← this, ← List.map_toArray]
  obtain ⟨r, hr, hn, hround⟩ := hY w hM
  have : (execOp ρ ⟨d, .call ⟨.value x, args, tys⟩, ty, pos, af, g⟩).run P w = .ok (.round l r.fn (setParams r.params vs r.tmps) r.assign r.body) w := by
    simp [execOp, resolve, h1, he _ _ hx, Deferred.ofValue, invoke, Instr.yield, Instr.getLoop, getObj, Sem.run, hr, Result.andThen, hn, setParams]
  rw [this]
  exact roundIn_any hround
end

theorem wl_yield_dummy : True := trivial

/-- the fence of a round -/
abbrev rw_ (l : Nat) : Fence := Fence.wide.inRound l

/-- behind the assignment to the loop's variables -/
def BeginQ (P : Program) (l : Nat) (body : Code) (R : Ending → World → Prop) : Exit → Act → World → Prop :=
  Exit.then (fun a₁ w₁ => ∃ w₂, (Instr.beginRound l).run P w₁ = .ok () w₂ ∧ body.wpIn (rw_ l) 0 P (roundPost P l R) a₁ w₂) (fun _ _ _ => False)

theorem run_getLoop {l : Nat} {r : Loop} {w : World} (h : w.heap[l]? = some (.loop r)) : (Instr.getLoop l).run P w = .ok r w := by
  simp [Instr.getLoop, getObj, Sem.run, h, Result.andThen]
theorem run_setObj {l : Nat} {o o' : Obj} {w : World} (h : w.heap[l]? = some o) (hc : ∀ c e f, o ≠ .cells c e f) : (setObj l o').run P w = .ok () (w.putObj l o') := by
  simp only [setObj, Sem.run, h]
  cases o <;> first | rfl | exact absurd rfl (hc _ _ _)

theorem aq_begin {l i : Nat} {r : Loop} {body : Code} {R : Ending → World → Prop} {H' : List Ch} (hi : H[i]? = some (.blk l (.loop r))) (hst : r.state = .ready) (hH : SetAt H i (.blk l (.loop { r with state := .busy })) H')
    (h : WC (rw_ l) P (roundPost P l R) n [] body L (Mem w0 own H')) : AQ (BeginQ P l body R) .normal n [] L (Mem w0 own H) := .mk fun a w s => by
  have hb := s.mem.blk hi
  refine ⟨w.putObj l (.loop { r with state := .busy }), ?_, h.out a _ ⟨s.agr, s.dfr, hH.eq ▸ s.mem.upd hi (upd_putObj hb)⟩⟩
  simp only [Instr.beginRound, Sem.run_bind, run_getLoop hb, Result.andThen_ok, run_setObj hb (by simp), hst, Sem.run_pure]
theorem run_endRound {l : Nat} {r : Loop} {w : World} {j : Option Code} (h : w.heap[l]? = some (.loop r)) : (Instr.endRound l j).run P w = .ok (.bool j.isNone) (w.putObj l (.loop { r with state := if j.isNone then .ready else .done, pending := j })) := by
  simp only [Instr.endRound, Sem.run_bind, run_getLoop h, Result.andThen_ok, run_setObj h (by simp), Sem.run_pure]
theorem aq_round_next {l i : Nat} {r : Loop} {R : Ending → World → Prop} {H' : List Ch} (hi : H[i]? = some (.blk l (.loop r))) (hH : SetAt H i (.blk l (.loop { r with state := .ready, pending := none })) H')
    (hR : ∀ w, Mem w0 own H' w → R (.returned (.bool true)) w) : AQ (roundPost P l R) .normal n D L (Mem w0 own H) := .mk fun a w s => by
  have hb := s.mem.blk hi
  exact ⟨_, _, run_endRound hb, hR _ (hH.eq ▸ s.mem.upd hi (upd_putObj hb))⟩
theorem aq_round_exit {l i id : Nat} {r : Loop} {R : Ending → World → Prop} {H' : List Ch} (hi : H[i]? = some (.blk l (.loop r))) (hH : SetAt H i (.blk l (.loop { r with state := .done, pending := some (.exit id) })) H')
    (hR : ∀ w, Mem w0 own H' w → R (.returned (.bool false)) w) : AQ (roundPost P l R) (.exit id) n D L (Mem w0 own H) := .mk fun a w s => by
  have hb := s.mem.blk hi
  exact ⟨_, _, run_endRound hb, hR _ (hH.eq ▸ s.mem.upd hi (upd_putObj hb))⟩
theorem aq_round_ret {l i : Nat} {r : Loop} {R : Ending → World → Prop} {H' : List Ch} (hi : H[i]? = some (.blk l (.loop r))) (hH : SetAt H i (.blk l (.loop { r with state := .done, pending := some .ret })) H')
    (hR : ∀ w, Mem w0 own H' w → R (.returned (.bool false)) w) : AQ (roundPost P l R) .ret n D L (Mem w0 own H) := .mk fun a w s => by
  have hb := s.mem.blk hi
  exact ⟨_, _, run_endRound hb, hR _ (hH.eq ▸ s.mem.upd hi (upd_putObj hb))⟩

/-- the temporaries that a loop's record keeps -/
def Kept (n : Nat) (L : List (Nat × Value)) (tm : Array Value) : Prop := Agr n L ⟨tm, []⟩
theorem Kept.set1 {tm : Array Value} (h : Kept n L tm) {p : Tmp} (hp : Nat.blt p n = true) (v : Value) : Agr n ((p, v) :: L) { tmps := setParams #[p] [v] tm, defers := [] } := by
  have := h.putL (some p) hp v
  simpa [setParams, putL, Act.put] using this
theorem Kept.set0 {tm : Array Value} (h : Kept n L tm) : Agr n L { tmps := setParams #[] [] tm, defers := [] } := by simpa [setParams, Kept] using h

/-- a round, out of its code -/
theorem yields_of {l i : Nat} {r : Loop} {vs : List Value} {w : World} {R : Ending → World → Prop} (m : Mem w0 own H w) (hi : H[i]? = some (.blk l (.loop r))) (hn : vs.length = r.params.size) (hag : Agr n L { tmps := setParams r.params vs r.tmps, defers := [] })
    (h : WC (rw_ l) P (BeginQ P l r.body R) n [] r.assign L (Mem w0 own H)) : Yields P l vs w R :=
  ⟨r, m.blk hi, hn, roundIn_of_wpIn (F := Fence.wide) trivial (h.out _ _ ⟨hag, rfl, m⟩)⟩

abbrev markOf (b : Nat) : Deferred := { target := .collected b, args := #[] }
abbrev loopRec (fn : FuncId) (tm : Array Value) (ps : Array Tmp) (assign body : Code) (b : Nat) (s : LoopState) (p : Option Code) : Obj := .loop { state := s, pending := p, fn, tmps := tm, params := ps, assign, body, defers := b }

/-- for .. := range g { .. }, outside of a round -/
theorem wc_range {g : Operand} {ps : Array Tmp} {assign body : Code} {gf : FuncId} {first cap : Array Value} {α : Sort _} (V : α → Value) (H2 : Nat → Nat → Array Value → FuncId → α → List Ch) (J : α → Option Code) (idx : α → Nat)
    (hg : ev L g = some (.func (.func gf) first cap)) (hcf : cfB P gf = true)
    (hcall : ∀ b l tm fn w, Kept n L tm → Mem w0 own (.blk l (loopRec fn tm ps assign body b .ready none) :: .blk b (.deferred (some [])) :: H) w → Calls P gf (first ++ #[.func (.yield l) #[] #[]] ++ cap) w (Ret V (fun x => Mem w0 own (H2 b l tm fn x))))
    (hend : ∀ b l tm fn x, ∃ s, s ≠ .busy ∧ (H2 b l tm fn x)[idx x]? = some (.blk l (loopRec fn tm ps assign body b s (J x))))
    (k : ∀ b l tm fn x, match J x with
      | none => AQ Q .normal n (markOf b :: D) L (Mem w0 own ((H2 b l tm fn x).set (idx x) (.blk l (loopRec fn tm ps assign body b .exhausted (J x)))))
      | some c => WC Fence.wide P Q n (markOf b :: D) c L (Mem w0 own ((H2 b l tm fn x).set (idx x) (.blk l (loopRec fn tm ps assign body b .exhausted (J x)))))) :
    WC Fence.wide P Q n D (.rangeFunc g ps assign body) L (Mem w0 own H) := by
  refine .mk fun a w s => ?_
  refine wpIn_rangeFunc fun fn _ => ?_
  have hga : a.eval g = .func (.func gf) first cap := s.agr.ev _ _ hg
  have m1 := s.mem.alloc (.deferred (some []))
  have m2 := m1.alloc (loopRec fn a.tmps ps assign body w.heap.size .ready none)
  have hsz : (w.alloc (.deferred (some []))).heap.size = w.heap.size + 1 := by simp
  refine ⟨w.heap.size + 1, [markOf w.heap.size], (w.alloc (.deferred (some []))).alloc (loopRec fn a.tmps ps assign body w.heap.size .ready none), ⟨.fn (.func gf) cap, first ++ #[.func (.yield (w.heap.size + 1)) #[] #[]]⟩, (w.alloc (.deferred (some []))).alloc (loopRec fn a.tmps ps assign body w.heap.size .ready none), gf, first ++ #[.func (.yield (w.heap.size + 1)) #[] #[]] ++ cap, (w.alloc (.deferred (some []))).alloc (loopRec fn a.tmps ps assign body w.heap.size .ready none), ?_, ?_, fun _ _ => trivial, ?_, fun h => (by cases h), callsIn_of_calls ?_⟩
  · simp [Instr.enterLoop, Fence.wide]
  · have : Act.eval a (.const (.func (.yield (w.heap.size + 1)) #[] #[])) = .func (.yield (w.heap.size + 1)) #[] #[] := rfl
    simp [resolve, hga, this, Deferred.ofValue]
  · exact run_callFunc hcf
  · rw [hsz] at m2
    refine (hcall w.heap.size (w.heap.size + 1) a.tmps fn _ ⟨s.agr.size, s.agr.at_⟩ m2).mono fun e w3 ⟨x, he, hm⟩ => ?_
    subst he
    obtain ⟨st, hst, hi⟩ := hend w.heap.size (w.heap.size + 1) a.tmps fn x
    have hb := hm.blk hi
    have hm4 := hm.upd hi (upd_putObj (o' := loopRec fn a.tmps ps assign body w.heap.size .exhausted (J x)) hb)
    refine ⟨J x, w3.putObj (w.heap.size + 1) (loopRec fn a.tmps ps assign body w.heap.size .exhausted (J x)), ?_, ?_⟩
    · have hne : (st == LoopState.busy) = false := by cases st <;> first | rfl | exact absurd rfl hst
      simp only [Instr.endLoop, Sem.run_bind, run_getLoop hb, Result.andThen_ok, hne, Bool.false_eq_true, if_false, run_setObj hb (by simp), Sem.run_pure]
    · have hk := k w.heap.size (w.heap.size + 1) a.tmps fn x
      have st' : St n L (markOf w.heap.size :: D) (Mem w0 own ((H2 w.heap.size (w.heap.size + 1) a.tmps fn x).set (idx x) (.blk (w.heap.size + 1) (loopRec fn a.tmps ps assign body w.heap.size .exhausted (J x))))) { a with defers := [markOf w.heap.size] ++ a.defers } (w3.putObj (w.heap.size + 1) (loopRec fn a.tmps ps assign body w.heap.size .exhausted (J x))) :=
        ⟨⟨s.agr.size, s.agr.at_⟩, by simp [s.dfr], hm4⟩
      cases hj : J x with
      | none => rw [hj] at hk st'; simp only at hk; exact hk.out _ _ st'
      | some c => rw [hj] at hk st'; simp only at hk; exact hk.out _ _ st'

/-! a function whose body holds such loops -/
abbrev postM (P : Program) (fn : Func) (R : Ending → World → Prop) : Exit → Act → World → Prop := bodyPostM Fence.wide 0 P fn R
theorem calls_ofM {f : FuncId} {fn : Func} {c : Code} {args : Array Value} {w : World} {R : Ending → World → Prop} {m : Nat}
    (hf : P.funcs[f]? = some fn) (hb : fn.body = some c) (hm : fn.ntmps = m) (hL : ArgsAt args L) (hle : args.size ≤ m) (hM : M w)
    (h : WC Fence.wide P (postM P fn R) m [] c L M) : Calls P f args w R := by
  refine (callsIn_wide (n := 0)).1 (callsIn_of_wp_marks hf hb trivial (h.out _ _ ⟨?_, rfl, hM⟩) rfl)
  subst hm
  exact agr_enter hL hle

theorem aq_returnM0 {fn : Func} {R : Ending → World → Prop} {rs : List ResultVar} {vs : List Value} {e : Exit} (he : e = .ret ∨ e = .normal) (hr : fn.results = rs.toArray) (h : ResM P L M rs vs) (hR : ∀ w, M w → R (.returned (tup vs)) w) :
    AQ (postM P fn R) e n [] L M := .mk fun a w s => by
  have key : LeavesInM Fence.wide 0 P fn a.tmps R a.defers .returning w := by
    rw [s.dfr]; exact ⟨_, run_results hr s.agr s.mem h, hR w s.mem⟩
  rcases he with rfl | rfl <;> exact key
theorem aq_returnM1 {fn : Func} {R : Ending → World → Prop} {rs : List ResultVar} {vs : List Value} {e : Exit} {b i : Nat} {H' : List Ch} (he : e = .ret ∨ e = .normal) (hi : H[i]? = some (.blk b (.deferred (some [])))) (hH : SetAt H i (.blk b (.deferred none)) H') (hr : fn.results = rs.toArray) (h : ResM P L (Mem w0 own H') rs vs) (hR : ∀ w, Mem w0 own H' w → R (.returned (tup vs)) w) :
    AQ (postM P fn R) e n [markOf b] L (Mem w0 own H) := .mk fun a w s => by
  have hb := s.mem.blk hi
  have m' : Mem w0 own H' (w.putObj b (.deferred none)) := hH.eq ▸ s.mem.upd hi (upd_putObj hb)
  have key : LeavesInM Fence.wide 0 P fn a.tmps R a.defers .returning w := by
    rw [s.dfr]
    exact ⟨by simp, .inl ⟨b, _, rfl, run_takeDeferred hb, _, run_results hr s.agr m' h, hR _ m'⟩⟩
  rcases he with rfl | rfl <;> exact key

section
variable {d : Option Tmp} {ty : TypeId} {pos : String} {af : Array Edge} {g : Option (Nat × Bool)}
/-- a call that is handed the chunks Hp -/
theorem e_callM [Wide F] {f : FuncId} {args : Array Operand} {tys : Array TypeId} {vs : List Value} {α : Sort _} {V : α → Value} {H' : α → List Ch} (is : List Nat) (Hp Hr : List Ch) (hp : Picks is H (Hp ++ Hr)) (hn : is.Nodup) (hf : cfB P f = true) (ha : evs L args.toList = some vs) (own' : List Nat) (ho : own' = Hp.flatMap Ch.keys)
    (hc : ∀ w, Mem w0 own (Hp ++ Hr) w → Calls P f vs.toArray w (Ret V (fun x => Mem w own' (H' x)))) :
    Eff F P ⟨d, .call ⟨.value (.func f), args, tys⟩, ty, pos, af, g⟩ L (Mem w0 own H) V (fun x => Mem w0 own (H' x ++ Hr)) :=
  e_call hf ha fun w m => (hc w (m.pick hp hn)).mono fun e w' ⟨x, he, hm⟩ => ⟨x, he, (m.pick hp hn).call hm fun b hb => by subst ho; obtain ⟨c, h1, h2⟩ := List.mem_flatMap.1 hb; exact ⟨c, h1, h2⟩⟩
theorem e_callvM [Wide F] {x : Operand} {f : FuncId} {first cap : Array Value} {args : Array Operand} {tys : Array TypeId} {vs : List Value} {α : Sort _} {V : α → Value} {H' : α → List Ch} (hx : ev L x = some (.func (.func f) first cap)) (is : List Nat) (Hp Hr : List Ch) (hp : Picks is H (Hp ++ Hr)) (hn : is.Nodup) (hf : cfB P f = true) (ha : evs L args.toList = some vs) (own' : List Nat) (ho : own' = Hp.flatMap Ch.keys)
    (hc : ∀ w, Mem w0 own (Hp ++ Hr) w → Calls P f (first ++ vs.toArray ++ cap) w (Ret V (fun x => Mem w own' (H' x)))) :
    Eff F P ⟨d, .call ⟨.value x, args, tys⟩, ty, pos, af, g⟩ L (Mem w0 own H) V (fun x => Mem w0 own (H' x ++ Hr)) :=
  e_callv hx hf ha fun w m => (hc w (m.pick hp hn)).mono fun e w' ⟨x, he, hm⟩ => ⟨x, he, (m.pick hp hn).call hm fun b hb => by subst ho; obtain ⟨c, h1, h2⟩ := List.mem_flatMap.1 hb; exact ⟨c, h1, h2⟩⟩
theorem e_call0 [Wide F] {f : FuncId} {args : Array Operand} {tys : Array TypeId} {vs : List Value} {α : Sort _} {V : α → Value} {H' : α → List Ch} (hf : cfB P f = true) (ha : evs L args.toList = some vs)
    (hc : ∀ w, Mem w0 own H w → Calls P f vs.toArray w (Ret V (fun x => Mem w [] (H' x)))) :
    Eff F P ⟨d, .call ⟨.value (.func f), args, tys⟩, ty, pos, af, g⟩ L (Mem w0 own H) V (fun x => Mem w0 own (H' x ++ H)) :=
  e_call hf ha fun w m => (hc w m).mono fun e w' ⟨x, he, hm⟩ => ⟨x, he, m.call0 hm⟩
theorem e_callv0 [Wide F] {x : Operand} {f : FuncId} {first cap : Array Value} {args : Array Operand} {tys : Array TypeId} {vs : List Value} {α : Sort _} {V : α → Value} {H' : α → List Ch} (hx : ev L x = some (.func (.func f) first cap)) (hf : cfB P f = true) (ha : evs L args.toList = some vs)
    (hc : ∀ w, Mem w0 own H w → Calls P f (first ++ vs.toArray ++ cap) w (Ret V (fun x => Mem w [] (H' x)))) :
    Eff F P ⟨d, .call ⟨.value x, args, tys⟩, ty, pos, af, g⟩ L (Mem w0 own H) V (fun x => Mem w0 own (H' x ++ H)) :=
  e_callv hx hf ha fun w m => (hc w m).mono fun e w' ⟨x, he, hm⟩ => ⟨x, he, m.call0 hm⟩
end
end
end Go.Mc
