/- Lemmas and contracts for the proof of this seat's statements (Two). No condition. -/
import Derived.Test.YtnkldldojalklaaEScp
set_option linter.all false
namespace Go.Mc
variable {F : Fence} {P : Program} {n : Nat} {D : List Deferred} {L : List (Nat × Value)} {M : World → Prop} {ops : Array Oper}
variable {Q : Exit → Act → World → Prop} {C : World → Prop}
/-- a plan with one fork: quiet ones, then two effects in either order -/
def planB2 (ops : Array Oper) (i j : Nat) (pi pj : List (Nat × PK)) : List Nat → Array Bool → Bool
  | [], listed => decide (Region.ready .any ops listed = [i, j]) && planB ops pi (listed.setIfInBounds i true) && planB ops pj (listed.setIfInBounds j true) && pi.length == pj.length
  | k :: r, listed => (Region.ready .any ops listed).contains k && Region.free .any ops listed k && planB2 ops i j pi pj r (listed.setIfInBounds k true)
def WP2 (F : Fence) (P : Program) (ops : Array Oper) (Q : Exit → Act → World → Prop) (n : Nat) (D : List Deferred) (C : World → Prop) (i j : Nat) (pi pj : List (Nat × PK)) (pre : List Nat) (L : List (Nat × Value)) (M : World → Prop) : Prop :=
  Box (plainB ops = true → ∀ listed, lClosed ops listed → planB2 ops i j pi pj pre listed = true → ∀ a w, St n L D M a w → anyE F P ops (fun a w => Q .normal a w) C (pre.length + (1 + pi.length)) listed a w)

theorem wc_draw2 {id : Nat} {l : List Oper} (pre : List Nat) (i j : Nat) (pi pj : List (Nat × PK)) (hm : P.follows .mixedOrders = true) (hp : (plainB l.toArray && planB2 l.toArray i j pi pj pre (Array.replicate l.length false) && pre.length + (1 + pi.length) == l.length) = true) (hcl : Closed M)
    (h : WP2 F P l.toArray Q n D M i j pi pj pre L M) : WC F P Q n D (.region id l.toArray true) L M := by
  simp only [Bool.and_eq_true, beq_iff_eq] at hp
  obtain ⟨⟨h1, h2⟩, h3⟩ := hp
  refine .mk fun a w s => ?_
  refine wpIn_region_any hm (wpAnyIn_of_anyE _ M _ _ _ ?_)
  have := h.out h1 (Array.replicate l.length false) ⟨by simp, fun j oj _ hl => by
    rcases Nat.lt_or_ge j l.length with h' | h'
    · simp [h'] at hl
    · simp [h'] at hl⟩ h2 a { w with drawn := w.drawn + 1 } ⟨s.agr, s.dfr, hcl _ _ s.mem ⟨rfl, rfl, rfl, Nat.le_refl _, fun _ _ => rfl⟩⟩
  rw [h3] at this
  simpa using this
theorem wp2_q [Wide F] {k i j : Nat} {pi pj : List (Nat × PK)} {pre : List Nat} {o : Oper} {v : Value} (hi : ops[k]? = some o) (hC : Closed C) (hMC : ∀ w, M w → C w) (hM : Closed M) (hd : okDst o.dst n = true)
    (hy : Qt F P o n L C v) (hg : GOn ops L o.guard) (h : WP2 F P ops Q n D C i j pi pj pre (putL o.dst v L) M) : WP2 F P ops Q n D C i j pi pj (k :: pre) L M := by
  refine .mk fun hpl listed hlc hp a w s => ?_
  simp only [planB2, Bool.and_eq_true] at hp
  obtain ⟨⟨h1, h2⟩, h3⟩ := hp
  have hr : k ∈ Region.ready .any ops listed := by simpa using h1
  rw [show (k :: pre).length + (1 + pi.length) = (pre.length + (1 + pi.length)) + 1 by simp; omega]
  exact anyE_quiet hi (plainB_spec hpl) _ C listed a w hC hlc (Region.free_spec hi h2) hr (.inl ⟨wanted_on s.agr hg, fun w' hw' => hy.out a w' s.agr hw'⟩) (hMC _ s.mem)
    fun w2 he => h.out hpl _ (hlc.set hr) h3 _ w2 ⟨s.agr.putL _ hd _, (put_defers _ _ _).trans s.dfr, hM _ _ s.mem he⟩
/-- two effects, in either order; the class is kept -/
theorem wp2_two [Wide F] {i j : Nat} {pi pj : List (Nat × PK)} {o o' : Oper} {α β : Sort _} {V : α → Value} {M' : α → World → Prop} {V' : β → Value} {M'' : β → World → Prop} (hi : ops[i]? = some o) (hj : ops[j]? = some o')
    (hd : okDst o.dst n = true) (hn : isDefer o.op = false) (h : Eff F P o L M V M') (hg : GOn ops L o.guard)
    (hd' : okDst o'.dst n = true) (hn' : isDefer o'.op = false) (h' : Eff F P o' L M V' M'') (hg' : GOn ops L o'.guard) (hC : Closed C)
    (hMC : ∀ x w, M' x w → C w) (hM : ∀ x, Closed (M' x)) (hMC' : ∀ x w, M'' x w → C w) (hM' : ∀ x, Closed (M'' x))
    (k : ∀ x, WP F P ops Q n D C pi (putL o.dst (V x) L) (M' x)) (k' : ∀ x, WP F P ops Q n D C pj (putL o'.dst (V' x) L) (M'' x)) : WP2 F P ops Q n D C i j pi pj [] L M := by
  refine .mk fun hpl listed hlc hp a w s => ?_
  simp only [planB2, Bool.and_eq_true, decide_eq_true_eq, beq_iff_eq] at hp
  obtain ⟨⟨⟨h1, h3⟩, h4⟩, h5⟩ := hp
  have hri : i ∈ Region.ready .any ops listed := by rw [h1]; simp
  have hrj : j ∈ Region.ready .any ops listed := by rw [h1]; simp
  rw [show ([] : List Nat).length + (1 + pi.length) = pi.length + 1 by simp; omega]
  refine ⟨fun h => (by rw [h1] at h; cases h), fun q hq => ?_⟩
  rw [h1] at hq
  simp only [List.mem_cons, List.not_mem_nil, or_false] at hq
  rcases hq with rfl | rfl
  · unfold opE wpOpIn
    simp only [hi, wanted_on s.agr hg, if_true]
    refine ⟨fun f _ => Wide.fn f, ?_⟩
    rw [semAt_of hn]
    exact Eff.upon (h.out a.eval w s.agr.ev s.mem) fun x w' hm => .inr (.inr ⟨C, hC, fun _ h => h, hMC x _ hm, fun w2 he => (k x).out hpl _ (hlc.set hri) h3 _ w2 ⟨s.agr.putL _ hd _, (put_defers _ _ _).trans s.dfr, hM x _ _ hm he⟩⟩)
  · unfold opE wpOpIn
    simp only [hj, wanted_on s.agr hg', if_true]
    refine ⟨fun f _ => Wide.fn f, ?_⟩
    rw [semAt_of hn']
    rw [h5]
    exact Eff.upon (h'.out a.eval w s.agr.ev s.mem) fun x w' hm => .inr (.inr ⟨C, hC, fun _ h => h, hMC' x _ hm, fun w2 he => (k' x).out hpl _ (hlc.set hrj) h4 _ w2 ⟨s.agr.putL _ hd' _, (put_defers _ _ _).trans s.dfr, hM' x _ _ hm he⟩⟩)

/-- the chunks in the other order -/
theorem Mem.swap {w0 w : World} {own : List Nat} {A B : List Ch} (m : Mem w0 own (A ++ B) w) : Mem w0 own (B ++ A) w := by
  have hm : ∀ c, c ∈ B ++ A → c ∈ A ++ B := fun c hc => by
    rcases List.mem_append.1 hc with h | h
    · exact List.mem_append_right _ h
    · exact List.mem_append_left _ h
  refine ⟨m.os, m.tape, m.output, m.size, m.frame, fun c hc => m.sat c (hm c hc), ?_, fun c hc => m.mine c (hm c hc)⟩
  obtain ⟨h1, h2, h3⟩ := List.pairwise_append.1 m.apart
  exact List.pairwise_append.2 ⟨h2, h1, fun c hc d hd b hb hb' => h3 d hd c hc b hb' hb⟩
theorem Mem.pickT {w0 w : World} {own : List Nat} {A B A' : List Ch} (m : Mem w0 own (A ++ B) w) {is : List Nat} (hp : Picks is A A') (hn : is.Nodup) : Mem w0 own (A' ++ B) w := by
  have hA : Mem w0 own A w := ⟨m.os, m.tape, m.output, m.size, m.frame, fun c hc => m.sat c (List.mem_append_left _ hc), (List.pairwise_append.1 m.apart).1, fun c hc => m.mine c (List.mem_append_left _ hc)⟩
  have hA' := hA.pick hp hn
  obtain ⟨h1, h2, h3⟩ := List.pairwise_append.1 m.apart
  have hsub : ∀ c ∈ A', c ∈ A := fun c hc => by obtain ⟨i, _, h⟩ := hp.mem c hc; exact List.mem_of_getElem? h
  refine ⟨m.os, m.tape, m.output, m.size, m.frame, fun c hc => ?_, List.pairwise_append.2 ⟨hA'.apart, h2, fun c hc d hd => h3 c (hsub c hc) d hd⟩, fun c hc => ?_⟩
  · rcases List.mem_append.1 hc with h | h
    · exact hA'.sat c h
    · exact m.sat c (List.mem_append_right _ h)
  · rcases List.mem_append.1 hc with h | h
    · exact hA'.mine c h
    · exact m.mine c (List.mem_append_right _ h)
section
variable {w0 : World} {own : List Nat} {H : List Ch}
variable {d : Option Tmp} {ty : TypeId} {pos : String} {af : Array Edge} {g : Option (Nat × Bool)}
/-- a yield that is handed what stands behind A -/
theorem e_yieldS [Wide F] {x : Operand} {l : Nat} {args : Array Operand} {tys : Array TypeId} {vs : List Value} {α : Sort _} {V : α → Value} {B' : α → List Ch} (A B : List Ch) (hH : H = A ++ B) (hx : ev L x = some (.func (.yield l) #[] #[])) (ha : evs L args.toList = some vs)
    (hY : ∀ w, Mem w0 own (B ++ A) w → Yields P l vs w (Ret V (fun x => Mem w0 own (B' x ++ A)))) :
    Eff F P ⟨d, .call ⟨.value x, args, tys⟩, ty, pos, af, g⟩ L (Mem w0 own H) V (fun x => Mem w0 own (A ++ B' x)) := by
  subst hH
  exact e_yield hx ha fun w m => (hY w m.swap).mono fun e w' ⟨x, he, hm⟩ => ⟨x, he, hm.swap⟩
end
end Go.Mc
