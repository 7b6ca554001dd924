/- Regions whose order is open. No condition. -/
import Derived.Test.YtnkldldojalklaaEMOps
import Derived.OrdersIn
set_option linter.all false
namespace Go.Mc
open Go.RowKit (Below)
variable {F : Fence} {P : Program} {n : Nat} {D : List Deferred} {L : List (Nat × Value)} {M : World → Prop} {ops : Array Oper}

abbrev Ext (w w' : World) : Prop := Below w.heap.size w w'
theorem Ext.refl (w : World) : Ext w w := Below.refl _ _
theorem Ext.trans {a b c : World} (h : Ext a b) (k : Ext b c) : Ext a c := Below.trans h (k.mono h.size)
def Closed (C : World → Prop) : Prop := ∀ w w', C w → Ext w w' → C w'

theorem Mem.ext {w0 w w' : World} {own : List Nat} {H : List Ch} (m : Mem w0 own H w) (h : Ext w w') : Mem w0 own H w' := by
  refine ⟨h.os.trans m.os, h.tape.trans m.tape, h.output.trans m.output, Nat.le_trans m.size h.size, ?_, ?_, m.apart, m.mine⟩
  · intro b hb ho; rw [h.block b (Nat.lt_of_lt_of_le hb m.size), m.frame b hb ho]
  · exact fun c hc => Ch.sat_of (m.sat c hc) fun b hb => h.block b (m.key_lt hc hb)
theorem Mem.closed {w0 : World} {own : List Nat} {H : List Ch} : Closed (Mem w0 own H) := fun _ _ m h => m.ext h
theorem Closed.and {C C' : World → Prop} (h : Closed C) (h' : Closed C') : Closed (fun w => C w ∧ C' w) := fun w w' m e => ⟨h w w' m.1 e, h' w w' m.2 e⟩

/-- one operation, no panic -/
def opE (F : Fence) (P : Program) (ops : Array Oper) (i : Nat) (K : Act → World → Prop) (a : Act) (w : World) : Prop := wpOpIn F 0 P ops (fun _ _ _ => False) i K a w

theorem uponIn_mono {o : Oper} {a : Act} {K K' : Act → World → Prop} {Q : Exit → Act → World → Prop} (h : ∀ a w, K a w → K' a w) {r : Result Next} (hh : o.uponIn F 0 P a K (fun _ _ _ => False) r) : o.uponIn F 0 P a K' Q r := by
  cases r with
  | ok x w' =>
    cases x <;> simp only [Oper.uponIn] at hh ⊢ <;>
      first
        | exact h _ _ hh
        | exact ⟨hh.1, CallsIn.mono hh.2 (fun e w'' he => by cases e <;> first | exact h _ _ he | exact he.elim | exact (let ⟨_, _, h⟩ := he; h.elim))⟩
        | exact ⟨hh.1, RowsIn.mono hh.2 (fun _ _ he => h _ _ he)⟩
        | exact ⟨hh.1, RoundIn.mono hh.2 (fun e w'' he => by cases e <;> first | exact h _ _ he | exact he.elim | exact (let ⟨_, _, h⟩ := he; h.elim))⟩
  | halt x w' => cases x <;> simp only [Oper.uponIn] at hh ⊢ <;> exact hh.elim

theorem opE_mono {i : Nat} {a : Act} {w : World} {K K' : Act → World → Prop} {Q : Exit → Act → World → Prop} (h : ∀ a w, K a w → K' a w) (hh : opE F P ops i K a w) : wpOpIn F 0 P ops Q i K' a w := by
  unfold opE wpOpIn at *
  split
  · exact h _ _ (by simpa [*] using hh)
  · rename_i o ho
    simp only [ho] at hh
    split
    · rename_i hw; simp only [hw, if_true] at hh; exact ⟨hh.1, uponIn_mono h hh.2⟩
    · rename_i hw; simp only [hw] at hh; exact ⟨hh.1, h _ _ hh.2⟩

/-- the value is v in every world of C, and old memory is left -/
def qUpon (F : Fence) (P : Program) (w : World) (v : Value) : Result Next → Prop
  | .ok (.value u) w' => u = v ∧ Ext w w'
  | .ok .skip w' => v = undef ∧ Ext w w'
  | .ok (.enter f args) w' => w' = w ∧ CallsIn F 0 P f args w (fun e w'' => e = .returned v ∧ Ext w w'')
  | _ => False

def YE (F : Fence) (P : Program) (ops : Array Oper) (C : World → Prop) (o : Oper) (v : Value) (a : Act) : Prop :=
  (Region.wanted o (yielded ops a.tmps) = true ∧ ∀ w, C w → qUpon F P w v ((execOp a.eval o).run P w)) ∨ (Region.wanted o (yielded ops a.tmps) = false ∧ v = undef)

theorem YE.opE [Wide F] {i : Nat} {o : Oper} {v : Value} {a : Act} {C : World → Prop} (hi : ops[i]? = some o) (hn : isDefer o.op = false) (hy : YE F P ops C o v a) {K : Act → World → Prop} {w : World} (hw : C w) (h : ∀ w', Ext w w' → K (a.put o.dst v) w') : opE F P ops i K a w := by
  unfold Mc.opE wpOpIn
  simp only [hi]
  rcases hy with ⟨hwt, hv⟩ | ⟨hwt, rfl⟩
  · simp only [hwt, if_true]
    refine ⟨fun f _ => Wide.fn f, ?_⟩
    rw [semAt_of hn]
    have h3 := hv w hw
    generalize (execOp a.eval o).run P w = r at *
    cases r with
    | ok x w' =>
      cases x <;> simp only [qUpon] at h3 <;> simp only [Oper.uponIn]
      case value u => obtain ⟨rfl, e⟩ := h3; exact h _ e
      case skip => obtain ⟨rfl, e⟩ := h3; exact h _ e
      case enter f args =>
        obtain ⟨rfl, hc⟩ := h3
        exact ⟨fun hd => (by rw [Wide.depth] at hd; cases hd), CallsIn.mono hc fun e w'' hx => by obtain ⟨rfl, hx⟩ := hx; exact h _ hx⟩
    | halt x w' => simp only [qUpon] at h3
  · simp only [hwt, Bool.false_eq_true, if_false]; exact ⟨fun f _ => Wide.fn f, h _ (Ext.refl _)⟩

theorem YE.mono {o : Oper} {v : Value} {a : Act} {C C' : World → Prop} (h : ∀ w, C' w → C w) (hy : YE F P ops C o v a) : YE F P ops C' o v a :=
  hy.imp (fun ⟨x, y⟩ => ⟨x, fun w hw => y w (h w hw)⟩) id

theorem YE.of_same {o : Oper} {v : Value} {a a' : Act} {C : World → Prop} (hy : YE F P ops C o v a) (he : execOp a'.eval o = execOp a.eval o)
    (hw : Region.wanted o (yielded ops a'.tmps) = Region.wanted o (yielded ops a.tmps)) : YE F P ops C o v a' := by
  unfold YE at *; rw [he, hw]; exact hy

theorem isSelect_ne {o : Oper} (h : isSelect o.op = false) : ∀ cs b, o.op ≠ .select cs b := fun cs b e => by rw [e] at h; cases h

theorem opE_put [Wide F] {j : Nat} {oi oj : Oper} {v : Value} {C : World → Prop} (hj : ops[j]? = some oj) (hap : oi.apart ops oj = true)
    (hsi : isSelect oi.op = false) (hsj : isSelect oj.op = false) (hdj : isDefer oj.op = false) {K : Act → World → Prop} {a : Act} {w : World}
    (hy : YE F P ops C oi v a) (h : opE F P ops j K (a.put oi.dst v) w) :
    opE F P ops j (fun a' w' => YE F P ops C oi v a' ∧ K (a'.put oi.dst v) w') a w := by
  obtain ⟨h1, h2, h3⟩ := Oper.apart_spec hap
  have keep : ∀ (a : Act), YE F P ops C oi v a → ∀ u, YE F P ops C oi v (a.put oj.dst u) := fun a hy u =>
    hy.of_same (execOp_put oi (isSelect_ne hsi) a oj.dst u h3) (wanted_put oi a oj.dst u h3)
  unfold opE wpOpIn at *
  simp only [hj] at *
  rw [wanted_put oj a oi.dst v h1] at h
  split
  · rename_i hw
    simp only [hw, if_true] at h
    refine ⟨fun f _ => Wide.fn f, ?_⟩
    have h := h.2
    rw [semAt_of hdj, execOp_put oj (isSelect_ne hsj) a oi.dst v h1] at h
    rw [semAt_of hdj]
    have hnd : ∀ d w', (execOp a.eval oj).run P w ≠ .ok (.defer d) w' → True := fun _ _ _ => trivial
    generalize (execOp a.eval oj).run P w = r at *
    cases r with
    | ok x w' =>
      cases x <;> simp only [Oper.uponIn] at h ⊢
      case value u => exact ⟨keep a hy u, by rw [← Act.put_comm a v u h2]; exact h⟩
      case skip => exact ⟨keep a hy _, by rw [← Act.put_comm a v undef h2]; exact h⟩
      case defer d =>
        refine ⟨keep { a with defers := d :: a.defers } (hy.of_same rfl rfl) _, ?_⟩
        rw [← Act.put_comm _ v undef h2, ← Act.put_defers]
        exact h
      case enter f args =>
        refine ⟨h.1, CallsIn.mono h.2 fun e w'' he => ?_⟩
        cases e with
        | returned u => exact ⟨keep a hy u, by rw [← Act.put_comm a v u h2]; exact he⟩
        | panicked c => exact he.elim
        | outgrown => exact (let ⟨_, _, h⟩ := he; h.elim)
      case row row args => exact ⟨h.1, RowsIn.mono h.2 fun u w'' he => ⟨keep a hy u, by rw [← Act.put_comm a v u h2]; exact he⟩⟩
      case round l f tmps assign body =>
        refine ⟨h.1, RoundIn.mono h.2 fun e w'' he => ?_⟩
        cases e with
        | returned u => exact ⟨keep a hy u, by rw [← Act.put_comm a v u h2]; exact he⟩
        | panicked c => exact he.elim
        | outgrown => exact (let ⟨_, _, h⟩ := he; h.elim)
    | halt x w' => cases x <;> simp only [Oper.uponIn] at h
  · rename_i hw
    simp only [hw] at h
    exact ⟨fun f _ => Wide.fn f, keep a hy _, by rw [← Act.put_comm a v undef h2]; exact h.2⟩

def lClosed (ops : Array Oper) (listed : Array Bool) : Prop := listed.size = ops.size ∧ ∀ j oj, ops[j]? = some oj → listed.getD j false = true → ∀ e ∈ oj.after, Region.binds .any e = true → listed.getD e.on false = true

def reach (ops : Array Oper) : Nat → Nat → Nat → Bool
  | 0, _, _ => false
  | f + 1, j, k => match ops[j]? with
    | some o => o.after.any fun e => Region.binds .any e && (e.on == k || reach ops f e.on k)
    | none => false
def lastB (ops : Array Oper) (i : Nat) : Bool := (List.range ops.size).all fun k => k == i || reach ops ops.size i k

/-- all that is listed stands before i -/
def barB (ops : Array Oper) (listed : Array Bool) (i : Nat) : Bool := (List.range ops.size).all fun k => !listed.getD k false || reach ops ops.size i k

theorem reach_listed {listed : Array Bool} (hc : lClosed ops listed) : ∀ (f j k : Nat) (oj : Oper), ops[j]? = some oj → (∀ e ∈ oj.after, Region.binds .any e = true → listed.getD e.on false = true) → reach ops f j k = true → listed.getD k false = true := by
  intro f
  induction f with
  | zero => intro j k oj _ _ h; simp [reach] at h
  | succ f ih =>
    intro j k oj hj hall h
    simp only [reach, hj] at h
    obtain ⟨e, he, hb⟩ := Array.any_eq_true'.1 h
    simp only [Bool.and_eq_true, Bool.or_eq_true, beq_iff_eq] at hb
    obtain ⟨hb, hr⟩ := hb
    rcases hr with rfl | hr
    · exact hall e he hb
    · have h1 := hall e he hb
      cases ho : ops[e.on]? with
      | none => cases f <;> simp [reach, ho] at hr
      | some oe => exact ih e.on k oe ho (fun e' he' hb' => hc.2 _ _ ho h1 e' he' hb') hr

theorem lClosed.set {listed : Array Bool} (hc : lClosed ops listed) {i : Nat} (hi : i ∈ Region.ready .any ops listed) : lClosed ops (listed.setIfInBounds i true) := by
  obtain ⟨_, oi, hoi, hall⟩ := mem_ready.1 hi
  refine ⟨by simp [hc.1], fun j oj hj hl e he hb => ?_⟩
  by_cases hij : i = j
  · subst hij
    have : oj = oi := Option.some.inj (hj.symm.trans hoi)
    subst this
    exact getD_set_true (hall e he hb)
  · rw [getD_set_ne false hij] at hl
    exact getD_set_true (hc.2 j oj hj hl e he hb)

def anyE (F : Fence) (P : Program) (ops : Array Oper) (QN : Act → World → Prop) : (C : World → Prop) → Nat → Array Bool → Act → World → Prop
  | _, 0, listed, a, w => Region.ready .any ops listed = [] ∧ QN a w
  | C, fuel + 1, listed, a, w =>
    (Region.ready .any ops listed = [] → QN a w) ∧
    ∀ i ∈ Region.ready .any ops listed, opE F P ops i (fun a' w' =>
      (lastB ops i = true ∧ Region.ready .any ops (listed.setIfInBounds i true) = [] ∧ QN a' w') ∨
      (barB ops listed i = true ∧ ∃ C2 : World → Prop, Closed C2 ∧ C2 w' ∧ ∀ w2, Ext w' w2 → anyE F P ops QN C2 fuel (listed.setIfInBounds i true) a' w2) ∨
      ∃ C2 : World → Prop, Closed C2 ∧ (∀ w, C2 w → C w) ∧ C2 w' ∧ ∀ w2, Ext w' w2 → anyE F P ops QN C2 fuel (listed.setIfInBounds i true) a' w2) a w

theorem wpAnyIn_done {Q : Exit → Act → World → Prop} {fuel : Nat} {listed : Array Bool} {a : Act} {w : World} (h : Region.ready .any ops listed = []) (hq : Q .normal a w) : wpAnyIn F 0 P .any ops Q fuel listed a w := by
  cases fuel with
  | zero => exact ⟨h, hq⟩
  | succ f => exact ⟨fun _ => hq, fun i hi => by rw [h] at hi; cases hi⟩

theorem wpAnyIn_of_anyE {Q : Exit → Act → World → Prop} : ∀ (fuel : Nat) (C : World → Prop) (listed : Array Bool) (a : Act) (w : World), anyE F P ops (fun a w => Q .normal a w) C fuel listed a w → wpAnyIn F 0 P .any ops Q fuel listed a w
  | 0, _, _, _, _, h => h
  | fuel + 1, _, _, _, _, h => ⟨h.1, fun i hi => opE_mono (fun a' w' hk => by
      rcases hk with ⟨_, h1, h2⟩ | ⟨_, C2, _, _, h2⟩ | ⟨C2, _, _, _, h2⟩
      · exact wpAnyIn_done h1 h2
      · exact wpAnyIn_of_anyE fuel C2 _ _ _ (h2 w' (Ext.refl _))
      · exact wpAnyIn_of_anyE fuel C2 _ _ _ (h2 w' (Ext.refl _))) (h.2 i hi)⟩

theorem anyE_quiet [Wide F] {QN : Act → World → Prop} {i : Nat} {oi : Oper} {v : Value} (hi : ops[i]? = some oi) (hplain : ∀ (j : Nat) (o : Oper), ops[j]? = some o → isSelect o.op = false ∧ isDefer o.op = false) :
    ∀ (fuel : Nat) (C : World → Prop) (listed : Array Bool) (a : Act) (w : World), Closed C → lClosed ops listed →
      (∀ j oj, ops[j]? = some oj → j ≠ i → listed.getD j true = false → (∀ e ∈ oj.after, Region.binds .any e = true → e.on ≠ i) → oi.apart ops oj = true) →
      i ∈ Region.ready .any ops listed → YE F P ops C oi v a → C w →
      (∀ w2, Ext w w2 → anyE F P ops QN C fuel (listed.setIfInBounds i true) (a.put oi.dst v) w2) → anyE F P ops QN C (fuel + 1) listed a w := by
  intro fuel
  induction fuel with
  | zero =>
    intro C listed a w hcl _ _ hr hy hw H
    refine ⟨fun h => (by rw [h] at hr; cases hr), fun j hj => ?_⟩
    by_cases hji : j = i
    · subst hji
      exact hy.opE hi (hplain _ _ hi).2 hw fun w' he => .inr (.inr ⟨C, hcl, fun _ h => h, hcl _ _ hw he, fun w2 he2 => H w2 (he.trans he2)⟩)
    · have := ready_mono hj hji
      rw [(H w (Ext.refl _)).1] at this
      cases this
  | succ fuel ih =>
    intro C listed a w hcl hlc hfree hr hy hw H
    refine ⟨fun h => (by rw [h] at hr; cases hr), fun j hj => ?_⟩
    by_cases hji : j = i
    · subst hji
      exact hy.opE hi (hplain _ _ hi).2 hw fun w' he => .inr (.inr ⟨C, hcl, fun _ h => h, hcl _ _ hw he, fun w2 he2 => H w2 (he.trans he2)⟩)
    · have h1 := (H w (Ext.refl _)).2 j (ready_mono hj hji)
      obtain ⟨hjun, oj, hoj, hall⟩ := mem_ready.1 hj
      have hun : listed.getD i true = false := (mem_ready.1 hr).1
      have hun' : listed.getD i false ≠ true := by
        intro h
        rcases Nat.lt_or_ge i listed.size with h' | h'
        · simp [h'] at h hun; rw [h] at hun; cases hun
        · simp [Array.getElem?_eq_none h'] at h
      have hnot : ∀ e ∈ oj.after, Region.binds .any e = true → e.on ≠ i := fun e he hb heq => hun' (heq ▸ hall e he hb)
      have h2 := opE_put hoj (hfree j oj hoj hji hjun hnot) (hplain _ _ hi).1 (hplain _ _ hoj).1 (hplain _ _ hoj).2 hy h1
      have hfree' : ∀ k ok, ops[k]? = some ok → k ≠ i → (listed.setIfInBounds j true).getD k true = false →
          (∀ e ∈ ok.after, Region.binds .any e = true → e.on ≠ i) → oi.apart ops ok = true := fun k ok hk hki hkun hno => by
        refine hfree k ok hk hki ?_ hno
        by_cases hjk : j = k
        · subst hjk; exact hjun
        · rw [getD_set_ne true hjk] at hkun; exact hkun
      refine opE_mono (fun a' w' h3 => ?_) h2
      obtain ⟨hy', hk⟩ := h3
      rcases hk with ⟨hl, _, _⟩ | ⟨hl, _⟩ | ⟨C2, hcl2, hsub, hc2, h4⟩
      · -- j waits for all others, i among them: it was not ready
        exfalso
        have hlast := List.all_eq_true.1 hl i (List.mem_range.2 (Array.getElem?_eq_some_iff.1 hi).1)
        simp only [Bool.or_eq_true, beq_iff_eq] at hlast
        rcases hlast with e | hrch
        · exact hji e.symm
        · exact hun' (reach_listed hlc _ _ _ oj hoj hall hrch)
      · exfalso
        have hbar := List.all_eq_true.1 hl i (List.mem_range.2 (Array.getElem?_eq_some_iff.1 hi).1)
        have hset : (listed.setIfInBounds i true).getD i false = true := by
          have : i < listed.size := by rw [hlc.1]; exact (Array.getElem?_eq_some_iff.1 hi).1
          simp [this]
        rw [hset] at hbar
        exact hun' (reach_listed hlc _ _ _ oj hoj hall (by simpa using hbar))
      · refine .inr (.inr ⟨C2, hcl2, hsub, hc2, fun w2 he2 => ih C2 _ a' w2 hcl2 (hlc.set hj) hfree' (ready_mono hr (Ne.symm hji)) (hy'.mono hsub) (hcl2 _ _ hc2 he2) fun w3 he3 => ?_⟩)
        have := h4 w3 (he2.trans he3)
        rwa [Array.setIfInBounds_comm _ _ (Ne.symm hji)] at this

/-! ### a plan: in which order the operations are taken -/
inductive PK where
  | q | e | l | b
  deriving DecidableEq
def planB (ops : Array Oper) : List (Nat × PK) → Array Bool → Bool
  | [], listed => (Region.ready .any ops listed).isEmpty
  | (i, .q) :: r, listed => (Region.ready .any ops listed).contains i && Region.free .any ops listed i && planB ops r (listed.setIfInBounds i true)
  | (i, .e) :: r, listed => decide (Region.ready .any ops listed = [i]) && planB ops r (listed.setIfInBounds i true)
  | (i, .b) :: r, listed => decide (Region.ready .any ops listed = [i]) && barB ops listed i && planB ops r (listed.setIfInBounds i true)
  | (i, .l) :: r, listed => decide (Region.ready .any ops listed = [i]) && lastB ops i && r.isEmpty && (Region.ready .any ops (listed.setIfInBounds i true)).isEmpty
def plainB (ops : Array Oper) : Bool := ops.all fun o => !isSelect o.op && !isDefer o.op

theorem plainB_spec (h : plainB ops = true) : ∀ (j : Nat) (o : Oper), ops[j]? = some o → isSelect o.op = false ∧ isDefer o.op = false := by
  intro j o hj
  have := (Array.all_eq_true_iff_forall_mem.1 h) o (Array.mem_of_getElem? hj)
  simpa using this

/-- what is left of the plan, from the state (L, M), the class C kept -/
def WP (F : Fence) (P : Program) (ops : Array Oper) (Q : Exit → Act → World → Prop) (n : Nat) (D : List Deferred) (C : World → Prop) (plan : List (Nat × PK)) (L : List (Nat × Value)) (M : World → Prop) : Prop :=
  Box (plainB ops = true → ∀ listed, lClosed ops listed → planB ops plan listed = true → ∀ a w, St n L D M a w → anyE F P ops (fun a w => Q .normal a w) C plan.length listed a w)

variable {Q : Exit → Act → World → Prop} {C : World → Prop} {plan : List (Nat × PK)}

theorem wc_draw {id : Nat} {l : List Oper} (plan : List (Nat × PK)) (C : World → Prop) (hm : P.follows .mixedOrders = true) (hp : (plainB l.toArray && planB l.toArray plan (Array.replicate l.length false) && plan.length == l.length) = true) (hcl : Closed M)
    (h : WP F P l.toArray Q n D C plan L M) : WC F P Q n D (.region id l.toArray true) L M := by
  simp only [Bool.and_eq_true, beq_iff_eq] at hp
  obtain ⟨⟨h1, h2⟩, h3⟩ := hp
  refine .mk fun a w s => ?_
  refine wpIn_region_any hm (wpAnyIn_of_anyE _ C _ _ _ ?_)
  have := h.out h1 (Array.replicate l.length false) ⟨by simp, fun j oj _ hl => by
    rcases Nat.lt_or_ge j l.length with h' | h'
    · simp [h'] at hl
    · simp [h'] at hl⟩ h2 a { w with drawn := w.drawn + 1 } ⟨s.agr, s.dfr, hcl _ _ s.mem ⟨rfl, rfl, rfl, Nat.le_refl _, fun _ _ => rfl⟩⟩
  rw [h3] at this
  simpa using this

theorem wc_drawM {id : Nat} {l : List Oper} (plan : List (Nat × PK)) (hm : P.follows .mixedOrders = true) (hp : (plainB l.toArray && planB l.toArray plan (Array.replicate l.length false) && plan.length == l.length) = true) (hcl : Closed M)
    (h : WP F P l.toArray Q n D M plan L M) : WC F P Q n D (.region id l.toArray true) L M := wc_draw plan M hm hp hcl h

theorem wp_nil (h : AQ Q .normal n D L M) : WP F P ops Q n D C [] L M := by
  refine .mk fun _ listed _ hp a w s => ?_
  exact ⟨by simpa [planB] using hp, h.out a w s⟩

/-- quiet: one value in every world of the class, old memory left -/
def Qt (F : Fence) (P : Program) (o : Oper) (n : Nat) (L : List (Nat × Value)) (C : World → Prop) (v : Value) : Prop := Box (∀ a w, Agr n L a → C w → qUpon F P w v ((execOp a.eval o).run P w))
/-- quiet: by a value in every world of the class -/
theorem wp_q [Wide F] {i : Nat} {o : Oper} {v : Value} (hi : ops[i]? = some o) (hC : Closed C) (hMC : ∀ w, M w → C w) (hM : Closed M) (hd : okDst o.dst n = true)
    (hy : Qt F P o n L C v) (hg : GOn ops L o.guard) (k : WP F P ops Q n D C plan (putL o.dst v L) M) : WP F P ops Q n D C ((i, .q) :: plan) L M := by
  refine .mk fun hpl listed hlc hp a w s => ?_
  simp only [planB, Bool.and_eq_true] at hp
  obtain ⟨⟨h1, h2⟩, h3⟩ := hp
  have hr : i ∈ Region.ready .any ops listed := by simpa using h1
  exact anyE_quiet hi (plainB_spec hpl) plan.length C listed a w hC hlc (Region.free_spec hi h2) hr (.inl ⟨wanted_on s.agr hg, fun w' hw' => hy.out a w' s.agr hw'⟩) (hMC _ s.mem)
    fun w2 he => k.out hpl _ (hlc.set hr) h3 _ w2 ⟨s.agr.putL _ hd _, (put_defers _ _ _).trans s.dfr, hM _ _ s.mem he⟩
theorem wp_off [Wide F] {i : Nat} {o : Oper} (hi : ops[i]? = some o) (hC : Closed C) (hMC : ∀ w, M w → C w) (hM : Closed M) (hd : okDst o.dst n = true)
    (hg : GOff ops L o.guard) (k : WP F P ops Q n D C plan (putL o.dst undef L) M) : WP F P ops Q n D C ((i, .q) :: plan) L M := by
  refine .mk fun hpl listed hlc hp a w s => ?_
  simp only [planB, Bool.and_eq_true] at hp
  obtain ⟨⟨h1, h2⟩, h3⟩ := hp
  have hr : i ∈ Region.ready .any ops listed := by simpa using h1
  exact anyE_quiet hi (plainB_spec hpl) plan.length C listed a w hC hlc (Region.free_spec hi h2) hr (.inr ⟨wanted_off s.agr hg, rfl⟩) (hMC _ s.mem)
    fun w2 he => k.out hpl _ (hlc.set hr) h3 _ w2 ⟨s.agr.putL _ hd _, (put_defers _ _ _).trans s.dfr, hM _ _ s.mem he⟩
theorem q_of_yld {o : Oper} {v : Value} (h : Yld P o L C v) : Qt F P o n L C v := .mk fun a w ha hw => by
  rw [h.out a.eval w ha.ev hw]; exact ⟨rfl, Ext.refl _⟩

/-- an effect, alone ready -/
theorem wp_e [Wide F] {i : Nat} {o : Oper} {α : Sort _} {V : α → Value} {M' : α → World → Prop} (C' : α → World → Prop) (hi : ops[i]? = some o) (hd : okDst o.dst n = true) (hn : isDefer o.op = false) (h : Eff F P o L M V M') (hg : GOn ops L o.guard)
    (hc : ∀ x, Closed (C' x)) (hs : ∀ x w, C' x w → C w) (hMC : ∀ x w, M' x w → C' x w) (hM : ∀ x, Closed (M' x))
    (k : ∀ x, WP F P ops Q n D (C' x) plan (putL o.dst (V x) L) (M' x)) : WP F P ops Q n D C ((i, .e) :: plan) L M := by
  refine .mk fun hpl listed hlc hp a w s => ?_
  simp only [planB, Bool.and_eq_true, decide_eq_true_eq] at hp
  obtain ⟨h1, h3⟩ := hp
  have hr : i ∈ Region.ready .any ops listed := by rw [h1]; simp
  refine ⟨fun h => (by rw [h1] at h; cases h), fun j hj => ?_⟩
  rw [h1] at hj
  obtain rfl : j = i := by simpa using hj
  unfold opE wpOpIn
  simp only [hi, wanted_on s.agr hg, if_true]
  refine ⟨fun f _ => Wide.fn f, ?_⟩
  rw [semAt_of hn]
  exact Eff.upon (h.out a.eval w s.agr.ev s.mem) fun x w' hm => .inr (.inr ⟨C' x, hc x, hs x, hMC x _ hm, fun w2 he => (k x).out hpl _ (hlc.set hr) h3 _ w2 ⟨s.agr.putL _ hd _, (put_defers _ _ _).trans s.dfr, hM x _ _ hm he⟩⟩)
/-- an effect behind all the others that were taken -/
theorem wp_b [Wide F] {i : Nat} {o : Oper} {α : Sort _} {V : α → Value} {M' : α → World → Prop} (hi : ops[i]? = some o) (hd : okDst o.dst n = true) (hn : isDefer o.op = false) (h : Eff F P o L M V M') (hg : GOn ops L o.guard)
    (hM : ∀ x, Closed (M' x)) (k : ∀ x, WP F P ops Q n D (M' x) plan (putL o.dst (V x) L) (M' x)) : WP F P ops Q n D C ((i, .b) :: plan) L M := by
  refine .mk fun hpl listed hlc hp a w s => ?_
  simp only [planB, Bool.and_eq_true, decide_eq_true_eq] at hp
  obtain ⟨⟨h1, h2⟩, h3⟩ := hp
  have hr : i ∈ Region.ready .any ops listed := by rw [h1]; simp
  refine ⟨fun h => (by rw [h1] at h; cases h), fun j hj => ?_⟩
  rw [h1] at hj
  obtain rfl : j = i := by simpa using hj
  unfold opE wpOpIn
  simp only [hi, wanted_on s.agr hg, if_true]
  refine ⟨fun f _ => Wide.fn f, ?_⟩
  rw [semAt_of hn]
  exact Eff.upon (h.out a.eval w s.agr.ev s.mem) fun x w' hm => .inr (.inl ⟨h2, M' x, hM x, hm, fun w2 he => (k x).out hpl _ (hlc.set hr) h3 _ w2 ⟨s.agr.putL _ hd _, (put_defers _ _ _).trans s.dfr, hM x _ _ hm he⟩⟩)
/-- the last one -/
theorem wp_l [Wide F] {i : Nat} {o : Oper} {α : Sort _} {V : α → Value} {M' : α → World → Prop} (hi : ops[i]? = some o) (hd : okDst o.dst n = true) (hn : isDefer o.op = false) (h : Eff F P o L M V M') (hg : GOn ops L o.guard)
    (k : ∀ x, AQ Q .normal n D (putL o.dst (V x) L) (M' x)) : WP F P ops Q n D C [(i, .l)] L M := by
  refine .mk fun hpl listed hlc hp a w s => ?_
  simp only [planB, Bool.and_eq_true, decide_eq_true_eq] at hp
  obtain ⟨⟨⟨h1, h2⟩, _⟩, h4⟩ := hp
  refine ⟨fun h => (by rw [h1] at h; cases h), fun j hj => ?_⟩
  rw [h1] at hj
  obtain rfl : j = i := by simpa using hj
  unfold opE wpOpIn
  simp only [hi, wanted_on s.agr hg, if_true]
  refine ⟨fun f _ => Wide.fn f, ?_⟩
  rw [semAt_of hn]
  exact Eff.upon (h.out a.eval w s.agr.ev s.mem) fun x w' hm => .inl ⟨h2, by simpa using h4, (k x).out _ _ ⟨s.agr.putL _ hd _, (put_defers _ _ _).trans s.dfr, hm⟩⟩
/-- by a bool -/
theorem wp_bool {t : Tmp} {b : Bool} (hb : lk L t = some (.bool b)) (ht : b = true → WP F P ops Q n D C plan ((t, .bool true) :: L) M) (hf : b = false → WP F P ops Q n D C plan ((t, .bool false) :: L) M) : WP F P ops Q n D C plan L M := by
  refine .mk fun hpl listed hlc hp a w s => ?_
  have key : ∀ c, b = c → St n ((t, .bool c) :: L) D M a w := fun c e => ⟨⟨s.agr.size, fun u v hu => by
    by_cases e' : t = u
    · subst e'; rw [lk_cons_eq] at hu; injection hu with hu; subst hu; subst e; exact s.agr.at_ _ _ hb
    · rw [lk_cons_ne e'] at hu; exact s.agr.at_ _ _ hu⟩, s.dfr, s.mem⟩
  cases b with
  | true => exact (ht rfl).out hpl listed hlc hp a w (key true rfl)
  | false => exact (hf rfl).out hpl listed hlc hp a w (key false rfl)
theorem wp_re {t : Tmp} {v v' : Value} (hb : lk L t = some v) (e : v = v') (k : WP F P ops Q n D C plan ((t, v') :: L) M) : WP F P ops Q n D C plan L M := by
  subst e
  exact .mk fun hpl listed hlc hp a w s => k.out hpl listed hlc hp a w ⟨⟨s.agr.size, fun u x hu => by
    by_cases e' : t = u
    · subst e'; rw [lk_cons_eq] at hu; injection hu with hu; subst hu; exact s.agr.at_ _ _ hb
    · rw [lk_cons_ne e'] at hu; exact s.agr.at_ _ _ hu⟩, s.dfr, s.mem⟩
theorem wp_mem {M' : World → Prop} (hM : ∀ w, M w → M' w) (h : WP F P ops Q n D C plan L M') : WP F P ops Q n D C plan L M := .mk fun hpl listed hlc hp a w s => h.out hpl listed hlc hp a w ⟨s.agr, s.dfr, hM _ s.mem⟩
/-- a call that hands back one value and makes at most new memory -/
theorem q_of_call [Wide F] {d : Option Tmp} {ty : TypeId} {pos : String} {af : Array Edge} {g : Option (Nat × Bool)} {f : FuncId} {args : Array Operand} {tys : Array TypeId} {vs : List Value} {v : Value} (hf : cfB P f = true) (ha : evs L args.toList = some vs) (hc : ∀ w, C w → Calls P f vs.toArray w (fun e w' => e = .returned v ∧ Ext w w')) :
    Qt F P ⟨d, .call ⟨.value (.func f), args, tys⟩, ty, pos, af, g⟩ n L C v := .mk fun a w hag hw => by
  rw [run_call hf hag.ev ha]; exact ⟨rfl, callsIn_of_calls (hc w hw)⟩
theorem quiet_of_mem {f : FuncId} {args : Array Value} {w : World} {v : Value} {α : Sort _} {H : α → List Ch} (h : Calls P f args w (Ret (fun _ : α => v) (fun x => Mem w [] (H x)))) : Calls P f args w (fun e w' => e = .returned v ∧ Ext w w') :=
  h.mono fun e w' ⟨x, he, hm⟩ => ⟨he, hm.below⟩
end Go.Mc
