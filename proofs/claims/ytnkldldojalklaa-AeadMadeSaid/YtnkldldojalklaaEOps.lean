/- Operations that touch no memory; calls. No condition. -/
import Derived.Test.YtnkldldojalklaaECore
import Derived.Laws.World
import Derived.Laws.Cells
set_option linter.all false
namespace Go.Mc
section
variable {F : Fence} {P : Program} {Q : Exit → Act → World → Prop} {n : Nat} {D : List Deferred} {L : List (Nat × Value)} {M : World → Prop} {ops : Array Oper} {rest : List Oper}

/-- the operation yields this value, in every world of M, and leaves the world -/
def Yld (P : Program) (o : Oper) (L : List (Nat × Value)) (M : World → Prop) (v : Value) : Prop :=
  Box (∀ ρ w, Ev L ρ → M w → (execOp ρ o).run P w = .ok (.value v) w)

/-- a call hands back one of these values, in such a world -/
def Ret {α : Sort _} (V : α → Value) (M' : α → World → Prop) : Ending → World → Prop := fun e w' => ∃ x, e = .returned (V x) ∧ M' x w'

def effUpon (F : Fence) (P : Program) {α : Sort _} (V : α → Value) (M' : α → World → Prop) : Result Next → Prop
  | .ok (.value v) w' => ∃ x, v = V x ∧ M' x w'
  | .ok .skip w' => ∃ x, V x = undef ∧ M' x w'
  | .ok (.enter f args) w' => CallsIn F 0 P f args w' (Ret V M')
  | .ok (.round l f tmps assign body) w' => RoundIn F 0 P l f tmps assign body w' (Ret V M')
  | _ => False

/-- the operation yields one of these values, in a new world -/
def Eff (F : Fence) (P : Program) (o : Oper) (L : List (Nat × Value)) (M : World → Prop) {α : Sort _} (V : α → Value) (M' : α → World → Prop) : Prop :=
  Box (∀ ρ w, Ev L ρ → M w → effUpon F P V M' ((execOp ρ o).run P w))

theorem eff_mk {F : Fence} {o : Oper} {α : Sort _} {V : α → Value} {M' : α → World → Prop} (h : ∀ ρ w, Ev L ρ → M w → ∃ x w', ((execOp ρ o).run P w = .ok (.value (V x)) w' ∨ ((execOp ρ o).run P w = .ok .skip w' ∧ V x = undef)) ∧ M' x w') : Eff F P o L M V M' := .mk fun ρ w he hM => by
  obtain ⟨x, w', hr, hm⟩ := h ρ w he hM
  rcases hr with hr | ⟨hr, hu⟩
  · rw [hr]; exact ⟨x, rfl, hm⟩
  · rw [hr]; exact ⟨x, hu, hm⟩

theorem Yld.eff {F : Fence} {o : Oper} {v : Value} (h : Yld P o L M v) : Eff F P o L M (fun _ : Unit => v) (fun _ => M) :=
  eff_mk fun ρ w he hM => ⟨(), w, .inl (h.out ρ w he hM), hM⟩

theorem Eff.upon [Wide F] {o : Oper} {α : Sort _} {V : α → Value} {M' : α → World → Prop} {a : Act} {r : Result Next} {next : Act → World → Prop} {Q : Exit → Act → World → Prop} (h : effUpon F P V M' r) (k : ∀ x w', M' x w' → next (a.put o.dst (V x)) w') : o.uponIn F 0 P a next Q r := by
  have room : F.depth.isSome = true → 1 ≤ 0 := fun h => by rw [Wide.depth] at h; cases h
  cases r with
  | ok x w' =>
    cases x <;> simp only [effUpon] at h <;> simp only [Oper.uponIn]
    case value v => obtain ⟨x, rfl, hm⟩ := h; exact k x w' hm
    case skip => obtain ⟨x, hu, hm⟩ := h; have := k x w' hm; rwa [hu] at this
    case enter f args => exact ⟨room, CallsIn.mono h fun e w'' he => by obtain ⟨x, rfl, hm⟩ := he; exact k x w'' hm⟩
    case round l f tmps assign body => exact ⟨room, RoundIn.mono h fun e w'' he => by obtain ⟨x, rfl, hm⟩ := he; exact k x w'' hm⟩
  | halt x w' => simp only [effUpon] at h

def isDefer : Op → Bool
  | .defer _ => true
  | _ => false
def isSelect : Op → Bool
  | .select .. => true
  | _ => false

def GOn (ops : Array Oper) (L : List (Nat × Value)) : Option (Nat × Bool) → Prop
  | none => True
  | some (j, want) => ∃ t, (ops[j]?).bind (·.dst) = some t ∧ lk L t = some (.bool want)
def GOff (ops : Array Oper) (L : List (Nat × Value)) : Option (Nat × Bool) → Prop
  | none => False
  | some (j, want) => ∃ t v, (ops[j]?).bind (·.dst) = some t ∧ lk L t = some v ∧ (v = .bool (!want) ∨ v = undef)

theorem wanted_on {o : Oper} {a : Act} (ha : Agr n L a) (h : GOn ops L o.guard) : Region.wanted o (yielded ops a.tmps) = true := by
  unfold Region.wanted
  cases hg : o.guard with
  | none => rfl
  | some p =>
    obtain ⟨j, want⟩ := p
    rw [hg] at h
    obtain ⟨t, ht, hl⟩ := h
    simp [yielded, ht, ha.at_ t _ hl]
theorem wanted_off {o : Oper} {a : Act} (ha : Agr n L a) (h : GOff ops L o.guard) : Region.wanted o (yielded ops a.tmps) = false := by
  unfold Region.wanted
  cases hg : o.guard with
  | none => rw [hg] at h; exact h.elim
  | some p =>
    obtain ⟨j, want⟩ := p
    rw [hg] at h
    obtain ⟨t, v, ht, hl, hv⟩ := h
    rcases hv with rfl | rfl
    · simp [yielded, ht, ha.at_ t _ hl]
    · simp [yielded, ht, ha.at_ t _ hl, undef]

theorem semAt_of {F : Fence} {o : Oper} {ρ : Operand → Value} (h : isDefer o.op = false) : o.semAt F.round ρ = execOp ρ o :=
  Oper.semAt_eq _ _ _ fun c e => by rw [e] at h; cases h

/-- what is known of the temporaries behind an operation -/
def putL (d : Option Tmp) (v : Value) (L : List (Nat × Value)) : List (Nat × Value) :=
  match d with
  | some d => (d, v) :: L
  | none => L
def okDst (d : Option Tmp) (n : Nat) : Bool := match d with | some d => Nat.blt d n | none => true

theorem Agr.putL {a : Act} (h : Agr n L a) (d : Option Tmp) (hd : okDst d n = true) (v : Value) : Agr n (putL d v L) (a.put d v) := by
  cases d with
  | none => exact h
  | some d => exact h.put (by simpa [okDst, Nat.blt_eq] using hd) v

theorem put_defers (a : Act) (d : Option Tmp) (v : Value) : (a.put d v).defers = a.defers := by cases d <;> rfl

theorem wl_eff [Wide F] {o : Oper} {α : Sort _} {V : α → Value} {M' : α → World → Prop} (h : Eff F P o L M V M') (hn : isDefer o.op = false) (hg : GOn ops L o.guard) (hd : okDst o.dst n = true)
    (k : ∀ x, WL F P ops Q n D rest (putL o.dst (V x) L) (M' x)) : WL F P ops Q n D (o :: rest) L M := by
  refine .mk fun a w s => ?_
  show (if Region.wanted o (yielded ops a.tmps) then o.wpIn F 0 P a w (wpListIn F 0 P ops Q rest) Q else _)
  rw [if_pos (wanted_on s.agr hg)]
  refine ⟨fun f _ => Wide.fn f, ?_⟩
  rw [semAt_of hn]
  exact Eff.upon (h.out a.eval w s.agr.ev s.mem) fun x w' hm => (k x).out _ _ ⟨s.agr.putL _ hd _, (put_defers _ _ _).trans s.dfr, hm⟩

/-- a value, the world as it is -/
theorem wl_y [Wide F] {d : Tmp} {op : Op} {ty : TypeId} {pos : String} {af : Array Edge} {g : Option (Nat × Bool)} {v : Value} (h : Yld P ⟨some d, op, ty, pos, af, g⟩ L M v)
    (k : WL F P ops Q n D rest ((d, v) :: L) M) (hd : Nat.blt d n = true := by rfl) (hg : GOn ops L g := by trivial) (hn : isDefer op = false := by rfl) : WL F P ops Q n D (⟨some d, op, ty, pos, af, g⟩ :: rest) L M :=
  wl_eff (Yld.eff h) hn hg hd fun _ => k

/-- an operation that is passed over -/
theorem wl_off [Wide F] {o : Oper} (hg : GOff ops L o.guard) (hd : okDst o.dst n = true) (k : WL F P ops Q n D rest (putL o.dst undef L) M) : WL F P ops Q n D (o :: rest) L M := by
  refine .mk fun a w s => ?_
  show (if Region.wanted o (yielded ops a.tmps) then _ else (∀ f, o.about P w a.eval = some f → F.fn f) ∧ wpListIn F 0 P ops Q rest (a.put o.dst undef) w)
  rw [if_neg (by rw [wanted_off s.agr hg]; simp)]
  exact ⟨fun f _ => Wide.fn f, k.out _ _ ⟨s.agr.putL _ hd _, (put_defers _ _ _).trans s.dfr, s.mem⟩⟩

/-- by a bool -/
theorem wl_bool {t : Tmp} {b : Bool} (hb : lk L t = some (.bool b)) (ht : b = true → WL F P ops Q n D rest ((t, .bool true) :: L) M) (hf : b = false → WL F P ops Q n D rest ((t, .bool false) :: L) M) : WL F P ops Q n D rest L M := by
  refine .mk fun a w s => ?_
  have key : ∀ c, b = c → St n ((t, .bool c) :: L) D M a w := fun c e => ⟨⟨s.agr.size, fun u v hu => by
    by_cases e' : t = u
    · subst e'; rw [lk_cons_eq] at hu; injection hu with hu; subst hu; subst e; exact s.agr.at_ _ _ hb
    · rw [lk_cons_ne e'] at hu; exact s.agr.at_ _ _ hu⟩, s.dfr, s.mem⟩
  cases b with
  | true => exact (ht rfl).out a w (key true rfl)
  | false => exact (hf rfl).out a w (key false rfl)

/-- another spelling of what a temporary holds -/
theorem wl_re {t : Tmp} {v v' : Value} (hb : lk L t = some v) (e : v = v') (k : WL F P ops Q n D rest ((t, v') :: L) M) : WL F P ops Q n D rest L M := by
  subst e
  exact .mk fun a w s => k.out a w ⟨⟨s.agr.size, fun u x hu => by
    by_cases e' : t = u
    · subst e'; rw [lk_cons_eq] at hu; injection hu with hu; subst hu; exact s.agr.at_ _ _ hb
    · rw [lk_cons_ne e'] at hu; exact s.agr.at_ _ _ hu⟩, s.dfr, s.mem⟩

/-! ### operations that touch no memory -/
section pure
variable {d : Option Tmp} {ty : TypeId} {pos : String} {af : Array Edge} {g : Option (Nat × Bool)}

theorem y_move {x : Operand} {v : Value} (h : ev L x = some v) : Yld P ⟨d, .move x, ty, pos, af, g⟩ L M v := .mk fun ρ w he _ => by
  simp [execOp, he x v h]
theorem y_assign {x : Operand} {v : Value} (h : ev L x = some v) : Yld P ⟨d, .assign x, ty, pos, af, g⟩ L M v := .mk fun ρ w he _ => by
  simp [execOp, he x v h]
theorem y_pick {c x y : Operand} {b : Bool} {v : Value} (hc : ev L c = some (.bool b)) (h : ev L (if b then x else y) = some v) : Yld P ⟨d, .pick c x y, ty, pos, af, g⟩ L M v := .mk fun ρ w he _ => by
  have h1 := he _ _ hc
  have h2 := he _ _ h
  cases b <;> simp_all [execOp, asBool]

def bin : BinOp → Value → Value → Option Value
  | .shl, .int k a, .int _ b => if b < 0 then none else some (.int k (k.wrap (a * 2 ^ (min b.toNat k.bits))))
  | .shr, .int k a, .int _ b => if b < 0 then none else some (.int k (a.fdiv (2 ^ (min b.toNat k.bits))))
  | .add, .int k a, .int k' b => if k = k' then some (.int k (k.wrap (a + b))) else none
  | .sub, .int k a, .int k' b => if k = k' then some (.int k (k.wrap (a - b))) else none
  | .mul, .int k a, .int k' b => if k = k' then some (.int k (k.wrap (a * b))) else none
  | .quo, .int k a, .int k' b => if k = k' ∧ b ≠ 0 then some (.int k (k.wrap (a.tdiv b))) else none
  | .rem, .int k a, .int k' b => if k = k' ∧ b ≠ 0 then some (.int k (a.tmod b)) else none
  | .and, .int k a, .int k' b => if k = k' then some (.int k (k.wrap (BitVec.ofInt k.bits a &&& BitVec.ofInt k.bits b).toNat)) else none
  | .or, .int k a, .int k' b => if k = k' then some (.int k (k.wrap (BitVec.ofInt k.bits a ||| BitVec.ofInt k.bits b).toNat)) else none
  | .xor, .int k a, .int k' b => if k = k' then some (.int k (k.wrap (BitVec.ofInt k.bits a ^^^ BitVec.ofInt k.bits b).toNat)) else none
  | .andNot, .int k a, .int k' b => if k = k' then some (.int k (k.wrap (BitVec.ofInt k.bits a &&& ~~~ BitVec.ofInt k.bits b).toNat)) else none
  | .eql, .int k a, .int k' b => if k = k' then some (.bool (a == b)) else none
  | .neq, .int k a, .int k' b => if k = k' then some (.bool (a != b)) else none
  | .lss, .int k a, .int k' b => if k = k' then some (.bool (a < b)) else none
  | .leq, .int k a, .int k' b => if k = k' then some (.bool (a ≤ b)) else none
  | .gtr, .int k a, .int k' b => if k = k' then some (.bool (a > b)) else none
  | .geq, .int k a, .int k' b => if k = k' then some (.bool (a ≥ b)) else none
  | _, _, _ => none

theorem y_bin {op : BinOp} {t t' : TypeId} {x y : Operand} {u v r : Value} (hx : ev L x = some u) (hy : ev L y = some v) (hr : bin op u v = some r) : Yld P ⟨d, .binOp op t x y t', ty, pos, af, g⟩ L M r := .mk fun ρ w he _ => by
  have h1 := he _ _ hx
  have h2 := he _ _ hy
  simp only [execOp, h1, h2, Sem.run_bind]
  cases u with
  | int k a =>
    cases v with
    | int k' b =>
      have hg : (eqGuard op t x y (.int k a) (.int k' b)).run P w = .ok () w := by
        unfold eqGuard; cases op <;> rfl
      rw [hg]
      simp only [Result.andThen_ok]
      cases op <;> simp only [bin] at hr <;> (try split at hr) <;> (try cases hr) <;> simp_all [binOp, Op.shift, Op.intArith, Op.intDiv, Op.intBits, Op.intCmp] <;> (intro hb; omega)
    | _ => cases op <;> simp [bin] at hr
  | _ => cases op <;> simp [bin] at hr

theorem y_not {t : TypeId} {x : Operand} {b : Bool} (h : ev L x = some (.bool b)) : Yld P ⟨d, .unOp .not t x, ty, pos, af, g⟩ L M (.bool (!b)) := .mk fun ρ w he _ => by
  simp [execOp, he _ _ h, Op.unary]
theorem y_extract {x : Operand} {i : Nat} {vs : Array Value} {v : Value} (h : ev L x = some (.tuple vs)) (hi : vs[i]? = some v) : Yld P ⟨d, .extract x i, ty, pos, af, g⟩ L M v := .mk fun ρ w he _ => by
  simp [execOp, he _ _ h, Instr.extract, hi]
theorem y_convert {s t : TypeId} {x : Operand} {k k' : IntKind} {m : Int} (h : ev L x = some (.int k m)) {ds : TypeDesc} (hs : P.underlying s = some ds) (ht : P.underlying t = some (.int k')) :
    Yld P ⟨d, .convert s t x, ty, pos, af, g⟩ L M (.int k' (k'.wrap m)) := .mk fun ρ w he _ => by
  simp [execOp, he _ _ h, convert, underlying, hs, ht, Conv.intToInt]
end pure

/-! ### calls -/
def cfB (P : Program) (f : FuncId) : Bool := match P.funcs[f]? with | some fn => fn.body.isSome && !(fn.name == "runtime.NumGoroutine") | none => false
theorem run_callFunc {f : FuncId} {args : Array Value} {w : World} (h : cfB P f = true) : (callFunc f args).run P w = .ok (.enter f args) w := by
  unfold cfB at h
  cases hf : P.funcs[f]? with
  | none => simp [hf] at h
  | some fn =>
    simp only [hf, Bool.and_eq_true, Bool.not_eq_true'] at h
    have h1 : fn.body.isNone = false := by cases hb : fn.body <;> simp_all
    simp only [callFunc, Sem.run_bind, run_program, Result.andThen_ok, hf, h.2, h1, Bool.false_eq_true, if_false, Sem.run_pure]
section
variable {d : Option Tmp} {ty : TypeId} {pos : String} {af : Array Edge} {g : Option (Nat × Bool)}
theorem run_call {ρ : Operand → Value} {w : World} {f : FuncId} {args : Array Operand} {tys : Array TypeId} {vs : List Value} (hf : cfB P f = true) (he : Ev L ρ) (ha : evs L args.toList = some vs) :
    (execOp ρ ⟨d, .call ⟨.value (.func f), args, tys⟩, ty, pos, af, g⟩).run P w = .ok (.enter f vs.toArray) w := by
  have h1 : args.map ρ = vs.toArray := by have := he.evs ha; rw [← this, ← List.map_toArray]
  have h2 : ρ (.func f) = .func (.func f) #[] #[] := he _ _ rfl
  simp [execOp, resolve, h1, h2, Deferred.ofValue, invoke, run_callFunc hf]
theorem run_callv {ρ : Operand → Value} {w : World} {x : Operand} {f : FuncId} {first cap : Array Value} {args : Array Operand} {tys : Array TypeId} {vs : List Value} (hx : ev L x = some (.func (.func f) first cap)) (hf : cfB P f = true) (he : Ev L ρ) (ha : evs L args.toList = some vs) :
    (execOp ρ ⟨d, .call ⟨.value x, args, tys⟩, ty, pos, af, g⟩).run P w = .ok (.enter f (first ++ vs.toArray ++ cap)) w := by
  have h1 : args.map ρ = vs.toArray := by have := he.evs ha; rw [← this, ← List.map_toArray]
  simp [execOp, resolve, h1, he _ _ hx, Deferred.ofValue, invoke, run_callFunc hf]
theorem e_call [Wide F] {f : FuncId} {args : Array Operand} {tys : Array TypeId} {vs : List Value} {α : Sort _} {V : α → Value} {M' : α → World → Prop} (hf : cfB P f = true) (ha : evs L args.toList = some vs) (hc : ∀ w, M w → Calls P f vs.toArray w (Ret V M')) :
    Eff F P ⟨d, .call ⟨.value (.func f), args, tys⟩, ty, pos, af, g⟩ L M V M' := .mk fun ρ w he hM => by
  rw [run_call hf he ha]; exact callsIn_of_calls (hc w hM)
theorem e_callv [Wide F] {x : Operand} {f : FuncId} {first cap : Array Value} {args : Array Operand} {tys : Array TypeId} {vs : List Value} {α : Sort _} {V : α → Value} {M' : α → World → Prop} (hx : ev L x = some (.func (.func f) first cap)) (hf : cfB P f = true) (ha : evs L args.toList = some vs) (hc : ∀ w, M w → Calls P f (first ++ vs.toArray ++ cap) w (Ret V M')) :
    Eff F P ⟨d, .call ⟨.value x, args, tys⟩, ty, pos, af, g⟩ L M V M' := .mk fun ρ w he hM => by
  rw [run_callv hx hf he ha]; exact callsIn_of_calls (hc w hM)
end
end
end Go.Mc
