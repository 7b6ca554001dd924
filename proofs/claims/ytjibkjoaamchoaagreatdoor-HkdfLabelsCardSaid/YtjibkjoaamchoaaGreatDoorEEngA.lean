/- A calculus of states over the model: known temporaries and what the memory holds. No condition. -/
import Derived.TacticsIn
import Derived.Sort.QuietThIn
import Derived.RowKit3
import Derived.Below
import Derived.Laws.World
import Derived.Laws.Cells
import Derived.OrdersIn
set_option linter.all false
namespace Go.Mc

/-! the fence that bars nothing, in a round or not -/
class Wide (F : Fence) : Prop where
  fn : ∀ f, F.fn f
  depth : F.depth = none
  alive : F.alive = false
instance : Wide Fence.wide := ⟨fun _ => trivial, rfl, rfl⟩
instance (l : Nat) : Wide (Fence.wide.inRound l) := ⟨fun _ => trivial, rfl, rfl⟩
theorem fenced_all {F : Fence} [Wide F] (P : Program) (m : Machine) : m.fenced P F := by
  intro g _
  refine ⟨fun h => ?_, .inl (Wide.fn _), fun f _ => Wide.fn f, fun _ h => ?_⟩
  · rw [Wide.alive] at h; cases h
  · rw [Wide.depth] at h; cases h
theorem room_all {F : Fence} [Wide F] (k : Nat) : F.room k := fun _ h => by rw [Wide.depth] at h; cases h
theorem callsIn_of_calls {F : Fence} [Wide F] {n : Nat} {P : Program} {f : FuncId} {args : Array Value} {w : World} {R : Ending → World → Prop} (h : Calls P f args w R) : CallsIn F n P f args w R := by
  refine ⟨Wide.fn f, fun cs _ => ?_⟩
  obtain ⟨e, w', fr, r, s, x⟩ := h cs
  refine ⟨e, w', fr, r, ?_, x⟩
  cases e with
  | returned v => exact (StepsIn.of_steps s).mono fun m _ => fenced_all P m
  | panicked c => exact (StepsIn.of_steps s).mono fun m _ => fenced_all P m
  | outgrown => exact s
theorem calls_of_callsIn {F : Fence} [Wide F] {n : Nat} {P : Program} {f : FuncId} {args : Array Value} {w : World} {R : Ending → World → Prop} (h : CallsIn F n P f args w R) : Calls P f args w R := h.calls room_all

/-! temporaries -/
def lk : List (Nat × Value) → Nat → Option Value
  | [], _ => none
  | (u, v) :: r, t => match Nat.beq u t with | true => some v | false => lk r t

def ev (L : List (Nat × Value)) : Operand → Option Value
  | .tmp t => lk L t
  | .const v => some v
  | .global g => some (.pointer (some ⟨g, 0, none⟩))
  | .func f => some (.func (.func f) #[] #[])

def evs (L : List (Nat × Value)) : List Operand → Option (List Value)
  | [] => some []
  | x :: r => match ev L x, evs L r with | some v, some vs => some (v :: vs) | _, _ => none

structure Agr (n : Nat) (L : List (Nat × Value)) (a : Act) : Prop where
  size : a.tmps.size = n
  at_ : ∀ t v, lk L t = some v → a.tmps[t]? = some v

theorem lk_cons_eq (u : Nat) (v : Value) (L) : lk ((u, v) :: L) u = some v := by
  simp [lk, Nat.beq_refl]
theorem lk_cons_ne {u t : Nat} (h : u ≠ t) (v : Value) (L) : lk ((u, v) :: L) t = lk L t := by
  have : Nat.beq u t = false := by
    cases hb : Nat.beq u t with
    | false => rfl
    | true => exact absurd (Nat.eq_of_beq_eq_true hb) h
  simp [lk, this]

theorem Agr.put {n d : Nat} {L : List (Nat × Value)} {a : Act} (h : Agr n L a) (hd : d < n) (v : Value) : Agr n ((d, v) :: L) (a.put (some d) v) := by
  refine ⟨by simp [Act.put, h.size], fun t u hu => ?_⟩
  by_cases e : d = t
  · subst e
    rw [lk_cons_eq] at hu
    injection hu with hu; subst hu
    simp [Act.put, h.size, hd]
  · rw [lk_cons_ne e] at hu
    have := h.at_ t u hu
    simp [Act.put, Array.getElem?_setIfInBounds_ne e, this]

theorem Agr.putNone {n : Nat} {L : List (Nat × Value)} {a : Act} (h : Agr n L a) (v : Value) : Agr n L (a.put none v) := h

def Ev (L : List (Nat × Value)) (ρ : Operand → Value) : Prop := ∀ x v, ev L x = some v → ρ x = v

theorem Agr.ev {n : Nat} {L : List (Nat × Value)} {a : Act} (h : Agr n L a) : Ev L a.eval := by
  intro x v hx
  cases x with
  | tmp t =>
    have := h.at_ t v hx
    simp [Act.eval, Array.getD_eq_getD_getElem?, this]
  | const u => simpa [Mc.ev, Act.eval] using hx
  | global g => simpa [Mc.ev, Act.eval] using hx
  | func f => simpa [Mc.ev, Act.eval] using hx

theorem Ev.evs {L : List (Nat × Value)} {ρ : Operand → Value} (h : Ev L ρ) : ∀ {xs : List Operand} {vs : List Value}, evs L xs = some vs → xs.map ρ = vs
  | [], vs, hv => by simp [Mc.evs] at hv; simp [hv]
  | x :: r, vs, hv => by
    simp only [Mc.evs] at hv
    split at hv
    · rename_i v us hx hr
      injection hv with hv; subst hv
      simp [h x v hx, h.evs hr]
    · cases hv

/-! the state -/
structure St (n : Nat) (L : List (Nat × Value)) (D : List Deferred) (M : World → Prop) (a : Act) (w : World) : Prop where
  agr : Agr n L a
  dfr : a.defers = D
  mem : M w

/-- a wall: what is behind it is not laid open by itself -/
structure Box (p : Prop) : Prop where
  out : p

def WL (F : Fence) (P : Program) (ops : Array Oper) (Q : Exit → Act → World → Prop) (n : Nat) (D : List Deferred) (l : List Oper) (L : List (Nat × Value)) (M : World → Prop) : Prop :=
  Box (∀ a w, St n L D M a w → wpListIn F 0 P ops Q l a w)

def WC (F : Fence) (P : Program) (Q : Exit → Act → World → Prop) (n : Nat) (D : List Deferred) (c : Code) (L : List (Nat × Value)) (M : World → Prop) : Prop :=
  Box (∀ a w, St n L D M a w → c.wpIn F 0 P Q a w)

/-- at a way out -/
def AQ (Q : Exit → Act → World → Prop) (e : Exit) (n : Nat) (D : List Deferred) (L : List (Nat × Value)) (M : World → Prop) : Prop :=
  Box (∀ a w, St n L D M a w → Q e a w)

section code
variable {F : Fence} {P : Program} {Q : Exit → Act → World → Prop} {n : Nat} {D : List Deferred} {L : List (Nat × Value)} {M : World → Prop}

theorem wc_seq {x y : Code} (h : WC F P (Exit.then (y.wpIn F 0 P Q) Q) n D x L M) : WC F P Q n D (.seq x y) L M := .mk fun a w s => wpIn_seq (h.out a w s)
theorem wc_skip (h : AQ Q .normal n D L M) : WC F P Q n D .skip L M := .mk fun a w s => wpIn_skip (h.out a w s)
theorem wc_label {l : Nat} (h : AQ Q .normal n D L M) : WC F P Q n D (.label l) L M := .mk fun a w s => wpIn_label (h.out a w s)
theorem wc_exit {id : Nat} (h : AQ Q (.exit id) n D L M) : WC F P Q n D (.exit id) L M := .mk fun a w s => wpIn_exit (h.out a w s)
theorem wc_goto {id : Nat} (h : AQ Q (.goto id) n D L M) : WC F P Q n D (.goto id) L M := .mk fun a w s => wpIn_goto (h.out a w s)
theorem wc_ret (h : AQ Q .ret n D L M) : WC F P Q n D .ret L M := .mk fun a w s => wpIn_ret (h.out a w s)
theorem wc_block {id : Nat} {c : Code} (h : WC F P (Exit.inBlock id Q) n D c L M) : WC F P Q n D (.block id c) L M := .mk fun a w s => wpIn_block (h.out a w s)
theorem wc_if {c : Operand} {x y : Code} {t : Bool} (hc : ev L c = some (.bool t)) (ht : t = true → WC F P Q n D x L M) (hf : t = false → WC F P Q n D y L M) :
    WC F P Q n D (.cond c x y) L M := .mk fun a w s => wpIn_cond_split (s.agr.ev c _ hc) (fun h => (ht h).out a w s) (fun h => (hf h).out a w s)
theorem wc_then {c : Operand} {x y : Code} (hc : ev L c = some (.bool true)) (h : WC F P Q n D x L M) : WC F P Q n D (.cond c x y) L M := .mk fun a w s => wpIn_cond_true (s.agr.ev c _ hc) (h.out a w s)
theorem wc_else {c : Operand} {x y : Code} (hc : ev L c = some (.bool false)) (h : WC F P Q n D y L M) : WC F P Q n D (.cond c x y) L M := .mk fun a w s => wpIn_cond_false (s.agr.ev c _ hc) (h.out a w s)
theorem wc_region {id : Nat} {l : List Oper} (h : WL F P l.toArray Q n D l L M) : WC F P Q n D (.region id l.toArray false) L M := .mk fun a w s => wpIn_region_lit (h.out a w s)

theorem wl_nil {ops : Array Oper} (h : AQ Q .normal n D L M) : WL F P ops Q n D [] L M := .mk fun a w s => h.out a w s

/-- another reading of the same state -/
theorem St.conv {L' : List (Nat × Value)} {M' : World → Prop} (hL : ∀ t v, lk L' t = some v → lk L t = some v) (hM : ∀ w, M w → M' w) {a : Act} {w : World} (s : St n L D M a w) : St n L' D M' a w :=
  ⟨⟨s.agr.size, fun t v h => s.agr.at_ t v (hL t v h)⟩, s.dfr, hM _ s.mem⟩

def Sub : List (Nat × Value) → List (Nat × Value) → Prop
  | [], _ => True
  | (t, v) :: r, L => lk L t = some v ∧ Sub r L

theorem Sub.lk {L' L : List (Nat × Value)} (h : Sub L' L) : ∀ t v, lk L' t = some v → lk L t = some v := by
  induction L' with
  | nil => intro t v hv; simp [Mc.lk] at hv
  | cons p r ih =>
    obtain ⟨u, x⟩ := p
    obtain ⟨h1, h2⟩ := h
    intro t v hv
    by_cases e : u = t
    · subst e
      rw [lk_cons_eq] at hv
      injection hv with hv; subst hv; exact h1
    · rw [lk_cons_ne e] at hv
      exact ih h2 t v hv

theorem wc_conv {L' : List (Nat × Value)} {M' : World → Prop} {c : Code} (hL : Sub L' L) (hM : ∀ w, M w → M' w) (h : WC F P Q n D c L' M') : WC F P Q n D c L M := .mk fun a w s => h.out a w (s.conv hL.lk hM)
theorem wl_conv {L' : List (Nat × Value)} {M' : World → Prop} {ops : Array Oper} {l : List Oper} (hL : Sub L' L) (hM : ∀ w, M w → M' w) (h : WL F P ops Q n D l L' M') : WL F P ops Q n D l L M := .mk fun a w s => h.out a w (s.conv hL.lk hM)
theorem aq_conv {L' : List (Nat × Value)} {M' : World → Prop} {e : Exit} (hL : Sub L' L) (hM : ∀ w, M w → M' w) (h : AQ Q e n D L' M') : AQ Q e n D L M := .mk fun a w s => h.out a w (s.conv hL.lk hM)
theorem wc_mem {M' : World → Prop} {c : Code} (hM : ∀ w, M w → M' w) (h : WC F P Q n D c L M') : WC F P Q n D c L M := .mk fun a w s => h.out a w ⟨s.agr, s.dfr, hM _ s.mem⟩
theorem wl_mem {M' : World → Prop} {ops : Array Oper} {l : List Oper} (hM : ∀ w, M w → M' w) (h : WL F P ops Q n D l L M') : WL F P ops Q n D l L M := .mk fun a w s => h.out a w ⟨s.agr, s.dfr, hM _ s.mem⟩
theorem aq_mem {M' : World → Prop} {e : Exit} (hM : ∀ w, M w → M' w) (h : AQ Q e n D L M') : AQ Q e n D L M := .mk fun a w s => h.out a w ⟨s.agr, s.dfr, hM _ s.mem⟩
theorem wc_tmps {L' : List (Nat × Value)} {c : Code} (hL : Sub L' L) (h : WC F P Q n D c L' M) : WC F P Q n D c L M := wc_conv hL (fun _ h => h) h
theorem wl_tmps {L' : List (Nat × Value)} {ops : Array Oper} {l : List Oper} (hL : Sub L' L) (h : WL F P ops Q n D l L' M) : WL F P ops Q n D l L M := wl_conv hL (fun _ h => h) h
/-- what the memory says, out -/
theorem wc_use {p : Prop} {c : Code} (hp : ∀ w, M w → p) (h : p → WC F P Q n D c L M) : WC F P Q n D c L M := .mk fun a w s => (h (hp _ s.mem)).out a w s
theorem wl_use {p : Prop} {ops : Array Oper} {l : List Oper} (hp : ∀ w, M w → p) (h : p → WL F P ops Q n D l L M) : WL F P ops Q n D l L M := .mk fun a w s => (h (hp _ s.mem)).out a w s
theorem aq_use {p : Prop} {e : Exit} (hp : ∀ w, M w → p) (h : p → AQ Q e n D L M) : AQ Q e n D L M := .mk fun a w s => (h (hp _ s.mem)).out a w s
theorem wc_ex {α : Sort _} {Mx : α → World → Prop} {c : Code} (hp : ∀ w, M w → ∃ x, Mx x w) (h : ∀ x, WC F P Q n D c L (Mx x)) : WC F P Q n D c L M := .mk fun a w s => let ⟨x, hx⟩ := hp _ s.mem; (h x).out a w ⟨s.agr, s.dfr, hx⟩
theorem wl_ex {α : Sort _} {Mx : α → World → Prop} {ops : Array Oper} {l : List Oper} (hp : ∀ w, M w → ∃ x, Mx x w) (h : ∀ x, WL F P ops Q n D l L (Mx x)) : WL F P ops Q n D l L M := .mk fun a w s => let ⟨x, hx⟩ := hp _ s.mem; (h x).out a w ⟨s.agr, s.dfr, hx⟩
theorem aq_ex {α : Sort _} {Mx : α → World → Prop} {e : Exit} (hp : ∀ w, M w → ∃ x, Mx x w) (h : ∀ x, AQ Q e n D L (Mx x)) : AQ Q e n D L M := .mk fun a w s => let ⟨x, hx⟩ := hp _ s.mem; (h x).out a w ⟨s.agr, s.dfr, hx⟩

/-! ways out -/
theorem aq_seq {y : Code} (h : WC F P Q n D y L M) : AQ (Exit.then (y.wpIn F 0 P Q) Q) .normal n D L M := h
theorem aq_thru_exit {K : Act → World → Prop} {id : Nat} (h : AQ Q (.exit id) n D L M) : AQ (Exit.then K Q) (.exit id) n D L M := h
theorem aq_thru_goto {K : Act → World → Prop} {id : Nat} (h : AQ Q (.goto id) n D L M) : AQ (Exit.then K Q) (.goto id) n D L M := h
theorem aq_thru_ret {K : Act → World → Prop} (h : AQ Q .ret n D L M) : AQ (Exit.then K Q) .ret n D L M := h
theorem aq_thru_panic {K : Act → World → Prop} {c} (h : AQ Q (.panic c) n D L M) : AQ (Exit.then K Q) (.panic c) n D L M := h
theorem aq_blk_normal {id : Nat} (h : AQ Q .normal n D L M) : AQ (Exit.inBlock id Q) .normal n D L M := h
theorem aq_blk_ret {id : Nat} (h : AQ Q .ret n D L M) : AQ (Exit.inBlock id Q) .ret n D L M := h
theorem aq_blk_goto {id l : Nat} (h : AQ Q (.goto l) n D L M) : AQ (Exit.inBlock id Q) (.goto l) n D L M := h
theorem aq_blk_panic {id : Nat} {c} (h : AQ Q (.panic c) n D L M) : AQ (Exit.inBlock id Q) (.panic c) n D L M := h
theorem aq_blk_exit {id : Nat} (h : AQ Q .normal n D L M) : AQ (Exit.inBlock id Q) (.exit id) n D L M := .mk fun a w s => by
  simp only [Exit.inBlock, if_true]; exact h.out a w s
theorem aq_blk_ne {id id' : Nat} (hne : id' ≠ id) (h : AQ Q (.exit id') n D L M) : AQ (Exit.inBlock id Q) (.exit id') n D L M := .mk fun a w s => by
  simp only [Exit.inBlock, hne, if_false]; exact h.out a w s

/-! a loop -/
def LoopEnd {γ : Type} (n : Nat) (D : List Deferred) (Lf : γ → List (Nat × Value)) (Mf : γ → World → Prop) (ok : γ → Prop) (μ : γ → Nat) (g : γ) (a : Act) (w : World) : Prop :=
  ∃ g', ok g' ∧ μ g' < μ g ∧ St n (Lf g') D (Mf g') a w

theorem wc_loop {γ : Type} (Lf : γ → List (Nat × Value)) (Mf : γ → World → Prop) (ok : γ → Prop) (μ : γ → Nat) {c : Code} (g₀ : γ) (h₀ : ok g₀) (hL : Sub (Lf g₀) L) (hM : ∀ w, M w → Mf g₀ w)
    (round : ∀ g, ok g → WC F P (Exit.then (LoopEnd n D Lf Mf ok μ g) Q) n D c (Lf g) (Mf g)) : WC F P Q n D (.loop c) L M := by
  refine .mk fun a w s b k cs hro hb hr => ?_
  have key : ∀ j g a w, μ g = j → ok g → St n (Lf g) D (Mf g) a w →
      ∃ e a' w', Q e a' w' ∧ ArrivesIn (Machine.fenced P F) P (lone (b.atR a (.code c :: .inLoop c :: k)) cs w) b k cs e a' w' := by
    intro j
    induction j using Nat.strongRecOn with
    | _ j ih =>
      intro g a w hj hg s
      obtain ⟨e, a₁, w₁, hq, harr⟩ := (round g hg).out a w s b (.inLoop c :: k) cs hro hb hr
      cases e with
      | normal =>
        obtain ⟨g', hok, hlt, s'⟩ := hq
        obtain ⟨e₂, a₂, w₂, hq₂, harr₂⟩ := ih (μ g') (hj ▸ hlt) g' a₁ w₁ rfl hok s'
        exact ⟨e₂, a₂, w₂, hq₂, .of_steps (StepsIn.trans harr (.one (fenced_calm hb hr rfl) stepR_inLoop)) harr₂⟩
      | exit id => exact ⟨_, a₁, w₁, hq, .pass (x := .inLoop c) rfl (fun _ _ => .inl (by simp)) harr⟩
      | goto l => exact ⟨_, a₁, w₁, hq, .pass (x := .inLoop c) rfl (fun _ _ => .inl (by simp)) harr⟩
      | ret => exact ⟨_, a₁, w₁, hq, .pass (x := .inLoop c) rfl (fun _ _ => .inl (by simp)) harr⟩
      | panic ch => exact ⟨_, a₁, w₁, hq, .pass (x := .inLoop c) rfl (fun _ _ => .inl (by simp)) harr⟩
      | outgrown => exact ⟨_, a₁, w₁, hq, .pass (x := .inLoop c) rfl (fun _ _ => .inl (by simp)) harr⟩
  obtain ⟨e, a', w', hq, harr⟩ := key _ g₀ a w rfl h₀ (s.conv hL.lk hM)
  exact ⟨e, a', w', hq, .of_steps (.one (fenced_calm hb hr rfl) stepR_loop) harr⟩

theorem aq_loop {γ : Type} {Lf : γ → List (Nat × Value)} {Mf : γ → World → Prop} {ok : γ → Prop} {μ : γ → Nat} {g : γ} (g' : γ) (h : ok g') (hlt : μ g' < μ g) (hL : Sub (Lf g') L) (hM : ∀ w, M w → Mf g' w) :
    AQ (Exit.then (LoopEnd n D Lf Mf ok μ g) Q) .normal n D L M := .mk fun _ _ s => ⟨g', h, hlt, s.conv hL.lk hM⟩
/-- the round's end in whatever world -/
theorem aq_loop' {γ : Type} {Lf : γ → List (Nat × Value)} {Mf : γ → World → Prop} {ok : γ → Prop} {μ : γ → Nat} {g : γ} (h : ∀ w, M w → ∃ g', ok g' ∧ μ g' < μ g ∧ Sub (Lf g') L ∧ Mf g' w) :
    AQ (Exit.then (LoopEnd n D Lf Mf ok μ g) Q) .normal n D L M := .mk fun _ w s => let ⟨g', h1, h2, h3, h4⟩ := h w s.mem; ⟨g', h1, h2, s.conv h3.lk (fun _ _ => h4) |>.agr, s.dfr, h4⟩
end code

/-! a function's body -/
def ArgsAt (args : Array Value) : List (Nat × Value) → Prop
  | [] => True
  | (t, v) :: r => args[t]? = some v ∧ ArgsAt args r

theorem agr_enter {args : Array Value} {m : Nat} {L : List (Nat × Value)} (h : ArgsAt args L) (hle : args.size ≤ m) :
    Agr m L { tmps := args ++ Array.replicate (m - args.size) undef, defers := [] } := by
  refine ⟨by simp; omega, ?_⟩
  induction L with
  | nil => intro t v hv; simp [lk] at hv
  | cons p r ih =>
    obtain ⟨u, x⟩ := p
    obtain ⟨h1, h2⟩ := h
    intro t v hv
    by_cases e : u = t
    · subst e
      rw [lk_cons_eq] at hv
      injection hv with hv; subst hv
      have hlt : u < args.size := (Array.getElem?_eq_some_iff.1 h1).1
      show (args ++ _)[u]? = _
      rw [Array.getElem?_append_left hlt]; exact h1
    · rw [lk_cons_ne e] at hv
      exact ih h2 t v hv

theorem calls_of {P : Program} {f : FuncId} {fn : Func} {c : Code} {args : Array Value} {w : World} {R : Ending → World → Prop} {L : List (Nat × Value)} {M : World → Prop} {m : Nat}
    (hf : P.funcs[f]? = some fn) (hb : fn.body = some c) (hm : fn.ntmps = m) (hL : ArgsAt args L) (hle : args.size ≤ m) (hM : M w)
    (h : WC Fence.wide P (bodyPost P fn R) m [] c L M) : Calls P f args w R := by
  refine (callsIn_wide (n := 0)).1 (callsIn_of_wp hf hb trivial (h.out _ _ ⟨?_, rfl, hM⟩) rfl)
  subst hm
  exact agr_enter hL hle

/-- the results -/
def ResM (P : Program) (L : List (Nat × Value)) (M : World → Prop) : List ResultVar → List Value → Prop
  | [], vs => vs = []
  | .tmp t :: r, vs => ∃ v us, lk L t = some v ∧ vs = v :: us ∧ ResM P L M r us
  | .cell t ty :: r, vs => ∃ v us a, lk L t = some (.pointer (some a)) ∧ (∀ w, M w → (loadVar ty a).run P w = .ok v w) ∧ vs = v :: us ∧ ResM P L M r us

def tup : List Value → Value
  | [v] => v
  | vs => .tuple vs.toArray

theorem run_results {P : Program} {fn : Func} {L : List (Nat × Value)} {M : World → Prop} {n : Nat} {a : Act} {w : World} {rs : List ResultVar} {vs : List Value} (hr : fn.results = rs.toArray) (ha : Agr n L a) (hm : M w) (h : ResM P L M rs vs) :
    (results fn a.tmps).run P w = .ok (tup vs) w := by
  have key : ∀ (rs : List ResultVar) (vs : List Value), ResM P L M rs vs →
      (rs.mapM (m := Sem) fun | .tmp t => pure (a.tmps.getD t undef) | .cell b t => do loadVar t (← asAddr (a.tmps.getD b undef))).run P w = .ok vs w := by
    intro rs
    induction rs with
    | nil => intro vs h; simp [ResM] at h; subst h; rfl
    | cons r rs ih =>
      intro vs h
      cases r with
      | cell b t =>
        obtain ⟨v, us, ad, hv, hl, rfl, hus⟩ := h
        have e : a.tmps.getD b undef = .pointer (some ad) := by simp [Array.getD_eq_getD_getElem?, ha.at_ b _ hv]
        have e2 : (do loadVar t (← asAddr (a.tmps.getD b undef)) : Sem Value).run P w = .ok v w := by rw [e]; exact hl w hm
        rw [List.mapM_cons, Sem.run_bind]
        dsimp only
        rw [e2]
        simp only [Sem.run_bind, Sem.run_pure, Result.andThen_ok, ih us hus]
      | tmp t =>
        obtain ⟨v, us, hv, rfl, hus⟩ := h
        have e : a.tmps.getD t undef = v := by simp [Array.getD_eq_getD_getElem?, ha.at_ t v hv]
        rw [List.mapM_cons]
        simp only [Sem.run_bind, e, Sem.run_pure, Result.andThen_ok, ih us hus]
  unfold results
  rw [hr, List.mapM_toArray]
  simp only [Sem.run_bind, Sem.run_map]
  erw [key rs vs h]
  match vs with
  | [] => rfl
  | [v] => rfl
  | v :: u :: r => simp [Result.andThen, Sem.run_pure, tup]

section
variable {P : Program} {n : Nat} {L : List (Nat × Value)} {M : World → Prop}
theorem aq_return {fn : Func} {R : Ending → World → Prop} {rs : List ResultVar} {vs : List Value} {e : Exit} (he : e = .ret ∨ e = .normal) (hr : fn.results = rs.toArray) (h : ResM P L M rs vs) (hR : ∀ w, M w → R (.returned (tup vs)) w) :
    AQ (bodyPost P fn R) e n [] L M := .mk fun a w s => by
  rcases he with rfl | rfl
  · exact ⟨s.dfr, _, run_results hr s.agr s.mem h, hR w s.mem⟩
  · exact ⟨s.dfr, _, run_results hr s.agr s.mem h, hR w s.mem⟩
theorem aq_panicked {fn : Func} {R : Ending → World → Prop} {c} (hR : ∀ w, M w → R (.panicked c) w) : AQ (bodyPost P fn R) (.panic c) n [] L M := .mk fun _ w s => ⟨s.dfr, hR w s.mem⟩
end

/-! a meeting point between two pieces of code -/
def MidEnd {γ : Type} (n : Nat) (D : List Deferred) (Lf : γ → List (Nat × Value)) (Mf : γ → World → Prop) (ok : γ → Prop) (a : Act) (w : World) : Prop :=
  ∃ g, ok g ∧ St n (Lf g) D (Mf g) a w
theorem wc_mid {F : Fence} {P : Program} {Q : Exit → Act → World → Prop} {n : Nat} {D : List Deferred} {L : List (Nat × Value)} {M : World → Prop} {γ : Type} (Lf : γ → List (Nat × Value)) (Mf : γ → World → Prop) (ok : γ → Prop) {x y : Code}
    (hx : WC F P (Exit.then (MidEnd n D Lf Mf ok) Q) n D x L M) (hy : ∀ g, ok g → WC F P Q n D y (Lf g) (Mf g)) : WC F P Q n D (.seq x y) L M := .mk fun a w s => wpIn_seq (wpIn_mono (hx.out a w s) fun e a w q => by
    cases e with
    | normal => obtain ⟨g, hg, s'⟩ := q; exact (hy g hg).out a w s'
    | _ => exact q)
theorem aq_mid {Q : Exit → Act → World → Prop} {n : Nat} {D : List Deferred} {L : List (Nat × Value)} {M : World → Prop} {γ : Type} {Lf : γ → List (Nat × Value)} {Mf : γ → World → Prop} {ok : γ → Prop} (g : γ) (h : ok g) (hL : Sub (Lf g) L) (hM : ∀ w, M w → Mf g w) :
    AQ (Exit.then (MidEnd n D Lf Mf ok) Q) .normal n D L M := .mk fun _ _ s => ⟨g, h, s.conv hL.lk hM⟩
theorem wc_then' {F : Fence} {P : Program} {Q : Exit → Act → World → Prop} {n : Nat} {D : List Deferred} {L : List (Nat × Value)} {M : World → Prop} {c : Operand} {x y : Code} {t : Bool} (hc : ev L c = some (.bool t)) (ht : t = true) (h : WC F P Q n D x L M) : WC F P Q n D (.cond c x y) L M :=
  wc_then (by rw [hc, ht]) h
theorem wc_else' {F : Fence} {P : Program} {Q : Exit → Act → World → Prop} {n : Nat} {D : List Deferred} {L : List (Nat × Value)} {M : World → Prop} {c : Operand} {x y : Code} {t : Bool} (hc : ev L c = some (.bool t)) (ht : t = false) (h : WC F P Q n D y L M) : WC F P Q n D (.cond c x y) L M :=
  wc_else (by rw [hc, ht]) h
end Go.Mc

namespace Go.Mc
section
variable {F : Fence} {P : Program} {Q : Exit → Act → World → Prop} {n : Nat} {D : List Deferred} {L : List (Nat × Value)} {M : World → Prop} {ops : Array Oper} {rest : List Oper}

/-- the operation yields this value, in every world of M, and leaves the world -/
def Yld (P : Program) (o : Oper) (L : List (Nat × Value)) (M : World → Prop) (v : Value) : Prop :=
  Box (∀ ρ w, Ev L ρ → M w → (execOp ρ o).run P w = .ok (.value v) w)

/-- a call hands back one of these values, in such a world -/
def Ret {α : Sort _} (V : α → Value) (M' : α → World → Prop) : Ending → World → Prop := fun e w' => ∃ x, e = .returned (V x) ∧ M' x w'

def effUpon (F : Fence) (P : Program) {α : Sort _} (V : α → Value) (M' : α → World → Prop) : Result Next → Prop
  | .ok (.value v) w' => ∃ x, v = V x ∧ M' x w'
  | .ok .skip w' => ∃ x, V x = undef ∧ M' x w'
  | .ok (.enter f args) w' => CallsIn F 0 P f args w' (Ret V M')
  | .ok (.round l f tmps assign body) w' => RoundIn F 0 P l f tmps assign body w' (Ret V M')
  | _ => False

/-- the operation yields one of these values, in a new world -/
def Eff (F : Fence) (P : Program) (o : Oper) (L : List (Nat × Value)) (M : World → Prop) {α : Sort _} (V : α → Value) (M' : α → World → Prop) : Prop :=
  Box (∀ ρ w, Ev L ρ → M w → effUpon F P V M' ((execOp ρ o).run P w))

theorem eff_mk {F : Fence} {o : Oper} {α : Sort _} {V : α → Value} {M' : α → World → Prop} (h : ∀ ρ w, Ev L ρ → M w → ∃ x w', ((execOp ρ o).run P w = .ok (.value (V x)) w' ∨ ((execOp ρ o).run P w = .ok .skip w' ∧ V x = undef)) ∧ M' x w') : Eff F P o L M V M' := .mk fun ρ w he hM => by
  obtain ⟨x, w', hr, hm⟩ := h ρ w he hM
  rcases hr with hr | ⟨hr, hu⟩
  · rw [hr]; exact ⟨x, rfl, hm⟩
  · rw [hr]; exact ⟨x, hu, hm⟩

theorem Yld.eff {F : Fence} {o : Oper} {v : Value} (h : Yld P o L M v) : Eff F P o L M (fun _ : Unit => v) (fun _ => M) :=
  eff_mk fun ρ w he hM => ⟨(), w, .inl (h.out ρ w he hM), hM⟩

theorem Eff.upon [Wide F] {o : Oper} {α : Sort _} {V : α → Value} {M' : α → World → Prop} {a : Act} {r : Result Next} {next : Act → World → Prop} {Q : Exit → Act → World → Prop} (h : effUpon F P V M' r) (k : ∀ x w', M' x w' → next (a.put o.dst (V x)) w') : o.uponIn F 0 P a next Q r := by
  have room : F.depth.isSome = true → 1 ≤ 0 := fun h => by rw [Wide.depth] at h; cases h
  cases r with
  | ok x w' =>
    cases x <;> simp only [effUpon] at h <;> simp only [Oper.uponIn]
    case value v => obtain ⟨x, rfl, hm⟩ := h; exact k x w' hm
    case skip => obtain ⟨x, hu, hm⟩ := h; have := k x w' hm; rwa [hu] at this
    case enter f args => exact ⟨room, CallsIn.mono h fun e w'' he => by obtain ⟨x, rfl, hm⟩ := he; exact k x w'' hm⟩
    case round l f tmps assign body => exact ⟨room, RoundIn.mono h fun e w'' he => by obtain ⟨x, rfl, hm⟩ := he; exact k x w'' hm⟩
  | halt x w' => simp only [effUpon] at h

def isDefer : Op → Bool
  | .defer _ => true
  | _ => false
def isSelect : Op → Bool
  | .select .. => true
  | _ => false

def GOn (ops : Array Oper) (L : List (Nat × Value)) : Option (Nat × Bool) → Prop
  | none => True
  | some (j, want) => ∃ t, (ops[j]?).bind (·.dst) = some t ∧ lk L t = some (.bool want)
def GOff (ops : Array Oper) (L : List (Nat × Value)) : Option (Nat × Bool) → Prop
  | none => False
  | some (j, want) => ∃ t v, (ops[j]?).bind (·.dst) = some t ∧ lk L t = some v ∧ (v = .bool (!want) ∨ v = undef)

theorem wanted_on {o : Oper} {a : Act} (ha : Agr n L a) (h : GOn ops L o.guard) : Region.wanted o (yielded ops a.tmps) = true := by
  unfold Region.wanted
  cases hg : o.guard with
  | none => rfl
  | some p =>
    obtain ⟨j, want⟩ := p
    rw [hg] at h
    obtain ⟨t, ht, hl⟩ := h
    simp [yielded, ht, ha.at_ t _ hl]
theorem wanted_off {o : Oper} {a : Act} (ha : Agr n L a) (h : GOff ops L o.guard) : Region.wanted o (yielded ops a.tmps) = false := by
  unfold Region.wanted
  cases hg : o.guard with
  | none => rw [hg] at h; exact h.elim
  | some p =>
    obtain ⟨j, want⟩ := p
    rw [hg] at h
    obtain ⟨t, v, ht, hl, hv⟩ := h
    rcases hv with rfl | rfl
    · simp [yielded, ht, ha.at_ t _ hl]
    · simp [yielded, ht, ha.at_ t _ hl, undef]

theorem semAt_of {F : Fence} {o : Oper} {ρ : Operand → Value} (h : isDefer o.op = false) : o.semAt F.round ρ = execOp ρ o :=
  Oper.semAt_eq _ _ _ fun c e => by rw [e] at h; cases h

/-- what is known of the temporaries behind an operation -/
def putL (d : Option Tmp) (v : Value) (L : List (Nat × Value)) : List (Nat × Value) :=
  match d with
  | some d => (d, v) :: L
  | none => L
def okDst (d : Option Tmp) (n : Nat) : Bool := match d with | some d => Nat.blt d n | none => true

theorem Agr.putL {a : Act} (h : Agr n L a) (d : Option Tmp) (hd : okDst d n = true) (v : Value) : Agr n (putL d v L) (a.put d v) := by
  cases d with
  | none => exact h
  | some d => exact h.put (by simpa [okDst, Nat.blt_eq] using hd) v

theorem put_defers (a : Act) (d : Option Tmp) (v : Value) : (a.put d v).defers = a.defers := by cases d <;> rfl

theorem wl_eff [Wide F] {o : Oper} {α : Sort _} {V : α → Value} {M' : α → World → Prop} (h : Eff F P o L M V M') (hn : isDefer o.op = false) (hg : GOn ops L o.guard) (hd : okDst o.dst n = true)
    (k : ∀ x, WL F P ops Q n D rest (putL o.dst (V x) L) (M' x)) : WL F P ops Q n D (o :: rest) L M := by
  refine .mk fun a w s => ?_
  show (if Region.wanted o (yielded ops a.tmps) then o.wpIn F 0 P a w (wpListIn F 0 P ops Q rest) Q else _)
  rw [if_pos (wanted_on s.agr hg)]
  refine ⟨fun f _ => Wide.fn f, ?_⟩
  rw [semAt_of hn]
  exact Eff.upon (h.out a.eval w s.agr.ev s.mem) fun x w' hm => (k x).out _ _ ⟨s.agr.putL _ hd _, (put_defers _ _ _).trans s.dfr, hm⟩

/-- a value, the world as it is -/
theorem wl_y [Wide F] {d : Tmp} {op : Op} {ty : TypeId} {pos : String} {af : Array Edge} {g : Option (Nat × Bool)} {v : Value} (h : Yld P ⟨some d, op, ty, pos, af, g⟩ L M v)
    (k : WL F P ops Q n D rest ((d, v) :: L) M) (hd : Nat.blt d n = true := by rfl) (hg : GOn ops L g := by trivial) (hn : isDefer op = false := by rfl) : WL F P ops Q n D (⟨some d, op, ty, pos, af, g⟩ :: rest) L M :=
  wl_eff (Yld.eff h) hn hg hd fun _ => k

/-- an operation that is passed over -/
theorem wl_off [Wide F] {o : Oper} (hg : GOff ops L o.guard) (hd : okDst o.dst n = true) (k : WL F P ops Q n D rest (putL o.dst undef L) M) : WL F P ops Q n D (o :: rest) L M := by
  refine .mk fun a w s => ?_
  show (if Region.wanted o (yielded ops a.tmps) then _ else (∀ f, o.about P w a.eval = some f → F.fn f) ∧ wpListIn F 0 P ops Q rest (a.put o.dst undef) w)
  rw [if_neg (by rw [wanted_off s.agr hg]; simp)]
  exact ⟨fun f _ => Wide.fn f, k.out _ _ ⟨s.agr.putL _ hd _, (put_defers _ _ _).trans s.dfr, s.mem⟩⟩

/-- by a bool -/
theorem wl_bool {t : Tmp} {b : Bool} (hb : lk L t = some (.bool b)) (ht : b = true → WL F P ops Q n D rest ((t, .bool true) :: L) M) (hf : b = false → WL F P ops Q n D rest ((t, .bool false) :: L) M) : WL F P ops Q n D rest L M := by
  refine .mk fun a w s => ?_
  have key : ∀ c, b = c → St n ((t, .bool c) :: L) D M a w := fun c e => ⟨⟨s.agr.size, fun u v hu => by
    by_cases e' : t = u
    · subst e'; rw [lk_cons_eq] at hu; injection hu with hu; subst hu; subst e; exact s.agr.at_ _ _ hb
    · rw [lk_cons_ne e'] at hu; exact s.agr.at_ _ _ hu⟩, s.dfr, s.mem⟩
  cases b with
  | true => exact (ht rfl).out a w (key true rfl)
  | false => exact (hf rfl).out a w (key false rfl)

/-- another spelling of what a temporary holds -/
theorem wl_re {t : Tmp} {v v' : Value} (hb : lk L t = some v) (e : v = v') (k : WL F P ops Q n D rest ((t, v') :: L) M) : WL F P ops Q n D rest L M := by
  subst e
  exact .mk fun a w s => k.out a w ⟨⟨s.agr.size, fun u x hu => by
    by_cases e' : t = u
    · subst e'; rw [lk_cons_eq] at hu; injection hu with hu; subst hu; exact s.agr.at_ _ _ hb
    · rw [lk_cons_ne e'] at hu; exact s.agr.at_ _ _ hu⟩, s.dfr, s.mem⟩

/-! ### operations that touch no memory -/
section pure
variable {d : Option Tmp} {ty : TypeId} {pos : String} {af : Array Edge} {g : Option (Nat × Bool)}

theorem y_move {x : Operand} {v : Value} (h : ev L x = some v) : Yld P ⟨d, .move x, ty, pos, af, g⟩ L M v := .mk fun ρ w he _ => by
  simp [execOp, he x v h]
theorem y_assign {x : Operand} {v : Value} (h : ev L x = some v) : Yld P ⟨d, .assign x, ty, pos, af, g⟩ L M v := .mk fun ρ w he _ => by
  simp [execOp, he x v h]
theorem y_pick {c x y : Operand} {b : Bool} {v : Value} (hc : ev L c = some (.bool b)) (h : ev L (if b then x else y) = some v) : Yld P ⟨d, .pick c x y, ty, pos, af, g⟩ L M v := .mk fun ρ w he _ => by
  have h1 := he _ _ hc
  have h2 := he _ _ h
  cases b <;> simp_all [execOp, asBool]

def bin : BinOp → Value → Value → Option Value
  | .shl, .int k a, .int _ b => if b < 0 then none else some (.int k (k.wrap (a * 2 ^ (min b.toNat k.bits))))
  | .shr, .int k a, .int _ b => if b < 0 then none else some (.int k (a.fdiv (2 ^ (min b.toNat k.bits))))
  | .add, .int k a, .int k' b => if k = k' then some (.int k (k.wrap (a + b))) else none
  | .sub, .int k a, .int k' b => if k = k' then some (.int k (k.wrap (a - b))) else none
  | .mul, .int k a, .int k' b => if k = k' then some (.int k (k.wrap (a * b))) else none
  | .quo, .int k a, .int k' b => if k = k' ∧ b ≠ 0 then some (.int k (k.wrap (a.tdiv b))) else none
  | .rem, .int k a, .int k' b => if k = k' ∧ b ≠ 0 then some (.int k (a.tmod b)) else none
  | .and, .int k a, .int k' b => if k = k' then some (.int k (k.wrap (BitVec.ofInt k.bits a &&& BitVec.ofInt k.bits b).toNat)) else none
  | .or, .int k a, .int k' b => if k = k' then some (.int k (k.wrap (BitVec.ofInt k.bits a ||| BitVec.ofInt k.bits b).toNat)) else none
  | .xor, .int k a, .int k' b => if k = k' then some (.int k (k.wrap (BitVec.ofInt k.bits a ^^^ BitVec.ofInt k.bits b).toNat)) else none
  | .andNot, .int k a, .int k' b => if k = k' then some (.int k (k.wrap (BitVec.ofInt k.bits a &&& ~~~ BitVec.ofInt k.bits b).toNat)) else none
  | .eql, .int k a, .int k' b => if k = k' then some (.bool (a == b)) else none
  | .neq, .int k a, .int k' b => if k = k' then some (.bool (a != b)) else none
  | .lss, .int k a, .int k' b => if k = k' then some (.bool (a < b)) else none
  | .leq, .int k a, .int k' b => if k = k' then some (.bool (a ≤ b)) else none
  | .gtr, .int k a, .int k' b => if k = k' then some (.bool (a > b)) else none
  | .geq, .int k a, .int k' b => if k = k' then some (.bool (a ≥ b)) else none
  | _, _, _ => none

theorem y_bin {op : BinOp} {t t' : TypeId} {x y : Operand} {u v r : Value} (hx : ev L x = some u) (hy : ev L y = some v) (hr : bin op u v = some r) : Yld P ⟨d, .binOp op t x y t', ty, pos, af, g⟩ L M r := .mk fun ρ w he _ => by
  have h1 := he _ _ hx
  have h2 := he _ _ hy
  simp only [execOp, h1, h2, Sem.run_bind]
  cases u with
  | int k a =>
    cases v with
    | int k' b =>
      have hg : (eqGuard op t x y (.int k a) (.int k' b)).run P w = .ok () w := by
        unfold eqGuard; cases op <;> rfl
      rw [hg]
      simp only [Result.andThen_ok]
      cases op <;> simp only [bin] at hr <;> (try split at hr) <;> (try cases hr) <;> simp_all [binOp, Op.shift, Op.intArith, Op.intDiv, Op.intBits, Op.intCmp] <;> (intro hb; omega)
    | _ => cases op <;> simp [bin] at hr
  | _ => cases op <;> simp [bin] at hr

theorem y_not {t : TypeId} {x : Operand} {b : Bool} (h : ev L x = some (.bool b)) : Yld P ⟨d, .unOp .not t x, ty, pos, af, g⟩ L M (.bool (!b)) := .mk fun ρ w he _ => by
  simp [execOp, he _ _ h, Op.unary]
theorem y_extract {x : Operand} {i : Nat} {vs : Array Value} {v : Value} (h : ev L x = some (.tuple vs)) (hi : vs[i]? = some v) : Yld P ⟨d, .extract x i, ty, pos, af, g⟩ L M v := .mk fun ρ w he _ => by
  simp [execOp, he _ _ h, Instr.extract, hi]
theorem y_convert {s t : TypeId} {x : Operand} {k k' : IntKind} {m : Int} (h : ev L x = some (.int k m)) {ds : TypeDesc} (hs : P.underlying s = some ds) (ht : P.underlying t = some (.int k')) :
    Yld P ⟨d, .convert s t x, ty, pos, af, g⟩ L M (.int k' (k'.wrap m)) := .mk fun ρ w he _ => by
  simp [execOp, he _ _ h, convert, underlying, hs, ht, Conv.intToInt]
end pure

/-! ### calls -/
def cfB (P : Program) (f : FuncId) : Bool := match P.funcs[f]? with | some fn => fn.body.isSome && !(fn.name == "runtime.NumGoroutine") | none => false
theorem run_callFunc {f : FuncId} {args : Array Value} {w : World} (h : cfB P f = true) : (callFunc f args).run P w = .ok (.enter f args) w := by
  unfold cfB at h
  cases hf : P.funcs[f]? with
  | none => simp [hf] at h
  | some fn =>
    simp only [hf, Bool.and_eq_true, Bool.not_eq_true'] at h
    have h1 : fn.body.isNone = false := by cases hb : fn.body <;> simp_all
    simp only [callFunc, Sem.run_bind, run_program, Result.andThen_ok, hf, h.2, h1, Bool.false_eq_true, if_false, Sem.run_pure]
section
variable {d : Option Tmp} {ty : TypeId} {pos : String} {af : Array Edge} {g : Option (Nat × Bool)}
theorem run_call {ρ : Operand → Value} {w : World} {f : FuncId} {args : Array Operand} {tys : Array TypeId} {vs : List Value} (hf : cfB P f = true) (he : Ev L ρ) (ha : evs L args.toList = some vs) :
    (execOp ρ ⟨d, .call ⟨.value (.func f), args, tys⟩, ty, pos, af, g⟩).run P w = .ok (.enter f vs.toArray) w := by
  have h1 : args.map ρ = vs.toArray := by have := he.evs ha; rw [← this, ← List.map_toArray]
  have h2 : ρ (.func f) = .func (.func f) #[] #[] := he _ _ rfl
  simp [execOp, resolve, h1, h2, Deferred.ofValue, invoke, run_callFunc hf]
theorem run_callv {ρ : Operand → Value} {w : World} {x : Operand} {f : FuncId} {first cap : Array Value} {args : Array Operand} {tys : Array TypeId} {vs : List Value} (hx : ev L x = some (.func (.func f) first cap)) (hf : cfB P f = true) (he : Ev L ρ) (ha : evs L args.toList = some vs) :
    (execOp ρ ⟨d, .call ⟨.value x, args, tys⟩, ty, pos, af, g⟩).run P w = .ok (.enter f (first ++ vs.toArray ++ cap)) w := by
  have h1 : args.map ρ = vs.toArray := by have := he.evs ha; rw [← this, ← List.map_toArray]
  simp [execOp, resolve, h1, he _ _ hx, Deferred.ofValue, invoke, run_callFunc hf]
theorem e_call [Wide F] {f : FuncId} {args : Array Operand} {tys : Array TypeId} {vs : List Value} {α : Sort _} {V : α → Value} {M' : α → World → Prop} (hf : cfB P f = true) (ha : evs L args.toList = some vs) (hc : ∀ w, M w → Calls P f vs.toArray w (Ret V M')) :
    Eff F P ⟨d, .call ⟨.value (.func f), args, tys⟩, ty, pos, af, g⟩ L M V M' := .mk fun ρ w he hM => by
  rw [run_call hf he ha]; exact callsIn_of_calls (hc w hM)
theorem e_callv [Wide F] {x : Operand} {f : FuncId} {first cap : Array Value} {args : Array Operand} {tys : Array TypeId} {vs : List Value} {α : Sort _} {V : α → Value} {M' : α → World → Prop} (hx : ev L x = some (.func (.func f) first cap)) (hf : cfB P f = true) (ha : evs L args.toList = some vs) (hc : ∀ w, M w → Calls P f (first ++ vs.toArray ++ cap) w (Ret V M')) :
    Eff F P ⟨d, .call ⟨.value x, args, tys⟩, ty, pos, af, g⟩ L M V M' := .mk fun ρ w he hM => by
  rw [run_callv hx hf he ha]; exact callsIn_of_calls (hc w hM)
end
end
end Go.Mc

namespace Go.Mc

/-- the address of cell k behind an address -/
def adr (ad : Option Addr) (k : Nat) : Addr := (ad.getD ⟨0, 0, none⟩).add k
@[simp] theorem Addr.add_mk (b o k : Nat) : (⟨b, o, none⟩ : Addr).add k = ⟨b, o + k, none⟩ := by
  unfold Addr.add; split <;> simp_all
theorem Addr.add_add (a : Addr) (i j : Nat) : (a.add i).add j = a.add (i + j) := by
  unfold Addr.add
  by_cases hi : i = 0 <;> by_cases hj : j = 0 <;> simp_all
  omega
theorem adr_add (ad : Option Addr) (i j : Nat) : (adr ad i).add j = adr ad (i + j) := Addr.add_add _ _ _
theorem Addr.add_block (a : Addr) (k : Nat) : (a.add k).block = a.block := by unfold Addr.add; split <;> rfl

/-- a piece of memory that is held -/
inductive Ch where
  | blk (b : Nat) (o : Obj)
  | sl (ad : Option Addr) (n cap : Nat) (E : TypeId) (sz : Nat) (xs : List Value)

def Ch.keys : Ch → List Nat
  | .blk b _ => [b]
  | .sl (some a) _ (_ + 1) _ _ _ => [a.block]
  | .sl _ _ _ _ _ _ => []

def Ch.sat (h : Nat → Option Obj) : Ch → Prop
  | .blk b o => h b = some o
  | .sl (some a) n (cap + 1) E sz xs => a.off = 0 ∧ a.spot = none ∧ n ≤ cap + 1 ∧ xs.length = n * sz ∧ ∃ rest, (cap + 1) * sz ≤ xs.length + List.length rest ∧ h a.block = some (.cells (xs ++ rest).toArray E (0, 0))
  | .sl _ n cap _ _ xs => n = 0 ∧ cap = 0 ∧ xs = []

theorem Ch.sat_of {h h' : Nat → Option Obj} {c : Ch} (hs : c.sat h) (he : ∀ b ∈ c.keys, h' b = h b) : c.sat h' := by
  cases c with
  | blk b o => simp only [Ch.sat, Ch.keys] at *; rw [he b (by simp)]; exact hs
  | sl ad n cap E sz xs =>
    cases ad with
    | none => exact hs
    | some a =>
      cases cap with
      | zero => exact hs
      | succ cap => simp only [Ch.sat, Ch.keys] at *; rw [he a.block (by simp)]; exact hs

theorem Ch.sat_some {h : Nat → Option Obj} {c : Ch} (hs : c.sat h) : ∀ b ∈ c.keys, (h b).isSome = true := by
  intro b hb
  cases c with
  | blk b' o => simp only [Ch.sat, Ch.keys, List.mem_singleton] at *; subst hb; simp [hs]
  | sl ad n cap E sz xs =>
    cases ad with
    | none => cases hb
    | some a =>
      cases cap with
      | zero => cases hb
      | succ cap =>
      simp only [Ch.keys, List.mem_singleton] at hb; subst hb
      obtain ⟨_, _, _, _, rest, _, h1⟩ := hs
      simp [h1]

abbrev World.at (w : World) : Nat → Option Obj := fun b => w.heap[b]?

def Apart (H : List Ch) : Prop := H.Pairwise fun c d => ∀ b ∈ c.keys, b ∉ d.keys

structure Mem (w0 : World) (own : List Nat) (H : List Ch) (w : World) : Prop where
  os : w.os = w0.os
  tape : w.tape = w0.tape
  output : w.output = w0.output
  size : w0.heap.size ≤ w.heap.size
  frame : ∀ b, b < w0.heap.size → b ∉ own → w.heap[b]? = w0.heap[b]?
  sat : ∀ c ∈ H, c.sat (World.at w)
  apart : Apart H
  mine : ∀ c ∈ H, ∀ b ∈ c.keys, b ∈ own ∨ w0.heap.size ≤ b

theorem lt_of_some {w : World} {b : Nat} (h : (World.at w b).isSome = true) : b < w.heap.size := by
  rcases Nat.lt_or_ge b w.heap.size with h' | h'
  · exact h'
  · simp [Array.getElem?_eq_none h'] at h

theorem Mem.key_lt {w0 w : World} {own : List Nat} {H : List Ch} (m : Mem w0 own H w) {c : Ch} (hc : c ∈ H) {b : Nat} (hb : b ∈ c.keys) : b < w.heap.size :=
  lt_of_some (Ch.sat_some (m.sat c hc) b hb)

theorem Mem.refl (w : World) : Mem w [] [] w := ⟨rfl, rfl, rfl, Nat.le_refl _, fun _ _ _ => rfl, fun _ h => (by cases h), List.Pairwise.nil, fun _ h => (by cases h)⟩

theorem Mem.start {w : World} {H : List Ch} (hs : ∀ c ∈ H, c.sat (World.at w)) (ha : Apart H) : Mem w (H.flatMap Ch.keys) H w :=
  ⟨rfl, rfl, rfl, Nat.le_refl _, fun _ _ _ => rfl, hs, ha, fun c hc b hb => .inl (List.mem_flatMap.2 ⟨c, hc, hb⟩)⟩

theorem Mem.below {w w' : World} {H : List Ch} (m : Mem w [] H w') : Go.RowKit.Below w.heap.size w w' := ⟨m.os, m.tape, m.output, m.size, fun k hk => m.frame k hk (by simp)⟩

theorem Mem.drew {w0 w : World} {own : List Nat} {H : List Ch} (m : Mem w0 own H w) : Mem w0 own H { w with drawn := w.drawn + 1 } := ⟨m.os, m.tape, m.output, m.size, m.frame, m.sat, m.apart, m.mine⟩

/-- a change of one chunk, in its own blocks -/
theorem Mem.change {w0 w w' : World} {own : List Nat} {H : List Ch} (m : Mem w0 own H w) {i : Nat} {c c' : Ch} (hi : H[i]? = some c) (hk : ∀ b ∈ c'.keys, b ∈ c.keys ∨ w.heap.size ≤ b)
    (hos : w'.os = w.os) (htape : w'.tape = w.tape) (hout : w'.output = w.output) (hsize : w.heap.size ≤ w'.heap.size) (hfr : ∀ b, b < w.heap.size → b ∉ c.keys → w'.heap[b]? = w.heap[b]?) (hs : c'.sat (World.at w')) :
    Mem w0 own (H.set i c') w' := by
  have hlt : i < H.length := (List.getElem?_eq_some_iff.1 hi).1
  have hci : H[i] = c := (List.getElem?_eq_some_iff.1 hi).2
  have hcm : c ∈ H := hci ▸ List.getElem_mem hlt
  have disj : ∀ j (hj : j < H.length), j ≠ i → ∀ b ∈ H[j].keys, b ∉ c.keys := by
    intro j hj hne b hb hb'
    rcases Nat.lt_or_gt_of_ne hne with h | h
    · exact List.pairwise_iff_getElem.1 m.apart j i hj hlt h b hb (hci ▸ hb')
    · exact List.pairwise_iff_getElem.1 m.apart i j hlt hj h b (hci ▸ hb') hb
  have keyok : ∀ j (hj : j < H.length), j ≠ i → ∀ b ∈ H[j].keys, b ∉ c'.keys := by
    intro j hj hne b hb hb'
    rcases hk b hb' with h | h
    · exact disj j hj hne b hb h
    · exact absurd (m.key_lt (List.getElem_mem hj) hb) (by omega)
  refine ⟨hos.trans m.os, htape.trans m.tape, hout.trans m.output, Nat.le_trans m.size hsize, ?_, ?_, ?_, ?_⟩
  · intro b hb hbo
    rw [hfr b (Nat.lt_of_lt_of_le hb m.size) ?_, m.frame b hb hbo]
    intro hbk
    rcases m.mine c hcm b hbk with h | h
    · exact hbo h
    · omega
  · intro d hd
    obtain ⟨j, hj, rfl⟩ := List.getElem_of_mem hd
    simp only [List.length_set] at hj
    by_cases hij : i = j
    · subst hij; simpa using hs
    · rw [List.getElem_set_ne hij]
      have hne : j ≠ i := fun e => hij e.symm
      refine Ch.sat_of (m.sat _ (List.getElem_mem hj)) fun b hb => ?_
      exact hfr b (m.key_lt (List.getElem_mem hj) hb) (disj j hj hne b hb)
  · refine List.pairwise_iff_getElem.2 fun j k hj hk' hjk => ?_
    simp only [List.length_set] at hj hk'
    by_cases h1 : i = j
    · subst h1
      have h2 : i ≠ k := by omega
      rw [List.getElem_set_self, List.getElem_set_ne h2]
      exact fun b hb hb' => keyok k hk' (fun e => h2 e.symm) b hb' hb
    · rw [List.getElem_set_ne h1]
      by_cases h2 : i = k
      · subst h2; rw [List.getElem_set_self]; exact fun b hb hb' => keyok j hj (fun e => h1 e.symm) b hb hb'
      · rw [List.getElem_set_ne h2]; exact List.pairwise_iff_getElem.1 m.apart j k hj hk' hjk
  · intro d hd b hb
    obtain ⟨j, hj, rfl⟩ := List.getElem_of_mem hd
    simp only [List.length_set] at hj
    by_cases hij : i = j
    · subst hij
      rw [List.getElem_set_self] at hb
      rcases hk b hb with h | h
      · exact m.mine c hcm b h
      · exact .inr (Nat.le_trans m.size h)
    · rw [List.getElem_set_ne hij] at hb
      exact m.mine _ (List.getElem_mem hj) b hb

/-- a new chunk, in new blocks -/
theorem Mem.push {w0 w w' : World} {own : List Nat} {H : List Ch} (m : Mem w0 own H w) {c : Ch} (hk : ∀ b ∈ c.keys, w.heap.size ≤ b)
    (hos : w'.os = w.os) (htape : w'.tape = w.tape) (hout : w'.output = w.output) (hsize : w.heap.size ≤ w'.heap.size) (hfr : ∀ b, b < w.heap.size → w'.heap[b]? = w.heap[b]?) (hs : c.sat (World.at w')) :
    Mem w0 own (c :: H) w' := by
  refine ⟨hos.trans m.os, htape.trans m.tape, hout.trans m.output, Nat.le_trans m.size hsize, ?_, ?_, ?_, ?_⟩
  · intro b hb hbo; rw [hfr b (Nat.lt_of_lt_of_le hb m.size), m.frame b hb hbo]
  · intro d hd
    rcases List.mem_cons.1 hd with rfl | hd
    · exact hs
    · exact Ch.sat_of (m.sat d hd) fun b hb => hfr b (m.key_lt hd hb)
  · exact List.Pairwise.cons (fun d hd b hb hb' => absurd (m.key_lt hd hb') (by have := hk b hb; omega)) m.apart
  · intro d hd b hb
    rcases List.mem_cons.1 hd with rfl | hd
    · exact .inr (Nat.le_trans m.size (hk b hb))
    · exact m.mine d hd b hb

theorem Mem.alloc {w0 w : World} {own : List Nat} {H : List Ch} (m : Mem w0 own H w) (o : Obj) : Mem w0 own (.blk w.heap.size o :: H) (w.alloc o) :=
  m.push (c := .blk w.heap.size o) (by simp [Ch.keys]) rfl rfl rfl (by simp) (fun b hb => Go.RowKit.Below.heap_alloc _ _ _ hb) (by show (w.heap.push o)[w.heap.size]? = some o; simp)

/-- chosen chunks, in whatever order -/
def Picks : List Nat → List Ch → List Ch → Prop
  | [], _, H' => H' = []
  | i :: is, H, H' => ∃ c H'', H[i]? = some c ∧ H' = c :: H'' ∧ Picks is H H''

theorem Picks.mem : ∀ {is : List Nat} {H H' : List Ch}, Picks is H H' → ∀ c ∈ H', ∃ i ∈ is, H[i]? = some c
  | [], _, _, h, c, hc => by subst h; cases hc
  | i :: is, H, _, ⟨d, H'', h1, rfl, h2⟩, c, hc => by
    rcases List.mem_cons.1 hc with rfl | hc
    · exact ⟨i, by simp, h1⟩
    · obtain ⟨j, hj, e⟩ := h2.mem c hc; exact ⟨j, by simp [hj], e⟩

theorem Mem.pick {w0 w : World} {own : List Nat} {H H' : List Ch} (m : Mem w0 own H w) {is : List Nat} (hp : Picks is H H') (hn : is.Nodup) : Mem w0 own H' w := by
  have hm : ∀ c ∈ H', c ∈ H := fun c hc => by obtain ⟨i, _, h⟩ := hp.mem c hc; exact List.mem_of_getElem? h
  refine ⟨m.os, m.tape, m.output, m.size, m.frame, fun c hc => m.sat c (hm c hc), ?_, fun c hc => m.mine c (hm c hc)⟩
  clear hm
  induction is generalizing H' with
  | nil => cases hp; exact List.Pairwise.nil
  | cons i is ih =>
    obtain ⟨c, H'', h1, rfl, h2⟩ := hp
    obtain ⟨hi, hn'⟩ := List.nodup_cons.1 hn
    refine List.Pairwise.cons (fun d hd b hb hb' => ?_) (ih h2 hn')
    obtain ⟨j, hj, hjd⟩ := h2.mem d hd
    have hne : i ≠ j := fun e => hi (e ▸ hj)
    obtain ⟨hil, hie⟩ := List.getElem?_eq_some_iff.1 h1
    obtain ⟨hjl, hje⟩ := List.getElem?_eq_some_iff.1 hjd
    rcases Nat.lt_or_gt_of_ne hne with h | h
    · exact List.pairwise_iff_getElem.1 m.apart i j hil hjl h b (hie ▸ hb) (hje ▸ hb')
    · exact List.pairwise_iff_getElem.1 m.apart j i hjl hil h b (hje ▸ hb') (hie ▸ hb)

/-- behind a call that was handed the first chunks -/
theorem Mem.call {w0 w w' : World} {own own' : List Nat} {Hp Hr H' : List Ch} (m : Mem w0 own (Hp ++ Hr) w) (m' : Mem w own' H' w') (ho : ∀ b ∈ own', ∃ c ∈ Hp, b ∈ c.keys) : Mem w0 own (H' ++ Hr) w' := by
  have hp : ∀ c ∈ Hp, c ∈ Hp ++ Hr := fun c h => List.mem_append_left _ h
  have hr : ∀ c ∈ Hr, c ∈ Hp ++ Hr := fun c h => List.mem_append_right _ h
  have cross : ∀ c ∈ Hp, ∀ d ∈ Hr, ∀ b ∈ c.keys, b ∉ d.keys := fun c hc d hd => (List.pairwise_append.1 m.apart).2.2 c hc d hd
  have keep : ∀ d ∈ Hr, ∀ b ∈ d.keys, b ∉ own' := fun d hd b hb hbo => by
    obtain ⟨c, hc, hbc⟩ := ho b hbo
    exact cross c hc d hd b hbc hb
  refine ⟨m'.os.trans m.os, m'.tape.trans m.tape, m'.output.trans m.output, Nat.le_trans m.size m'.size, ?_, ?_, ?_, ?_⟩
  · intro b hb hbo
    rw [m'.frame b (Nat.lt_of_lt_of_le hb m.size) ?_, m.frame b hb hbo]
    intro hbo'
    obtain ⟨c, hc, hbc⟩ := ho b hbo'
    rcases m.mine c (hp c hc) b hbc with h | h
    · exact hbo h
    · omega
  · intro d hd
    rcases List.mem_append.1 hd with hd | hd
    · exact m'.sat d hd
    · refine Ch.sat_of (m.sat d (hr d hd)) fun b hb => ?_
      exact m'.frame b (m.key_lt (hr d hd) hb) (keep d hd b hb)
  · refine List.pairwise_append.2 ⟨m'.apart, (List.pairwise_append.1 m.apart).2.1, fun c hc d hd b hb hb' => ?_⟩
    rcases m'.mine c hc b hb with h | h
    · exact keep d hd b hb' h
    · exact absurd (m.key_lt (hr d hd) hb') (by omega)
  · intro d hd b hb
    rcases List.mem_append.1 hd with hd | hd
    · rcases m'.mine d hd b hb with h | h
      · obtain ⟨c, hc, hbc⟩ := ho b h
        exact m.mine c (hp c hc) b hbc
      · exact .inr (Nat.le_trans m.size h)
    · exact m.mine d (hr d hd) b hb

theorem Mem.call0 {w0 w w' : World} {own : List Nat} {H H' : List Ch} (m : Mem w0 own H w) (m' : Mem w [] H' w') : Mem w0 own (H' ++ H) w' :=
  Mem.call (Hp := []) m m' (fun _ h => by cases h)

/-! ### reading -/
theorem Mem.blk {w0 w : World} {own : List Nat} {H : List Ch} (m : Mem w0 own H w) {i b : Nat} {o : Obj} (hi : H[i]? = some (.blk b o)) : w.heap[b]? = some o :=
  m.sat _ (List.mem_of_getElem? hi)

theorem cell_of_heap {w : World} {b off : Nat} {cs : Array Value} {E : TypeId} {fz : Nat × Nat} (h : w.heap[b]? = some (.cells cs E fz)) : w.cell? ⟨b, off, none⟩ = cs[off]? := by
  simp [World.cell?, h]

/-- a slice of elements of sz cells reads so -/
def Rd (w : World) (ad : Option Addr) (n sz : Nat) (xs : List Value) : Prop :=
  xs.length = n * sz ∧ ∀ k x, xs[k]? = some x → ad.isSome = true ∧ w.cell? (adr ad k) = some x

theorem Rd.nil (w : World) (ad : Option Addr) (sz : Nat) : Rd w ad 0 sz [] := ⟨by simp, fun k x h => by simp at h⟩

theorem Mem.rd {w0 w : World} {own : List Nat} {H : List Ch} (m : Mem w0 own H w) {ad : Option Addr} {n sz : Nat} {xs : List Value} (h : Rd w0 ad n sz xs) (ho : xs ≠ [] → ∀ a, ad = some a → a.block ∉ own) : Rd w ad n sz xs := by
  refine ⟨h.1, fun k x hk => ⟨(h.2 k x hk).1, ?_⟩⟩
  have h1 := (h.2 k x hk).2
  rw [← h1]
  refine World.cell?_of_block (w := w0) (m.frame _ (World.block_lt_of_cell? _ _ h1) ?_)
  obtain ⟨a, rfl⟩ := Option.isSome_iff_exists.1 (h.2 k x hk).1
  simp only [adr, Option.getD_some, Addr.add_block]
  exact ho (by rintro rfl; simp at hk) a rfl

theorem Mem.rd0 {w0 w : World} {H : List Ch} (m : Mem w0 [] H w) {ad : Option Addr} {n sz : Nat} {xs : List Value} (h : Rd w0 ad n sz xs) : Rd w ad n sz xs := m.rd h fun _ _ _ => by simp

theorem Mem.rd_sl {w0 w : World} {own : List Nat} {H : List Ch} (m : Mem w0 own H w) {i : Nat} {ad : Option Addr} {n cap : Nat} {E : TypeId} {sz : Nat} {xs : List Value} (hi : H[i]? = some (.sl ad n cap E sz xs)) : Rd w ad n sz xs := by
  have hs := m.sat _ (List.mem_of_getElem? hi)
  cases ad with
  | none => obtain ⟨rfl, _, rfl⟩ := hs; exact Rd.nil _ _ _
  | some a =>
    cases cap with
    | zero => obtain ⟨rfl, _, rfl⟩ := hs; exact Rd.nil _ _ _
    | succ cap =>
    obtain ⟨h0, hsp, _, hl, rest, _, hb⟩ := hs
    refine ⟨hl, fun k x hk => ⟨rfl, ?_⟩⟩
    obtain ⟨ab, ao, as⟩ := a
    simp only at h0 hsp hb
    subst h0; subst hsp
    have hk' := (List.getElem?_eq_some_iff.1 hk)
    simp [adr, cell_of_heap hb, List.getElem?_append_left hk'.1, hk]

/-- a piece of a slice that reads so; m is what is left of its room behind l -/
def sub (ad : Option Addr) (m l : Nat) : Option Addr := if m = 0 then ad else ad.map (·.add l)
theorem Rd.sub {w : World} {ad : Option Addr} {n sz : Nat} {xs : List Value} (h : Rd w ad n sz xs) {l k m : Nat} (hlk : l + k ≤ n) (hm : k ≤ m) : Rd w (sub ad m (l * sz)) k sz ((xs.drop (l * sz)).take (k * sz)) := by
  have hle : l * sz + k * sz ≤ n * sz := by rw [← Nat.add_mul]; exact Nat.mul_le_mul_right _ hlk
  refine ⟨by rw [List.length_take, List.length_drop, h.1]; omega, fun j x hj => ?_⟩
  have hj' := (List.getElem?_eq_some_iff.1 hj).1
  rw [List.length_take] at hj'
  rw [List.getElem?_take, if_pos (by omega), List.getElem?_drop] at hj
  have h1 := h.2 _ _ hj
  have hm0 : m ≠ 0 := by
    rintro rfl
    have : k = 0 := by omega
    subst this; simp at hj'
  obtain ⟨a, rfl⟩ := Option.isSome_iff_exists.1 h1.1
  simp only [Go.Mc.sub, if_neg hm0, Option.map_some]
  refine ⟨rfl, ?_⟩
  rw [← h1.2]
  simp [adr, Addr.add_add]
/-- a piece of an array that is held -/
theorem Mem.rd_blk {w0 w : World} {own : List Nat} {H : List Ch} (m : Mem w0 own H w) {i b : Nat} {cs : Array Value} {E : TypeId} {fz : Nat × Nat} (hi : H[i]? = some (.blk b (.cells cs E fz))) {n sz : Nat} (hn : cs.size = n * sz) : Rd w (some ⟨b, 0, none⟩) n sz cs.toList :=
  ⟨by simpa using hn, fun k x hk => ⟨rfl, by simpa [adr, cell_of_heap (m.blk hi)] using hk⟩⟩
theorem Mem.nilsl {w0 w : World} {own : List Nat} {H : List Ch} (E sz : Nat) (m : Mem w0 own H w) : Mem w0 own (.sl none 0 0 E sz [] :: H) w :=
  m.push (c := .sl none 0 0 E sz []) (by simp [Ch.keys]) rfl rfl rfl (Nat.le_refl _) (fun _ _ => rfl) ⟨rfl, rfl, rfl⟩
theorem Mem.nil0 {w0 w : World} {own : List Nat} {H : List Ch} (ad : Option Addr) (E sz : Nat) (m : Mem w0 own H w) : Mem w0 own (.sl ad 0 0 E sz [] :: H) w :=
  m.push (c := .sl ad 0 0 E sz []) (by cases ad <;> simp [Ch.keys]) rfl rfl rfl (Nat.le_refl _) (fun _ _ => rfl) (by cases ad <;> exact ⟨rfl, rfl, rfl⟩)
theorem Mem.off {w0 w : World} {own : List Nat} {H : List Ch} (m : Mem w0 own H w) {i j : Nat} {c d : Ch} (hi : H[i]? = some c) (hj : H[j]? = some d) (hij : i ≠ j) : ∀ b ∈ c.keys, b ∉ d.keys := by
  obtain ⟨hil, hie⟩ := List.getElem?_eq_some_iff.1 hi
  obtain ⟨hjl, hje⟩ := List.getElem?_eq_some_iff.1 hj
  intro b hb hb'
  rcases Nat.lt_or_gt_of_ne hij with h | h
  · exact List.pairwise_iff_getElem.1 m.apart i j hil hjl h b (hie ▸ hb) (hje ▸ hb')
  · exact List.pairwise_iff_getElem.1 m.apart j i hjl hil h b (hje ▸ hb') (hie ▸ hb)
/-- an array's slice lies apart of another variable -/
theorem Mem.off_blk {w0 w : World} {own : List Nat} {H : List Ch} (m : Mem w0 own H w) {i j b b2 k : Nat} {o o2 : Obj} {p : Prop} (hi : H[i]? = some (.blk b o)) (hj : H[j]? = some (.blk b2 o2)) (hij : i ≠ j) : p → ∀ a, some (⟨b2, k, none⟩ : Addr) = some a → a.block ∉ [b] := by
  rintro _ _ ⟨⟩ h
  simp only [List.mem_singleton] at h
  exact m.off hj hi (Ne.symm hij) b2 (by simp [Ch.keys]) (by simp [Ch.keys, h])
/-- what was there at first lies apart of what is new -/
theorem Mem.off_ro {w0 w : World} {H : List Ch} (m : Mem w0 [] H w) {i b n sz : Nat} {o : Obj} {ad : Option Addr} {xs : List Value} (hi : H[i]? = some (.blk b o)) (h : Rd w0 ad n sz xs) : xs ≠ [] → ∀ a, ad = some a → a.block ∉ [b] := by
  rintro hne a rfl hb
  simp only [List.mem_singleton] at hb
  have hb0 := (m.mine _ (List.mem_of_getElem? hi) b (by simp [Ch.keys])).resolve_left (by simp)
  obtain ⟨x, xs, rfl⟩ := List.exists_cons_of_ne_nil hne
  have h1 := World.block_lt_of_cell? _ _ (h.2 0 x rfl).2
  simp only [adr, Option.getD_some, Addr.add_block] at h1
  omega
end Go.Mc

namespace Go.Mc

/-- block b has turned to o, nothing else -/
structure Upd (w w' : World) (b : Nat) (o : Obj) : Prop where
  os : w'.os = w.os
  tape : w'.tape = w.tape
  output : w'.output = w.output
  size : w'.heap.size = w.heap.size
  blk : w'.heap[b]? = some o
  rest : ∀ k, k ≠ b → w'.heap[k]? = w.heap[k]?

theorem Upd.trans {w w1 w2 : World} {b : Nat} {o1 o2 : Obj} (h : Upd w w1 b o1) (k : Upd w1 w2 b o2) : Upd w w2 b o2 :=
  ⟨k.os.trans h.os, k.tape.trans h.tape, k.output.trans h.output, k.size.trans h.size, k.blk, fun i hi => (k.rest i hi).trans (h.rest i hi)⟩

def setR (cs : Array Value) (o : Nat) : List Value → Array Value
  | [] => cs
  | v :: vs => setR (cs.setIfInBounds o v) (o + 1) vs
@[simp] theorem setR_size (vs : List Value) : ∀ (cs : Array Value) (o : Nat), (setR cs o vs).size = cs.size := by
  induction vs with
  | nil => intro cs o; rfl
  | cons v vs ih => intro cs o; simp [setR, ih]
theorem setR_get (vs : List Value) : ∀ (cs : Array Value) (o k : Nat), o + vs.length ≤ cs.size → (setR cs o vs)[k]? = if o ≤ k ∧ k < o + vs.length then vs[k - o]? else cs[k]? := by
  induction vs with
  | nil => intro cs o k _; simp only [setR, List.length_nil]; rw [if_neg (by omega)]
  | cons v vs ih =>
    intro cs o k h
    simp only [List.length_cons] at h
    simp only [setR, List.length_cons]
    rw [ih _ _ _ (by simp; omega)]
    by_cases h1 : o + 1 ≤ k ∧ k < o + 1 + vs.length
    · rw [if_pos h1, if_pos (by omega)]
      have : k - o = (k - (o + 1)) + 1 := by omega
      rw [this, List.getElem?_cons_succ]
    · rw [if_neg h1]
      by_cases h2 : k = o
      · subst h2
        rw [if_pos (by omega)]
        simp [Array.getElem?_setIfInBounds]
        omega
      · rw [if_neg (by omega), Array.getElem?_setIfInBounds_ne (by omega)]
theorem setR_all (vs : List Value) (cs : Array Value) (h : vs.length = cs.size) : setR cs 0 vs = vs.toArray := by
  apply Array.ext_getElem?
  intro k
  rw [setR_get _ _ _ _ (by omega)]
  by_cases hk : k < vs.length
  · rw [if_pos (by omega)]; simp
  · rw [if_neg (by omega)]; simp [Array.getElem?_eq_none (show cs.size ≤ k by omega), List.getElem?_eq_none (show vs.length ≤ k by omega)]

theorem upd_setCell {w : World} {b o : Nat} {cs : Array Value} {E : TypeId} {fz : Nat × Nat} (h : w.heap[b]? = some (.cells cs E fz)) (v : Value) : Upd w (w.setCell ⟨b, o, none⟩ v) b (.cells (cs.setIfInBounds o v) E fz) := by
  refine ⟨rfl, rfl, rfl, by simp [World.setCell], ?_, fun k hk => Go.RowKit.Below.heap_setCell _ _ _ _ hk⟩
  simp [World.setCell, Array.getElem?_modify, h]

theorem run_storeCells {P : Program} {b : Nat} {E : TypeId} : ∀ (vs : List Value) (o i : Nat) (cs : Array Value) (w : World), w.heap[b]? = some (.cells cs E (0, 0)) → o + i + vs.length ≤ cs.size → (∀ v ∈ vs, v.oneCell' = true) →
    ∃ w', (storeCells ⟨b, o, none⟩ vs i).run P w = .ok () w' ∧ Upd w w' b (.cells (setR cs (o + i) vs) E (0, 0)) := by
  intro vs
  induction vs with
  | nil => intro o i cs w h _ _; exact ⟨w, rfl, rfl, rfl, rfl, rfl, h, fun _ _ => rfl⟩
  | cons v vs ih =>
    intro o i cs w h hl hone
    simp only [List.length_cons] at hl
    have hst : (store ((⟨b, o, none⟩ : Addr).add i) v).run P w = .ok () (w.setCell ⟨b, o + i, none⟩ v) := by
      rw [run_store _ _ _ _ _ (hone v (by simp)), Addr.add_mk]
      have hc : w.cell? ⟨b, o + i, none⟩ = some (cs[o + i]'(by omega)) := by rw [cell_of_heap h]; simp
      have hf : w.frozen? ⟨b, o + i, none⟩ = false := by simp [World.frozen?, h]
      simp [hc, hf]
    have h1 := upd_setCell (o := o + i) h v
    obtain ⟨w', hr, h2⟩ := ih o (i + 1) (cs.setIfInBounds (o + i) v) _ h1.blk (by simp; omega) (fun u hu => hone u (by simp [hu]))
    refine ⟨w', ?_, h1.trans h2⟩
    simp only [storeCells, Sem.run_bind, hst, Result.andThen_ok]
    exact hr

theorem Mem.upd {w0 w w' : World} {own : List Nat} {H : List Ch} (m : Mem w0 own H w) {i b : Nat} {o o' : Obj} (hi : H[i]? = some (.blk b o)) (u : Upd w w' b o') : Mem w0 own (H.set i (.blk b o')) w' :=
  m.change (c' := .blk b o') hi (fun k hk => .inl hk) u.os u.tape u.output (by rw [u.size]; exact Nat.le_refl _) (fun k _ hk => u.rest k (by simpa [Ch.keys] using hk)) u.blk

def SetAt : List Ch → Nat → Ch → List Ch → Prop
  | [], _, _, H' => H' = []
  | _ :: H, 0, c, H' => H' = c :: H
  | d :: H, i + 1, c, H' => ∃ H'', H' = d :: H'' ∧ SetAt H i c H''
theorem SetAt.eq : ∀ {H : List Ch} {i : Nat} {c : Ch} {H' : List Ch}, SetAt H i c H' → H' = H.set i c
  | [], _, _, _, h => by simpa [SetAt] using h
  | _ :: _, 0, _, _, h => h
  | _ :: _, _ + 1, _, _, ⟨_, rfl, h⟩ => by rw [h.eq]; rfl

/-! type facts, for the kernel -/
def scB (P : Program) (t : TypeId) : Bool := match P.underlying t with | some (.struct _) | some (.array ..) | none => false | some _ => true
def agB (P : Program) (t : TypeId) (k : Nat) : Bool := (match P.underlying t with | some (.struct _) | some (.array ..) => true | _ => false) && match P.info? t with | some i => i.size == k | none => false
def szB (P : Program) (t : TypeId) (k : Nat) : Bool := match P.info? t with | some i => i.size == k | none => false
def byB (P : Program) (t : TypeId) (k : Nat) : Bool := match P.info? t with | some i => i.bytes == k | none => false
def slB (P : Program) (t e : TypeId) : Bool := match P.underlying t with | some (.slice e') => e' == e | _ => false
def arB (P : Program) (t : TypeId) (n : Nat) (e : TypeId) : Bool := match P.underlying t with | some (.array n' e') => n' == n && e' == e | _ => false
def fdB (P : Program) (t : TypeId) (f off : Nat) (ft : TypeId) : Bool := match P.underlying t with | some (.struct fs) => (match fs[f]? with | some g => g.offset == off && g.type == ft | none => false) | _ => false
def znB (P : Program) (t : TypeId) (z : Value) : Prop := (P.info? t).bind (·.zero) = some z

section
variable {P : Program} {w : World}
theorem run_isAgg_sc {t : TypeId} (h : scB P t = true) : (isAgg t).run P w = .ok false w := by
  unfold scB at h
  cases hu : P.underlying t with
  | none => simp [hu] at h
  | some d => cases d <;> simp_all [isAgg, underlying]
theorem run_isAgg_ag {t : TypeId} {k : Nat} (h : agB P t k = true) : (isAgg t).run P w = .ok true w := by
  unfold agB at h
  cases hu : P.underlying t with
  | none => simp [hu] at h
  | some d => cases d <;> simp_all [isAgg, underlying]
theorem run_sizeOf {t : TypeId} {k : Nat} (h : szB P t k = true) : (sizeOf t).run P w = .ok k w := by
  unfold szB at h
  cases hu : P.info? t with
  | none => simp [hu] at h
  | some d => simp_all [sizeOf, typeInfo]
theorem szB_of_ag {t : TypeId} {k : Nat} (h : agB P t k = true) : szB P t k = true := by
  unfold agB at h; simp only [Bool.and_eq_true] at h; exact h.2
theorem run_bytes {t : TypeId} {k : Nat} (h : byB P t k = true) {β : Type} (f : Nat → Sem β) : (do f (← typeInfo t).bytes : Sem β).run P w = (f k).run P w := by
  unfold byB at h
  cases hu : P.info? t with
  | none => simp [hu] at h
  | some d => simp_all [typeInfo]
theorem und_sl {t e : TypeId} (h : slB P t e = true) : P.underlying t = some (.slice e) := by
  unfold slB at h
  cases hu : P.underlying t with
  | none => simp [hu] at h
  | some d => cases d <;> simp_all
theorem und_ar {t e : TypeId} {n : Nat} (h : arB P t n e = true) : P.underlying t = some (.array n e) := by
  unfold arB at h
  cases hu : P.underlying t with
  | none => simp [hu] at h
  | some d => cases d <;> simp_all
theorem und_fd {t ft : TypeId} {f off : Nat} (h : fdB P t f off ft = true) : ∃ fs g, P.underlying t = some (.struct fs) ∧ fs[f]? = some g ∧ g.offset = off ∧ g.type = ft := by
  unfold fdB at h
  cases hu : P.underlying t with
  | none => simp [hu] at h
  | some d =>
    cases d with
    | struct fs =>
      cases hg : fs[f]? with
      | none => simp [hu, hg] at h
      | some g => simp [hu, hg] at h; exact ⟨fs, g, rfl, hg, h.1, h.2⟩
    | _ => simp [hu] at h
theorem run_zero {t : TypeId} {z : Value} (h : znB P t z) : (zeroValue t).run P w = .ok z w := by
  unfold znB at h
  cases hi : P.info? t with
  | none => rw [hi] at h; cases h
  | some i => rw [hi] at h; simp [zeroValue, typeInfo, hi, show i.zero = some z from h]
theorem run_under {t : TypeId} {d : TypeDesc} (h : P.underlying t = some d) : (underlying t).run P w = .ok d w := by simp [underlying, h]

theorem run_loadVar_sc {t : TypeId} {a : Addr} {v : Value} (h : scB P t = true) (hc : w.cell? a = some v) : (loadVar t a).run P w = .ok v w := by
  simp only [loadVar, Sem.run_bind, run_isAgg_sc h, Result.andThen_ok]
  simp [run_load, hc]
theorem run_loadVar_ag {t : TypeId} {k : Nat} {a : Addr} {cs : List Value} (h : agB P t k = true) (hk : cs.length = k) (hc : ∀ j v, cs[j]? = some v → w.cell? (a.add j) = some v) : (loadVar t a).run P w = .ok (.agg cs.toArray) w := by
  simp only [loadVar, Sem.run_bind, run_isAgg_ag h, Result.andThen_ok, if_true, run_sizeOf (szB_of_ag h)]
  subst hk
  rw [run_loadCells_list w a cs hc]
  rfl
theorem run_storeVar {t : TypeId} {k b o : Nat} {v : Value} {cs : Array Value} {E : TypeId} (h : szB P t k = true) (hk : v.cells.size = k) (hb : w.heap[b]? = some (.cells cs E (0, 0))) (ho : o + k ≤ cs.size) (hone : ∀ u ∈ v.cells.toList, u.oneCell' = true) :
    ∃ w', (storeVar t ⟨b, o, none⟩ v).run P w = .ok () w' ∧ Upd w w' b (.cells (setR cs o v.cells.toList) E (0, 0)) := by
  obtain ⟨w', hr, hu⟩ := run_storeCells (P := P) v.cells.toList o 0 cs w hb (by simp; omega) hone
  refine ⟨w', ?_, by simpa using hu⟩
  simp only [storeVar, Sem.run_bind, run_sizeOf h, Result.andThen_ok]
  rw [if_neg (by omega)]
  exact hr
end

section ops
variable {F : Fence} {P : Program} {n : Nat} {L : List (Nat × Value)} {M : World → Prop} {w0 : World} {own : List Nat} {H : List Ch}
variable {d : Option Tmp} {ty : TypeId} {pos : String} {af : Array Edge} {g : Option (Nat × Bool)}

theorem y_load {t : TypeId} {x : Operand} {a : Addr} {v : Value} (hs : scB P t = true) (hx : ev L x = some (.pointer (some a))) (hc : ∀ w, M w → w.cell? a = some v) : Yld P ⟨d, .load t x, ty, pos, af, g⟩ L M v := .mk fun ρ w he hM => by
  simp [execOp, he _ _ hx, Instr.loadAt, Instr.sureAddr, run_loadVar_sc hs (hc w hM)]
theorem y_loads {t : TypeId} {k : Nat} {x : Operand} {a : Addr} {cs : List Value} (hs : agB P t k = true) (hx : ev L x = some (.pointer (some a))) (hk : cs.length = k) (hc : ∀ w, M w → ∀ j v, cs[j]? = some v → w.cell? (a.add j) = some v) :
    Yld P ⟨d, .load t x, ty, pos, af, g⟩ L M (.agg cs.toArray) := .mk fun ρ w he hM => by
  simp [execOp, he _ _ hx, Instr.loadAt, Instr.sureAddr, run_loadVar_ag hs hk (hc w hM)]

/-- a cell of a block that is held -/
theorem c_blk {i b off : Nat} {cs : Array Value} {E : TypeId} {fz : Nat × Nat} {v : Value} (hi : H[i]? = some (.blk b (.cells cs E fz))) (hv : cs[off]? = some v) : ∀ w, Mem w0 own H w → w.cell? ⟨b, off, none⟩ = some v :=
  fun w m => (cell_of_heap (m.blk hi)).trans hv
theorem c_blks {i b off : Nat} {cs : Array Value} {E : TypeId} {fz : Nat × Nat} {vs : List Value} (hi : H[i]? = some (.blk b (.cells cs E fz))) (hv : ∀ j v, vs[j]? = some v → cs[off + j]? = some v) : ∀ w, Mem w0 own H w → ∀ j v, vs[j]? = some v → w.cell? ((⟨b, off, none⟩ : Addr).add j) = some v :=
  fun w m j v hj => by rw [Addr.add_mk]; exact (cell_of_heap (m.blk hi)).trans (hv j v hj)
/-- the whole of a variable -/
theorem c_all {i b : Nat} {cs : Array Value} {E : TypeId} {fz : Nat × Nat} (hi : H[i]? = some (.blk b (.cells cs E fz))) : ∀ w, Mem w0 own H w → ∀ j v, cs.toList[j]? = some v → w.cell? ((⟨b, 0, none⟩ : Addr).add j) = some v :=
  c_blks hi fun j v hj => by simpa using hj
theorem y_loadall {t : TypeId} {k : Nat} {x : Operand} {i b : Nat} {cs : Array Value} {E : TypeId} {fz : Nat × Nat} (hs : agB P t k = true) (hx : ev L x = some (.pointer (some ⟨b, 0, none⟩))) (hi : H[i]? = some (.blk b (.cells cs E fz))) (hk : cs.size = k) :
    Yld P ⟨d, .load t x, ty, pos, af, g⟩ L (Mem w0 own H) (.agg cs) := by
  have := y_loads (d := d) (ty := ty) (pos := pos) (af := af) (g := g) (cs := cs.toList) hs hx (by simpa using hk) (c_all (w0 := w0) (own := own) hi)
  simpa using this
/-- a cell of a slice that reads so -/
theorem c_rd {ad : Option Addr} {m sz k : Nat} {xs : List Value} {v : Value} (h : Rd w0 ad m sz xs) (hk : xs[k]? = some v) (ho : xs ≠ [] → ∀ a, ad = some a → a.block ∉ own) : ∀ w, Mem w0 own H w → w.cell? (adr ad k) = some v :=
  fun _ m => ((m.rd h ho).2 k v hk).2
theorem c_rd0 {ad : Option Addr} {m sz k : Nat} {xs : List Value} {v : Value} (h : Rd w0 ad m sz xs) (hk : xs[k]? = some v) : ∀ w, Mem w0 [] H w → w.cell? (adr ad k) = some v :=
  fun _ m => ((m.rd0 h).2 k v hk).2
theorem c_sl {i : Nat} {ad : Option Addr} {m cap sz k : Nat} {E : TypeId} {xs : List Value} {v : Value} (hi : H[i]? = some (.sl ad m cap E sz xs)) (hk : xs[k]? = some v) : ∀ w, Mem w0 own H w → w.cell? (adr ad k) = some v :=
  fun _ m => ((m.rd_sl hi).2 k v hk).2

theorem e_store {t : TypeId} {x y : Operand} {k i b o : Nat} {v : Value} {cs : Array Value} {E : TypeId} {H' : List Ch} (hs : szB P t k = true) (hx : ev L x = some (.pointer (some ⟨b, o, none⟩))) (hy : ev L y = some v) (hi : H[i]? = some (.blk b (.cells cs E (0, 0))))
    (hk : v.cells.size = k) (ho : o + k ≤ cs.size) (hone : ∀ u ∈ v.cells.toList, u.oneCell' = true) (hH : SetAt H i (.blk b (.cells (setR cs o v.cells.toList) E (0, 0))) H') :
    Eff F P ⟨d, .store t x y, ty, pos, af, g⟩ L (Mem w0 own H) (fun _ : Unit => undef) (fun _ => Mem w0 own H') := eff_mk fun ρ w he m => by
  obtain ⟨w', hr, hu⟩ := run_storeVar (P := P) hs hk (m.blk hi) ho hone
  refine ⟨(), w', .inr ⟨?_, rfl⟩, hH.eq ▸ m.upd hi hu⟩
  simp [execOp, he _ _ hx, he _ _ hy, Instr.storeAt, Instr.sureAddr, hr]

/-- one cell -/
theorem e_store1 {t : TypeId} {x y : Operand} {i b o : Nat} {v : Value} {cs : Array Value} {E : TypeId} {H' : List Ch} (hs : szB P t 1 = true) (hx : ev L x = some (.pointer (some ⟨b, o, none⟩))) (hy : ev L y = some v) (hi : H[i]? = some (.blk b (.cells cs E (0, 0))))
    (hone : v.oneCell' = true) (ho : o < cs.size) (hH : SetAt H i (.blk b (.cells (cs.setIfInBounds o v) E (0, 0))) H') :
    Eff F P ⟨d, .store t x y, ty, pos, af, g⟩ L (Mem w0 own H) (fun _ : Unit => undef) (fun _ => Mem w0 own H') := by
  have hc : v.cells = #[v] := by cases v <;> first | rfl | simp [Value.oneCell'] at hone
  exact e_store (k := 1) (v := v) hs hx hy hi (by rw [hc]; rfl) (by omega) (by rw [hc]; simpa using hone) (by rw [hc]; exact hH)
/-- the whole of a variable -/
theorem e_storeall {t : TypeId} {x y : Operand} {k i b : Nat} {vs : Array Value} {cs : Array Value} {E : TypeId} {H' : List Ch} (hs : szB P t k = true) (hx : ev L x = some (.pointer (some ⟨b, 0, none⟩))) (hy : ev L y = some (.agg vs)) (hi : H[i]? = some (.blk b (.cells cs E (0, 0))))
    (hk : vs.size = k) (ho : cs.size = k) (hone : ∀ u ∈ vs.toList, u.oneCell' = true) (hH : SetAt H i (.blk b (.cells vs E (0, 0))) H') :
    Eff F P ⟨d, .store t x y, ty, pos, af, g⟩ L (Mem w0 own H) (fun _ : Unit => undef) (fun _ => Mem w0 own H') :=
  e_store (k := k) (v := .agg vs) hs hx hy hi hk (by omega) hone (by
    have : setR cs 0 vs.toList = vs := by rw [setR_all _ _ (by simp; omega)]
    show SetAt H i (.blk b (.cells (setR cs 0 vs.toList) E (0, 0))) H'
    rw [this]; exact hH)

theorem e_box {t : TypeId} {x : Operand} {v : Value} {cs : Array Value} (hx : ev L x = some v) (hc : v.cells = cs := by rfl) : Eff F P ⟨d, .box t x, ty, pos, af, g⟩ L (Mem w0 own H) (fun b : Nat => .pointer (some ⟨b, 0, none⟩)) (fun b => Mem w0 own (.blk b (.cells cs t (0, 0)) :: H)) := eff_mk fun ρ w he m =>
  ⟨w.heap.size, w.alloc (.cells cs t), .inl (by subst hc; simp [execOp, he _ _ hx, Instr.box, newVar, newRow]), m.alloc _⟩
theorem e_alloc {t : TypeId} {z : Value} {cs : Array Value} (hz : znB P t z) (hc : z.cells = cs := by rfl) : Eff F P ⟨d, .alloc t, ty, pos, af, g⟩ L (Mem w0 own H) (fun b : Nat => .pointer (some ⟨b, 0, none⟩)) (fun b => Mem w0 own (.blk b (.cells cs t (0, 0)) :: H)) := eff_mk fun ρ w he m =>
  ⟨w.heap.size, w.alloc (.cells cs t), .inl (by subst hc; simp [execOp, Instr.alloc, newVar, newRow, run_zero hz]), m.alloc _⟩

theorem y_makeFunc {fn : Fn} {a b : Array Operand} {va vb : List Value} (ha : evs L a.toList = some va) (hb : evs L b.toList = some vb) : Yld P ⟨d, .makeFunc fn a b, ty, pos, af, g⟩ L M (.func fn va.toArray vb.toArray) := .mk fun ρ w he _ => by
  have h1 : a.map ρ = va.toArray := by have := he.evs ha; rw [← this, ← List.map_toArray]
  have h2 : b.map ρ = vb.toArray := by have := he.evs hb; rw [← this, ← List.map_toArray]
  simp [execOp, Instr.makeFunc, h1, h2]

theorem y_fieldAddr {s ft : TypeId} {x : Operand} {f off k b o : Nat} (hf : fdB P s f off ft = true) (hk : szB P ft (k + 1) = true) (hx : ev L x = some (.pointer (some ⟨b, o, none⟩))) : Yld P ⟨d, .fieldAddr s x f, ty, pos, af, g⟩ L M (.pointer (some ⟨b, o + off, none⟩)) := .mk fun ρ w he _ => by
  obtain ⟨fs, gg, hu, hg, hoff, hft⟩ := und_fd hf
  subst hoff; subst hft
  simp [execOp, he _ _ hx, Instr.fieldAt, run_under hu, hg, Instr.sureAddr, fieldPlace, run_sizeOf hk]
/-- of an address of whatever make -/
theorem y_fieldAddr' {s ft : TypeId} {x : Operand} {f off k : Nat} {a : Addr} (hf : fdB P s f off ft = true) (hk : szB P ft (k + 1) = true) (hx : ev L x = some (.pointer (some a))) : Yld P ⟨d, .fieldAddr s x f, ty, pos, af, g⟩ L M (.pointer (some (a.add off))) := .mk fun ρ w he _ => by
  obtain ⟨fs, gg, hu, hg, hoff, hft⟩ := und_fd hf
  subst hoff; subst hft
  simp [execOp, he _ _ hx, Instr.fieldAt, run_under hu, hg, Instr.sureAddr, fieldPlace, run_sizeOf hk]
theorem y_field_sc {s ft : TypeId} {x : Operand} {f off : Nat} {cs : Array Value} {v : Value} (hf : fdB P s f off ft = true) (hs : scB P ft = true) (hx : ev L x = some (.agg cs)) (hv : cs[off]? = some v) : Yld P ⟨d, .field s x f, ty, pos, af, g⟩ L M v := .mk fun ρ w he _ => by
  obtain ⟨fs, gg, hu, hg, hoff, hft⟩ := und_fd hf
  subst hoff; subst hft
  simp [execOp, he _ _ hx, Instr.field, run_under hu, hg, part, run_isAgg_sc hs, asAgg, hv]
theorem y_field_ag {s ft : TypeId} {x : Operand} {f off k : Nat} {cs vs : Array Value} (hf : fdB P s f off ft = true) (hs : agB P ft k = true) (hx : ev L x = some (.agg cs)) (hv : cs.extract off (off + k) = vs) : Yld P ⟨d, .field s x f, ty, pos, af, g⟩ L M (.agg vs) := .mk fun ρ w he _ => by
  obtain ⟨fs, gg, hu, hg, hoff, hft⟩ := und_fd hf
  subst hoff; subst hft
  simp [execOp, he _ _ hx, Instr.field, run_under hu, hg, part, run_isAgg_ag hs, run_sizeOf (szB_of_ag hs), asAgg, hv]
/-- an array behind its address -/
theorem y_indexAddr_ar {t e : TypeId} {x y : Operand} {len k b o : Nat} {q : IntKind} {i : Int} (ht : arB P t len e = true) (hk : szB P e k = true) (hx : ev L x = some (.pointer (some ⟨b, o, none⟩))) (hy : ev L y = some (.int q i)) (h0 : 0 ≤ i) (h1 : i < len) (m : Nat) (hm : o + i.toNat * k = m) :
    Yld P ⟨d, .indexAddr t x y, ty, pos, af, g⟩ L M (.pointer (some ⟨b, m, none⟩)) := .mk fun ρ w he _ => by
  subst hm
  simp [execOp, he _ _ hx, he _ _ hy, Instr.indexAt, asIntOf, run_under (und_ar ht), Instr.sureAddr, h0, h1, run_sizeOf hk]
theorem y_indexAddr_sl {t e : TypeId} {x y : Operand} {len cap k : Nat} {ad : Option Addr} {q : IntKind} {i : Int} (ht : slB P t e = true) (hk : szB P e k = true) (hx : ev L x = some (.slice ad len cap)) (hy : ev L y = some (.int q i)) (h0 : 0 ≤ i) (h1 : i < len) (had : ∀ w, M w → ad.isSome = true) (m : Nat) (hm : i.toNat * k = m) :
    Yld P ⟨d, .indexAddr t x y, ty, pos, af, g⟩ L M (.pointer (some (adr ad m))) := .mk fun ρ w he hM => by
  obtain ⟨a, rfl⟩ := Option.isSome_iff_exists.1 (had w hM)
  subst hm
  simp [execOp, he _ _ hx, he _ _ hy, Instr.indexAt, asIntOf, run_under (und_sl ht), h0, h1, run_sizeOf hk, adr]
theorem rd_isSome {w : World} {ad : Option Addr} {n sz : Nat} {xs : List Value} (h : Rd w ad n sz xs) (hn : 0 < n) (hs : 0 < sz) : ad.isSome = true :=
  (h.2 0 _ (List.getElem?_eq_getElem (by rw [h.1]; exact Nat.mul_pos hn hs))).1
theorem y_index_ar {t e : TypeId} {x y : Operand} {len : Nat} {q : IntKind} {i : Int} {cs : Array Value} {v : Value} (ht : arB P t len e = true) (hk : szB P e 1 = true) (hs : scB P e = true) (hx : ev L x = some (.agg cs)) (hy : ev L y = some (.int q i)) (h0 : 0 ≤ i) (h1 : i < len) (hv : cs[i.toNat]? = some v) :
    Yld P ⟨d, .index t x y, ty, pos, af, g⟩ L M v := .mk fun ρ w he _ => by
  simp [execOp, he _ _ hx, he _ _ hy, Instr.index, asIntOf, run_under (und_ar ht), h0, h1, run_sizeOf hk, part, run_isAgg_sc hs, hv]
theorem y_index_ag {t e : TypeId} {x y : Operand} {len k : Nat} {q : IntKind} {i : Int} {cs vs : Array Value} (ht : arB P t len e = true) (hs : agB P e k = true) (hx : ev L x = some (.agg cs)) (hy : ev L y = some (.int q i)) (h0 : 0 ≤ i) (h1 : i < len) (hv : cs.extract (i.toNat * k) (i.toNat * k + k) = vs) :
    Yld P ⟨d, .index t x y, ty, pos, af, g⟩ L M (.agg vs) := .mk fun ρ w he _ => by
  simp [execOp, he _ _ hx, he _ _ hy, Instr.index, asIntOf, run_under (und_ar ht), h0, h1, run_sizeOf (szB_of_ag hs), part, run_isAgg_ag hs, hv]
theorem y_index_str {t : TypeId} {x y : Operand} {q : IntKind} {i : Int} {s : ByteArray} {c : UInt8} (ht : P.underlying t = some .string) (hx : ev L x = some (.string s)) (hy : ev L y = some (.int q i)) (h0 : 0 ≤ i) (hv : s[i.toNat]? = some c) :
    Yld P ⟨d, .index t x y, ty, pos, af, g⟩ L M (.int .u8 c.toNat) := .mk fun ρ w he _ => by
  simp [execOp, he _ _ hx, he _ _ hy, Instr.index, asIntOf, run_under ht, h0, hv]
end ops
end Go.Mc

namespace Go.Mc
open Go.RowKit (Below)
variable {F : Fence} {P : Program} {n : Nat} {D : List Deferred} {L : List (Nat × Value)} {M : World → Prop} {ops : Array Oper}

abbrev Ext (w w' : World) : Prop := Below w.heap.size w w'
theorem Ext.refl (w : World) : Ext w w := Below.refl _ _
theorem Ext.trans {a b c : World} (h : Ext a b) (k : Ext b c) : Ext a c := Below.trans h (k.mono h.size)
def Closed (C : World → Prop) : Prop := ∀ w w', C w → Ext w w' → C w'

theorem Mem.ext {w0 w w' : World} {own : List Nat} {H : List Ch} (m : Mem w0 own H w) (h : Ext w w') : Mem w0 own H w' := by
  refine ⟨h.os.trans m.os, h.tape.trans m.tape, h.output.trans m.output, Nat.le_trans m.size h.size, ?_, ?_, m.apart, m.mine⟩
  · intro b hb ho; rw [h.block b (Nat.lt_of_lt_of_le hb m.size), m.frame b hb ho]
  · exact fun c hc => Ch.sat_of (m.sat c hc) fun b hb => h.block b (m.key_lt hc hb)
theorem Mem.closed {w0 : World} {own : List Nat} {H : List Ch} : Closed (Mem w0 own H) := fun _ _ m h => m.ext h
theorem Closed.and {C C' : World → Prop} (h : Closed C) (h' : Closed C') : Closed (fun w => C w ∧ C' w) := fun w w' m e => ⟨h w w' m.1 e, h' w w' m.2 e⟩

/-- one operation, no panic -/
def opE (F : Fence) (P : Program) (ops : Array Oper) (i : Nat) (K : Act → World → Prop) (a : Act) (w : World) : Prop := wpOpIn F 0 P ops (fun _ _ _ => False) i K a w

theorem uponIn_mono {o : Oper} {a : Act} {K K' : Act → World → Prop} {Q : Exit → Act → World → Prop} (h : ∀ a w, K a w → K' a w) {r : Result Next} (hh : o.uponIn F 0 P a K (fun _ _ _ => False) r) : o.uponIn F 0 P a K' Q r := by
  cases r with
  | ok x w' =>
    cases x <;> simp only [Oper.uponIn] at hh ⊢ <;>
      first
        | exact h _ _ hh
        | exact ⟨hh.1, CallsIn.mono hh.2 (fun e w'' he => by cases e <;> first | exact h _ _ he | exact he.elim | exact (let ⟨_, _, h⟩ := he; h.elim))⟩
        | exact ⟨hh.1, RowsIn.mono hh.2 (fun _ _ he => h _ _ he)⟩
        | exact ⟨hh.1, RoundIn.mono hh.2 (fun e w'' he => by cases e <;> first | exact h _ _ he | exact he.elim | exact (let ⟨_, _, h⟩ := he; h.elim))⟩
  | halt x w' => cases x <;> simp only [Oper.uponIn] at hh ⊢ <;> exact hh.elim

theorem opE_mono {i : Nat} {a : Act} {w : World} {K K' : Act → World → Prop} {Q : Exit → Act → World → Prop} (h : ∀ a w, K a w → K' a w) (hh : opE F P ops i K a w) : wpOpIn F 0 P ops Q i K' a w := by
  unfold opE wpOpIn at *
  split
  · exact h _ _ (by simpa [*] using hh)
  · rename_i o ho
    simp only [ho] at hh
    split
    · rename_i hw; simp only [hw, if_true] at hh; exact ⟨hh.1, uponIn_mono h hh.2⟩
    · rename_i hw; simp only [hw] at hh; exact ⟨hh.1, h _ _ hh.2⟩

/-- the value is v in every world of C, and old memory is left -/
def qUpon (F : Fence) (P : Program) (w : World) (v : Value) : Result Next → Prop
  | .ok (.value u) w' => u = v ∧ Ext w w'
  | .ok .skip w' => v = undef ∧ Ext w w'
  | .ok (.enter f args) w' => w' = w ∧ CallsIn F 0 P f args w (fun e w'' => e = .returned v ∧ Ext w w'')
  | _ => False

def YE (F : Fence) (P : Program) (ops : Array Oper) (C : World → Prop) (o : Oper) (v : Value) (a : Act) : Prop :=
  (Region.wanted o (yielded ops a.tmps) = true ∧ ∀ w, C w → qUpon F P w v ((execOp a.eval o).run P w)) ∨ (Region.wanted o (yielded ops a.tmps) = false ∧ v = undef)

theorem YE.opE [Wide F] {i : Nat} {o : Oper} {v : Value} {a : Act} {C : World → Prop} (hi : ops[i]? = some o) (hn : isDefer o.op = false) (hy : YE F P ops C o v a) {K : Act → World → Prop} {w : World} (hw : C w) (h : ∀ w', Ext w w' → K (a.put o.dst v) w') : opE F P ops i K a w := by
  unfold Mc.opE wpOpIn
  simp only [hi]
  rcases hy with ⟨hwt, hv⟩ | ⟨hwt, rfl⟩
  · simp only [hwt, if_true]
    refine ⟨fun f _ => Wide.fn f, ?_⟩
    rw [semAt_of hn]
    have h3 := hv w hw
    generalize (execOp a.eval o).run P w = r at *
    cases r with
    | ok x w' =>
      cases x <;> simp only [qUpon] at h3 <;> simp only [Oper.uponIn]
      case value u => obtain ⟨rfl, e⟩ := h3; exact h _ e
      case skip => obtain ⟨rfl, e⟩ := h3; exact h _ e
      case enter f args =>
        obtain ⟨rfl, hc⟩ := h3
        exact ⟨fun hd => (by rw [Wide.depth] at hd; cases hd), CallsIn.mono hc fun e w'' hx => by obtain ⟨rfl, hx⟩ := hx; exact h _ hx⟩
    | halt x w' => simp only [qUpon] at h3
  · simp only [hwt, Bool.false_eq_true, if_false]; exact ⟨fun f _ => Wide.fn f, h _ (Ext.refl _)⟩

theorem YE.mono {o : Oper} {v : Value} {a : Act} {C C' : World → Prop} (h : ∀ w, C' w → C w) (hy : YE F P ops C o v a) : YE F P ops C' o v a :=
  hy.imp (fun ⟨x, y⟩ => ⟨x, fun w hw => y w (h w hw)⟩) id

theorem YE.of_same {o : Oper} {v : Value} {a a' : Act} {C : World → Prop} (hy : YE F P ops C o v a) (he : execOp a'.eval o = execOp a.eval o)
    (hw : Region.wanted o (yielded ops a'.tmps) = Region.wanted o (yielded ops a.tmps)) : YE F P ops C o v a' := by
  unfold YE at *; rw [he, hw]; exact hy

theorem isSelect_ne {o : Oper} (h : isSelect o.op = false) : ∀ cs b, o.op ≠ .select cs b := fun cs b e => by rw [e] at h; cases h

theorem opE_put [Wide F] {j : Nat} {oi oj : Oper} {v : Value} {C : World → Prop} (hj : ops[j]? = some oj) (hap : oi.apart ops oj = true)
    (hsi : isSelect oi.op = false) (hsj : isSelect oj.op = false) (hdj : isDefer oj.op = false) {K : Act → World → Prop} {a : Act} {w : World}
    (hy : YE F P ops C oi v a) (h : opE F P ops j K (a.put oi.dst v) w) :
    opE F P ops j (fun a' w' => YE F P ops C oi v a' ∧ K (a'.put oi.dst v) w') a w := by
  obtain ⟨h1, h2, h3⟩ := Oper.apart_spec hap
  have keep : ∀ (a : Act), YE F P ops C oi v a → ∀ u, YE F P ops C oi v (a.put oj.dst u) := fun a hy u =>
    hy.of_same (execOp_put oi (isSelect_ne hsi) a oj.dst u h3) (wanted_put oi a oj.dst u h3)
  unfold opE wpOpIn at *
  simp only [hj] at *
  rw [wanted_put oj a oi.dst v h1] at h
  split
  · rename_i hw
    simp only [hw, if_true] at h
    refine ⟨fun f _ => Wide.fn f, ?_⟩
    have h := h.2
    rw [semAt_of hdj, execOp_put oj (isSelect_ne hsj) a oi.dst v h1] at h
    rw [semAt_of hdj]
    have hnd : ∀ d w', (execOp a.eval oj).run P w ≠ .ok (.defer d) w' → True := fun _ _ _ => trivial
    generalize (execOp a.eval oj).run P w = r at *
    cases r with
    | ok x w' =>
      cases x <;> simp only [Oper.uponIn] at h ⊢
      case value u => exact ⟨keep a hy u, by rw [← Act.put_comm a v u h2]; exact h⟩
      case skip => exact ⟨keep a hy _, by rw [← Act.put_comm a v undef h2]; exact h⟩
      case defer d =>
        refine ⟨keep { a with defers := d :: a.defers } (hy.of_same rfl rfl) _, ?_⟩
        rw [← Act.put_comm _ v undef h2, ← Act.put_defers]
        exact h
      case enter f args =>
        refine ⟨h.1, CallsIn.mono h.2 fun e w'' he => ?_⟩
        cases e with
        | returned u => exact ⟨keep a hy u, by rw [← Act.put_comm a v u h2]; exact he⟩
        | panicked c => exact he.elim
        | outgrown => exact (let ⟨_, _, h⟩ := he; h.elim)
      case row row args => exact ⟨h.1, RowsIn.mono h.2 fun u w'' he => ⟨keep a hy u, by rw [← Act.put_comm a v u h2]; exact he⟩⟩
      case round l f tmps assign body =>
        refine ⟨h.1, RoundIn.mono h.2 fun e w'' he => ?_⟩
        cases e with
        | returned u => exact ⟨keep a hy u, by rw [← Act.put_comm a v u h2]; exact he⟩
        | panicked c => exact he.elim
        | outgrown => exact (let ⟨_, _, h⟩ := he; h.elim)
    | halt x w' => cases x <;> simp only [Oper.uponIn] at h
  · rename_i hw
    simp only [hw] at h
    exact ⟨fun f _ => Wide.fn f, keep a hy _, by rw [← Act.put_comm a v undef h2]; exact h.2⟩

def lClosed (ops : Array Oper) (listed : Array Bool) : Prop := listed.size = ops.size ∧ ∀ j oj, ops[j]? = some oj → listed.getD j false = true → ∀ e ∈ oj.after, Region.binds .any e = true → listed.getD e.on false = true

def reach (ops : Array Oper) : Nat → Nat → Nat → Bool
  | 0, _, _ => false
  | f + 1, j, k => match ops[j]? with
    | some o => o.after.any fun e => Region.binds .any e && (e.on == k || reach ops f e.on k)
    | none => false
def lastB (ops : Array Oper) (i : Nat) : Bool := (List.range ops.size).all fun k => k == i || reach ops ops.size i k

/-- all that is listed stands before i -/
def barB (ops : Array Oper) (listed : Array Bool) (i : Nat) : Bool := (List.range ops.size).all fun k => !listed.getD k false || reach ops ops.size i k

theorem reach_listed {listed : Array Bool} (hc : lClosed ops listed) : ∀ (f j k : Nat) (oj : Oper), ops[j]? = some oj → (∀ e ∈ oj.after, Region.binds .any e = true → listed.getD e.on false = true) → reach ops f j k = true → listed.getD k false = true := by
  intro f
  induction f with
  | zero => intro j k oj _ _ h; simp [reach] at h
  | succ f ih =>
    intro j k oj hj hall h
    simp only [reach, hj] at h
    obtain ⟨e, he, hb⟩ := Array.any_eq_true'.1 h
    simp only [Bool.and_eq_true, Bool.or_eq_true, beq_iff_eq] at hb
    obtain ⟨hb, hr⟩ := hb
    rcases hr with rfl | hr
    · exact hall e he hb
    · have h1 := hall e he hb
      cases ho : ops[e.on]? with
      | none => cases f <;> simp [reach, ho] at hr
      | some oe => exact ih e.on k oe ho (fun e' he' hb' => hc.2 _ _ ho h1 e' he' hb') hr

theorem lClosed.set {listed : Array Bool} (hc : lClosed ops listed) {i : Nat} (hi : i ∈ Region.ready .any ops listed) : lClosed ops (listed.setIfInBounds i true) := by
  obtain ⟨_, oi, hoi, hall⟩ := mem_ready.1 hi
  refine ⟨by simp [hc.1], fun j oj hj hl e he hb => ?_⟩
  by_cases hij : i = j
  · subst hij
    have : oj = oi := Option.some.inj (hj.symm.trans hoi)
    subst this
    exact getD_set_true (hall e he hb)
  · rw [getD_set_ne false hij] at hl
    exact getD_set_true (hc.2 j oj hj hl e he hb)

def anyE (F : Fence) (P : Program) (ops : Array Oper) (QN : Act → World → Prop) : (C : World → Prop) → Nat → Array Bool → Act → World → Prop
  | _, 0, listed, a, w => Region.ready .any ops listed = [] ∧ QN a w
  | C, fuel + 1, listed, a, w =>
    (Region.ready .any ops listed = [] → QN a w) ∧
    ∀ i ∈ Region.ready .any ops listed, opE F P ops i (fun a' w' =>
      (lastB ops i = true ∧ Region.ready .any ops (listed.setIfInBounds i true) = [] ∧ QN a' w') ∨
      (barB ops listed i = true ∧ ∃ C2 : World → Prop, Closed C2 ∧ C2 w' ∧ ∀ w2, Ext w' w2 → anyE F P ops QN C2 fuel (listed.setIfInBounds i true) a' w2) ∨
      ∃ C2 : World → Prop, Closed C2 ∧ (∀ w, C2 w → C w) ∧ C2 w' ∧ ∀ w2, Ext w' w2 → anyE F P ops QN C2 fuel (listed.setIfInBounds i true) a' w2) a w

theorem wpAnyIn_done {Q : Exit → Act → World → Prop} {fuel : Nat} {listed : Array Bool} {a : Act} {w : World} (h : Region.ready .any ops listed = []) (hq : Q .normal a w) : wpAnyIn F 0 P .any ops Q fuel listed a w := by
  cases fuel with
  | zero => exact ⟨h, hq⟩
  | succ f => exact ⟨fun _ => hq, fun i hi => by rw [h] at hi; cases hi⟩

theorem wpAnyIn_of_anyE {Q : Exit → Act → World → Prop} : ∀ (fuel : Nat) (C : World → Prop) (listed : Array Bool) (a : Act) (w : World), anyE F P ops (fun a w => Q .normal a w) C fuel listed a w → wpAnyIn F 0 P .any ops Q fuel listed a w
  | 0, _, _, _, _, h => h
  | fuel + 1, _, _, _, _, h => ⟨h.1, fun i hi => opE_mono (fun a' w' hk => by
      rcases hk with ⟨_, h1, h2⟩ | ⟨_, C2, _, _, h2⟩ | ⟨C2, _, _, _, h2⟩
      · exact wpAnyIn_done h1 h2
      · exact wpAnyIn_of_anyE fuel C2 _ _ _ (h2 w' (Ext.refl _))
      · exact wpAnyIn_of_anyE fuel C2 _ _ _ (h2 w' (Ext.refl _))) (h.2 i hi)⟩

theorem anyE_quiet [Wide F] {QN : Act → World → Prop} {i : Nat} {oi : Oper} {v : Value} (hi : ops[i]? = some oi) (hplain : ∀ (j : Nat) (o : Oper), ops[j]? = some o → isSelect o.op = false ∧ isDefer o.op = false) :
    ∀ (fuel : Nat) (C : World → Prop) (listed : Array Bool) (a : Act) (w : World), Closed C → lClosed ops listed →
      (∀ j oj, ops[j]? = some oj → j ≠ i → listed.getD j true = false → (∀ e ∈ oj.after, Region.binds .any e = true → e.on ≠ i) → oi.apart ops oj = true) →
      i ∈ Region.ready .any ops listed → YE F P ops C oi v a → C w →
      (∀ w2, Ext w w2 → anyE F P ops QN C fuel (listed.setIfInBounds i true) (a.put oi.dst v) w2) → anyE F P ops QN C (fuel + 1) listed a w := by
  intro fuel
  induction fuel with
  | zero =>
    intro C listed a w hcl _ _ hr hy hw H
    refine ⟨fun h => (by rw [h] at hr; cases hr), fun j hj => ?_⟩
    by_cases hji : j = i
    · subst hji
      exact hy.opE hi (hplain _ _ hi).2 hw fun w' he => .inr (.inr ⟨C, hcl, fun _ h => h, hcl _ _ hw he, fun w2 he2 => H w2 (he.trans he2)⟩)
    · have := ready_mono hj hji
      rw [(H w (Ext.refl _)).1] at this
      cases this
  | succ fuel ih =>
    intro C listed a w hcl hlc hfree hr hy hw H
    refine ⟨fun h => (by rw [h] at hr; cases hr), fun j hj => ?_⟩
    by_cases hji : j = i
    · subst hji
      exact hy.opE hi (hplain _ _ hi).2 hw fun w' he => .inr (.inr ⟨C, hcl, fun _ h => h, hcl _ _ hw he, fun w2 he2 => H w2 (he.trans he2)⟩)
    · have h1 := (H w (Ext.refl _)).2 j (ready_mono hj hji)
      obtain ⟨hjun, oj, hoj, hall⟩ := mem_ready.1 hj
      have hun : listed.getD i true = false := (mem_ready.1 hr).1
      have hun' : listed.getD i false ≠ true := by
        intro h
        rcases Nat.lt_or_ge i listed.size with h' | h'
        · simp [h'] at h hun; rw [h] at hun; cases hun
        · simp [Array.getElem?_eq_none h'] at h
      have hnot : ∀ e ∈ oj.after, Region.binds .any e = true → e.on ≠ i := fun e he hb heq => hun' (heq ▸ hall e he hb)
      have h2 := opE_put hoj (hfree j oj hoj hji hjun hnot) (hplain _ _ hi).1 (hplain _ _ hoj).1 (hplain _ _ hoj).2 hy h1
      have hfree' : ∀ k ok, ops[k]? = some ok → k ≠ i → (listed.setIfInBounds j true).getD k true = false →
          (∀ e ∈ ok.after, Region.binds .any e = true → e.on ≠ i) → oi.apart ops ok = true := fun k ok hk hki hkun hno => by
        refine hfree k ok hk hki ?_ hno
        by_cases hjk : j = k
        · subst hjk; exact hjun
        · rw [getD_set_ne true hjk] at hkun; exact hkun
      refine opE_mono (fun a' w' h3 => ?_) h2
      obtain ⟨hy', hk⟩ := h3
      rcases hk with ⟨hl, _, _⟩ | ⟨hl, _⟩ | ⟨C2, hcl2, hsub, hc2, h4⟩
      · -- j waits for all others, i among them: it was not ready
        exfalso
        have hlast := List.all_eq_true.1 hl i (List.mem_range.2 (Array.getElem?_eq_some_iff.1 hi).1)
        simp only [Bool.or_eq_true, beq_iff_eq] at hlast
        rcases hlast with e | hrch
        · exact hji e.symm
        · exact hun' (reach_listed hlc _ _ _ oj hoj hall hrch)
      · exfalso
        have hbar := List.all_eq_true.1 hl i (List.mem_range.2 (Array.getElem?_eq_some_iff.1 hi).1)
        have hset : (listed.setIfInBounds i true).getD i false = true := by
          have : i < listed.size := by rw [hlc.1]; exact (Array.getElem?_eq_some_iff.1 hi).1
          simp [this]
        rw [hset] at hbar
        exact hun' (reach_listed hlc _ _ _ oj hoj hall (by simpa using hbar))
      · refine .inr (.inr ⟨C2, hcl2, hsub, hc2, fun w2 he2 => ih C2 _ a' w2 hcl2 (hlc.set hj) hfree' (ready_mono hr (Ne.symm hji)) (hy'.mono hsub) (hcl2 _ _ hc2 he2) fun w3 he3 => ?_⟩)
        have := h4 w3 (he2.trans he3)
        rwa [Array.setIfInBounds_comm _ _ (Ne.symm hji)] at this

/-! ### a plan: in which order the operations are taken -/
inductive PK where
  | q | e | l | b
  deriving DecidableEq
def planB (ops : Array Oper) : List (Nat × PK) → Array Bool → Bool
  | [], listed => (Region.ready .any ops listed).isEmpty
  | (i, .q) :: r, listed => (Region.ready .any ops listed).contains i && Region.free .any ops listed i && planB ops r (listed.setIfInBounds i true)
  | (i, .e) :: r, listed => decide (Region.ready .any ops listed = [i]) && planB ops r (listed.setIfInBounds i true)
  | (i, .b) :: r, listed => decide (Region.ready .any ops listed = [i]) && barB ops listed i && planB ops r (listed.setIfInBounds i true)
  | (i, .l) :: r, listed => decide (Region.ready .any ops listed = [i]) && lastB ops i && r.isEmpty && (Region.ready .any ops (listed.setIfInBounds i true)).isEmpty
def plainB (ops : Array Oper) : Bool := ops.all fun o => !isSelect o.op && !isDefer o.op

theorem plainB_spec (h : plainB ops = true) : ∀ (j : Nat) (o : Oper), ops[j]? = some o → isSelect o.op = false ∧ isDefer o.op = false := by
  intro j o hj
  have := (Array.all_eq_true_iff_forall_mem.1 h) o (Array.mem_of_getElem? hj)
  simpa using this

/-- what is left of the plan, from the state (L, M), the class C kept -/
def WP (F : Fence) (P : Program) (ops : Array Oper) (Q : Exit → Act → World → Prop) (n : Nat) (D : List Deferred) (C : World → Prop) (plan : List (Nat × PK)) (L : List (Nat × Value)) (M : World → Prop) : Prop :=
  Box (plainB ops = true → ∀ listed, lClosed ops listed → planB ops plan listed = true → ∀ a w, St n L D M a w → anyE F P ops (fun a w => Q .normal a w) C plan.length listed a w)

variable {Q : Exit → Act → World → Prop} {C : World → Prop} {plan : List (Nat × PK)}

theorem wc_draw {id : Nat} {l : List Oper} (plan : List (Nat × PK)) (C : World → Prop) (hm : P.follows .mixedOrders = true) (hp : (plainB l.toArray && planB l.toArray plan (Array.replicate l.length false) && plan.length == l.length) = true) (hcl : Closed M)
    (h : WP F P l.toArray Q n D C plan L M) : WC F P Q n D (.region id l.toArray true) L M := by
  simp only [Bool.and_eq_true, beq_iff_eq] at hp
  obtain ⟨⟨h1, h2⟩, h3⟩ := hp
  refine .mk fun a w s => ?_
  refine wpIn_region_any hm (wpAnyIn_of_anyE _ C _ _ _ ?_)
  have := h.out h1 (Array.replicate l.length false) ⟨by simp, fun j oj _ hl => by
    rcases Nat.lt_or_ge j l.length with h' | h'
    · simp [h'] at hl
    · simp [h'] at hl⟩ h2 a { w with drawn := w.drawn + 1 } ⟨s.agr, s.dfr, hcl _ _ s.mem ⟨rfl, rfl, rfl, Nat.le_refl _, fun _ _ => rfl⟩⟩
  rw [h3] at this
  simpa using this

theorem wc_drawM {id : Nat} {l : List Oper} (plan : List (Nat × PK)) (hm : P.follows .mixedOrders = true) (hp : (plainB l.toArray && planB l.toArray plan (Array.replicate l.length false) && plan.length == l.length) = true) (hcl : Closed M)
    (h : WP F P l.toArray Q n D M plan L M) : WC F P Q n D (.region id l.toArray true) L M := wc_draw plan M hm hp hcl h

theorem wp_nil (h : AQ Q .normal n D L M) : WP F P ops Q n D C [] L M := by
  refine .mk fun _ listed _ hp a w s => ?_
  exact ⟨by simpa [planB] using hp, h.out a w s⟩

/-- quiet: one value in every world of the class, old memory left -/
def Qt (F : Fence) (P : Program) (o : Oper) (n : Nat) (L : List (Nat × Value)) (C : World → Prop) (v : Value) : Prop := Box (∀ a w, Agr n L a → C w → qUpon F P w v ((execOp a.eval o).run P w))
/-- quiet: by a value in every world of the class -/
theorem wp_q [Wide F] {i : Nat} {o : Oper} {v : Value} (hi : ops[i]? = some o) (hC : Closed C) (hMC : ∀ w, M w → C w) (hM : Closed M) (hd : okDst o.dst n = true)
    (hy : Qt F P o n L C v) (hg : GOn ops L o.guard) (k : WP F P ops Q n D C plan (putL o.dst v L) M) : WP F P ops Q n D C ((i, .q) :: plan) L M := by
  refine .mk fun hpl listed hlc hp a w s => ?_
  simp only [planB, Bool.and_eq_true] at hp
  obtain ⟨⟨h1, h2⟩, h3⟩ := hp
  have hr : i ∈ Region.ready .any ops listed := by simpa using h1
  exact anyE_quiet hi (plainB_spec hpl) plan.length C listed a w hC hlc (Region.free_spec hi h2) hr (.inl ⟨wanted_on s.agr hg, fun w' hw' => hy.out a w' s.agr hw'⟩) (hMC _ s.mem)
    fun w2 he => k.out hpl _ (hlc.set hr) h3 _ w2 ⟨s.agr.putL _ hd _, (put_defers _ _ _).trans s.dfr, hM _ _ s.mem he⟩
theorem wp_off [Wide F] {i : Nat} {o : Oper} (hi : ops[i]? = some o) (hC : Closed C) (hMC : ∀ w, M w → C w) (hM : Closed M) (hd : okDst o.dst n = true)
    (hg : GOff ops L o.guard) (k : WP F P ops Q n D C plan (putL o.dst undef L) M) : WP F P ops Q n D C ((i, .q) :: plan) L M := by
  refine .mk fun hpl listed hlc hp a w s => ?_
  simp only [planB, Bool.and_eq_true] at hp
  obtain ⟨⟨h1, h2⟩, h3⟩ := hp
  have hr : i ∈ Region.ready .any ops listed := by simpa using h1
  exact anyE_quiet hi (plainB_spec hpl) plan.length C listed a w hC hlc (Region.free_spec hi h2) hr (.inr ⟨wanted_off s.agr hg, rfl⟩) (hMC _ s.mem)
    fun w2 he => k.out hpl _ (hlc.set hr) h3 _ w2 ⟨s.agr.putL _ hd _, (put_defers _ _ _).trans s.dfr, hM _ _ s.mem he⟩
theorem q_of_yld {o : Oper} {v : Value} (h : Yld P o L C v) : Qt F P o n L C v := .mk fun a w ha hw => by
  rw [h.out a.eval w ha.ev hw]; exact ⟨rfl, Ext.refl _⟩

/-- an effect, alone ready -/
theorem wp_e [Wide F] {i : Nat} {o : Oper} {α : Sort _} {V : α → Value} {M' : α → World → Prop} (C' : α → World → Prop) (hi : ops[i]? = some o) (hd : okDst o.dst n = true) (hn : isDefer o.op = false) (h : Eff F P o L M V M') (hg : GOn ops L o.guard)
    (hc : ∀ x, Closed (C' x)) (hs : ∀ x w, C' x w → C w) (hMC : ∀ x w, M' x w → C' x w) (hM : ∀ x, Closed (M' x))
    (k : ∀ x, WP F P ops Q n D (C' x) plan (putL o.dst (V x) L) (M' x)) : WP F P ops Q n D C ((i, .e) :: plan) L M := by
  refine .mk fun hpl listed hlc hp a w s => ?_
  simp only [planB, Bool.and_eq_true, decide_eq_true_eq] at hp
  obtain ⟨h1, h3⟩ := hp
  have hr : i ∈ Region.ready .any ops listed := by rw [h1]; simp
  refine ⟨fun h => (by rw [h1] at h; cases h), fun j hj => ?_⟩
  rw [h1] at hj
  obtain rfl : j = i := by simpa using hj
  unfold opE wpOpIn
  simp only [hi, wanted_on s.agr hg, if_true]
  refine ⟨fun f _ => Wide.fn f, ?_⟩
  rw [semAt_of hn]
  exact Eff.upon (h.out a.eval w s.agr.ev s.mem) fun x w' hm => .inr (.inr ⟨C' x, hc x, hs x, hMC x _ hm, fun w2 he => (k x).out hpl _ (hlc.set hr) h3 _ w2 ⟨s.agr.putL _ hd _, (put_defers _ _ _).trans s.dfr, hM x _ _ hm he⟩⟩)
/-- an effect behind all the others that were taken -/
theorem wp_b [Wide F] {i : Nat} {o : Oper} {α : Sort _} {V : α → Value} {M' : α → World → Prop} (hi : ops[i]? = some o) (hd : okDst o.dst n = true) (hn : isDefer o.op = false) (h : Eff F P o L M V M') (hg : GOn ops L o.guard)
    (hM : ∀ x, Closed (M' x)) (k : ∀ x, WP F P ops Q n D (M' x) plan (putL o.dst (V x) L) (M' x)) : WP F P ops Q n D C ((i, .b) :: plan) L M := by
  refine .mk fun hpl listed hlc hp a w s => ?_
  simp only [planB, Bool.and_eq_true, decide_eq_true_eq] at hp
  obtain ⟨⟨h1, h2⟩, h3⟩ := hp
  have hr : i ∈ Region.ready .any ops listed := by rw [h1]; simp
  refine ⟨fun h => (by rw [h1] at h; cases h), fun j hj => ?_⟩
  rw [h1] at hj
  obtain rfl : j = i := by simpa using hj
  unfold opE wpOpIn
  simp only [hi, wanted_on s.agr hg, if_true]
  refine ⟨fun f _ => Wide.fn f, ?_⟩
  rw [semAt_of hn]
  exact Eff.upon (h.out a.eval w s.agr.ev s.mem) fun x w' hm => .inr (.inl ⟨h2, M' x, hM x, hm, fun w2 he => (k x).out hpl _ (hlc.set hr) h3 _ w2 ⟨s.agr.putL _ hd _, (put_defers _ _ _).trans s.dfr, hM x _ _ hm he⟩⟩)
/-- the last one -/
theorem wp_l [Wide F] {i : Nat} {o : Oper} {α : Sort _} {V : α → Value} {M' : α → World → Prop} (hi : ops[i]? = some o) (hd : okDst o.dst n = true) (hn : isDefer o.op = false) (h : Eff F P o L M V M') (hg : GOn ops L o.guard)
    (k : ∀ x, AQ Q .normal n D (putL o.dst (V x) L) (M' x)) : WP F P ops Q n D C [(i, .l)] L M := by
  refine .mk fun hpl listed hlc hp a w s => ?_
  simp only [planB, Bool.and_eq_true, decide_eq_true_eq] at hp
  obtain ⟨⟨⟨h1, h2⟩, _⟩, h4⟩ := hp
  refine ⟨fun h => (by rw [h1] at h; cases h), fun j hj => ?_⟩
  rw [h1] at hj
  obtain rfl : j = i := by simpa using hj
  unfold opE wpOpIn
  simp only [hi, wanted_on s.agr hg, if_true]
  refine ⟨fun f _ => Wide.fn f, ?_⟩
  rw [semAt_of hn]
  exact Eff.upon (h.out a.eval w s.agr.ev s.mem) fun x w' hm => .inl ⟨h2, by simpa using h4, (k x).out _ _ ⟨s.agr.putL _ hd _, (put_defers _ _ _).trans s.dfr, hm⟩⟩
/-- by a bool -/
theorem wp_bool {t : Tmp} {b : Bool} (hb : lk L t = some (.bool b)) (ht : b = true → WP F P ops Q n D C plan ((t, .bool true) :: L) M) (hf : b = false → WP F P ops Q n D C plan ((t, .bool false) :: L) M) : WP F P ops Q n D C plan L M := by
  refine .mk fun hpl listed hlc hp a w s => ?_
  have key : ∀ c, b = c → St n ((t, .bool c) :: L) D M a w := fun c e => ⟨⟨s.agr.size, fun u v hu => by
    by_cases e' : t = u
    · subst e'; rw [lk_cons_eq] at hu; injection hu with hu; subst hu; subst e; exact s.agr.at_ _ _ hb
    · rw [lk_cons_ne e'] at hu; exact s.agr.at_ _ _ hu⟩, s.dfr, s.mem⟩
  cases b with
  | true => exact (ht rfl).out hpl listed hlc hp a w (key true rfl)
  | false => exact (hf rfl).out hpl listed hlc hp a w (key false rfl)
theorem wp_re {t : Tmp} {v v' : Value} (hb : lk L t = some v) (e : v = v') (k : WP F P ops Q n D C plan ((t, v') :: L) M) : WP F P ops Q n D C plan L M := by
  subst e
  exact .mk fun hpl listed hlc hp a w s => k.out hpl listed hlc hp a w ⟨⟨s.agr.size, fun u x hu => by
    by_cases e' : t = u
    · subst e'; rw [lk_cons_eq] at hu; injection hu with hu; subst hu; exact s.agr.at_ _ _ hb
    · rw [lk_cons_ne e'] at hu; exact s.agr.at_ _ _ hu⟩, s.dfr, s.mem⟩
theorem wp_mem {M' : World → Prop} (hM : ∀ w, M w → M' w) (h : WP F P ops Q n D C plan L M') : WP F P ops Q n D C plan L M := .mk fun hpl listed hlc hp a w s => h.out hpl listed hlc hp a w ⟨s.agr, s.dfr, hM _ s.mem⟩
/-- a call that hands back one value and makes at most new memory -/
theorem q_of_call [Wide F] {d : Option Tmp} {ty : TypeId} {pos : String} {af : Array Edge} {g : Option (Nat × Bool)} {f : FuncId} {args : Array Operand} {tys : Array TypeId} {vs : List Value} {v : Value} (hf : cfB P f = true) (ha : evs L args.toList = some vs) (hc : ∀ w, C w → Calls P f vs.toArray w (fun e w' => e = .returned v ∧ Ext w w')) :
    Qt F P ⟨d, .call ⟨.value (.func f), args, tys⟩, ty, pos, af, g⟩ n L C v := .mk fun a w hag hw => by
  rw [run_call hf hag.ev ha]; exact ⟨rfl, callsIn_of_calls (hc w hw)⟩
theorem quiet_of_mem {f : FuncId} {args : Array Value} {w : World} {v : Value} {α : Sort _} {H : α → List Ch} (h : Calls P f args w (Ret (fun _ : α => v) (fun x => Mem w [] (H x)))) : Calls P f args w (fun e w' => e = .returned v ∧ Ext w w') :=
  h.mono fun e w' ⟨x, he, hm⟩ => ⟨he, hm.below⟩
end Go.Mc

namespace Go.Mc
abbrev b8 (x : UInt8) : Value := .int .u8 (x.toNat : Int)
abbrev w32 (x : UInt32) : Value := .int .u32 (x.toNat : Int)
abbrev w64 (x : UInt64) : Value := .int .u64 (x.toNat : Int)
abbrev ki (e : Int) : Value := .int .i64 e
abbrev kb (b : Bool) : Value := .bool b
abbrev arr {α : Type} (f : α → Value) (l : List α) : Array Value := (l.map f).toArray

theorem wrap_i64 {m : Int} (h1 : -9223372036854775808 ≤ m) (h2 : m ≤ 9223372036854775807) : IntKind.i64.wrap m = m := by
  simp only [IntKind.wrap, IntKind.bits, IntKind.signed, Bool.true_and]
  simp only [Nat.reduceSub, Int.reducePow]
  split
  · rename_i h; simp at h; omega
  · rename_i h; simp at h; omega

/-! u8 -/
theorem wrap_u8 (m : Int) : IntKind.u8.wrap m = m % 256 := by simp [IntKind.wrap, IntKind.bits, IntKind.signed]
theorem wrap_u8_nat (m : Nat) : IntKind.u8.wrap (m : Int) = ((m % 256 : Nat) : Int) := by rw [wrap_u8]; omega
theorem bv_u8 (x : UInt8) : BitVec.ofInt 8 (x.toNat : Int) = x.toBitVec := by simp
theorem lt_u8 (x : UInt8) : x.toNat < 256 := x.toNat_lt
theorem add_u8 (x y : UInt8) : bin .add (b8 x) (b8 y) = some (b8 (x + y)) := by
  simp [bin, wrap_u8, UInt8.toNat_add]
theorem sub_u8 (x y : UInt8) : bin .sub (b8 x) (b8 y) = some (b8 (x - y)) := by
  have := lt_u8 x; have := lt_u8 y
  simp [bin, wrap_u8, UInt8.toNat_sub]; omega
theorem mul_u8 (x y : UInt8) : bin .mul (b8 x) (b8 y) = some (b8 (x * y)) := by
  simp [bin, wrap_u8, UInt8.toNat_mul]
theorem and_u8 (x y : UInt8) : bin .and (b8 x) (b8 y) = some (b8 (x &&& y)) := by
  have e : (BitVec.ofInt IntKind.u8.bits (x.toNat : Int) &&& BitVec.ofInt IntKind.u8.bits (y.toNat : Int)).toNat = (x &&& y).toNat := by
    show (BitVec.ofInt 8 (x.toNat : Int) &&& BitVec.ofInt 8 (y.toNat : Int)).toNat = _
    rw [bv_u8, bv_u8]; rfl
  simp only [bin, if_true, e, wrap_u8_nat, Nat.mod_eq_of_lt (lt_u8 _)]
theorem or_u8 (x y : UInt8) : bin .or (b8 x) (b8 y) = some (b8 (x ||| y)) := by
  have e : (BitVec.ofInt IntKind.u8.bits (x.toNat : Int) ||| BitVec.ofInt IntKind.u8.bits (y.toNat : Int)).toNat = (x ||| y).toNat := by
    show (BitVec.ofInt 8 (x.toNat : Int) ||| BitVec.ofInt 8 (y.toNat : Int)).toNat = _
    rw [bv_u8, bv_u8]; rfl
  simp only [bin, if_true, e, wrap_u8_nat, Nat.mod_eq_of_lt (lt_u8 _)]
theorem xor_u8 (x y : UInt8) : bin .xor (b8 x) (b8 y) = some (b8 (x ^^^ y)) := by
  have e : (BitVec.ofInt IntKind.u8.bits (x.toNat : Int) ^^^ BitVec.ofInt IntKind.u8.bits (y.toNat : Int)).toNat = (x ^^^ y).toNat := by
    show (BitVec.ofInt 8 (x.toNat : Int) ^^^ BitVec.ofInt 8 (y.toNat : Int)).toNat = _
    rw [bv_u8, bv_u8]; rfl
  simp only [bin, if_true, e, wrap_u8_nat, Nat.mod_eq_of_lt (lt_u8 _)]
theorem andNot_u8 (x y : UInt8) : bin .andNot (b8 x) (b8 y) = some (b8 (x &&& ~~~ y)) := by
  have e : (BitVec.ofInt IntKind.u8.bits (x.toNat : Int) &&& ~~~ BitVec.ofInt IntKind.u8.bits (y.toNat : Int)).toNat = (x &&& ~~~ y).toNat := by
    show (BitVec.ofInt 8 (x.toNat : Int) &&& ~~~ BitVec.ofInt 8 (y.toNat : Int)).toNat = _
    rw [bv_u8, bv_u8]; rfl
  simp only [bin, if_true, e, wrap_u8_nat, Nat.mod_eq_of_lt (lt_u8 _)]
theorem quo_u8 (x y : UInt8) (h : y ≠ 0) : bin .quo (b8 x) (b8 y) = some (b8 (x / y)) := by
  have h' : (y.toNat : Int) ≠ 0 := fun e => h (UInt8.toNat_inj.1 (by simpa using e))
  have := lt_u8 x
  simp only [bin, h', ne_eq, not_false_eq_true, and_self, if_true, wrap_u8, UInt8.toNat_div, Option.some.injEq, Value.int.injEq, true_and]
  rw [Int.tdiv_eq_ediv_of_nonneg (by omega)]
  have h2 : (x.toNat : Int) / (y.toNat : Int) = ((x.toNat / y.toNat : Nat) : Int) := by simp
  rw [h2]
  have := Nat.div_le_self x.toNat y.toNat
  generalize x.toNat / y.toNat = q at *
  omega
theorem rem_u8 (x y : UInt8) (h : y ≠ 0) : bin .rem (b8 x) (b8 y) = some (b8 (x % y)) := by
  have h' : (y.toNat : Int) ≠ 0 := fun e => h (UInt8.toNat_inj.1 (by simpa using e))
  simp only [bin, h', ne_eq, not_false_eq_true, and_self, if_true, UInt8.toNat_mod, Option.some.injEq, Value.int.injEq, true_and]
  rw [Int.tmod_eq_emod_of_nonneg (by omega)]; simp
theorem shl_u8 (x : UInt8) {q : IntKind} {e : Int} (m : Nat) (he : e = (m : Int)) (h : m < 8) : bin .shl (b8 x) (.int q e) = some (b8 (x <<< UInt8.ofNat m)) := by
  subst he
  have e1 : (UInt8.ofNat m).toNat % 8 = m := by simp [UInt8.toNat_ofNat']; omega
  simp only [bin, show ¬ ((m : Int) < 0) by omega, if_false, Int.toNat_natCast, IntKind.bits, Nat.min_eq_left (Nat.le_of_lt h), UInt8.toNat_shiftLeft, e1, wrap_u8, Nat.shiftLeft_eq, b8]
  rw [show (x.toNat : Int) * 2 ^ m = ((x.toNat * 2 ^ m : Nat) : Int) by simp]
  congr 2
theorem shl_u8_out (x : UInt8) {q : IntKind} {e : Int} (h : 8 ≤ e) : bin .shl (b8 x) (.int q e) = some (b8 0) := by
  simp only [bin, show ¬ (e < 0) by omega, if_false, IntKind.bits, Nat.min_eq_right (show 8 ≤ e.toNat by omega), wrap_u8]
  congr 2; simp
theorem shr_u8 (x : UInt8) {q : IntKind} {e : Int} (m : Nat) (he : e = (m : Int)) (h : m < 8) : bin .shr (b8 x) (.int q e) = some (b8 (x >>> UInt8.ofNat m)) := by
  subst he
  have e1 : (UInt8.ofNat m).toNat % 8 = m := by simp [UInt8.toNat_ofNat']; omega
  simp only [bin, show ¬ ((m : Int) < 0) by omega, if_false, Int.toNat_natCast, IntKind.bits, Nat.min_eq_left (Nat.le_of_lt h), UInt8.toNat_shiftRight, e1, Nat.shiftRight_eq_div_pow, b8]
  rw [Int.fdiv_eq_ediv_of_nonneg _ (by exact Int.pow_nonneg (by decide))]; simp
theorem shr_u8_out (x : UInt8) {q : IntKind} {e : Int} (h : 8 ≤ e) : bin .shr (b8 x) (.int q e) = some (b8 0) := by
  have := lt_u8 x
  simp only [bin, show ¬ (e < 0) by omega, if_false, IntKind.bits, Nat.min_eq_right (show 8 ≤ e.toNat by omega)]
  congr 2; rw [Int.fdiv_eq_ediv_of_nonneg _ (by decide)]; simp; omega
theorem eql_u8 (x y : UInt8) : bin .eql (b8 x) (b8 y) = some (kb (x == y)) := by
  simp only [bin, if_true, Option.some.injEq, Value.bool.injEq]
  rw [Bool.eq_iff_iff]; simp [← UInt8.toNat_inj]; try omega
theorem neq_u8 (x y : UInt8) : bin .neq (b8 x) (b8 y) = some (kb (x != y)) := by
  simp only [bin, if_true, Option.some.injEq, Value.bool.injEq]
  rw [Bool.eq_iff_iff]; simp [← UInt8.toNat_inj]; try omega
theorem lss_u8 (x y : UInt8) : bin .lss (b8 x) (b8 y) = some (kb (decide (x < y))) := by
  simp only [bin, if_true, Option.some.injEq, Value.bool.injEq]
  rw [Bool.eq_iff_iff]; simp [UInt8.lt_iff_toNat_lt]
theorem leq_u8 (x y : UInt8) : bin .leq (b8 x) (b8 y) = some (kb (decide (x ≤ y))) := by
  simp only [bin, if_true, Option.some.injEq, Value.bool.injEq]
  rw [Bool.eq_iff_iff]; simp [UInt8.le_iff_toNat_le]
theorem gtr_u8 (x y : UInt8) : bin .gtr (b8 x) (b8 y) = some (kb (decide (y < x))) := by
  simp only [bin, if_true, Option.some.injEq, Value.bool.injEq]
  rw [Bool.eq_iff_iff]; simp [UInt8.lt_iff_toNat_lt]
theorem geq_u8 (x y : UInt8) : bin .geq (b8 x) (b8 y) = some (kb (decide (y ≤ x))) := by
  simp only [bin, if_true, Option.some.injEq, Value.bool.injEq]
  rw [Bool.eq_iff_iff]; simp [UInt8.le_iff_toNat_le]
theorem id_u8 (x : UInt8) : IntKind.u8.wrap (x.toNat : Int) = (x.toNat : Int) := by have := lt_u8 x; rw [wrap_u8]; omega
theorem cvn_u8 {e : Int} (m : Nat) (he : e = (m : Int)) : IntKind.u8.wrap e = (((UInt8.ofNat m).toNat : Nat) : Int) := by subst he; rw [wrap_u8]; simp [UInt8.toNat_ofNat']
theorem cv_i64_u8 (e : Int) : IntKind.u8.wrap e = (((UInt8.ofNat (e % 256).toNat).toNat : Nat) : Int) := by
  rw [wrap_u8]; simp [UInt8.toNat_ofNat']; omega

/-! u32 -/
theorem wrap_u32 (m : Int) : IntKind.u32.wrap m = m % 4294967296 := by simp [IntKind.wrap, IntKind.bits, IntKind.signed]
theorem wrap_u32_nat (m : Nat) : IntKind.u32.wrap (m : Int) = ((m % 4294967296 : Nat) : Int) := by rw [wrap_u32]; omega
theorem bv_u32 (x : UInt32) : BitVec.ofInt 32 (x.toNat : Int) = x.toBitVec := by simp
theorem lt_u32 (x : UInt32) : x.toNat < 4294967296 := x.toNat_lt
theorem add_u32 (x y : UInt32) : bin .add (w32 x) (w32 y) = some (w32 (x + y)) := by
  simp [bin, wrap_u32, UInt32.toNat_add]
theorem sub_u32 (x y : UInt32) : bin .sub (w32 x) (w32 y) = some (w32 (x - y)) := by
  have := lt_u32 x; have := lt_u32 y
  simp [bin, wrap_u32, UInt32.toNat_sub]; omega
theorem mul_u32 (x y : UInt32) : bin .mul (w32 x) (w32 y) = some (w32 (x * y)) := by
  simp [bin, wrap_u32, UInt32.toNat_mul]
theorem and_u32 (x y : UInt32) : bin .and (w32 x) (w32 y) = some (w32 (x &&& y)) := by
  have e : (BitVec.ofInt IntKind.u32.bits (x.toNat : Int) &&& BitVec.ofInt IntKind.u32.bits (y.toNat : Int)).toNat = (x &&& y).toNat := by
    show (BitVec.ofInt 32 (x.toNat : Int) &&& BitVec.ofInt 32 (y.toNat : Int)).toNat = _
    rw [bv_u32, bv_u32]; rfl
  simp only [bin, if_true, e, wrap_u32_nat, Nat.mod_eq_of_lt (lt_u32 _)]
theorem or_u32 (x y : UInt32) : bin .or (w32 x) (w32 y) = some (w32 (x ||| y)) := by
  have e : (BitVec.ofInt IntKind.u32.bits (x.toNat : Int) ||| BitVec.ofInt IntKind.u32.bits (y.toNat : Int)).toNat = (x ||| y).toNat := by
    show (BitVec.ofInt 32 (x.toNat : Int) ||| BitVec.ofInt 32 (y.toNat : Int)).toNat = _
    rw [bv_u32, bv_u32]; rfl
  simp only [bin, if_true, e, wrap_u32_nat, Nat.mod_eq_of_lt (lt_u32 _)]
theorem xor_u32 (x y : UInt32) : bin .xor (w32 x) (w32 y) = some (w32 (x ^^^ y)) := by
  have e : (BitVec.ofInt IntKind.u32.bits (x.toNat : Int) ^^^ BitVec.ofInt IntKind.u32.bits (y.toNat : Int)).toNat = (x ^^^ y).toNat := by
    show (BitVec.ofInt 32 (x.toNat : Int) ^^^ BitVec.ofInt 32 (y.toNat : Int)).toNat = _
    rw [bv_u32, bv_u32]; rfl
  simp only [bin, if_true, e, wrap_u32_nat, Nat.mod_eq_of_lt (lt_u32 _)]
theorem andNot_u32 (x y : UInt32) : bin .andNot (w32 x) (w32 y) = some (w32 (x &&& ~~~ y)) := by
  have e : (BitVec.ofInt IntKind.u32.bits (x.toNat : Int) &&& ~~~ BitVec.ofInt IntKind.u32.bits (y.toNat : Int)).toNat = (x &&& ~~~ y).toNat := by
    show (BitVec.ofInt 32 (x.toNat : Int) &&& ~~~ BitVec.ofInt 32 (y.toNat : Int)).toNat = _
    rw [bv_u32, bv_u32]; rfl
  simp only [bin, if_true, e, wrap_u32_nat, Nat.mod_eq_of_lt (lt_u32 _)]
theorem quo_u32 (x y : UInt32) (h : y ≠ 0) : bin .quo (w32 x) (w32 y) = some (w32 (x / y)) := by
  have h' : (y.toNat : Int) ≠ 0 := fun e => h (UInt32.toNat_inj.1 (by simpa using e))
  have := lt_u32 x
  simp only [bin, h', ne_eq, not_false_eq_true, and_self, if_true, wrap_u32, UInt32.toNat_div, Option.some.injEq, Value.int.injEq, true_and]
  rw [Int.tdiv_eq_ediv_of_nonneg (by omega)]
  have h2 : (x.toNat : Int) / (y.toNat : Int) = ((x.toNat / y.toNat : Nat) : Int) := by simp
  rw [h2]
  have := Nat.div_le_self x.toNat y.toNat
  generalize x.toNat / y.toNat = q at *
  omega
theorem rem_u32 (x y : UInt32) (h : y ≠ 0) : bin .rem (w32 x) (w32 y) = some (w32 (x % y)) := by
  have h' : (y.toNat : Int) ≠ 0 := fun e => h (UInt32.toNat_inj.1 (by simpa using e))
  simp only [bin, h', ne_eq, not_false_eq_true, and_self, if_true, UInt32.toNat_mod, Option.some.injEq, Value.int.injEq, true_and]
  rw [Int.tmod_eq_emod_of_nonneg (by omega)]; simp
theorem shl_u32 (x : UInt32) {q : IntKind} {e : Int} (m : Nat) (he : e = (m : Int)) (h : m < 32) : bin .shl (w32 x) (.int q e) = some (w32 (x <<< UInt32.ofNat m)) := by
  subst he
  have e1 : (UInt32.ofNat m).toNat % 32 = m := by simp [UInt32.toNat_ofNat']; omega
  simp only [bin, show ¬ ((m : Int) < 0) by omega, if_false, Int.toNat_natCast, IntKind.bits, Nat.min_eq_left (Nat.le_of_lt h), UInt32.toNat_shiftLeft, e1, wrap_u32, Nat.shiftLeft_eq, w32]
  rw [show (x.toNat : Int) * 2 ^ m = ((x.toNat * 2 ^ m : Nat) : Int) by simp]
  congr 2
theorem shl_u32_out (x : UInt32) {q : IntKind} {e : Int} (h : 32 ≤ e) : bin .shl (w32 x) (.int q e) = some (w32 0) := by
  simp only [bin, show ¬ (e < 0) by omega, if_false, IntKind.bits, Nat.min_eq_right (show 32 ≤ e.toNat by omega), wrap_u32]
  congr 2; simp
theorem shr_u32 (x : UInt32) {q : IntKind} {e : Int} (m : Nat) (he : e = (m : Int)) (h : m < 32) : bin .shr (w32 x) (.int q e) = some (w32 (x >>> UInt32.ofNat m)) := by
  subst he
  have e1 : (UInt32.ofNat m).toNat % 32 = m := by simp [UInt32.toNat_ofNat']; omega
  simp only [bin, show ¬ ((m : Int) < 0) by omega, if_false, Int.toNat_natCast, IntKind.bits, Nat.min_eq_left (Nat.le_of_lt h), UInt32.toNat_shiftRight, e1, Nat.shiftRight_eq_div_pow, w32]
  rw [Int.fdiv_eq_ediv_of_nonneg _ (by exact Int.pow_nonneg (by decide))]; simp
theorem shr_u32_out (x : UInt32) {q : IntKind} {e : Int} (h : 32 ≤ e) : bin .shr (w32 x) (.int q e) = some (w32 0) := by
  have := lt_u32 x
  simp only [bin, show ¬ (e < 0) by omega, if_false, IntKind.bits, Nat.min_eq_right (show 32 ≤ e.toNat by omega)]
  congr 2; rw [Int.fdiv_eq_ediv_of_nonneg _ (by decide)]; simp; omega
theorem eql_u32 (x y : UInt32) : bin .eql (w32 x) (w32 y) = some (kb (x == y)) := by
  simp only [bin, if_true, Option.some.injEq, Value.bool.injEq]
  rw [Bool.eq_iff_iff]; simp [← UInt32.toNat_inj]; try omega
theorem neq_u32 (x y : UInt32) : bin .neq (w32 x) (w32 y) = some (kb (x != y)) := by
  simp only [bin, if_true, Option.some.injEq, Value.bool.injEq]
  rw [Bool.eq_iff_iff]; simp [← UInt32.toNat_inj]; try omega
theorem lss_u32 (x y : UInt32) : bin .lss (w32 x) (w32 y) = some (kb (decide (x < y))) := by
  simp only [bin, if_true, Option.some.injEq, Value.bool.injEq]
  rw [Bool.eq_iff_iff]; simp [UInt32.lt_iff_toNat_lt]
theorem leq_u32 (x y : UInt32) : bin .leq (w32 x) (w32 y) = some (kb (decide (x ≤ y))) := by
  simp only [bin, if_true, Option.some.injEq, Value.bool.injEq]
  rw [Bool.eq_iff_iff]; simp [UInt32.le_iff_toNat_le]
theorem gtr_u32 (x y : UInt32) : bin .gtr (w32 x) (w32 y) = some (kb (decide (y < x))) := by
  simp only [bin, if_true, Option.some.injEq, Value.bool.injEq]
  rw [Bool.eq_iff_iff]; simp [UInt32.lt_iff_toNat_lt]
theorem geq_u32 (x y : UInt32) : bin .geq (w32 x) (w32 y) = some (kb (decide (y ≤ x))) := by
  simp only [bin, if_true, Option.some.injEq, Value.bool.injEq]
  rw [Bool.eq_iff_iff]; simp [UInt32.le_iff_toNat_le]
theorem id_u32 (x : UInt32) : IntKind.u32.wrap (x.toNat : Int) = (x.toNat : Int) := by have := lt_u32 x; rw [wrap_u32]; omega
theorem cvn_u32 {e : Int} (m : Nat) (he : e = (m : Int)) : IntKind.u32.wrap e = (((UInt32.ofNat m).toNat : Nat) : Int) := by subst he; rw [wrap_u32]; simp [UInt32.toNat_ofNat']
theorem cv_i64_u32 (e : Int) : IntKind.u32.wrap e = (((UInt32.ofNat (e % 4294967296).toNat).toNat : Nat) : Int) := by
  rw [wrap_u32]; simp [UInt32.toNat_ofNat']; omega

/-! u64 -/
theorem wrap_u64 (m : Int) : IntKind.u64.wrap m = m % 18446744073709551616 := by simp [IntKind.wrap, IntKind.bits, IntKind.signed]
theorem wrap_u64_nat (m : Nat) : IntKind.u64.wrap (m : Int) = ((m % 18446744073709551616 : Nat) : Int) := by rw [wrap_u64]; omega
theorem bv_u64 (x : UInt64) : BitVec.ofInt 64 (x.toNat : Int) = x.toBitVec := by simp
theorem lt_u64 (x : UInt64) : x.toNat < 18446744073709551616 := x.toNat_lt
theorem add_u64 (x y : UInt64) : bin .add (w64 x) (w64 y) = some (w64 (x + y)) := by
  simp [bin, wrap_u64, UInt64.toNat_add]
theorem sub_u64 (x y : UInt64) : bin .sub (w64 x) (w64 y) = some (w64 (x - y)) := by
  have := lt_u64 x; have := lt_u64 y
  simp [bin, wrap_u64, UInt64.toNat_sub]; omega
theorem mul_u64 (x y : UInt64) : bin .mul (w64 x) (w64 y) = some (w64 (x * y)) := by
  simp [bin, wrap_u64, UInt64.toNat_mul]
theorem and_u64 (x y : UInt64) : bin .and (w64 x) (w64 y) = some (w64 (x &&& y)) := by
  have e : (BitVec.ofInt IntKind.u64.bits (x.toNat : Int) &&& BitVec.ofInt IntKind.u64.bits (y.toNat : Int)).toNat = (x &&& y).toNat := by
    show (BitVec.ofInt 64 (x.toNat : Int) &&& BitVec.ofInt 64 (y.toNat : Int)).toNat = _
    rw [bv_u64, bv_u64]; rfl
  simp only [bin, if_true, e, wrap_u64_nat, Nat.mod_eq_of_lt (lt_u64 _)]
theorem or_u64 (x y : UInt64) : bin .or (w64 x) (w64 y) = some (w64 (x ||| y)) := by
  have e : (BitVec.ofInt IntKind.u64.bits (x.toNat : Int) ||| BitVec.ofInt IntKind.u64.bits (y.toNat : Int)).toNat = (x ||| y).toNat := by
    show (BitVec.ofInt 64 (x.toNat : Int) ||| BitVec.ofInt 64 (y.toNat : Int)).toNat = _
    rw [bv_u64, bv_u64]; rfl
  simp only [bin, if_true, e, wrap_u64_nat, Nat.mod_eq_of_lt (lt_u64 _)]
theorem xor_u64 (x y : UInt64) : bin .xor (w64 x) (w64 y) = some (w64 (x ^^^ y)) := by
  have e : (BitVec.ofInt IntKind.u64.bits (x.toNat : Int) ^^^ BitVec.ofInt IntKind.u64.bits (y.toNat : Int)).toNat = (x ^^^ y).toNat := by
    show (BitVec.ofInt 64 (x.toNat : Int) ^^^ BitVec.ofInt 64 (y.toNat : Int)).toNat = _
    rw [bv_u64, bv_u64]; rfl
  simp only [bin, if_true, e, wrap_u64_nat, Nat.mod_eq_of_lt (lt_u64 _)]
theorem andNot_u64 (x y : UInt64) : bin .andNot (w64 x) (w64 y) = some (w64 (x &&& ~~~ y)) := by
  have e : (BitVec.ofInt IntKind.u64.bits (x.toNat : Int) &&& ~~~ BitVec.ofInt IntKind.u64.bits (y.toNat : Int)).toNat = (x &&& ~~~ y).toNat := by
    show (BitVec.ofInt 64 (x.toNat : Int) &&& ~~~ BitVec.ofInt 64 (y.toNat : Int)).toNat = _
    rw [bv_u64, bv_u64]; rfl
  simp only [bin, if_true, e, wrap_u64_nat, Nat.mod_eq_of_lt (lt_u64 _)]
theorem quo_u64 (x y : UInt64) (h : y ≠ 0) : bin .quo (w64 x) (w64 y) = some (w64 (x / y)) := by
  have h' : (y.toNat : Int) ≠ 0 := fun e => h (UInt64.toNat_inj.1 (by simpa using e))
  have := lt_u64 x
  simp only [bin, h', ne_eq, not_false_eq_true, and_self, if_true, wrap_u64, UInt64.toNat_div, Option.some.injEq, Value.int.injEq, true_and]
  rw [Int.tdiv_eq_ediv_of_nonneg (by omega)]
  have h2 : (x.toNat : Int) / (y.toNat : Int) = ((x.toNat / y.toNat : Nat) : Int) := by simp
  rw [h2]
  have := Nat.div_le_self x.toNat y.toNat
  generalize x.toNat / y.toNat = q at *
  omega
theorem rem_u64 (x y : UInt64) (h : y ≠ 0) : bin .rem (w64 x) (w64 y) = some (w64 (x % y)) := by
  have h' : (y.toNat : Int) ≠ 0 := fun e => h (UInt64.toNat_inj.1 (by simpa using e))
  simp only [bin, h', ne_eq, not_false_eq_true, and_self, if_true, UInt64.toNat_mod, Option.some.injEq, Value.int.injEq, true_and]
  rw [Int.tmod_eq_emod_of_nonneg (by omega)]; simp
theorem shl_u64 (x : UInt64) {q : IntKind} {e : Int} (m : Nat) (he : e = (m : Int)) (h : m < 64) : bin .shl (w64 x) (.int q e) = some (w64 (x <<< UInt64.ofNat m)) := by
  subst he
  have e1 : (UInt64.ofNat m).toNat % 64 = m := by simp [UInt64.toNat_ofNat']; omega
  simp only [bin, show ¬ ((m : Int) < 0) by omega, if_false, Int.toNat_natCast, IntKind.bits, Nat.min_eq_left (Nat.le_of_lt h), UInt64.toNat_shiftLeft, e1, wrap_u64, Nat.shiftLeft_eq, w64]
  rw [show (x.toNat : Int) * 2 ^ m = ((x.toNat * 2 ^ m : Nat) : Int) by simp]
  congr 2
theorem shl_u64_out (x : UInt64) {q : IntKind} {e : Int} (h : 64 ≤ e) : bin .shl (w64 x) (.int q e) = some (w64 0) := by
  simp only [bin, show ¬ (e < 0) by omega, if_false, IntKind.bits, Nat.min_eq_right (show 64 ≤ e.toNat by omega), wrap_u64]
  congr 2; simp
theorem shr_u64 (x : UInt64) {q : IntKind} {e : Int} (m : Nat) (he : e = (m : Int)) (h : m < 64) : bin .shr (w64 x) (.int q e) = some (w64 (x >>> UInt64.ofNat m)) := by
  subst he
  have e1 : (UInt64.ofNat m).toNat % 64 = m := by simp [UInt64.toNat_ofNat']; omega
  simp only [bin, show ¬ ((m : Int) < 0) by omega, if_false, Int.toNat_natCast, IntKind.bits, Nat.min_eq_left (Nat.le_of_lt h), UInt64.toNat_shiftRight, e1, Nat.shiftRight_eq_div_pow, w64]
  rw [Int.fdiv_eq_ediv_of_nonneg _ (by exact Int.pow_nonneg (by decide))]; simp
theorem shr_u64_out (x : UInt64) {q : IntKind} {e : Int} (h : 64 ≤ e) : bin .shr (w64 x) (.int q e) = some (w64 0) := by
  have := lt_u64 x
  simp only [bin, show ¬ (e < 0) by omega, if_false, IntKind.bits, Nat.min_eq_right (show 64 ≤ e.toNat by omega)]
  congr 2; rw [Int.fdiv_eq_ediv_of_nonneg _ (by decide)]; simp; omega
theorem eql_u64 (x y : UInt64) : bin .eql (w64 x) (w64 y) = some (kb (x == y)) := by
  simp only [bin, if_true, Option.some.injEq, Value.bool.injEq]
  rw [Bool.eq_iff_iff]; simp [← UInt64.toNat_inj]; try omega
theorem neq_u64 (x y : UInt64) : bin .neq (w64 x) (w64 y) = some (kb (x != y)) := by
  simp only [bin, if_true, Option.some.injEq, Value.bool.injEq]
  rw [Bool.eq_iff_iff]; simp [← UInt64.toNat_inj]; try omega
theorem lss_u64 (x y : UInt64) : bin .lss (w64 x) (w64 y) = some (kb (decide (x < y))) := by
  simp only [bin, if_true, Option.some.injEq, Value.bool.injEq]
  rw [Bool.eq_iff_iff]; simp [UInt64.lt_iff_toNat_lt]
theorem leq_u64 (x y : UInt64) : bin .leq (w64 x) (w64 y) = some (kb (decide (x ≤ y))) := by
  simp only [bin, if_true, Option.some.injEq, Value.bool.injEq]
  rw [Bool.eq_iff_iff]; simp [UInt64.le_iff_toNat_le]
theorem gtr_u64 (x y : UInt64) : bin .gtr (w64 x) (w64 y) = some (kb (decide (y < x))) := by
  simp only [bin, if_true, Option.some.injEq, Value.bool.injEq]
  rw [Bool.eq_iff_iff]; simp [UInt64.lt_iff_toNat_lt]
theorem geq_u64 (x y : UInt64) : bin .geq (w64 x) (w64 y) = some (kb (decide (y ≤ x))) := by
  simp only [bin, if_true, Option.some.injEq, Value.bool.injEq]
  rw [Bool.eq_iff_iff]; simp [UInt64.le_iff_toNat_le]
theorem id_u64 (x : UInt64) : IntKind.u64.wrap (x.toNat : Int) = (x.toNat : Int) := by have := lt_u64 x; rw [wrap_u64]; omega
theorem cvn_u64 {e : Int} (m : Nat) (he : e = (m : Int)) : IntKind.u64.wrap e = (((UInt64.ofNat m).toNat : Nat) : Int) := by subst he; rw [wrap_u64]; simp [UInt64.toNat_ofNat']
theorem cv_i64_u64 (e : Int) : IntKind.u64.wrap e = (((UInt64.ofNat (e % 18446744073709551616).toNat).toNat : Nat) : Int) := by
  rw [wrap_u64]; simp [UInt64.toNat_ofNat']; omega
theorem cv_u8_u32 (x : UInt8) : IntKind.u32.wrap (x.toNat : Int) = (x.toUInt32.toNat : Int) := by have := lt_u8 x; rw [wrap_u32]; simp; try omega
theorem cv_u8_u64 (x : UInt8) : IntKind.u64.wrap (x.toNat : Int) = (x.toUInt64.toNat : Int) := by have := lt_u8 x; rw [wrap_u64]; simp; try omega
theorem cv_u8_i64 (x : UInt8) : IntKind.i64.wrap (x.toNat : Int) = (x.toNat : Int) := by have := lt_u8 x; exact wrap_i64 (by omega) (by omega)
theorem cv_u32_u8 (x : UInt32) : IntKind.u8.wrap (x.toNat : Int) = (x.toUInt8.toNat : Int) := by have := lt_u32 x; rw [wrap_u8]; simp; try omega
theorem cv_u32_u64 (x : UInt32) : IntKind.u64.wrap (x.toNat : Int) = (x.toUInt64.toNat : Int) := by have := lt_u32 x; rw [wrap_u64]; simp; try omega
theorem cv_u32_i64 (x : UInt32) : IntKind.i64.wrap (x.toNat : Int) = (x.toNat : Int) := by have := lt_u32 x; exact wrap_i64 (by omega) (by omega)
theorem cv_u64_u8 (x : UInt64) : IntKind.u8.wrap (x.toNat : Int) = (x.toUInt8.toNat : Int) := by have := lt_u64 x; rw [wrap_u8]; simp; try omega
theorem cv_u64_u32 (x : UInt64) : IntKind.u32.wrap (x.toNat : Int) = (x.toUInt32.toNat : Int) := by have := lt_u64 x; rw [wrap_u32]; simp; try omega
theorem cv_u64_i64 (x : UInt64) (h : x.toNat ≤ 9223372036854775807) : IntKind.i64.wrap (x.toNat : Int) = (x.toNat : Int) := by have := lt_u64 x; exact wrap_i64 (by omega) (by omega)

/-! int -/
section
variable {a b : Int}
theorem add_i64 (h1 : -9223372036854775808 ≤ a + b) (h2 : a + b ≤ 9223372036854775807) : bin .add (ki a) (ki b) = some (ki (a + b)) := by simp only [bin, if_true, wrap_i64 h1 h2]
theorem sub_i64 (h1 : -9223372036854775808 ≤ a - b) (h2 : a - b ≤ 9223372036854775807) : bin .sub (ki a) (ki b) = some (ki (a - b)) := by simp only [bin, if_true, wrap_i64 h1 h2]
theorem mul_i64 (h1 : -9223372036854775808 ≤ a * b) (h2 : a * b ≤ 9223372036854775807) : bin .mul (ki a) (ki b) = some (ki (a * b)) := by simp only [bin, if_true, wrap_i64 h1 h2]
theorem quo_i64 (h1 : 0 ≤ a) (h2 : a ≤ 9223372036854775807) (h3 : 0 < b) : bin .quo (ki a) (ki b) = some (ki (a / b)) := by
  have h0 : b ≠ 0 := by omega
  have h5 : 0 ≤ a / b := Int.ediv_nonneg h1 (by omega)
  have h6 : a / b ≤ a := Int.ediv_le_self b h1
  simp only [bin, h0, ne_eq, not_false_eq_true, and_self, if_true, Int.tdiv_eq_ediv_of_nonneg h1]
  rw [wrap_i64 (by omega) (by omega)]
theorem rem_i64 (h1 : 0 ≤ a) (h3 : 0 < b) : bin .rem (ki a) (ki b) = some (ki (a % b)) := by
  have h0 : b ≠ 0 := by omega
  simp only [bin, h0, ne_eq, not_false_eq_true, and_self, if_true, Int.tmod_eq_emod_of_nonneg h1]
theorem eql_i64 : bin .eql (ki a) (ki b) = some (kb (a == b)) := by simp only [bin, if_true]
theorem neq_i64 : bin .neq (ki a) (ki b) = some (kb (a != b)) := by simp only [bin, if_true]
theorem lss_i64 : bin .lss (ki a) (ki b) = some (kb (decide (a < b))) := by simp only [bin, if_true]
theorem leq_i64 : bin .leq (ki a) (ki b) = some (kb (decide (a ≤ b))) := by simp only [bin, if_true]
theorem gtr_i64 : bin .gtr (ki a) (ki b) = some (kb (decide (b < a))) := by simp only [bin, if_true, gt_iff_lt]
theorem geq_i64 : bin .geq (ki a) (ki b) = some (kb (decide (b ≤ a))) := by simp only [bin, if_true, ge_iff_le]
end
end Go.Mc

namespace Go.Mc
theorem arr_get {α : Type} {f : α → Value} {l : List α} {o : Nat} {x : α} (h : l[o]? = some x) : (arr f l)[o]? = some (f x) := by simp [arr, h]
theorem arr_size {α : Type} {f : α → Value} (l : List α) : (arr f l).size = l.length := by simp [arr]
theorem arr_set {α : Type} {f : α → Value} (l : List α) (o : Nat) (x : α) : (arr f l).setIfInBounds o (f x) = arr f (l.set o x) := by
  simp [arr, List.map_set]
theorem map_get {α : Type} {f : α → Value} {l : List α} {o : Nat} {x : α} (h : l[o]? = some x) : (l.map f)[o]? = some (f x) := by simp [h]
theorem gd {α : Type} {l : List α} {o : Nat} (d : α) (h : o < l.length) : l[o]? = some (l.getD o d) := by simp [List.getD_eq_getElem?_getD, h]
class One {α : Type} (f : α → Value) : Prop where
  one : ∀ x, (f x).oneCell' = true
instance : One b8 := ⟨fun _ => rfl⟩
instance : One w32 := ⟨fun _ => rfl⟩
instance : One w64 := ⟨fun _ => rfl⟩
instance : One ki := ⟨fun _ => rfl⟩
theorem arr_one {α : Type} {f : α → Value} [One f] (l : List α) : ∀ u ∈ (arr f l).toList, u.oneCell' = true := by
  intro u hu
  simp only [arr, List.mem_map] at hu
  obtain ⟨x, _, rfl⟩ := hu
  exact One.one x
section
variable {F : Fence} {P : Program} {n : Nat} {L : List (Nat × Value)} {M : World → Prop} {w0 : World} {own : List Nat} {H : List Ch}
variable {d : Option Tmp} {ty : TypeId} {pos : String} {af : Array Edge} {g : Option (Nat × Bool)}
theorem e_store_arr {α : Type} {f : α → Value} [One f] {l : List α} {x' : α} {t : TypeId} {x y : Operand} {i b o : Nat} {E : TypeId} {H' : List Ch} (hs : szB P t 1 = true) (hx : ev L x = some (.pointer (some ⟨b, o, none⟩))) (hy : ev L y = some (f x')) (hi : H[i]? = some (.blk b (.cells (arr f l) E (0, 0))))
    (ho : o < l.length) (hH : SetAt H i (.blk b (.cells (arr f (l.set o x')) E (0, 0))) H') :
    Eff F P ⟨d, .store t x y, ty, pos, af, g⟩ L (Mem w0 own H) (fun _ : Unit => undef) (fun _ => Mem w0 own H') :=
  e_store1 hs hx hy hi (One.one x') (by rw [arr_size]; exact ho) (by rw [arr_set]; exact hH)
/-- len of a slice -/
theorem y_len_sl {t : TypeId} {x : Operand} {ad : Option Addr} {m cap : Nat} {tys : Array TypeId} {e : TypeId} (ht : slB P t e = true) (htys : tys = #[t]) (hx : ev L x = some (.slice ad m cap)) : Yld P ⟨d, .call ⟨.builtin .len, #[x], tys⟩, ty, pos, af, g⟩ L M (ki m) := .mk fun ρ w he _ => by
  subst htys
  simp [execOp, resolve, invoke, builtin, Builtin.len_, he _ _ hx, run_under (und_sl ht), goInt]
theorem y_cap_sl {t : TypeId} {x : Operand} {ad : Option Addr} {m cap : Nat} {tys : Array TypeId} {e : TypeId} (ht : slB P t e = true) (htys : tys = #[t]) (hx : ev L x = some (.slice ad m cap)) : Yld P ⟨d, .call ⟨.builtin .cap, #[x], tys⟩, ty, pos, af, g⟩ L M (ki cap) := .mk fun ρ w he _ => by
  subst htys
  simp [execOp, resolve, invoke, builtin, Builtin.cap_, he _ _ hx, run_under (und_sl ht), goInt]
theorem y_nilCheck {x : Operand} {a : Addr} (hx : ev L x = some (.pointer (some a))) : Yld P ⟨d, .nilCheck x, ty, pos, af, g⟩ L M (.pointer (some a)) := .mk fun ρ w he _ => by
  simp [execOp, he _ _ hx]
theorem y_cv {s t : TypeId} {x : Operand} {k k' : IntKind} {m : Int} {v : Value} (h : ev L x = some (.int k m)) (hs : (P.underlying s).isSome = true) (ht : P.underlying t = some (.int k')) (hv : Value.int k' (k'.wrap m) = v) :
    Yld P ⟨d, .convert s t x, ty, pos, af, g⟩ L M v := by
  obtain ⟨ds, hs⟩ := Option.isSome_iff_exists.1 hs
  subst hv; exact y_convert h hs ht
end
end Go.Mc
