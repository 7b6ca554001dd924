/- A calculus of states over the model: known temporaries and what the memory holds. No condition. -/
import Derived.TacticsIn
import Derived.Sort.QuietThIn
import Derived.RowKit3
import Derived.Below
set_option linter.all false
namespace Go.Mc

/-! the fence that bars nothing, in a round or not -/
class Wide (F : Fence) : Prop where
  fn : ∀ f, F.fn f
  depth : F.depth = none
  alive : F.alive = false
instance : Wide Fence.wide := ⟨fun _ => trivial, rfl, rfl⟩
instance (l : Nat) : Wide (Fence.wide.inRound l) := ⟨fun _ => trivial, rfl, rfl⟩
theorem fenced_all {F : Fence} [Wide F] (P : Program) (m : Machine) : m.fenced P F := by
  intro g _
  refine ⟨fun h => ?_, .inl (Wide.fn _), fun f _ => Wide.fn f, fun _ h => ?_⟩
  · rw [Wide.alive] at h; cases h
  · rw [Wide.depth] at h; cases h
theorem room_all {F : Fence} [Wide F] (k : Nat) : F.room k := fun _ h => by rw [Wide.depth] at h; cases h
theorem callsIn_of_calls {F : Fence} [Wide F] {n : Nat} {P : Program} {f : FuncId} {args : Array Value} {w : World} {R : Ending → World → Prop} (h : Calls P f args w R) : CallsIn F n P f args w R := by
  refine ⟨Wide.fn f, fun cs _ => ?_⟩
  obtain ⟨e, w', fr, r, s, x⟩ := h cs
  refine ⟨e, w', fr, r, ?_, x⟩
  cases e with
  | returned v => exact (StepsIn.of_steps s).mono fun m _ => fenced_all P m
  | panicked c => exact (StepsIn.of_steps s).mono fun m _ => fenced_all P m
  | outgrown => exact s
theorem calls_of_callsIn {F : Fence} [Wide F] {n : Nat} {P : Program} {f : FuncId} {args : Array Value} {w : World} {R : Ending → World → Prop} (h : CallsIn F n P f args w R) : Calls P f args w R := h.calls room_all

/-! temporaries -/
def lk : List (Nat × Value) → Nat → Option Value
  | [], _ => none
  | (u, v) :: r, t => match Nat.beq u t with | true => some v | false => lk r t

def ev (L : List (Nat × Value)) : Operand → Option Value
  | .tmp t => lk L t
  | .const v => some v
  | .global g => some (.pointer (some ⟨g, 0, none⟩))
  | .func f => some (.func (.func f) #[] #[])

def evs (L : List (Nat × Value)) : List Operand → Option (List Value)
  | [] => some []
  | x :: r => match ev L x, evs L r with | some v, some vs => some (v :: vs) | _, _ => none

structure Agr (n : Nat) (L : List (Nat × Value)) (a : Act) : Prop where
  size : a.tmps.size = n
  at_ : ∀ t v, lk L t = some v → a.tmps[t]? = some v

theorem lk_cons_eq (u : Nat) (v : Value) (L) : lk ((u, v) :: L) u = some v := by
  simp [lk, Nat.beq_refl]
theorem lk_cons_ne {u t : Nat} (h : u ≠ t) (v : Value) (L) : lk ((u, v) :: L) t = lk L t := by
  have : Nat.beq u t = false := by
    cases hb : Nat.beq u t with
    | false => rfl
    | true => exact absurd (Nat.eq_of_beq_eq_true hb) h
  simp [lk, this]

theorem Agr.put {n d : Nat} {L : List (Nat × Value)} {a : Act} (h : Agr n L a) (hd : d < n) (v : Value) : Agr n ((d, v) :: L) (a.put (some d) v) := by
  refine ⟨by simp [Act.put, h.size], fun t u hu => ?_⟩
  by_cases e : d = t
  · subst e
    rw [lk_cons_eq] at hu
    injection hu with hu; subst hu
    simp [Act.put, h.size, hd]
  · rw [lk_cons_ne e] at hu
    have := h.at_ t u hu
    simp [Act.put, Array.getElem?_setIfInBounds_ne e, this]

theorem Agr.putNone {n : Nat} {L : List (Nat × Value)} {a : Act} (h : Agr n L a) (v : Value) : Agr n L (a.put none v) := h

def Ev (L : List (Nat × Value)) (ρ : Operand → Value) : Prop := ∀ x v, ev L x = some v → ρ x = v

theorem Agr.ev {n : Nat} {L : List (Nat × Value)} {a : Act} (h : Agr n L a) : Ev L a.eval := by
  intro x v hx
  cases x with
  | tmp t =>
    have := h.at_ t v hx
    simp [Act.eval, Array.getD_eq_getD_getElem?, this]
  | const u => simpa [Mc.ev, Act.eval] using hx
  | global g => simpa [Mc.ev, Act.eval] using hx
  | func f => simpa [Mc.ev, Act.eval] using hx

theorem Ev.evs {L : List (Nat × Value)} {ρ : Operand → Value} (h : Ev L ρ) : ∀ {xs : List Operand} {vs : List Value}, evs L xs = some vs → xs.map ρ = vs
  | [], vs, hv => by simp [Mc.evs] at hv; simp [hv]
  | x :: r, vs, hv => by
    simp only [Mc.evs] at hv
    split at hv
    · rename_i v us hx hr
      injection hv with hv; subst hv
      simp [h x v hx, h.evs hr]
    · cases hv

/-! the state -/
structure St (n : Nat) (L : List (Nat × Value)) (D : List Deferred) (M : World → Prop) (a : Act) (w : World) : Prop where
  agr : Agr n L a
  dfr : a.defers = D
  mem : M w

/-- a wall: what is behind it is not laid open by itself -/
structure Box (p : Prop) : Prop where
  out : p

def WL (F : Fence) (P : Program) (ops : Array Oper) (Q : Exit → Act → World → Prop) (n : Nat) (D : List Deferred) (l : List Oper) (L : List (Nat × Value)) (M : World → Prop) : Prop :=
  Box (∀ a w, St n L D M a w → wpListIn F 0 P ops Q l a w)

def WC (F : Fence) (P : Program) (Q : Exit → Act → World → Prop) (n : Nat) (D : List Deferred) (c : Code) (L : List (Nat × Value)) (M : World → Prop) : Prop :=
  Box (∀ a w, St n L D M a w → c.wpIn F 0 P Q a w)

/-- at a way out -/
def AQ (Q : Exit → Act → World → Prop) (e : Exit) (n : Nat) (D : List Deferred) (L : List (Nat × Value)) (M : World → Prop) : Prop :=
  Box (∀ a w, St n L D M a w → Q e a w)

section code
variable {F : Fence} {P : Program} {Q : Exit → Act → World → Prop} {n : Nat} {D : List Deferred} {L : List (Nat × Value)} {M : World → Prop}

theorem wc_seq {x y : Code} (h : WC F P (Exit.then (y.wpIn F 0 P Q) Q) n D x L M) : WC F P Q n D (.seq x y) L M := .mk fun a w s => wpIn_seq (h.out a w s)
theorem wc_skip (h : AQ Q .normal n D L M) : WC F P Q n D .skip L M := .mk fun a w s => wpIn_skip (h.out a w s)
theorem wc_label {l : Nat} (h : AQ Q .normal n D L M) : WC F P Q n D (.label l) L M := .mk fun a w s => wpIn_label (h.out a w s)
theorem wc_exit {id : Nat} (h : AQ Q (.exit id) n D L M) : WC F P Q n D (.exit id) L M := .mk fun a w s => wpIn_exit (h.out a w s)
theorem wc_goto {id : Nat} (h : AQ Q (.goto id) n D L M) : WC F P Q n D (.goto id) L M := .mk fun a w s => wpIn_goto (h.out a w s)
theorem wc_ret (h : AQ Q .ret n D L M) : WC F P Q n D .ret L M := .mk fun a w s => wpIn_ret (h.out a w s)
theorem wc_block {id : Nat} {c : Code} (h : WC F P (Exit.inBlock id Q) n D c L M) : WC F P Q n D (.block id c) L M := .mk fun a w s => wpIn_block (h.out a w s)
theorem wc_if {c : Operand} {x y : Code} {t : Bool} (hc : ev L c = some (.bool t)) (ht : t = true → WC F P Q n D x L M) (hf : t = false → WC F P Q n D y L M) :
    WC F P Q n D (.cond c x y) L M := .mk fun a w s => wpIn_cond_split (s.agr.ev c _ hc) (fun h => (ht h).out a w s) (fun h => (hf h).out a w s)
theorem wc_then {c : Operand} {x y : Code} (hc : ev L c = some (.bool true)) (h : WC F P Q n D x L M) : WC F P Q n D (.cond c x y) L M := .mk fun a w s => wpIn_cond_true (s.agr.ev c _ hc) (h.out a w s)
theorem wc_else {c : Operand} {x y : Code} (hc : ev L c = some (.bool false)) (h : WC F P Q n D y L M) : WC F P Q n D (.cond c x y) L M := .mk fun a w s => wpIn_cond_false (s.agr.ev c _ hc) (h.out a w s)
theorem wc_region {id : Nat} {l : List Oper} (h : WL F P l.toArray Q n D l L M) : WC F P Q n D (.region id l.toArray false) L M := .mk fun a w s => wpIn_region_lit (h.out a w s)

theorem wl_nil {ops : Array Oper} (h : AQ Q .normal n D L M) : WL F P ops Q n D [] L M := .mk fun a w s => h.out a w s

/-- another reading of the same state -/
theorem St.conv {L' : List (Nat × Value)} {M' : World → Prop} (hL : ∀ t v, lk L' t = some v → lk L t = some v) (hM : ∀ w, M w → M' w) {a : Act} {w : World} (s : St n L D M a w) : St n L' D M' a w :=
  ⟨⟨s.agr.size, fun t v h => s.agr.at_ t v (hL t v h)⟩, s.dfr, hM _ s.mem⟩

def Sub : List (Nat × Value) → List (Nat × Value) → Prop
  | [], _ => True
  | (t, v) :: r, L => lk L t = some v ∧ Sub r L

theorem Sub.lk {L' L : List (Nat × Value)} (h : Sub L' L) : ∀ t v, lk L' t = some v → lk L t = some v := by
  induction L' with
  | nil => intro t v hv; simp [Mc.lk] at hv
  | cons p r ih =>
    obtain ⟨u, x⟩ := p
    obtain ⟨h1, h2⟩ := h
    intro t v hv
    by_cases e : u = t
    · subst e
      rw [lk_cons_eq] at hv
      injection hv with hv; subst hv; exact h1
    · rw [lk_cons_ne e] at hv
      exact ih h2 t v hv

theorem wc_conv {L' : List (Nat × Value)} {M' : World → Prop} {c : Code} (hL : Sub L' L) (hM : ∀ w, M w → M' w) (h : WC F P Q n D c L' M') : WC F P Q n D c L M := .mk fun a w s => h.out a w (s.conv hL.lk hM)
theorem wl_conv {L' : List (Nat × Value)} {M' : World → Prop} {ops : Array Oper} {l : List Oper} (hL : Sub L' L) (hM : ∀ w, M w → M' w) (h : WL F P ops Q n D l L' M') : WL F P ops Q n D l L M := .mk fun a w s => h.out a w (s.conv hL.lk hM)
theorem aq_conv {L' : List (Nat × Value)} {M' : World → Prop} {e : Exit} (hL : Sub L' L) (hM : ∀ w, M w → M' w) (h : AQ Q e n D L' M') : AQ Q e n D L M := .mk fun a w s => h.out a w (s.conv hL.lk hM)
theorem wc_mem {M' : World → Prop} {c : Code} (hM : ∀ w, M w → M' w) (h : WC F P Q n D c L M') : WC F P Q n D c L M := .mk fun a w s => h.out a w ⟨s.agr, s.dfr, hM _ s.mem⟩
theorem wl_mem {M' : World → Prop} {ops : Array Oper} {l : List Oper} (hM : ∀ w, M w → M' w) (h : WL F P ops Q n D l L M') : WL F P ops Q n D l L M := .mk fun a w s => h.out a w ⟨s.agr, s.dfr, hM _ s.mem⟩
theorem aq_mem {M' : World → Prop} {e : Exit} (hM : ∀ w, M w → M' w) (h : AQ Q e n D L M') : AQ Q e n D L M := .mk fun a w s => h.out a w ⟨s.agr, s.dfr, hM _ s.mem⟩
theorem wc_tmps {L' : List (Nat × Value)} {c : Code} (hL : Sub L' L) (h : WC F P Q n D c L' M) : WC F P Q n D c L M := wc_conv hL (fun _ h => h) h
theorem wl_tmps {L' : List (Nat × Value)} {ops : Array Oper} {l : List Oper} (hL : Sub L' L) (h : WL F P ops Q n D l L' M) : WL F P ops Q n D l L M := wl_conv hL (fun _ h => h) h
/-- what the memory says, out -/
theorem wc_use {p : Prop} {c : Code} (hp : ∀ w, M w → p) (h : p → WC F P Q n D c L M) : WC F P Q n D c L M := .mk fun a w s => (h (hp _ s.mem)).out a w s
theorem wl_use {p : Prop} {ops : Array Oper} {l : List Oper} (hp : ∀ w, M w → p) (h : p → WL F P ops Q n D l L M) : WL F P ops Q n D l L M := .mk fun a w s => (h (hp _ s.mem)).out a w s
theorem aq_use {p : Prop} {e : Exit} (hp : ∀ w, M w → p) (h : p → AQ Q e n D L M) : AQ Q e n D L M := .mk fun a w s => (h (hp _ s.mem)).out a w s
theorem wc_ex {α : Sort _} {Mx : α → World → Prop} {c : Code} (hp : ∀ w, M w → ∃ x, Mx x w) (h : ∀ x, WC F P Q n D c L (Mx x)) : WC F P Q n D c L M := .mk fun a w s => let ⟨x, hx⟩ := hp _ s.mem; (h x).out a w ⟨s.agr, s.dfr, hx⟩
theorem wl_ex {α : Sort _} {Mx : α → World → Prop} {ops : Array Oper} {l : List Oper} (hp : ∀ w, M w → ∃ x, Mx x w) (h : ∀ x, WL F P ops Q n D l L (Mx x)) : WL F P ops Q n D l L M := .mk fun a w s => let ⟨x, hx⟩ := hp _ s.mem; (h x).out a w ⟨s.agr, s.dfr, hx⟩
theorem aq_ex {α : Sort _} {Mx : α → World → Prop} {e : Exit} (hp : ∀ w, M w → ∃ x, Mx x w) (h : ∀ x, AQ Q e n D L (Mx x)) : AQ Q e n D L M := .mk fun a w s => let ⟨x, hx⟩ := hp _ s.mem; (h x).out a w ⟨s.agr, s.dfr, hx⟩

/-! ways out -/
theorem aq_seq {y : Code} (h : WC F P Q n D y L M) : AQ (Exit.then (y.wpIn F 0 P Q) Q) .normal n D L M := h
theorem aq_thru_exit {K : Act → World → Prop} {id : Nat} (h : AQ Q (.exit id) n D L M) : AQ (Exit.then K Q) (.exit id) n D L M := h
theorem aq_thru_goto {K : Act → World → Prop} {id : Nat} (h : AQ Q (.goto id) n D L M) : AQ (Exit.then K Q) (.goto id) n D L M := h
theorem aq_thru_ret {K : Act → World → Prop} (h : AQ Q .ret n D L M) : AQ (Exit.then K Q) .ret n D L M := h
theorem aq_thru_panic {K : Act → World → Prop} {c} (h : AQ Q (.panic c) n D L M) : AQ (Exit.then K Q) (.panic c) n D L M := h
theorem aq_blk_normal {id : Nat} (h : AQ Q .normal n D L M) : AQ (Exit.inBlock id Q) .normal n D L M := h
theorem aq_blk_ret {id : Nat} (h : AQ Q .ret n D L M) : AQ (Exit.inBlock id Q) .ret n D L M := h
theorem aq_blk_goto {id l : Nat} (h : AQ Q (.goto l) n D L M) : AQ (Exit.inBlock id Q) (.goto l) n D L M := h
theorem aq_blk_panic {id : Nat} {c} (h : AQ Q (.panic c) n D L M) : AQ (Exit.inBlock id Q) (.panic c) n D L M := h
theorem aq_blk_exit {id : Nat} (h : AQ Q .normal n D L M) : AQ (Exit.inBlock id Q) (.exit id) n D L M := .mk fun a w s => by
  simp only [Exit.inBlock, if_true]; exact h.out a w s
theorem aq_blk_ne {id id' : Nat} (hne : id' ≠ id) (h : AQ Q (.exit id') n D L M) : AQ (Exit.inBlock id Q) (.exit id') n D L M := .mk fun a w s => by
  simp only [Exit.inBlock, hne, if_false]; exact h.out a w s

/-! a loop -/
def LoopEnd {γ : Type} (n : Nat) (D : List Deferred) (Lf : γ → List (Nat × Value)) (Mf : γ → World → Prop) (ok : γ → Prop) (μ : γ → Nat) (g : γ) (a : Act) (w : World) : Prop :=
  ∃ g', ok g' ∧ μ g' < μ g ∧ St n (Lf g') D (Mf g') a w

theorem wc_loop {γ : Type} (Lf : γ → List (Nat × Value)) (Mf : γ → World → Prop) (ok : γ → Prop) (μ : γ → Nat) {c : Code} (g₀ : γ) (h₀ : ok g₀) (hL : Sub (Lf g₀) L) (hM : ∀ w, M w → Mf g₀ w)
    (round : ∀ g, ok g → WC F P (Exit.then (LoopEnd n D Lf Mf ok μ g) Q) n D c (Lf g) (Mf g)) : WC F P Q n D (.loop c) L M := by
  refine .mk fun a w s b k cs hro hb hr => ?_
  have key : ∀ j g a w, μ g = j → ok g → St n (Lf g) D (Mf g) a w →
      ∃ e a' w', Q e a' w' ∧ ArrivesIn (Machine.fenced P F) P (lone (b.atR a (.code c :: .inLoop c :: k)) cs w) b k cs e a' w' := by
    intro j
    induction j using Nat.strongRecOn with
    | _ j ih =>
      intro g a w hj hg s
      obtain ⟨e, a₁, w₁, hq, harr⟩ := (round g hg).out a w s b (.inLoop c :: k) cs hro hb hr
      cases e with
      | normal =>
        obtain ⟨g', hok, hlt, s'⟩ := hq
        obtain ⟨e₂, a₂, w₂, hq₂, harr₂⟩ := ih (μ g') (hj ▸ hlt) g' a₁ w₁ rfl hok s'
        exact ⟨e₂, a₂, w₂, hq₂, .of_steps (StepsIn.trans harr (.one (fenced_calm hb hr rfl) stepR_inLoop)) harr₂⟩
      | exit id => exact ⟨_, a₁, w₁, hq, .pass (x := .inLoop c) rfl (fun _ _ => .inl (by simp)) harr⟩
      | goto l => exact ⟨_, a₁, w₁, hq, .pass (x := .inLoop c) rfl (fun _ _ => .inl (by simp)) harr⟩
      | ret => exact ⟨_, a₁, w₁, hq, .pass (x := .inLoop c) rfl (fun _ _ => .inl (by simp)) harr⟩
      | panic ch => exact ⟨_, a₁, w₁, hq, .pass (x := .inLoop c) rfl (fun _ _ => .inl (by simp)) harr⟩
      | outgrown => exact ⟨_, a₁, w₁, hq, .pass (x := .inLoop c) rfl (fun _ _ => .inl (by simp)) harr⟩
  obtain ⟨e, a', w', hq, harr⟩ := key _ g₀ a w rfl h₀ (s.conv hL.lk hM)
  exact ⟨e, a', w', hq, .of_steps (.one (fenced_calm hb hr rfl) stepR_loop) harr⟩

theorem aq_loop {γ : Type} {Lf : γ → List (Nat × Value)} {Mf : γ → World → Prop} {ok : γ → Prop} {μ : γ → Nat} {g : γ} (g' : γ) (h : ok g') (hlt : μ g' < μ g) (hL : Sub (Lf g') L) (hM : ∀ w, M w → Mf g' w) :
    AQ (Exit.then (LoopEnd n D Lf Mf ok μ g) Q) .normal n D L M := .mk fun _ _ s => ⟨g', h, hlt, s.conv hL.lk hM⟩
/-- the round's end in whatever world -/
theorem aq_loop' {γ : Type} {Lf : γ → List (Nat × Value)} {Mf : γ → World → Prop} {ok : γ → Prop} {μ : γ → Nat} {g : γ} (h : ∀ w, M w → ∃ g', ok g' ∧ μ g' < μ g ∧ Sub (Lf g') L ∧ Mf g' w) :
    AQ (Exit.then (LoopEnd n D Lf Mf ok μ g) Q) .normal n D L M := .mk fun _ w s => let ⟨g', h1, h2, h3, h4⟩ := h w s.mem; ⟨g', h1, h2, s.conv h3.lk (fun _ _ => h4) |>.agr, s.dfr, h4⟩
end code

/-! a function's body -/
def ArgsAt (args : Array Value) : List (Nat × Value) → Prop
  | [] => True
  | (t, v) :: r => args[t]? = some v ∧ ArgsAt args r

theorem agr_enter {args : Array Value} {m : Nat} {L : List (Nat × Value)} (h : ArgsAt args L) (hle : args.size ≤ m) :
    Agr m L { tmps := args ++ Array.replicate (m - args.size) undef, defers := [] } := by
  refine ⟨by simp; omega, ?_⟩
  induction L with
  | nil => intro t v hv; simp [lk] at hv
  | cons p r ih =>
    obtain ⟨u, x⟩ := p
    obtain ⟨h1, h2⟩ := h
    intro t v hv
    by_cases e : u = t
    · subst e
      rw [lk_cons_eq] at hv
      injection hv with hv; subst hv
      have hlt : u < args.size := (Array.getElem?_eq_some_iff.1 h1).1
      show (args ++ _)[u]? = _
      rw [Array.getElem?_append_left hlt]; exact h1
    · rw [lk_cons_ne e] at hv
      exact ih h2 t v hv

theorem calls_of {P : Program} {f : FuncId} {fn : Func} {c : Code} {args : Array Value} {w : World} {R : Ending → World → Prop} {L : List (Nat × Value)} {M : World → Prop} {m : Nat}
    (hf : P.funcs[f]? = some fn) (hb : fn.body = some c) (hm : fn.ntmps = m) (hL : ArgsAt args L) (hle : args.size ≤ m) (hM : M w)
    (h : WC Fence.wide P (bodyPost P fn R) m [] c L M) : Calls P f args w R := by
  refine (callsIn_wide (n := 0)).1 (callsIn_of_wp hf hb trivial (h.out _ _ ⟨?_, rfl, hM⟩) rfl)
  subst hm
  exact agr_enter hL hle

/-- the results -/
def ResM (P : Program) (L : List (Nat × Value)) (M : World → Prop) : List ResultVar → List Value → Prop
  | [], vs => vs = []
  | .tmp t :: r, vs => ∃ v us, lk L t = some v ∧ vs = v :: us ∧ ResM P L M r us
  | .cell t ty :: r, vs => ∃ v us a, lk L t = some (.pointer (some a)) ∧ (∀ w, M w → (loadVar ty a).run P w = .ok v w) ∧ vs = v :: us ∧ ResM P L M r us

def tup : List Value → Value
  | [v] => v
  | vs => .tuple vs.toArray

theorem run_results {P : Program} {fn : Func} {L : List (Nat × Value)} {M : World → Prop} {n : Nat} {a : Act} {w : World} {rs : List ResultVar} {vs : List Value} (hr : fn.results = rs.toArray) (ha : Agr n L a) (hm : M w) (h : ResM P L M rs vs) :
    (results fn a.tmps).run P w = .ok (tup vs) w := by
  have key : ∀ (rs : List ResultVar) (vs : List Value), ResM P L M rs vs →
      (rs.mapM (m := Sem) fun | .tmp t => pure (a.tmps.getD t undef) | .cell b t => do loadVar t (← asAddr (a.tmps.getD b undef))).run P w = .ok vs w := by
    intro rs
    induction rs with
    | nil => intro vs h; simp [ResM] at h; subst h; rfl
    | cons r rs ih =>
      intro vs h
      cases r with
      | cell b t =>
        obtain ⟨v, us, ad, hv, hl, rfl, hus⟩ := h
        have e : a.tmps.getD b undef = .pointer (some ad) := by simp [Array.getD_eq_getD_getElem?, ha.at_ b _ hv]
        have e2 : (do loadVar t (← asAddr (a.tmps.getD b undef)) : Sem Value).run P w = .ok v w := by rw [e]; exact hl w hm
        rw [List.mapM_cons, Sem.run_bind]
        dsimp only
        rw [e2]
        simp only [Sem.run_bind, Sem.run_pure, Result.andThen_ok, ih us hus]
      | tmp t =>
        obtain ⟨v, us, hv, rfl, hus⟩ := h
        have e : a.tmps.getD t undef = v := by simp [Array.getD_eq_getD_getElem?, ha.at_ t v hv]
        rw [List.mapM_cons]
        simp only [Sem.run_bind, e, Sem.run_pure, Result.andThen_ok, ih us hus]
  unfold results
  rw [hr, List.mapM_toArray]
  simp only [Sem.run_bind, Sem.run_map]
  erw [key rs vs h]
  match vs with
  | [] => rfl
  | [v] => rfl
  | v :: u :: r => simp [Result.andThen, Sem.run_pure, tup]

section
variable {P : Program} {n : Nat} {L : List (Nat × Value)} {M : World → Prop}
theorem aq_return {fn : Func} {R : Ending → World → Prop} {rs : List ResultVar} {vs : List Value} {e : Exit} (he : e = .ret ∨ e = .normal) (hr : fn.results = rs.toArray) (h : ResM P L M rs vs) (hR : ∀ w, M w → R (.returned (tup vs)) w) :
    AQ (bodyPost P fn R) e n [] L M := .mk fun a w s => by
  rcases he with rfl | rfl
  · exact ⟨s.dfr, _, run_results hr s.agr s.mem h, hR w s.mem⟩
  · exact ⟨s.dfr, _, run_results hr s.agr s.mem h, hR w s.mem⟩
theorem aq_panicked {fn : Func} {R : Ending → World → Prop} {c} (hR : ∀ w, M w → R (.panicked c) w) : AQ (bodyPost P fn R) (.panic c) n [] L M := .mk fun _ w s => ⟨s.dfr, hR w s.mem⟩
end

/-! a meeting point between two pieces of code -/
def MidEnd {γ : Type} (n : Nat) (D : List Deferred) (Lf : γ → List (Nat × Value)) (Mf : γ → World → Prop) (ok : γ → Prop) (a : Act) (w : World) : Prop :=
  ∃ g, ok g ∧ St n (Lf g) D (Mf g) a w
theorem wc_mid {F : Fence} {P : Program} {Q : Exit → Act → World → Prop} {n : Nat} {D : List Deferred} {L : List (Nat × Value)} {M : World → Prop} {γ : Type} (Lf : γ → List (Nat × Value)) (Mf : γ → World → Prop) (ok : γ → Prop) {x y : Code}
    (hx : WC F P (Exit.then (MidEnd n D Lf Mf ok) Q) n D x L M) (hy : ∀ g, ok g → WC F P Q n D y (Lf g) (Mf g)) : WC F P Q n D (.seq x y) L M := .mk fun a w s => wpIn_seq (wpIn_mono (hx.out a w s) fun e a w q => by
    cases e with
    | normal => obtain ⟨g, hg, s'⟩ := q; exact (hy g hg).out a w s'
    | _ => exact q)
theorem aq_mid {Q : Exit → Act → World → Prop} {n : Nat} {D : List Deferred} {L : List (Nat × Value)} {M : World → Prop} {γ : Type} {Lf : γ → List (Nat × Value)} {Mf : γ → World → Prop} {ok : γ → Prop} (g : γ) (h : ok g) (hL : Sub (Lf g) L) (hM : ∀ w, M w → Mf g w) :
    AQ (Exit.then (MidEnd n D Lf Mf ok) Q) .normal n D L M := .mk fun _ _ s => ⟨g, h, s.conv hL.lk hM⟩
theorem wc_then' {F : Fence} {P : Program} {Q : Exit → Act → World → Prop} {n : Nat} {D : List Deferred} {L : List (Nat × Value)} {M : World → Prop} {c : Operand} {x y : Code} {t : Bool} (hc : ev L c = some (.bool t)) (ht : t = true) (h : WC F P Q n D x L M) : WC F P Q n D (.cond c x y) L M :=
  wc_then (by rw [hc, ht]) h
theorem wc_else' {F : Fence} {P : Program} {Q : Exit → Act → World → Prop} {n : Nat} {D : List Deferred} {L : List (Nat × Value)} {M : World → Prop} {c : Operand} {x y : Code} {t : Bool} (hc : ev L c = some (.bool t)) (ht : t = false) (h : WC F P Q n D y L M) : WC F P Q n D (.cond c x y) L M :=
  wc_else (by rw [hc, ht]) h
end Go.Mc
